/- Plain functions, and that the Go code computes them: written by a program of this session over the seat's translation; the conditions stand in each theorem. -/
import Derived.Test.YtopbdoilpdpkmaaQFnFrmTimesx0
import Derived.Test.YtopbdoilpdpkmaaQFnFrmTimesx1
import Derived.Test.YtopbdoilpdpkmaaQFnFrmTimesx3
import Derived.Test.YtopbdoilpdpkmaaQFnFrmTimesx4
namespace Go.Proofs.Ytopbdoilpdpkmaa.QFnFrmTimes
open Go.RowKit Go.Proofs.YtopbdoilpdpkmaaW.PrintWords Go.Proofs.YtopbdoilpdpkmaaW.PrintLast Go.Proofs.YtopbdoilpdpkmaaW.PrintMore Go.Proofs.Ytopbdoilpdpkmaa.HWords
attribute [local go_sem] max2_int min2_int max_two min_two max_three min_three max_four min_four   -- for this text's walks alone
set_option linter.unusedVariables false
set_option linter.unusedSimpArgs false

/-! ### impl_ValOk: function 33 -/
def impl_ValOk.f (l0 : List Int) : Option (Bool) := (impl_within.f l0 3 10000).bind fun t276 => (some t276)
set_option maxHeartbeats 8000000 in
set_option maxRecDepth 100000 in
theorem impl_ValOk.calls (A0 : Option Addr) (c0 : Nat) (l0 : List Int) (r : Bool) (w : World) (hr0 : Kd.C (Kd.int .i64) w A0 l0.length l0) (hc0 : l0.length ≤ c0) (h : impl_ValOk.f l0 = some r) :
  Calls Try.prog 33 #[.slice A0 l0.length c0] w fun e w' => e = .returned (.bool r) ∧ Below w.heap.size w w' := by
 have HR0 := Aside0.mk hr0
 have HC0 := Aside0.mk hc0
 clear hr0 hc0
 have HB := Aside0.mk (Below.refl w.heap.size w)
 have H : ((impl_within.f l0 3 10000).bind fun t276 => (some t276)) = some r := h
 clear h
 replace H := Option.bind_eq_some_iff.mp H
 obtain ⟨t276, A20, H⟩ := H
 replace H : (some t276) = some r := H
 have A2 := Aside0.mk A20
 clear A20
 obtain rfl := Option.some.inj H
 go_enter Try.func33, Try.ntmps33
 go_wp2_with (first | ((with_reducible refine gate_callee (f := 32) rfl ?_); refine goesL_ (some 4) rfl rfl Try.func32 (by kernel_rfl) rfl #[.slice A0 l0.length c0, .int .i64 3, .int .i64 10000] rfl (by (try simp only [mA, mC, mN]); first | done | rfl | (simp only [ld, lt]; rfl)) ?_; (with_reducible refine (impl_within.calls _ _ l0 3 10000 t276 _ ?side1 ?side2 A2.out).mono ?_); (case side1 => exact lC HR0.out); (case side2 => exact HC0.out); rintro e w3 ⟨rfl, hb⟩; refine ⟨_, rfl, ?_⟩; replace HB := Aside0.mk (below_step (by exact lB HB.out) hb); (try clear hb); (try clear hb2); (try clear hk); (try clear hi)))
 go_ret
 exact ⟨by first | rfl | (simp [errW_none, errW_some] <;> rfl) | (simp [*, errW_none, errW_some] <;> rfl), by exact lB HB.out⟩

/-! ### impl_ArgOk: function 34 -/
def impl_ArgOk.f (l0 : List Int) : Option (Bool) := (impl_within.f l0 2 9).bind fun t277 => (some t277)
set_option maxHeartbeats 8000000 in
set_option maxRecDepth 100000 in
theorem impl_ArgOk.calls (A0 : Option Addr) (c0 : Nat) (l0 : List Int) (r : Bool) (w : World) (hr0 : Kd.C (Kd.int .i64) w A0 l0.length l0) (hc0 : l0.length ≤ c0) (h : impl_ArgOk.f l0 = some r) :
  Calls Try.prog 34 #[.slice A0 l0.length c0] w fun e w' => e = .returned (.bool r) ∧ Below w.heap.size w w' := by
 have HR0 := Aside0.mk hr0
 have HC0 := Aside0.mk hc0
 clear hr0 hc0
 have HB := Aside0.mk (Below.refl w.heap.size w)
 have H : ((impl_within.f l0 2 9).bind fun t277 => (some t277)) = some r := h
 clear h
 replace H := Option.bind_eq_some_iff.mp H
 obtain ⟨t277, A20, H⟩ := H
 replace H : (some t277) = some r := H
 have A2 := Aside0.mk A20
 clear A20
 obtain rfl := Option.some.inj H
 go_enter Try.func34, Try.ntmps34
 go_wp2_with (first | ((with_reducible refine gate_callee (f := 32) rfl ?_); refine goesL_ (some 4) rfl rfl Try.func32 (by kernel_rfl) rfl #[.slice A0 l0.length c0, .int .i64 2, .int .i64 9] rfl (by (try simp only [mA, mC, mN]); first | done | rfl | (simp only [ld, lt]; rfl)) ?_; (with_reducible refine (impl_within.calls _ _ l0 2 9 t277 _ ?side1 ?side2 A2.out).mono ?_); (case side1 => exact lC HR0.out); (case side2 => exact HC0.out); rintro e w3 ⟨rfl, hb⟩; refine ⟨_, rfl, ?_⟩; replace HB := Aside0.mk (below_step (by exact lB HB.out) hb); (try clear hb); (try clear hb2); (try clear hk); (try clear hi)))
 go_ret
 exact ⟨by first | rfl | (simp [errW_none, errW_some] <;> rfl) | (simp [*, errW_none, errW_some] <;> rfl), by exact lB HB.out⟩

/-! ### impl_dot: function 43 -/
def impl_dot.l0 : Nat → List Int → Int → List Int → Int → Int → Option (Int)
 | 0, _, _, _, _, _ => none
 | k + 1, x1, x5, x8, x9, x10 => if x10 < x9 then (if 0 ≤ x10 then (if x10 < (x8.length : Int) then (if x10 < (x1.length : Int) then (impl_dot.l0 k x1 (wrap64 (x5 + (wrap64 ((rd x8 x10) * (rd x1 x10))))) x8 x9 (wrap64 (x10 + 1))) else (none)) else (none)) else (none)) else (some x5)
def impl_dot.f (k : Nat) (l0 : List Int) (l1 : List Int) : Option (Int) := impl_dot.l0 k l1 0 l0 (l0.length : Int) 0
theorem impl_dot.mono_l : ∀ k, (∀ y0 y1 y2 y3 y4, LeO (impl_dot.l0 k y0 y1 y2 y3 y4) (impl_dot.l0 (k + 1) y0 y1 y2 y3 y4))
 | 0 => fun _ _ _ _ _ r h => by simp [impl_dot.l0] at h
 | k + 1 => by
  have ih0 := impl_dot.mono_l k
  ·intro y0 y1 y2 y3 y4
   unfold impl_dot.l0
   repeat' first
   | (with_reducible exact ih0 _ _ _ _ _)
   | (with_reducible exact LeO.refl _)
   | (with_reducible exact LeO.none _)
   | (with_reducible refine LeO.ite ?_ ?_)
   | (with_reducible refine LeO.bind ?_ (fun _ => ?_))
   | exact ih0 _ _ _ _ _
   | exact LeO.none _
   | refine LeO.ite ?_ ?_
   | refine LeO.bind ?_ (fun _ => ?_)
theorem impl_dot.mono : ∀ a0 a1 k, LeO (impl_dot.f k a0 a1) (impl_dot.f (k + 1) a0 a1) := by
 intro a0 a1 k
 have ih0 := impl_dot.mono_l k
 unfold impl_dot.f
 repeat' first
   | (with_reducible exact ih0 _ _ _ _ _)
   | (with_reducible exact LeO.refl _)
   | (with_reducible exact LeO.none _)
   | (with_reducible refine LeO.ite ?_ ?_)
   | (with_reducible refine LeO.bind ?_ (fun _ => ?_))
   | exact ih0 _ _ _ _ _
   | exact LeO.none _
   | refine LeO.ite ?_ ?_
   | refine LeO.bind ?_ (fun _ => ?_)
set_option maxHeartbeats 8000000 in
set_option maxRecDepth 100000 in
theorem impl_dot.calls (k : Nat) (A0 : Option Addr) (c0 : Nat) (l0 : List Int) (A1 : Option Addr) (c1 : Nat) (l1 : List Int) (r : Int) (w : World) (hr0 : Kd.C (Kd.int .i64) w A0 l0.length l0) (hc0 : l0.length ≤ c0) (hr1 : Kd.C (Kd.int .i64) w A1 l1.length l1) (hc1 : l1.length ≤ c1) (h : impl_dot.f k l0 l1 = some r) :
  Calls Try.prog 43 #[.slice A0 l0.length c0, .slice A1 l1.length c1] w fun e w' => e = .returned (.int .i64 r) ∧ Drawn0 w w' := by
 have HR0 := Aside0.mk hr0
 have HC0 := Aside0.mk hc0
 clear hr0 hc0
 have HR1 := Aside0.mk hr1
 have HC1 := Aside0.mk hc1
 clear hr1 hc1
 have H : (impl_dot.l0 k l1 0 l0 (l0.length : Int) 0) = some r := h
 clear h
 have H' := Aside0.mk H
 clear H
 go_enter Try.func43, Try.ntmps43
 go_wp2
 go_loopg [5, 10] k (fun kq v5 v10 w' => ∃ (x5_1 : Int) (x10_1 : Int), v5 = .int .i64 x5_1 ∧ v10 = .int .i64 x10_1 ∧ Aside0 (impl_dot.l0 kq l1 x5_1 l0 (l0.length : Int) x10_1 = some r) ∧ Aside0 (kq ≤ k) ∧ Drawn0 w w')
 case atStart => exact ⟨(0), (0), (by first | rfl | (simp; done) | (simp [*]; done)), (by first | rfl | (simp; done) | (simp [*]; done)), H', ⟨Nat.le_refl _⟩, by repeat (first | exact Drawn0.refl _ | apply Drawn0.step)⟩
 case round =>
  clear H'
  try clear c1
  try clear p2
  obtain ⟨x5_1, x10_1, rfl, rfl, HA, HK1, ⟨m1, rfl⟩⟩ := hrel
  cases gk with
  | zero => exact absurd HA.out (by simp [impl_dot.l0])
  | succ k1 =>
   have H := HA.out
   clear HA
   simp only [impl_dot.l0] at H
   by_cases c3 : x10_1 < (l0.length : Int)
   ·rw [if_pos c3] at H
    have c3b0 : decide (x10_1 < (l0.length : Int)) = true := decide_eq_true c3
    clear c3
    by_cases c4 : 0 ≤ x10_1
    ·rw [if_pos c4] at H
     have c4b0 : decide (0 ≤ x10_1) = true := decide_eq_true c4
     clear c4
     by_cases c5 : x10_1 < (l0.length : Int)
     ·rw [if_pos c5] at H
      have c5b0 : decide (x10_1 < (l0.length : Int)) = true := decide_eq_true c5
      clear c5
      by_cases c6 : x10_1 < (l1.length : Int)
      ·rw [if_pos c6] at H
       have c6b0 : decide (x10_1 < (l1.length : Int)) = true := decide_eq_true c6
       clear c6
       have H' := Aside0.mk H
       clear H
       have p278 : 0 ≤ (x10_1 : Int) := of_decide_eq_true (by first | (with_reducible assumption) | assumption)
       have q278 : x10_1 < (l0.length : Int) := of_decide_eq_true (by first | (with_reducible assumption) | assumption)
       obtain ⟨ad278, e278, hx278_0⟩ := Kd.at_int HR0.out x10_1 p278 q278
       cases e278
       replace p278 := eq_true p278
       replace q278 := eq_true q278
       have p279 : 0 ≤ (x10_1 : Int) := of_decide_eq_true (by first | (with_reducible assumption) | assumption)
       have q279 : x10_1 < (l1.length : Int) := of_decide_eq_true (by first | (with_reducible assumption) | assumption)
       obtain ⟨ad279, e279, hx279_0⟩ := Kd.at_int HR1.out x10_1 p279 q279
       cases e279
       replace p279 := eq_true p279
       replace q279 := eq_true q279
       go_wp2
       go_roundg k1
       case measure => have := HK1.out; omega
       case rel => exact ⟨(wrap64 (x5_1 + (wrap64 ((rd l0 x10_1) * (rd l1 x10_1))))), (wrap64 (x10_1 + 1)), (by first | rfl | (simp; done) | (simp [*]; done)), (by first | rfl | (simp; done) | (simp [*]; done)), H', ⟨by have := HK1.out; omega⟩, by repeat (first | exact Drawn0.refl _ | apply Drawn0.step)⟩
      ·rw [if_neg c6] at H
       exact absurd H (by simp)
     ·rw [if_neg c5] at H
      exact absurd H (by simp)
    ·rw [if_neg c4] at H
     exact absurd H (by simp)
   ·rw [if_neg c3] at H
    have c3b0 : decide (x10_1 < (l0.length : Int)) = false := decide_eq_false c3
    clear c3
    obtain rfl := Option.some.inj H
    go_wp2
    go_ret
    exact ⟨by first | rfl | (simp; done) | (simp [*]; done), by repeat (first | exact Drawn0.refl _ | apply Drawn0.step)⟩

/-! ### impl_FrmForm_at: function 35 -/
def impl_FrmForm_at.f (k : Nat) (l0_0 : List Int) (l0_1 : List Int) (a0_2 : Int) (l1 : List Int) (l2 : List Int) : Option (Int) := (impl_dot.f k l0_0 l1).bind fun t281 => ((impl_dot.f k l0_1 l2).bind fun t282 => (some (wrap64 ((wrap64 (t281 + t282)) + a0_2))))
theorem impl_FrmForm_at.mono : ∀ a0 a1 a2 a3 a4 k, LeO (impl_FrmForm_at.f k a0 a1 a2 a3 a4) (impl_FrmForm_at.f (k + 1) a0 a1 a2 a3 a4) := by
 intro a0 a1 a2 a3 a4 k
 unfold impl_FrmForm_at.f
 repeat' first
   | (with_reducible exact impl_dot.mono _ _ _)
   | (with_reducible exact LeO.refl _)
   | (with_reducible exact LeO.none _)
   | (with_reducible refine LeO.ite ?_ ?_)
   | (with_reducible refine LeO.bind ?_ (fun _ => ?_))
   | exact impl_dot.mono _ _ _
   | exact LeO.none _
   | refine LeO.ite ?_ ?_
   | refine LeO.bind ?_ (fun _ => ?_)
set_option maxHeartbeats 8000000 in
set_option maxRecDepth 100000 in
theorem impl_FrmForm_at.calls (k : Nat) (A0_0 : Option Addr) (c0_0 : Nat) (l0_0 : List Int) (A0_1 : Option Addr) (c0_1 : Nat) (l0_1 : List Int) (a0_2 : Int) (A1 : Option Addr) (c1 : Nat) (l1 : List Int) (A2 : Option Addr) (c2 : Nat) (l2 : List Int) (r : Int) (w : World) (hr0_0 : Kd.C (Kd.int .i64) w A0_0 l0_0.length l0_0) (hc0_0 : l0_0.length ≤ c0_0) (hr0_1 : Kd.C (Kd.int .i64) w A0_1 l0_1.length l0_1) (hc0_1 : l0_1.length ≤ c0_1) (hr1 : Kd.C (Kd.int .i64) w A1 l1.length l1) (hc1 : l1.length ≤ c1) (hr2 : Kd.C (Kd.int .i64) w A2 l2.length l2) (hc2 : l2.length ≤ c2) (h : impl_FrmForm_at.f k l0_0 l0_1 a0_2 l1 l2 = some r) :
  Calls Try.prog 35 #[.agg #[.slice A0_0 l0_0.length c0_0, .slice A0_1 l0_1.length c0_1, .int .i64 a0_2], .slice A1 l1.length c1, .slice A2 l2.length c2] w fun e w' => e = .returned (.int .i64 r) ∧ Below w.heap.size w w' := by
 have hu25 := Try.underlying25
 have HR0_0 := Aside0.mk hr0_0
 have HC0_0 := Aside0.mk hc0_0
 clear hr0_0 hc0_0
 have HR0_1 := Aside0.mk hr0_1
 have HC0_1 := Aside0.mk hc0_1
 clear hr0_1 hc0_1
 have HR1 := Aside0.mk hr1
 have HC1 := Aside0.mk hc1
 clear hr1 hc1
 have HR2 := Aside0.mk hr2
 have HC2 := Aside0.mk hc2
 clear hr2 hc2
 have HB := Aside0.mk (Below.refl w.heap.size w)
 have H : ((impl_dot.f k l0_0 l1).bind fun t281 => ((impl_dot.f k l0_1 l2).bind fun t282 => (some (wrap64 ((wrap64 (t281 + t282)) + a0_2))))) = some r := h
 clear h
 replace H := Option.bind_eq_some_iff.mp H
 obtain ⟨t281, A40, H⟩ := H
 replace H : ((impl_dot.f k l0_1 l2).bind fun t282 => (some (wrap64 ((wrap64 (t281 + t282)) + a0_2)))) = some r := H
 have A4 := Aside0.mk A40
 clear A40
 replace H := Option.bind_eq_some_iff.mp H
 obtain ⟨t282, A50, H⟩ := H
 replace H : (some (wrap64 ((wrap64 (t281 + t282)) + a0_2))) = some r := H
 have A5 := Aside0.mk A50
 clear A50
 obtain rfl := Option.some.inj H
 go_enter Try.func35, Try.ntmps35
 go_wp2_with (first | ((with_reducible refine gate_dst (N := 3) rfl ?_); refine box_event ?hg (N := 3) ?hd (cs := #[.slice A0_0 l0_0.length c0_0, .slice A0_1 l0_1.length c0_1, .int .i64 a0_2]) (t := 25) ?hr ?_; (case hd => rfl); (case hg => rfl); (case hr => first | (go_simp; done) | (go_simp; rfl)); intro gb280 hg w6 hbox hb; have BK280 := Aside0.mk (hbox); have GW280 := Aside0.mk ((by rw [hg]; exact (below_size (by exact lB HB.out)) : w.heap.size ≤ gb280)); have IGW280 : Nonempty _ := ⟨GW280.out⟩; have GE280 := Aside0.mk ((by rw [hg]; exact (below_size (by exact lB HB.out)) : w.heap.size ≤ gb280)); have IGE280 : Nonempty _ := ⟨GE280.out⟩; replace HB := Aside0.mk (below_step (by exact lB HB.out) hb); clear hb hbox hg; obtain ⟨hcz7_0, hcz7_1, hcz7_2, hfz7_0, hfz7_1, hfz7_2⟩ := cf3 BK280.out) | (go_at_call 43; (with_reducible refine (impl_dot.calls k _ _ l0_0 _ _ l1 t281 _ ?side1 ?side2 ?side3 ?side4 A4.out).mono ?_); (case side1 => exact lC <| (Kd.C_below HR0_0.out HB.out)); (case side2 => exact HC0_0.out); (case side3 => exact lC <| (Kd.C_below HR1.out HB.out)); (case side4 => exact HC1.out); rintro e w' ⟨rfl, ⟨nd, rfl⟩⟩; (try first | exact ⟨rfl, _, World.drewN_drewN _ _ _⟩ | exact ⟨rfl, _, Eq.trans (World.drewN_drewN _ _ _) (congrArg (World.drewN _) (Nat.add_assoc _ _ _))⟩)) | (go_at_call 43; (with_reducible refine (impl_dot.calls k _ _ l0_1 _ _ l2 t282 _ ?side1 ?side2 ?side3 ?side4 A5.out).mono ?_); (case side1 => repeat (first | exact (Kd.C_below HR0_1.out (by exact jB HB.out)) | (with_reducible refine Kd.C_alloc ?_ _) | (with_reducible refine Kd.C_drewN ?_ _) | (with_reducible refine Kd.C_drew ?_))); (case side2 => exact HC0_1.out); (case side3 => repeat (first | exact (Kd.C_below HR2.out (by exact jB HB.out)) | (with_reducible refine Kd.C_alloc ?_ _) | (with_reducible refine Kd.C_drewN ?_ _) | (with_reducible refine Kd.C_drew ?_))); (case side4 => exact HC2.out); rintro e w' ⟨rfl, ⟨nd, rfl⟩⟩; (try first | exact ⟨rfl, _, World.drewN_drewN _ _ _⟩ | exact ⟨rfl, _, Eq.trans (World.drewN_drewN _ _ _) (congrArg (World.drewN _) (Nat.add_assoc _ _ _))⟩)))
 repeat (go_quiet (first | ((with_reducible refine gate_dst (N := 3) rfl ?_); refine box_event ?hg (N := 3) ?hd (cs := #[.slice A0_0 l0_0.length c0_0, .slice A0_1 l0_1.length c0_1, .int .i64 a0_2]) (t := 25) ?hr ?_; (case hd => rfl); (case hg => rfl); (case hr => first | (go_simp; done) | (go_simp; rfl)); intro gb280 hg w6 hbox hb; have BK280 := Aside0.mk (hbox); have GW280 := Aside0.mk ((by rw [hg]; exact (below_size (by exact lB HB.out)) : w.heap.size ≤ gb280)); have IGW280 : Nonempty _ := ⟨GW280.out⟩; have GE280 := Aside0.mk ((by rw [hg]; exact (below_size (by exact lB HB.out)) : w.heap.size ≤ gb280)); have IGE280 : Nonempty _ := ⟨GE280.out⟩; replace HB := Aside0.mk (below_step (by exact lB HB.out) hb); clear hb hbox hg; obtain ⟨hcz7_0, hcz7_1, hcz7_2, hfz7_0, hfz7_1, hfz7_2⟩ := cf3 BK280.out) | (go_at_call 43; (with_reducible refine (impl_dot.calls k _ _ l0_0 _ _ l1 t281 _ ?side1 ?side2 ?side3 ?side4 A4.out).mono ?_); (case side1 => exact lC <| (Kd.C_below HR0_0.out HB.out)); (case side2 => exact HC0_0.out); (case side3 => exact lC <| (Kd.C_below HR1.out HB.out)); (case side4 => exact HC1.out); rintro e w' ⟨rfl, ⟨nd, rfl⟩⟩; (try first | exact ⟨rfl, _, World.drewN_drewN _ _ _⟩ | exact ⟨rfl, _, Eq.trans (World.drewN_drewN _ _ _) (congrArg (World.drewN _) (Nat.add_assoc _ _ _))⟩)) | (go_at_call 43; (with_reducible refine (impl_dot.calls k _ _ l0_1 _ _ l2 t282 _ ?side1 ?side2 ?side3 ?side4 A5.out).mono ?_); (case side1 => repeat (first | exact (Kd.C_below HR0_1.out (by exact jB HB.out)) | (with_reducible refine Kd.C_alloc ?_ _) | (with_reducible refine Kd.C_drewN ?_ _) | (with_reducible refine Kd.C_drew ?_))); (case side2 => exact HC0_1.out); (case side3 => repeat (first | exact (Kd.C_below HR2.out (by exact jB HB.out)) | (with_reducible refine Kd.C_alloc ?_ _) | (with_reducible refine Kd.C_drewN ?_ _) | (with_reducible refine Kd.C_drew ?_))); (case side4 => exact HC2.out); rintro e w' ⟨rfl, ⟨nd, rfl⟩⟩; (try first | exact ⟨rfl, _, World.drewN_drewN _ _ _⟩ | exact ⟨rfl, _, Eq.trans (World.drewN_drewN _ _ _) (congrArg (World.drewN _) (Nat.add_assoc _ _ _))⟩))); try go_wp2_with (first | ((with_reducible refine gate_dst (N := 3) rfl ?_); refine box_event ?hg (N := 3) ?hd (cs := #[.slice A0_0 l0_0.length c0_0, .slice A0_1 l0_1.length c0_1, .int .i64 a0_2]) (t := 25) ?hr ?_; (case hd => rfl); (case hg => rfl); (case hr => first | (go_simp; done) | (go_simp; rfl)); intro gb280 hg w6 hbox hb; have BK280 := Aside0.mk (hbox); have GW280 := Aside0.mk ((by rw [hg]; exact (below_size (by exact lB HB.out)) : w.heap.size ≤ gb280)); have IGW280 : Nonempty _ := ⟨GW280.out⟩; have GE280 := Aside0.mk ((by rw [hg]; exact (below_size (by exact lB HB.out)) : w.heap.size ≤ gb280)); have IGE280 : Nonempty _ := ⟨GE280.out⟩; replace HB := Aside0.mk (below_step (by exact lB HB.out) hb); clear hb hbox hg; obtain ⟨hcz7_0, hcz7_1, hcz7_2, hfz7_0, hfz7_1, hfz7_2⟩ := cf3 BK280.out) | (go_at_call 43; (with_reducible refine (impl_dot.calls k _ _ l0_0 _ _ l1 t281 _ ?side1 ?side2 ?side3 ?side4 A4.out).mono ?_); (case side1 => exact lC <| (Kd.C_below HR0_0.out HB.out)); (case side2 => exact HC0_0.out); (case side3 => exact lC <| (Kd.C_below HR1.out HB.out)); (case side4 => exact HC1.out); rintro e w' ⟨rfl, ⟨nd, rfl⟩⟩; (try first | exact ⟨rfl, _, World.drewN_drewN _ _ _⟩ | exact ⟨rfl, _, Eq.trans (World.drewN_drewN _ _ _) (congrArg (World.drewN _) (Nat.add_assoc _ _ _))⟩)) | (go_at_call 43; (with_reducible refine (impl_dot.calls k _ _ l0_1 _ _ l2 t282 _ ?side1 ?side2 ?side3 ?side4 A5.out).mono ?_); (case side1 => repeat (first | exact (Kd.C_below HR0_1.out (by exact jB HB.out)) | (with_reducible refine Kd.C_alloc ?_ _) | (with_reducible refine Kd.C_drewN ?_ _) | (with_reducible refine Kd.C_drew ?_))); (case side2 => exact HC0_1.out); (case side3 => repeat (first | exact (Kd.C_below HR2.out (by exact jB HB.out)) | (with_reducible refine Kd.C_alloc ?_ _) | (with_reducible refine Kd.C_drewN ?_ _) | (with_reducible refine Kd.C_drew ?_))); (case side4 => exact HC2.out); rintro e w' ⟨rfl, ⟨nd, rfl⟩⟩; (try first | exact ⟨rfl, _, World.drewN_drewN _ _ _⟩ | exact ⟨rfl, _, Eq.trans (World.drewN_drewN _ _ _) (congrArg (World.drewN _) (Nat.add_assoc _ _ _))⟩))))
 go_ret
 exact ⟨by first | rfl | (simp [errW_none, errW_some] <;> rfl) | (simp [*, errW_none, errW_some] <;> rfl), by exact jB HB.out⟩

/-! ### impl_FrmAt: function 12 -/
def impl_FrmAt.f (k : Nat) (l0_0 : List Int) (l0_1 : List Int) (a0_2 : Int) (l1 : List Int) (l2 : List Int) : Option (Int × Bool) := (impl_FrmOk.f l0_0 l0_1 a0_2).bind fun t284 => (if t284 = true then ((impl_ValOk.f l1).bind fun t285 => (if t285 = true then ((impl_ArgOk.f l2).bind fun t286 => (if t286 = true then ((impl_FrmForm_at.f k l0_0 l0_1 a0_2 l1 l2).bind fun t287 => (some (t287, true))) else (some (0, false)))) else (some (0, false)))) else (some (0, false)))
theorem impl_FrmAt.mono : ∀ a0 a1 a2 a3 a4 k, LeO (impl_FrmAt.f k a0 a1 a2 a3 a4) (impl_FrmAt.f (k + 1) a0 a1 a2 a3 a4) := by
 intro a0 a1 a2 a3 a4 k
 unfold impl_FrmAt.f
 repeat' first
   | (with_reducible exact impl_FrmForm_at.mono _ _ _ _ _ _)
   | (with_reducible exact LeO.refl _)
   | (with_reducible exact LeO.none _)
   | (with_reducible refine LeO.ite ?_ ?_)
   | (with_reducible refine LeO.bind ?_ (fun _ => ?_))
   | exact impl_FrmForm_at.mono _ _ _ _ _ _
   | exact LeO.none _
   | refine LeO.ite ?_ ?_
   | refine LeO.bind ?_ (fun _ => ?_)
set_option maxHeartbeats 8000000 in
set_option maxRecDepth 100000 in
theorem impl_FrmAt.calls (k : Nat) (A0_0 : Option Addr) (c0_0 : Nat) (l0_0 : List Int) (A0_1 : Option Addr) (c0_1 : Nat) (l0_1 : List Int) (a0_2 : Int) (A1 : Option Addr) (c1 : Nat) (l1 : List Int) (A2 : Option Addr) (c2 : Nat) (l2 : List Int) (r1 : Int) (r2 : Bool) (w : World) (hr0_0 : Kd.C (Kd.int .i64) w A0_0 l0_0.length l0_0) (hc0_0 : l0_0.length ≤ c0_0) (hr0_1 : Kd.C (Kd.int .i64) w A0_1 l0_1.length l0_1) (hc0_1 : l0_1.length ≤ c0_1) (hr1 : Kd.C (Kd.int .i64) w A1 l1.length l1) (hc1 : l1.length ≤ c1) (hr2 : Kd.C (Kd.int .i64) w A2 l2.length l2) (hc2 : l2.length ≤ c2) (h : impl_FrmAt.f k l0_0 l0_1 a0_2 l1 l2 = some (r1, r2)) :
  Calls Try.prog 12 #[.agg #[.slice A0_0 l0_0.length c0_0, .slice A0_1 l0_1.length c0_1, .int .i64 a0_2], .slice A1 l1.length c1, .slice A2 l2.length c2] w fun e w' => e = .returned (.tuple #[.int .i64 r1, .bool r2]) ∧ Below w.heap.size w w' := by
 have hu25 := Try.underlying25
 have HR0_0 := Aside0.mk hr0_0
 have HC0_0 := Aside0.mk hc0_0
 clear hr0_0 hc0_0
 have HR0_1 := Aside0.mk hr0_1
 have HC0_1 := Aside0.mk hc0_1
 clear hr0_1 hc0_1
 have HR1 := Aside0.mk hr1
 have HC1 := Aside0.mk hc1
 clear hr1 hc1
 have HR2 := Aside0.mk hr2
 have HC2 := Aside0.mk hc2
 clear hr2 hc2
 have HB := Aside0.mk (Below.refl w.heap.size w)
 have H : ((impl_FrmOk.f l0_0 l0_1 a0_2).bind fun t284 => (if t284 = true then ((impl_ValOk.f l1).bind fun t285 => (if t285 = true then ((impl_ArgOk.f l2).bind fun t286 => (if t286 = true then ((impl_FrmForm_at.f k l0_0 l0_1 a0_2 l1 l2).bind fun t287 => (some (t287, true))) else (some (0, false)))) else (some (0, false)))) else (some (0, false)))) = some (r1, r2) := h
 clear h
 replace H := Option.bind_eq_some_iff.mp H
 obtain ⟨t284, A40, H⟩ := H
 replace H : (if t284 = true then ((impl_ValOk.f l1).bind fun t285 => (if t285 = true then ((impl_ArgOk.f l2).bind fun t286 => (if t286 = true then ((impl_FrmForm_at.f k l0_0 l0_1 a0_2 l1 l2).bind fun t287 => (some (t287, true))) else (some (0, false)))) else (some (0, false)))) else (some (0, false))) = some (r1, r2) := H
 have A4 := Aside0.mk A40
 clear A40
 by_cases c5 : t284 = true
 ·subst c5
  have H1 : ((impl_ValOk.f l1).bind fun t285 => (if t285 = true then ((impl_ArgOk.f l2).bind fun t286 => (if t286 = true then ((impl_FrmForm_at.f k l0_0 l0_1 a0_2 l1 l2).bind fun t287 => (some (t287, true))) else (some (0, false)))) else (some (0, false)))) = some (r1, r2) := by rw [if_pos rfl] at H; exact H
  clear H
  have H := H1
  clear H1
  replace H := Option.bind_eq_some_iff.mp H
  obtain ⟨t285, A60, H⟩ := H
  replace H : (if t285 = true then ((impl_ArgOk.f l2).bind fun t286 => (if t286 = true then ((impl_FrmForm_at.f k l0_0 l0_1 a0_2 l1 l2).bind fun t287 => (some (t287, true))) else (some (0, false)))) else (some (0, false))) = some (r1, r2) := H
  have A6 := Aside0.mk A60
  clear A60
  by_cases c7 : t285 = true
  ·subst c7
   have H1 : ((impl_ArgOk.f l2).bind fun t286 => (if t286 = true then ((impl_FrmForm_at.f k l0_0 l0_1 a0_2 l1 l2).bind fun t287 => (some (t287, true))) else (some (0, false)))) = some (r1, r2) := by rw [if_pos rfl] at H; exact H
   clear H
   have H := H1
   clear H1
   replace H := Option.bind_eq_some_iff.mp H
   obtain ⟨t286, A80, H⟩ := H
   replace H : (if t286 = true then ((impl_FrmForm_at.f k l0_0 l0_1 a0_2 l1 l2).bind fun t287 => (some (t287, true))) else (some (0, false))) = some (r1, r2) := H
   have A8 := Aside0.mk A80
   clear A80
   by_cases c9 : t286 = true
   ·subst c9
    have H1 : ((impl_FrmForm_at.f k l0_0 l0_1 a0_2 l1 l2).bind fun t287 => (some (t287, true))) = some (r1, r2) := by rw [if_pos rfl] at H; exact H
    clear H
    have H := H1
    clear H1
    replace H := Option.bind_eq_some_iff.mp H
    obtain ⟨t287, A100, H⟩ := H
    replace H : (some (t287, true)) = some (r1, r2) := H
    have A10 := Aside0.mk A100
    clear A100
    simp only [Option.some.injEq, Prod.mk.injEq] at H
    obtain ⟨rfl, rfl⟩ := H
    go_enter Try.func12, Try.ntmps12
    go_wp2_with (first | ((with_reducible refine gate_dst (N := 3) rfl ?_); refine box_event ?hg (N := 3) ?hd (cs := #[.slice A0_0 l0_0.length c0_0, .slice A0_1 l0_1.length c0_1, .int .i64 a0_2]) (t := 25) ?hr ?_; (case hd => rfl); (case hg => rfl); (case hr => first | (go_simp; done) | (go_simp; rfl)); intro gb283 hg w11 hbox hb; have BK283 := Aside0.mk (hbox); have GW283 := Aside0.mk ((by rw [hg]; exact (below_size (by exact lB HB.out)) : w.heap.size ≤ gb283)); have IGW283 : Nonempty _ := ⟨GW283.out⟩; have GE283 := Aside0.mk ((by rw [hg]; exact (below_size (by exact lB HB.out)) : w.heap.size ≤ gb283)); have IGE283 : Nonempty _ := ⟨GE283.out⟩; replace HB := Aside0.mk (below_step (by exact lB HB.out) hb); clear hb hbox hg; obtain ⟨hcz12_0, hcz12_1, hcz12_2, hfz12_0, hfz12_1, hfz12_2⟩ := cf3 BK283.out) | ((with_reducible refine gate_callee (f := 11) rfl ?_); refine goesL_ (some 9) rfl rfl Try.func11 (by kernel_rfl) rfl #[.agg #[.slice A0_0 l0_0.length c0_0, .slice A0_1 l0_1.length c0_1, .int .i64 a0_2]] rfl (by (try simp only [mA, mC, mN]); first | done | rfl | (simp only [ld, lt]; rfl)) ?_; (with_reducible refine (impl_FrmOk.calls _ _ l0_0 _ _ l0_1 a0_2 true _ ?side1 ?side2 ?side3 ?side4 A4.out).mono ?_); (case side1 => exact lC <| (Kd.C_below HR0_0.out HB.out)); (case side2 => exact HC0_0.out); (case side3 => exact lC <| (Kd.C_below HR0_1.out HB.out)); (case side4 => exact HC0_1.out); rintro e w13 ⟨rfl, hb⟩; refine ⟨_, rfl, ?_⟩; replace BK283 := Aside0.mk (bb BK283.out hb); replace HB := Aside0.mk (below_step (by exact jB HB.out) hb); (try clear hb); (try clear hb2); (try clear hk); (try clear hi)) | (go_at_call 33; (with_reducible refine (impl_ValOk.calls _ _ l1 true _ ?side1 ?side2 A6.out).mono ?_); (case side1 => exact lC <| (Kd.C_below HR1.out HB.out)); (case side2 => exact HC1.out); rintro e w14 ⟨rfl, hb⟩; replace BK283 := Aside0.mk (bb BK283.out hb); replace HB := Aside0.mk (below_step (by exact jB HB.out) hb); (try clear hb); (try clear hb2); (try clear hk); (try clear hi)) | (go_at_call 34; (with_reducible refine (impl_ArgOk.calls _ _ l2 true _ ?side1 ?side2 A8.out).mono ?_); (case side1 => exact lC <| (Kd.C_below HR2.out HB.out)); (case side2 => exact HC2.out); rintro e w15 ⟨rfl, hb⟩; replace BK283 := Aside0.mk (bb BK283.out hb); replace HB := Aside0.mk (below_step (by exact jB HB.out) hb); (try clear hb); (try clear hb2); (try clear hk); (try clear hi); obtain ⟨hcz16_0, hcz16_1, hcz16_2, hfz16_0, hfz16_1, hfz16_2⟩ := cf3 BK283.out) | ((with_reducible refine gate_callee (f := 35) rfl ?_); refine goesL_ (some 24) rfl rfl Try.func35 (by kernel_rfl) rfl #[.agg #[.slice A0_0 l0_0.length c0_0, .slice A0_1 l0_1.length c0_1, .int .i64 a0_2], .slice A1 l1.length c1, .slice A2 l2.length c2] rfl (by (try simp only [mA, mC, mN]); first | done | rfl | (simp only [ld, lt]; rfl)) ?_; (with_reducible refine (impl_FrmForm_at.calls k _ _ l0_0 _ _ l0_1 a0_2 _ _ l1 _ _ l2 t287 _ ?side1 ?side2 ?side3 ?side4 ?side5 ?side6 ?side7 ?side8 A10.out).mono ?_); (case side1 => exact lC <| (Kd.C_below HR0_0.out HB.out)); (case side2 => exact HC0_0.out); (case side3 => exact lC <| (Kd.C_below HR0_1.out HB.out)); (case side4 => exact HC0_1.out); (case side5 => exact lC <| (Kd.C_below HR1.out HB.out)); (case side6 => exact HC1.out); (case side7 => exact lC <| (Kd.C_below HR2.out HB.out)); (case side8 => exact HC2.out); rintro e w17 ⟨rfl, hb⟩; refine ⟨_, rfl, ?_⟩; replace BK283 := Aside0.mk (bb BK283.out hb); replace HB := Aside0.mk (below_step (by exact jB HB.out) hb); (try clear hb); (try clear hb2); (try clear hk); (try clear hi)))
    go_ret2
    exact ⟨by first | rfl | (simp [errW_none, errW_some] <;> rfl) | (simp [*, errW_none, errW_some] <;> rfl), by exact jB HB.out⟩
   ·replace c9 := Bool.eq_false_iff.mpr c9
    subst c9
    have H1 : (some (0, false)) = some (r1, r2) := by rw [if_neg (show ¬ (false = true) by decide)] at H; exact H
    clear H
    have H := H1
    clear H1
    simp only [Option.some.injEq, Prod.mk.injEq] at H
    obtain ⟨rfl, rfl⟩ := H
    go_enter Try.func12, Try.ntmps12
    go_wp2_with (first | ((with_reducible refine gate_dst (N := 3) rfl ?_); refine box_event ?hg (N := 3) ?hd (cs := #[.slice A0_0 l0_0.length c0_0, .slice A0_1 l0_1.length c0_1, .int .i64 a0_2]) (t := 25) ?hr ?_; (case hd => rfl); (case hg => rfl); (case hr => first | (go_simp; done) | (go_simp; rfl)); intro gb283 hg w18 hbox hb; have BK283 := Aside0.mk (hbox); have GW283 := Aside0.mk ((by rw [hg]; exact (below_size (by exact lB HB.out)) : w.heap.size ≤ gb283)); have IGW283 : Nonempty _ := ⟨GW283.out⟩; have GE283 := Aside0.mk ((by rw [hg]; exact (below_size (by exact lB HB.out)) : w.heap.size ≤ gb283)); have IGE283 : Nonempty _ := ⟨GE283.out⟩; replace HB := Aside0.mk (below_step (by exact lB HB.out) hb); clear hb hbox hg; obtain ⟨hcz19_0, hcz19_1, hcz19_2, hfz19_0, hfz19_1, hfz19_2⟩ := cf3 BK283.out) | ((with_reducible refine gate_callee (f := 11) rfl ?_); refine goesL_ (some 9) rfl rfl Try.func11 (by kernel_rfl) rfl #[.agg #[.slice A0_0 l0_0.length c0_0, .slice A0_1 l0_1.length c0_1, .int .i64 a0_2]] rfl (by (try simp only [mA, mC, mN]); first | done | rfl | (simp only [ld, lt]; rfl)) ?_; (with_reducible refine (impl_FrmOk.calls _ _ l0_0 _ _ l0_1 a0_2 true _ ?side1 ?side2 ?side3 ?side4 A4.out).mono ?_); (case side1 => exact lC <| (Kd.C_below HR0_0.out HB.out)); (case side2 => exact HC0_0.out); (case side3 => exact lC <| (Kd.C_below HR0_1.out HB.out)); (case side4 => exact HC0_1.out); rintro e w20 ⟨rfl, hb⟩; refine ⟨_, rfl, ?_⟩; replace BK283 := Aside0.mk (bb BK283.out hb); replace HB := Aside0.mk (below_step (by exact jB HB.out) hb); (try clear hb); (try clear hb2); (try clear hk); (try clear hi)) | (go_at_call 33; (with_reducible refine (impl_ValOk.calls _ _ l1 true _ ?side1 ?side2 A6.out).mono ?_); (case side1 => exact lC <| (Kd.C_below HR1.out HB.out)); (case side2 => exact HC1.out); rintro e w21 ⟨rfl, hb⟩; replace BK283 := Aside0.mk (bb BK283.out hb); replace HB := Aside0.mk (below_step (by exact jB HB.out) hb); (try clear hb); (try clear hb2); (try clear hk); (try clear hi)) | (go_at_call 34; (with_reducible refine (impl_ArgOk.calls _ _ l2 false _ ?side1 ?side2 A8.out).mono ?_); (case side1 => exact lC <| (Kd.C_below HR2.out HB.out)); (case side2 => exact HC2.out); rintro e w22 ⟨rfl, hb⟩; replace BK283 := Aside0.mk (bb BK283.out hb); replace HB := Aside0.mk (below_step (by exact jB HB.out) hb); (try clear hb); (try clear hb2); (try clear hk); (try clear hi)))
    go_ret2
    exact ⟨by first | rfl | (simp [errW_none, errW_some] <;> rfl) | (simp [*, errW_none, errW_some] <;> rfl), by exact jB HB.out⟩
  ·replace c7 := Bool.eq_false_iff.mpr c7
   subst c7
   have H1 : (some (0, false)) = some (r1, r2) := by rw [if_neg (show ¬ (false = true) by decide)] at H; exact H
   clear H
   have H := H1
   clear H1
   simp only [Option.some.injEq, Prod.mk.injEq] at H
   obtain ⟨rfl, rfl⟩ := H
   go_enter Try.func12, Try.ntmps12
   go_wp2_with (first | ((with_reducible refine gate_dst (N := 3) rfl ?_); refine box_event ?hg (N := 3) ?hd (cs := #[.slice A0_0 l0_0.length c0_0, .slice A0_1 l0_1.length c0_1, .int .i64 a0_2]) (t := 25) ?hr ?_; (case hd => rfl); (case hg => rfl); (case hr => first | (go_simp; done) | (go_simp; rfl)); intro gb283 hg w23 hbox hb; have BK283 := Aside0.mk (hbox); have GW283 := Aside0.mk ((by rw [hg]; exact (below_size (by exact lB HB.out)) : w.heap.size ≤ gb283)); have IGW283 : Nonempty _ := ⟨GW283.out⟩; have GE283 := Aside0.mk ((by rw [hg]; exact (below_size (by exact lB HB.out)) : w.heap.size ≤ gb283)); have IGE283 : Nonempty _ := ⟨GE283.out⟩; replace HB := Aside0.mk (below_step (by exact lB HB.out) hb); clear hb hbox hg; obtain ⟨hcz24_0, hcz24_1, hcz24_2, hfz24_0, hfz24_1, hfz24_2⟩ := cf3 BK283.out) | ((with_reducible refine gate_callee (f := 11) rfl ?_); refine goesL_ (some 9) rfl rfl Try.func11 (by kernel_rfl) rfl #[.agg #[.slice A0_0 l0_0.length c0_0, .slice A0_1 l0_1.length c0_1, .int .i64 a0_2]] rfl (by (try simp only [mA, mC, mN]); first | done | rfl | (simp only [ld, lt]; rfl)) ?_; (with_reducible refine (impl_FrmOk.calls _ _ l0_0 _ _ l0_1 a0_2 true _ ?side1 ?side2 ?side3 ?side4 A4.out).mono ?_); (case side1 => exact lC <| (Kd.C_below HR0_0.out HB.out)); (case side2 => exact HC0_0.out); (case side3 => exact lC <| (Kd.C_below HR0_1.out HB.out)); (case side4 => exact HC0_1.out); rintro e w25 ⟨rfl, hb⟩; refine ⟨_, rfl, ?_⟩; replace BK283 := Aside0.mk (bb BK283.out hb); replace HB := Aside0.mk (below_step (by exact jB HB.out) hb); (try clear hb); (try clear hb2); (try clear hk); (try clear hi)) | (go_at_call 33; (with_reducible refine (impl_ValOk.calls _ _ l1 false _ ?side1 ?side2 A6.out).mono ?_); (case side1 => exact lC <| (Kd.C_below HR1.out HB.out)); (case side2 => exact HC1.out); rintro e w26 ⟨rfl, hb⟩; replace BK283 := Aside0.mk (bb BK283.out hb); replace HB := Aside0.mk (below_step (by exact jB HB.out) hb); (try clear hb); (try clear hb2); (try clear hk); (try clear hi)))
   go_ret2
   exact ⟨by first | rfl | (simp [errW_none, errW_some] <;> rfl) | (simp [*, errW_none, errW_some] <;> rfl), by exact jB HB.out⟩
 ·replace c5 := Bool.eq_false_iff.mpr c5
  subst c5
  have H1 : (some (0, false)) = some (r1, r2) := by rw [if_neg (show ¬ (false = true) by decide)] at H; exact H
  clear H
  have H := H1
  clear H1
  simp only [Option.some.injEq, Prod.mk.injEq] at H
  obtain ⟨rfl, rfl⟩ := H
  go_enter Try.func12, Try.ntmps12
  go_wp2_with (first | ((with_reducible refine gate_dst (N := 3) rfl ?_); refine box_event ?hg (N := 3) ?hd (cs := #[.slice A0_0 l0_0.length c0_0, .slice A0_1 l0_1.length c0_1, .int .i64 a0_2]) (t := 25) ?hr ?_; (case hd => rfl); (case hg => rfl); (case hr => first | (go_simp; done) | (go_simp; rfl)); intro gb283 hg w27 hbox hb; have BK283 := Aside0.mk (hbox); have GW283 := Aside0.mk ((by rw [hg]; exact (below_size (by exact lB HB.out)) : w.heap.size ≤ gb283)); have IGW283 : Nonempty _ := ⟨GW283.out⟩; have GE283 := Aside0.mk ((by rw [hg]; exact (below_size (by exact lB HB.out)) : w.heap.size ≤ gb283)); have IGE283 : Nonempty _ := ⟨GE283.out⟩; replace HB := Aside0.mk (below_step (by exact lB HB.out) hb); clear hb hbox hg; obtain ⟨hcz28_0, hcz28_1, hcz28_2, hfz28_0, hfz28_1, hfz28_2⟩ := cf3 BK283.out) | ((with_reducible refine gate_callee (f := 11) rfl ?_); refine goesL_ (some 9) rfl rfl Try.func11 (by kernel_rfl) rfl #[.agg #[.slice A0_0 l0_0.length c0_0, .slice A0_1 l0_1.length c0_1, .int .i64 a0_2]] rfl (by (try simp only [mA, mC, mN]); first | done | rfl | (simp only [ld, lt]; rfl)) ?_; (with_reducible refine (impl_FrmOk.calls _ _ l0_0 _ _ l0_1 a0_2 false _ ?side1 ?side2 ?side3 ?side4 A4.out).mono ?_); (case side1 => exact lC <| (Kd.C_below HR0_0.out HB.out)); (case side2 => exact HC0_0.out); (case side3 => exact lC <| (Kd.C_below HR0_1.out HB.out)); (case side4 => exact HC0_1.out); rintro e w29 ⟨rfl, hb⟩; refine ⟨_, rfl, ?_⟩; replace BK283 := Aside0.mk (bb BK283.out hb); replace HB := Aside0.mk (below_step (by exact jB HB.out) hb); (try clear hb); (try clear hb2); (try clear hk); (try clear hi)))
  go_ret2
  exact ⟨by first | rfl | (simp [errW_none, errW_some] <;> rfl) | (simp [*, errW_none, errW_some] <;> rfl), by exact jB HB.out⟩

/-! ### impl_FrmZero: function 18 -/
def impl_FrmZero.f  : Option (List Int × List Int × Int) := if 3 ≤ 35184372088832 then (if 2 ≤ 35184372088832 then (some ((List.replicate 3 0), (List.replicate 2 0), 0)) else (none)) else (none)
set_option maxHeartbeats 8000000 in
set_option maxRecDepth 100000 in
theorem impl_FrmZero.calls  (r1 : List Int) (r2 : List Int) (r3 : Int) (w : World) (h : impl_FrmZero.f  = some (r1, r2, r3)) :
  Calls Try.prog 18 #[] w fun e w' => ∃ v0_ v1_ : Value, e = .returned (.agg #[v0_, v1_, .int .i64 r3]) ∧ Kd.R (Kd.int .i64) 3 w' w.heap.size (fun k_ => some k_ ≠ (v1_ : Value).ownBlock) v0_ r1 ∧ Kd.R (Kd.int .i64) 3 w' w.heap.size (fun k_ => some k_ ≠ (v0_ : Value).ownBlock) v1_ r2 ∧ Below w.heap.size w w' := by
 have hu25 := Try.underlying25
 have HB := Aside0.mk (Below.refl w.heap.size w)
 have H : (if 3 ≤ 35184372088832 then (if 2 ≤ 35184372088832 then (some ((List.replicate 3 0), (List.replicate 2 0), 0)) else (none)) else (none)) = some (r1, r2, r3) := h
 clear h
 by_cases c1 : 3 ≤ 35184372088832
 ·rw [if_pos c1] at H
  have c1b0 := eq_true c1
  have c1b1 : decide (3 ≤ 35184372088832) = true := decide_eq_true c1
  clear c1
  obtain ⟨y289, hy289⟩ : ∃ y_ : List Int, y_ = (List.replicate 3 0) := ⟨_, rfl⟩
  replace H : (if 2 ≤ 35184372088832 then (some (y289, (List.replicate 2 0), 0)) else (none)) = some (r1, r2, r3) := by first | (rw [hy289]; with_reducible exact H) | (have H2_ := (Option.bind_some _ _).symm.trans H; rw [hy289]; with_reducible exact H2_) | (have H2_ := (Option.bind_some _ _).symm.trans H; with_reducible exact H2_) | with_reducible exact H | (rw [hy289]; exact H) | exact H
  have Ny289 := Aside0.mk hy289
  clear hy289
  by_cases c2 : 2 ≤ 35184372088832
  ·rw [if_pos c2] at H
   have c2b0 := eq_true c2
   have c2b1 : decide (2 ≤ 35184372088832) = true := decide_eq_true c2
   clear c2
   obtain ⟨y292, hy292⟩ : ∃ y_ : List Int, y_ = (List.replicate 2 0) := ⟨_, rfl⟩
   replace H : (some (y289, y292, 0)) = some (r1, r2, r3) := by first | (rw [hy292]; with_reducible exact H) | (have H2_ := (Option.bind_some _ _).symm.trans H; rw [hy292]; with_reducible exact H2_) | (have H2_ := (Option.bind_some _ _).symm.trans H; with_reducible exact H2_) | with_reducible exact H | (rw [hy292]; exact H) | exact H
   have Ny292 := Aside0.mk hy292
   clear hy292
   simp only [Option.some.injEq, Prod.mk.injEq] at H
   obtain ⟨rfl, rfl, rfl⟩ := H
   go_enter Try.func18, Try.ntmps18
   try go_wp2_with (first | ((with_reducible refine gate_dst (N := 0) rfl ?_); refine box_event ?hg (N := 0) ?hd (cs := #[.slice none 0 0, .slice none 0 0, .int .i64 0]) (t := 25) ?hr ?_; (case hd => rfl); (case hg => rfl); (case hr => first | (go_simp; done) | (go_simp; rfl)); intro gb288 hg w3 hbox hb; have BK288 := Aside0.mk (hbox); have GW288 := Aside0.mk ((by rw [hg]; exact (below_size (by exact lB HB.out)) : w.heap.size ≤ gb288)); have IGW288 : Nonempty _ := ⟨GW288.out⟩; have GE288 := Aside0.mk ((by rw [hg]; exact (below_size (by exact lB HB.out)) : w.heap.size ≤ gb288)); have IGE288 : Nonempty _ := ⟨GE288.out⟩; replace HB := Aside0.mk (below_step (by exact lB HB.out) hb); clear hb hbox hg))
   replace BK288 := Aside0.mk (blk_drew BK288.out)
   replace HB := Aside0.mk (below_drew1 HB.out)
   refine start_ (n := 4) (S := fun w' => True) (ds := []) #[false, false, false, false] (by kernel_rfl) rfl rfl trivial (fun hHeld => ?_)
   generalize w3.drew = w4 at BK288 HB hHeld ⊢
   refine join_ (σ := Value × Value) 2 #[true, true, false, false] (fun s_ => [(1, s_.1), (2, s_.2)]) (fun s_ w' => (Kd.R (Kd.int .i64) 3 w' w.heap.size (fun k_ => some k_ ≠ (s_.2 : Value).ownBlock) s_.1 y289) ∧ (Kd.R (Kd.int .i64) 3 w' w.heap.size (fun k_ => some k_ ≠ (s_.1 : Value).ownBlock) s_.2 y292) ∧ (w'.heap[gb288]? = some (.cells #[.slice none 0 0, .slice none 0 0, .int .i64 0] 25 (0, 0))) ∧ (Below w.heap.size w w')) ?_ ?_
   rotate_left
   ·intro hCont
    refine two_ (i := 0) (j := 1) (Ni := some 1) (Nj := some 2) #[true, false, false, false] #[false, true, false, false] rfl rfl rfl rfl (by kernel_rfl) (by decide) (by decide) (fun K hK => ?_) (fun K hK => ?_)
    ·skip
     refine Kd.R_make_step (Kd.int .i64) _ 3 (by rfl) (N := 1) rfl 23 _ _ rfl 3 rfl rfl Try.underlying23 (.int .i64 0) 8 info3 rfl (by decide) (by omega) 0 (ok := fun _ => True) (okp := fun _ => True) rfl (fun _ hk => hk) trivial (by omega) (by omega) (Below.refl _ _) (Nat.le_refl _) ?_
     intro v290 w5 ho6 hb hg_ hnew_
     clear hg_ hnew_
     (first | rw [← Ny289.out] at ho6 | (simp only [Int.reduceToNat] at ho6; rw [← Ny289.out] at ho6))
     have HO291 := Aside0.mk (Kd.R_lower ho6 (below_size (by exact jB HB.out)))
     replace BK288 := Aside0.mk (bb BK288.out hb)
     replace HB := Aside0.mk (below_step (by exact jB HB.out) hb)
     clear hb ho6
     refine hK.out _ _ trivial (fun hHeld => ?_)
     clear hK K
     refine norm_ (a' := ?_) ?_ ?_
     rotate_left
     ·show Act.put _ (some 1) _ = _
      simp only [Act.put, sA, s0, sS, i64_w, i32_w]
      rfl
     refine one_ (i := 1) (N := some 2) #[true, true, false, false] rfl rfl (by kernel_rfl) (by decide) (fun K hK => ?_)
     refine Kd.R_make_step (Kd.int .i64) _ 3 (by rfl) (N := 2) rfl 23 _ _ rfl 2 rfl rfl Try.underlying23 (.int .i64 0) 8 info3 rfl (by decide) (by omega) 0 (ok := fun _ => True) (okp := fun _ => True) rfl (fun _ hk => hk) trivial (by omega) (by omega) (Below.refl _ _) (Nat.le_refl _) ?_
     intro v293 w7 ho8 hb hg_ hnew_
     clear hg_ hnew_
     (first | rw [← Ny292.out] at ho8 | (simp only [Int.reduceToNat] at ho8; rw [← Ny292.out] at ho8))
     have HO294 := Aside0.mk (Kd.R_lower (Kd.R_new' ho8 (rl HO291.out)) (below_size (by exact jB HB.out)))
     replace HO291 := Aside0.mk (Kd.R_elder' (by exact lR HO291.out) (Kd.R_base ho8) hb)
     replace BK288 := Aside0.mk (bb BK288.out hb)
     replace HB := Aside0.mk (below_step (by exact jB HB.out) hb)
     clear hb ho8
     obtain ⟨Ao9, co9, eo9⟩ := Kd.R_slice HO294.out
     (first | subst eo9 | (injection eo9 with f1_ f2_ f3_; have f4_ := f1_.symm; have f5_ := f3_.symm; clear f1_ f2_ f3_; subst f4_; subst f5_))
     obtain ⟨Ao10, co10, eo10⟩ := Kd.R_slice HO291.out
     (first | subst eo10 | (injection eo10 with f1_ f2_ f3_; have f4_ := f1_.symm; have f5_ := f3_.symm; clear f1_ f2_ f3_; subst f4_; subst f5_))
     refine hK.out _ _ trivial (fun hHeld => ?_)
     clear hK K
     refine norm_ (a' := ?_) ?_ ?_
     rotate_left
     ·show Act.put _ (some 2) _ = _
      simp only [Act.put, sA, s0, sS, i64_w, i32_w]
      rfl
     exact norm_ (by simp only [putAll, Act.put, List.setIfInBounds_toArray, List.set_cons_zero, List.set_cons_succ]) (hCont (.slice Ao10 y289.length co10, .slice Ao9 y292.length co9) _ ⟨(by exact lR <| Kd.R_mono HO291.out (fun _ hk => hk.2)), (by exact lR <| Kd.R_mono HO294.out (fun _ hk => hk.2)), (by exact lK BK288.out), (by exact jB HB.out)⟩)
    ·skip
     refine Kd.R_make_step (Kd.int .i64) _ 3 (by rfl) (N := 2) rfl 23 _ _ rfl 2 rfl rfl Try.underlying23 (.int .i64 0) 8 info3 rfl (by decide) (by omega) 0 (ok := fun _ => True) (okp := fun _ => True) rfl (fun _ hk => hk) trivial (by omega) (by omega) (Below.refl _ _) (Nat.le_refl _) ?_
     intro v293 w5 ho6 hb hg_ hnew_
     clear hg_ hnew_
     (first | rw [← Ny292.out] at ho6 | (simp only [Int.reduceToNat] at ho6; rw [← Ny292.out] at ho6))
     have HO294 := Aside0.mk (Kd.R_lower ho6 (below_size (by exact jB HB.out)))
     replace BK288 := Aside0.mk (bb BK288.out hb)
     replace HB := Aside0.mk (below_step (by exact jB HB.out) hb)
     clear hb ho6
     refine hK.out _ _ trivial (fun hHeld => ?_)
     clear hK K
     refine norm_ (a' := ?_) ?_ ?_
     rotate_left
     ·show Act.put _ (some 2) _ = _
      simp only [Act.put, sA, s0, sS, i64_w, i32_w]
      rfl
     refine one_ (i := 0) (N := some 1) #[true, true, false, false] rfl rfl (by kernel_rfl) (by decide) (fun K hK => ?_)
     refine Kd.R_make_step (Kd.int .i64) _ 3 (by rfl) (N := 1) rfl 23 _ _ rfl 3 rfl rfl Try.underlying23 (.int .i64 0) 8 info3 rfl (by decide) (by omega) 0 (ok := fun _ => True) (okp := fun _ => True) rfl (fun _ hk => hk) trivial (by omega) (by omega) (Below.refl _ _) (Nat.le_refl _) ?_
     intro v290 w7 ho8 hb hg_ hnew_
     clear hg_ hnew_
     (first | rw [← Ny289.out] at ho8 | (simp only [Int.reduceToNat] at ho8; rw [← Ny289.out] at ho8))
     have HO291 := Aside0.mk (Kd.R_lower (Kd.R_new' ho8 (rl HO294.out)) (below_size (by exact jB HB.out)))
     replace HO294 := Aside0.mk (Kd.R_elder' (by exact lR HO294.out) (Kd.R_base ho8) hb)
     replace BK288 := Aside0.mk (bb BK288.out hb)
     replace HB := Aside0.mk (below_step (by exact jB HB.out) hb)
     clear hb ho8
     obtain ⟨Ao9, co9, eo9⟩ := Kd.R_slice HO294.out
     (first | subst eo9 | (injection eo9 with f1_ f2_ f3_; have f4_ := f1_.symm; have f5_ := f3_.symm; clear f1_ f2_ f3_; subst f4_; subst f5_))
     obtain ⟨Ao10, co10, eo10⟩ := Kd.R_slice HO291.out
     (first | subst eo10 | (injection eo10 with f1_ f2_ f3_; have f4_ := f1_.symm; have f5_ := f3_.symm; clear f1_ f2_ f3_; subst f4_; subst f5_))
     refine hK.out _ _ trivial (fun hHeld => ?_)
     clear hK K
     refine norm_ (a' := ?_) ?_ ?_
     rotate_left
     ·show Act.put _ (some 1) _ = _
      simp only [Act.put, sA, s0, sS, i64_w, i32_w]
      rfl
     exact norm_ (by simp only [putAll, Act.put, List.setIfInBounds_toArray, List.set_cons_zero, List.set_cons_succ]) (hCont (.slice Ao10 y289.length co10, .slice Ao9 y292.length co9) _ ⟨(by exact lR <| Kd.R_mono HO291.out (fun _ hk => hk.2)), (by exact lR <| Kd.R_mono HO294.out (fun _ hk => hk.2)), (by exact lK BK288.out), (by exact jB HB.out)⟩)
   rintro ⟨v290, v293⟩ w11 ⟨h0_, h1_, h2_, h3_⟩
   have HO291 : Aside0 (Kd.R (Kd.int .i64) 3 w11 w.heap.size (fun k_ => some k_ ≠ (v293 : Value).ownBlock) v290 y289) := ⟨h0_⟩
   have HO294 : Aside0 (Kd.R (Kd.int .i64) 3 w11 w.heap.size (fun k_ => some k_ ≠ (v290 : Value).ownBlock) v293 y292) := ⟨h1_⟩
   replace BK288 : Aside0 (w11.heap[gb288]? = some (.cells #[.slice none 0 0, .slice none 0 0, .int .i64 0] 25 (0, 0))) := ⟨h2_⟩
   replace HB : Aside0 (Below w.heap.size w w11) := ⟨h3_⟩
   clear h0_ h1_ h2_ h3_
   have hHeld := trivial
   obtain ⟨Ao12, co12, eo12⟩ := Kd.R_slice HO294.out
   (first | subst eo12 | (injection eo12 with f1_ f2_ f3_; have f4_ := f1_.symm; have f5_ := f3_.symm; clear f1_ f2_ f3_; subst f4_; subst f5_))
   obtain ⟨Ao13, co13, eo13⟩ := Kd.R_slice HO291.out
   (first | subst eo13 | (injection eo13 with f1_ f2_ f3_; have f4_ := f1_.symm; have f5_ := f3_.symm; clear f1_ f2_ f3_; subst f4_; subst f5_))
   refine norm_ (a' := ?_) ?_ ?_
   rotate_left
   ·simp only [putAll, Act.put, List.setIfInBounds_toArray, List.set_cons_zero, List.set_cons_succ]
    rfl
   refine pure_ (i := 2) (N := some 3) (v := ?_) (a' := ?_) #[true, true, true, false] rfl rfl (by kernel_rfl) (fun _ _ _ h => h) (Or.inl ⟨by rfl, ?_⟩) ?_ ?_
   rotate_left
   ·intro w'
    go_simp
    with_reducible rfl
   rotate_left
   ·simp only [Act.put, sA, s0, sS, i64_w, i32_w]
    rfl
   refine one_ (i := 3) (N := none) #[true, true, true, true] rfl rfl (by kernel_rfl) (by decide) (fun K hK => ?_)
   have hs14 : w11.cell? ⟨gb288, 0, none⟩ = some (.slice none 0 0) := (blk_cell BK288.out 0).trans rfl
   have hfs14 := blk_frozen BK288.out 0
   have hs15 : w11.cell? ⟨gb288, 1, none⟩ = some (.slice none 0 0) := (blk_cell BK288.out 1).trans rfl
   have hfs15 := blk_frozen BK288.out 1
   have hs16 : w11.cell? ⟨gb288, 2, none⟩ = some (.int .i64 0) := (blk_cell BK288.out 2).trans rfl
   have hfs16 := blk_frozen BK288.out 2
   refine skip_ (w1 := ?_) (by rfl) rfl ?_ ?_
   rotate_left
   ·go_simp
    rfl
   refine hK.out _ _ trivial (fun hHeld => ?_)
   clear hK K
   refine done_ (by kernel_rfl) ?_
   try go_wp2
   refine bodyPost_ret (results_cell_row rfl _ _ gb288 25 #[.slice Ao13 y289.length co13, .slice Ao12 y292.length co12, .int .i64 0] (0, 0) _ rfl (by (with_reducible repeat first | refine kN ?_ _ | refine kD ?_ | refine kA ?_ _); refine blk_put (cs := #[.slice Ao13 y289.length co13, .slice Ao12 y292.length co12, .int .i64 0]) ?_ 2 _ rfl; (with_reducible repeat first | refine kN ?_ _ | refine kD ?_ | refine kA ?_ _); refine blk_put (cs := #[.slice Ao13 y289.length co13, .slice none 0 0, .int .i64 0]) ?_ 1 _ rfl; (with_reducible repeat first | refine kN ?_ _ | refine kD ?_ | refine kA ?_ _); refine blk_put (cs := #[.slice none 0 0, .slice none 0 0, .int .i64 0]) ?_ 0 _ rfl; exact lK BK288.out) Try.underlying25 rfl (by kernel_rfl)) rfl ?_
   exact ⟨_, _, by first | rfl | (simp [errW_none, errW_some] <;> rfl) | (simp [*, errW_none, errW_some] <;> rfl), by exact lR <| Kd.R_mono (Kd.R_far (p := ⟨gb288, 2, none⟩) (Kd.R_far (p := ⟨gb288, 1, none⟩) (Kd.R_far (p := ⟨gb288, 0, none⟩) (Kd.R_types HO291.out BK288.out (by decide)) (fun _ hk => by first | exact hk.2 | exact fun e_ => hk.2 (e_.trans (ob _ _ _ _))) (.slice Ao13 y289.length co13)) (fun _ hk => by first | exact hk.2 | exact fun e_ => hk.2 (e_.trans (ob _ _ _ _))) (.slice Ao12 y292.length co12)) (fun _ hk => by first | exact hk.2 | exact fun e_ => hk.2 (e_.trans (ob _ _ _ _))) (.int .i64 0)) (fun _ hk => by first | exact hk.1 | exact fun e_ => hk.1 (e_.trans (ob _ _ _ _))), by exact lR <| Kd.R_mono (Kd.R_far (p := ⟨gb288, 2, none⟩) (Kd.R_far (p := ⟨gb288, 1, none⟩) (Kd.R_far (p := ⟨gb288, 0, none⟩) (Kd.R_types HO294.out BK288.out (by decide)) (fun _ hk => by first | exact hk.2 | exact fun e_ => hk.2 (e_.trans (ob _ _ _ _))) (.slice Ao13 y289.length co13)) (fun _ hk => by first | exact hk.2 | exact fun e_ => hk.2 (e_.trans (ob _ _ _ _))) (.slice Ao12 y292.length co12)) (fun _ hk => by first | exact hk.2 | exact fun e_ => hk.2 (e_.trans (ob _ _ _ _))) (.int .i64 0)) (fun _ hk => by first | exact hk.1 | exact fun e_ => hk.1 (e_.trans (ob _ _ _ _))), by exact jB HB.out⟩
  ·rw [if_neg c2] at H
   exact absurd H (by simp)
 ·rw [if_neg c1] at H
  exact absurd H (by simp)

/-! ### laws_coHolds: function 13 -/
def laws_coHolds.f  : Option (Bool) := (impl_FrmZero.f).bind fun bt295 => ((impl_FrmOk.f bt295.1 bt295.2.1 bt295.2.2).bind fun t302 => (some t302))
set_option maxHeartbeats 8000000 in
set_option maxRecDepth 100000 in
theorem laws_coHolds.calls  (r : Bool) (w : World) (h : laws_coHolds.f  = some r) :
  Calls Try.prog 13 #[] w fun e w' => e = .returned (.bool r) ∧ Below w.heap.size w w' := by
 have HB := Aside0.mk (Below.refl w.heap.size w)
 have H : ((impl_FrmZero.f).bind fun bt295 => ((impl_FrmOk.f bt295.1 bt295.2.1 bt295.2.2).bind fun t302 => (some t302))) = some r := h
 clear h
 replace H := Option.bind_eq_some_iff.mp H
 obtain ⟨⟨t295, t298, t301⟩, A10, H⟩ := H
 replace H : ((impl_FrmOk.f t295 t298 t301).bind fun t302 => (some t302)) = some r := H
 have A1 := Aside0.mk A10
 clear A10
 replace H := Option.bind_eq_some_iff.mp H
 obtain ⟨t302, A20, H⟩ := H
 replace H : (some t302) = some r := H
 have A2 := Aside0.mk A20
 clear A20
 obtain rfl := Option.some.inj H
 go_enter Try.func13, Try.ntmps13
 go_wp2_with (first | ((with_reducible refine gate_callee (f := 18) rfl ?_); refine goesL_ (some 1) rfl rfl Try.func18 (by kernel_rfl) rfl #[] rfl (by (try simp only [mA, mC, mN]); first | done | rfl | (simp only [ld, lt]; rfl)) ?_; (with_reducible refine (impl_FrmZero.calls  t295 t298 t301 _ A1.out).mono ?_); rintro e w3 ⟨v296, v299, rfl, ho0, ho1, hb⟩; refine ⟨_, rfl, ?_⟩; have HO297 := Aside0.mk (Kd.R_lower ho0 (below_size (by exact lB HB.out))); have HO300 := Aside0.mk (Kd.R_lower ho1 (below_size (by exact lB HB.out))); replace HB := Aside0.mk (below_step (by exact lB HB.out) hb); (try clear hb); (try clear hb2); (try clear hk); (try clear hi); (try clear ho0); (try clear ho1); obtain ⟨Ao4, co4, eo4⟩ := Kd.R_slice HO297.out; subst eo4; obtain ⟨Ao5, co5, eo5⟩ := Kd.R_slice HO300.out; subst eo5) | ((with_reducible refine gate_callee (f := 11) rfl ?_); refine goesL_ (some 2) rfl rfl Try.func11 (by kernel_rfl) rfl #[.agg #[.slice Ao4 t295.length co4, .slice Ao5 t298.length co5, .int .i64 t301]] rfl (by (try simp only [mA, mC, mN]); first | done | rfl | (simp only [ld, lt]; rfl)) ?_; (with_reducible refine (impl_FrmOk.calls _ _ t295 _ _ t298 t301 t302 _ ?side1 ?side2 ?side3 ?side4 A2.out).mono ?_); (case side1 => exact lC <| (Kd.R_reads' HO297.out).2.2); (case side2 => exact (Kd.R_reads' HO297.out).2.1); (case side3 => exact lC <| (Kd.R_reads' HO300.out).2.2); (case side4 => exact (Kd.R_reads' HO300.out).2.1); rintro e w6 ⟨rfl, hb⟩; refine ⟨_, rfl, ?_⟩; replace HO297 := Aside0.mk (rb HO297.out hb); replace HO300 := Aside0.mk (rb HO300.out hb); replace HB := Aside0.mk (below_step (by exact lB HB.out) hb); (try clear hb); (try clear hb2); (try clear hk); (try clear hi)))
 go_ret
 exact ⟨by first | rfl | (simp [errW_none, errW_some] <;> rfl) | (simp [*, errW_none, errW_some] <;> rfl), by exact lB HB.out⟩

/-! ### spec_DrawFrmTimes: function 14 -/
def spec_DrawFrmTimes.f (k : Nat) (l0 : List Int) : Option (List Int × List Int × Int × Int) := (spec_l20Open.f l0).bind fun bt304 => ((spec_l20Form.f k bt304.1 bt304.2 12).bind fun bt307 => ((some (([0, 1, (-1), 2, 7, 10000000, 10000001, (-9223372036854775808)] : List Int) : List Int)).bind fun y315 => ((spec_l20Rd_pick.f k bt304.1 bt307.2.2.2 8).bind fun bt318 => (if 0 ≤ bt318.1 then (if bt318.1 < (y315.length : Int) then (some (bt307.1, bt307.2.1, bt307.2.2.1, rd y315 bt318.1)) else (none)) else (none)))))
theorem spec_DrawFrmTimes.mono : ∀ a0 k, LeO (spec_DrawFrmTimes.f k a0) (spec_DrawFrmTimes.f (k + 1) a0) := by
 intro a0 k
 unfold spec_DrawFrmTimes.f
 repeat' first
   | (with_reducible exact spec_l20Form.mono _ _ _ _)
   | (with_reducible exact spec_l20Rd_pick.mono _ _ _ _)
   | (with_reducible exact LeO.refl _)
   | (with_reducible exact LeO.none _)
   | (with_reducible refine LeO.ite ?_ ?_)
   | (with_reducible refine LeO.bind ?_ (fun _ => ?_))
   | exact spec_l20Form.mono _ _ _ _
   | exact spec_l20Rd_pick.mono _ _ _ _
   | exact LeO.none _
   | refine LeO.ite ?_ ?_
   | refine LeO.bind ?_ (fun _ => ?_)
def spec_DrawFrmTimes.T2 : Bool × List (List Nat × List Nat) := (true, [([], []), ([0], [0]), ([], []), ([], []), ([3, 1], [3]), ([2, 4], [2, 4]), ([5], [5]), ([1, 4, 0, 1], [1]), ([6, 7, 0, 1, 2, 3, 4, 5, 6, 7], [6])])
def spec_DrawFrmTimes.B2 : List Nat := [0, 1, 0, 0, 11, 31, 63, 27, 255]
theorem spec_DrawFrmTimes.tab2 : rtab .any (opsOf Try.f14 2) = spec_DrawFrmTimes.T2 := by kernel_rfl
theorem spec_DrawFrmTimes.bits2 : waitsOk spec_DrawFrmTimes.T2.2 spec_DrawFrmTimes.B2 = true := by kernel_rfl
set_option maxHeartbeats 8000000 in
set_option maxRecDepth 100000 in
theorem spec_DrawFrmTimes.calls (k : Nat) (A0 : Option Addr) (c0 : Nat) (l0 : List Int) (r1 : List Int) (r2 : List Int) (r3 : Int) (r4 : Int) (w : World) (hr0 : Kd.C (Kd.int .u8) w A0 l0.length l0) (hc0 : l0.length ≤ c0) (h : spec_DrawFrmTimes.f k l0 = some (r1, r2, r3, r4)) :
  Calls Try.prog 14 #[.slice A0 l0.length c0] w fun e w' => ∃ v0_ v1_ : Value, e = .returned (.tuple #[.agg #[v0_, v1_, .int .i64 r3], .int .i64 r4]) ∧ Kd.R (Kd.int .i64) 3 w' w.heap.size (fun k_ => some k_ ≠ (v1_ : Value).ownBlock) v0_ r1 ∧ Kd.R (Kd.int .i64) 3 w' w.heap.size (fun k_ => some k_ ≠ (v0_ : Value).ownBlock) v1_ r2 ∧ Below w.heap.size w w' := by
 have hu25 := Try.underlying25
 have HR0 := Aside0.mk hr0
 have HC0 := Aside0.mk hc0
 clear hr0 hc0
 have HB := Aside0.mk (Below.refl w.heap.size w)
 have H : ((spec_l20Open.f l0).bind fun bt304 => ((spec_l20Form.f k bt304.1 bt304.2 12).bind fun bt307 => ((some (([0, 1, (-1), 2, 7, 10000000, 10000001, (-9223372036854775808)] : List Int) : List Int)).bind fun y315 => ((spec_l20Rd_pick.f k bt304.1 bt307.2.2.2 8).bind fun bt318 => (if 0 ≤ bt318.1 then (if bt318.1 < (y315.length : Int) then (some (bt307.1, bt307.2.1, bt307.2.2.1, rd y315 bt318.1)) else (none)) else (none)))))) = some (r1, r2, r3, r4) := h
 clear h
 replace H := Option.bind_eq_some_iff.mp H
 obtain ⟨⟨t304, t305⟩, A20, H⟩ := H
 replace H : ((spec_l20Form.f k t304 t305 12).bind fun bt307 => ((some (([0, 1, (-1), 2, 7, 10000000, 10000001, (-9223372036854775808)] : List Int) : List Int)).bind fun y315 => ((spec_l20Rd_pick.f k t304 bt307.2.2.2 8).bind fun bt318 => (if 0 ≤ bt318.1 then (if bt318.1 < (y315.length : Int) then (some (bt307.1, bt307.2.1, bt307.2.2.1, rd y315 bt318.1)) else (none)) else (none))))) = some (r1, r2, r3, r4) := H
 have A2 := Aside0.mk A20
 clear A20
 replace H := Option.bind_eq_some_iff.mp H
 obtain ⟨⟨t307, t310, t313, t314⟩, A30, H⟩ := H
 replace H : ((some (([0, 1, (-1), 2, 7, 10000000, 10000001, (-9223372036854775808)] : List Int) : List Int)).bind fun y315 => ((spec_l20Rd_pick.f k t304 t314 8).bind fun bt318 => (if 0 ≤ bt318.1 then (if bt318.1 < (y315.length : Int) then (some (t307, t310, t313, rd y315 bt318.1)) else (none)) else (none)))) = some (r1, r2, r3, r4) := H
 have A3 := Aside0.mk A30
 clear A30
 obtain ⟨y315, hy315⟩ : ∃ y_ : List Int, y_ = (([0, 1, (-1), 2, 7, 10000000, 10000001, (-9223372036854775808)] : List Int)) := ⟨_, rfl⟩
 replace H : ((spec_l20Rd_pick.f k t304 t314 8).bind fun bt318 => (if 0 ≤ bt318.1 then (if bt318.1 < (y315.length : Int) then (some (t307, t310, t313, rd y315 bt318.1)) else (none)) else (none))) = some (r1, r2, r3, r4) := by first | (rw [hy315]; with_reducible exact H) | (have H2_ := (Option.bind_some _ _).symm.trans H; rw [hy315]; with_reducible exact H2_) | (have H2_ := (Option.bind_some _ _).symm.trans H; with_reducible exact H2_) | with_reducible exact H | (rw [hy315]; exact H) | exact H
 have Ny315 := Aside0.mk hy315
 clear hy315
 replace H := Option.bind_eq_some_iff.mp H
 obtain ⟨⟨t318, t319⟩, A40, H⟩ := H
 replace H : (if 0 ≤ t318 then (if t318 < (y315.length : Int) then (some (t307, t310, t313, rd y315 t318)) else (none)) else (none)) = some (r1, r2, r3, r4) := H
 have A4 := Aside0.mk A40
 clear A40
 by_cases c5 : 0 ≤ t318
 ·rw [if_pos c5] at H
  have c5b0 : decide (0 ≤ t318) = true := decide_eq_true c5
  clear c5
  by_cases c6 : t318 < (y315.length : Int)
  ·rw [if_pos c6] at H
   have c6b0 : decide (t318 < (y315.length : Int)) = true := decide_eq_true c6
   clear c6
   simp only [Option.some.injEq, Prod.mk.injEq] at H
   obtain ⟨rfl, rfl, rfl, rfl⟩ := H
   go_enter Try.func14, Try.ntmps14
   try go_wp2_with (first | ((with_reducible refine gate_dst (N := 2) rfl ?_); refine box_event ?hg (N := 2) ?hd (cs := #[.slice none 0 0, .slice none 0 0, .int .i64 0]) (t := 25) ?hr ?_; (case hd => rfl); (case hg => rfl); (case hr => first | (go_simp; done) | (go_simp; rfl)); intro gb303 hg w7 hbox hb; have BK303 := Aside0.mk (hbox); have GW303 := Aside0.mk ((by rw [hg]; exact (below_size (by exact lB HB.out)) : w.heap.size ≤ gb303)); have IGW303 : Nonempty _ := ⟨GW303.out⟩; have GE303 := Aside0.mk ((by rw [hg]; exact (below_size (by exact lB HB.out)) : w.heap.size ≤ gb303)); have IGE303 : Nonempty _ := ⟨GE303.out⟩; replace HB := Aside0.mk (below_step (by exact lB HB.out) hb); clear hb hbox hg) | ((with_reducible refine gate_callee (f := 20) rfl ?_); refine goesL_ (some 6) rfl rfl Try.func20 (by kernel_rfl) rfl #[.slice A0 l0.length c0] rfl (by (try simp only [mA, mC, mN]); first | done | rfl | (simp only [ld, lt]; rfl)) ?_; (with_reducible refine (spec_l20Open.calls _ _ l0 t304 t305 w _ ?side1 ?side2 ?side3 A2.out).mono ?_); (case side1 => exact jB HB.out); (case side2 => exact HR0.out); (case side3 => exact HC0.out); rintro e w8 ⟨g306, rfl, hi, hb, hb2⟩; refine ⟨_, rfl, ?_⟩; replace HB := Aside0.mk (hb); have HI306 := Aside0.mk (hi); have NB306_303 := Aside0.mk (IsS59.ne_blk hi (blk_below (g := gb303) (o := .cells #[.slice none 0 0, .slice none 0 0, .int .i64 0] 25 (0, 0)) (by exact lK BK303.out) hb2) (by decide)); have INB306_303 : Nonempty _ := ⟨NB306_303.out⟩; have NB303_306 := Aside0.mk (Ne.symm (IsS59.ne_blk hi (blk_below (g := gb303) (o := .cells #[.slice none 0 0, .slice none 0 0, .int .i64 0] 25 (0, 0)) (by exact lK BK303.out) hb2) (by decide))); have INB303_306 : Nonempty _ := ⟨NB303_306.out⟩; replace BK303 := Aside0.mk (blk_below (g := gb303) (o := .cells #[.slice none 0 0, .slice none 0 0, .int .i64 0] 25 (0, 0)) (by exact lK BK303.out) hb2); (try clear hb); (try clear hb2); (try clear hk); (try clear hi)))
   have pi320 : (0 ≤ (t318 : Int)) = True := eq_true (of_decide_eq_true (by first | (with_reducible assumption) | assumption))
   have qi320 : (t318 < (y315.length : Int)) = True := eq_true (of_decide_eq_true (by first | (with_reducible assumption) | assumption))
   replace BK303 := Aside0.mk (blk_drew BK303.out)
   replace HI306 := Aside0.mk (IsS59.drew HI306.out)
   replace HB := Aside0.mk (below_drew1 HB.out)
   refine start_ (n := 9) (S := fun w' => True) (ds := []) #[false, false, false, false, false, false, false, false, false] (by kernel_rfl) rfl rfl trivial (fun hHeld => ?_); refine with_tabW spec_DrawFrmTimes.tab2 spec_DrawFrmTimes.bits2 (fun HT_ HW_ => ?_)
   generalize w8.drew = w9 at BK303 HI306 HB hHeld ⊢
   refine pure_ (i := 0) (N := some 7) (v := ?_) (a' := ?_) #[true, false, false, false, false, false, false, false, false] rfl rfl (any_of HT_.out (by kernel_rfl)) (fun _ _ _ h => h) (Or.inl ⟨by rfl, ?_⟩) ?_ ?_
   rotate_left
   ·intro w'
    go_simp
    with_reducible rfl
   rotate_left
   ·simp only [Act.put, sA, s0, sS, i64_w, i32_w]
    rfl
   refine pure_ (i := 3) (N := some 10) (v := ?_) (a' := ?_) #[true, false, false, true, false, false, false, false, false] rfl rfl (any_of HT_.out (by kernel_rfl)) (fun _ _ _ h => h) (Or.inl ⟨by rfl, ?_⟩) ?_ ?_
   rotate_left
   ·intro w'
    go_simp
    with_reducible rfl
   rotate_left
   ·simp only [Act.put, sA, s0, sS, i64_w, i32_w]
    rfl
   refine inv_at [1, 2, 4, 5, 6, 7, 8] (fun a0_ b a w' => ∃ (v308 : Value) (v311 : Value) (v316 : Value) (adz_v316 : Addr) (m1_ : Value) (m5_ : Value), a = putSel a0_ b [(1, 8, m1_), (2, 9, v316), (4, 11, .int .i64 t318), (5, 12, m5_), (6, 13, .int .i64 (rd y315 t318)), (8, 3, .int .i64 (rd y315 t318))] ∧ (b 7 = false → w'.heap[gb303]? = some (.cells #[.slice none 0 0, .slice none 0 0, .int .i64 0] 25 (0, 0))) ∧ (b 1 = false → IsS59 w w' g306 t304 t305) ∧ (Below w.heap.size w w') ∧ (b 1 = true → Kd.R (Kd.int .i64) 3 w' w.heap.size (fun k_ => some k_ ≠ (v311 : Value).ownBlock) v308 t307) ∧ (b 1 = true → Kd.R (Kd.int .i64) 3 w' w.heap.size (fun k_ => some k_ ≠ (v308 : Value).ownBlock) v311 t310) ∧ (b 1 = true → b 4 = false → IsS59 w w' g306 t304 t314) ∧ (b 2 = true → Kd.R (Kd.int .i64) 3 w' w.heap.size (fun _ => True) v316 y315) ∧ (b 2 = true → ∃ c_, (v316 : Value) = .slice (some adz_v316) y315.length c_) ∧ (b 4 = true → IsS59 w w' g306 t304 t319) ∧ (b 7 = true → w'.heap[gb303]? = some (.cells #[v308, v311, .int .i64 t313] 25 (0, 0))) ∧ (b 1 = true → (m1_ : Value) = .agg #[v308, v311, .int .i64 t313]) ∧ (b 5 = true → (m5_ : Value) = .pointer (some (adz_v316.add (t318).toNat)))) HT_.out HW_.out (by kernel_rfl) (by kernel_rfl) ?_ ?_ ?_
   ·exact ⟨.bool false, .bool false, .bool false, ⟨0, 0, none⟩, .bool false, .bool false, by simp only [putSel, Bool.false_eq_true, if_false], fun _ => BK303.out, fun _ => HI306.out, HB.out, fun h_ => absurd h_ (by decide), fun h_ => absurd h_ (by decide), fun h_ => absurd h_ (by decide), fun h_ => absurd h_ (by decide), fun h_ => absurd h_ (by decide), fun h_ => absurd h_ (by decide), fun h_ => absurd h_ (by decide), fun h_ => absurd h_ (by decide), fun h_ => absurd h_ (by decide)⟩
   ·skip
    clear BK303 HB HI306
    refine steps_cons ?_ ?_
    ·rintro b a w' ⟨v308, v311, v316, adz_v316, m1_, m5_, ha, Q_BK303, Q_HI306, Q_HB, Q_HO309, Q_HO312, Q_HI306_e1, Q_HO317, Q_HA_HO317, Q_HI306_e4, Q_BK303_e7, Q_X1_, Q_X5_⟩ hb_ hon hoff
     refine ⟨_, rfl, fun K hK => ?_⟩
     have e7 : a.tmps[7]? = some (.pointer (some ⟨g306, 0, none⟩)) := by rw [ha]; exact (putSel_off rfl).trans rfl
     replace ha := Aside0.mk ha
     have BK303 := Aside0.mk (Q_BK303 (hoff 7 (by kernel_rfl)))
     have HI306 := Aside0.mk (Q_HI306 hb_)
     have HB := Aside0.mk Q_HB
     refine goes_ Try.func21 (by kernel_rfl) rfl #[.pointer (some ⟨g306, 0, none⟩), .int .i64 12] (by rfl) rfl rfl (by first | (simp only [List.map_toArray, List.map_cons, List.map_nil, Act.eval, Array.getD_eq_getD_getElem?, Option.getD_some, e7]; done) | (simp only [List.map_toArray, List.map_cons, List.map_nil, Act.eval, Array.getD_eq_getD_getElem?, Option.getD_some, e7]; rfl)) ?_
     with_reducible refine (spec_l20Form.calls k g306 t304 t305 12 t307 t310 t313 t314 w _ ?side1 ?side2 A3.out).mono ?_
     (case side1 => exact IsS59.j HI306.out)
     (case side2 => exact jB HB.out)
     rintro e w10 ⟨v308, v311, rfl, ho0, ho1, hi, hb, hk⟩
     refine ⟨_, rfl, ?_⟩
     have n0_ := Aside0.mk (kb hk BK303.out NB303_306.out)
     have n1_ := Aside0.mk (Kd.R_lower ho0 (below_size (by exact jB HB.out)))
     have n2_ := Aside0.mk (Kd.R_lower ho1 (below_size (by exact jB HB.out)))
     have n3_ := Aside0.mk (hb)
     have n4_ := Aside0.mk (hi)
     have z_HO317 := fun (h0_ : b 2 = true) => (show Kd.R (Kd.int .i64) 3 w10 w.heap.size (fun _ => True) v316 y315 from by first | exact (Kd.R_mono (Kd.R_told (Kd.R_told (Kd.R_oldK (IsS59.apart (show IsS59 w _ g306 t304 t305 from by exact IsS59.j HI306.out) (by exact lR <| (Q_HO317 h0_)) (by decide)) hk) (Kd.R_base ho0)) (Kd.R_base ho1)) (fun _ h_ => h_.1)) | exact Kd.R_mono (Kd.R_mono (Kd.R_told (Kd.R_told (Kd.R_oldK (IsS59.apart (show IsS59 w _ g306 t304 t305 from by exact IsS59.j HI306.out) (by exact lR <| (Q_HO317 h0_)) (by decide)) hk) (Kd.R_base ho0)) (Kd.R_base ho1)) (fun _ h_ => h_.1)) (fun _ h_ => by first | trivial | exact h_ | exact h_.1))
     clear BK303 HB HI306
     have BK303 := n0_
     have HO309 := n1_
     have HO312 := n2_
     have HB := n3_
     have HI306 := n4_
     clear n0_ n1_ n2_ n3_ n4_
     (try clear hb)
     (try clear hb2)
     (try clear hk)
     (try clear hi)
     (try clear ho0)
     (try clear ho1)
     refine hK.out _ _ ⟨v308, v311, v316, adz_v316, (.agg #[v308, v311, .int .i64 t313]), m5_, (by rw [ha.out]; exact putSel_upk 0 hb_ rfl rfl rfl), fun _ => (by exact lK BK303.out), fun h0_ => absurd ((up_self b 1).symm.trans h0_) (by decide), (by exact jB HB.out), fun _ => (by exact lR HO309.out), fun _ => (by exact lR HO312.out), fun _ _ => (by exact IsS59.j HI306.out), z_HO317, Q_HA_HO317, fun h0_ => absurd ((hoff 4 (by kernel_rfl)).symm.trans h0_) (by decide), fun h0_ => absurd ((hoff 7 (by kernel_rfl)).symm.trans h0_) (by decide), fun _ => rfl, fun h0_ => absurd ((hoff 5 (by kernel_rfl)).symm.trans h0_) (by decide)⟩
    refine steps_cons ?_ ?_
    ·rintro b a w' ⟨v308, v311, v316, adz_v316, m1_, m5_, ha, Q_BK303, Q_HI306, Q_HB, Q_HO309, Q_HO312, Q_HI306_e1, Q_HO317, Q_HA_HO317, Q_HI306_e4, Q_BK303_e7, Q_X1_, Q_X5_⟩ hb_ hon hoff
     refine ⟨_, rfl, fun K hK => ?_⟩
     replace ha := Aside0.mk ha
     have HB := Aside0.mk Q_HB
     refine Kd.R_lit_step (Kd.int .i64) _ 3 ?hg (N := 9) ?hd (xs := ([0, 1, (-1), 2, 7, 10000000, 10000001, (-9223372036854775808)] : List Int)) (inner := [.int .i64 0, .int .i64 1, .int .i64 (-1), .int .i64 2, .int .i64 7, .int .i64 10000000, .int .i64 10000001, .int .i64 (-9223372036854775808)]) (ok := fun _ => True) (okp := fun _ => True) ?hr ?hp (fun _ hk => hk) trivial (Below.refl _ _) (Nat.le_refl _) (by simp) ?_; (case hd => rfl); (case hg => rfl); (case hr => first | (go_simp; done) | (go_simp; rfl)); (case hp => exact (Reps.one (show Kd.M (Kd.int .i64) _ _ _ 0 [.int .i64 0] from rfl) (Reps.one (show Kd.M (Kd.int .i64) _ _ _ 1 [.int .i64 1] from rfl) (Reps.one (show Kd.M (Kd.int .i64) _ _ _ (-1) [.int .i64 (-1)] from rfl) (Reps.one (show Kd.M (Kd.int .i64) _ _ _ 2 [.int .i64 2] from rfl) (Reps.one (show Kd.M (Kd.int .i64) _ _ _ 7 [.int .i64 7] from rfl) (Reps.one (show Kd.M (Kd.int .i64) _ _ _ 10000000 [.int .i64 10000000] from rfl) (Reps.one (show Kd.M (Kd.int .i64) _ _ _ 10000001 [.int .i64 10000001] from rfl) (Reps.one (show Kd.M (Kd.int .i64) _ _ _ (-9223372036854775808) [.int .i64 (-9223372036854775808)] from rfl) (Reps.none _ _))))))))))
     intro v316 w10 ho11 hb hg_ hnew_
     clear hg_ hnew_
     (first | rw [← Ny315.out] at ho11 | (simp only [Int.reduceToNat] at ho11; rw [← Ny315.out] at ho11))
     have n0_ := Aside0.mk (Kd.R_lower ho11 (below_size (by exact jB HB.out)))
     have n3_ := Aside0.mk (below_step (by exact jB HB.out) hb)
     have z_BK303 := fun (h0_ : b 7 = false) => (show w10.heap[gb303]? = some (.cells #[.slice none 0 0, .slice none 0 0, .int .i64 0] 25 (0, 0)) from by first | exact (blk_below (g := gb303) (o := .cells #[.slice none 0 0, .slice none 0 0, .int .i64 0] 25 (0, 0)) (by exact lK <| (Q_BK303 h0_)) hb))
     have z_HI306 := fun (h0_ : b 1 = false) => (show IsS59 w w10 g306 t304 t305 from by first | exact (IsS59.below (by repeat (first | (with_reducible first | exact (Q_HI306 h0_) | apply IsS59.alloc | apply IsS59.drewN | apply IsS59.drew | apply IsS59.set_1 | refine IsS59.far ?_ NB306_303.out _) | exact (Q_HI306 h0_))) hb))
     have z_HO309 := fun (h0_ : b 1 = true) => (show Kd.R (Kd.int .i64) 3 w10 w.heap.size (fun k_ => some k_ ≠ (v311 : Value).ownBlock) v308 t307 from by first | exact (Kd.R_elder' (by exact lR <| (Q_HO309 h0_)) (Kd.R_base ho11) hb) | exact Kd.R_mono (Kd.R_elder' (by exact lR <| (Q_HO309 h0_)) (Kd.R_base ho11) hb) (fun _ h_ => by first | trivial | exact h_ | exact h_.1))
     have z_HO312 := fun (h0_ : b 1 = true) => (show Kd.R (Kd.int .i64) 3 w10 w.heap.size (fun k_ => some k_ ≠ (v308 : Value).ownBlock) v311 t310 from by first | exact (Kd.R_elder' (by exact lR <| (Q_HO312 h0_)) (Kd.R_base ho11) hb) | exact Kd.R_mono (Kd.R_elder' (by exact lR <| (Q_HO312 h0_)) (Kd.R_base ho11) hb) (fun _ h_ => by first | trivial | exact h_ | exact h_.1))
     have z_HI306_e1 := fun (h0_ : b 1 = true) (h1_ : b 4 = false) => (show IsS59 w w10 g306 t304 t314 from by first | exact (IsS59.below (by repeat (first | (with_reducible first | exact (Q_HI306_e1 h0_ h1_) | apply IsS59.alloc | apply IsS59.drewN | apply IsS59.drew | apply IsS59.set_1 | refine IsS59.far ?_ NB306_303.out _) | exact (Q_HI306_e1 h0_ h1_))) hb))
     have z_HI306_e4 := fun (h0_ : b 4 = true) => (show IsS59 w w10 g306 t304 t319 from by first | exact (IsS59.below (by repeat (first | (with_reducible first | exact (Q_HI306_e4 h0_) | apply IsS59.alloc | apply IsS59.drewN | apply IsS59.drew | apply IsS59.set_1 | refine IsS59.far ?_ NB306_303.out _) | exact (Q_HI306_e4 h0_))) hb))
     have z_BK303_e7 := fun (h0_ : b 7 = true) => (show w10.heap[gb303]? = some (.cells #[v308, v311, .int .i64 t313] 25 (0, 0)) from by first | exact (blk_below (g := gb303) (o := .cells #[v308, v311, .int .i64 t313] 25 (0, 0)) (by exact lK <| (Q_BK303_e7 h0_)) hb))
     clear HB
     have HO317 := n0_
     have HB := n3_
     clear n0_ n3_ hb ho11
     obtain ⟨Ao12, co12, eo12⟩ := Kd.R_slice HO317.out
     subst eo12
     obtain ⟨ado12, fo12, _⟩ := Kd.at_int (Kd.R_reads' HO317.out).2.2 0 (by decide) (by rw [Ny315.out]; simp)
     cases fo12
     refine hK.out _ _ ⟨v308, v311, .slice (some ado12) y315.length co12, ado12, m1_, m5_, (by rw [ha.out]; exact putSel_upk 1 hb_ rfl rfl rfl), z_BK303, z_HI306, (by exact jB HB.out), z_HO309, z_HO312, z_HI306_e1, fun _ => (by exact lR HO317.out), fun _ => ⟨_, rfl⟩, z_HI306_e4, z_BK303_e7, Q_X1_, fun h0_ => absurd ((hoff 5 (by kernel_rfl)).symm.trans h0_) (by decide)⟩
    refine steps_cons ?_ ?_
    ·rintro b a w' ⟨v308, v311, v316, adz_v316, m1_, m5_, ha, Q_BK303, Q_HI306, Q_HB, Q_HO309, Q_HO312, Q_HI306_e1, Q_HO317, Q_HA_HO317, Q_HI306_e4, Q_BK303_e7, Q_X1_, Q_X5_⟩ hb_ hon hoff
     refine ⟨_, rfl, fun K hK => ?_⟩
     have e10 : a.tmps[10]? = some (.pointer (some ⟨g306, 0, none⟩)) := by rw [ha]; exact (putSel_off rfl).trans rfl
     replace ha := Aside0.mk ha
     have BK303 := Aside0.mk (Q_BK303 (hoff 7 (by kernel_rfl)))
     have HB := Aside0.mk Q_HB
     have HO309 := Aside0.mk (Q_HO309 (hon 1 (by kernel_rfl)))
     have HO312 := Aside0.mk (Q_HO312 (hon 1 (by kernel_rfl)))
     have HI306 := Aside0.mk (Q_HI306_e1 (hon 1 (by kernel_rfl)) hb_)
     refine goes_ Try.func22 (by kernel_rfl) rfl #[.pointer (some ⟨g306, 0, none⟩), .int .i64 8] (by rfl) rfl rfl (by first | (simp only [List.map_toArray, List.map_cons, List.map_nil, Act.eval, Array.getD_eq_getD_getElem?, Option.getD_some, e10]; done) | (simp only [List.map_toArray, List.map_cons, List.map_nil, Act.eval, Array.getD_eq_getD_getElem?, Option.getD_some, e10]; rfl)) ?_
     with_reducible refine (spec_l20Rd_pick.calls k g306 t304 t314 8 t318 t319 w _ ?side1 ?side2 A4.out).mono ?_
     (case side1 => exact IsS59.j HI306.out)
     (case side2 => exact jB HB.out)
     rintro e w12 ⟨rfl, hi, hb, hk⟩
     refine ⟨_, rfl, ?_⟩
     have n0_ := Aside0.mk (kb hk BK303.out NB303_306.out)
     have n1_ := Aside0.mk (Kd.R_mono (Kd.R_keep (IsS59.apart (show IsS59 w _ g306 t304 t314 from by exact IsS59.j HI306.out) (by exact lR HO309.out) (by decide)) hk (fun _ h => h.2)) (fun _ h => h.1))
     have n2_ := Aside0.mk (Kd.R_mono (Kd.R_keep (IsS59.apart (show IsS59 w _ g306 t304 t314 from by exact IsS59.j HI306.out) (by exact lR HO312.out) (by decide)) hk (fun _ h => h.2)) (fun _ h => h.1))
     have n3_ := Aside0.mk (hb)
     have n4_ := Aside0.mk (hi)
     have z_HO317 := fun (h0_ : b 2 = true) => (show Kd.R (Kd.int .i64) 3 w12 w.heap.size (fun _ => True) v316 y315 from by first | exact (Kd.R_mono (Kd.R_keep (IsS59.apart (show IsS59 w _ g306 t304 t314 from by exact IsS59.j HI306.out) (by exact lR <| (Q_HO317 h0_)) (by decide)) hk (fun _ h => h.2)) (fun _ h => h.1)) | exact Kd.R_mono (Kd.R_mono (Kd.R_keep (IsS59.apart (show IsS59 w _ g306 t304 t314 from by exact IsS59.j HI306.out) (by exact lR <| (Q_HO317 h0_)) (by decide)) hk (fun _ h => h.2)) (fun _ h => h.1)) (fun _ h_ => by first | trivial | exact h_ | exact h_.1))
     clear BK303 HO309 HO312 HB HI306
     have BK303 := n0_
     have HO309 := n1_
     have HO312 := n2_
     have HB := n3_
     have HI306 := n4_
     clear n0_ n1_ n2_ n3_ n4_
     (try clear hb)
     (try clear hb2)
     (try clear hk)
     (try clear hi)
     refine hK.out _ _ ⟨v308, v311, v316, adz_v316, m1_, m5_, (by rw [ha.out]; exact putSel_upk 2 hb_ rfl rfl rfl), fun _ => (by exact lK BK303.out), fun h0_ => absurd ((hon 1 (by kernel_rfl)).symm.trans h0_) (by decide), (by exact jB HB.out), fun _ => (by exact lR HO309.out), fun _ => (by exact lR HO312.out), fun _ h1_ => absurd ((up_self b 4).symm.trans h1_) (by decide), z_HO317, Q_HA_HO317, fun _ => (by exact IsS59.j HI306.out), fun h0_ => absurd ((hoff 7 (by kernel_rfl)).symm.trans h0_) (by decide), Q_X1_, fun h0_ => absurd ((hoff 5 (by kernel_rfl)).symm.trans h0_) (by decide)⟩
    refine steps_cons ?_ ?_
    ·rintro b a w' ⟨v308, v311, v316, adz_v316, m1_, m5_, ha, Q_BK303, Q_HI306, Q_HB, Q_HO309, Q_HO312, Q_HI306_e1, Q_HO317, Q_HA_HO317, Q_HI306_e4, Q_BK303_e7, Q_X1_, Q_X5_⟩ hb_ hon hoff
     refine ⟨_, rfl, fun K hK => ?_⟩
     have e9 : a.tmps[9]? = some (v316) := by rw [ha]; exact putSel_on (e := (2, 9, v316)) 1 rfl rfl (hon 2 (by kernel_rfl)) rfl
     have e11 : a.tmps[11]? = some (.int .i64 t318) := by rw [ha]; exact putSel_on (e := (4, 11, .int .i64 t318)) 2 rfl rfl (hon 4 (by kernel_rfl)) rfl
     replace ha := Aside0.mk ha
     have HB := Aside0.mk Q_HB
     have HO309 := Aside0.mk (Q_HO309 (hon 1 (by kernel_rfl)))
     have HO312 := Aside0.mk (Q_HO312 (hon 1 (by kernel_rfl)))
     have HO317 := Aside0.mk (Q_HO317 (hon 2 (by kernel_rfl)))
     have HA_HO317 := Aside0.mk (Q_HA_HO317 (hon 2 (by kernel_rfl)))
     have HI306 := Aside0.mk (Q_HI306_e4 (hon 4 (by kernel_rfl)))
     obtain ⟨c_, hv_⟩ := HA_HO317.out
     rw [hv_] at e9
     refine value_ (w1 := w') (v := .pointer (some (adz_v316.add (t318).toNat))) (by rfl) rfl ?_ ?_
     ·go_simp
      (try simp only [i64_w])
      try rfl
     refine hK.out _ _ ⟨v308, v311, v316, adz_v316, m1_, (.pointer (some (adz_v316.add (t318).toNat))), (by rw [ha.out]; exact putSel_upk 3 hb_ rfl rfl rfl), Q_BK303, fun h0_ => absurd ((hon 1 (by kernel_rfl)).symm.trans h0_) (by decide), Q_HB, Q_HO309, Q_HO312, fun _ h1_ => absurd ((hon 4 (by kernel_rfl)).symm.trans h1_) (by decide), Q_HO317, Q_HA_HO317, Q_HI306_e4, Q_BK303_e7, Q_X1_, fun _ => rfl⟩
    refine steps_cons ?_ ?_
    ·rintro b a w' ⟨v308, v311, v316, adz_v316, m1_, m5_, ha, Q_BK303, Q_HI306, Q_HB, Q_HO309, Q_HO312, Q_HI306_e1, Q_HO317, Q_HA_HO317, Q_HI306_e4, Q_BK303_e7, Q_X1_, Q_X5_⟩ hb_ hon hoff
     refine ⟨_, rfl, fun K hK => ?_⟩
     have e12 : a.tmps[12]? = some (m5_) := by rw [ha]; exact putSel_on (e := (5, 12, m5_)) 3 rfl rfl (hon 5 (by kernel_rfl)) rfl
     rw [Q_X5_ (hon 5 (by kernel_rfl))] at e12
     replace ha := Aside0.mk ha
     have HB := Aside0.mk Q_HB
     have HO309 := Aside0.mk (Q_HO309 (hon 1 (by kernel_rfl)))
     have HO312 := Aside0.mk (Q_HO312 (hon 1 (by kernel_rfl)))
     have HO317 := Aside0.mk (Q_HO317 (hon 2 (by kernel_rfl)))
     have HA_HO317 := Aside0.mk (Q_HA_HO317 (hon 2 (by kernel_rfl)))
     have HI306 := Aside0.mk (Q_HI306_e4 (hon 4 (by kernel_rfl)))
     obtain ⟨c_, hv_⟩ := HA_HO317.out
     have hF_ := HO317.out
     rw [hv_] at hF_
     obtain ⟨ad_, ea_, hx_⟩ := Kd.at_int (Kd.R_reads' hF_).2.2 t318 (of_eq_true pi320) (of_eq_true qi320)
     cases ea_
     refine value_ (w1 := w') (v := .int .i64 (rd y315 t318)) (by rfl) rfl ?_ ?_
     ·go_simp
      (try simp only [i64_w])
      try rfl
     refine hK.out _ _ ⟨v308, v311, v316, adz_v316, m1_, m5_, (by rw [ha.out]; exact putSel_upk 4 hb_ rfl rfl rfl), Q_BK303, fun h0_ => absurd ((hon 1 (by kernel_rfl)).symm.trans h0_) (by decide), Q_HB, Q_HO309, Q_HO312, fun _ h1_ => absurd ((hon 4 (by kernel_rfl)).symm.trans h1_) (by decide), Q_HO317, Q_HA_HO317, Q_HI306_e4, Q_BK303_e7, Q_X1_, Q_X5_⟩
    refine steps_cons ?_ ?_
    ·rintro b a w' ⟨v308, v311, v316, adz_v316, m1_, m5_, ha, Q_BK303, Q_HI306, Q_HB, Q_HO309, Q_HO312, Q_HI306_e1, Q_HO317, Q_HA_HO317, Q_HI306_e4, Q_BK303_e7, Q_X1_, Q_X5_⟩ hb_ hon hoff
     refine ⟨_, rfl, fun K hK => ?_⟩
     have e2 : a.tmps[2]? = some (.pointer (some ⟨gb303, 0, none⟩)) := by rw [ha]; exact (putSel_off rfl).trans rfl
     have e8 : a.tmps[8]? = some (m1_) := by rw [ha]; exact putSel_on (e := (1, 8, m1_)) 0 rfl rfl (hon 1 (by kernel_rfl)) rfl
     rw [Q_X1_ (hon 1 (by kernel_rfl))] at e8
     replace ha := Aside0.mk ha
     have BK303 := Aside0.mk (Q_BK303 hb_)
     have HB := Aside0.mk Q_HB
     have HO309 := Aside0.mk (Q_HO309 (hon 1 (by kernel_rfl)))
     have HO312 := Aside0.mk (Q_HO312 (hon 1 (by kernel_rfl)))
     have HI306 := Aside0.mk (Q_HI306_e4 (hon 4 (by kernel_rfl)))
     obtain ⟨Ao13, co13, eo13⟩ := Kd.R_slice HO309.out
     (first | subst eo13 | (injection eo13 with f1_ f2_ f3_; have f4_ := f1_.symm; have f5_ := f3_.symm; clear f1_ f2_ f3_; subst f4_; subst f5_))
     obtain ⟨Ao15, co15, eo15⟩ := Kd.R_slice HO312.out
     (first | subst eo15 | (injection eo15 with f1_ f2_ f3_; have f4_ := f1_.symm; have f5_ := f3_.symm; clear f1_ f2_ f3_; subst f4_; subst f5_))
     have hs14 : w'.cell? ⟨gb303, 0, none⟩ = some (.slice none 0 0) := (blk_cell BK303.out 0).trans rfl
     have hfs14 := blk_frozen BK303.out 0
     have hs16 : w'.cell? ⟨gb303, 1, none⟩ = some (.slice none 0 0) := (blk_cell BK303.out 1).trans rfl
     have hfs16 := blk_frozen BK303.out 1
     have hs17 : w'.cell? ⟨gb303, 2, none⟩ = some (.int .i64 0) := (blk_cell BK303.out 2).trans rfl
     have hfs17 := blk_frozen BK303.out 2
     refine skip_ (w1 := ?_) (by rfl) rfl ?_ ?_
     rotate_left
     ·go_simp
      rfl
     refine hK.out _ _ ⟨.slice Ao13 t307.length co13, .slice Ao15 t310.length co15, v316, adz_v316, m1_, m5_, (by rw [ha.out]; exact putSel_none (v := undef) rfl), fun h0_ => absurd ((up_self b 7).symm.trans h0_) (by decide), fun h0_ => absurd ((hon 1 (by kernel_rfl)).symm.trans h0_) (by decide), (by exact jB HB.out), fun _ => (by (with_reducible repeat (first | apply ra | apply rn | apply re)); exact R3 HO309.out BK303.out), fun _ => (by (with_reducible repeat (first | apply ra | apply rn | apply re)); exact R3 HO312.out BK303.out), fun _ h1_ => absurd ((hon 4 (by kernel_rfl)).symm.trans h1_) (by decide), fun h0_ => (by exact R3 (Q_HO317 h0_) BK303.out), Q_HA_HO317, fun _ => (by exact IsS59.j HI306.out), fun _ => (by (with_reducible repeat first | refine kN ?_ _ | refine kD ?_ | refine kA ?_ _); refine blk_put (cs := #[.slice Ao13 t307.length co13, .slice Ao15 t310.length co15, .int .i64 0]) ?_ 2 _ rfl; (with_reducible repeat first | refine kN ?_ _ | refine kD ?_ | refine kA ?_ _); refine blk_put (cs := #[.slice Ao13 t307.length co13, .slice none 0 0, .int .i64 0]) ?_ 1 _ rfl; (with_reducible repeat first | refine kN ?_ _ | refine kD ?_ | refine kA ?_ _); refine blk_put (cs := #[.slice none 0 0, .slice none 0 0, .int .i64 0]) ?_ 0 _ rfl; exact lK BK303.out), Q_X1_, Q_X5_⟩
    refine steps_cons ?_ ?_
    ·rintro b a w' ⟨v308, v311, v316, adz_v316, m1_, m5_, ha, Q_BK303, Q_HI306, Q_HB, Q_HO309, Q_HO312, Q_HI306_e1, Q_HO317, Q_HA_HO317, Q_HI306_e4, Q_BK303_e7, Q_X1_, Q_X5_⟩ hb_ hon hoff
     refine ⟨_, rfl, fun K hK => ?_⟩
     have e13 : a.tmps[13]? = some (.int .i64 (rd y315 t318)) := by rw [ha]; exact putSel_on (e := (6, 13, .int .i64 (rd y315 t318))) 4 rfl rfl (hon 6 (by kernel_rfl)) rfl
     replace ha := Aside0.mk ha
     have HB := Aside0.mk Q_HB
     have HO309 := Aside0.mk (Q_HO309 (hon 1 (by kernel_rfl)))
     have HO312 := Aside0.mk (Q_HO312 (hon 1 (by kernel_rfl)))
     have HO317 := Aside0.mk (Q_HO317 (hon 2 (by kernel_rfl)))
     have HA_HO317 := Aside0.mk (Q_HA_HO317 (hon 2 (by kernel_rfl)))
     have HI306 := Aside0.mk (Q_HI306_e4 (hon 4 (by kernel_rfl)))
     have BK303 := Aside0.mk (Q_BK303_e7 (hon 7 (by kernel_rfl)))
     refine value_ (w1 := w') (v := .int .i64 (rd y315 t318)) (by rfl) rfl ?_ ?_
     ·go_simp
      (try simp only [i64_w])
      try rfl
     refine hK.out _ _ ⟨v308, v311, v316, adz_v316, m1_, m5_, (by rw [ha.out]; exact putSel_upk 5 hb_ rfl rfl rfl), fun h0_ => absurd ((hon 7 (by kernel_rfl)).symm.trans h0_) (by decide), fun h0_ => absurd ((hon 1 (by kernel_rfl)).symm.trans h0_) (by decide), Q_HB, Q_HO309, Q_HO312, fun _ h1_ => absurd ((hon 4 (by kernel_rfl)).symm.trans h1_) (by decide), Q_HO317, Q_HA_HO317, Q_HI306_e4, Q_BK303_e7, Q_X1_, Q_X5_⟩
    exact steps_nil
   rintro b a w20 hall ⟨v308, v311, v316, adz_v316, m1_, m5_, ha, Q_BK303, Q_HI306, Q_HB, Q_HO309, Q_HO312, Q_HI306_e1, Q_HO317, Q_HA_HO317, Q_HI306_e4, Q_BK303_e7, Q_X1_, Q_X5_⟩
   clear BK303 HB HI306
   have hb1_ := hall 1 (by kernel_rfl)
   have hb2_ := hall 2 (by kernel_rfl)
   have hb4_ := hall 4 (by kernel_rfl)
   have hb5_ := hall 5 (by kernel_rfl)
   have hb6_ := hall 6 (by kernel_rfl)
   have hb7_ := hall 7 (by kernel_rfl)
   have hb8_ := hall 8 (by kernel_rfl)
   subst ha
   obtain rfl := Q_X1_ hb1_
   obtain rfl := Q_X5_ hb5_
   simp only [putSel, hb1_, hb2_, hb4_, hb5_, hb6_, hb7_, hb8_, if_true, Act.put, List.setIfInBounds_toArray, List.set_cons_zero, List.set_cons_succ]
   clear Q_BK303 Q_HI306
   have HB := Aside0.mk Q_HB
   clear Q_HB
   have HO309 := Aside0.mk (Q_HO309 hb1_)
   clear Q_HO309
   have HO312 := Aside0.mk (Q_HO312 hb1_)
   clear Q_HO312 Q_HI306_e1
   have HO317 := Aside0.mk (Q_HO317 hb2_)
   clear Q_HO317
   have HA_HO317 := Aside0.mk (Q_HA_HO317 hb2_)
   clear Q_HA_HO317
   have HI306 := Aside0.mk (Q_HI306_e4 hb4_)
   clear Q_HI306_e4
   have BK303 := Aside0.mk (Q_BK303_e7 hb7_)
   clear Q_BK303_e7 hall hb1_ hb2_ hb4_ hb5_ hb6_ hb7_ hb8_
   obtain ⟨co21, eo21⟩ := HA_HO317.out
   clear HA_HO317
   subst eo21
   try go_wp2
   refine bodyPost_ret (results_ct rfl _ _ gb303 25 #[v308, v311, .int .i64 t313] (0, 0) _ rfl (by exact lK BK303.out) Try.underlying25 rfl (by kernel_rfl)) rfl ?_
   exact ⟨_, _, by first | rfl | (simp [errW_none, errW_some] <;> rfl) | (simp [*, errW_none, errW_some] <;> rfl), by exact lR <| Kd.R_mono HO309.out (fun _ hk => by first | exact hk | exact hk.1 | exact fun e_ => hk.1 (e_.trans (ob _ _ _ _))), by exact lR <| Kd.R_mono HO312.out (fun _ hk => by first | exact hk | exact hk.1 | exact fun e_ => hk.1 (e_.trans (ob _ _ _ _))), by exact jB HB.out⟩
  ·rw [if_neg c6] at H
   exact absurd H (by simp)
 ·rw [if_neg c5] at H
  exact absurd H (by simp)

-- NOT PRINTED: function 27 (impl_FrmForm_add)

end Go.Proofs.Ytopbdoilpdpkmaa.QFnFrmTimes

-- shorter
