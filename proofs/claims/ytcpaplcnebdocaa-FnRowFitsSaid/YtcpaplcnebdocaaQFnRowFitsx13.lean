/- Plain functions, and that the Go code computes them: written by a program of this session over the seat's translation; the conditions stand in each theorem. -/
import Derived.Test.YtcpaplcnebdocaaHW4
import Derived.Test.YtcpaplcnebdocaaQFnRowFitsx0
import Derived.Test.YtcpaplcnebdocaaQFnRowFitsx12
namespace Go.Proofs.Ytcpaplcnebdocaa.QFnRowFits
open Go.RowKit Go.Proofs.YtcpaplcnebdocaaW.PrintWords Go.Proofs.YtcpaplcnebdocaaW.PrintLast Go.Proofs.YtcpaplcnebdocaaW.PrintMore Go.Proofs.Ytcpaplcnebdocaa.HWords
open Value (ownBlock)
attribute [local go_sem] max2_int min2_int max_two min_two max_three min_three max_four min_four   -- for this text's walks alone
set_option linter.unusedVariables false
set_option linter.unusedSimpArgs false
set_option maxRecDepth 100000
set_option maxHeartbeats 8000000
/-! ### spec_l1At: function 39 -/
mutual
def spec_l1At.l0 : Nat → List Int → List Int → Int → Int → List Int → List Int → Int → Option (Int)
 | 0, _, _, _, _, _, _, _ => none
 | k + 1, x1, x2, x7, x8, x849000, x849001, x849002 => if x8 < 3 then (if 0 ≤ x8 then (if x8 < (x849000.length : Int) then (if x8 < (x1.length : Int) then (spec_l1At.l0 k x1 x2 (wrap64 (x7 + (wrap64 ((rd x849000 x8) * (rd x1 x8))))) (wrap64 (x8 + 1)) x849000 x849001 x849002) else (none)) else (none)) else (none)) else (spec_l1At.l1 k x2 x7 0 x849000 x849001 x849002)
def spec_l1At.l1 : Nat → List Int → Int → Int → List Int → List Int → Int → Option (Int)
 | 0, _, _, _, _, _, _ => none
 | k + 1, x2, x7, x9, x849000, x849001, x849002 => if x9 < 2 then (if 0 ≤ x9 then (if x9 < (x849001.length : Int) then (if x9 < (x2.length : Int) then (spec_l1At.l1 k x2 (wrap64 (x7 + (wrap64 ((rd x849001 x9) * (rd x2 x9))))) (wrap64 (x9 + 1)) x849000 x849001 x849002) else (none)) else (none)) else (none)) else (some x7)
end
def spec_l1At.f (k : Nat) (l0_0 : List Int) (l0_1 : List Int) (a0_2 : Int) (l1 : List Int) (l2 : List Int) : Option (Int) := spec_l1At.l0 k l1 l2 a0_2 0 l0_0 l0_1 a0_2
theorem spec_l1At.mono_l : ∀ k, (∀ y0 y1 y2 y3 y4 y5 y6, LeO (spec_l1At.l0 k y0 y1 y2 y3 y4 y5 y6) (spec_l1At.l0 (k + 1) y0 y1 y2 y3 y4 y5 y6)) ∧ (∀ y0 y1 y2 y3 y4 y5, LeO (spec_l1At.l1 k y0 y1 y2 y3 y4 y5) (spec_l1At.l1 (k + 1) y0 y1 y2 y3 y4 y5))
 | 0 => ⟨fun _ _ _ _ _ _ _ r h => by simp [spec_l1At.l0] at h, fun _ _ _ _ _ _ r h => by simp [spec_l1At.l1] at h⟩
 | k + 1 => by
  obtain ⟨ih0, ih1⟩ := spec_l1At.mono_l k
  refine ⟨?_, ?_⟩
  ·intro y0 y1 y2 y3 y4 y5 y6
   unfold spec_l1At.l0
   exact mo
  ·intro y0 y1 y2 y3 y4 y5
   unfold spec_l1At.l1
   exact mo
theorem spec_l1At.mono : ∀ a0 a1 a2 a3 a4 k, LeO (spec_l1At.f k a0 a1 a2 a3 a4) (spec_l1At.f (k + 1) a0 a1 a2 a3 a4) := by
 intro a0 a1 a2 a3 a4 k
 obtain ⟨ih0, ih1⟩ := spec_l1At.mono_l k
 unfold spec_l1At.f
 exact mo
theorem spec_l1At.calls (k : Nat) (A0_0 : Option Addr) (c0_0 : Nat) (l0_0 : List Int) (A0_1 : Option Addr) (c0_1 : Nat) (l0_1 : List Int) (a0_2 : Int) (A1 : Option Addr) (c1 : Nat) (l1 : List Int) (A2 : Option Addr) (c2 : Nat) (l2 : List Int) (r : Int) (w : World) (hr0_0 : Kd.C (Kd.int .i64) w A0_0 l0_0.length l0_0) (hc0_0 : l0_0.length ≤ c0_0) (hr0_1 : Kd.C (Kd.int .i64) w A0_1 l0_1.length l0_1) (hc0_1 : l0_1.length ≤ c0_1) (hr1 : Kd.C (Kd.int .i64) w A1 l1.length l1) (hc1 : l1.length ≤ c1) (hr2 : Kd.C (Kd.int .i64) w A2 l2.length l2) (hc2 : l2.length ≤ c2) (h : spec_l1At.f k l0_0 l0_1 a0_2 l1 l2 = some r) :
  Calls Try.prog 39 #[.agg #[.slice A0_0 l0_0.length c0_0, .slice A0_1 l0_1.length c0_1, .int .i64 a0_2], .slice A1 l1.length c1, .slice A2 l2.length c2] w fun e w' => e = .returned (.int .i64 r) ∧ Below w.heap.size w w' := by
 have hu34 := Try.underlying34; have HR0_0 := aM hr0_0; have HC0_0 := aM hc0_0; clear hr0_0 hc0_0; have HR0_1 := aM hr0_1; have HC0_1 := aM hc0_1; clear hr0_1 hc0_1; have HR1 := aM hr1; have HC1 := aM hc1; clear hr1 hc1; have HR2 := aM hr2; have HC2 := aM hc2; clear hr2 hc2; have HB := aM (Below.refl w.heap.size w); have H : (spec_l1At.l0 k l1 l2 a0_2 0 l0_0 l0_1 a0_2) = some r := h
 clear h; have H' := aM H
 clear H; go_enter Try.func39, Try.ntmps39
 go_wp2_with (first | ((with_reducible refine gate_dst (N := 3) rfl ?_); refine bx 3 #[.slice A0_0 l0_0.length c0_0, .slice A0_1 l0_1.length c0_1, .int .i64 a0_2] 34 ?_; intro gb848 hg w4 hbox hb; have BK848 := aM (hbox); have GW848 := aM (gz hg HB.out); have IGW848 := wn GW848.out; have GE848 := aM (gz hg HB.out); have IGE848 := wn GE848.out; replace HB := aM (bj HB.out hb); clear hb hbox hg; obtain ⟨hcz5_0, hcz5_1, hcz5_2, hfz5_0, hfz5_1, hfz5_2⟩ := cf3 BK848.out))
 repeat (go_quiet (first | ((with_reducible refine gate_dst (N := 3) rfl ?_); refine bx 3 #[.slice A0_0 l0_0.length c0_0, .slice A0_1 l0_1.length c0_1, .int .i64 a0_2] 34 ?_; intro gb848 hg w4 hbox hb; have BK848 := aM (hbox); have GW848 := aM (gz hg HB.out); have IGW848 := wn GW848.out; have GE848 := aM (gz hg HB.out); have IGE848 := wn GE848.out; replace HB := aM (bj HB.out hb); clear hb hbox hg; obtain ⟨hcz5_0, hcz5_1, hcz5_2, hfz5_0, hfz5_1, hfz5_2⟩ := cf3 BK848.out)); try go_wp2_with (first | ((with_reducible refine gate_dst (N := 3) rfl ?_); refine bx 3 #[.slice A0_0 l0_0.length c0_0, .slice A0_1 l0_1.length c0_1, .int .i64 a0_2] 34 ?_; intro gb848 hg w4 hbox hb; have BK848 := aM (hbox); have GW848 := aM (gz hg HB.out); have IGW848 := wn GW848.out; have GE848 := aM (gz hg HB.out); have IGE848 := wn GE848.out; replace HB := aM (bj HB.out hb); clear hb hbox hg; obtain ⟨hcz5_0, hcz5_1, hcz5_2, hfz5_0, hfz5_1, hfz5_2⟩ := cf3 BK848.out)))
 go_loopg [7, 8] k (fun kq v7 v8 w' => ∃ (x7_1 : Int) (x8_1 : Int), v7 = .int .i64 x7_1 ∧ v8 = .int .i64 x8_1 ∧ Aside0 (spec_l1At.l0 kq l1 l2 x7_1 x8_1 l0_0 l0_1 a0_2 = some r) ∧ Aside0 (kq ≤ k) ∧ Aside0 (w'.heap[gb848]? = some (.cells #[(.slice A0_0 l0_0.length c0_0), (.slice A0_1 l0_1.length c0_1), .int .i64 a0_2] 34 (0, 0))) ∧ Aside0 (Below w.heap.size w w'))
 case atStart => exact ⟨(a0_2), (0), sr, sr, H', ⟨Nat.le_refl _⟩, ⟨by exact lK <| BK848.out⟩, ⟨by exact jB HB.out⟩⟩
 case round =>
  clear H'
  (try clear c1); (try clear c2); (try clear p2); (try clear c3); (try clear hcz5_0); (try clear hcz5_1); (try clear hcz5_2); (try clear hfz5_0); (try clear hfz5_1); (try clear hfz5_2)
  obtain ⟨x7_1, x8_1, rfl, rfl, HA, HK1, BK848, HB⟩ := hrel
  cases gk with
  | zero => exact absurd HA.out (by simp [spec_l1At.l0])
  | succ k1 =>
   have H := HA.out
   clear HA; simp only [spec_l1At.l0] at H
   by_cases c6 : x8_1 < 3
   ·rw [if_pos c6] at H; replace c6 := decide_eq_true c6; obtain ⟨c7, H⟩ := iD H; obtain ⟨c8, H⟩ := iD H; obtain ⟨c9, H⟩ := iD H; have H' := aM H
    clear H; obtain ⟨hcz10_0, hcz10_1, hcz10_2, hfz10_0, hfz10_1, hfz10_2⟩ := cf3 BK848.out
    have p849 : 0 ≤ (x8_1 : Int) := od; have q849 : x8_1 < (l0_0.length : Int) := od; obtain ⟨ad849, e849, hx849_0⟩ := Kd.at_int HR0_0.out x8_1 p849 q849
    cases e849; replace hx849_0 := cl HB.out hx849_0; replace p849 := eq_true p849; replace q849 := eq_true q849; have p850 : 0 ≤ (x8_1 : Int) := od; have q850 : x8_1 < (l1.length : Int) := od; obtain ⟨ad850, e850, hx850_0⟩ := Kd.at_int HR1.out x8_1 p850 q850
    cases e850; replace hx850_0 := cl HB.out hx850_0; replace p850 := eq_true p850; replace q850 := eq_true q850; go_wp2
    repeat (go_quiet (fail); try go_wp2)
    go_roundg k1
    case measure => have := HK1.out; omega
    case rel => exact ⟨(wrap64 (x7_1 + (wrap64 ((rd l0_0 x8_1) * (rd l1 x8_1))))), (wrap64 (x8_1 + 1)), sr, sr, H', ⟨by have := HK1.out; omega⟩, ⟨by exact lK <| BK848.out⟩, ⟨by exact jB HB.out⟩⟩
   ·rw [if_neg c6] at H; replace c6 := decide_eq_false c6; have H' := aM H
    clear H; go_wp2
    repeat (go_quiet (fail); try go_wp2)
    go_loopg [7, 9] k1 (fun kq v7 v9 w' => ∃ (x7_2 : Int) (x9_2 : Int), v7 = .int .i64 x7_2 ∧ v9 = .int .i64 x9_2 ∧ Aside0 (spec_l1At.l1 kq l2 x7_2 x9_2 l0_0 l0_1 a0_2 = some r) ∧ Aside0 (kq ≤ k1) ∧ Aside0 (w'.heap[gb848]? = some (.cells #[(.slice A0_0 l0_0.length c0_0), (.slice A0_1 l0_1.length c0_1), .int .i64 a0_2] 34 (0, 0))) ∧ Aside0 (Below w.heap.size w w'))
    case atStart => exact ⟨(x7_1), (0), sr, sr, H', ⟨Nat.le_refl _⟩, ⟨by exact lK <| BK848.out⟩, ⟨by exact jB HB.out⟩⟩
    case round =>
     clear H'
     (try clear c1); (try clear c2); (try clear p2); (try clear c3); (try clear c6); (try clear p6); (try clear c7); (try clear c8); (try clear p8); (try clear q8); (try clear hx8); (try clear c9); (try clear hcz10_0); (try clear hcz10_1); (try clear hcz10_2); (try clear hcz5_0); (try clear hcz5_1); (try clear hcz5_2); (try clear hfz10_0); (try clear hfz10_1); (try clear hfz10_2); (try clear hfz5_0); (try clear hfz5_1); (try clear hfz5_2); (try clear hx849_0); (try clear hx850_0); (try clear p849); (try clear p850); (try clear q849); (try clear q850)
     obtain ⟨x7_2, x9_2, rfl, rfl, HA, HK2, BK848, HB⟩ := hrel
     cases gk with
     | zero => exact absurd HA.out (by simp [spec_l1At.l1])
     | succ k2 =>
      have H := HA.out
      clear HA; simp only [spec_l1At.l1] at H
      by_cases c11 : x9_2 < 2
      ·rw [if_pos c11] at H; replace c11 := decide_eq_true c11; obtain ⟨c12, H⟩ := iD H; obtain ⟨c13, H⟩ := iD H; obtain ⟨c14, H⟩ := iD H; have H' := aM H
       clear H; obtain ⟨hcz15_0, hcz15_1, hcz15_2, hfz15_0, hfz15_1, hfz15_2⟩ := cf3 BK848.out
       have p851 : 0 ≤ (x9_2 : Int) := od; have q851 : x9_2 < (l0_1.length : Int) := od; obtain ⟨ad851, e851, hx851_0⟩ := Kd.at_int HR0_1.out x9_2 p851 q851
       cases e851; replace hx851_0 := cl HB.out hx851_0; replace p851 := eq_true p851; replace q851 := eq_true q851; have p852 : 0 ≤ (x9_2 : Int) := od; have q852 : x9_2 < (l2.length : Int) := od; obtain ⟨ad852, e852, hx852_0⟩ := Kd.at_int HR2.out x9_2 p852 q852
       cases e852; replace hx852_0 := cl HB.out hx852_0; replace p852 := eq_true p852; replace q852 := eq_true q852; go_wp2
       repeat (go_quiet (fail); try go_wp2)
       go_roundg k2
       case measure => have := HK1.out; have := HK2.out; omega
       case rel => exact ⟨(wrap64 (x7_2 + (wrap64 ((rd l0_1 x9_2) * (rd l2 x9_2))))), (wrap64 (x9_2 + 1)), sr, sr, H', ⟨by have := HK1.out; have := HK2.out; omega⟩, ⟨by exact lK <| BK848.out⟩, ⟨by exact jB HB.out⟩⟩
      ·rw [if_neg c11] at H; replace c11 := decide_eq_false c11; obtain rfl := Option.some.inj H
       go_wp2
       repeat (go_quiet (fail); try go_wp2)
       go_ret
       exact ⟨er, by exact jB HB.out⟩
/-! ### spec_RowFits: function 12 -/
mutual
def spec_RowFits.j0 : Nat → List Int → List Int → Bool → List (S34) → List (S34) → List (S34) → Bool → Option (Bool)
 | 0, _, _, _, _, _, _, _ => none
 | k + 1, x1, x2, x20, x854000, x854001, x854002, x854003 => if x20 = true then (some false) else (spec_RowFits.l0 k x1 x2 0 x854000 x854001 x854002 x854003)
def spec_RowFits.l0 : Nat → List Int → List Int → Int → List (S34) → List (S34) → List (S34) → Bool → Option (Bool)
 | 0, _, _, _, _, _, _, _ => none
 | k + 1, x1, x2, x7, x854000, x854001, x854002, x854003 => if x7 < (x854000.length : Int) then (if 0 ≤ x7 then ((spec_l1At.f k ((rd_T34 x854000 x7).f0) ((rd_T34 x854000 x7).f1) ((rd_T34 x854000 x7).f2) x1 x2).bind fun t858 => (if t858 < 0 then (some false) else (spec_RowFits.l0 k x1 x2 (wrap64 (x7 + 1)) x854000 x854001 x854002 x854003))) else (none)) else (some true)
end
def spec_RowFits.f (k : Nat) (l0_0 : List (S34)) (l0_1 : List (S34)) (l0_2 : List (S34)) (a0_3 : Bool) (l1 : List Int) (l2 : List Int) : Option (Bool) := (spec_RowOk.f k l0_0 l0_1 l0_2 a0_3).bind fun t854 => (if t854 = true then ((spec_ValOk.f k l1).bind fun t855 => (if t855 = true then ((spec_ArgOk.f k l2).bind fun t856 => (spec_RowFits.j0 k l1 l2 (!t856) l0_0 l0_1 l0_2 a0_3)) else (spec_RowFits.j0 k l1 l2 true l0_0 l0_1 l0_2 a0_3))) else (spec_RowFits.j0 k l1 l2 true l0_0 l0_1 l0_2 a0_3))
theorem spec_RowFits.mono_l : ∀ k, (∀ y0 y1 y2 y3 y4 y5 y6, LeO (spec_RowFits.j0 k y0 y1 y2 y3 y4 y5 y6) (spec_RowFits.j0 (k + 1) y0 y1 y2 y3 y4 y5 y6)) ∧ (∀ y0 y1 y2 y3 y4 y5 y6, LeO (spec_RowFits.l0 k y0 y1 y2 y3 y4 y5 y6) (spec_RowFits.l0 (k + 1) y0 y1 y2 y3 y4 y5 y6))
 | 0 => ⟨fun _ _ _ _ _ _ _ r h => by simp [spec_RowFits.j0] at h, fun _ _ _ _ _ _ _ r h => by simp [spec_RowFits.l0] at h⟩
 | k + 1 => by
  obtain ⟨ih0, ih1⟩ := spec_RowFits.mono_l k
  refine ⟨?_, ?_⟩
  ·intro y0 y1 y2 y3 y4 y5 y6
   unfold spec_RowFits.j0
   have := @spec_ArgOk.mono
   have := @spec_RowOk.mono
   have := @spec_ValOk.mono
   have := @spec_l1At.mono
   exact mo
  ·intro y0 y1 y2 y3 y4 y5 y6
   unfold spec_RowFits.l0
   have := @spec_ArgOk.mono
   have := @spec_RowOk.mono
   have := @spec_ValOk.mono
   have := @spec_l1At.mono
   exact mo
theorem spec_RowFits.mono : ∀ a0 a1 a2 a3 a4 a5 k, LeO (spec_RowFits.f k a0 a1 a2 a3 a4 a5) (spec_RowFits.f (k + 1) a0 a1 a2 a3 a4 a5) := by
 intro a0 a1 a2 a3 a4 a5 k
 obtain ⟨ih0, ih1⟩ := spec_RowFits.mono_l k
 unfold spec_RowFits.f
 have := @spec_ArgOk.mono
 have := @spec_RowOk.mono
 have := @spec_ValOk.mono
 have := @spec_l1At.mono
 exact mo
set_option maxHeartbeats 8000000 in
set_option maxRecDepth 100000 in
theorem spec_RowFits.calls (k : Nat) (A0_0 : Option Addr) (c0_0 : Nat) (l0_0 : List (S34)) (A0_1 : Option Addr) (c0_1 : Nat) (l0_1 : List (S34)) (A0_2 : Option Addr) (c0_2 : Nat) (l0_2 : List (S34)) (a0_3 : Bool) (A1 : Option Addr) (c1 : Nat) (l1 : List Int) (A2 : Option Addr) (c2 : Nat) (l2 : List Int) (r : Bool) (w : World) (hr0_0 : Kd.C k34 w A0_0 l0_0.length l0_0) (hc0_0 : l0_0.length ≤ c0_0) (hr0_1 : Kd.C k34 w A0_1 l0_1.length l0_1) (hc0_1 : l0_1.length ≤ c0_1) (hr0_2 : Kd.C k34 w A0_2 l0_2.length l0_2) (hc0_2 : l0_2.length ≤ c0_2) (hr1 : Kd.C (Kd.int .i64) w A1 l1.length l1) (hc1 : l1.length ≤ c1) (hr2 : Kd.C (Kd.int .i64) w A2 l2.length l2) (hc2 : l2.length ≤ c2) (h : spec_RowFits.f k l0_0 l0_1 l0_2 a0_3 l1 l2 = some r) :
  Calls Try.prog 12 #[.agg #[.slice A0_0 l0_0.length c0_0, .slice A0_1 l0_1.length c0_1, .slice A0_2 l0_2.length c0_2, .bool a0_3], .slice A1 l1.length c1, .slice A2 l2.length c2] w fun e w' => e = .returned (.bool r) ∧ Below w.heap.size w w' := by
 have hu25 := Try.underlying25; have hu34 := Try.underlying34; have HR0_0 := aM hr0_0; have HC0_0 := aM hc0_0; clear hr0_0 hc0_0; have HR0_1 := aM hr0_1; have HC0_1 := aM hc0_1; clear hr0_1 hc0_1; have HR0_2 := aM hr0_2; have HC0_2 := aM hc0_2; clear hr0_2 hc0_2; have HR1 := aM hr1; have HC1 := aM hc1; clear hr1 hc1; have HR2 := aM hr2; have HC2 := aM hc2; clear hr2 hc2; have HB := aM (Below.refl w.heap.size w); have H : ((spec_RowOk.f k l0_0 l0_1 l0_2 a0_3).bind fun t854 => (if t854 = true then ((spec_ValOk.f k l1).bind fun t855 => (if t855 = true then ((spec_ArgOk.f k l2).bind fun t856 => (spec_RowFits.j0 k l1 l2 (!t856) l0_0 l0_1 l0_2 a0_3)) else (spec_RowFits.j0 k l1 l2 true l0_0 l0_1 l0_2 a0_3))) else (spec_RowFits.j0 k l1 l2 true l0_0 l0_1 l0_2 a0_3))) = some r := h
 clear h; have HC4 := aM H; clear H; go_enter Try.func12, Try.ntmps12
 go_upto_region 1 with (first | ((with_reducible refine gate_dst (N := 3) rfl ?_); refine bx 3 #[.slice A0_0 l0_0.length c0_0, .slice A0_1 l0_1.length c0_1, .slice A0_2 l0_2.length c0_2, .bool a0_3] 25 ?_; intro gb853 hg w5 hbox hb; have BK853 := aM (hbox); have GW853 := aM (gz hg HB.out); have IGW853 := wn GW853.out; have GE853 := aM (gz hg HB.out); have IGE853 := wn GE853.out; replace HB := aM (bj HB.out hb); clear hb hbox hg))
 (try simp only [Act.put, sA, s0, sS])
 go_cut [20] (fun v20 wc => ∃ (kq : Nat) (x20_3 : Bool), v20 = .bool x20_3 ∧ Aside0 (spec_RowFits.j0 kq l1 l2 x20_3 l0_0 l0_1 l0_2 a0_3 = some r) ∧ Aside0 (kq ≤ k) ∧ Aside0 (wc.heap[gb853]? = some (.cells #[(.slice A0_0 l0_0.length c0_0), (.slice A0_1 l0_1.length c0_1), (.slice A0_2 l0_2.length c0_2), .bool a0_3] 25 (0, 0))) ∧ Aside0 (Below w.heap.size w wc))
 case first =>
  have H := HC4.out
  clear HC4; obtain ⟨t854, A6, H⟩ := bS H
  try dsimp only at H
  by_cases c7 : t854 = true
  ·subst c7; rw [if_pos rfl] at H
   try dsimp only at H
   obtain ⟨t855, A8, H⟩ := bS H
   try dsimp only at H
   by_cases c9 : t855 = true
   ·subst c9; rw [if_pos rfl] at H
    try dsimp only at H
    obtain ⟨t856, A10, H⟩ := bS H
    try dsimp only at H
    have H' := aM H
    clear H; have hcz11_0 : w5.cell? ⟨gb853, 0, none⟩ = some (.slice A0_0 l0_0.length c0_0) := (blk_cell BK853.out 0).trans rfl
    have hcz11_1 : w5.cell? ⟨gb853, 1, none⟩ = some (.slice A0_1 l0_1.length c0_1) := (blk_cell BK853.out 1).trans rfl
    have hcz11_2 : w5.cell? ⟨gb853, 2, none⟩ = some (.slice A0_2 l0_2.length c0_2) := (blk_cell BK853.out 2).trans rfl
    have hcz11_3 : w5.cell? ⟨gb853, 3, none⟩ = some (.bool a0_3) := (blk_cell BK853.out 3).trans rfl
    have hfz11_0 := blk_frozen BK853.out 0
    have hfz11_1 := blk_frozen BK853.out 1
    have hfz11_2 := blk_frozen BK853.out 2
    have hfz11_3 := blk_frozen BK853.out 3
    go_wp2_with (first | (refine gL (some 9) Try.func13 #[.agg #[.slice A0_0 l0_0.length c0_0, .slice A0_1 l0_1.length c0_1, .slice A0_2 l0_2.length c0_2, .bool a0_3]] ?_; (with_reducible refine (spec_RowOk.calls k _ _ l0_0 _ _ l0_1 _ _ l0_2 a0_3 true _ (by exact lC <| (Kd.C_below HR0_0.out HB.out)) HC0_0.out (by exact lC <| (Kd.C_below HR0_1.out HB.out)) HC0_1.out (by exact lC <| (Kd.C_below HR0_2.out HB.out)) HC0_2.out A6.out).mono ?_); rintro e w12 ⟨rfl, hb⟩; refine ⟨_, rfl, ?_⟩; replace BK853 := aM (bb BK853.out hb); replace HB := aM (bj HB.out hb); (try clear hb)) | (go_at_call 37; (with_reducible refine (spec_ValOk.calls k _ _ l1 true _ (by exact lC <| (Kd.C_below HR1.out HB.out)) HC1.out A8.out).mono ?_); rintro e w' ⟨rfl, ⟨nd, rfl⟩⟩) | (go_at_call 38; (with_reducible refine (spec_ArgOk.calls k _ _ l2 t856 _ ?side1 ?side2 A10.out).mono ?_); (case side1 => repeat (first | exact (Kd.C_below HR2.out (by exact jB HB.out)) | (with_reducible refine Kd.C_alloc ?_ _) | (with_reducible refine Kd.C_drewN ?_ _) | (with_reducible refine Kd.C_drew ?_))); (case side2 => exact HC2.out); rintro e w' ⟨rfl, ⟨nd, rfl⟩⟩))
    go_meet
    case rel => exact ⟨_, (!t856), sr, H', ⟨by first | omega | exact Nat.le_refl _⟩, ⟨by exact lK <| BK853.out⟩, ⟨by exact jB HB.out⟩⟩
   ·replace c9 := Bool.eq_false_iff.mpr c9
    subst c9; rw [if_neg nf] at H
    try dsimp only at H
    have H' := aM H
    clear H; have hcz13_0 : w5.cell? ⟨gb853, 0, none⟩ = some (.slice A0_0 l0_0.length c0_0) := (blk_cell BK853.out 0).trans rfl
    have hcz13_1 : w5.cell? ⟨gb853, 1, none⟩ = some (.slice A0_1 l0_1.length c0_1) := (blk_cell BK853.out 1).trans rfl
    have hcz13_2 : w5.cell? ⟨gb853, 2, none⟩ = some (.slice A0_2 l0_2.length c0_2) := (blk_cell BK853.out 2).trans rfl
    have hcz13_3 : w5.cell? ⟨gb853, 3, none⟩ = some (.bool a0_3) := (blk_cell BK853.out 3).trans rfl
    have hfz13_0 := blk_frozen BK853.out 0
    have hfz13_1 := blk_frozen BK853.out 1
    have hfz13_2 := blk_frozen BK853.out 2
    have hfz13_3 := blk_frozen BK853.out 3
    go_wp2_with (first | (refine gL (some 9) Try.func13 #[.agg #[.slice A0_0 l0_0.length c0_0, .slice A0_1 l0_1.length c0_1, .slice A0_2 l0_2.length c0_2, .bool a0_3]] ?_; (with_reducible refine (spec_RowOk.calls k _ _ l0_0 _ _ l0_1 _ _ l0_2 a0_3 true _ (by exact lC <| (Kd.C_below HR0_0.out HB.out)) HC0_0.out (by exact lC <| (Kd.C_below HR0_1.out HB.out)) HC0_1.out (by exact lC <| (Kd.C_below HR0_2.out HB.out)) HC0_2.out A6.out).mono ?_); rintro e w14 ⟨rfl, hb⟩; refine ⟨_, rfl, ?_⟩; replace BK853 := aM (bb BK853.out hb); replace HB := aM (bj HB.out hb); (try clear hb)) | (go_at_call 37; (with_reducible refine (spec_ValOk.calls k _ _ l1 false _ (by exact lC <| (Kd.C_below HR1.out HB.out)) HC1.out A8.out).mono ?_); rintro e w' ⟨rfl, ⟨nd, rfl⟩⟩))
    go_meet
    case rel => exact ⟨_, (true), sr, H', ⟨by first | omega | exact Nat.le_refl _⟩, ⟨by exact lK <| BK853.out⟩, ⟨by exact jB HB.out⟩⟩
  ·replace c7 := Bool.eq_false_iff.mpr c7
   subst c7; rw [if_neg nf] at H
   try dsimp only at H
   have H' := aM H
   clear H; have hcz15_0 : w5.cell? ⟨gb853, 0, none⟩ = some (.slice A0_0 l0_0.length c0_0) := (blk_cell BK853.out 0).trans rfl
   have hcz15_1 : w5.cell? ⟨gb853, 1, none⟩ = some (.slice A0_1 l0_1.length c0_1) := (blk_cell BK853.out 1).trans rfl
   have hcz15_2 : w5.cell? ⟨gb853, 2, none⟩ = some (.slice A0_2 l0_2.length c0_2) := (blk_cell BK853.out 2).trans rfl
   have hcz15_3 : w5.cell? ⟨gb853, 3, none⟩ = some (.bool a0_3) := (blk_cell BK853.out 3).trans rfl
   have hfz15_0 := blk_frozen BK853.out 0
   have hfz15_1 := blk_frozen BK853.out 1
   have hfz15_2 := blk_frozen BK853.out 2
   have hfz15_3 := blk_frozen BK853.out 3
   go_wp2_with (first | (refine gL (some 9) Try.func13 #[.agg #[.slice A0_0 l0_0.length c0_0, .slice A0_1 l0_1.length c0_1, .slice A0_2 l0_2.length c0_2, .bool a0_3]] ?_; (with_reducible refine (spec_RowOk.calls k _ _ l0_0 _ _ l0_1 _ _ l0_2 a0_3 false _ (by exact lC <| (Kd.C_below HR0_0.out HB.out)) HC0_0.out (by exact lC <| (Kd.C_below HR0_1.out HB.out)) HC0_1.out (by exact lC <| (Kd.C_below HR0_2.out HB.out)) HC0_2.out A6.out).mono ?_); rintro e w16 ⟨rfl, hb⟩; refine ⟨_, rfl, ?_⟩; replace BK853 := aM (bb BK853.out hb); replace HB := aM (bj HB.out hb); (try clear hb)))
   go_meet
   case rel => exact ⟨_, (true), sr, H', ⟨by first | omega | exact Nat.le_refl _⟩, ⟨by exact lK <| BK853.out⟩, ⟨by exact jB HB.out⟩⟩
 case rest =>
  clear HC4; (try clear c1); (try clear c2); (try clear p2); (try clear c7); (try clear c9); (try clear c12); (try clear c13); (try clear hcz11_0); (try clear hcz11_1); (try clear hcz11_2); (try clear hcz11_3); (try clear hcz13_0); (try clear hcz13_1); (try clear hcz13_2); (try clear hcz13_3); (try clear hcz15_0); (try clear hcz15_1); (try clear hcz15_2); (try clear hcz15_3); (try clear hfz11_0); (try clear hfz11_1); (try clear hfz11_2); (try clear hfz11_3); (try clear hfz13_0); (try clear hfz13_1); (try clear hfz13_2); (try clear hfz13_3); (try clear hfz15_0); (try clear hfz15_1); (try clear hfz15_2); (try clear hfz15_3)
  obtain ⟨kq, x20_3, rfl, HA, HJ3, BK853, HB⟩ := hcut
  cases kq with
  | zero => exact absurd HA.out (by simp [spec_RowFits.j0])
  | succ kj3 =>
   have H := HA.out
   clear HA; simp only [spec_RowFits.j0] at H
   by_cases c17 : x20_3 = true
   ·subst c17; rw [if_pos rfl] at H
    try dsimp only at H
    obtain rfl := Option.some.inj H
    go_wp2
    go_ret
    exact ⟨er, by exact jB HB.out⟩
   ·replace c17 := Bool.eq_false_iff.mpr c17
    subst c17; rw [if_neg nf] at H
    try dsimp only at H
    have H' := aM H
    clear H; go_wp2
    go_loopg [7] kj3 (fun kq v7 w' => ∃ (x7_2 : Int), v7 = .int .i64 x7_2 ∧ Aside0 (spec_RowFits.l0 kq l1 l2 x7_2 l0_0 l0_1 l0_2 a0_3 = some r) ∧ Aside0 (kq ≤ kj3) ∧ Aside0 (w'.heap[gb853]? = some (.cells #[(.slice A0_0 l0_0.length c0_0), (.slice A0_1 l0_1.length c0_1), (.slice A0_2 l0_2.length c0_2), .bool a0_3] 25 (0, 0))) ∧ Aside0 (Below w.heap.size w w'))
    case atStart => exact ⟨(0), sr, H', ⟨Nat.le_refl _⟩, ⟨by exact lK <| BK853.out⟩, ⟨by exact jB HB.out⟩⟩
    case round =>
     clear H'
     (try clear c1); (try clear c2); (try clear p2); (try clear c7); (try clear c9); (try clear c12); (try clear c13); (try clear c17); (try clear hcz11_0); (try clear hcz11_1); (try clear hcz11_2); (try clear hcz11_3); (try clear hcz13_0); (try clear hcz13_1); (try clear hcz13_2); (try clear hcz13_3); (try clear hcz15_0); (try clear hcz15_1); (try clear hcz15_2); (try clear hcz15_3); (try clear hfz11_0); (try clear hfz11_1); (try clear hfz11_2); (try clear hfz11_3); (try clear hfz13_0); (try clear hfz13_1); (try clear hfz13_2); (try clear hfz13_3); (try clear hfz15_0); (try clear hfz15_1); (try clear hfz15_2); (try clear hfz15_3)
     obtain ⟨x7_2, rfl, HA, HK2, BK853, HB⟩ := hrel
     cases gk with
     | zero => exact absurd HA.out (by simp [spec_RowFits.l0])
     | succ k2 =>
      have H := HA.out
      clear HA; simp only [spec_RowFits.l0] at H
      by_cases c18 : x7_2 < (l0_0.length : Int)
      ·rw [if_pos c18] at H; replace c18 := decide_eq_true c18; obtain ⟨c19, H⟩ := iD H; obtain ⟨t858, A20, H⟩ := bS H
       try dsimp only at H
       by_cases c21 : t858 < 0
       ·rw [if_pos c21] at H; replace c21 := decide_eq_true c21; obtain rfl := Option.some.inj H
        have hcz22_0 : wr.cell? ⟨gb853, 0, none⟩ = some (.slice A0_0 l0_0.length c0_0) := (blk_cell BK853.out 0).trans rfl
        have hcz22_1 : wr.cell? ⟨gb853, 1, none⟩ = some (.slice A0_1 l0_1.length c0_1) := (blk_cell BK853.out 1).trans rfl
        have hcz22_2 : wr.cell? ⟨gb853, 2, none⟩ = some (.slice A0_2 l0_2.length c0_2) := (blk_cell BK853.out 2).trans rfl
        have hcz22_3 : wr.cell? ⟨gb853, 3, none⟩ = some (.bool a0_3) := (blk_cell BK853.out 3).trans rfl
        have hfz22_0 := blk_frozen BK853.out 0
        have hfz22_1 := blk_frozen BK853.out 1
        have hfz22_2 := blk_frozen BK853.out 2
        have hfz22_3 := blk_frozen BK853.out 3
        have p857 : 0 ≤ (x7_2 : Int) := od; have q857 : x7_2 < (l0_0.length : Int) := od; obtain ⟨ad857, A857_0, c857_0, A857_1, c857_1, e857, hx857_0, hx857_1, hx857_2, hl857_0, hi857_0, hl857_1, hi857_1⟩ := at_T34 HR0_0.out x7_2 p857 q857
        cases e857; replace hx857_0 := cl HB.out hx857_0; replace hx857_1 := cl HB.out hx857_1; replace hx857_2 := cl HB.out hx857_2; have HR857_0 := aM hi857_0; have HC857_0 := aM hl857_0; clear hi857_0 hl857_0; have HR857_1 := aM hi857_1; have HC857_1 := aM hl857_1; clear hi857_1 hl857_1; replace p857 := eq_true p857; replace q857 := eq_true q857; go_wp2_with (first | (refine gL (some 35) Try.func39 #[.agg #[.slice A857_0 ((rd_T34 l0_0 x7_2).f0).length c857_0, .slice A857_1 ((rd_T34 l0_0 x7_2).f1).length c857_1, .int .i64 ((rd_T34 l0_0 x7_2).f2)], .slice A1 l1.length c1, .slice A2 l2.length c2] ?_; (with_reducible refine (spec_l1At.calls k2 _ _ ((rd_T34 l0_0 x7_2).f0) _ _ ((rd_T34 l0_0 x7_2).f1) ((rd_T34 l0_0 x7_2).f2) _ _ l1 _ _ l2 t858 _ (by exact lC <| (Kd.C_below HR857_0.out HB.out)) HC857_0.out (by exact lC <| (Kd.C_below HR857_1.out HB.out)) HC857_1.out (by exact lC <| (Kd.C_below HR1.out HB.out)) HC1.out (by exact lC <| (Kd.C_below HR2.out HB.out)) HC2.out A20.out).mono ?_); rintro e w23 ⟨rfl, hb⟩; refine ⟨_, rfl, ?_⟩; replace BK853 := aM (bb BK853.out hb); replace HB := aM (bj HB.out hb); (try clear hb)))
        go_ret
        exact ⟨er, by exact jB HB.out⟩
       ·rw [if_neg c21] at H; replace c21 := decide_eq_false c21; have H' := aM H
        clear H; have hcz24_0 : wr.cell? ⟨gb853, 0, none⟩ = some (.slice A0_0 l0_0.length c0_0) := (blk_cell BK853.out 0).trans rfl
        have hcz24_1 : wr.cell? ⟨gb853, 1, none⟩ = some (.slice A0_1 l0_1.length c0_1) := (blk_cell BK853.out 1).trans rfl
        have hcz24_2 : wr.cell? ⟨gb853, 2, none⟩ = some (.slice A0_2 l0_2.length c0_2) := (blk_cell BK853.out 2).trans rfl
        have hcz24_3 : wr.cell? ⟨gb853, 3, none⟩ = some (.bool a0_3) := (blk_cell BK853.out 3).trans rfl
        have hfz24_0 := blk_frozen BK853.out 0
        have hfz24_1 := blk_frozen BK853.out 1
        have hfz24_2 := blk_frozen BK853.out 2
        have hfz24_3 := blk_frozen BK853.out 3
        have p857 : 0 ≤ (x7_2 : Int) := od; have q857 : x7_2 < (l0_0.length : Int) := od; obtain ⟨ad857, A857_0, c857_0, A857_1, c857_1, e857, hx857_0, hx857_1, hx857_2, hl857_0, hi857_0, hl857_1, hi857_1⟩ := at_T34 HR0_0.out x7_2 p857 q857
        cases e857; replace hx857_0 := cl HB.out hx857_0; replace hx857_1 := cl HB.out hx857_1; replace hx857_2 := cl HB.out hx857_2; have HR857_0 := aM hi857_0; have HC857_0 := aM hl857_0; clear hi857_0 hl857_0; have HR857_1 := aM hi857_1; have HC857_1 := aM hl857_1; clear hi857_1 hl857_1; replace p857 := eq_true p857; replace q857 := eq_true q857; go_wp2_with (first | (refine gL (some 35) Try.func39 #[.agg #[.slice A857_0 ((rd_T34 l0_0 x7_2).f0).length c857_0, .slice A857_1 ((rd_T34 l0_0 x7_2).f1).length c857_1, .int .i64 ((rd_T34 l0_0 x7_2).f2)], .slice A1 l1.length c1, .slice A2 l2.length c2] ?_; (with_reducible refine (spec_l1At.calls k2 _ _ ((rd_T34 l0_0 x7_2).f0) _ _ ((rd_T34 l0_0 x7_2).f1) ((rd_T34 l0_0 x7_2).f2) _ _ l1 _ _ l2 t858 _ (by exact lC <| (Kd.C_below HR857_0.out HB.out)) HC857_0.out (by exact lC <| (Kd.C_below HR857_1.out HB.out)) HC857_1.out (by exact lC <| (Kd.C_below HR1.out HB.out)) HC1.out (by exact lC <| (Kd.C_below HR2.out HB.out)) HC2.out A20.out).mono ?_); rintro e w25 ⟨rfl, hb⟩; refine ⟨_, rfl, ?_⟩; replace BK853 := aM (bb BK853.out hb); replace HB := aM (bj HB.out hb); (try clear hb)))
        go_roundg k2
        case measure => have := HJ3.out; have := HK2.out; omega
        case rel => exact ⟨(wrap64 (x7_2 + 1)), sr, H', ⟨by have := HJ3.out; have := HK2.out; omega⟩, ⟨by exact lK <| BK853.out⟩, ⟨by exact jB HB.out⟩⟩
      ·rw [if_neg c18] at H; replace c18 := decide_eq_false c18; obtain rfl := Option.some.inj H
       have hcz26_0 : wr.cell? ⟨gb853, 0, none⟩ = some (.slice A0_0 l0_0.length c0_0) := (blk_cell BK853.out 0).trans rfl
       have hcz26_1 : wr.cell? ⟨gb853, 1, none⟩ = some (.slice A0_1 l0_1.length c0_1) := (blk_cell BK853.out 1).trans rfl
       have hcz26_2 : wr.cell? ⟨gb853, 2, none⟩ = some (.slice A0_2 l0_2.length c0_2) := (blk_cell BK853.out 2).trans rfl
       have hcz26_3 : wr.cell? ⟨gb853, 3, none⟩ = some (.bool a0_3) := (blk_cell BK853.out 3).trans rfl
       have hfz26_0 := blk_frozen BK853.out 0
       have hfz26_1 := blk_frozen BK853.out 1
       have hfz26_2 := blk_frozen BK853.out 2
       have hfz26_3 := blk_frozen BK853.out 3
       go_wp2
       go_ret
       exact ⟨er, by exact jB HB.out⟩
end Go.Proofs.Ytcpaplcnebdocaa.QFnRowFits
-- shorter
