/- Plain functions, and that the Go code computes them: written by a program of this session over the seat's translation; the conditions stand in each theorem. -/
import Derived.Test.YtcpaplcnebdocaaHW5
import Derived.Test.YtcpaplcnebdocaaQFnRowDox0
import Derived.Test.YtcpaplcnebdocaaQFnRowDox12
namespace Go.Proofs.Ytcpaplcnebdocaa.QFnRowDo
open Go.RowKit Go.Proofs.YtcpaplcnebdocaaW.PrintWords Go.Proofs.YtcpaplcnebdocaaW.PrintLast Go.Proofs.YtcpaplcnebdocaaW.PrintMore Go.Proofs.Ytcpaplcnebdocaa.HWords
open Value (ownBlock)
attribute [local go_sem] max2_int min2_int max_two min_two max_three min_three max_four min_four   -- for this text's walks alone
set_option linter.unusedVariables false
set_option linter.unusedSimpArgs false
set_option maxRecDepth 100000
set_option maxHeartbeats 8000000
/-! ### spec_l1At: function 39 -/
mutual
def spec_l1At.l0 : Nat → List Int → List Int → Int → Int → List Int → List Int → Int → Option (Int)
 | 0, _, _, _, _, _, _, _ => none
 | k + 1, x1, x2, x7, x8, x849000, x849001, x849002 => if x8 < 3 then (if 0 ≤ x8 then (if x8 < (x849000.length : Int) then (if x8 < (x1.length : Int) then (spec_l1At.l0 k x1 x2 (wrap64 (x7 + (wrap64 ((rd x849000 x8) * (rd x1 x8))))) (wrap64 (x8 + 1)) x849000 x849001 x849002) else (none)) else (none)) else (none)) else (spec_l1At.l1 k x2 x7 0 x849000 x849001 x849002)
def spec_l1At.l1 : Nat → List Int → Int → Int → List Int → List Int → Int → Option (Int)
 | 0, _, _, _, _, _, _ => none
 | k + 1, x2, x7, x9, x849000, x849001, x849002 => if x9 < 2 then (if 0 ≤ x9 then (if x9 < (x849001.length : Int) then (if x9 < (x2.length : Int) then (spec_l1At.l1 k x2 (wrap64 (x7 + (wrap64 ((rd x849001 x9) * (rd x2 x9))))) (wrap64 (x9 + 1)) x849000 x849001 x849002) else (none)) else (none)) else (none)) else (some x7)
end
def spec_l1At.f (k : Nat) (l0_0 : List Int) (l0_1 : List Int) (a0_2 : Int) (l1 : List Int) (l2 : List Int) : Option (Int) := spec_l1At.l0 k l1 l2 a0_2 0 l0_0 l0_1 a0_2
theorem spec_l1At.calls (k : Nat) (A0_0 : Option Addr) (c0_0 : Nat) (l0_0 : List Int) (A0_1 : Option Addr) (c0_1 : Nat) (l0_1 : List Int) (a0_2 : Int) (A1 : Option Addr) (c1 : Nat) (l1 : List Int) (A2 : Option Addr) (c2 : Nat) (l2 : List Int) (r : Int) (w : World) (hr0_0 : Kd.C (Kd.int .i64) w A0_0 l0_0.length l0_0) (hc0_0 : l0_0.length ≤ c0_0) (hr0_1 : Kd.C (Kd.int .i64) w A0_1 l0_1.length l0_1) (hc0_1 : l0_1.length ≤ c0_1) (hr1 : Kd.C (Kd.int .i64) w A1 l1.length l1) (hc1 : l1.length ≤ c1) (hr2 : Kd.C (Kd.int .i64) w A2 l2.length l2) (hc2 : l2.length ≤ c2) (h : spec_l1At.f k l0_0 l0_1 a0_2 l1 l2 = some r) :
  Calls Try.prog 39 #[.agg #[.slice A0_0 l0_0.length c0_0, .slice A0_1 l0_1.length c0_1, .int .i64 a0_2], .slice A1 l1.length c1, .slice A2 l2.length c2] w fun e w' => e = .returned (.int .i64 r) ∧ Below w.heap.size w w' := by
 have hu34 := Try.underlying34; have HR0_0 := aM hr0_0; have HC0_0 := aM hc0_0; clear hr0_0 hc0_0; have HR0_1 := aM hr0_1; have HC0_1 := aM hc0_1; clear hr0_1 hc0_1; have HR1 := aM hr1; have HC1 := aM hc1; clear hr1 hc1; have HR2 := aM hr2; have HC2 := aM hc2; clear hr2 hc2; have HB := aM (Below.refl w.heap.size w); have H : (spec_l1At.l0 k l1 l2 a0_2 0 l0_0 l0_1 a0_2) = some r := h
 clear h; have H' := aM H
 clear H; go_enter Try.func39, Try.ntmps39
 go_wp2_with (first | ((with_reducible refine gate_dst (N := 3) rfl ?_); refine bx 3 #[.slice A0_0 l0_0.length c0_0, .slice A0_1 l0_1.length c0_1, .int .i64 a0_2] 34 ?_; intro gb848 hg w4 hbox hb; have BK848 := aM (hbox); have GW848 := aM (gz hg HB.out); have IGW848 := wn GW848.out; have GE848 := aM (gz hg HB.out); have IGE848 := wn GE848.out; replace HB := aM (bj HB.out hb); clear hb hbox hg; obtain ⟨hcz5_0, hcz5_1, hcz5_2, hfz5_0, hfz5_1, hfz5_2⟩ := cf3 BK848.out))
 repeat (go_quiet (first | ((with_reducible refine gate_dst (N := 3) rfl ?_); refine bx 3 #[.slice A0_0 l0_0.length c0_0, .slice A0_1 l0_1.length c0_1, .int .i64 a0_2] 34 ?_; intro gb848 hg w4 hbox hb; have BK848 := aM (hbox); have GW848 := aM (gz hg HB.out); have IGW848 := wn GW848.out; have GE848 := aM (gz hg HB.out); have IGE848 := wn GE848.out; replace HB := aM (bj HB.out hb); clear hb hbox hg; obtain ⟨hcz5_0, hcz5_1, hcz5_2, hfz5_0, hfz5_1, hfz5_2⟩ := cf3 BK848.out)); try go_wp2_with (first | ((with_reducible refine gate_dst (N := 3) rfl ?_); refine bx 3 #[.slice A0_0 l0_0.length c0_0, .slice A0_1 l0_1.length c0_1, .int .i64 a0_2] 34 ?_; intro gb848 hg w4 hbox hb; have BK848 := aM (hbox); have GW848 := aM (gz hg HB.out); have IGW848 := wn GW848.out; have GE848 := aM (gz hg HB.out); have IGE848 := wn GE848.out; replace HB := aM (bj HB.out hb); clear hb hbox hg; obtain ⟨hcz5_0, hcz5_1, hcz5_2, hfz5_0, hfz5_1, hfz5_2⟩ := cf3 BK848.out)))
 go_loopg [7, 8] k (fun kq v7 v8 w' => ∃ (x7_1 : Int) (x8_1 : Int), v7 = .int .i64 x7_1 ∧ v8 = .int .i64 x8_1 ∧ Aside0 (spec_l1At.l0 kq l1 l2 x7_1 x8_1 l0_0 l0_1 a0_2 = some r) ∧ Aside0 (kq ≤ k) ∧ Aside0 (w'.heap[gb848]? = some (.cells #[(.slice A0_0 l0_0.length c0_0), (.slice A0_1 l0_1.length c0_1), .int .i64 a0_2] 34 (0, 0))) ∧ Aside0 (Below w.heap.size w w'))
 case atStart => exact ⟨(a0_2), (0), sr, sr, H', ⟨Nat.le_refl _⟩, ⟨by exact lK <| BK848.out⟩, ⟨by exact jB HB.out⟩⟩
 case round =>
  clear H'
  (try clear c1); (try clear c2); (try clear p2); (try clear c3); (try clear hcz5_0); (try clear hcz5_1); (try clear hcz5_2); (try clear hfz5_0); (try clear hfz5_1); (try clear hfz5_2)
  obtain ⟨x7_1, x8_1, rfl, rfl, HA, HK1, BK848, HB⟩ := hrel
  cases gk with
  | zero => exact absurd HA.out (by simp [spec_l1At.l0])
  | succ k1 =>
   have H := HA.out
   clear HA; simp only [spec_l1At.l0] at H
   by_cases c6 : x8_1 < 3
   ·rw [if_pos c6] at H; replace c6 := decide_eq_true c6; obtain ⟨c7, H⟩ := iD H; obtain ⟨c8, H⟩ := iD H; obtain ⟨c9, H⟩ := iD H; have H' := aM H
    clear H; obtain ⟨hcz10_0, hcz10_1, hcz10_2, hfz10_0, hfz10_1, hfz10_2⟩ := cf3 BK848.out
    have p849 : 0 ≤ (x8_1 : Int) := od; have q849 : x8_1 < (l0_0.length : Int) := od; obtain ⟨ad849, e849, hx849_0⟩ := Kd.at_int HR0_0.out x8_1 p849 q849
    cases e849; replace hx849_0 := cl HB.out hx849_0; replace p849 := eq_true p849; replace q849 := eq_true q849; have p850 : 0 ≤ (x8_1 : Int) := od; have q850 : x8_1 < (l1.length : Int) := od; obtain ⟨ad850, e850, hx850_0⟩ := Kd.at_int HR1.out x8_1 p850 q850
    cases e850; replace hx850_0 := cl HB.out hx850_0; replace p850 := eq_true p850; replace q850 := eq_true q850; go_wp2
    repeat (go_quiet (fail); try go_wp2)
    go_roundg k1
    case measure => have := HK1.out; omega
    case rel => exact ⟨(wrap64 (x7_1 + (wrap64 ((rd l0_0 x8_1) * (rd l1 x8_1))))), (wrap64 (x8_1 + 1)), sr, sr, H', ⟨by have := HK1.out; omega⟩, ⟨by exact lK <| BK848.out⟩, ⟨by exact jB HB.out⟩⟩
   ·rw [if_neg c6] at H; replace c6 := decide_eq_false c6; have H' := aM H
    clear H; go_wp2
    repeat (go_quiet (fail); try go_wp2)
    go_loopg [7, 9] k1 (fun kq v7 v9 w' => ∃ (x7_2 : Int) (x9_2 : Int), v7 = .int .i64 x7_2 ∧ v9 = .int .i64 x9_2 ∧ Aside0 (spec_l1At.l1 kq l2 x7_2 x9_2 l0_0 l0_1 a0_2 = some r) ∧ Aside0 (kq ≤ k1) ∧ Aside0 (w'.heap[gb848]? = some (.cells #[(.slice A0_0 l0_0.length c0_0), (.slice A0_1 l0_1.length c0_1), .int .i64 a0_2] 34 (0, 0))) ∧ Aside0 (Below w.heap.size w w'))
    case atStart => exact ⟨(x7_1), (0), sr, sr, H', ⟨Nat.le_refl _⟩, ⟨by exact lK <| BK848.out⟩, ⟨by exact jB HB.out⟩⟩
    case round =>
     clear H'
     (try clear c1); (try clear c2); (try clear p2); (try clear c3); (try clear c6); (try clear p6); (try clear c7); (try clear c8); (try clear p8); (try clear q8); (try clear hx8); (try clear c9); (try clear hcz10_0); (try clear hcz10_1); (try clear hcz10_2); (try clear hcz5_0); (try clear hcz5_1); (try clear hcz5_2); (try clear hfz10_0); (try clear hfz10_1); (try clear hfz10_2); (try clear hfz5_0); (try clear hfz5_1); (try clear hfz5_2); (try clear hx849_0); (try clear hx850_0); (try clear p849); (try clear p850); (try clear q849); (try clear q850)
     obtain ⟨x7_2, x9_2, rfl, rfl, HA, HK2, BK848, HB⟩ := hrel
     cases gk with
     | zero => exact absurd HA.out (by simp [spec_l1At.l1])
     | succ k2 =>
      have H := HA.out
      clear HA; simp only [spec_l1At.l1] at H
      by_cases c11 : x9_2 < 2
      ·rw [if_pos c11] at H; replace c11 := decide_eq_true c11; obtain ⟨c12, H⟩ := iD H; obtain ⟨c13, H⟩ := iD H; obtain ⟨c14, H⟩ := iD H; have H' := aM H
       clear H; obtain ⟨hcz15_0, hcz15_1, hcz15_2, hfz15_0, hfz15_1, hfz15_2⟩ := cf3 BK848.out
       have p851 : 0 ≤ (x9_2 : Int) := od; have q851 : x9_2 < (l0_1.length : Int) := od; obtain ⟨ad851, e851, hx851_0⟩ := Kd.at_int HR0_1.out x9_2 p851 q851
       cases e851; replace hx851_0 := cl HB.out hx851_0; replace p851 := eq_true p851; replace q851 := eq_true q851; have p852 : 0 ≤ (x9_2 : Int) := od; have q852 : x9_2 < (l2.length : Int) := od; obtain ⟨ad852, e852, hx852_0⟩ := Kd.at_int HR2.out x9_2 p852 q852
       cases e852; replace hx852_0 := cl HB.out hx852_0; replace p852 := eq_true p852; replace q852 := eq_true q852; go_wp2
       repeat (go_quiet (fail); try go_wp2)
       go_roundg k2
       case measure => have := HK1.out; have := HK2.out; omega
       case rel => exact ⟨(wrap64 (x7_2 + (wrap64 ((rd l0_1 x9_2) * (rd l2 x9_2))))), (wrap64 (x9_2 + 1)), sr, sr, H', ⟨by have := HK1.out; have := HK2.out; omega⟩, ⟨by exact lK <| BK848.out⟩, ⟨by exact jB HB.out⟩⟩
      ·rw [if_neg c11] at H; replace c11 := decide_eq_false c11; obtain rfl := Option.some.inj H
       go_wp2
       repeat (go_quiet (fail); try go_wp2)
       go_ret
       exact ⟨er, by exact jB HB.out⟩
/-! ### spec_l2End: function 44 -/
def spec_l2End.f (k : Nat) (l0 : List Int) (l1 : List Int) (l2 : List Int) : Option (Int × List Int × List Int) := (spec_ValOk.f k l1).bind fun t902 => (if t902 = true then (some (1, l2, l1)) else ((some (([] : List Int) : List Int)).bind fun y903 => (if y903.length + l0.length < 17592186044416 then (some (3, ([] : List Int), (y903 ++ l0))) else (none))))
theorem spec_l2End.calls (k : Nat) (A0 : Option Addr) (c0 : Nat) (l0 : List Int) (P1_ : Nat → Prop) (u9000_ : Value) (l1 : List Int) (P2_ : Nat → Prop) (u9001_ : Value) (l2 : List Int) (r1 : Int) (r2 : List Int) (r3 : List Int) (w0 w : World) (hB : Below w0.heap.size w0 w) (hr0 : ∀ W_, Kept w W_ (fun k_ => P1_ k_ ∨ P2_ k_) → Kd.C (Kd.int .i64) W_ A0 l0.length l0) (hc0 : l0.length ≤ c0) (ho1 : Kd.R (Kd.int .i64) 3 w w0.heap.size P1_ u9000_ l1) (hp1_2 : ∀ k_, P1_ k_ → ¬ P2_ k_) (ho2 : Kd.R (Kd.int .i64) 3 w w0.heap.size P2_ u9001_ l2) (hp2_1 : ∀ k_, P2_ k_ → ¬ P1_ k_) (h : spec_l2End.f k l0 l1 l2 = some (r1, r2, r3)) :
  Calls Try.prog 44 #[.slice A0 l0.length c0, u9000_, u9001_] w fun e w' => ∃ v1_ v2_ : Value, e = .returned (.tuple #[.agg #[.int .i64 r1, v1_], v2_]) ∧ Kd.R (Kd.int .i64) 3 w' w0.heap.size (fun k_ => ((P1_ k_ ∨ P2_ k_) ∨ w.heap.size ≤ k_) ∧ some k_ ≠ (v2_ : Value).ownBlock) v1_ r2 ∧ Kd.R (Kd.int .i64) 3 w' w0.heap.size (fun k_ => ((P1_ k_ ∨ P2_ k_) ∨ w.heap.size ≤ k_) ∧ some k_ ≠ (v1_ : Value).ownBlock) v2_ r3 ∧ Below w0.heap.size w0 w' ∧ Kept w w' (fun k_ => P1_ k_ ∨ P2_ k_) := by
 have hu38 := Try.underlying38; have HR0 := aM hr0; have HC0 := aM hc0; clear hr0 hc0; have HO1 := aM (show Kd.R (Kd.int .i64) 3 w w0.heap.size (fun k_ => ((P1_ k_ ∨ P2_ k_) ∨ w.heap.size ≤ k_) ∧ some k_ ≠ (u9001_ : Value).ownBlock) u9000_ l1 from Kd.R_mono ho1 (fun k_ hk => ⟨(.inl (.inl hk)), fun e_ => hp1_2 k_ hk (ho2.1 k_ e_.symm)⟩)); have HO2 := aM (show Kd.R (Kd.int .i64) 3 w w0.heap.size (fun k_ => ((P1_ k_ ∨ P2_ k_) ∨ w.heap.size ≤ k_) ∧ some k_ ≠ (u9000_ : Value).ownBlock) u9001_ l2 from Kd.R_mono ho2 (fun k_ hk => ⟨(.inl (.inr hk)), fun e_ => hp2_1 k_ hk (ho1.1 k_ e_.symm)⟩)); have HK := aM (Kept.refl w (fun k_ => P1_ k_ ∨ P2_ k_)); have HW0 := aM hB.size
 have HB := aM hB; clear hB; have H : ((spec_ValOk.f k l1).bind fun t902 => (if t902 = true then (some (1, l2, l1)) else ((some (([] : List Int) : List Int)).bind fun y903 => (if y903.length + l0.length < 17592186044416 then (some (3, ([] : List Int), (y903 ++ l0))) else (none))))) = some (r1, r2, r3) := h
 clear h; obtain ⟨t902, A4, H⟩ := bS H
 try dsimp only at H
 by_cases c5 : t902 = true
 ·subst c5; rw [if_pos rfl] at H
  try dsimp only at H
  simp only [Option.some.injEq, Prod.mk.injEq] at H
  obtain ⟨rfl, rfl, rfl⟩ := H
  go_enter Try.func44, Try.ntmps44
  go_wp2_with (first | ((with_reducible refine gate_dst (N := 6) rfl ?_); refine bx 6 #[.int .i64 0, .slice none 0 0] 38 ?_; intro gb901 hg w6 hbox hb; replace HO1 := aM (rb HO1.out hb); replace HO2 := aM (rb HO2.out hb); have BK901 := aM (hbox); have GW901 := aM ((by rw [hg]; exact (by first | exact HK.out.1 | exact (show Kept w _ (fun k_ => P1_ k_ ∨ P2_ k_) from by repeat (first | (with_reducible first | exact HK.out | apply Kept.alloc | apply Kept.drewN | apply Kept.drew) | exact HK.out)).1) : w.heap.size ≤ gb901)); have IGW901 := wn GW901.out; replace HK := aM (Kept.below (S := (fun k_ => P1_ k_ ∨ P2_ k_)) (by repeat (first | (with_reducible first | exact HK.out | apply Kept.alloc | apply Kept.drewN | apply Kept.drew) | exact HK.out)) hb); have GE901 := aM ((by rw [hg]; exact (bz HB.out) : w0.heap.size ≤ gb901)); have IGE901 := wn GE901.out; replace HB := aM (bj HB.out hb); clear hb hbox hg; obtain ⟨Ao7, co7, rfl⟩ := Kd.R_slice HO1.out) | (refine gL (some 9) Try.func37 #[.slice Ao7 l1.length co7] ?_; (with_reducible refine (spec_ValOk.calls k _ _ l1 true _ (by exact lC <| (Kd.R_reads' HO1.out).2.2) (by exact (Kd.R_reads' HO1.out).2.1) A4.out).mono ?_); rintro e w' ⟨rfl, ⟨nd, rfl⟩⟩; refine ⟨_, rfl, ?_⟩; (try (rw [drewN_self w6]; generalize hq_ : World.drewN w6 _ = w6; replace HO1 : Aside0 (Kd.R (Kd.int .i64) 3 w6 w0.heap.size (fun k_ => ((((P1_ k_ ∨ P2_ k_) ∨ w.heap.size ≤ k_)) ∧ some k_ ≠ (u9001_ : Value).ownBlock)) (.slice Ao7 l1.length co7) l1) := ⟨by rw [← hq_]; exact (by exact lR HO1.out)⟩; replace HO2 : Aside0 (Kd.R (Kd.int .i64) 3 w6 w0.heap.size (fun k_ => ((((P1_ k_ ∨ P2_ k_) ∨ w.heap.size ≤ k_)) ∧ some k_ ≠ ownBlock (.slice Ao7 l1.length co7))) u9001_ l2) := ⟨by rw [← hq_]; exact (by exact lR HO2.out)⟩; replace BK901 : Aside0 (w6.heap[gb901]? = some (.cells #[.int .i64 0, .slice none 0 0] 38 (0, 0))) := ⟨by rw [← hq_]; exact (by exact lK BK901.out)⟩; replace HK : Aside0 (Kept w w6 (fun k_ => P1_ k_ ∨ P2_ k_)) := ⟨by rw [← hq_]; exact (by repeat (first | (with_reducible first | exact HK.out | apply Kept.alloc | apply Kept.drewN | apply Kept.drew | refine Kept.setCell ?_ (.inr GW901.out) _) | exact HK.out))⟩; replace HB : Aside0 (Below w0.heap.size w0 w6) := ⟨by rw [← hq_]; exact (by exact jB HB.out)⟩; clear hq_)); obtain ⟨Ao8, co8, rfl⟩ := Kd.R_slice HO2.out; obtain ⟨hcz9_0, hcz9_1, hfz9_0, hfz9_1⟩ := cf2 BK901.out))
  refine bodyPost_ret (results_ct rfl _ _ gb901 38 #[.int .i64 1, .slice Ao8 l2.length co8] (0, 0) _ rfl (by exact p2 (lK BK901.out)) Try.underlying38 rfl (by kernel_rfl)) rfl ?_
  exact ⟨_, _, er, by exact lR <| Kd.R_mono (Kd.R_far (p := ⟨gb901, 1, none⟩) (Kd.R_far (p := ⟨gb901, 0, none⟩) (Kd.R_types HO2.out BK901.out (by decide)) (fun _ hk => by first | exact hk.2 | exact fun e_ => hk.2 (e_.trans (ob _ _ _ _))) (.int .i64 1)) (fun _ hk => by first | exact hk.2 | exact fun e_ => hk.2 (e_.trans (ob _ _ _ _))) (.slice Ao8 l2.length co8)) (fun _ hk => ⟨hk.1.1, hk.1.2⟩), by exact lR <| Kd.R_mono (Kd.R_far (p := ⟨gb901, 1, none⟩) (Kd.R_far (p := ⟨gb901, 0, none⟩) (Kd.R_types HO1.out BK901.out (by decide)) (fun _ hk => by first | exact hk.2 | exact fun e_ => hk.2 (e_.trans (ob _ _ _ _))) (.int .i64 1)) (fun _ hk => by first | exact hk.2 | exact fun e_ => hk.2 (e_.trans (ob _ _ _ _))) (.slice Ao8 l2.length co8)) (fun _ hk => ⟨hk.1.1, hk.1.2⟩), by exact jB HB.out, by repeat (first | (with_reducible first | exact HK.out | apply Kept.alloc | apply Kept.drewN | apply Kept.drew | refine Kept.setCell ?_ (.inr GW901.out) _) | exact HK.out)⟩
 ·replace c5 := Bool.eq_false_iff.mpr c5
  subst c5; rw [if_neg nf] at H
  try dsimp only at H
  obtain ⟨y903, hy903⟩ : ∃ y_ : List Int, y_ = (([] : List Int)) := ⟨_, rfl⟩
  replace H : (if y903.length + l0.length < 17592186044416 then (some (3, ([] : List Int), (y903 ++ l0))) else (none)) = some (r1, r2, r3) := by first | (rw [hy903]; exact H) | exact H
  have Ny903 := aM hy903; clear hy903; obtain ⟨c10, H⟩ := iN H; have LMc10 := aM c10; clear c10; obtain ⟨y906, Ny906⟩ : ∃ y_ : List Int, Aside0 (y_ = (y903 ++ l0)) := ⟨_, ⟨rfl⟩⟩
  try rw [← Ny906.out] at H
  try dsimp only [Option.bind_some] at H
  simp only [Option.some.injEq, Prod.mk.injEq] at H
  obtain ⟨rfl, rfl, rfl⟩ := H
  go_enter Try.func44, Try.ntmps44
  go_wp2_with (first | ((with_reducible refine gate_dst (N := 6) rfl ?_); refine bx 6 #[.int .i64 0, .slice none 0 0] 38 ?_; intro gb901 hg w11 hbox hb; replace HO1 := aM (rb HO1.out hb); replace HO2 := aM (rb HO2.out hb); have BK901 := aM (hbox); have GW901 := aM ((by rw [hg]; exact (by first | exact HK.out.1 | exact (show Kept w _ (fun k_ => P1_ k_ ∨ P2_ k_) from by repeat (first | (with_reducible first | exact HK.out | apply Kept.alloc | apply Kept.drewN | apply Kept.drew) | exact HK.out)).1) : w.heap.size ≤ gb901)); have IGW901 := wn GW901.out; replace HK := aM (Kept.below (S := (fun k_ => P1_ k_ ∨ P2_ k_)) (by repeat (first | (with_reducible first | exact HK.out | apply Kept.alloc | apply Kept.drewN | apply Kept.drew) | exact HK.out)) hb); have GE901 := aM ((by rw [hg]; exact (bz HB.out) : w0.heap.size ≤ gb901)); have IGE901 := wn GE901.out; replace HB := aM (bj HB.out hb); clear hb hbox hg; obtain ⟨Ao12, co12, rfl⟩ := Kd.R_slice HO1.out) | (refine gL (some 9) Try.func37 #[.slice Ao12 l1.length co12] ?_; (with_reducible refine (spec_ValOk.calls k _ _ l1 false _ (by exact lC <| (Kd.R_reads' HO1.out).2.2) (by exact (Kd.R_reads' HO1.out).2.1) A4.out).mono ?_); rintro e w' ⟨rfl, ⟨nd, rfl⟩⟩; refine ⟨_, rfl, ?_⟩; (try (rw [drewN_self w11]; generalize hq_ : World.drewN w11 _ = w11; replace HO1 : Aside0 (Kd.R (Kd.int .i64) 3 w11 w0.heap.size (fun k_ => ((((P1_ k_ ∨ P2_ k_) ∨ w.heap.size ≤ k_)) ∧ some k_ ≠ (u9001_ : Value).ownBlock)) (.slice Ao12 l1.length co12) l1) := ⟨by rw [← hq_]; exact (by exact lR HO1.out)⟩; replace HO2 : Aside0 (Kd.R (Kd.int .i64) 3 w11 w0.heap.size (fun k_ => ((((P1_ k_ ∨ P2_ k_) ∨ w.heap.size ≤ k_)) ∧ some k_ ≠ ownBlock (.slice Ao12 l1.length co12))) u9001_ l2) := ⟨by rw [← hq_]; exact (by exact lR HO2.out)⟩; replace BK901 : Aside0 (w11.heap[gb901]? = some (.cells #[.int .i64 0, .slice none 0 0] 38 (0, 0))) := ⟨by rw [← hq_]; exact (by exact lK BK901.out)⟩; replace HK : Aside0 (Kept w w11 (fun k_ => P1_ k_ ∨ P2_ k_)) := ⟨by rw [← hq_]; exact (by repeat (first | (with_reducible first | exact HK.out | apply Kept.alloc | apply Kept.drewN | apply Kept.drew | refine Kept.setCell ?_ (.inr GW901.out) _) | exact HK.out))⟩; replace HB : Aside0 (Below w0.heap.size w0 w11) := ⟨by rw [← hq_]; exact (by exact jB HB.out)⟩; clear hq_))) | ((with_reducible refine gate_dst (N := 12) rfl ?_); refine rlW 12 [] [] ?_; intro v904 w13 ho14 hb hg_ hnew_; clear hg_ hnew_; rw [← Ny903.out] at ho14; have HO905 := aM (Kd.R_lower (Kd.R_new' (Kd.R_new' (Kd.R_newM (M := fun k_ => ((P1_ k_ ∨ P2_ k_) ∨ w.heap.size ≤ k_)) ho14 (by first | exact HK.out.1 | exact (show Kept w _ (fun k_ => P1_ k_ ∨ P2_ k_) from by repeat (first | (with_reducible first | exact HK.out | apply Kept.alloc | apply Kept.drewN | apply Kept.drew | refine Kept.setCell ?_ (.inr GW901.out) _) | exact HK.out)).1) (fun k_ h_ => .inr h_)) (rl HO1.out)) (rl HO2.out)) (bz HB.out)); replace HO1 := aM (Kd.R_elder' (by exact lR HO1.out) (Kd.R_base ho14) hb); replace HO2 := aM (Kd.R_elder' (by exact lR HO2.out) (Kd.R_base ho14) hb); replace BK901 := aM (bb BK901.out hb); replace HK := aM (Kept.below (S := (fun k_ => P1_ k_ ∨ P2_ k_)) (by repeat (first | (with_reducible first | exact HK.out | apply Kept.alloc | apply Kept.drewN | apply Kept.drew | refine Kept.setCell ?_ (.inr GW901.out) _) | exact HK.out)) hb); replace HB := aM (bj HB.out hb); clear hb ho14) | ((with_reducible refine gate_builtin (b := .append) (xs := #[.tmp 12, .tmp 13]) rfl ?_); at_builtin; refine Kd.R_append_rows (Kd.int .i64) (w0 := w0) w0.heap.size rfl (.tmp 12) (.tmp 13) 26 3 (.int .i64 0) 8 rfl Try.underlying26 info3 rfl (by decide) (by omega) v904 y903 l0 _ _ _ (fun k_ => ((P1_ k_ ∨ P2_ k_) ∨ w.heap.size ≤ k_) ∧ some k_ ≠ ownBlock (.slice Ao12 l1.length co12) ∧ some k_ ≠ (u9001_ : Value).ownBlock) (fun _ => False) rfl rfl ?aO ?aR (fun _ _ h => h) (fun _ h => h.elim) ?aF ?aB ?aS ?aL ?_; (case aR => exact Kd.C_kept_now HR0.out (by repeat (first | (with_reducible first | exact HK.out | apply Kept.alloc | apply Kept.drewN | apply Kept.drew | refine Kept.setCell ?_ (.inr GW901.out) _) | exact HK.out))); (case aB => exact (by exact jB HB.out)); (case aF => exact (fun k_ hk => ⟨(.inr (Nat.le_trans (by first | exact HK.out.1 | exact (show Kept w _ (fun k_ => P1_ k_ ∨ P2_ k_) from by repeat (first | (with_reducible first | exact HK.out | apply Kept.alloc | apply Kept.drewN | apply Kept.drew | refine Kept.setCell ?_ (.inr GW901.out) _) | exact HK.out)).1) hk)), Kd.fresh' (rl HO1.out) k_ hk, Kd.fresh' (rl HO2.out) k_ hk⟩)); (case aO => exact (by exact lR <| Kd.R_mono HO905.out (fun _ hk => ⟨hk.1.1.1, ⟨hk.1.2, hk.2⟩⟩))); (case aS => exact (bz HB.out)); (case aL => have := LMc10.out; omega); intro v907 w15 ho hb hg hat; rw [← Ny906.out] at ho; replace HO1 := aM (Kd.R_after (ok := (fun k_ => ((P1_ k_ ∨ P2_ k_) ∨ w.heap.size ≤ k_) ∧ some k_ ≠ (u9001_ : Value).ownBlock)) (by exact lR HO1.out) hg hat); replace HO2 := aM (Kd.R_after (ok := (fun k_ => ((P1_ k_ ∨ P2_ k_) ∨ w.heap.size ≤ k_) ∧ some k_ ≠ ownBlock (.slice Ao12 l1.length co12))) (by exact lR HO2.out) hg hat); replace BK901 := aM (blk_grown (g := gb901) (lK BK901.out) hg (Kd.R_ne HO905.out BK901.out (by decide))); replace HB := aM (hb); replace HK := aM (Kept.of_grown (S := (fun k_ => P1_ k_ ∨ P2_ k_)) hg (by repeat (first | (with_reducible first | exact HK.out | apply Kept.alloc | apply Kept.drewN | apply Kept.drew | refine Kept.setCell ?_ (.inr GW901.out) _) | exact HK.out)) (fun k_ e_ => (HO905.out.1 k_ e_).1.1.1)); have HO908 := aM (ho); clear HO905 ho hb hg hat; obtain ⟨hcz16_0, hcz16_1, hfz16_0, hfz16_1⟩ := cf2 BK901.out))
  refine bodyPost_ret (results_ct rfl _ _ gb901 38 #[.int .i64 3, .slice none 0 0] (0, 0) _ rfl (by exact p2 (lK BK901.out)) Try.underlying38 rfl (by kernel_rfl)) rfl ?_
  exact ⟨_, _, er, by first | exact Kd.R_nil _ _ _ _ _ | exact Kd.N_nil _ _ _ _ _ | exact Kd.V_nil _ _ _ _ _ | exact Kd.Q_nil _ _ _ _ _ | exact Kd.S_nil _ _ _ _ _, by exact lR <| Kd.R_mono (Kd.R_far (p := ⟨gb901, 1, none⟩) (Kd.R_far (p := ⟨gb901, 0, none⟩) (Kd.R_types HO908.out BK901.out (by decide)) (fun _ hk => by first | exact hk.2 | exact fun e_ => hk.2 (e_.trans (ob _ _ _ _))) (.int .i64 3)) (fun _ hk => by first | exact hk.2 | exact fun e_ => hk.2 (e_.trans (ob _ _ _ _))) (.slice none 0 0)) (fun _ hk => ⟨hk.1.1, (by simp [Value.ownBlock])⟩), by exact jB HB.out, by repeat (first | (with_reducible first | exact HK.out | apply Kept.alloc | apply Kept.drewN | apply Kept.drew | refine Kept.setCell ?_ (.inr GW901.out) _) | exact HK.out)⟩
/-! ### spec_RowDo: function 16 -/
mutual
def spec_RowDo.j0 : Nat → List Int → List Int → Bool → List (S34) → List (S34) → List (S34) → Bool → Option (Int × List Int × List Int)
 | 0, _, _, _, _, _, _, _ => none
 | k + 1, x1, x2, x24, x910000, x910001, x910002, x910003 => if x24 = true then (some (0, ([] : List Int), (([] : List Int)))) else (if x910003 = true then ((some (([] : List Int) : List Int)).bind fun y917 => (if y917.length + x1.length < 17592186044416 then (some (2, ([] : List Int), (y917 ++ x1))) else (none))) else ((some (([] : List Int) : List Int)).bind fun y923 => (if y923.length + x1.length < 17592186044416 then (spec_RowDo.l0 k x1 x2 (y923 ++ x1) 0 x910000 x910001 x910002 x910003) else (none))))
def spec_RowDo.l0 : Nat → List Int → List Int → List Int → Int → List (S34) → List (S34) → List (S34) → Bool → Option (Int × List Int × List Int)
 | 0, _, _, _, _, _, _, _, _ => none
 | k + 1, x1, x2, x8, x9, x910000, x910001, x910002, x910003 => if x9 < 3 then (if 0 ≤ x9 then (if x9 < (x8.length : Int) then (if x9 < (x910001.length : Int) then ((spec_l1At.f k ((rd_T34 x910001 x9).f0) ((rd_T34 x910001 x9).f1) ((rd_T34 x910001 x9).f2) x1 x2).bind fun t931 => (spec_RowDo.l0 k x1 x2 (x8.set (x9 : Int).toNat (wrap64 ((rd x8 x9) + t931))) (wrap64 (x9 + 1)) x910000 x910001 x910002 x910003)) else (none)) else (none)) else (none)) else (spec_RowDo.l1 k x1 x2 x8 (([] : List Int)) 0 x910000 x910001 x910002 x910003)
def spec_RowDo.l1 : Nat → List Int → List Int → List Int → List Int → Int → List (S34) → List (S34) → List (S34) → Bool → Option (Int × List Int × List Int)
 | 0, _, _, _, _, _, _, _, _, _ => none
 | k + 1, x1, x2, x8, x10, x11, x910000, x910001, x910002, x910003 => if x11 < (x910002.length : Int) then (if 0 ≤ x11 then ((spec_l1At.f k ((rd_T34 x910002 x11).f0) ((rd_T34 x910002 x11).f1) ((rd_T34 x910002 x11).f2) x1 x2).bind fun t937 => (if x10.length < 17592186044416 then (spec_RowDo.l1 k x1 x2 x8 (x10 ++ [t937]) (wrap64 (x11 + 1)) x910000 x910001 x910002 x910003) else (none))) else (none)) else ((spec_l2End.f k x1 x8 x10).bind fun bt941 => (some (bt941.1, bt941.2.1, bt941.2.2)))
end
def spec_RowDo.f (k : Nat) (l0_0 : List (S34)) (l0_1 : List (S34)) (l0_2 : List (S34)) (a0_3 : Bool) (l1 : List Int) (l2 : List Int) : Option (Int × List Int × List Int) := (spec_RowOk.f k l0_0 l0_1 l0_2 a0_3).bind fun t911 => (if t911 = true then ((spec_ValOk.f k l1).bind fun t912 => (if t912 = true then ((spec_ArgOk.f k l2).bind fun t913 => (spec_RowDo.j0 k l1 l2 (!t913) l0_0 l0_1 l0_2 a0_3)) else (spec_RowDo.j0 k l1 l2 true l0_0 l0_1 l0_2 a0_3))) else (spec_RowDo.j0 k l1 l2 true l0_0 l0_1 l0_2 a0_3))
def spec_RowDo.T9 : Bool × List (List Nat × List Nat) := (true, [([], []), ([], []), ([], []), ([], []), ([2, 3], [2, 3]), ([4], [4]), ([], []), ([6], [6]), ([], []), ([7, 8], [7, 8]), ([9], [9]), ([], []), ([], []), ([10, 11, 12], [10, 11, 12]), ([5, 13], [5, 13]), ([0, 1, 0, 1, 2, 3, 4, 5, 6, 7, 8, 9, 10, 11, 12, 13, 14], [0, 1]), ([15, 14, 13, 0, 1, 2, 3, 4, 5, 6, 7, 8, 9, 10, 11, 12, 13, 14], [14, 15])])
def spec_RowDo.B9 : List Nat := [0, 0, 0, 0, 12, 28, 0, 64, 0, 448, 960, 0, 0, 8128, 16380, 32767, 65535]
theorem spec_RowDo.tab9 : rtab .any (opsOf Try.f16 9) = spec_RowDo.T9 := by kernel_rfl
theorem spec_RowDo.bits9 : waitsOk spec_RowDo.T9.2 spec_RowDo.B9 = true := by kernel_rfl
set_option maxHeartbeats 8000000 in
set_option maxRecDepth 100000 in
theorem spec_RowDo.calls (k : Nat) (A0_0 : Option Addr) (c0_0 : Nat) (l0_0 : List (S34)) (A0_1 : Option Addr) (c0_1 : Nat) (l0_1 : List (S34)) (A0_2 : Option Addr) (c0_2 : Nat) (l0_2 : List (S34)) (a0_3 : Bool) (A1 : Option Addr) (c1 : Nat) (l1 : List Int) (A2 : Option Addr) (c2 : Nat) (l2 : List Int) (r1 : Int) (r2 : List Int) (r3 : List Int) (w : World) (hr0_0 : Kd.C k34 w A0_0 l0_0.length l0_0) (hc0_0 : l0_0.length ≤ c0_0) (hr0_1 : Kd.C k34 w A0_1 l0_1.length l0_1) (hc0_1 : l0_1.length ≤ c0_1) (hr0_2 : Kd.C k34 w A0_2 l0_2.length l0_2) (hc0_2 : l0_2.length ≤ c0_2) (hr1 : Kd.C (Kd.int .i64) w A1 l1.length l1) (hc1 : l1.length ≤ c1) (hr2 : Kd.C (Kd.int .i64) w A2 l2.length l2) (hc2 : l2.length ≤ c2) (h : spec_RowDo.f k l0_0 l0_1 l0_2 a0_3 l1 l2 = some (r1, r2, r3)) :
  Calls Try.prog 16 #[.agg #[.slice A0_0 l0_0.length c0_0, .slice A0_1 l0_1.length c0_1, .slice A0_2 l0_2.length c0_2, .bool a0_3], .slice A1 l1.length c1, .slice A2 l2.length c2] w fun e w' => ∃ v1_ v2_ : Value, e = .returned (.tuple #[.agg #[.int .i64 r1, v1_], v2_]) ∧ Kd.R (Kd.int .i64) 3 w' w.heap.size (fun k_ => some k_ ≠ (v2_ : Value).ownBlock) v1_ r2 ∧ Kd.R (Kd.int .i64) 3 w' w.heap.size (fun k_ => some k_ ≠ (v1_ : Value).ownBlock) v2_ r3 ∧ Below w.heap.size w w' := by
 have hu25 := Try.underlying25; have hu38 := Try.underlying38; have hu34 := Try.underlying34; have HR0_0 := aM hr0_0; have HC0_0 := aM hc0_0; clear hr0_0 hc0_0; have HR0_1 := aM hr0_1; have HC0_1 := aM hc0_1; clear hr0_1 hc0_1; have HR0_2 := aM hr0_2; have HC0_2 := aM hc0_2; clear hr0_2 hc0_2; have HR1 := aM hr1; have HC1 := aM hc1; clear hr1 hc1; have HR2 := aM hr2; have HC2 := aM hc2; clear hr2 hc2; have HB := aM (Below.refl w.heap.size w); have H : ((spec_RowOk.f k l0_0 l0_1 l0_2 a0_3).bind fun t911 => (if t911 = true then ((spec_ValOk.f k l1).bind fun t912 => (if t912 = true then ((spec_ArgOk.f k l2).bind fun t913 => (spec_RowDo.j0 k l1 l2 (!t913) l0_0 l0_1 l0_2 a0_3)) else (spec_RowDo.j0 k l1 l2 true l0_0 l0_1 l0_2 a0_3))) else (spec_RowDo.j0 k l1 l2 true l0_0 l0_1 l0_2 a0_3))) = some (r1, r2, r3) := h
 clear h; have HC4 := aM H; clear H; go_enter Try.func16, Try.ntmps16
 go_upto_region 1 with (first | ((with_reducible refine gate_dst (N := 3) rfl ?_); refine bx 3 #[.slice A0_0 l0_0.length c0_0, .slice A0_1 l0_1.length c0_1, .slice A0_2 l0_2.length c0_2, .bool a0_3] 25 ?_; intro gb909 hg w5 hbox hb; have BK909 := aM (hbox); have GW909 := aM (gz hg HB.out); have IGW909 := wn GW909.out; have GE909 := aM (gz hg HB.out); have IGE909 := wn GE909.out; replace HB := aM (bj HB.out hb); clear hb hbox hg) | ((with_reducible refine gate_dst (N := 6) rfl ?_); refine bx 6 #[.int .i64 0, .slice none 0 0] 38 ?_; intro gb910 hg w6 hbox hb; have BK910 := aM (hbox); have GW910 := aM (gz hg HB.out); have IGW910 := wn GW910.out; have GE910 := aM (gz hg HB.out); have IGE910 := wn GE910.out; replace HB := aM (bj HB.out hb); have NB909_910 := aM ((neL hg (lK BK909.out) : gb909 ≠ gb910)); have NB910_909 := aM ((neG hg (lK BK909.out) : gb910 ≠ gb909)); replace BK909 := aM (bb BK909.out hb); clear hb hbox hg))
 (try simp only [Act.put, sA, s0, sS])
 go_cut [24] (fun v24 wc => ∃ (kq : Nat) (x24_3 : Bool), v24 = .bool x24_3 ∧ Aside0 (spec_RowDo.j0 kq l1 l2 x24_3 l0_0 l0_1 l0_2 a0_3 = some (r1, r2, r3)) ∧ Aside0 (kq ≤ k) ∧ Aside0 (wc.heap[gb909]? = some (.cells #[(.slice A0_0 l0_0.length c0_0), (.slice A0_1 l0_1.length c0_1), (.slice A0_2 l0_2.length c0_2), .bool a0_3] 25 (0, 0))) ∧ Aside0 (wc.heap[gb910]? = some (.cells #[.int .i64 0, (.slice none 0 0)] 38 (0, 0))) ∧ Aside0 (Below w.heap.size w wc))
 case first =>
  have H := HC4.out
  clear HC4; obtain ⟨t911, A7, H⟩ := bS H
  try dsimp only at H
  by_cases c8 : t911 = true
  ·subst c8; rw [if_pos rfl] at H
   try dsimp only at H
   obtain ⟨t912, A9, H⟩ := bS H
   try dsimp only at H
   by_cases c10 : t912 = true
   ·subst c10; rw [if_pos rfl] at H
    try dsimp only at H
    obtain ⟨t913, A11, H⟩ := bS H
    try dsimp only at H
    have H' := aM H
    clear H; have hnb12 := NB909_910.out
    have hnc12 := NB910_909.out
    obtain ⟨hcz13_0, hcz13_1, hcz13_2, hcz13_3, hfz13_0, hfz13_1, hfz13_2, hfz13_3⟩ := cf4 BK909.out
    go_wp2_with (first | (refine gL (some 13) Try.func13 #[.agg #[.slice A0_0 l0_0.length c0_0, .slice A0_1 l0_1.length c0_1, .slice A0_2 l0_2.length c0_2, .bool a0_3]] ?_; (with_reducible refine (spec_RowOk.calls k _ _ l0_0 _ _ l0_1 _ _ l0_2 a0_3 true _ (by exact lC <| (Kd.C_below HR0_0.out HB.out)) HC0_0.out (by exact lC <| (Kd.C_below HR0_1.out HB.out)) HC0_1.out (by exact lC <| (Kd.C_below HR0_2.out HB.out)) HC0_2.out A7.out).mono ?_); rintro e w14 ⟨rfl, hb⟩; refine ⟨_, rfl, ?_⟩; replace BK909 := aM (bb BK909.out hb); replace BK910 := aM (bb BK910.out hb); replace HB := aM (bj HB.out hb); (try clear hb)) | (go_at_call 37; (with_reducible refine (spec_ValOk.calls k _ _ l1 true _ (by exact lC <| (Kd.C_below HR1.out HB.out)) HC1.out A9.out).mono ?_); rintro e w' ⟨rfl, ⟨nd, rfl⟩⟩) | (go_at_call 38; (with_reducible refine (spec_ArgOk.calls k _ _ l2 t913 _ ?side1 ?side2 A11.out).mono ?_); (case side1 => repeat (first | exact (Kd.C_below HR2.out (by exact jB HB.out)) | (with_reducible refine Kd.C_alloc ?_ _) | (with_reducible refine Kd.C_drewN ?_ _) | (with_reducible refine Kd.C_drew ?_))); (case side2 => exact HC2.out); rintro e w' ⟨rfl, ⟨nd, rfl⟩⟩))
    go_meet
    case rel => exact ⟨_, (!t913), sr, H', ⟨by first | omega | exact Nat.le_refl _⟩, ⟨by exact lK <| BK909.out⟩, ⟨by exact lK <| BK910.out⟩, ⟨by exact jB HB.out⟩⟩
   ·replace c10 := Bool.eq_false_iff.mpr c10
    subst c10; rw [if_neg nf] at H
    try dsimp only at H
    have H' := aM H
    clear H; have hnb15 := NB909_910.out
    have hnc15 := NB910_909.out
    obtain ⟨hcz16_0, hcz16_1, hcz16_2, hcz16_3, hfz16_0, hfz16_1, hfz16_2, hfz16_3⟩ := cf4 BK909.out
    go_wp2_with (first | (refine gL (some 13) Try.func13 #[.agg #[.slice A0_0 l0_0.length c0_0, .slice A0_1 l0_1.length c0_1, .slice A0_2 l0_2.length c0_2, .bool a0_3]] ?_; (with_reducible refine (spec_RowOk.calls k _ _ l0_0 _ _ l0_1 _ _ l0_2 a0_3 true _ (by exact lC <| (Kd.C_below HR0_0.out HB.out)) HC0_0.out (by exact lC <| (Kd.C_below HR0_1.out HB.out)) HC0_1.out (by exact lC <| (Kd.C_below HR0_2.out HB.out)) HC0_2.out A7.out).mono ?_); rintro e w17 ⟨rfl, hb⟩; refine ⟨_, rfl, ?_⟩; replace BK909 := aM (bb BK909.out hb); replace BK910 := aM (bb BK910.out hb); replace HB := aM (bj HB.out hb); (try clear hb)) | (go_at_call 37; (with_reducible refine (spec_ValOk.calls k _ _ l1 false _ (by exact lC <| (Kd.C_below HR1.out HB.out)) HC1.out A9.out).mono ?_); rintro e w' ⟨rfl, ⟨nd, rfl⟩⟩))
    go_meet
    case rel => exact ⟨_, (true), sr, H', ⟨by first | omega | exact Nat.le_refl _⟩, ⟨by exact lK <| BK909.out⟩, ⟨by exact lK <| BK910.out⟩, ⟨by exact jB HB.out⟩⟩
  ·replace c8 := Bool.eq_false_iff.mpr c8
   subst c8; rw [if_neg nf] at H
   try dsimp only at H
   have H' := aM H
   clear H; have hnb18 := NB909_910.out
   have hnc18 := NB910_909.out
   obtain ⟨hcz19_0, hcz19_1, hcz19_2, hcz19_3, hfz19_0, hfz19_1, hfz19_2, hfz19_3⟩ := cf4 BK909.out
   go_wp2_with (first | (refine gL (some 13) Try.func13 #[.agg #[.slice A0_0 l0_0.length c0_0, .slice A0_1 l0_1.length c0_1, .slice A0_2 l0_2.length c0_2, .bool a0_3]] ?_; (with_reducible refine (spec_RowOk.calls k _ _ l0_0 _ _ l0_1 _ _ l0_2 a0_3 false _ (by exact lC <| (Kd.C_below HR0_0.out HB.out)) HC0_0.out (by exact lC <| (Kd.C_below HR0_1.out HB.out)) HC0_1.out (by exact lC <| (Kd.C_below HR0_2.out HB.out)) HC0_2.out A7.out).mono ?_); rintro e w20 ⟨rfl, hb⟩; refine ⟨_, rfl, ?_⟩; replace BK909 := aM (bb BK909.out hb); replace BK910 := aM (bb BK910.out hb); replace HB := aM (bj HB.out hb); (try clear hb)))
   go_meet
   case rel => exact ⟨_, (true), sr, H', ⟨by first | omega | exact Nat.le_refl _⟩, ⟨by exact lK <| BK909.out⟩, ⟨by exact lK <| BK910.out⟩, ⟨by exact jB HB.out⟩⟩
 case rest =>
  clear HC4; (try clear c1); (try clear c2); (try clear p2); (try clear c8); (try clear c10); (try clear c12); (try clear c13); (try clear c15); (try clear c16); (try clear c18); (try clear hcz13_0); (try clear hcz13_1); (try clear hcz13_2); (try clear hcz13_3); (try clear hcz16_0); (try clear hcz16_1); (try clear hcz16_2); (try clear hcz16_3); (try clear hcz19_0); (try clear hcz19_1); (try clear hcz19_2); (try clear hcz19_3); (try clear hfz13_0); (try clear hfz13_1); (try clear hfz13_2); (try clear hfz13_3); (try clear hfz16_0); (try clear hfz16_1); (try clear hfz16_2); (try clear hfz16_3); (try clear hfz19_0); (try clear hfz19_1); (try clear hfz19_2); (try clear hfz19_3)
  obtain ⟨kq, x24_3, rfl, HA, HJ3, BK909, BK910, HB⟩ := hcut
  cases kq with
  | zero => exact absurd HA.out (by simp [spec_RowDo.j0])
  | succ kj3 =>
   have H := HA.out
   clear HA; simp only [spec_RowDo.j0] at H
   by_cases c21 : x24_3 = true
   ·subst c21; rw [if_pos rfl] at H
    try dsimp only at H
    obtain ⟨y914, hy914⟩ : ∃ y_ : List Int, y_ = (([] : List Int)) := ⟨_, rfl⟩
    replace H : (some (0, ([] : List Int), y914)) = some (r1, r2, r3) := by first | (rw [hy914]; exact H) | exact H
    have Ny914 := aM hy914; clear hy914; simp only [Option.some.injEq, Prod.mk.injEq] at H
    obtain ⟨rfl, rfl, rfl⟩ := H
    go_wp2_with (first | ((with_reducible refine gate_dst (N := 26) rfl ?_); refine rlW 26 [] [] ?_; intro v915 w22 ho23 hb hg_ hnew_; clear hg_ hnew_; rw [← Ny914.out] at ho23; have HO916 := aM (Kd.R_lower ho23 (bz HB.out)); replace BK909 := aM (bb BK909.out hb); replace BK910 := aM (bb BK910.out hb); replace HB := aM (bj HB.out hb); clear hb ho23; have hnb24 := NB910_909.out; have hnc24 := NB909_910.out; obtain ⟨hcz25_0, hcz25_1, hfz25_0, hfz25_1⟩ := cf2 BK910.out))
    refine bodyPost_ret (results_ct rfl _ _ gb910 38 #[.int .i64 0, .slice none 0 0] (0, 0) _ rfl (by exact p2 (lK BK910.out)) Try.underlying38 rfl (by kernel_rfl)) rfl ?_
    exact ⟨_, _, er, by first | exact Kd.R_nil _ _ _ _ _ | exact Kd.N_nil _ _ _ _ _ | exact Kd.V_nil _ _ _ _ _ | exact Kd.Q_nil _ _ _ _ _ | exact Kd.S_nil _ _ _ _ _, by exact lR <| Kd.R_mono (Kd.R_far (p := ⟨gb910, 1, none⟩) (Kd.R_far (p := ⟨gb910, 0, none⟩) (Kd.R_types HO916.out BK910.out (by decide)) (fun _ hk => by first | exact hk.2 | exact fun e_ => hk.2 (e_.trans (ob _ _ _ _))) (.int .i64 0)) (fun _ hk => by first | exact hk.2 | exact fun e_ => hk.2 (e_.trans (ob _ _ _ _))) (.slice none 0 0)) (fun _ hk => (by simp [Value.ownBlock])), by exact jB HB.out⟩
   ·replace c21 := Bool.eq_false_iff.mpr c21
    subst c21; rw [if_neg nf] at H
    try dsimp only at H
    by_cases c26 : a0_3 = true
    ·subst c26; rw [if_pos rfl] at H
     try dsimp only at H
     obtain ⟨y917, hy917⟩ : ∃ y_ : List Int, y_ = (([] : List Int)) := ⟨_, rfl⟩
     replace H : (if y917.length + l1.length < 17592186044416 then (some (2, ([] : List Int), (y917 ++ l1))) else (none)) = some (r1, r2, r3) := by first | (rw [hy917]; exact H) | exact H
     have Ny917 := aM hy917; clear hy917; obtain ⟨c27, H⟩ := iN H; have LMc27 := aM c27; clear c27; obtain ⟨y920, Ny920⟩ : ∃ y_ : List Int, Aside0 (y_ = (y917 ++ l1)) := ⟨_, ⟨rfl⟩⟩
     try rw [← Ny920.out] at H
     try dsimp only [Option.bind_some] at H
     simp only [Option.some.injEq, Prod.mk.injEq] at H
     obtain ⟨rfl, rfl, rfl⟩ := H
     have hnb28 := NB909_910.out
     have hnc28 := NB910_909.out
     obtain ⟨hcz29_0, hcz29_1, hcz29_2, hcz29_3, hfz29_0, hfz29_1, hfz29_2, hfz29_3⟩ := cf4 BK909.out
     go_wp2_with (first | ((with_reducible refine gate_dst (N := 30) rfl ?_); refine rlW 30 [] [] ?_; intro v918 w30 ho31 hb hg_ hnew_; clear hg_ hnew_; rw [← Ny917.out] at ho31; have HO919 := aM (Kd.R_lower ho31 (bz HB.out)); replace BK909 := aM (bb BK909.out hb); replace BK910 := aM (bb BK910.out hb); replace HB := aM (bj HB.out hb); clear hb ho31) | ((with_reducible refine gate_builtin (b := .append) (xs := #[.tmp 30, .tmp 31]) rfl ?_); at_builtin; refine Kd.R_append_rows (Kd.int .i64) (w0 := w) w.heap.size rfl (.tmp 30) (.tmp 31) 26 3 (.int .i64 0) 8 rfl Try.underlying26 info3 rfl (by decide) (by omega) v918 y917 l1 _ _ _ (fun _ => True) (fun _ => False) rfl rfl ?aO ?aR (fun _ _ h => h) (fun _ h => h.elim) ?aF ?aB ?aS ?aL ?_; (case aR => exact lC <| (Kd.C_below HR1.out HB.out)); (case aB => exact (by exact jB HB.out)); (case aF => exact (fun _ _ => trivial)); (case aO => exact (by exact lR HO919.out)); (case aS => exact (bz HB.out)); (case aL => have := LMc27.out; omega); intro v921 w32 ho hb hg hat; rw [← Ny920.out] at ho; replace BK909 := aM (blk_grown (g := gb909) (lK BK909.out) hg (Kd.R_ne HO919.out BK909.out (by decide))); replace BK910 := aM (blk_grown (g := gb910) (lK BK910.out) hg (Kd.R_ne HO919.out BK910.out (by decide))); replace HB := aM (hb); have HO922 := aM (ho); clear HO919 ho hb hg hat; obtain ⟨hcz33_0, hcz33_1, hfz33_0, hfz33_1⟩ := cf2 BK910.out))
     refine bodyPost_ret (results_ct rfl _ _ gb910 38 #[.int .i64 2, .slice none 0 0] (0, 0) _ rfl (by exact p2 (lK BK910.out)) Try.underlying38 rfl (by kernel_rfl)) rfl ?_
     exact ⟨_, _, er, by first | exact Kd.R_nil _ _ _ _ _ | exact Kd.N_nil _ _ _ _ _ | exact Kd.V_nil _ _ _ _ _ | exact Kd.Q_nil _ _ _ _ _ | exact Kd.S_nil _ _ _ _ _, by exact lR <| Kd.R_mono (Kd.R_far (p := ⟨gb910, 1, none⟩) (Kd.R_far (p := ⟨gb910, 0, none⟩) (Kd.R_types HO922.out BK910.out (by decide)) (fun _ hk => by first | exact hk.2 | exact fun e_ => hk.2 (e_.trans (ob _ _ _ _))) (.int .i64 2)) (fun _ hk => by first | exact hk.2 | exact fun e_ => hk.2 (e_.trans (ob _ _ _ _))) (.slice none 0 0)) (fun _ hk => (by simp [Value.ownBlock])), by exact jB HB.out⟩
    ·replace c26 := Bool.eq_false_iff.mpr c26
     subst c26; rw [if_neg nf] at H
     try dsimp only at H
     obtain ⟨y923, hy923⟩ : ∃ y_ : List Int, y_ = (([] : List Int)) := ⟨_, rfl⟩
     replace H : (if y923.length + l1.length < 17592186044416 then (spec_RowDo.l0 kj3 l1 l2 (y923 ++ l1) 0 l0_0 l0_1 l0_2 false) else (none)) = some (r1, r2, r3) := by first | (rw [hy923]; exact H) | exact H
     have Ny923 := aM hy923; clear hy923; obtain ⟨c34, H⟩ := iN H; have LMc34 := aM c34; clear c34; obtain ⟨y926, Ny926⟩ : ∃ y_ : List Int, Aside0 (y_ = (y923 ++ l1)) := ⟨_, ⟨rfl⟩⟩
     try rw [← Ny926.out] at H
     try dsimp only [Option.bind_some] at H
     have H' := aM H
     clear H; have hnb35 := NB909_910.out
     have hnc35 := NB910_909.out
     obtain ⟨hcz36_0, hcz36_1, hcz36_2, hcz36_3, hfz36_0, hfz36_1, hfz36_2, hfz36_3⟩ := cf4 BK909.out
     go_wp2_with (first | ((with_reducible refine gate_dst (N := 33) rfl ?_); refine rlW 33 [] [] ?_; intro v924 w37 ho38 hb hg_ hnew_; clear hg_ hnew_; rw [← Ny923.out] at ho38; have HO925 := aM (Kd.R_lower ho38 (bz HB.out)); replace BK909 := aM (bb BK909.out hb); replace BK910 := aM (bb BK910.out hb); replace HB := aM (bj HB.out hb); clear hb ho38) | ((with_reducible refine gate_builtin (b := .append) (xs := #[.tmp 33, .tmp 34]) rfl ?_); at_builtin; refine Kd.R_append_rows (Kd.int .i64) (w0 := w) w.heap.size rfl (.tmp 33) (.tmp 34) 26 3 (.int .i64 0) 8 rfl Try.underlying26 info3 rfl (by decide) (by omega) v924 y923 l1 _ _ _ (fun _ => True) (fun _ => False) rfl rfl ?aO ?aR (fun _ _ h => h) (fun _ h => h.elim) ?aF ?aB ?aS ?aL ?_; (case aR => exact lC <| (Kd.C_below HR1.out HB.out)); (case aB => exact (by exact jB HB.out)); (case aF => exact (fun _ _ => trivial)); (case aO => exact (by exact lR HO925.out)); (case aS => exact (bz HB.out)); (case aL => have := LMc34.out; omega); intro v927 w39 ho hb hg hat; rw [← Ny926.out] at ho; replace BK909 := aM (blk_grown (g := gb909) (lK BK909.out) hg (Kd.R_ne HO925.out BK909.out (by decide))); replace BK910 := aM (blk_grown (g := gb910) (lK BK910.out) hg (Kd.R_ne HO925.out BK910.out (by decide))); replace HB := aM (hb); have HO928 := aM (ho); clear HO925 ho hb hg hat))
     go_loopg [9] kj3 (fun kq v9 w' => ∃ (x8_2 : List Int) (x9_2 : Int), v9 = .int .i64 x9_2 ∧ Aside0 (spec_RowDo.l0 kq l1 l2 x8_2 x9_2 l0_0 l0_1 l0_2 false = some (r1, r2, r3)) ∧ Aside0 (kq ≤ kj3) ∧ Aside0 (Kd.R (Kd.int .i64) 3 w' w.heap.size (fun _ => True) v927 x8_2) ∧ Aside0 (w'.heap[gb909]? = some (.cells #[(.slice A0_0 l0_0.length c0_0), (.slice A0_1 l0_1.length c0_1), (.slice A0_2 l0_2.length c0_2), .bool false] 25 (0, 0))) ∧ Aside0 (w'.heap[gb910]? = some (.cells #[.int .i64 0, (.slice none 0 0)] 38 (0, 0))) ∧ Aside0 (Below w.heap.size w w'))
     case atStart => exact ⟨(y926), (0), sr, H', ⟨Nat.le_refl _⟩, ⟨by exact lR <| HO928.out⟩, ⟨by exact lK <| BK909.out⟩, ⟨by exact lK <| BK910.out⟩, ⟨by exact jB HB.out⟩⟩
     case round =>
      clear H'
      (try clear c1); (try clear c2); (try clear p2); (try clear c3); (try clear c8); (try clear c10); (try clear c12); (try clear c13); (try clear c15); (try clear c16); (try clear c18); (try clear c21); (try clear c24); (try clear c26); (try clear c27); (try clear c28); (try clear c34); (try clear c35); (try clear hcz13_0); (try clear hcz13_1); (try clear hcz13_2); (try clear hcz13_3); (try clear hcz16_0); (try clear hcz16_1); (try clear hcz16_2); (try clear hcz16_3); (try clear hcz19_0); (try clear hcz19_1); (try clear hcz19_2); (try clear hcz19_3); (try clear hcz25_0); (try clear hcz25_1); (try clear hcz29_0); (try clear hcz29_1); (try clear hcz29_2); (try clear hcz29_3); (try clear hcz33_0); (try clear hcz33_1); (try clear hcz36_0); (try clear hcz36_1); (try clear hcz36_2); (try clear hcz36_3); (try clear hfz13_0); (try clear hfz13_1); (try clear hfz13_2); (try clear hfz13_3); (try clear hfz16_0); (try clear hfz16_1); (try clear hfz16_2); (try clear hfz16_3); (try clear hfz19_0); (try clear hfz19_1); (try clear hfz19_2); (try clear hfz19_3); (try clear hfz25_0); (try clear hfz25_1); (try clear hfz29_0); (try clear hfz29_1); (try clear hfz29_2); (try clear hfz29_3); (try clear hfz33_0); (try clear hfz33_1); (try clear hfz36_0); (try clear hfz36_1); (try clear hfz36_2); (try clear hfz36_3)
      obtain ⟨x8_2, x9_2, rfl, HA, HK2, HO_8, BK909, BK910, HB⟩ := hrel
      cases gk with
      | zero => exact absurd HA.out (by simp [spec_RowDo.l0])
      | succ k2 =>
       have H := HA.out
       clear HA; simp only [spec_RowDo.l0] at H
       by_cases c40 : x9_2 < 3
       ·rw [if_pos c40] at H; replace c40 := decide_eq_true c40; obtain ⟨c41, H⟩ := iD H; obtain ⟨c42, H⟩ := iD H; obtain ⟨c43, H⟩ := iD H; obtain ⟨t931, A44, H⟩ := bS H
        try dsimp only at H
        obtain ⟨y932, Ny932⟩ : ∃ y_ : List Int, Aside0 (y_ = (x8_2.set (x9_2 : Int).toNat (wrap64 ((rd x8_2 x9_2) + t931)))) := ⟨_, ⟨rfl⟩⟩
        try rw [← Ny932.out] at H
        try dsimp only [Option.bind_some] at H
        have H' := aM H
        clear H
        try go_wp2
        replace HO_8 := aM (Kd.R_drew HO_8.out); replace BK909 := aM (blk_drew BK909.out); replace BK910 := aM (blk_drew BK910.out); replace HB := aM (below_drew1 HB.out); obtain ⟨Ao47, co47, eo47⟩ := Kd.R_slice HO_8.out
        (first | subst eo47 | (injection eo47 with f1_ f2_ f3_; have f4_ := f1_.symm; have f5_ := f3_.symm; clear f1_ f2_ f3_; subst f4_; subst f5_))
        have p929 : 0 ≤ (x9_2 : Int) := od; have q929 : x9_2 < (x8_2.length : Int) := od; obtain ⟨ad929, e929, hx929_0⟩ := Kd.at_int (Kd.R_reads' HO_8.out).2.2 x9_2 p929 q929
        cases e929; replace p929 := eq_true p929; replace q929 := eq_true q929; have p930 : 0 ≤ (x9_2 : Int) := od; have q930 : x9_2 < (l0_1.length : Int) := od; obtain ⟨ad930, A930_0, c930_0, A930_1, c930_1, e930, hx930_0, hx930_1, hx930_2, hl930_0, hi930_0, hl930_1, hi930_1⟩ := at_T34 HR0_1.out x9_2 p930 q930
        have hw930_2 := hx930_2
        have hw930_1 := hx930_1
        have hw930_0 := hx930_0
        cases e930; replace hx930_0 := cl HB.out hx930_0; replace hx930_1 := cl HB.out hx930_1; replace hx930_2 := cl HB.out hx930_2; have HR930_0 := aM hi930_0; have HC930_0 := aM hl930_0; clear hi930_0 hl930_0; have HR930_1 := aM hi930_1; have HC930_1 := aM hl930_1; clear hi930_1 hl930_1; replace p930 := eq_true p930; replace q930 := eq_true q930; refine start_ (n := 17) (S := fun w' => w'.cell? ⟨gb909, 0, none⟩ = some (.slice A0_0 l0_0.length c0_0) ∧ w'.cell? ⟨gb909, 1, none⟩ = some (.slice (some ad930) l0_1.length c0_1) ∧ w'.cell? ⟨gb909, 2, none⟩ = some (.slice A0_2 l0_2.length c0_2) ∧ w'.cell? ⟨gb909, 3, none⟩ = some (.bool false) ∧ w'.cell? (ad929.add (x9_2).toNat) = some (.int .i64 (rd x8_2 x9_2)) ∧ w'.cell? (ad930.add ((x9_2).toNat * 3)) = some (.slice A930_0 ((rd_T34 l0_1 x9_2).f0).length c930_0) ∧ w'.cell? ⟨(ad930.add ((x9_2).toNat * 3)).block, (ad930.add ((x9_2).toNat * 3)).off + 1, none⟩ = some (.slice A930_1 ((rd_T34 l0_1 x9_2).f1).length c930_1) ∧ w'.cell? ⟨(ad930.add ((x9_2).toNat * 3)).block, (ad930.add ((x9_2).toNat * 3)).off + 2, none⟩ = some (.int .i64 ((rd_T34 l0_1 x9_2).f2))) (ds := [16]) #[false, false, false, false, false, false, false, false, false, false, false, false, false, false, false, false, false] (by kernel_rfl) rfl rfl ⟨(blk_cell BK909.out 0).trans rfl, (blk_cell BK909.out 1).trans rfl, (blk_cell BK909.out 2).trans rfl, (blk_cell BK909.out 3).trans rfl, hx929_0, (cl HB.out hw930_0), (cl HB.out hw930_1), (cl HB.out hw930_2)⟩ (fun hHeld => ?_); refine with_tabW spec_RowDo.tab9 spec_RowDo.bits9 (fun HT_ HW_ => ?_)
        generalize wr.drew = w46 at HO_8 BK909 BK910 HB HR930_0 HR930_1 hx929_0 hx930_0 hx930_1 hx930_2 hHeld ⊢
        refine pu 0 (some 40) HT_.out ?_; refine pu 1 (some 41) HT_.out ?_; refine pu 2 (some 42) HT_.out ?_; refine pu 3 (some 43) HT_.out ?_; refine pu 4 (some 44) HT_.out ?_; refine pu 6 (some 46) HT_.out ?_; refine pu 8 (some 48) HT_.out ?_; refine pu 11 (some 51) HT_.out ?_; refine pu 12 (some 52) HT_.out ?_; refine tk 5 (some 45) HT_.out HW_.out hHeld ?_; refine tk 7 (some 47) HT_.out HW_.out hHeld ?_; refine pu 9 (some 49) HT_.out ?_; refine tk 10 (some 50) HT_.out HW_.out hHeld ?_; refine oN 13 (some 53) HT_.out (fun K hK => ?_); refine gO Try.func39 #[.agg #[.slice A930_0 ((rd_T34 l0_1 x9_2).f0).length c930_0, .slice A930_1 ((rd_T34 l0_1 x9_2).f1).length c930_1, .int .i64 ((rd_T34 l0_1 x9_2).f2)], .slice A1 l1.length c1, .slice A2 l2.length c2] ?_; with_reducible refine (spec_l1At.calls k2 _ _ ((rd_T34 l0_1 x9_2).f0) _ _ ((rd_T34 l0_1 x9_2).f1) ((rd_T34 l0_1 x9_2).f2) _ _ l1 _ _ l2 t931 _ (by exact lC <| (Kd.C_below HR930_0.out HB.out)) HC930_0.out (by exact lC <| (Kd.C_below HR930_1.out HB.out)) HC930_1.out (by exact lC <| (Kd.C_below HR1.out HB.out)) HC1.out (by exact lC <| (Kd.C_below HR2.out HB.out)) HC2.out A44.out).mono ?_
        rintro e w48 ⟨rfl, hb⟩; have HS4_ := cb hb hHeld.2.2.2.2.1; refine ⟨_, rfl, ?_⟩; replace HO_8 := aM (rb HO_8.out hb); replace BK909 := aM (bb BK909.out hb); replace BK910 := aM (bb BK910.out hb); replace HB := aM (bj HB.out hb); (try clear hb); (try clear hb2); (try clear hk); (try clear hi); have p45 : 0 ≤ (x9_2 : Int) := od; have q45 : (x9_2 : Int) < ((x8_2.length : Int) : Int) := od; obtain ⟨go45, co45, eo45, gb45, gl45, cl45, HG45⟩ := Kd.R_form HO_8.out (by omega)
        (first | cases eo45 | (injection eo45 with ea_ en_ ec_; (first | subst ea_ | (injection ea_ with ea_; subst ea_)); subst ec_; clear en_))
        have GB45 := aM gb45; have IGB45 := wn GB45.out
        have GG45 := aM HG45; clear gb45 gl45 HG45
        (first | simp only [add_plain] at hx929_0 | skip)
        obtain ⟨hx45_0, hf45_0⟩ := Kd.R_celln 0 HO_8.out (x9_2 : Int) p45 q45
        replace p45 := eq_true p45; replace q45 := eq_true q45; have HP49 := Kd.R_putn HO_8.out (x9_2 : Int) (wrap64 ((rd x8_2 x9_2) + t931))
        rw [← Ny932.out] at HP49
        have HQ49 := aM HP49; clear HP49; refine hK.out _ _ ⟨(blk_cell BK909.out 0).trans rfl, (blk_cell BK909.out 1).trans rfl, (blk_cell BK909.out 2).trans rfl, (blk_cell BK909.out 3).trans rfl, HS4_, (cl HB.out hw930_0), (cl HB.out hw930_1), (cl HB.out hw930_2)⟩ (fun hHeld => ?_); clear hK K; refine nm (some 53) ?_; refine pu 14 (some 54) HT_.out ?_; refine pu 15 (some 55) HT_.out ?_; refine last_ (i := 16) (N := none) #[true, true, true, true, true, true, true, true, true, true, true, true, true, true, true, true, true] rfl rfl (one_of HT_.out (by kernel_rfl)) (by decide) (fun K hK => ?_)
        refine skip_ (w1 := ?_) (by rfl) rfl ?_ ?_
        rotate_left
        ·go_simp
         rfl
        refine hK.out _ _ ?_
        clear hK K; refine done_ (done_of HT_.out (by kernel_rfl)) ?_
        try go_wp2
        go_roundg k2
        case measure => have := HJ3.out; have := HK2.out; omega
        case rel => exact ⟨(y932), (wrap64 (x9_2 + 1)), sr, H', ⟨by have := HJ3.out; have := HK2.out; omega⟩, ⟨by exact lR <| HQ49.out⟩, ⟨by (with_reducible repeat first | refine kN ?_ _ | refine kD ?_ | refine kA ?_ _); refine blk_far ?_ (by have h_ := Kd.R_ne HO_8.out BK909.out (by decide); intro e_; exact h_ (by rw [e_]; rfl)) _; exact lK <| BK909.out⟩, ⟨by (with_reducible repeat first | refine kN ?_ _ | refine kD ?_ | refine kA ?_ _); refine blk_far ?_ (by have h_ := Kd.R_ne HO_8.out BK910.out (by decide); intro e_; exact h_ (by rw [e_]; rfl)) _; exact lK <| BK910.out⟩, ⟨by exact jB HB.out⟩⟩
       ·rw [if_neg c40] at H; replace c40 := decide_eq_false c40; obtain ⟨y933, hy933⟩ : ∃ y_ : List Int, y_ = (([] : List Int)) := ⟨_, rfl⟩
        replace H : (spec_RowDo.l1 k2 l1 l2 x8_2 y933 0 l0_0 l0_1 l0_2 false) = some (r1, r2, r3) := by first | (rw [hy933]; exact H) | exact H
        have Ny933 := aM hy933; clear hy933; have H' := aM H
        clear H; go_wp2_with (first | ((with_reducible refine gate_dst (N := 56) rfl ?_); refine rlW 56 [] [] ?_; intro v934 w50 ho51 hb hg_ hnew_; clear hg_ hnew_; rw [← Ny933.out] at ho51; have HO935 := aM (Kd.R_lower (Kd.R_new' ho51 (rl HO_8.out)) (bz HB.out)); replace HO_8 := aM (Kd.R_elder' (by exact lR HO_8.out) (Kd.R_base ho51) hb); replace BK909 := aM (bb BK909.out hb); replace BK910 := aM (bb BK910.out hb); replace HB := aM (bj HB.out hb); clear hb ho51))
        go_loopg [10, 11] k2 (fun kq v10 v11 w' => ∃ (x10_3 : List Int) (x11_3 : Int), v11 = .int .i64 x11_3 ∧ Aside0 (spec_RowDo.l1 kq l1 l2 x8_2 x10_3 x11_3 l0_0 l0_1 l0_2 false = some (r1, r2, r3)) ∧ Aside0 (kq ≤ k2) ∧ Aside0 (Kd.R (Kd.int .i64) 3 w' w.heap.size (fun k_ => some k_ ≠ v10.ownBlock) v927 x8_2) ∧ Aside0 (Kd.R (Kd.int .i64) 3 w' w.heap.size (fun k_ => some k_ ≠ v927.ownBlock) v10 x10_3) ∧ Aside0 (w'.heap[gb909]? = some (.cells #[(.slice A0_0 l0_0.length c0_0), (.slice A0_1 l0_1.length c0_1), (.slice A0_2 l0_2.length c0_2), .bool false] 25 (0, 0))) ∧ Aside0 (w'.heap[gb910]? = some (.cells #[.int .i64 0, (.slice none 0 0)] 38 (0, 0))) ∧ Aside0 (Below w.heap.size w w'))
        case atStart => exact ⟨(y933), (0), sr, H', ⟨Nat.le_refl _⟩, ⟨by exact lR <| Kd.R_mono HO_8.out (fun _ hk => hk.2)⟩, ⟨by exact lR <| Kd.R_mono HO935.out (fun _ hk => hk.2)⟩, ⟨by exact lK <| BK909.out⟩, ⟨by exact lK <| BK910.out⟩, ⟨by exact jB HB.out⟩⟩
        case round =>
         clear H'
         (try clear c1); (try clear c2); (try clear p2); (try clear c3); (try clear c4); (try clear p4); (try clear q4); (try clear hx4); (try clear hf4); (try clear p6); (try clear c8); (try clear c9); (try clear p9); (try clear q9); (try clear hx9); (try clear c10); (try clear c12); (try clear c13); (try clear c15); (try clear c16); (try clear c18); (try clear c21); (try clear c24); (try clear c26); (try clear c27); (try clear c28); (try clear c34); (try clear c35); (try clear c39); (try clear c40); (try clear c41); (try clear c42); (try clear c43); (try clear p45); (try clear q45); (try clear hx45); (try clear hf45); (try clear hcz13_0); (try clear hcz13_1); (try clear hcz13_2); (try clear hcz13_3); (try clear hcz16_0); (try clear hcz16_1); (try clear hcz16_2); (try clear hcz16_3); (try clear hcz19_0); (try clear hcz19_1); (try clear hcz19_2); (try clear hcz19_3); (try clear hcz25_0); (try clear hcz25_1); (try clear hcz29_0); (try clear hcz29_1); (try clear hcz29_2); (try clear hcz29_3); (try clear hcz33_0); (try clear hcz33_1); (try clear hcz36_0); (try clear hcz36_1); (try clear hcz36_2); (try clear hcz36_3); (try clear hfz13_0); (try clear hfz13_1); (try clear hfz13_2); (try clear hfz13_3); (try clear hfz16_0); (try clear hfz16_1); (try clear hfz16_2); (try clear hfz16_3); (try clear hfz19_0); (try clear hfz19_1); (try clear hfz19_2); (try clear hfz19_3); (try clear hfz25_0); (try clear hfz25_1); (try clear hfz29_0); (try clear hfz29_1); (try clear hfz29_2); (try clear hfz29_3); (try clear hfz33_0); (try clear hfz33_1); (try clear hfz36_0); (try clear hfz36_1); (try clear hfz36_2); (try clear hfz36_3); (try clear hx45_0); (try clear hx929_0); (try clear hx930_0); (try clear hx930_1); (try clear hx930_2); (try clear p929); (try clear p930); (try clear q929); (try clear q930)
         obtain ⟨x10_3, x11_3, rfl, HA, HK3, HO_8, HO_10, BK909, BK910, HB⟩ := hrel
         cases gk with
         | zero => exact absurd HA.out (by simp [spec_RowDo.l1])
         | succ k3 =>
          have H := HA.out
          clear HA; simp only [spec_RowDo.l1] at H
          by_cases c52 : x11_3 < (l0_2.length : Int)
          ·rw [if_pos c52] at H; replace c52 := decide_eq_true c52; obtain ⟨c53, H⟩ := iD H; obtain ⟨t937, A54, H⟩ := bS H
           try dsimp only at H
           obtain ⟨c55, H⟩ := iN H; have LMc55 := aM c55; clear c55; obtain ⟨y938, Ny938⟩ : ∃ y_ : List Int, Aside0 (y_ = (x10_3 ++ [t937])) := ⟨_, ⟨rfl⟩⟩
           try rw [← Ny938.out] at H
           try dsimp only [Option.bind_some] at H
           have H' := aM H
           clear H; have hnb56 := NB909_910.out
           have hnc56 := NB910_909.out
           have hcz57_0 : wr.cell? ⟨gb909, 0, none⟩ = some (.slice A0_0 l0_0.length c0_0) := (blk_cell BK909.out 0).trans rfl
           have hcz57_1 : wr.cell? ⟨gb909, 1, none⟩ = some (.slice A0_1 l0_1.length c0_1) := (blk_cell BK909.out 1).trans rfl
           have hcz57_2 : wr.cell? ⟨gb909, 2, none⟩ = some (.slice A0_2 l0_2.length c0_2) := (blk_cell BK909.out 2).trans rfl
           have hcz57_3 : wr.cell? ⟨gb909, 3, none⟩ = some (.bool false) := (blk_cell BK909.out 3).trans rfl
           have hfz57_0 := blk_frozen BK909.out 0
           have hfz57_1 := blk_frozen BK909.out 1
           have hfz57_2 := blk_frozen BK909.out 2
           have hfz57_3 := blk_frozen BK909.out 3
           have p936 : 0 ≤ (x11_3 : Int) := od; have q936 : x11_3 < (l0_2.length : Int) := od; obtain ⟨ad936, A936_0, c936_0, A936_1, c936_1, e936, hx936_0, hx936_1, hx936_2, hl936_0, hi936_0, hl936_1, hi936_1⟩ := at_T34 HR0_2.out x11_3 p936 q936
           cases e936; replace hx936_0 := cl HB.out hx936_0; replace hx936_1 := cl HB.out hx936_1; replace hx936_2 := cl HB.out hx936_2; have HR936_0 := aM hi936_0; have HC936_0 := aM hl936_0; clear hi936_0 hl936_0; have HR936_1 := aM hi936_1; have HC936_1 := aM hl936_1; clear hi936_1 hl936_1; replace p936 := eq_true p936; replace q936 := eq_true q936; go_wp2_with (first | (refine gL (some 72) Try.func39 #[.agg #[.slice A936_0 ((rd_T34 l0_2 x11_3).f0).length c936_0, .slice A936_1 ((rd_T34 l0_2 x11_3).f1).length c936_1, .int .i64 ((rd_T34 l0_2 x11_3).f2)], .slice A1 l1.length c1, .slice A2 l2.length c2] ?_; (with_reducible refine (spec_l1At.calls k3 _ _ ((rd_T34 l0_2 x11_3).f0) _ _ ((rd_T34 l0_2 x11_3).f1) ((rd_T34 l0_2 x11_3).f2) _ _ l1 _ _ l2 t937 _ (by exact lC <| (Kd.C_below HR936_0.out HB.out)) HC936_0.out (by exact lC <| (Kd.C_below HR936_1.out HB.out)) HC936_1.out (by exact lC <| (Kd.C_below HR1.out HB.out)) HC1.out (by exact lC <| (Kd.C_below HR2.out HB.out)) HC2.out A54.out).mono ?_); rintro e w58 ⟨rfl, hb⟩; refine ⟨_, rfl, ?_⟩; replace HO_8 := aM (rb HO_8.out hb); replace HO_10 := aM (rb HO_10.out hb); replace BK909 := aM (bb BK909.out hb); replace BK910 := aM (bb BK910.out hb); replace HB := aM (bj HB.out hb); (try clear hb)) | ((with_reducible refine gate_builtin (b := .append) (xs := #[.tmp 64, .tmp 73]) rfl ?_); at_builtin; refine Kd.R_append (Kd.int .i64) (w0 := w) w.heap.size rfl (.tmp 64) (.tmp 73) 26 3 (.int .i64 0) 8 rfl Try.underlying26 info3 rfl (by decide) (by omega) u10 x10_3 t937 [.int .i64 t937] (fun k_ => some k_ ≠ v927.ownBlock) (fun _ => False) rfl rfl ?aP (fun _ hk => hk.elim) ?aF ?aO ?aB ?aS ?aL ?_; (case aP => exact rfl); (case aB => exact (by exact jB HB.out)); (case aF => exact (fun k_ hk => Kd.fresh' (rl HO_8.out) k_ hk)); (case aO => exact (by exact lR HO_10.out)); (case aS => exact (bz HB.out)); (case aL => have := LMc55.out; omega); intro v939 w59 ho hb hg hat; rw [← Ny938.out] at ho; replace HO_8 := aM (Kd.R_after (ok := (fun _ => True)) (by exact lR <| Kd.R_mono HO_8.out (fun _ hk => ⟨trivial, hk⟩)) hg hat); replace BK909 := aM (blk_grown (g := gb909) (lK BK909.out) hg (Kd.R_ne HO_10.out BK909.out (by decide))); replace BK910 := aM (blk_grown (g := gb910) (lK BK910.out) hg (Kd.R_ne HO_10.out BK910.out (by decide))); replace HB := aM (hb); have HO940 := aM (ho); clear HO_10 ho hb hg hat))
           go_roundg k3
           case measure => have := HJ3.out; have := HK2.out; have := HK3.out; omega
           case rel => exact ⟨(y938), (wrap64 (x11_3 + 1)), sr, H', ⟨by have := HJ3.out; have := HK2.out; have := HK3.out; omega⟩, ⟨by exact lR <| Kd.R_mono HO_8.out (fun _ hk => hk.2)⟩, ⟨by exact lR <| HO940.out⟩, ⟨by exact lK <| BK909.out⟩, ⟨by exact lK <| BK910.out⟩, ⟨by exact jB HB.out⟩⟩
          ·rw [if_neg c52] at H; replace c52 := decide_eq_false c52; obtain ⟨⟨t941, t942, t945⟩, A60, H⟩ := bS H
           try dsimp only at H
           simp only [Option.some.injEq, Prod.mk.injEq] at H
           obtain ⟨rfl, rfl, rfl⟩ := H
           have hnb61 := NB909_910.out
           have hnc61 := NB910_909.out
           have hcz62_0 : wr.cell? ⟨gb909, 0, none⟩ = some (.slice A0_0 l0_0.length c0_0) := (blk_cell BK909.out 0).trans rfl
           have hcz62_1 : wr.cell? ⟨gb909, 1, none⟩ = some (.slice A0_1 l0_1.length c0_1) := (blk_cell BK909.out 1).trans rfl
           have hcz62_2 : wr.cell? ⟨gb909, 2, none⟩ = some (.slice A0_2 l0_2.length c0_2) := (blk_cell BK909.out 2).trans rfl
           have hcz62_3 : wr.cell? ⟨gb909, 3, none⟩ = some (.bool false) := (blk_cell BK909.out 3).trans rfl
           have hfz62_0 := blk_frozen BK909.out 0
           have hfz62_1 := blk_frozen BK909.out 1
           have hfz62_2 := blk_frozen BK909.out 2
           have hfz62_3 := blk_frozen BK909.out 3
           obtain ⟨Ao63, co63, eo63⟩ := Kd.R_slice HO_8.out; subst eo63; obtain ⟨Ao64, co64, eo64⟩ := Kd.R_slice HO_10.out; subst eo64; go_wp2_with (first | (refine gL (some 78) Try.func44 #[.slice A1 l1.length c1, .slice Ao63 x8_2.length co63, .slice Ao64 x10_3.length co64] ?_; (with_reducible refine (spec_l2End.calls k3 _ _ l1 (fun k_ => some k_ = (.slice Ao63 x8_2.length co63 : Value).ownBlock) (.slice Ao63 x8_2.length co63) x8_2 (fun k_ => some k_ = (.slice Ao64 x10_3.length co64 : Value).ownBlock) (.slice Ao64 x10_3.length co64) x10_3 t941 t942 t945 w _ (by exact jB HB.out) ?side2 HC1.out ?side4 ?side5 ?side6 ?side7 A60.out).mono ?_); (case side2 => exact Kd.C_kept_came (Kd.heap_int .i64) HR1.out (by exact jB HB.out) (fun k_ hs_ => Or.elim hs_ (fun e_ => (fun e_ => Kd.R_base HO_8.out k_ e_.symm) e_) (fun e_ => (fun e_ => Kd.R_base HO_10.out k_ e_.symm) e_))); (case side4 => exact Kd.R_tight rfl HO_8.out); (case side5 => exact fun k_ e_ => (HO_8.out.1 k_ e_.symm)); (case side6 => exact Kd.R_tight rfl HO_10.out); (case side7 => exact fun k_ e_ => (HO_10.out.1 k_ e_.symm)); rintro e w65 ⟨v943, v946, rfl, ho0, ho1, hb, hkp⟩; refine ⟨_, rfl, ?_⟩; replace BK909 := aM (blk_kept (by exact lK BK909.out) hkp (fun hs_ => Or.elim hs_ (fun e_ => (fun e_ => (Kd.R_ne HO_8.out BK909.out (by decide)) e_) e_) (fun e_ => (fun e_ => (Kd.R_ne HO_10.out BK909.out (by decide)) e_) e_))); replace BK910 := aM (blk_kept (by exact lK BK910.out) hkp (fun hs_ => Or.elim hs_ (fun e_ => (fun e_ => (Kd.R_ne HO_8.out BK910.out (by decide)) e_) e_) (fun e_ => (fun e_ => (Kd.R_ne HO_10.out BK910.out (by decide)) e_) e_))); have HO944 := aM (Kd.R_mono (ok' := fun k_ => some k_ ≠ v946.ownBlock) ho0 (fun k_ hk_ => hk_.2)); have HO947 := aM (Kd.R_mono (ok' := fun k_ => some k_ ≠ v943.ownBlock) ho1 (fun k_ hk_ => hk_.2)); replace HB := aM (hb); clear HO_10 HO_8; (try clear hb); (try clear hkp); (try clear ho0); (try clear ho1); obtain ⟨hcz66_0, hcz66_1, hfz66_0, hfz66_1⟩ := cf2 BK910.out; obtain ⟨Ao67, co67, rfl⟩ := Kd.R_slice HO944.out))
           refine bodyPost_ret (results_ct rfl _ _ gb910 38 #[.int .i64 t941, .slice Ao67 t942.length co67] (0, 0) _ rfl (by exact p2 (lK BK910.out)) Try.underlying38 rfl (by kernel_rfl)) rfl ?_
           exact ⟨_, _, er, by exact lR <| Kd.R_mono (Kd.R_far (p := ⟨gb910, 1, none⟩) (Kd.R_far (p := ⟨gb910, 0, none⟩) (Kd.R_types HO944.out BK910.out (by decide)) (fun _ hk => by first | exact hk.2 | exact fun e_ => hk.2 (e_.trans (ob _ _ _ _))) (.int .i64 t941)) (fun _ hk => by first | exact hk.2 | exact fun e_ => hk.2 (e_.trans (ob _ _ _ _))) (.slice Ao67 t942.length co67)) (fun _ hk => by first | exact hk.1 | exact fun e_ => hk.1 (e_.trans (ob _ _ _ _))), by exact lR <| Kd.R_mono (Kd.R_far (p := ⟨gb910, 1, none⟩) (Kd.R_far (p := ⟨gb910, 0, none⟩) (Kd.R_types HO947.out BK910.out (by decide)) (fun _ hk => by first | exact hk.2 | exact fun e_ => hk.2 (e_.trans (ob _ _ _ _))) (.int .i64 t941)) (fun _ hk => by first | exact hk.2 | exact fun e_ => hk.2 (e_.trans (ob _ _ _ _))) (.slice Ao67 t942.length co67)) (fun _ hk => by first | exact hk.1 | exact fun e_ => hk.1 (e_.trans (ob _ _ _ _))), by exact jB HB.out⟩
/-! ### laws_coInts: function 18 -/
def laws_coInts.l0 : Nat → List Int → List Int → Int → Option (Bool)
 | 0, _, _, _ => none
 | k + 1, x0, x1, x5 => if x5 < (x0.length : Int) then (if 0 ≤ x5 then (if x5 < (x1.length : Int) then (if (rd x0 x5) = (rd x1 x5) then (laws_coInts.l0 k x0 x1 (wrap64 (x5 + 1))) else (some false)) else (none)) else (none)) else (some true)
def laws_coInts.f (k : Nat) (l0 : List Int) (l1 : List Int) : Option (Bool) := if (l0.length : Int) = (l1.length : Int) then (laws_coInts.l0 k l0 l1 0) else (some false)
theorem laws_coInts.calls (k : Nat) (A0 : Option Addr) (c0 : Nat) (l0 : List Int) (A1 : Option Addr) (c1 : Nat) (l1 : List Int) (r : Bool) (w : World) (hr0 : Kd.C (Kd.int .i64) w A0 l0.length l0) (hc0 : l0.length ≤ c0) (hr1 : Kd.C (Kd.int .i64) w A1 l1.length l1) (hc1 : l1.length ≤ c1) (h : laws_coInts.f k l0 l1 = some r) :
  Calls Try.prog 18 #[.slice A0 l0.length c0, .slice A1 l1.length c1] w fun e w' => e = .returned (.bool r) ∧ Drawn0 w w' := by
 have HR0 := aM hr0; have HC0 := aM hc0; clear hr0 hc0; have HR1 := aM hr1; have HC1 := aM hc1; clear hr1 hc1; have H : (if (l0.length : Int) = (l1.length : Int) then (laws_coInts.l0 k l0 l1 0) else (some false)) = some r := h
 clear h
 by_cases c3 : (l0.length : Int) = (l1.length : Int)
 ·rw [if_pos c3] at H; have c3b0 := beq_iff_eq.mpr c3
  have c3b1 := bne_eq_false_iff_eq.mpr c3
  have c3b2 : (l0.length == l1.length) = true := by first | simpa using c3 | (simp at c3 ⊢; omega)
  clear c3; have H' := aM H
  clear H; go_enter Try.func18, Try.ntmps18
  go_wp2
  repeat (go_quiet (fail); try go_wp2)
  go_loopg [5] k (fun kq v5 w' => ∃ (x5_1 : Int), v5 = .int .i64 x5_1 ∧ Aside0 (laws_coInts.l0 kq l0 l1 x5_1 = some r) ∧ Aside0 (kq ≤ k) ∧ Drawn0 w w')
  case atStart => exact ⟨(0), sr, H', ⟨Nat.le_refl _⟩, by repeat (first | exact Drawn0.refl _ | apply Drawn0.step)⟩
  case round =>
   clear H'
   (try clear c1); (try clear p2); (try clear c3); (try clear c3b0); (try clear c3b1); (try clear c3b2)
   obtain ⟨x5_1, rfl, HA, HK1, ⟨m1, rfl⟩⟩ := hrel
   cases gk with
   | zero => exact absurd HA.out (by simp [laws_coInts.l0])
   | succ k1 =>
    have H := HA.out
    clear HA; simp only [laws_coInts.l0] at H
    by_cases c4 : x5_1 < (l0.length : Int)
    ·rw [if_pos c4] at H; replace c4 := decide_eq_true c4; obtain ⟨c5, H⟩ := iD H; obtain ⟨c6, H⟩ := iD H
     by_cases c7 : (rd l0 x5_1) = (rd l1 x5_1)
     ·rw [if_pos c7] at H; have c7b0 := beq_iff_eq.mpr c7
      have c7b1 := bne_eq_false_iff_eq.mpr c7
      clear c7; have H' := aM H
      clear H; have p948 : 0 ≤ (x5_1 : Int) := od; have q948 : x5_1 < (l0.length : Int) := od; obtain ⟨ad948, e948, hx948_0⟩ := Kd.at_int HR0.out x5_1 p948 q948
      cases e948; replace p948 := eq_true p948; replace q948 := eq_true q948; have p949 : 0 ≤ (x5_1 : Int) := od; have q949 : x5_1 < (l1.length : Int) := od; obtain ⟨ad949, e949, hx949_0⟩ := Kd.at_int HR1.out x5_1 p949 q949
      cases e949; replace p949 := eq_true p949; replace q949 := eq_true q949; go_wp2
      repeat (go_quiet (fail); try go_wp2)
      go_roundg k1
      case measure => have := HK1.out; omega
      case rel => exact ⟨(wrap64 (x5_1 + 1)), sr, H', ⟨by have := HK1.out; omega⟩, by repeat (first | exact Drawn0.refl _ | apply Drawn0.step)⟩
     ·rw [if_neg c7] at H; have c7b0 := beq_eq_false_iff_ne.mpr c7
      have c7b1 := bne_iff_ne.mpr c7
      obtain rfl := Option.some.inj H
      have p948 : 0 ≤ (x5_1 : Int) := od; have q948 : x5_1 < (l0.length : Int) := od; obtain ⟨ad948, e948, hx948_0⟩ := Kd.at_int HR0.out x5_1 p948 q948
      cases e948; replace p948 := eq_true p948; replace q948 := eq_true q948; have p949 : 0 ≤ (x5_1 : Int) := od; have q949 : x5_1 < (l1.length : Int) := od; obtain ⟨ad949, e949, hx949_0⟩ := Kd.at_int HR1.out x5_1 p949 q949
      cases e949; replace p949 := eq_true p949; replace q949 := eq_true q949; go_wp2
      repeat (go_quiet (fail); try go_wp2)
      go_ret
      exact ⟨by first | rfl | (simp; done) | (simp [*]; done), by repeat (first | exact Drawn0.refl _ | apply Drawn0.step)⟩
    ·rw [if_neg c4] at H; replace c4 := decide_eq_false c4; obtain rfl := Option.some.inj H
     go_wp2
     repeat (go_quiet (fail); try go_wp2)
     go_ret
     exact ⟨by first | rfl | (simp; done) | (simp [*]; done), by repeat (first | exact Drawn0.refl _ | apply Drawn0.step)⟩
 ·rw [if_neg c3] at H; have c3b0 := beq_eq_false_iff_ne.mpr c3
  have c3b1 := bne_iff_ne.mpr c3
  have c3b2 : (l0.length == l1.length) = false := by first | simpa using c3 | (simp at c3 ⊢; omega)
  obtain rfl := Option.some.inj H
  go_enter Try.func18, Try.ntmps18
  go_wp2
  repeat (go_quiet (fail); try go_wp2)
  go_ret
  exact ⟨by first | rfl | (simp; done) | (simp [*]; done), by repeat (first | exact Drawn0.refl _ | apply Drawn0.step)⟩
/-! ### laws_coRes: function 17 -/
def laws_coRes.f (k : Nat) (a0_0 : Int) (l0_1 : List Int) (a1_0 : Int) (l1_1 : List Int) : Option (Bool) := if a0_0 = a1_0 then ((laws_coInts.f k l0_1 l1_1).bind fun t952 => (some t952)) else (some false)
theorem laws_coRes.calls (k : Nat) (a0_0 : Int) (A0_1 : Option Addr) (c0_1 : Nat) (l0_1 : List Int) (a1_0 : Int) (A1_1 : Option Addr) (c1_1 : Nat) (l1_1 : List Int) (r : Bool) (w : World) (hr0_1 : Kd.C (Kd.int .i64) w A0_1 l0_1.length l0_1) (hc0_1 : l0_1.length ≤ c0_1) (hr1_1 : Kd.C (Kd.int .i64) w A1_1 l1_1.length l1_1) (hc1_1 : l1_1.length ≤ c1_1) (h : laws_coRes.f k a0_0 l0_1 a1_0 l1_1 = some r) :
  Calls Try.prog 17 #[.agg #[.int .i64 a0_0, .slice A0_1 l0_1.length c0_1], .agg #[.int .i64 a1_0, .slice A1_1 l1_1.length c1_1]] w fun e w' => e = .returned (.bool r) ∧ Below w.heap.size w w' := by
 have hu38 := Try.underlying38; have HR0_1 := aM hr0_1; have HC0_1 := aM hc0_1; clear hr0_1 hc0_1; have HR1_1 := aM hr1_1; have HC1_1 := aM hc1_1; clear hr1_1 hc1_1; have HB := aM (Below.refl w.heap.size w); have H : (if a0_0 = a1_0 then ((laws_coInts.f k l0_1 l1_1).bind fun t952 => (some t952)) else (some false)) = some r := h
 clear h
 by_cases c3 : a0_0 = a1_0
 ·rw [if_pos c3] at H; have c3b0 := beq_iff_eq.mpr c3
  have c3b1 := bne_eq_false_iff_eq.mpr c3
  clear c3; obtain ⟨t952, A4, H⟩ := bS H
  try dsimp only at H
  obtain rfl := Option.some.inj H
  go_enter Try.func17, Try.ntmps17
  go_wp2_with (first | ((with_reducible refine gate_dst (N := 2) rfl ?_); refine bx 2 #[.int .i64 a0_0, .slice A0_1 l0_1.length c0_1] 38 ?_; intro gb950 hg w5 hbox hb; have BK950 := aM (hbox); have GW950 := aM (gz hg HB.out); have IGW950 := wn GW950.out; have GE950 := aM (gz hg HB.out); have IGE950 := wn GE950.out; replace HB := aM (bj HB.out hb); clear hb hbox hg) | ((with_reducible refine gate_dst (N := 3) rfl ?_); refine bx 3 #[.int .i64 a1_0, .slice A1_1 l1_1.length c1_1] 38 ?_; intro gb951 hg w6 hbox hb; have BK951 := aM (hbox); have GW951 := aM (gz hg HB.out); have IGW951 := wn GW951.out; have GE951 := aM (gz hg HB.out); have IGE951 := wn GE951.out; replace HB := aM (bj HB.out hb); have NB950_951 := aM ((neL hg (lK BK950.out) : gb950 ≠ gb951)); have NB951_950 := aM ((neG hg (lK BK950.out) : gb951 ≠ gb950)); replace BK950 := aM (bb BK950.out hb); clear hb hbox hg; have hnb7 := NB950_951.out; have hnc7 := NB951_950.out; obtain ⟨hcz8_0, hcz8_1, hfz8_0, hfz8_1⟩ := cf2 BK950.out; obtain ⟨hcz9_0, hcz9_1, hfz9_0, hfz9_1⟩ := cf2 BK951.out) | (go_at_call 18; (with_reducible refine (laws_coInts.calls k _ _ l0_1 _ _ l1_1 t952 _ (by exact lC <| (Kd.C_below HR0_1.out HB.out)) HC0_1.out (by exact lC <| (Kd.C_below HR1_1.out HB.out)) HC1_1.out A4.out).mono ?_); rintro e w' ⟨rfl, ⟨nd, rfl⟩⟩))
  go_ret
  exact ⟨er, by exact jB HB.out⟩
 ·rw [if_neg c3] at H; have c3b0 := beq_eq_false_iff_ne.mpr c3
  have c3b1 := bne_iff_ne.mpr c3
  obtain rfl := Option.some.inj H
  go_enter Try.func17, Try.ntmps17
  go_wp2_with (first | ((with_reducible refine gate_dst (N := 2) rfl ?_); refine bx 2 #[.int .i64 a0_0, .slice A0_1 l0_1.length c0_1] 38 ?_; intro gb950 hg w10 hbox hb; have BK950 := aM (hbox); have GW950 := aM (gz hg HB.out); have IGW950 := wn GW950.out; have GE950 := aM (gz hg HB.out); have IGE950 := wn GE950.out; replace HB := aM (bj HB.out hb); clear hb hbox hg) | ((with_reducible refine gate_dst (N := 3) rfl ?_); refine bx 3 #[.int .i64 a1_0, .slice A1_1 l1_1.length c1_1] 38 ?_; intro gb951 hg w11 hbox hb; have BK951 := aM (hbox); have GW951 := aM (gz hg HB.out); have IGW951 := wn GW951.out; have GE951 := aM (gz hg HB.out); have IGE951 := wn GE951.out; replace HB := aM (bj HB.out hb); have NB950_951 := aM ((neL hg (lK BK950.out) : gb950 ≠ gb951)); have NB951_950 := aM ((neG hg (lK BK950.out) : gb951 ≠ gb950)); replace BK950 := aM (bb BK950.out hb); clear hb hbox hg; have hnb12 := NB950_951.out; have hnc12 := NB951_950.out; obtain ⟨hcz13_0, hcz13_1, hfz13_0, hfz13_1⟩ := cf2 BK950.out; obtain ⟨hcz14_0, hcz14_1, hfz14_0, hfz14_1⟩ := cf2 BK951.out))
  go_ret
  exact ⟨er, by exact jB HB.out⟩
end Go.Proofs.Ytcpaplcnebdocaa.QFnRowDo
-- shorter
