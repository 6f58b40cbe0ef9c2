/- Plain functions, and that the Go code computes them: written by a program of this session over the seat's translation; the conditions stand in each theorem. -/
import Derived.Test.YtcafmfmlnfaogaaDoorQFnExactResTextx0
namespace Go.Proofs.YtcafmfmlnfaogaaDoor.QFnExactResText
open Go.RowKit Go.Proofs.YtcafmfmlnfaogaaDoorW.PrintWords Go.Proofs.YtcafmfmlnfaogaaDoorW.PrintLast Go.Proofs.YtcafmfmlnfaogaaDoorW.PrintMore Go.Proofs.YtcafmfmlnfaogaaDoor.HWords
attribute [local go_sem] max2_int min2_int max_two min_two max_three min_three max_four min_four   -- for this text's walks alone
set_option maxRecDepth 100000
set_option maxHeartbeats 8000000
set_option linter.unusedVariables false
set_option linter.unusedSimpArgs false

/-! ### laws_toIntS: function 25 -/
def laws_toIntS.l0 : Nat → List Int → List Int → Int → Option (List Int)
 | 0, _, _, _ => none
 | k + 1, x0, x3, x4 => if x4 < (x0.length : Int) then (if 0 ≤ x4 then (if x4 < (x3.length : Int) then (laws_toIntS.l0 k x0 (x3.set (x4 : Int).toNat (rd x0 x4)) (wrap64 (x4 + 1))) else (none)) else (none)) else (some x3)
def laws_toIntS.f (k : Nat) (l0 : List Int) : Option (List Int) := if 0 ≤ (l0.length : Int) then (if ((l0.length : Int) : Int).toNat ≤ 35184372088832 then (laws_toIntS.l0 k l0 (List.replicate ((l0.length : Int) : Int).toNat 0) 0) else (none)) else (none)
theorem laws_toIntS.mono_l : ∀ k, (∀ y0 y1 y2, LeO (laws_toIntS.l0 k y0 y1 y2) (laws_toIntS.l0 (k + 1) y0 y1 y2))
 | 0 => fun _ _ _ r h => by simp [laws_toIntS.l0] at h
 | k + 1 => by
  have ih0 := laws_toIntS.mono_l k
  ·intro y0 y1 y2
   unfold laws_toIntS.l0
   repeat' first
   | (with_reducible exact ih0 _ _ _)
   | (with_reducible exact LeO.refl _)
   | (with_reducible exact LeO.none _)
   | (with_reducible refine LeO.ite ?_ ?_)
   | (with_reducible refine LeO.bind ?_ (fun _ => ?_))
   | exact LeO.none _
   | refine LeO.ite ?_ ?_
   | refine LeO.bind ?_ (fun _ => ?_)
theorem laws_toIntS.mono : ∀ a0 k, LeO (laws_toIntS.f k a0) (laws_toIntS.f (k + 1) a0) := by
 intro a0 k
 have ih0 := laws_toIntS.mono_l k
 unfold laws_toIntS.f
 repeat' first
   | (with_reducible exact ih0 _ _ _)
   | (with_reducible exact LeO.refl _)
   | (with_reducible exact LeO.none _)
   | (with_reducible refine LeO.ite ?_ ?_)
   | (with_reducible refine LeO.bind ?_ (fun _ => ?_))
   | exact LeO.none _
   | refine LeO.ite ?_ ?_
   | refine LeO.bind ?_ (fun _ => ?_)
theorem laws_toIntS.calls (k : Nat) (A0 : Option Addr) (c0 : Nat) (l0 : List Int) (r : List Int) (w : World) (hr0 : Kd.C (Kd.int .i64) w A0 l0.length l0) (hc0 : l0.length ≤ c0) (h : laws_toIntS.f k l0 = some r) :
  Calls Tryd.prog 25 #[.slice A0 l0.length c0] w fun e w' => ∃ v0_ : Value, e = .returned (v0_) ∧ Kd.R (Kd.int .i64) 3 w' w.heap.size (fun _ => True) v0_ r ∧ Below w.heap.size w w' := by
 have HR0 := aM hr0
 have HC0 := aM hc0
 clear hr0 hc0
 have HB := aM (Below.refl w.heap.size w)
 have H : (if 0 ≤ (l0.length : Int) then (if ((l0.length : Int) : Int).toNat ≤ 35184372088832 then (laws_toIntS.l0 k l0 (List.replicate ((l0.length : Int) : Int).toNat 0) 0) else (none)) else (none)) = some r := h
 clear h
 by_cases c2 : 0 ≤ (l0.length : Int)
 ·rw [if_pos c2] at H
  have c2b0 := eq_true c2
  have c2b1 := decide_eq_true c2
  clear c2
  by_cases c3 : ((l0.length : Int) : Int).toNat ≤ 35184372088832
  ·rw [if_pos c3] at H
   have c3b0 := eq_true c3
   have c3b1 := decide_eq_true c3
   clear c3
   obtain ⟨y122, hy122⟩ : ∃ y_ : List Int, y_ = (List.replicate ((l0.length : Int) : Int).toNat 0) := ⟨_, rfl⟩
   try rw [← hy122] at H
   try dsimp only [Option.bind_some] at H
   have Ny122 := aM hy122
   clear hy122
   have H' := aM H
   clear H
   go_enter Tryd.func25, Tryd.ntmps25
   go_wp2_with (first | ((with_reducible refine gate_dst (N := 7) rfl ?_); refine Kd.R_make (Kd.int .i64) _ 3 rfl (N := 7) rfl 22 _ _ rfl (l0.length : Int) rfl rfl Tryd.underlying22 (.int .i64 0) 8 info3 rfl (by decide) (by omega) 0 (ok := fun _ => True) (okp := fun _ => True) rfl (fun _ hk => hk) trivial (of_decide_eq_true (by first | (with_reducible assumption) | assumption)) (Nat.le_trans (Nat.mul_le_mul_right _ (of_decide_eq_true (by first | (with_reducible assumption) | assumption) : (l0.length : Int).toNat ≤ 35184372088832)) (by omega)) (Below.refl _ _) (Nat.le_refl _) ?_; intro v123 w4 ho5 hb hg_ hnew_; clear hg_ hnew_; (first | rw [← Ny122.out] at ho5 | (simp only [Int.reduceToNat] at ho5; rw [← Ny122.out] at ho5)); have HO124 := aM (Kd.R_lower ho5 (below_size (by exact lB HB.out))); replace HB := aM (bj HB.out hb); clear hb ho5))
   go_loopg [4] k (fun kq v4 w' => ∃ (x3_1 : List Int) (x4_1 : Int), v4 = .int .i64 x4_1 ∧ Aside0 (laws_toIntS.l0 kq l0 x3_1 x4_1 = some r) ∧ Aside0 (kq ≤ k) ∧ Aside0 (Kd.R (Kd.int .i64) 3 w' w.heap.size (fun _ => True) v123 x3_1) ∧ Aside0 (Below w.heap.size w w'))
   case atStart => exact ⟨(y122), (0), (by first | rfl | (simp; done) | (simp [*]; done)), H', ⟨Nat.le_refl _⟩, ⟨by exact lR <| HO124.out⟩, ⟨by exact lB HB.out⟩⟩
   case round =>
    clear H'
    try clear c2
    try clear c2b0
    try clear c2b1
    try clear p2
    try clear c3
    try clear c3b0
    try clear c3b1
    obtain ⟨x3_1, x4_1, rfl, HA, HK1, HO_3, HB⟩ := hrel
    cases gk with
    | zero => exact absurd HA.out (by simp [laws_toIntS.l0])
    | succ k1 =>
     have H := HA.out
     clear HA
     simp only [laws_toIntS.l0] at H
     by_cases c6 : x4_1 < (l0.length : Int)
     ·rw [if_pos c6] at H
      have c6b0 := decide_eq_true c6
      clear c6
      by_cases c7 : 0 ≤ x4_1
      ·rw [if_pos c7] at H
       have c7b0 := decide_eq_true c7
       clear c7
       by_cases c8 : x4_1 < (x3_1.length : Int)
       ·rw [if_pos c8] at H
        have c8b0 := decide_eq_true c8
        clear c8
        obtain ⟨y126, hy126⟩ : ∃ y_ : List Int, y_ = (x3_1.set (x4_1 : Int).toNat (rd l0 x4_1)) := ⟨_, rfl⟩
        try rw [← hy126] at H
        try dsimp only [Option.bind_some] at H
        have Ny126 := aM hy126
        clear hy126
        have H' := aM H
        clear H
        have p125 : 0 ≤ (x4_1 : Int) := of_decide_eq_true (by first | (with_reducible assumption) | assumption)
        have q125 : x4_1 < (l0.length : Int) := of_decide_eq_true (by first | (with_reducible assumption) | assumption)
        obtain ⟨ad125, e125, hx125_0⟩ := Kd.at_int HR0.out x4_1 p125 q125
        cases e125
        replace hx125_0 := cl HB.out hx125_0
        replace p125 := eq_true p125
        replace q125 := eq_true q125
        have p9 : 0 ≤ (x4_1 : Int) := of_decide_eq_true (by first | (with_reducible assumption) | assumption)
        have q9 : (x4_1 : Int) < ((x3_1.length : Int) : Int) := of_decide_eq_true (by first | (with_reducible assumption) | assumption)
        obtain ⟨go9, co9, eo9, gb9, gl9, cl9, HG9⟩ := Kd.R_form HO_3.out (by omega)
        (first | cases eo9 | (injection eo9 with ea_ en_ ec_; (first | subst ea_ | (injection ea_ with ea_; subst ea_)); subst ec_; clear en_))
        have GB9 := aM gb9
        have IGB9 : Nonempty _ := ⟨GB9.out⟩
        have GG9 := aM HG9
        clear gb9 gl9 HG9
        obtain ⟨hx9_0, hf9_0⟩ := Kd.R_celln 0 HO_3.out (x4_1 : Int) p9 q9
        replace p9 := eq_true p9
        replace q9 := eq_true q9
        have HP10 := Kd.R_putg HO_3.out (x4_1 : Int) (rd l0 x4_1)
        go_wp2_with (first | ((with_reducible refine gate_store (t := 3) (p := 20) rfl ?_); refine store_event (t := 3) (p := 20) (v := ?vo_w11) (w1 := (wr.setCell ⟨go9, (x4_1 : Int).toNat, none⟩ (.int .i64 (rd l0 x4_1)))) ?hg ?ho ?hn ?hr ?_; (case ho => rfl); (case hg => rfl); (case hn => rfl); (case hr => first | (go_simp; done) | (go_simp; rfl)); intro w11 hw; have hg : wr.grownBy w11 (some go9) := (by rw [hw]; exact HP10.2); have hp_ : Kd.R (Kd.int .i64) 3 w11 w.heap.size (fun _ => True) (.slice (some ⟨go9, 0, none⟩) x3_1.length co9) y126 := (by rw [hw, Ny126.out]; exact HP10.1); clear HP10; replace HO_3 := aM (hp_); replace HB := aM ((by rw [hw]; exact below_set (HB.out) GB9.out : Below w.heap.size w w11)); clear hg hw hp_))
        go_roundg k1
        case measure => have := HK1.out; omega
        case rel => exact ⟨(y126), (wrap64 (x4_1 + 1)), (by first | rfl | (simp; done) | (simp [*]; done)), H', ⟨by have := HK1.out; omega⟩, ⟨by exact lR <| HO_3.out⟩, ⟨by exact lB HB.out⟩⟩
       ·rw [if_neg c8] at H
        exact absurd H (by simp)
      ·rw [if_neg c7] at H
       exact absurd H (by simp)
     ·rw [if_neg c6] at H
      have c6b0 := decide_eq_false c6
      clear c6
      obtain rfl := Option.some.inj H
      go_wp2
      go_ret
      exact ⟨_, er, by exact lR <| HO_3.out, by exact lB HB.out⟩
  ·rw [if_neg c3] at H
   exact absurd H (by simp)
 ·rw [if_neg c2] at H
  exact absurd H (by simp)

/-! ### laws_toResResult: function 9 -/
def laws_toResResult.f (k : Nat) (a0_0 : Int) (l0_1 : List Int) : Option (Int × List Int) := (laws_toIntS.f k l0_1).bind fun t130 => (some (a0_0, t130))
theorem laws_toResResult.mono : ∀ a0 a1 k, LeO (laws_toResResult.f k a0 a1) (laws_toResResult.f (k + 1) a0 a1) := by
 intro a0 a1 k
 unfold laws_toResResult.f
 repeat' first
   | (with_reducible exact laws_toIntS.mono _ _)
   | (with_reducible exact LeO.refl _)
   | (with_reducible exact LeO.none _)
   | (with_reducible refine LeO.ite ?_ ?_)
   | (with_reducible refine LeO.bind ?_ (fun _ => ?_))
   | exact LeO.none _
   | refine LeO.ite ?_ ?_
   | refine LeO.bind ?_ (fun _ => ?_)
theorem laws_toResResult.calls (k : Nat) (a0_0 : Int) (A0_1 : Option Addr) (c0_1 : Nat) (l0_1 : List Int) (r1 : Int) (r2 : List Int) (w : World) (hr0_1 : Kd.C (Kd.int .i64) w A0_1 l0_1.length l0_1) (hc0_1 : l0_1.length ≤ c0_1) (h : laws_toResResult.f k a0_0 l0_1 = some (r1, r2)) :
  Calls Tryd.prog 9 #[.agg #[.int .i64 a0_0, .slice A0_1 l0_1.length c0_1]] w fun e w' => ∃ v1_ : Value, e = .returned (.agg #[.int .i64 r1, v1_]) ∧ Kd.R (Kd.int .i64) 3 w' w.heap.size (fun _ => True) v1_ r2 ∧ Below w.heap.size w w' := by
 have hu24 := Tryd.underlying24
 have hu27 := Tryd.underlying27
 have HR0_1 := aM hr0_1
 have HC0_1 := aM hc0_1
 clear hr0_1 hc0_1
 have HB := aM (Below.refl w.heap.size w)
 have H : ((laws_toIntS.f k l0_1).bind fun t130 => (some (a0_0, t130))) = some (r1, r2) := h
 clear h
 obtain ⟨t130, A2, H⟩ := bS H
 try dsimp only at H
 simp only [Option.some.injEq, Prod.mk.injEq] at H
 obtain ⟨rfl, rfl⟩ := H
 go_enter Tryd.func9, Tryd.ntmps9
 go_wp2_with (first | ((with_reducible refine gate_dst (N := 1) rfl ?_); refine bx 1 #[.int .i64 a0_0, .slice A0_1 l0_1.length c0_1] 24 ?_; intro gb127 hg w3 hbox hb; have BK127 := aM (hbox); have GW127 := aM ((gz hg HB.out)); have IGW127 : Nonempty _ := ⟨GW127.out⟩; have GE127 := aM ((gz hg HB.out)); have IGE127 : Nonempty _ := ⟨GE127.out⟩; replace HB := aM (bj HB.out hb); clear hb hbox hg) | ((with_reducible refine gate_dst (N := 2) rfl ?_); refine bx 2 #[.int .i64 0, .slice none 0 0] 27 ?_; intro gb128 hg w4 hbox hb; have BK128 := aM (hbox); have GW128 := aM ((gz hg HB.out)); have IGW128 : Nonempty _ := ⟨GW128.out⟩; have GE128 := aM ((gz hg HB.out)); have IGE128 : Nonempty _ := ⟨GE128.out⟩; replace HB := aM (bj HB.out hb); have NB127_128 := aM ((neL hg (lK BK127.out) : gb127 ≠ gb128)); have NB128_127 := aM ((neG hg (lK BK127.out) : gb128 ≠ gb127)); replace BK127 := aM (bb BK127.out hb); clear hb hbox hg) | ((with_reducible refine gate_dst (N := 3) rfl ?_); refine bx 3 #[.int .i64 0, .slice none 0 0] 27 ?_; intro gb129 hg w5 hbox hb; have BK129 := aM (hbox); have GW129 := aM ((gz hg HB.out)); have IGW129 : Nonempty _ := ⟨GW129.out⟩; have GE129 := aM ((gz hg HB.out)); have IGE129 : Nonempty _ := ⟨GE129.out⟩; replace HB := aM (bj HB.out hb); have NB127_129 := aM ((neL hg (lK BK127.out) : gb127 ≠ gb129)); have NB129_127 := aM ((neG hg (lK BK127.out) : gb129 ≠ gb127)); replace BK127 := aM (bb BK127.out hb); have NB128_129 := aM ((neL hg (lK BK128.out) : gb128 ≠ gb129)); have NB129_128 := aM ((neG hg (lK BK128.out) : gb129 ≠ gb128)); replace BK128 := aM (bb BK128.out hb); clear hb hbox hg; have hnb6 := NB127_128.out; have hnc6 := NB128_127.out; have hnb7 := NB127_129.out; have hnc7 := NB129_127.out; obtain ⟨hcz8_0, hcz8_1, hfz8_0, hfz8_1⟩ := cf2 BK127.out; have hnb9 := NB129_128.out; have hnc9 := NB128_129.out; obtain ⟨hcz10_0, hcz10_1, hfz10_0, hfz10_1⟩ := cf2 BK129.out) | ((with_reducible refine gate_callee (f := 25) rfl ?_); refine gL (some 9) Tryd.func25 #[.slice A0_1 l0_1.length c0_1] ?_; (with_reducible refine (laws_toIntS.calls k _ _ l0_1 t130 _ ?side1 ?side2 A2.out).mono ?_); (case side1 => exact Kd.C_below HR0_1.out (by exact jB HB.out)); (case side2 => exact HC0_1.out); rintro e w11 ⟨v131, rfl, ho0, hb⟩; refine ⟨_, rfl, ?_⟩; have HO132 := aM (Kd.R_lower ho0 (below_size (by exact jB HB.out))); replace BK127 := aM (blk_below (g := gb127) (o := .cells #[.int .i64 a0_0, .slice A0_1 l0_1.length c0_1] 24 (0, 0)) (by (with_reducible repeat first | refine kN ?_ _ | refine kD ?_ | refine kA ?_ _); refine blk_far ?_ NB127_129.out _; exact lK BK127.out) hb); replace BK128 := aM (blk_below (g := gb128) (o := .cells #[.int .i64 0, .slice none 0 0] 27 (0, 0)) (by (with_reducible repeat first | refine kN ?_ _ | refine kD ?_ | refine kA ?_ _); refine blk_far ?_ NB128_129.out _; exact lK BK128.out) hb); replace BK129 := aM (blk_below (g := gb129) (o := .cells #[.int .i64 a0_0, .slice none 0 0] 27 (0, 0)) (by (with_reducible repeat first | refine kN ?_ _ | refine kD ?_ | refine kA ?_ _); refine blk_put (cs := #[.int .i64 0, .slice none 0 0]) ?_ 0 _ rfl; exact lK BK129.out) hb); replace HB := aM (bj HB.out hb); (try clear hb); (try clear ho0); obtain ⟨Ao12, co12, eo12⟩ := Kd.R_slice HO132.out; subst eo12; obtain ⟨hcz13_0, hcz13_1, hfz13_0, hfz13_1⟩ := cf2 BK129.out; obtain ⟨hcz14_0, hcz14_1, hfz14_0, hfz14_1⟩ := cf2 BK128.out))
 refine bodyPost_ret (results_cell_row rfl _ _ gb128 27 #[.int .i64 a0_0, .slice Ao12 t130.length co12] (0, 0) _ rfl (by (with_reducible repeat first | refine kN ?_ _ | refine kD ?_ | refine kA ?_ _); refine blk_put (cs := #[.int .i64 a0_0, .slice none 0 0]) ?_ 1 _ rfl; (with_reducible repeat first | refine kN ?_ _ | refine kD ?_ | refine kA ?_ _); refine blk_put (cs := #[.int .i64 0, .slice none 0 0]) ?_ 0 _ rfl; (with_reducible repeat first | refine kN ?_ _ | refine kD ?_ | refine kA ?_ _); refine blk_far ?_ NB128_129.out _; exact lK BK128.out) Tryd.underlying27 rfl (by kernel_rfl)) rfl ?_
 exact ⟨_, er, by exact lR <| Kd.R_mono (Kd.R_far (p := ⟨gb128, 1, none⟩) (Kd.R_far (p := ⟨gb128, 0, none⟩) (Kd.R_far (p := ⟨gb129, 1, none⟩) (Kd.R_types (Kd.R_types HO132.out BK129.out (by decide)) BK128.out (by decide)) (fun _ hk => by first | exact hk.1.2 | exact fun e_ => hk.1.2 (e_.trans (ob _ _ _ _))) (.slice Ao12 t130.length co12)) (fun _ hk => by first | exact hk.2 | exact fun e_ => hk.2 (e_.trans (ob _ _ _ _))) (.int .i64 a0_0)) (fun _ hk => by first | exact hk.2 | exact fun e_ => hk.2 (e_.trans (ob _ _ _ _))) (.slice Ao12 t130.length co12)) (fun _ hk => trivial), by exact jB HB.out⟩

/-! ### impl_in: function 26 -/
def impl_in.f (a0 : Int) (a1 : Int) (a2 : Int) : Option (Bool) := if a0 ≥ a1 then (some (decide (a0 ≤ a2))) else (some false)
theorem impl_in.calls (a0 : Int) (a1 : Int) (a2 : Int) (r : Bool) (w : World) (h : impl_in.f a0 a1 a2 = some r) :
  Calls Tryd.prog 26 #[.int .i64 a0, .int .i64 a1, .int .i64 a2] w fun e w' => e = .returned (.bool r) ∧ Drawn0 w w' := by
 have H : (if a0 ≥ a1 then (some (decide (a0 ≤ a2))) else (some false)) = some r := h
 clear h
 by_cases c4 : a0 ≥ a1
 ·rw [if_pos c4] at H
  have c4b0 := decide_eq_true c4
  clear c4
  obtain rfl := Option.some.inj H
  go_enter Tryd.func26, Tryd.ntmps26
  go_wp2
  go_ret
  exact ⟨by first | rfl | (simp; done) | (simp [*]; done), by repeat (first | exact Drawn0.refl _ | apply Drawn0.step)⟩
 ·rw [if_neg c4] at H
  have c4b0 := decide_eq_false c4
  clear c4
  obtain rfl := Option.some.inj H
  go_enter Tryd.func26, Tryd.ntmps26
  go_wp2
  go_ret
  exact ⟨by first | rfl | (simp; done) | (simp [*]; done), by repeat (first | exact Drawn0.refl _ | apply Drawn0.step)⟩

-- NOT PRINTED: function 51 (slices_IndexFunc_int_int)

-- NOT PRINTED: function 42 (slices_ContainsFunc_int_int)

-- NOT PRINTED: function 43 (impl_within_1)

/-! ### impl_within: function 27, by hand -/
set_option maxHeartbeats 1000000 in
theorem idx_ints (q : Int → Bool) (g : Nat) (lb : Array Value) (eg : ∀ args w, (callFunc g args).run Tryd.prog w = .ok (.enter g args) w) (A0 : Option Addr) (c0 : Nat) (xs : List Int) (w : World)
  (hr : Kd.C (Kd.int .i64) w A0 xs.length xs) (hp : ∀ x, x ∈ xs → ∀ W : World, Below w.heap.size w W → Calls Tryd.prog g (#[.int .i64 x] ++ lb) W fun e w' => e = .returned (.bool (q x)) ∧ Below W.heap.size W w') :
  Calls Tryd.prog 51 #[.slice A0 xs.length c0, .func (.func g) #[] lb] w fun e w' => e = .returned (.int .i64 (idxOf q xs)) ∧ Below w.heap.size w w' := by
 have hm := Kd.C_max hr
 have HR := aM hr
 have HP := aM hp
 clear hr hp
 go_enter Tryd.func51, Tryd.ntmps51
 go_wp2
 go_loopg [5, 8] xs.length (fun gg _ s8 wr => ∃ x : Int, s8 = .int .i64 x ∧ Aside0 (0 ≤ x ∧ x ≤ xs.length ∧ (xs.length : Int) - x ≤ gg) ∧ Aside0 (Below w.heap.size w wr) ∧ Aside0 (∀ j : Int, 0 ≤ j → j < x → q (xs.getD j.toNat 0) = false))
 case atStart => exact ⟨0, rfl, ⟨by omega, by omega, by omega⟩, ⟨Below.refl _ _⟩, ⟨fun j h0 h1 => by omega⟩⟩
 case round =>
  obtain ⟨x, rfl, HX, HB, HN⟩ := hrel
  have p1 := HX.out.1
  by_cases hlt : x < (xs.length : Int)
  ·obtain ⟨ad, e1, hx⟩ := Kd.at_int (Kd.C_below HR.out HB.out) x p1 hlt
   cases e1
   have hcall := HP.out (rd xs x) (mem_rd 0 xs x p1 hlt) _ HB.out
   cases hq : q (rd xs x) with
   | true =>
    rw [hq] at hcall
    have HQ := aM hq
    clear hq
    have HC := aM hcall
    clear hcall
    go_wp2_with (go_at_fn g; refine HC.out.mono ?_; rintro e w' ⟨rfl, hb⟩)
    go_ret
    refine ⟨?_, below_then HB.out HB.out.size hb⟩
    rw [idxOf_hit 0 x p1 hlt HQ.out HN.out]
    rfl
   | false =>
    rw [hq] at hcall
    have HQ := aM hq
    clear hq
    have HC := aM hcall
    clear hcall
    go_wp2_with (go_at_fn g; refine HC.out.mono ?_; rintro e w' ⟨rfl, hb⟩)
    go_roundg (xs.length - (x.toNat + 1))
    case measure => have := HX.out; omega
    case rel =>
     refine ⟨x + 1, by go_num, ⟨by have := HX.out; omega, by have := HX.out; omega, by have := HX.out; omega⟩, ⟨below_then HB.out HB.out.size hb⟩, ⟨fun j h0 h1 => ?_⟩⟩
     by_cases e : j = x
     ·subst e; exact HQ.out
     ·exact HN.out j h0 (by omega)
  ·go_wp2
   go_ret
   refine ⟨?_, HB.out⟩
   rw [idxOf_miss 0 (fun j h0 h1 => HN.out j h0 (by have := HX.out; omega))]
   rfl
set_option maxHeartbeats 1000000 in
theorem has_ints (q : Int → Bool) (g : Nat) (lb : Array Value) (eg : ∀ args w, (callFunc g args).run Tryd.prog w = .ok (.enter g args) w) (A0 : Option Addr) (c0 : Nat) (xs : List Int) (w : World)
  (hr : Kd.C (Kd.int .i64) w A0 xs.length xs) (hp : ∀ x, x ∈ xs → ∀ W : World, Below w.heap.size w W → Calls Tryd.prog g (#[.int .i64 x] ++ lb) W fun e w' => e = .returned (.bool (q x)) ∧ Below W.heap.size W w') :
  Calls Tryd.prog 42 #[.slice A0 xs.length c0, .func (.func g) #[] lb] w fun e w' => e = .returned (.bool (xs.any q)) ∧ Below w.heap.size w w' := by
 have HC := aM (idx_ints q g lb eg A0 c0 xs w hr hp)
 rw [← idxOf_any q xs]
 generalize idxOf q xs = n at HC
 clear hr hp
 go_enter Tryd.func42, Tryd.ntmps42
 go_wp2_with (go_at_call 51; refine HC.out.mono ?_; rintro e w' ⟨rfl, hb⟩)
 go_ret
 exact ⟨rfl, hb⟩
def inB (n lo hi : Int) : Bool := decide (lo ≤ n) && decide (n ≤ hi)
theorem in_inB (n lo hi : Int) : impl_in.f n lo hi = some (inB n lo hi) := by
 unfold impl_in.f inB
 by_cases h : n ≥ lo
 ·rw [if_pos h]; simp [h]
 ·rw [if_neg h]; simp [h]
set_option maxHeartbeats 1000000 in
theorem within_pred (most : Int) (B : Nat) (W : World) (x : Int) (hc : W.cell? ⟨B, 0, none⟩ = some (.int .i64 most)) :
  Calls Tryd.prog 43 (#[.int .i64 x] ++ #[.pointer (some ⟨B, 0, none⟩)]) W fun e w' => e = .returned (.bool (!inB x (wrap64 (-most)) most)) ∧ Below W.heap.size W w' := by
 show Calls Tryd.prog 43 #[.int .i64 x, .pointer (some ⟨B, 0, none⟩)] W _
 have HI := aM (impl_in.calls x (wrap64 (-most)) most (inB x (wrap64 (-most)) most) W (in_inB _ _ _))
 go_enter Tryd.func43, Tryd.ntmps43
 go_wp2_with (go_at_call 26; refine HI.out.mono ?_; rintro e w' ⟨rfl, hd⟩)
 go_ret
 exact ⟨rfl, hd.below⟩
def impl_within.f (l0 : List Int) (a1 : Int) (a2 : Int) : Option (Bool) := some (decide ((l0.length : Int) = a1) && !(l0.any fun x => !inB x (wrap64 (-a2)) a2))
theorem impl_within.calls (A0 : Option Addr) (c0 : Nat) (l0 : List Int) (a1 : Int) (a2 : Int) (r : Bool) (w : World) (hr0 : Kd.C (Kd.int .i64) w A0 l0.length l0) (hc0 : l0.length ≤ c0) (h : impl_within.f l0 a1 a2 = some r) :
  Calls Tryd.prog 27 #[.slice A0 l0.length c0, .int .i64 a1, .int .i64 a2] w fun e w' => e = .returned (.bool r) ∧ Below w.heap.size w w' := by
 obtain rfl := Option.some.inj h
 clear h
 have eg : ∀ args w, (callFunc 43 args).run Tryd.prog w = .ok (.enter 43 args) w := enters_of Tryd.func43 (by kernel_rfl) rfl
 have HC := aM (has_ints (fun x => !inB x (wrap64 (-a2)) a2) 43 #[.pointer (some ⟨w.heap.size, 0, none⟩)] eg A0 c0 l0 (w.alloc (.cells #[.int .i64 a2] 3)) (Kd.C_alloc hr0 _)
  (fun x _ W hb => within_pred a2 w.heap.size W x ((hb.cell (p := ⟨w.heap.size, 0, none⟩) (by simp)).trans (by simp))))
 clear hr0
 by_cases hn : (l0.length : Int) = a1
 ·have hb1 : ((l0.length : Int) == a1) = true := beq_iff_eq.mpr hn
  have hd : decide ((l0.length : Int) = a1) = true := decide_eq_true hn
  rw [hd]
  clear hn hd
  generalize l0.any (fun x => !inB x (wrap64 (-a2)) a2) = b at HC
  go_enter Tryd.func27, Tryd.ntmps27
  go_wp2_with (go_at_call 42; refine HC.out.mono ?_; rintro e w' ⟨rfl, hb⟩)
  go_ret
  exact ⟨by simp, below_then (below_alloc (Below.refl _ _) _) (by simp) hb⟩
 ·have hb1 : ((l0.length : Int) == a1) = false := beq_eq_false_iff_ne.mpr hn
  have hd : decide ((l0.length : Int) = a1) = false := decide_eq_false hn
  rw [hd]
  clear hn hd HC
  go_enter Tryd.func27, Tryd.ntmps27
  go_wp2
  go_ret
  exact ⟨by simp, below_alloc (Below.refl _ _) _⟩

/-! ### impl_codeWords: function 28 -/
def impl_codeWords.f  : Option (List ByteArray) := some (([(⟨#[]⟩ : ByteArray), (⟨#[100, 111, 110, 101]⟩ : ByteArray), (⟨#[115, 116, 111, 112, 112, 101, 100]⟩ : ByteArray), (⟨#[111, 118, 101, 114]⟩ : ByteArray)] : List ByteArray))
theorem impl_codeWords.calls  (r : List ByteArray) (w : World) (h : impl_codeWords.f  = some r) :
  Calls Tryd.prog 28 #[] w fun e w' => ∃ v0_ : Value, e = .returned (v0_) ∧ Kd.R Kd.string 9 w' w.heap.size (fun _ => True) v0_ r ∧ Below w.heap.size w w' := by
 have HB := aM (Below.refl w.heap.size w)
 have H : (some (([(⟨#[]⟩ : ByteArray), (⟨#[100, 111, 110, 101]⟩ : ByteArray), (⟨#[115, 116, 111, 112, 112, 101, 100]⟩ : ByteArray), (⟨#[111, 118, 101, 114]⟩ : ByteArray)] : List ByteArray))) = some r := h
 clear h
 obtain ⟨y133, hy133⟩ : ∃ y_ : List ByteArray, y_ = (([(⟨#[]⟩ : ByteArray), (⟨#[100, 111, 110, 101]⟩ : ByteArray), (⟨#[115, 116, 111, 112, 112, 101, 100]⟩ : ByteArray), (⟨#[111, 118, 101, 114]⟩ : ByteArray)] : List ByteArray)) := ⟨_, rfl⟩
 try rw [← hy133] at H
 try dsimp only [Option.bind_some] at H
 have Ny133 := aM hy133
 clear hy133
 obtain rfl := Option.some.inj H
 go_enter Tryd.func28, Tryd.ntmps28
 go_wp2_with (first | ((with_reducible refine gate_dst (N := 1) rfl ?_); refine Kd.R_lit Kd.string _ 9 ?hg (N := 1) ?hd (xs := ([(⟨#[]⟩ : ByteArray), (⟨#[100, 111, 110, 101]⟩ : ByteArray), (⟨#[115, 116, 111, 112, 112, 101, 100]⟩ : ByteArray), (⟨#[111, 118, 101, 114]⟩ : ByteArray)] : List ByteArray)) (inner := [.string (⟨#[]⟩ : ByteArray), .string (⟨#[100, 111, 110, 101]⟩ : ByteArray), .string (⟨#[115, 116, 111, 112, 112, 101, 100]⟩ : ByteArray), .string (⟨#[111, 118, 101, 114]⟩ : ByteArray)]) (ok := fun _ => True) (okp := fun _ => True) ?hr ?hp (fun _ hk => hk) trivial (Below.refl _ _) (Nat.le_refl _) (by simp) ?_; (case hd => rfl); (case hg => rfl); (case hr => first | (go_simp; done) | (go_simp; rfl)); (case hp => exact (Reps.one (show Kd.M Kd.string _ _ _ (⟨#[]⟩ : ByteArray) [.string (⟨#[]⟩ : ByteArray)] from rfl) (Reps.one (show Kd.M Kd.string _ _ _ (⟨#[100, 111, 110, 101]⟩ : ByteArray) [.string (⟨#[100, 111, 110, 101]⟩ : ByteArray)] from rfl) (Reps.one (show Kd.M Kd.string _ _ _ (⟨#[115, 116, 111, 112, 112, 101, 100]⟩ : ByteArray) [.string (⟨#[115, 116, 111, 112, 112, 101, 100]⟩ : ByteArray)] from rfl) (Reps.one (show Kd.M Kd.string _ _ _ (⟨#[111, 118, 101, 114]⟩ : ByteArray) [.string (⟨#[111, 118, 101, 114]⟩ : ByteArray)] from rfl) (Reps.none _ _)))))); intro v134 w1 ho2 hb hg_ hnew_; clear hg_ hnew_; (first | rw [← Ny133.out] at ho2 | (simp only [Int.reduceToNat] at ho2; rw [← Ny133.out] at ho2)); have HO135 := aM (Kd.R_lower ho2 (below_size (by exact lB HB.out))); replace HB := aM (bj HB.out hb); clear hb ho2))
 go_ret
 exact ⟨_, er, by exact lR <| HO135.out, by exact lB HB.out⟩

-- NOT PRINTED: function 59 (abi_NoEscape)

-- NOT PRINTED: function 52 (strings_Builder_copyCheck)

-- NOT PRINTED: function 44 (strings_Builder_WriteString)

-- NOT PRINTED: function 68 (strconv_small)

-- NOT PRINTED: function 83 (strconv_log10Pow2)

-- NOT PRINTED: function 84 (bits_Len64)

-- NOT PRINTED: function 85 (strconv_bool2_int)

-- NOT PRINTED: function 69 (strconv_numDigits)

-- NOT PRINTED: function 70 (strconv_formatBase10)

-- NOT PRINTED: function 86 (strconv_isPowerOfTwo)

-- NOT PRINTED: function 93 (bits_TrailingZeros32)

-- NOT PRINTED: function 94 (bits_TrailingZeros64)

-- NOT PRINTED: function 87 (bits_TrailingZeros)

-- NOT PRINTED: function 71 (strconv_formatBits)

-- NOT PRINTED: function 60 (strconv_FormatInt)

-- NOT PRINTED: function 53 (strconv_Itoa_53)

-- NOT PRINTED: function 45 (strconv_Itoa_45)

-- NOT PRINTED: function 46 (strings_Builder_String)

/-! ### impl_joined: function 29, by hand -/
/-- Behind a call the region may be told to keep more than ahead of it. -/
theorem stronger_ {P : Program} {md : Region.Mode} {ops : Array Oper} {Q : Exit → Act → World → Prop} {S S2 : World → Prop} (hs : ∀ w, S2 w → S w) :
  ∀ (fuel : Nat) (l : Array Bool) (a : Act) (w : World), S2 w → wpAnyLast P md ops Q S2 [] fuel l a w → wpAnyLast P md ops Q S [] fuel l a w
 | 0, _, _, _, _, h => h
 | fuel + 1, _, _, _, h2, h => ⟨h.1, fun i hi => wpOp_mono (fun a' w' h' => ⟨fun _ _ => hs _ (h'.1 (by simp) h2), stronger_ hs fuel _ a' w' (h'.1 (by simp) h2) h'.2⟩) (h.2 i hi)⟩
def joinedL (l : List Int) : List UInt8 := (l.map fun n => 32 :: Go.Lib.itoa n).flatten
theorem joinedL_snoc (l : List Int) (n : Int) : joinedL (l ++ [n]) = joinedL l ++ (32 :: Go.Lib.itoa n) := by simp [joinedL]
theorem joinedL_len (l : List Int) (h : ∀ x ∈ l, -9223372036854775808 ≤ x ∧ x ≤ 9223372036854775807) : (joinedL l).length ≤ 22 * l.length := by
 induction l with
 | nil => simp [joinedL]
 | cons a l ih =>
  have h1 := Go.Lib.itoa_length_le a (h a (by simp)).1 (h a (by simp)).2
  have h2 := ih (fun x hx => h x (by simp [hx]))
  simp only [joinedL, List.map_cons, List.flatten_cons, List.length_append, List.length_cons] at *
  omega
theorem isB_grow {T e : TypeId} {B b : Nat} {bs : List Value} {w : World} (h : Go.Lib.IsBuilder T e B b bs w) (k : Nat) (os : Array Obj) : Go.Lib.IsBuilder T e B b bs (Go.Sort.grow (w.drewN k) os) := by
 have go : ∀ p, Go.Lib.BuilderAt T e B b p bs w → Go.Lib.BuilderAt T e B b p bs (Go.Sort.grow (w.drewN k) os) := by
  intro p hp
  have hlt := hp.lt
  obtain ⟨hB, v, hb, hown, hne⟩ := hp
  refine ⟨hB, v, (Go.Sort.heap_grow_old (w.drewN k) os (by exact hlt)).trans hb, hown.kept (row := none) ⟨rfl, rfl, rfl, by simp [Go.Sort.grow, World.drewN], fun j hj _ => Go.Sort.heap_grow_old (w.drewN k) os (by exact hj)⟩ ?_, hne⟩
  cases v.ownBlock with
  | none => exact .inl rfl
  | some _ => exact .inr (by simp)
 rcases h with h | h
 ·exact .inl (go _ h)
 ·exact .inr (go _ h)
theorem below_grown {B : Nat} {w0 w : World} (h : Below B w0 w) (hB : B ≤ w.heap.size) (k : Nat) (os : Array Obj) : Below B w0 (Go.Sort.grow (w.drewN k) os) :=
 ⟨h.os, h.tape, h.output, Nat.le_trans h.size (by simp [Go.Sort.grow, World.drewN]), fun j hj => (Go.Sort.heap_grow_old (w.drewN k) os (Nat.lt_of_lt_of_le hj hB)).trans (h.block j hj)⟩
theorem take_snoc (d : Int) (l : List Int) (x : Int) (h0 : 0 ≤ x) (h : x < (l.length : Int)) : l.take (x + 1).toNat = l.take x.toNat ++ [rd l x] := by
 have e : (x + 1).toNat = x.toNat + 1 := by omega
 rw [e, List.take_add_one, List.getElem?_eq_getElem (by omega)]
 simp only [Option.toList_some]
 congr 2
 unfold rd
 simp [List.getD_eq_getElem?_getD, List.getElem?_eq_getElem (show x.toNat < l.length by omega)]
theorem inB_of (l : List Int) (lo hi : Int) (h : (l.all fun x => inB x lo hi) = true) (x : Int) (hx : x ∈ l) : lo ≤ x ∧ x ≤ hi := by
 have := List.all_eq_true.mp h x hx
 simpa [inB] using this
def impl_joined.f (l0 : List Int) : Option (ByteArray) := if l0.length ≤ 6 ∧ (l0.all fun x => inB x (-999999999999) 999999999999) = true then some ⟨(joinedL l0).toArray⟩ else none
theorem impl_joined.calls (A0 : Option Addr) (c0 : Nat) (l0 : List Int) (r : ByteArray) (w : World) (hr0 : Kd.C (Kd.int .i64) w A0 l0.length l0) (hc0 : l0.length ≤ c0) (h : impl_joined.f l0 = some r) (htab : Go.Lib.TabIs Tryd.prog w "internal/strconv.uint64pow10" .u64 Go.Lib.pow10Tab) :
  Calls Tryd.prog 29 #[.slice A0 l0.length c0] w fun e w' => e = .returned (.string r) ∧ Below w.heap.size w w' := by
 unfold impl_joined.f at h
 by_cases hL : l0.length ≤ 6 ∧ (l0.all fun x => inB x (-999999999999) 999999999999) = true
 case neg => rw [if_neg hL] at h; exact absurd h (by simp)
 case pos =>
  rw [if_pos hL] at h
  obtain rfl := Option.some.inj h
  clear h
  have hA := inB_of l0 _ _ hL.2
  have hlen := hL.1
  clear hL
  have HT := aM (Go.Lib.tabBelow_of_tabIs htab)
  have HR := aM hr0
  have HA := aM hA
  have HN := aM hlen
  clear htab hr0 hA hlen
  have HF := aM (Go.Lib.fresh_isBuilder 64 5 w)
  go_enter Tryd.func29, Tryd.ntmps29
  go_wp2
  go_loopg [5, 8] l0.length (fun gg _ s8 wr => ∃ x : Int, s8 = .int .i64 x ∧ Aside0 (0 ≤ x ∧ x ≤ l0.length ∧ (l0.length : Int) - x ≤ gg) ∧ Aside0 (Below w.heap.size w wr) ∧ Aside0 (Go.Lib.IsBuilder 64 5 w.heap.size w.heap.size (Go.Lib.byteCells (joinedL (l0.take x.toNat))) wr))
  case atStart => exact ⟨0, rfl, ⟨by omega, by omega, by omega⟩, ⟨below_alloc (Below.refl _ _) _⟩, ⟨HF.out⟩⟩
  case round =>
   obtain ⟨x, rfl, HX, HB, HO⟩ := hrel
   have p1 := HX.out.1
   by_cases hlt : x < (l0.length : Int)
   ·obtain ⟨ad, e1, hx⟩ := Kd.at_int (Kd.C_below HR.out HB.out) x p1 hlt
    cases e1
    have hmem := HA.out (rd l0 x) (mem_rd 0 l0 x p1 hlt)
    have HM := aM hmem
    clear hmem
    have HI := aM (Tryd.strconv_Itoa (rd l0 x) (by have := HM.out; omega) (by have := HM.out; omega))
    have hil := Go.Lib.itoa_length_le (rd l0 x) (by have := HM.out; omega) (by have := HM.out; omega)
    have hs : ((⟨#[32]⟩ : ByteArray).size + (⟨(Go.Lib.itoa (rd l0 x)).toArray⟩ : ByteArray).size ≤ 9223372036854775807) = True := eq_true (by simp [ByteArray.size]; omega)
    have hs2 : decide ((⟨#[32]⟩ : ByteArray).size + (⟨(Go.Lib.itoa (rd l0 x)).toArray⟩ : ByteArray).size ≤ 9223372036854775807) = true := decide_eq_true (of_eq_true hs)
    have HZ : Aside0 ((Go.Lib.byteCells (joinedL (l0.take x.toNat))).length + ((⟨#[32]⟩ : ByteArray) ++ (⟨(Go.Lib.itoa (rd l0 x)).toArray⟩ : ByteArray)).size ≤ 140737488355328) := by
     refine ⟨?_⟩
     have h1 := joinedL_len (l0.take x.toNat) (fun y hy => by have := HA.out y (List.mem_of_mem_take hy); omega)
     have h2 : (l0.take x.toNat).length ≤ 6 := Nat.le_trans (by simp; omega) HN.out
     have h3 : ((⟨#[32]⟩ : ByteArray) ++ (⟨(Go.Lib.itoa (rd l0 x)).toArray⟩ : ByteArray)).size = 1 + (Go.Lib.itoa (rd l0 x)).length := by rw [ByteArray.size_append]; simp [ByteArray.size]
     rw [Go.Lib.byteCells_length, h3]
     omega
    go_wp2_with (first
     | (go_at_call 45; refine (HI.out _ (HT.out _ HB.out)).mono ?_; rintro e w' ⟨rfl, kk, os, rfl⟩; have HB2 := aM (below_grown HB.out HB.out.size kk os); have HO2 := aM (isB_grow HO.out kk os))
     | (go_at_call 44; refine (Tryd.Builder_WriteString w.heap.size w.heap.size _ _ _ HO2.out (HZ.out) HB2.out.size).mono ?_; rintro e w3 ⟨rfl, hb3, hn3⟩; have HB3 := aM (HB2.out.trans hn3); have HO3 := aM hb3; clear hb3 hn3))
    go_roundg (l0.length - (x.toNat + 1))
    case measure => have := HX.out; omega
    case rel =>
     refine ⟨x + 1, congrArg _ (by have := HN.out; have := HX.out; unfold wrap64; omega), ⟨by have := HX.out; omega, by have := HX.out; omega, by have := HX.out; omega⟩, ⟨HB3.out⟩, ⟨?_⟩⟩
     refine .inr ?_
     have h3 := HO3.out
     rw [Go.Lib.strCells_eq, ← Go.Lib.byteCells_append] at h3
     have e2 : joinedL (l0.take (x + 1).toNat) = joinedL (l0.take x.toNat) ++ ((⟨#[32]⟩ : ByteArray) ++ (⟨(Go.Lib.itoa (rd l0 x)).toArray⟩ : ByteArray)).data.toList := by
      rw [take_snoc 0 l0 x p1 hlt, joinedL_snoc]
      simp
     rw [e2]
     exact h3
   ·have e3 : l0.take x.toNat = l0 := List.take_of_length_le (by have := HX.out; omega)
    have ho := HO.out
    rw [e3] at ho
    have HO4 := aM ho
    clear ho e3
    go_wp2_with (go_at_call 46; refine (Tryd.Builder_String_any w.heap.size w.heap.size (joinedL l0) _ HO4.out HB.out.size).mono ?_; rintro e w4 ⟨rfl, hn4⟩; have HB4 := aM (HB.out.trans hn4); clear hn4)
    go_ret
    exact ⟨rfl, HB4.out⟩

/-! ### impl_ResText: function 10 -/
def impl_ResText.j0 : Nat → Bool → Int → List Int → Option (ByteArray)
 | 0, _, _, _ => none
 | k + 1, x32, x137000, x137001 => if x32 = true then (some (⟨#[]⟩ : ByteArray)) else ((impl_codeWords.f).bind fun t140 => (if 0 ≤ x137000 then (if x137000 < (t140.length : Int) then ((impl_joined.f x137001).bind fun t144 => (if (rdOf ByteArray.empty t140 x137000).size + t144.size ≤ 9223372036854775807 then (some ((rdOf ByteArray.empty t140 x137000) ++ t144)) else (none))) else (none)) else (none)))
def impl_ResText.f (k : Nat) (a0_0 : Int) (l0_1 : List Int) : Option (ByteArray) := (impl_in.f a0_0 1 3).bind fun t137 => (if t137 = true then (if (l0_1.length : Int) > 6 then (impl_ResText.j0 k true a0_0 l0_1) else (if a0_0 = 1 then ((impl_within.f l0_1 (l0_1.length : Int) 999999999999).bind fun t138 => (impl_ResText.j0 k (!t138) a0_0 l0_1)) else (if (l0_1.length : Int) > 0 then (impl_ResText.j0 k true a0_0 l0_1) else ((impl_within.f l0_1 (l0_1.length : Int) 999999999999).bind fun t139 => (impl_ResText.j0 k (!t139) a0_0 l0_1))))) else (impl_ResText.j0 k true a0_0 l0_1))
theorem impl_ResText.mono_l : ∀ k, (∀ y0 y1 y2, LeO (impl_ResText.j0 k y0 y1 y2) (impl_ResText.j0 (k + 1) y0 y1 y2))
 | 0 => fun _ _ _ r h => by simp [impl_ResText.j0] at h
 | k + 1 => by
  have ih0 := impl_ResText.mono_l k
  ·intro y0 y1 y2
   unfold impl_ResText.j0
   repeat' first
   | (with_reducible exact ih0 _ _ _)
   | (with_reducible exact LeO.refl _)
   | (with_reducible exact LeO.none _)
   | (with_reducible refine LeO.ite ?_ ?_)
   | (with_reducible refine LeO.bind ?_ (fun _ => ?_))
   | exact LeO.none _
   | refine LeO.ite ?_ ?_
   | refine LeO.bind ?_ (fun _ => ?_)
theorem impl_ResText.mono : ∀ a0 a1 k, LeO (impl_ResText.f k a0 a1) (impl_ResText.f (k + 1) a0 a1) := by
 intro a0 a1 k
 have ih0 := impl_ResText.mono_l k
 unfold impl_ResText.f
 repeat' first
   | (with_reducible exact ih0 _ _ _)
   | (with_reducible exact LeO.refl _)
   | (with_reducible exact LeO.none _)
   | (with_reducible refine LeO.ite ?_ ?_)
   | (with_reducible refine LeO.bind ?_ (fun _ => ?_))
   | exact LeO.none _
   | refine LeO.ite ?_ ?_
   | refine LeO.bind ?_ (fun _ => ?_)
def impl_ResText.T3 : Bool × List (List Nat × List Nat) := (true, [([], []), ([], []), ([1], [1]), ([0, 2], [0, 2]), ([3], [3]), ([], []), ([5], [5]), ([6, 0], [6]), ([4, 7], [4, 7]), ([8, 7, 0, 1, 2, 3, 4, 5, 6, 7, 8], [8])])
def impl_ResText.B3 : List Nat := [0, 0, 2, 7, 15, 0, 32, 97, 255, 511]
theorem impl_ResText.tab3 : rtab .any (opsOf Tryd.f10 3) = impl_ResText.T3 := by kernel_rfl
theorem impl_ResText.bits3 : waitsOk impl_ResText.T3.2 impl_ResText.B3 = true := by kernel_rfl
theorem impl_ResText.calls (k : Nat) (a0_0 : Int) (A0_1 : Option Addr) (c0_1 : Nat) (l0_1 : List Int) (r : ByteArray) (w : World) (hr0_1 : Kd.C (Kd.int .i64) w A0_1 l0_1.length l0_1) (hc0_1 : l0_1.length ≤ c0_1) (h : impl_ResText.f k a0_0 l0_1 = some r) (htab : Go.Lib.TabIs Tryd.prog w "internal/strconv.uint64pow10" .u64 Go.Lib.pow10Tab) :
  Calls Tryd.prog 10 #[.agg #[.int .i64 a0_0, .slice A0_1 l0_1.length c0_1]] w fun e w' => e = .returned (.string r) ∧ Below w.heap.size w w' := by
 have HTAB : Aside0 (∀ w', Below w.heap.size w w' → Go.Lib.TabIs Tryd.prog w' "internal/strconv.uint64pow10" .u64 Go.Lib.pow10Tab) := ⟨fun w' hb => Go.Lib.tabBelow_of_tabIs htab w' hb⟩
 clear htab
 have hu27 := Tryd.underlying27
 have HR0_1 := aM hr0_1
 have HC0_1 := aM hc0_1
 clear hr0_1 hc0_1
 have HB := aM (Below.refl w.heap.size w)
 have H : ((impl_in.f a0_0 1 3).bind fun t137 => (if t137 = true then (if (l0_1.length : Int) > 6 then (impl_ResText.j0 k true a0_0 l0_1) else (if a0_0 = 1 then ((impl_within.f l0_1 (l0_1.length : Int) 999999999999).bind fun t138 => (impl_ResText.j0 k (!t138) a0_0 l0_1)) else (if (l0_1.length : Int) > 0 then (impl_ResText.j0 k true a0_0 l0_1) else ((impl_within.f l0_1 (l0_1.length : Int) 999999999999).bind fun t139 => (impl_ResText.j0 k (!t139) a0_0 l0_1))))) else (impl_ResText.j0 k true a0_0 l0_1))) = some r := h
 clear h
 have HC2 := aM H
 clear H
 go_enter Tryd.func10, Tryd.ntmps10
 go_upto_region 1 with (first | ((with_reducible refine gate_dst (N := 1) rfl ?_); (try (refine gate_guard (by rfl) ?_; dsimp only)); refine bx 1 #[.int .i64 a0_0, .slice A0_1 l0_1.length c0_1] 27 ?_; intro gb136 hg w3 hbox hb; have BK136 := aM (hbox); have GW136 := aM ((gz hg HB.out)); have IGW136 : Nonempty _ := ⟨GW136.out⟩; have GE136 := aM ((gz hg HB.out)); have IGE136 : Nonempty _ := ⟨GE136.out⟩; replace HB := aM (bj HB.out hb); clear hb hbox hg))
 (try simp only [Act.put, sA, s0, sS])
 go_cut [32] (fun v32 wc => ∃ (kq : Nat) (x32_1 : Bool), v32 = .bool x32_1 ∧ Aside0 (impl_ResText.j0 kq x32_1 a0_0 l0_1 = some r) ∧ Aside0 (kq ≤ k) ∧ Aside0 (wc.heap[gb136]? = some (.cells #[.int .i64 a0_0, (.slice A0_1 l0_1.length c0_1)] 27 (0, 0))) ∧ Aside0 (Below w.heap.size w wc))
 case first =>
  have H := HC2.out
  clear HC2
  obtain ⟨t137, A4, H⟩ := bS H
  try dsimp only at H
  by_cases c5 : t137 = true
  ·subst c5
   rw [if_pos rfl] at H
   try dsimp only at H
   by_cases c6 : (l0_1.length : Int) > 6
   ·rw [if_pos c6] at H
    have c6b0 := decide_eq_true c6
    have c6b1 : decide (6 < l0_1.length) = true := decide_eq_true (by omega)
    clear c6
    (first | rw [c6b0] | (simp only [i64_w, i32_w]; rw [c6b0]) | skip)
    have H' := aM H
    clear H
    obtain ⟨hcz7_0, hcz7_1, hfz7_0, hfz7_1⟩ := cf2 BK136.out
    go_wp2_with (first | ((with_reducible refine gate_callee (f := 26) rfl ?_); refine gL (some 5) Tryd.func26 #[.int .i64 a0_0, .int .i64 1, .int .i64 3] ?_; (with_reducible refine (impl_in.calls a0_0 1 3 true _ A4.out).mono ?_); rintro e w' ⟨rfl, ⟨nd, rfl⟩⟩; refine ⟨_, rfl, ?_⟩))
    go_meet
    case rel => exact ⟨_, (true), (by first | rfl | (simp; done) | (simp [*]; done)), H', ⟨by first | omega | exact Nat.le_refl _⟩, ⟨by exact lK <| BK136.out⟩, ⟨by exact jB HB.out⟩⟩
   ·rw [if_neg c6] at H
    have c6b0 := decide_eq_false c6
    have c6b1 : decide (6 < l0_1.length) = false := decide_eq_false (by omega)
    clear c6
    (first | rw [c6b0] | (simp only [i64_w, i32_w]; rw [c6b0]) | skip)
    by_cases c8 : a0_0 = 1
    ·rw [if_pos c8] at H
     have c8b0 := beq_iff_eq.mpr c8
     have c8b1 := bne_eq_false_iff_eq.mpr c8
     clear c8
     obtain ⟨t138, A9, H⟩ := bS H
     try dsimp only at H
     have H' := aM H
     clear H
     obtain ⟨hcz10_0, hcz10_1, hfz10_0, hfz10_1⟩ := cf2 BK136.out
     go_wp2_with (first | ((with_reducible refine gate_callee (f := 26) rfl ?_); refine gL (some 5) Tryd.func26 #[.int .i64 a0_0, .int .i64 1, .int .i64 3] ?_; (with_reducible refine (impl_in.calls a0_0 1 3 true _ A4.out).mono ?_); rintro e w' ⟨rfl, ⟨nd, rfl⟩⟩; refine ⟨_, rfl, ?_⟩) | (go_at_call 27; (with_reducible refine (impl_within.calls _ _ l0_1 (l0_1.length : Int) 999999999999 t138 _ ?side1 ?side2 A9.out).mono ?_); (case side1 => repeat (first | exact (Kd.C_below HR0_1.out (by exact jB HB.out)) | (with_reducible refine Kd.C_alloc ?_ _) | (with_reducible refine Kd.C_drewN ?_ _) | (with_reducible refine Kd.C_drew ?_))); (case side2 => exact HC0_1.out); rintro e w11 ⟨rfl, hb⟩; replace BK136 := aM (bb BK136.out hb); replace HB := aM (bj HB.out hb); (try clear hb)))
     go_meet
     case rel => exact ⟨_, (!t138), (by first | rfl | (simp; done) | (simp [*]; done)), H', ⟨by first | omega | exact Nat.le_refl _⟩, ⟨by exact lK <| BK136.out⟩, ⟨by exact jB HB.out⟩⟩
    ·rw [if_neg c8] at H
     have c8b0 := beq_eq_false_iff_ne.mpr c8
     have c8b1 := bne_iff_ne.mpr c8
     by_cases c12 : (l0_1.length : Int) > 0
     ·rw [if_pos c12] at H
      have c12b0 := decide_eq_true c12
      have c12b1 : decide (0 < l0_1.length) = true := decide_eq_true (by omega)
      clear c12
      have H' := aM H
      clear H
      obtain ⟨hcz13_0, hcz13_1, hfz13_0, hfz13_1⟩ := cf2 BK136.out
      go_wp2_with (first | ((with_reducible refine gate_callee (f := 26) rfl ?_); refine gL (some 5) Tryd.func26 #[.int .i64 a0_0, .int .i64 1, .int .i64 3] ?_; (with_reducible refine (impl_in.calls a0_0 1 3 true _ A4.out).mono ?_); rintro e w' ⟨rfl, ⟨nd, rfl⟩⟩; refine ⟨_, rfl, ?_⟩))
      go_meet
      case rel => exact ⟨_, (true), (by first | rfl | (simp; done) | (simp [*]; done)), H', ⟨by first | omega | exact Nat.le_refl _⟩, ⟨by exact lK <| BK136.out⟩, ⟨by exact jB HB.out⟩⟩
     ·rw [if_neg c12] at H
      have c12b0 := decide_eq_false c12
      have c12b1 : decide (0 < l0_1.length) = false := decide_eq_false (by omega)
      clear c12
      obtain ⟨t139, A14, H⟩ := bS H
      try dsimp only at H
      have H' := aM H
      clear H
      obtain ⟨hcz15_0, hcz15_1, hfz15_0, hfz15_1⟩ := cf2 BK136.out
      go_wp2_with (first | ((with_reducible refine gate_callee (f := 26) rfl ?_); refine gL (some 5) Tryd.func26 #[.int .i64 a0_0, .int .i64 1, .int .i64 3] ?_; (with_reducible refine (impl_in.calls a0_0 1 3 true _ A4.out).mono ?_); rintro e w' ⟨rfl, ⟨nd, rfl⟩⟩; refine ⟨_, rfl, ?_⟩) | (go_at_call 27; (with_reducible refine (impl_within.calls _ _ l0_1 (l0_1.length : Int) 999999999999 t139 _ ?side1 ?side2 A14.out).mono ?_); (case side1 => repeat (first | exact (Kd.C_below HR0_1.out (by exact jB HB.out)) | (with_reducible refine Kd.C_alloc ?_ _) | (with_reducible refine Kd.C_drewN ?_ _) | (with_reducible refine Kd.C_drew ?_))); (case side2 => exact HC0_1.out); rintro e w16 ⟨rfl, hb⟩; replace BK136 := aM (bb BK136.out hb); replace HB := aM (bj HB.out hb); (try clear hb)))
      go_meet
      case rel => exact ⟨_, (!t139), (by first | rfl | (simp; done) | (simp [*]; done)), H', ⟨by first | omega | exact Nat.le_refl _⟩, ⟨by exact lK <| BK136.out⟩, ⟨by exact jB HB.out⟩⟩
  ·replace c5 := Bool.eq_false_iff.mpr c5
   subst c5
   rw [if_neg nf] at H
   try dsimp only at H
   have H' := aM H
   clear H
   obtain ⟨hcz17_0, hcz17_1, hfz17_0, hfz17_1⟩ := cf2 BK136.out
   go_wp2_with (first | ((with_reducible refine gate_callee (f := 26) rfl ?_); refine gL (some 5) Tryd.func26 #[.int .i64 a0_0, .int .i64 1, .int .i64 3] ?_; (with_reducible refine (impl_in.calls a0_0 1 3 false _ A4.out).mono ?_); rintro e w' ⟨rfl, ⟨nd, rfl⟩⟩; refine ⟨_, rfl, ?_⟩))
   go_meet
   case rel => exact ⟨_, (true), (by first | rfl | (simp; done) | (simp [*]; done)), H', ⟨by first | omega | exact Nat.le_refl _⟩, ⟨by exact lK <| BK136.out⟩, ⟨by exact jB HB.out⟩⟩
 case rest =>
  clear HC2
  try clear c1
  try clear c2
  try clear p2
  try clear c5
  try clear c6
  try clear c6b0
  try clear c6b1
  try clear c8
  try clear c8b0
  try clear c8b1
  try clear c10
  try clear c12
  try clear c12b0
  try clear c12b1
  try clear hcz10_0
  try clear hcz10_1
  try clear hcz13_0
  try clear hcz13_1
  try clear hcz15_0
  try clear hcz15_1
  try clear hcz17_0
  try clear hcz17_1
  try clear hcz7_0
  try clear hcz7_1
  try clear hfz10_0
  try clear hfz10_1
  try clear hfz13_0
  try clear hfz13_1
  try clear hfz15_0
  try clear hfz15_1
  try clear hfz17_0
  try clear hfz17_1
  try clear hfz7_0
  try clear hfz7_1
  obtain ⟨kq, x32_1, rfl, HA, HJ1, BK136, HB⟩ := hcut
  cases kq with
  | zero => exact absurd HA.out (by simp [impl_ResText.j0])
  | succ kj1 =>
   have H := HA.out
   clear HA
   simp only [impl_ResText.j0] at H
   by_cases c18 : x32_1 = true
   ·subst c18
    rw [if_pos rfl] at H
    try dsimp only at H
    obtain rfl := Option.some.inj H
    go_wp2
    go_ret
    exact ⟨er, by exact jB HB.out⟩
   ·replace c18 := Bool.eq_false_iff.mpr c18
    subst c18
    rw [if_neg nf] at H
    try dsimp only at H
    obtain ⟨t140, A19, H⟩ := bS H
    try dsimp only at H
    by_cases c20 : 0 ≤ a0_0
    ·rw [if_pos c20] at H
     have c20b0 := decide_eq_true c20
     clear c20
     by_cases c21 : a0_0 < (t140.length : Int)
     ·rw [if_pos c21] at H
      have c21b0 := decide_eq_true c21
      clear c21
      obtain ⟨t144, A22, H⟩ := bS H
      try dsimp only at H
      by_cases c23 : (rdOf ByteArray.empty t140 a0_0).size + t144.size ≤ 9223372036854775807
      ·rw [if_pos c23] at H
       have c23b0 := eq_true c23
       have c23b1 := decide_eq_true c23
       try have c23b2 : (9223372036854775807 < (rdOf ByteArray.empty t140 a0_0).size + t144.size) = False := eq_false (Nat.not_lt.2 c23)
       obtain rfl := Option.some.inj H
       try go_wp2
       replace BK136 := aM (blk_drew BK136.out)
       replace HB := aM (below_drew1 HB.out)
       refine start_ (n := 10) (S := fun w' => w'.cell? ⟨gb136, 0, none⟩ = some (.int .i64 a0_0) ∧ w'.cell? ⟨gb136, 1, none⟩ = some (.slice A0_1 l0_1.length c0_1)) (ds := []) #[false, false, false, false, false, false, false, false, false, false] (by kernel_rfl) rfl rfl ⟨(blk_cell BK136.out 0).trans rfl, (blk_cell BK136.out 1).trans rfl⟩ (fun hHeld => ?_); refine with_tabW impl_ResText.tab3 impl_ResText.bits3 (fun HT_ HW_ => ?_)
       generalize wc.drew = w24 at BK136 HB hHeld ⊢
       refine pure_ (i := 1) (N := some 34) (v := ?_) (a' := ?_) #[false, true, false, false, false, false, false, false, false, false] rfl rfl (any_of HT_.out (by kernel_rfl)) (fun _ _ _ h => h) (Or.inl ⟨by rfl, ?_⟩) ?_ ?_
       rotate_left
       ·intro w'
        go_simp
        with_reducible rfl
       rotate_left
       ·simp only [Act.put, sA, s0, sS, i64_w, i32_w]
        rfl
       refine pure_ (i := 5) (N := some 38) (v := ?_) (a' := ?_) #[false, true, false, false, false, true, false, false, false, false] rfl rfl (any_of HT_.out (by kernel_rfl)) (fun _ _ _ h => h) (Or.inl ⟨by rfl, ?_⟩) ?_ ?_
       rotate_left
       ·intro w'
        go_simp
        with_reducible rfl
       rotate_left
       ·simp only [Act.put, sA, s0, sS, i64_w, i32_w]
        rfl
       refine take_ (i := 2) (N := some 35) (v := ?_) (a' := ?_) #[false, true, true, false, false, true, false, false, false, false] rfl rfl (take_ofW HT_.out HW_.out (by kernel_rfl)) (fun _ _ _ h => h) (Or.inl ⟨by rfl, ?_⟩) hHeld ?_ ?_
       rotate_left
       ·rintro w' ⟨s0, s1⟩
        go_simp
        with_reducible rfl
       rotate_left
       ·simp only [Act.put, sA, s0, sS, i64_w, i32_w]
        rfl
       refine take_ (i := 6) (N := some 39) (v := ?_) (a' := ?_) #[false, true, true, false, false, true, true, false, false, false] rfl rfl (take_ofW HT_.out HW_.out (by kernel_rfl)) (fun _ _ _ h => h) (Or.inl ⟨by rfl, ?_⟩) hHeld ?_ ?_
       rotate_left
       ·rintro w' ⟨s0, s1⟩
        go_simp
        with_reducible rfl
       rotate_left
       ·simp only [Act.put, sA, s0, sS, i64_w, i32_w]
        rfl
       refine one_ (i := 0) (N := some 33) #[true, true, true, false, false, true, true, false, false, false] rfl rfl (one_of HT_.out (by kernel_rfl)) (by decide) (fun K hK => ?_)
       refine goes_ Tryd.func28 (by kernel_rfl) rfl #[] (by rfl) rfl rfl (by (try simp only [mA, mC, mN]); first | done | rfl | (simp only [ld, lt]; rfl)) ?_
       with_reducible refine (impl_codeWords.calls  t140 _ A19.out).mono ?_
       rintro e w25 ⟨v141, rfl, ho0, hb⟩
       refine ⟨_, rfl, ?_⟩
       have HO142 := aM (Kd.R_lower ho0 (below_size (by exact jB HB.out)))
       replace BK136 := aM (bb BK136.out hb)
       replace HB := aM (bj HB.out hb)
       (try clear hb)
       (try clear hb2)
       (try clear hk)
       (try clear hi)
       (try clear ho0)
       obtain ⟨Ao26, co26, eo26⟩ := Kd.R_slice HO142.out
       (first | subst eo26 | (injection eo26 with f1_ f2_ f3_; have f4_ := f1_.symm; have f5_ := f3_.symm; clear f1_ f2_ f3_; subst f4_; subst f5_))
       have p143 : 0 ≤ (a0_0 : Int) := of_decide_eq_true (by first | (with_reducible assumption) | assumption)
       have q143 : a0_0 < (t140.length : Int) := of_decide_eq_true (by first | (with_reducible assumption) | assumption)
       obtain ⟨ad143, e143, hx143_0⟩ := Kd.at_string (Kd.R_reads' HO142.out).2.2 a0_0 p143 q143
       cases e143
       replace p143 := eq_true p143
       replace q143 := eq_true q143
       refine hK.out _ _ ⟨(blk_cell BK136.out 0).trans rfl, (blk_cell BK136.out 1).trans rfl⟩ (fun hHeld => ?_)
       refine stronger_ (S2 := fun w' => w'.cell? ⟨gb136, 0, none⟩ = some (.int .i64 a0_0) ∧ w'.cell? ⟨gb136, 1, none⟩ = some (.slice A0_1 l0_1.length c0_1) ∧ w'.cell? (ad143.add (a0_0).toNat) = some (.string (rdOf ByteArray.empty t140 a0_0))) (fun _ h => ⟨h.1, h.2.1⟩) _ _ _ _ ⟨hHeld.1, hHeld.2, hx143_0⟩ ?_
       replace hHeld := And.intro hHeld.1 (And.intro hHeld.2 hx143_0)
       clear hK K
       refine norm_ (a' := ?_) ?_ ?_
       rotate_left
       ·show Act.put _ (some 33) _ = _
        simp only [Act.put, sA, s0, sS, i64_w, i32_w]
        rfl
       refine pure_ (i := 3) (N := some 36) (v := ?_) (a' := ?_) #[true, true, true, true, false, true, true, false, false, false] rfl rfl (any_of HT_.out (by kernel_rfl)) (fun _ _ _ h => h) (Or.inl ⟨by rfl, ?_⟩) ?_ ?_
       rotate_left
       ·intro w'
        go_simp
        with_reducible rfl
       rotate_left
       ·simp only [Act.put, sA, s0, sS, i64_w, i32_w]
        rfl
       refine take_ (i := 4) (N := some 37) (v := ?_) (a' := ?_) #[true, true, true, true, true, true, true, false, false, false] rfl rfl (take_ofW HT_.out HW_.out (by kernel_rfl)) (fun _ _ _ h => h) (Or.inl ⟨by rfl, ?_⟩) hHeld ?_ ?_
       rotate_left
       ·rintro w' ⟨s0, s1, s2⟩
        go_simp
        with_reducible rfl
       rotate_left
       ·simp only [Act.put, sA, s0, sS, i64_w, i32_w]
        rfl
       refine one_ (i := 7) (N := some 40) #[true, true, true, true, true, true, true, true, false, false] rfl rfl (one_of HT_.out (by kernel_rfl)) (by decide) (fun K hK => ?_)
       refine goes_ Tryd.func29 (by kernel_rfl) rfl #[.slice A0_1 l0_1.length c0_1] (by rfl) rfl rfl (by (try simp only [mA, mC, mN]); first | done | rfl | (simp only [ld, lt]; rfl)) ?_
       with_reducible refine (impl_joined.calls _ _ l0_1 t144 _ ?side1 ?side2 A22.out (HTAB.out _ (by exact jB HB.out))).mono ?_
       (case side1 => exact lC <| (Kd.C_below HR0_1.out HB.out))
       (case side2 => exact HC0_1.out)
       rintro e w27 ⟨rfl, hb⟩
       have HS2_ := (hb.cell (World.block_lt_of_cell? _ _ (hHeld.2.2))).trans (hHeld.2.2)
       refine ⟨_, rfl, ?_⟩
       replace HO142 := aM (rb HO142.out hb)
       replace BK136 := aM (bb BK136.out hb)
       replace HB := aM (bj HB.out hb)
       (try clear hb)
       (try clear hb2)
       (try clear hk)
       (try clear hi)
       refine hK.out _ _ ⟨(blk_cell BK136.out 0).trans rfl, (blk_cell BK136.out 1).trans rfl, HS2_⟩ (fun hHeld => ?_)
       clear hK K
       refine norm_ (a' := ?_) ?_ ?_
       rotate_left
       ·show Act.put _ (some 40) _ = _
        simp only [Act.put, sA, s0, sS, i64_w, i32_w]
        rfl
       refine pure_ (i := 8) (N := some 41) (v := ?_) (a' := ?_) #[true, true, true, true, true, true, true, true, true, false] rfl rfl (any_of HT_.out (by kernel_rfl)) (fun _ _ _ h => h) (Or.inl ⟨by rfl, ?_⟩) ?_ ?_
       rotate_left
       ·intro w'
        go_simp
        with_reducible rfl
       rotate_left
       ·simp only [Act.put, sA, s0, sS, i64_w, i32_w]
        rfl
       refine pure_ (i := 9) (N := some 2) (v := ?_) (a' := ?_) #[true, true, true, true, true, true, true, true, true, true] rfl rfl (any_of HT_.out (by kernel_rfl)) (fun _ _ _ h => h) (Or.inl ⟨by rfl, ?_⟩) ?_ ?_
       rotate_left
       ·intro w'
        go_simp
        with_reducible rfl
       rotate_left
       ·simp only [Act.put, sA, s0, sS, i64_w, i32_w]
        rfl
       refine done_ (done_of HT_.out (by kernel_rfl)) ?_
       try go_wp2
       go_ret
       exact ⟨er, by exact jB HB.out⟩
      ·rw [if_neg c23] at H
       exact absurd H (by simp)
     ·rw [if_neg c21] at H
      exact absurd H (by simp)
    ·rw [if_neg c20] at H
     exact absurd H (by simp)

end Go.Proofs.YtcafmfmlnfaogaaDoor.QFnExactResText

-- shorter
