/- Plain functions, and that the Go code computes them: written by a program of this session over the seat's translation; the conditions stand in each theorem. -/
import Derived.Test.YtcafmfmlnfaogaaDoorQFnExactResReadx0
import Derived.Test.YtcafmfmlnfaogaaDoorQFnExactResReadx1
import Derived.Test.YtcafmfmlnfaogaaDoorQFnExactResReadx4
import Derived.Test.YtcafmfmlnfaogaaDoorQFnExactResReadx6
namespace Go.Proofs.YtcafmfmlnfaogaaDoor.QFnExactResRead
open Go.RowKit Go.Proofs.YtcafmfmlnfaogaaDoorW.PrintWords Go.Proofs.YtcafmfmlnfaogaaDoorW.PrintLast Go.Proofs.YtcafmfmlnfaogaaDoorW.PrintMore Go.Proofs.YtcafmfmlnfaogaaDoor.HWords
open Value (ownBlock)
attribute [local go_sem] max2_int min2_int max_two min_two max_three min_three max_four min_four   -- for this text's walks alone
set_option maxRecDepth 100000
set_option maxHeartbeats 8000000
set_option linter.unusedVariables false
set_option linter.unusedSimpArgs false

/-! ### laws_markIntS: function 36 -/
def laws_markIntS.l0 : Nat → List Int → Int → Int → Option (Int × List Int)
 | 0, _, _, _ => none
 | k + 1, x0, x1, x5 => if x5 < (x0.length : Int) then (if 0 ≤ x5 then (laws_markIntS.l0 k (x0.set (x5 : Int).toNat x1) (wrap64 (x1 + 1)) (wrap64 (x5 + 1))) else (none)) else (some (x1, x0))
def laws_markIntS.f (k : Nat) (l0 : List Int) (a1 : Int) : Option (Int × List Int) := laws_markIntS.l0 k l0 a1 0
theorem laws_markIntS.mono_l : ∀ k, (∀ y0 y1 y2, LeO (laws_markIntS.l0 k y0 y1 y2) (laws_markIntS.l0 (k + 1) y0 y1 y2))
 | 0 => fun _ _ _ r h => by simp [laws_markIntS.l0] at h
 | k + 1 => by
  have ih0 := laws_markIntS.mono_l k
  ·intro y0 y1 y2
   unfold laws_markIntS.l0
   repeat' first
   | (with_reducible exact ih0 _ _ _)
   | (with_reducible exact LeO.refl _)
   | (with_reducible exact LeO.none _)
   | (with_reducible refine LeO.ite ?_ ?_)
   | (with_reducible refine LeO.bind ?_ (fun _ => ?_))
   | exact LeO.none _
   | refine LeO.ite ?_ ?_
   | refine LeO.bind ?_ (fun _ => ?_)
theorem laws_markIntS.mono : ∀ a0 a1 k, LeO (laws_markIntS.f k a0 a1) (laws_markIntS.f (k + 1) a0 a1) := by
 intro a0 a1 k
 have ih0 := laws_markIntS.mono_l k
 unfold laws_markIntS.f
 repeat' first
   | (with_reducible exact ih0 _ _ _)
   | (with_reducible exact LeO.refl _)
   | (with_reducible exact LeO.none _)
   | (with_reducible refine LeO.ite ?_ ?_)
   | (with_reducible refine LeO.bind ?_ (fun _ => ?_))
   | exact LeO.none _
   | refine LeO.ite ?_ ?_
   | refine LeO.bind ?_ (fun _ => ?_)
theorem laws_markIntS.calls (k : Nat) (P0_ : Nat → Prop) (u9000_ : Value) (l0 : List Int) (a1 : Int) (r1 : Int) (r2 : List Int) (w0 w : World) (hB : Below w0.heap.size w0 w) (ho0 : Kd.R (Kd.int .i64) 3 w w0.heap.size P0_ u9000_ l0) (h : laws_markIntS.f k l0 a1 = some (r1, r2)) :
  Calls Tryd.prog 36 #[u9000_, .int .i64 a1] w fun e w' => e = .returned (.int .i64 r1) ∧ Kd.R (Kd.int .i64) 3 w' w0.heap.size (fun k_ => (P0_ k_ ∨ w.heap.size ≤ k_)) u9000_ r2 ∧ Below w0.heap.size w0 w' ∧ Kept w w' (fun k_ => P0_ k_) := by
 have HO0 := aM (show Kd.R (Kd.int .i64) 3 w w0.heap.size (fun k_ => (P0_ k_ ∨ w.heap.size ≤ k_)) u9000_ l0 from Kd.R_mono ho0 (fun k_ hk => (.inl hk)))
 have HK := aM (Kept.refl w (fun k_ => P0_ k_))
 have HW0 := aM hB.size
 have HB := aM hB
 clear hB
 have H : (laws_markIntS.l0 k l0 a1 0) = some (r1, r2) := h
 clear h
 have H' := aM H
 clear H
 go_enter Tryd.func36, Tryd.ntmps36
 go_wp2
 go_loopg [1, 5] k (fun kq v1 v5 w' => ∃ (x0_1 : List Int) (x1_1 : Int) (x5_1 : Int), v1 = .int .i64 x1_1 ∧ v5 = .int .i64 x5_1 ∧ Aside0 (laws_markIntS.l0 kq x0_1 x1_1 x5_1 = some (r1, r2)) ∧ Aside0 (kq ≤ k) ∧ Aside0 (Kd.R (Kd.int .i64) 3 w' w0.heap.size (fun k_ => (P0_ k_ ∨ w.heap.size ≤ k_)) u9000_ x0_1) ∧ Aside0 (Kept w w' (fun k_ => P0_ k_)) ∧ Aside0 (Below w0.heap.size w0 w'))
 case atStart => exact ⟨(l0), (a1), (0), (by first | rfl | (simp; done) | (simp [*]; done)), (by first | rfl | (simp; done) | (simp [*]; done)), H', ⟨Nat.le_refl _⟩, ⟨by exact lR <| HO0.out⟩, ⟨by repeat (first | (with_reducible first | exact HK.out | apply Kept.alloc | apply Kept.drewN | apply Kept.drew) | exact HK.out)⟩, ⟨by exact lB HB.out⟩⟩
 case round =>
  clear H'
  try clear p2
  obtain ⟨x0_1, x1_1, x5_1, rfl, rfl, HA, HK1, HO_0, HK, HB⟩ := hrel
  cases gk with
  | zero => exact absurd HA.out (by simp [laws_markIntS.l0])
  | succ k1 =>
   have H := HA.out
   clear HA
   simp only [laws_markIntS.l0] at H
   by_cases c3 : x5_1 < (x0_1.length : Int)
   ·rw [if_pos c3] at H
    have c3b0 := decide_eq_true c3
    clear c3
    by_cases c4 : 0 ≤ x5_1
    ·rw [if_pos c4] at H
     have c4b0 := decide_eq_true c4
     clear c4
     obtain ⟨y193, hy193⟩ : ∃ y_ : List Int, y_ = (x0_1.set (x5_1 : Int).toNat x1_1) := ⟨_, rfl⟩
     try rw [← hy193] at H
     try dsimp only [Option.bind_some] at H
     have Ny193 := aM hy193
     clear hy193
     have H' := aM H
     clear H
     obtain ⟨Ao6, co6, eo6⟩ := Kd.R_slice HO_0.out
     subst eo6
     have p5 : 0 ≤ (x5_1 : Int) := of_decide_eq_true (by first | (with_reducible assumption) | assumption)
     have q5 : (x5_1 : Int) < ((x0_1.length : Int) : Int) := of_decide_eq_true (by first | (with_reducible assumption) | assumption)
     obtain ⟨go5, co5, eo5, gb5, gl5, cl5, HG5⟩ := Kd.R_form HO_0.out (by omega)
     (first | cases eo5 | (injection eo5 with ea_ en_ ec_; (first | subst ea_ | (injection ea_ with ea_; subst ea_)); subst ec_; clear en_))
     have GB5 := aM gb5
     have IGB5 : Nonempty _ := ⟨GB5.out⟩
     have GG5 := aM HG5
     clear gb5 gl5 HG5
     have HMgo5 := aM (show (P0_ go5 ∨ w.heap.size ≤ go5) from (HO_0.out.1 _ rfl))
     obtain ⟨hx5_0, hf5_0⟩ := Kd.R_celln 0 HO_0.out (x5_1 : Int) p5 q5
     replace p5 := eq_true p5
     replace q5 := eq_true q5
     have HP7 := Kd.R_putg HO_0.out (x5_1 : Int) x1_1
     go_wp2_with (first | ((with_reducible refine gate_store (t := 3) (p := 15) rfl ?_); refine store_event (t := 3) (p := 15) (v := ?vo_w8) (w1 := (wr.setCell ⟨go5, (x5_1 : Int).toNat, none⟩ (.int .i64 x1_1))) ?hg ?ho ?hn ?hr ?_; (case ho => rfl); (case hg => rfl); (case hn => rfl); (case hr => first | (go_simp; done) | (go_simp; rfl)); intro w8 hw; have hg : wr.grownBy w8 (some go5) := (by rw [hw]; exact HP7.2); have hp_ : Kd.R (Kd.int .i64) 3 w8 w0.heap.size (fun k_ => (P0_ k_ ∨ w.heap.size ≤ k_)) (.slice (some ⟨go5, 0, none⟩) x0_1.length co6) y193 := (by rw [hw, Ny193.out]; exact HP7.1); clear HP7; replace HB := aM ((by rw [hw]; exact below_set (HB.out) GB5.out : Below w0.heap.size w0 w8)); replace HK := aM (Kept.of_grown (S := (fun k_ => P0_ k_)) hg (by repeat (first | (with_reducible first | exact HK.out | apply Kept.alloc | apply Kept.drewN | apply Kept.drew) | exact HK.out)) (fun k_ e_ => (HO_0.out.1 k_ e_))); replace HO_0 := aM (hp_); clear hg hw hp_))
     go_roundg k1
     case measure => have := HK1.out; omega
     case rel => exact ⟨(y193), (wrap64 (x1_1 + 1)), (wrap64 (x5_1 + 1)), (by first | rfl | (simp; done) | (simp [*]; done)), (by first | rfl | (simp; done) | (simp [*]; done)), H', ⟨by have := HK1.out; omega⟩, ⟨by exact lR <| HO_0.out⟩, ⟨by repeat (first | (with_reducible first | exact HK.out | apply Kept.alloc | apply Kept.drewN | apply Kept.drew) | exact HK.out)⟩, ⟨by exact lB HB.out⟩⟩
    ·rw [if_neg c4] at H
     exact absurd H (by simp)
   ·rw [if_neg c3] at H
    have c3b0 := decide_eq_false c3
    clear c3
    simp only [Option.some.injEq, Prod.mk.injEq] at H
    obtain ⟨rfl, rfl⟩ := H
    obtain ⟨Ao9, co9, eo9⟩ := Kd.R_slice HO_0.out
    subst eo9
    go_wp2
    go_ret
    exact ⟨er, by exact lR <| HO_0.out, by exact lB HB.out, by repeat (first | (with_reducible first | exact HK.out | apply Kept.alloc | apply Kept.drewN | apply Kept.drew) | exact HK.out)⟩

/-! ### laws_markResResult: function 16 -/
def laws_markResResult.f (k : Nat) (a0_0 : Int) (l0_1 : List Int) (a1 : Int) : Option (Int × List Int) := (laws_markIntS.f k l0_1 a1).bind fun bt195 => (some (bt195.1, bt195.2))
theorem laws_markResResult.mono : ∀ a0 a1 a2 k, LeO (laws_markResResult.f k a0 a1 a2) (laws_markResResult.f (k + 1) a0 a1 a2) := by
 intro a0 a1 a2 k
 unfold laws_markResResult.f
 repeat' first
   | (with_reducible exact laws_markIntS.mono _ _ _)
   | (with_reducible exact LeO.refl _)
   | (with_reducible exact LeO.none _)
   | (with_reducible refine LeO.ite ?_ ?_)
   | (with_reducible refine LeO.bind ?_ (fun _ => ?_))
   | exact LeO.none _
   | refine LeO.ite ?_ ?_
   | refine LeO.bind ?_ (fun _ => ?_)
theorem laws_markResResult.calls (k : Nat) (a0_0 : Int) (P0_1_ : Nat → Prop) (u9000_ : Value) (l0_1 : List Int) (a1 : Int) (r1 : Int) (r2 : List Int) (w0 w : World) (hB : Below w0.heap.size w0 w) (ho0_1 : Kd.R (Kd.int .i64) 3 w w0.heap.size P0_1_ u9000_ l0_1) (h : laws_markResResult.f k a0_0 l0_1 a1 = some (r1, r2)) :
  Calls Tryd.prog 16 #[.agg #[.int .i64 a0_0, u9000_], .int .i64 a1] w fun e w' => e = .returned (.int .i64 r1) ∧ Kd.R (Kd.int .i64) 3 w' w0.heap.size (fun k_ => (P0_1_ k_ ∨ w.heap.size ≤ k_)) u9000_ r2 ∧ Below w0.heap.size w0 w' ∧ Kept w w' (fun k_ => P0_1_ k_) := by
 have hu27 := Tryd.underlying27
 have HO0_1 := aM (show Kd.R (Kd.int .i64) 3 w w0.heap.size (fun k_ => (P0_1_ k_ ∨ w.heap.size ≤ k_)) u9000_ l0_1 from Kd.R_mono ho0_1 (fun k_ hk => (.inl hk)))
 have HK := aM (Kept.refl w (fun k_ => P0_1_ k_))
 have HW0 := aM hB.size
 have HB := aM hB
 clear hB
 have H : ((laws_markIntS.f k l0_1 a1).bind fun bt195 => (some (bt195.1, bt195.2))) = some (r1, r2) := h
 clear h
 obtain ⟨⟨t195, t196⟩, A3, H⟩ := bS H
 try dsimp only at H
 simp only [Option.some.injEq, Prod.mk.injEq] at H
 obtain ⟨rfl, rfl⟩ := H
 obtain ⟨Ao4, co4, eo4⟩ := Kd.R_slice HO0_1.out
 subst eo4
 go_enter Tryd.func16, Tryd.ntmps16
 go_wp2_with (first | ((with_reducible refine gate_dst (N := 2) rfl ?_); refine bx 2 #[.int .i64 a0_0, .slice Ao4 l0_1.length co4] 27 ?_; intro gb194 hg w5 hbox hb; replace HO0_1 := aM (rb HO0_1.out hb); have BK194 := aM (hbox); have GW194 := aM ((by rw [hg]; exact (by first | exact HK.out.1 | exact (show Kept w _ (fun k_ => P0_1_ k_) from by repeat (first | (with_reducible first | exact HK.out | apply Kept.alloc | apply Kept.drewN | apply Kept.drew) | exact HK.out)).1) : w.heap.size ≤ gb194)); have IGW194 : Nonempty _ := ⟨GW194.out⟩; replace HK := aM (Kept.below (S := (fun k_ => P0_1_ k_)) (by repeat (first | (with_reducible first | exact HK.out | apply Kept.alloc | apply Kept.drewN | apply Kept.drew) | exact HK.out)) hb); have GE194 := aM ((by rw [hg]; exact (below_size (by exact lB HB.out)) : w0.heap.size ≤ gb194)); have IGE194 : Nonempty _ := ⟨GE194.out⟩; replace HB := aM (bj HB.out hb); clear hb hbox hg; obtain ⟨hcz6_0, hcz6_1, hfz6_0, hfz6_1⟩ := cf2 BK194.out) | ((with_reducible refine gate_callee (f := 36) rfl ?_); refine gL (some 8) Tryd.func36 #[.slice Ao4 l0_1.length co4, .int .i64 a1] ?_; (with_reducible refine (laws_markIntS.calls k (fun k_ => some k_ = (.slice Ao4 l0_1.length co4 : Value).ownBlock) (.slice Ao4 l0_1.length co4) l0_1 a1 t195 t196 w0 _ ?side1 ?side2 A3.out).mono ?_); (case side1 => exact jB HB.out); (case side2 => exact Kd.R_tight rfl HO0_1.out); rintro e w7 ⟨rfl, hy0, hb, hkp⟩; refine ⟨_, rfl, ?_⟩; replace BK194 := aM (blk_kept (by exact lK BK194.out) hkp (fun hs_ => (fun e_ => (Kd.R_ne HO0_1.out BK194.out (by decide)) e_) hs_)); replace HK := aM (Kept.then_ (S := (fun k_ => P0_1_ k_)) (by repeat (first | (with_reducible first | exact HK.out | apply Kept.alloc | apply Kept.drewN | apply Kept.drew | refine Kept.setCell ?_ (.inr GW194.out) _) | exact HK.out)) hkp (fun k_ hs_ => (fun e_ => (HO0_1.out.1 k_ e_.symm)) hs_)); replace HO0_1 := aM (Kd.R_reok rfl hy0 (fun k_ e_ => HO0_1.out.1 k_ e_)); replace HB := aM (hb); (try clear hb); (try clear hkp); (try clear hy0)))
 go_ret
 exact ⟨er, by exact lR <| HO0_1.out, by exact jB HB.out, by repeat (first | (with_reducible first | exact HK.out | apply Kept.alloc | apply Kept.drewN | apply Kept.drew | refine Kept.setCell ?_ (.inr GW194.out) _) | exact HK.out)⟩

/-! ### laws_heldIntS: function 37 -/
def laws_heldIntS.l0 : Nat → List Int → Int → Int → Option (Int)
 | 0, _, _, _ => none
 | k + 1, x0, x1, x5 => if x5 < (x0.length : Int) then (if 0 ≤ x5 then (if (rd x0 x5) = x1 then (laws_heldIntS.l0 k x0 (wrap64 (x1 + 1)) (wrap64 (x5 + 1))) else (some (-1))) else (none)) else (some x1)
def laws_heldIntS.f (k : Nat) (l0 : List Int) (a1 : Int) : Option (Int) := laws_heldIntS.l0 k l0 a1 0
theorem laws_heldIntS.mono_l : ∀ k, (∀ y0 y1 y2, LeO (laws_heldIntS.l0 k y0 y1 y2) (laws_heldIntS.l0 (k + 1) y0 y1 y2))
 | 0 => fun _ _ _ r h => by simp [laws_heldIntS.l0] at h
 | k + 1 => by
  have ih0 := laws_heldIntS.mono_l k
  ·intro y0 y1 y2
   unfold laws_heldIntS.l0
   repeat' first
   | (with_reducible exact ih0 _ _ _)
   | (with_reducible exact LeO.refl _)
   | (with_reducible exact LeO.none _)
   | (with_reducible refine LeO.ite ?_ ?_)
   | (with_reducible refine LeO.bind ?_ (fun _ => ?_))
   | exact LeO.none _
   | refine LeO.ite ?_ ?_
   | refine LeO.bind ?_ (fun _ => ?_)
theorem laws_heldIntS.mono : ∀ a0 a1 k, LeO (laws_heldIntS.f k a0 a1) (laws_heldIntS.f (k + 1) a0 a1) := by
 intro a0 a1 k
 have ih0 := laws_heldIntS.mono_l k
 unfold laws_heldIntS.f
 repeat' first
   | (with_reducible exact ih0 _ _ _)
   | (with_reducible exact LeO.refl _)
   | (with_reducible exact LeO.none _)
   | (with_reducible refine LeO.ite ?_ ?_)
   | (with_reducible refine LeO.bind ?_ (fun _ => ?_))
   | exact LeO.none _
   | refine LeO.ite ?_ ?_
   | refine LeO.bind ?_ (fun _ => ?_)
theorem laws_heldIntS.calls (k : Nat) (A0 : Option Addr) (c0 : Nat) (l0 : List Int) (a1 : Int) (r : Int) (w : World) (hr0 : Kd.C (Kd.int .i64) w A0 l0.length l0) (hc0 : l0.length ≤ c0) (h : laws_heldIntS.f k l0 a1 = some r) :
  Calls Tryd.prog 37 #[.slice A0 l0.length c0, .int .i64 a1] w fun e w' => e = .returned (.int .i64 r) ∧ Drawn0 w w' := by
 have HR0 := aM hr0
 have HC0 := aM hc0
 clear hr0 hc0
 have H : (laws_heldIntS.l0 k l0 a1 0) = some r := h
 clear h
 have H' := aM H
 clear H
 go_enter Tryd.func37, Tryd.ntmps37
 go_wp2
 go_loopg [1, 5] k (fun kq v1 v5 w' => ∃ (x1_1 : Int) (x5_1 : Int), v1 = .int .i64 x1_1 ∧ v5 = .int .i64 x5_1 ∧ Aside0 (laws_heldIntS.l0 kq l0 x1_1 x5_1 = some r) ∧ Aside0 (kq ≤ k) ∧ Drawn0 w w')
 case atStart => exact ⟨(a1), (0), (by first | rfl | (simp; done) | (simp [*]; done)), (by first | rfl | (simp; done) | (simp [*]; done)), H', ⟨Nat.le_refl _⟩, by repeat (first | exact Drawn0.refl _ | apply Drawn0.step)⟩
 case round =>
  clear H'
  try clear p2
  obtain ⟨x1_1, x5_1, rfl, rfl, HA, HK1, ⟨m1, rfl⟩⟩ := hrel
  cases gk with
  | zero => exact absurd HA.out (by simp [laws_heldIntS.l0])
  | succ k1 =>
   have H := HA.out
   clear HA
   simp only [laws_heldIntS.l0] at H
   by_cases c3 : x5_1 < (l0.length : Int)
   ·rw [if_pos c3] at H
    have c3b0 := decide_eq_true c3
    clear c3
    by_cases c4 : 0 ≤ x5_1
    ·rw [if_pos c4] at H
     have c4b0 := decide_eq_true c4
     clear c4
     by_cases c5 : (rd l0 x5_1) = x1_1
     ·rw [if_pos c5] at H
      have c5b0 := beq_iff_eq.mpr c5
      have c5b1 := bne_eq_false_iff_eq.mpr c5
      clear c5
      have H' := aM H
      clear H
      have p197 : 0 ≤ (x5_1 : Int) := of_decide_eq_true (by first | (with_reducible assumption) | assumption)
      have q197 : x5_1 < (l0.length : Int) := of_decide_eq_true (by first | (with_reducible assumption) | assumption)
      obtain ⟨ad197, e197, hx197_0⟩ := Kd.at_int HR0.out x5_1 p197 q197
      cases e197
      replace p197 := eq_true p197
      replace q197 := eq_true q197
      go_wp2
      go_roundg k1
      case measure => have := HK1.out; omega
      case rel => exact ⟨(wrap64 (x1_1 + 1)), (wrap64 (x5_1 + 1)), (by first | rfl | (simp; done) | (simp [*]; done)), (by first | rfl | (simp; done) | (simp [*]; done)), H', ⟨by have := HK1.out; omega⟩, by repeat (first | exact Drawn0.refl _ | apply Drawn0.step)⟩
     ·rw [if_neg c5] at H
      have c5b0 := beq_eq_false_iff_ne.mpr c5
      have c5b1 := bne_iff_ne.mpr c5
      obtain rfl := Option.some.inj H
      have p197 : 0 ≤ (x5_1 : Int) := of_decide_eq_true (by first | (with_reducible assumption) | assumption)
      have q197 : x5_1 < (l0.length : Int) := of_decide_eq_true (by first | (with_reducible assumption) | assumption)
      obtain ⟨ad197, e197, hx197_0⟩ := Kd.at_int HR0.out x5_1 p197 q197
      cases e197
      replace p197 := eq_true p197
      replace q197 := eq_true q197
      go_wp2
      go_ret
      exact ⟨by first | rfl | (simp; done) | (simp [*]; done), by repeat (first | exact Drawn0.refl _ | apply Drawn0.step)⟩
    ·rw [if_neg c4] at H
     exact absurd H (by simp)
   ·rw [if_neg c3] at H
    have c3b0 := decide_eq_false c3
    clear c3
    obtain rfl := Option.some.inj H
    go_wp2
    go_ret
    exact ⟨by first | rfl | (simp; done) | (simp [*]; done), by repeat (first | exact Drawn0.refl _ | apply Drawn0.step)⟩

/-! ### laws_heldResResult: function 17 -/
def laws_heldResResult.f (k : Nat) (a0_0 : Int) (l0_1 : List Int) (a1 : Int) : Option (Int) := (laws_heldIntS.f k l0_1 a1).bind fun t199 => (if t199 < 0 then (some (-1)) else (some t199))
theorem laws_heldResResult.mono : ∀ a0 a1 a2 k, LeO (laws_heldResResult.f k a0 a1 a2) (laws_heldResResult.f (k + 1) a0 a1 a2) := by
 intro a0 a1 a2 k
 unfold laws_heldResResult.f
 repeat' first
   | (with_reducible exact laws_heldIntS.mono _ _ _)
   | (with_reducible exact LeO.refl _)
   | (with_reducible exact LeO.none _)
   | (with_reducible refine LeO.ite ?_ ?_)
   | (with_reducible refine LeO.bind ?_ (fun _ => ?_))
   | exact LeO.none _
   | refine LeO.ite ?_ ?_
   | refine LeO.bind ?_ (fun _ => ?_)
theorem laws_heldResResult.calls (k : Nat) (a0_0 : Int) (A0_1 : Option Addr) (c0_1 : Nat) (l0_1 : List Int) (a1 : Int) (r : Int) (w : World) (hr0_1 : Kd.C (Kd.int .i64) w A0_1 l0_1.length l0_1) (hc0_1 : l0_1.length ≤ c0_1) (h : laws_heldResResult.f k a0_0 l0_1 a1 = some r) :
  Calls Tryd.prog 17 #[.agg #[.int .i64 a0_0, .slice A0_1 l0_1.length c0_1], .int .i64 a1] w fun e w' => e = .returned (.int .i64 r) ∧ Below w.heap.size w w' := by
 have hu27 := Tryd.underlying27
 have HR0_1 := aM hr0_1
 have HC0_1 := aM hc0_1
 clear hr0_1 hc0_1
 have HB := aM (Below.refl w.heap.size w)
 have H : ((laws_heldIntS.f k l0_1 a1).bind fun t199 => (if t199 < 0 then (some (-1)) else (some t199))) = some r := h
 clear h
 obtain ⟨t199, A3, H⟩ := bS H
 try dsimp only at H
 by_cases c4 : t199 < 0
 ·rw [if_pos c4] at H
  have c4b0 := decide_eq_true c4
  clear c4
  obtain rfl := Option.some.inj H
  go_enter Tryd.func17, Tryd.ntmps17
  go_wp2_with (first | ((with_reducible refine gate_dst (N := 2) rfl ?_); refine bx 2 #[.int .i64 a0_0, .slice A0_1 l0_1.length c0_1] 27 ?_; intro gb198 hg w5 hbox hb; have BK198 := aM (hbox); have GW198 := aM ((gz hg HB.out)); have IGW198 : Nonempty _ := ⟨GW198.out⟩; have GE198 := aM ((gz hg HB.out)); have IGE198 : Nonempty _ := ⟨GE198.out⟩; replace HB := aM (bj HB.out hb); clear hb hbox hg; obtain ⟨hcz6_0, hcz6_1, hfz6_0, hfz6_1⟩ := cf2 BK198.out) | ((with_reducible refine gate_callee (f := 37) rfl ?_); refine gL (some 8) Tryd.func37 #[.slice A0_1 l0_1.length c0_1, .int .i64 a1] ?_; (with_reducible refine (laws_heldIntS.calls k _ _ l0_1 a1 t199 _ ?side1 ?side2 A3.out).mono ?_); (case side1 => exact lC <| (Kd.C_below HR0_1.out HB.out)); (case side2 => exact HC0_1.out); rintro e w' ⟨rfl, ⟨nd, rfl⟩⟩; refine ⟨_, rfl, ?_⟩))
  go_ret
  exact ⟨er, by exact jB HB.out⟩
 ·rw [if_neg c4] at H
  have c4b0 := decide_eq_false c4
  clear c4
  obtain rfl := Option.some.inj H
  go_enter Tryd.func17, Tryd.ntmps17
  go_wp2_with (first | ((with_reducible refine gate_dst (N := 2) rfl ?_); refine bx 2 #[.int .i64 a0_0, .slice A0_1 l0_1.length c0_1] 27 ?_; intro gb198 hg w7 hbox hb; have BK198 := aM (hbox); have GW198 := aM ((gz hg HB.out)); have IGW198 : Nonempty _ := ⟨GW198.out⟩; have GE198 := aM ((gz hg HB.out)); have IGE198 : Nonempty _ := ⟨GE198.out⟩; replace HB := aM (bj HB.out hb); clear hb hbox hg; obtain ⟨hcz8_0, hcz8_1, hfz8_0, hfz8_1⟩ := cf2 BK198.out) | ((with_reducible refine gate_callee (f := 37) rfl ?_); refine gL (some 8) Tryd.func37 #[.slice A0_1 l0_1.length c0_1, .int .i64 a1] ?_; (with_reducible refine (laws_heldIntS.calls k _ _ l0_1 a1 t199 _ ?side1 ?side2 A3.out).mono ?_); (case side1 => exact lC <| (Kd.C_below HR0_1.out HB.out)); (case side2 => exact HC0_1.out); rintro e w' ⟨rfl, ⟨nd, rfl⟩⟩; refine ⟨_, rfl, ?_⟩))
  go_ret
  exact ⟨er, by exact jB HB.out⟩

/-! ### laws_FnExactResRead: function 5 -/
mutual
def laws_FnExactResRead.j0 : Nat → ByteArray → Bool → Bool → Int → List Int → Int → List Int → Option (Bool)
 | 0, _, _, _, _, _, _, _ => none
 | k + 1, x0, x4, x32, x206000, x206001, x212000, x212001 => if x32 = true then (some false) else ((laws_markResResult.f k x212000 x212001 1).bind fun bt213 => ((laws_heldResResult.f k x212000 bt213.2 1).bind fun t215 => (if t215 < 0 then (some false) else (if t215 = bt213.1 then ((impl_ResRead.f k x0).bind fun bt216 => ((laws_eqResResult.f k bt216.1 bt216.2.1 x206000 x206001).bind fun t222 => (if t222 = true then (laws_FnExactResRead.j1 k bt213.1 (bt216.2.2 != x4) x212000 bt213.2) else (laws_FnExactResRead.j1 k bt213.1 true x212000 bt213.2)))) else (some false)))))
def laws_FnExactResRead.j1 : Nat → Int → Bool → Int → List Int → Option (Bool)
 | 0, _, _, _, _ => none
 | k + 1, x7, x57, x212000, x212001 => if x57 = true then (some false) else ((laws_heldResResult.f k x212000 x212001 1).bind fun t223 => (if t223 < 0 then (some false) else (if t223 = x7 then (some true) else (some false))))
end
def laws_FnExactResRead.f (k : Nat) (a0 : ByteArray) : Option (Bool) := if (a0.size : Int) > 1048576 then (some true) else ((spec_ResRead.f k a0).bind fun bt200 => ((impl_ResRead.f k a0).bind fun bt206 => ((laws_eqResResult.f k bt206.1 bt206.2.1 bt200.1 bt200.2.1).bind fun t212 => (if t212 = true then (laws_FnExactResRead.j0 k a0 bt200.2.2 (bt206.2.2 != bt200.2.2) bt200.1 bt200.2.1 bt206.1 bt206.2.1) else (laws_FnExactResRead.j0 k a0 bt200.2.2 true bt200.1 bt200.2.1 bt206.1 bt206.2.1)))))
theorem laws_FnExactResRead.mono_l : ∀ k, (∀ y0 y1 y2 y3 y4 y5 y6, LeO (laws_FnExactResRead.j0 k y0 y1 y2 y3 y4 y5 y6) (laws_FnExactResRead.j0 (k + 1) y0 y1 y2 y3 y4 y5 y6)) ∧ (∀ y0 y1 y2 y3, LeO (laws_FnExactResRead.j1 k y0 y1 y2 y3) (laws_FnExactResRead.j1 (k + 1) y0 y1 y2 y3))
 | 0 => ⟨fun _ _ _ _ _ _ _ r h => by simp [laws_FnExactResRead.j0] at h, fun _ _ _ _ r h => by simp [laws_FnExactResRead.j1] at h⟩
 | k + 1 => by
  obtain ⟨ih0, ih1⟩ := laws_FnExactResRead.mono_l k
  refine ⟨?_, ?_⟩
  ·intro y0 y1 y2 y3 y4 y5 y6
   unfold laws_FnExactResRead.j0
   repeat' first
   | (with_reducible exact ih0 _ _ _ _ _ _ _)
   | (with_reducible exact ih1 _ _ _ _)
   | (with_reducible exact impl_ResRead.mono _ _)
   | (with_reducible exact laws_eqResResult.mono _ _ _ _ _)
   | (with_reducible exact laws_heldResResult.mono _ _ _ _)
   | (with_reducible exact laws_markResResult.mono _ _ _ _)
   | (with_reducible exact spec_ResRead.mono _ _)
   | (with_reducible exact LeO.refl _)
   | (with_reducible exact LeO.none _)
   | (with_reducible refine LeO.ite ?_ ?_)
   | (with_reducible refine LeO.bind ?_ (fun _ => ?_))
   | exact LeO.none _
   | refine LeO.ite ?_ ?_
   | refine LeO.bind ?_ (fun _ => ?_)
  ·intro y0 y1 y2 y3
   unfold laws_FnExactResRead.j1
   repeat' first
   | (with_reducible exact ih0 _ _ _ _ _ _ _)
   | (with_reducible exact ih1 _ _ _ _)
   | (with_reducible exact impl_ResRead.mono _ _)
   | (with_reducible exact laws_eqResResult.mono _ _ _ _ _)
   | (with_reducible exact laws_heldResResult.mono _ _ _ _)
   | (with_reducible exact laws_markResResult.mono _ _ _ _)
   | (with_reducible exact spec_ResRead.mono _ _)
   | (with_reducible exact LeO.refl _)
   | (with_reducible exact LeO.none _)
   | (with_reducible refine LeO.ite ?_ ?_)
   | (with_reducible refine LeO.bind ?_ (fun _ => ?_))
   | exact LeO.none _
   | refine LeO.ite ?_ ?_
   | refine LeO.bind ?_ (fun _ => ?_)
theorem laws_FnExactResRead.mono : ∀ a0 k, LeO (laws_FnExactResRead.f k a0) (laws_FnExactResRead.f (k + 1) a0) := by
 intro a0 k
 obtain ⟨ih0, ih1⟩ := laws_FnExactResRead.mono_l k
 unfold laws_FnExactResRead.f
 repeat' first
   | (with_reducible exact ih0 _ _ _ _ _ _ _)
   | (with_reducible exact ih1 _ _ _ _)
   | (with_reducible exact impl_ResRead.mono _ _)
   | (with_reducible exact laws_eqResResult.mono _ _ _ _ _)
   | (with_reducible exact laws_heldResResult.mono _ _ _ _)
   | (with_reducible exact laws_markResResult.mono _ _ _ _)
   | (with_reducible exact spec_ResRead.mono _ _)
   | (with_reducible exact LeO.refl _)
   | (with_reducible exact LeO.none _)
   | (with_reducible refine LeO.ite ?_ ?_)
   | (with_reducible refine LeO.bind ?_ (fun _ => ?_))
   | exact LeO.none _
   | refine LeO.ite ?_ ?_
   | refine LeO.bind ?_ (fun _ => ?_)
theorem laws_FnExactResRead.calls (k : Nat) (a0 : ByteArray) (r : Bool) (w : World) (hr : Aside0 (r = true)) (h : laws_FnExactResRead.f k a0 = some r) (htab : Tryd.TB w) :
  Calls Tryd.prog 5 #[.string a0] w fun e w' => e = .returned (.bool r) ∧ Below w.heap.size w w' := by
 have HTAB : Aside0 (∀ w', Below w.heap.size w w' → Tryd.TB w') := ⟨fun w' hb => Tryd.TB.below htab hb⟩
 clear htab
 have hu27 := Tryd.underlying27
 have HB := aM (Below.refl w.heap.size w)
 have H : (if (a0.size : Int) > 1048576 then (some true) else ((spec_ResRead.f k a0).bind fun bt200 => ((impl_ResRead.f k a0).bind fun bt206 => ((laws_eqResResult.f k bt206.1 bt206.2.1 bt200.1 bt200.2.1).bind fun t212 => (if t212 = true then (laws_FnExactResRead.j0 k a0 bt200.2.2 (bt206.2.2 != bt200.2.2) bt200.1 bt200.2.1 bt206.1 bt206.2.1) else (laws_FnExactResRead.j0 k a0 bt200.2.2 true bt200.1 bt200.2.1 bt206.1 bt206.2.1)))))) = some r := h
 clear h
 by_cases c2 : (a0.size : Int) > 1048576
 ·rw [if_pos c2] at H
  have c2b0 := decide_eq_true c2
  have c2b1 : decide (1048576 < a0.size) = true := decide_eq_true (by omega)
  clear c2
  obtain rfl := Option.some.inj H
  go_enter Tryd.func5, Tryd.ntmps5
  go_wp2
  go_ret
  exact ⟨er, by exact lB HB.out⟩
 ·rw [if_neg c2] at H
  have c2b0 := decide_eq_false c2
  have c2b1 : decide (1048576 < a0.size) = false := decide_eq_false (by omega)
  clear c2
  obtain ⟨⟨t200, t201, t204⟩, A3, H⟩ := bS H
  try dsimp only at H
  obtain ⟨⟨t206, t207, t210⟩, A4, H⟩ := bS H
  try dsimp only at H
  have HC5 := aM H
  clear H
  go_enter Tryd.func5, Tryd.ntmps5
  go_upto_region 5 with (first | ((with_reducible refine gate_callee (f := 14) rfl ?_); refine gL (some 16) Tryd.func14 #[.string a0] ?_; (with_reducible refine (spec_ResRead.calls k a0 t200 t201 t204 _ A3.out).mono ?_); rintro e w6 ⟨v202, rfl, ho0, hb⟩; refine ⟨_, rfl, ?_⟩; have HO203 := aM (Kd.R_lower ho0 (below_size (by exact lB HB.out))); replace HB := aM (bj HB.out hb); (try clear hb); (try clear ho0)) | ((with_reducible refine gate_dst (N := 3) rfl ?_); refine bx 3 #[.int .i64 0, .slice none 0 0] 27 ?_; intro gb205 hg w7 hbox hb; replace HO203 := aM (rb HO203.out hb); have BK205 := aM (hbox); have GW205 := aM ((gz hg HB.out)); have IGW205 : Nonempty _ := ⟨GW205.out⟩; have GE205 := aM ((gz hg HB.out)); have IGE205 : Nonempty _ := ⟨GE205.out⟩; replace HB := aM (bj HB.out hb); clear hb hbox hg; obtain ⟨hcz8_0, hcz8_1, hfz8_0, hfz8_1⟩ := cf2 BK205.out; obtain ⟨Ao9, co9, eo9⟩ := Kd.R_slice HO203.out; subst eo9) | ((with_reducible refine gate_callee (f := 15) rfl ?_); refine gL (some 21) Tryd.func15 #[.string a0] ?_; (with_reducible refine (impl_ResRead.calls k a0 t206 t207 t210 _ A4.out (HTAB.out _ (by exact jB HB.out))).mono ?_); rintro e w10 ⟨v208, rfl, ho0, hb⟩; refine ⟨_, rfl, ?_⟩; have HO209 := aM (Kd.R_lower (Kd.R_new' ho0 (Kd.R_lt (qp (R2 HO203.out BK205.out)))) (below_size (by exact jB HB.out))); replace HO203 := aM (Kd.R_elder' (qp (R2 HO203.out BK205.out)) (Kd.R_base ho0) hb); replace BK205 := aM (blk_below (g := gb205) (o := .cells #[.int .i64 t200, .slice Ao9 t201.length co9] 27 (0, 0)) (by exact p2 (lK BK205.out)) hb); replace HB := aM (bj HB.out hb); (try clear hb); (try clear ho0)) | ((with_reducible refine gate_dst (N := 5) rfl ?_); refine bx 5 #[.int .i64 0, .slice none 0 0] 27 ?_; intro gb211 hg w11 hbox hb; replace HO203 := aM (rb HO203.out hb); replace HO209 := aM (rb HO209.out hb); have BK211 := aM (hbox); have GW211 := aM ((gz hg HB.out)); have IGW211 : Nonempty _ := ⟨GW211.out⟩; have GE211 := aM ((gz hg HB.out)); have IGE211 : Nonempty _ := ⟨GE211.out⟩; replace HB := aM (bj HB.out hb); have NB205_211 := aM ((neL hg (lK BK205.out) : gb205 ≠ gb211)); have NB211_205 := aM ((neG hg (lK BK205.out) : gb211 ≠ gb205)); replace BK205 := aM (bb BK205.out hb); clear hb hbox hg; have hnb12 := NB211_205.out; have hnc12 := NB205_211.out; obtain ⟨hcz13_0, hcz13_1, hfz13_0, hfz13_1⟩ := cf2 BK211.out; obtain ⟨Ao14, co14, eo14⟩ := Kd.R_slice HO209.out; subst eo14))
  (try simp only [Act.put, sA, s0, sS])
  go_cut [32] (fun v32 wc => ∃ (kq : Nat) (x32_4 : Bool), v32 = .bool x32_4 ∧ Aside0 (laws_FnExactResRead.j0 kq a0 t204 x32_4 t200 t201 t206 t207 = some r) ∧ Aside0 (kq ≤ k) ∧ Aside0 (Kd.R (Kd.int .i64) 3 wc w.heap.size (fun k_ => some k_ ≠ ((.slice Ao14 t207.length co14) : Value).ownBlock) (.slice Ao9 t201.length co9) t201) ∧ Aside0 (Kd.R (Kd.int .i64) 3 wc w.heap.size (fun k_ => some k_ ≠ ((.slice Ao9 t201.length co9) : Value).ownBlock) (.slice Ao14 t207.length co14) t207) ∧ Aside0 (wc.heap[gb205]? = some (.cells #[.int .i64 t200, (.slice Ao9 t201.length co9)] 27 (0, 0))) ∧ Aside0 (wc.heap[gb211]? = some (.cells #[.int .i64 t206, (.slice Ao14 t207.length co14)] 27 (0, 0))) ∧ Aside0 (Below w.heap.size w wc))
  case first =>
   have H := HC5.out
   clear HC5
   obtain ⟨t212, A15, H⟩ := bS H
   try dsimp only at H
   by_cases c16 : t212 = true
   ·subst c16
    rw [if_pos rfl] at H
    try dsimp only at H
    have H' := aM H
    clear H
    have hnb17 := NB211_205.out
    have hnc17 := NB205_211.out
    obtain ⟨hcz18_0, hcz18_1, hfz18_0, hfz18_1⟩ := cf2 BK211.out
    obtain ⟨hcz19_0, hcz19_1, hfz19_0, hfz19_1⟩ := cf2 BK205.out
    go_wp2_with (first | ((with_reducible refine gate_callee (f := 11) rfl ?_); refine gL (some 26) Tryd.func11 #[.agg #[.int .i64 t206, .slice Ao14 t207.length co14], .agg #[.int .i64 t200, .slice Ao9 t201.length co9]] ?_; (with_reducible refine (laws_eqResResult.calls k t206 _ _ t207 t200 _ _ t201 true _ ?side1 ?side2 ?side3 ?side4 A15.out).mono ?_); (case side1 => refine (Kd.R_reads' (e := 3) (base := w.heap.size) (ok := fun k_ => (True ∧ some k_ ≠ ownBlock (.slice Ao9 t201.length co9))) (n := t207.length) (c := co14) ?_).2.2; exact (qp (R2 HO209.out BK211.out))); (case side2 => exact (Kd.R_reads' HO209.out).2.1); (case side3 => refine (Kd.R_reads' (e := 3) (base := w.heap.size) (ok := fun k_ => (True ∧ some k_ ≠ ownBlock (.slice Ao14 t207.length co14))) (n := t201.length) (c := co9) ?_).2.2; exact (qp (R2 HO203.out BK211.out))); (case side4 => exact (Kd.R_reads' HO203.out).2.1); rintro e w20 ⟨rfl, hb⟩; refine ⟨_, rfl, ?_⟩; replace HO203 := aM (Kd.R_below (qp (R2 HO203.out BK211.out)) hb); replace HO209 := aM (Kd.R_below (qp (R2 HO209.out BK211.out)) hb); replace BK205 := aM (blk_below (f2 (lK BK205.out) NB205_211.out) hb); replace BK211 := aM (blk_below (g := gb211) (o := .cells #[.int .i64 t206, .slice Ao14 t207.length co14] 27 (0, 0)) (by exact p2 (lK BK211.out)) hb); replace HB := aM (bj HB.out hb); (try clear hb)))
    go_meet
    case rel => exact ⟨_, ((t210 != t204)), (by first | rfl | (simp; done) | (simp [*]; done)), H', ⟨by first | omega | exact Nat.le_refl _⟩, ⟨by exact lR <| Kd.R_mono HO203.out (fun _ hk => hk.2)⟩, ⟨by exact lR <| Kd.R_mono HO209.out (fun _ hk => hk.2)⟩, ⟨by exact lK <| BK205.out⟩, ⟨by exact lK <| BK211.out⟩, ⟨by exact jB HB.out⟩⟩
   ·replace c16 := Bool.eq_false_iff.mpr c16
    subst c16
    rw [if_neg nf] at H
    try dsimp only at H
    have H' := aM H
    clear H
    have hnb21 := NB211_205.out
    have hnc21 := NB205_211.out
    obtain ⟨hcz22_0, hcz22_1, hfz22_0, hfz22_1⟩ := cf2 BK211.out
    obtain ⟨hcz23_0, hcz23_1, hfz23_0, hfz23_1⟩ := cf2 BK205.out
    go_wp2_with (first | ((with_reducible refine gate_callee (f := 11) rfl ?_); refine gL (some 26) Tryd.func11 #[.agg #[.int .i64 t206, .slice Ao14 t207.length co14], .agg #[.int .i64 t200, .slice Ao9 t201.length co9]] ?_; (with_reducible refine (laws_eqResResult.calls k t206 _ _ t207 t200 _ _ t201 false _ ?side1 ?side2 ?side3 ?side4 A15.out).mono ?_); (case side1 => refine (Kd.R_reads' (e := 3) (base := w.heap.size) (ok := fun k_ => (True ∧ some k_ ≠ ownBlock (.slice Ao9 t201.length co9))) (n := t207.length) (c := co14) ?_).2.2; exact (qp (R2 HO209.out BK211.out))); (case side2 => exact (Kd.R_reads' HO209.out).2.1); (case side3 => refine (Kd.R_reads' (e := 3) (base := w.heap.size) (ok := fun k_ => (True ∧ some k_ ≠ ownBlock (.slice Ao14 t207.length co14))) (n := t201.length) (c := co9) ?_).2.2; exact (qp (R2 HO203.out BK211.out))); (case side4 => exact (Kd.R_reads' HO203.out).2.1); rintro e w24 ⟨rfl, hb⟩; refine ⟨_, rfl, ?_⟩; replace HO203 := aM (Kd.R_below (qp (R2 HO203.out BK211.out)) hb); replace HO209 := aM (Kd.R_below (qp (R2 HO209.out BK211.out)) hb); replace BK205 := aM (blk_below (f2 (lK BK205.out) NB205_211.out) hb); replace BK211 := aM (blk_below (g := gb211) (o := .cells #[.int .i64 t206, .slice Ao14 t207.length co14] 27 (0, 0)) (by exact p2 (lK BK211.out)) hb); replace HB := aM (bj HB.out hb); (try clear hb)))
    go_meet
    case rel => exact ⟨_, (true), (by first | rfl | (simp; done) | (simp [*]; done)), H', ⟨by first | omega | exact Nat.le_refl _⟩, ⟨by exact lR <| Kd.R_mono HO203.out (fun _ hk => hk.2)⟩, ⟨by exact lR <| Kd.R_mono HO209.out (fun _ hk => hk.2)⟩, ⟨by exact lK <| BK205.out⟩, ⟨by exact lK <| BK211.out⟩, ⟨by exact jB HB.out⟩⟩
  case rest =>
   clear HC5
   try clear c1
   try clear c2
   try clear c2b0
   try clear c2b1
   try clear p2
   try clear c5
   try clear c11
   try clear c12
   try clear c14
   try clear c15
   try clear c16
   try clear c17
   try clear c21
   try clear hcz13_0
   try clear hcz13_1
   try clear hcz18_0
   try clear hcz18_1
   try clear hcz19_0
   try clear hcz19_1
   try clear hcz22_0
   try clear hcz22_1
   try clear hcz23_0
   try clear hcz23_1
   try clear hcz8_0
   try clear hcz8_1
   try clear hfz13_0
   try clear hfz13_1
   try clear hfz18_0
   try clear hfz18_1
   try clear hfz19_0
   try clear hfz19_1
   try clear hfz22_0
   try clear hfz22_1
   try clear hfz23_0
   try clear hfz23_1
   try clear hfz8_0
   try clear hfz8_1
   obtain ⟨kq, x32_4, rfl, HA, HJ4, HO_206001, HO_212001, BK205, BK211, HB⟩ := hcut
   cases kq with
   | zero => exact absurd HA.out (by simp [laws_FnExactResRead.j0])
   | succ kj4 =>
    have H := HA.out
    clear HA
    simp only [laws_FnExactResRead.j0] at H
    by_cases c25 : x32_4 = true
    ·subst c25
     rw [if_pos rfl] at H
     try dsimp only at H
     exact absurd (Option.some.inj H) (by rw [hr.out]; decide)
    ·replace c25 := Bool.eq_false_iff.mpr c25
     subst c25
     rw [if_neg nf] at H
     try dsimp only at H
     obtain ⟨⟨t213, t214⟩, A26, H⟩ := bS H
     try dsimp only at H
     obtain ⟨t215, A27, H⟩ := bS H
     try dsimp only at H
     by_cases c28 : t215 < 0
     ·rw [if_pos c28] at H
      have c28b0 := decide_eq_true c28
      clear c28
      exact absurd (Option.some.inj H) (by rw [hr.out]; decide)
     ·rw [if_neg c28] at H
      have c28b0 := decide_eq_false c28
      clear c28
      by_cases c29 : t215 = t213
      ·rw [if_pos c29] at H
       have c29b0 := beq_iff_eq.mpr c29
       have c29b1 := bne_eq_false_iff_eq.mpr c29
       clear c29
       obtain ⟨⟨t216, t217, t220⟩, A30, H⟩ := bS H
       try dsimp only at H
       have HC31 := aM H
       clear H
       have hnb32 := NB211_205.out
       have hnc32 := NB205_211.out
       obtain ⟨hcz33_0, hcz33_1, hfz33_0, hfz33_1⟩ := cf2 BK211.out
       go_upto_region 16 with (first | ((with_reducible refine gate_callee (f := 16) rfl ?_); refine gL (some 35) Tryd.func16 #[.agg #[.int .i64 t206, .slice Ao14 t207.length co14], .int .i64 1] ?_; (with_reducible refine (laws_markResResult.calls kj4 t206 (fun k_ => some k_ = (.slice Ao14 t207.length co14 : Value).ownBlock) (.slice Ao14 t207.length co14) t207 1 t213 t214 w _ ?side1 ?side2 A26.out).mono ?_); (case side1 => exact jB HB.out); (case side2 => exact Kd.R_tight rfl HO_212001.out); rintro e w34 ⟨rfl, hy0, hb, hkp⟩; refine ⟨_, rfl, ?_⟩; replace HO_206001 := aM (Kd.R_mono (ok' := fun k_ => some k_ ≠ ownBlock (.slice Ao14 t207.length co14)) (Kd.R_keptB (HO_206001.out) hkp (fun k_ hk_ hs_ => (hk_) hs_)) (fun k_ hk_ => hk_.1)); replace BK205 := aM (blk_kept (by exact lK BK205.out) hkp (fun hs_ => (fun e_ => (Kd.R_ne HO_212001.out BK205.out (by decide)) e_) hs_)); replace BK211 := aM (blk_kept (by exact lK BK211.out) hkp (fun hs_ => (fun e_ => (Kd.R_ne HO_212001.out BK211.out (by decide)) e_) hs_)); replace HO_212001 := aM (Kd.R_reok rfl hy0 (fun k_ e_ => HO_212001.out.1 k_ e_)); replace HB := aM (hb); (try clear hb); (try clear hkp); (try clear hy0); obtain ⟨hcz35_0, hcz35_1, hfz35_0, hfz35_1⟩ := cf2 BK211.out) | ((with_reducible refine gate_callee (f := 17) rfl ?_); refine goesL_ (some 38) rfl rfl Tryd.func17 (by kernel_rfl) rfl #[.agg #[.int .i64 t206, .slice Ao14 t214.length co14], .int .i64 1] rfl (by (try simp only [mA, mC, mN]); first | done | (rw [show t214.length = t207.length from (Kd.R_reads' HO_212001.out).1.symm] <;> rfl) | rfl | (simp only [List.length_drop, List.length_take]; rfl)) ?_; (with_reducible refine (laws_heldResResult.calls kj4 t206 _ _ t214 1 t215 _ ?side1 ?side2 A27.out).mono ?_); (case side1 => exact lC <| (Kd.R_reads' HO_212001.out).2.2); (case side2 => rw [show t214.length = t207.length from (Kd.R_reads' HO_212001.out).1.symm]; exact (Kd.R_reads' HO_212001.out).2.1); rintro e w36 ⟨rfl, hb⟩; refine ⟨_, rfl, ?_⟩; replace HO_206001 := aM (rb HO_206001.out hb); replace HO_212001 := aM (rb HO_212001.out hb); replace BK205 := aM (bb BK205.out hb); replace BK211 := aM (bb BK211.out hb); replace HB := aM (bj HB.out hb); (try clear hb)) | ((with_reducible refine gate_callee (f := 15) rfl ?_); refine gL (some 46) Tryd.func15 #[.string a0] ?_; (with_reducible refine (impl_ResRead.calls kj4 a0 t216 t217 t220 _ A30.out (HTAB.out _ (by exact jB HB.out))).mono ?_); rintro e w37 ⟨v218, rfl, ho0, hb⟩; refine ⟨_, rfl, ?_⟩; have HO219 := aM (Kd.R_lower (Kd.R_new' (Kd.R_new' ho0 (rl HO_206001.out)) (rl HO_212001.out)) (below_size (by exact jB HB.out))); replace HO_206001 := aM (Kd.R_elder' (by exact lR HO_206001.out) (Kd.R_base ho0) hb); replace HO_212001 := aM (Kd.R_elder' (by exact lR HO_212001.out) (Kd.R_base ho0) hb); replace BK205 := aM (bb BK205.out hb); replace BK211 := aM (bb BK211.out hb); replace HB := aM (bj HB.out hb); (try clear hb); (try clear ho0)) | ((with_reducible refine gate_dst (N := 9) rfl ?_); refine bx 9 #[.int .i64 0, .slice none 0 0] 27 ?_; intro gb221 hg w38 hbox hb; replace HO_206001 := aM (rb HO_206001.out hb); replace HO_212001 := aM (rb HO_212001.out hb); replace HO219 := aM (rb HO219.out hb); have BK221 := aM (hbox); have GW221 := aM ((gz hg HB.out)); have IGW221 : Nonempty _ := ⟨GW221.out⟩; have GE221 := aM ((gz hg HB.out)); have IGE221 : Nonempty _ := ⟨GE221.out⟩; replace HB := aM (bj HB.out hb); have NB205_221 := aM ((neL hg (lK BK205.out) : gb205 ≠ gb221)); have NB221_205 := aM ((neG hg (lK BK205.out) : gb221 ≠ gb205)); replace BK205 := aM (bb BK205.out hb); have NB211_221 := aM ((neL hg (lK BK211.out) : gb211 ≠ gb221)); have NB221_211 := aM ((neG hg (lK BK211.out) : gb221 ≠ gb211)); replace BK211 := aM (bb BK211.out hb); clear hb hbox hg; have hnb39 := NB221_205.out; have hnc39 := NB205_221.out; have hnb40 := NB221_211.out; have hnc40 := NB211_221.out; obtain ⟨hcz41_0, hcz41_1, hfz41_0, hfz41_1⟩ := cf2 BK221.out; obtain ⟨Ao42, co42, eo42⟩ := Kd.R_slice HO219.out; subst eo42))
       (try simp only [Act.put, sA, s0, sS])
       go_cut [57] (fun v57 wc => ∃ (kq : Nat) (x57_30 : Bool), v57 = .bool x57_30 ∧ Aside0 (laws_FnExactResRead.j1 kq t213 x57_30 t206 t214 = some r) ∧ Aside0 (kq ≤ kj4) ∧ Aside0 (Kd.R (Kd.int .i64) 3 wc w.heap.size (fun k_ => some k_ ≠ ((.slice Ao14 t207.length co14) : Value).ownBlock ∧ some k_ ≠ ((.slice Ao42 t217.length co42) : Value).ownBlock) (.slice Ao9 t201.length co9) t201) ∧ Aside0 (Kd.R (Kd.int .i64) 3 wc w.heap.size (fun k_ => some k_ ≠ ((.slice Ao9 t201.length co9) : Value).ownBlock ∧ some k_ ≠ ((.slice Ao42 t217.length co42) : Value).ownBlock) (.slice Ao14 t207.length co14) t214) ∧ Aside0 (Kd.R (Kd.int .i64) 3 wc w.heap.size (fun k_ => some k_ ≠ ((.slice Ao9 t201.length co9) : Value).ownBlock ∧ some k_ ≠ ((.slice Ao14 t207.length co14) : Value).ownBlock) (.slice Ao42 t217.length co42) t217) ∧ Aside0 (wc.heap[gb205]? = some (.cells #[.int .i64 t200, (.slice Ao9 t201.length co9)] 27 (0, 0))) ∧ Aside0 (wc.heap[gb211]? = some (.cells #[.int .i64 t206, (.slice Ao14 t207.length co14)] 27 (0, 0))) ∧ Aside0 (wc.heap[gb221]? = some (.cells #[.int .i64 t216, (.slice Ao42 t217.length co42)] 27 (0, 0))) ∧ Aside0 (Below w.heap.size w wc))
       case first =>
        have H := HC31.out
        clear HC31
        obtain ⟨t222, A43, H⟩ := bS H
        try dsimp only at H
        by_cases c44 : t222 = true
        ·subst c44
         rw [if_pos rfl] at H
         try dsimp only at H
         have H' := aM H
         clear H
         have hnb45 := NB221_205.out
         have hnc45 := NB205_221.out
         have hnb46 := NB221_211.out
         have hnc46 := NB211_221.out
         obtain ⟨hcz47_0, hcz47_1, hfz47_0, hfz47_1⟩ := cf2 BK221.out
         have hnb48 := NB205_211.out
         have hnc48 := NB211_205.out
         obtain ⟨hcz49_0, hcz49_1, hfz49_0, hfz49_1⟩ := cf2 BK205.out
         go_wp2_with (first | ((with_reducible refine gate_callee (f := 11) rfl ?_); refine gL (some 51) Tryd.func11 #[.agg #[.int .i64 t216, .slice Ao42 t217.length co42], .agg #[.int .i64 t200, .slice Ao9 t201.length co9]] ?_; (with_reducible refine (laws_eqResResult.calls kj4 t216 _ _ t217 t200 _ _ t201 true _ ?side1 ?side2 ?side3 ?side4 A43.out).mono ?_); (case side1 => refine (Kd.R_reads' (e := 3) (base := w.heap.size) (ok := fun k_ => ((True ∧ some k_ ≠ ownBlock (.slice Ao9 t201.length co9)) ∧ some k_ ≠ ownBlock (.slice Ao14 t207.length co14))) (n := t217.length) (c := co42) ?_).2.2; exact (qp (R2 HO219.out BK221.out))); (case side2 => exact (Kd.R_reads' HO219.out).2.1); (case side3 => refine (Kd.R_reads' (e := 3) (base := w.heap.size) (ok := fun k_ => (some k_ ≠ ownBlock (.slice Ao14 t207.length co14) ∧ some k_ ≠ ownBlock (.slice Ao42 t217.length co42))) (n := t201.length) (c := co9) ?_).2.2; exact (qp (R2 HO_206001.out BK221.out))); (case side4 => exact (Kd.R_reads' HO_206001.out).2.1); rintro e w50 ⟨rfl, hb⟩; refine ⟨_, rfl, ?_⟩; replace HO_206001 := aM (Kd.R_below (qp (R2 HO_206001.out BK221.out)) hb); replace HO_212001 := aM (Kd.R_below (qp (R2 HO_212001.out BK221.out)) hb); replace HO219 := aM (Kd.R_below (qp (R2 HO219.out BK221.out)) hb); replace BK205 := aM (blk_below (f2 (lK BK205.out) NB205_221.out) hb); replace BK211 := aM (blk_below (f2 (lK BK211.out) NB211_221.out) hb); replace BK221 := aM (blk_below (g := gb221) (o := .cells #[.int .i64 t216, .slice Ao42 t217.length co42] 27 (0, 0)) (by exact p2 (lK BK221.out)) hb); replace HB := aM (bj HB.out hb); (try clear hb)))
         go_meet
         case rel => exact ⟨_, ((t220 != t204)), (by first | rfl | (simp; done) | (simp [*]; done)), H', ⟨by have := HJ4.out; first | omega | exact Nat.le_refl _⟩, ⟨by exact lR <| HO_206001.out⟩, ⟨by exact lR <| HO_212001.out⟩, ⟨by exact lR <| Kd.R_mono HO219.out (fun _ hk => ⟨hk.1.2, hk.2⟩)⟩, ⟨by exact lK <| BK205.out⟩, ⟨by exact lK <| BK211.out⟩, ⟨by exact lK <| BK221.out⟩, ⟨by exact jB HB.out⟩⟩
        ·replace c44 := Bool.eq_false_iff.mpr c44
         subst c44
         rw [if_neg nf] at H
         try dsimp only at H
         have H' := aM H
         clear H
         have hnb51 := NB221_205.out
         have hnc51 := NB205_221.out
         have hnb52 := NB221_211.out
         have hnc52 := NB211_221.out
         obtain ⟨hcz53_0, hcz53_1, hfz53_0, hfz53_1⟩ := cf2 BK221.out
         have hnb54 := NB205_211.out
         have hnc54 := NB211_205.out
         obtain ⟨hcz55_0, hcz55_1, hfz55_0, hfz55_1⟩ := cf2 BK205.out
         go_wp2_with (first | ((with_reducible refine gate_callee (f := 11) rfl ?_); refine gL (some 51) Tryd.func11 #[.agg #[.int .i64 t216, .slice Ao42 t217.length co42], .agg #[.int .i64 t200, .slice Ao9 t201.length co9]] ?_; (with_reducible refine (laws_eqResResult.calls kj4 t216 _ _ t217 t200 _ _ t201 false _ ?side1 ?side2 ?side3 ?side4 A43.out).mono ?_); (case side1 => refine (Kd.R_reads' (e := 3) (base := w.heap.size) (ok := fun k_ => ((True ∧ some k_ ≠ ownBlock (.slice Ao9 t201.length co9)) ∧ some k_ ≠ ownBlock (.slice Ao14 t207.length co14))) (n := t217.length) (c := co42) ?_).2.2; exact (qp (R2 HO219.out BK221.out))); (case side2 => exact (Kd.R_reads' HO219.out).2.1); (case side3 => refine (Kd.R_reads' (e := 3) (base := w.heap.size) (ok := fun k_ => (some k_ ≠ ownBlock (.slice Ao14 t207.length co14) ∧ some k_ ≠ ownBlock (.slice Ao42 t217.length co42))) (n := t201.length) (c := co9) ?_).2.2; exact (qp (R2 HO_206001.out BK221.out))); (case side4 => exact (Kd.R_reads' HO_206001.out).2.1); rintro e w56 ⟨rfl, hb⟩; refine ⟨_, rfl, ?_⟩; replace HO_206001 := aM (Kd.R_below (qp (R2 HO_206001.out BK221.out)) hb); replace HO_212001 := aM (Kd.R_below (qp (R2 HO_212001.out BK221.out)) hb); replace HO219 := aM (Kd.R_below (qp (R2 HO219.out BK221.out)) hb); replace BK205 := aM (blk_below (f2 (lK BK205.out) NB205_221.out) hb); replace BK211 := aM (blk_below (f2 (lK BK211.out) NB211_221.out) hb); replace BK221 := aM (blk_below (g := gb221) (o := .cells #[.int .i64 t216, .slice Ao42 t217.length co42] 27 (0, 0)) (by exact p2 (lK BK221.out)) hb); replace HB := aM (bj HB.out hb); (try clear hb)))
         go_meet
         case rel => exact ⟨_, (true), (by first | rfl | (simp; done) | (simp [*]; done)), H', ⟨by have := HJ4.out; first | omega | exact Nat.le_refl _⟩, ⟨by exact lR <| HO_206001.out⟩, ⟨by exact lR <| HO_212001.out⟩, ⟨by exact lR <| Kd.R_mono HO219.out (fun _ hk => ⟨hk.1.2, hk.2⟩)⟩, ⟨by exact lK <| BK205.out⟩, ⟨by exact lK <| BK211.out⟩, ⟨by exact lK <| BK221.out⟩, ⟨by exact jB HB.out⟩⟩
       case rest =>
        clear HC31
        try clear c1
        try clear c2
        try clear c2b0
        try clear c2b1
        try clear p2
        try clear c3
        try clear c4
        try clear c5
        try clear c11
        try clear c12
        try clear c14
        try clear c15
        try clear c16
        try clear c17
        try clear c21
        try clear c25
        try clear c28
        try clear c28b0
        try clear c29
        try clear c29b0
        try clear c29b1
        try clear c32
        try clear c39
        try clear c40
        try clear c44
        try clear c45
        try clear c46
        try clear c48
        try clear c51
        try clear c52
        try clear c54
        try clear hcz13_0
        try clear hcz13_1
        try clear hcz18_0
        try clear hcz18_1
        try clear hcz19_0
        try clear hcz19_1
        try clear hcz22_0
        try clear hcz22_1
        try clear hcz23_0
        try clear hcz23_1
        try clear hcz33_0
        try clear hcz33_1
        try clear hcz35_0
        try clear hcz35_1
        try clear hcz41_0
        try clear hcz41_1
        try clear hcz47_0
        try clear hcz47_1
        try clear hcz49_0
        try clear hcz49_1
        try clear hcz53_0
        try clear hcz53_1
        try clear hcz55_0
        try clear hcz55_1
        try clear hcz8_0
        try clear hcz8_1
        try clear hfz13_0
        try clear hfz13_1
        try clear hfz18_0
        try clear hfz18_1
        try clear hfz19_0
        try clear hfz19_1
        try clear hfz22_0
        try clear hfz22_1
        try clear hfz23_0
        try clear hfz23_1
        try clear hfz33_0
        try clear hfz33_1
        try clear hfz35_0
        try clear hfz35_1
        try clear hfz41_0
        try clear hfz41_1
        try clear hfz47_0
        try clear hfz47_1
        try clear hfz49_0
        try clear hfz49_1
        try clear hfz53_0
        try clear hfz53_1
        try clear hfz55_0
        try clear hfz55_1
        try clear hfz8_0
        try clear hfz8_1
        try clear p2
        obtain ⟨kq, x57_30, rfl, HA, HJ30, HO_206001, HO_212001, HO_222001, BK205, BK211, BK221, HB⟩ := hcut
        have hl212001_30 := (Kd.R_reads' HO_212001.out).1
        rw [hl212001_30] at HO_212001
        (try simp only [hl212001_30])
        (try simp only [hl212001_30] at BK205)
        (try simp only [hl212001_30] at BK211)
        (try simp only [hl212001_30] at BK221)
        (try simp only [hl212001_30] at HO_206001)
        (try simp only [hl212001_30] at HO_222001)
        cases kq with
        | zero => exact absurd HA.out (by simp [laws_FnExactResRead.j1])
        | succ kj30 =>
         have H := HA.out
         clear HA
         simp only [laws_FnExactResRead.j1] at H
         by_cases c57 : x57_30 = true
         ·subst c57
          rw [if_pos rfl] at H
          try dsimp only at H
          exact absurd (Option.some.inj H) (by rw [hr.out]; decide)
         ·replace c57 := Bool.eq_false_iff.mpr c57
          subst c57
          rw [if_neg nf] at H
          try dsimp only at H
          obtain ⟨t223, A58, H⟩ := bS H
          try dsimp only at H
          by_cases c59 : t223 < 0
          ·rw [if_pos c59] at H
           have c59b0 := decide_eq_true c59
           clear c59
           exact absurd (Option.some.inj H) (by rw [hr.out]; decide)
          ·rw [if_neg c59] at H
           have c59b0 := decide_eq_false c59
           clear c59
           by_cases c60 : t223 = t213
           ·rw [if_pos c60] at H
            have c60b0 := beq_iff_eq.mpr c60
            have c60b1 := bne_eq_false_iff_eq.mpr c60
            clear c60
            obtain rfl := Option.some.inj H
            replace HO_206001 := aM (Kd.R_mono (ok' := fun k_ => some k_ ≠ ownBlock (.slice Ao14 t214.length co14)) HO_206001.out (fun _ hk => hk.1))
            replace HO_212001 := aM (Kd.R_mono (ok' := fun k_ => some k_ ≠ ownBlock (.slice Ao9 t201.length co9)) HO_212001.out (fun _ hk => hk.1))
            have hnb61 := NB211_205.out
            have hnc61 := NB205_211.out
            have hnb62 := NB211_221.out
            have hnc62 := NB221_211.out
            obtain ⟨hcz63_0, hcz63_1, hfz63_0, hfz63_1⟩ := cf2 BK211.out
            go_wp2_with (first | ((with_reducible refine gate_callee (f := 17) rfl ?_); refine gL (some 60) Tryd.func17 #[.agg #[.int .i64 t206, .slice Ao14 t214.length co14], .int .i64 1] ?_; (with_reducible refine (laws_heldResResult.calls kj30 t206 _ _ t214 1 t223 _ ?side1 ?side2 A58.out).mono ?_); (case side1 => exact lC <| (Kd.R_reads' HO_212001.out).2.2); (case side2 => exact (Kd.R_reads' HO_212001.out).2.1); rintro e w64 ⟨rfl, hb⟩; refine ⟨_, rfl, ?_⟩; replace HO_206001 := aM (rb HO_206001.out hb); replace HO_212001 := aM (rb HO_212001.out hb); replace BK205 := aM (bb BK205.out hb); replace BK211 := aM (bb BK211.out hb); replace BK221 := aM (bb BK221.out hb); replace HB := aM (bj HB.out hb); (try clear hb)))
            go_ret
            exact ⟨er, by exact jB HB.out⟩
           ·rw [if_neg c60] at H
            have c60b0 := beq_eq_false_iff_ne.mpr c60
            have c60b1 := bne_iff_ne.mpr c60
            exact absurd (Option.some.inj H) (by rw [hr.out]; decide)
      ·rw [if_neg c29] at H
       have c29b0 := beq_eq_false_iff_ne.mpr c29
       have c29b1 := bne_iff_ne.mpr c29
       exact absurd (Option.some.inj H) (by rw [hr.out]; decide)

/-- THE ONE PURE STATEMENT of laws_FnExactResRead: yours. -/
def laws_FnExactResRead.Pure : Prop := ∀ (a0 : ByteArray), a0.size ≤ 140737488351232 → ∃ k, laws_FnExactResRead.f k a0 = some true
theorem laws_FnExactResRead.walk (P : laws_FnExactResRead.Pure) (a0 : ByteArray) (w : World) (w0 : a0.size ≤ 140737488351232) (htab : Tryd.TB w) :
  Calls Tryd.prog 5 #[.string a0] w fun e w' => e = .returned (.bool true) ∧ Below w.heap.size w w' := by
 obtain ⟨k, h⟩ := P a0 w0
 refine (laws_FnExactResRead.calls k a0 true w ⟨rfl⟩ h htab).mono ?_
 rintro e w' ⟨rfl, hd⟩
 exact ⟨rfl, hd⟩

end Go.Proofs.YtcafmfmlnfaogaaDoor.QFnExactResRead

-- shorter
