/- Plain functions, and that the Go code computes them: written by a program of this session over the seat's translation; the conditions stand in each theorem. -/
import Derived.Test.YtcpaplcnebdocaaHW4
import Derived.Test.YtcpaplcnebdocaaQFnRowFitsx0
import Derived.Test.YtcpaplcnebdocaaQFnRowFitsx1
import Derived.Test.YtcpaplcnebdocaaQFnRowFitsx10
namespace Go.Proofs.Ytcpaplcnebdocaa.QFnRowFits
open Go.RowKit Go.Proofs.YtcpaplcnebdocaaW.PrintWords Go.Proofs.YtcpaplcnebdocaaW.PrintLast Go.Proofs.YtcpaplcnebdocaaW.PrintMore Go.Proofs.Ytcpaplcnebdocaa.HWords
open Value (ownBlock)
attribute [local go_sem] max2_int min2_int max_two min_two max_three min_three max_four min_four   -- for this text's walks alone
set_option linter.unusedVariables false
set_option linter.unusedSimpArgs false
set_option maxRecDepth 100000
set_option maxHeartbeats 8000000
/-! ### spec_l20Vals: function 27 -/
def spec_l20Vals.l0 : Nat → Int → List Int → Int → List Int → Int → Option (List Int × Int)
 | 0, _, _, _, _, _ => none
 | k + 1, x1, x5, x6, x1000, x1001 => if x6 < 3 then ((some (([0, 1, 5, 20, (-3), 60, 10000, (-10000), 9996] : List Int) : List Int)).bind fun y754 => ((spec_l20Rd_pick.f k x1000 x1001 9).bind fun bt757 => (if 0 ≤ bt757.1 then (if bt757.1 < (y754.length : Int) then (if x5.length < 17592186044416 then (spec_l20Vals.l0 k x1 (x5 ++ [rd y754 bt757.1]) (wrap64 (x6 + 1)) x1000 bt757.2) else (none)) else (none)) else (none)))) else ((spec_l20Rd_pick.f k x1000 x1001 x1).bind fun bt763 => (if bt763.1 = 0 then ((spec_l20Rd_pick.f k x1000 bt763.2 3).bind fun bt765 => (if bt765.1 = 0 then (if 2 ≤ (x5.length : Int) then (some ((x5.take (2 : Int).toNat), bt765.2)) else (none)) else (if bt765.1 = 1 then (if x5.length < 17592186044416 then (some ((x5 ++ [0]), bt765.2)) else (none)) else ((spec_l20Rd_pick.f k x1000 bt765.2 3).bind fun bt773 => ((some (([10001, (-10001)] : List Int) : List Int)).bind fun y775 => ((spec_l20Rd_pick.f k x1000 bt773.2 2).bind fun bt778 => (if 0 ≤ bt778.1 then (if bt778.1 < (y775.length : Int) then (if 0 ≤ bt773.1 then (if bt773.1 < (x5.length : Int) then (some ((x5.set (bt773.1 : Int).toNat (rd y775 bt778.1)), bt778.2)) else (none)) else (none)) else (none)) else (none)))))))) else (some (x5, bt763.2))))
def spec_l20Vals.f (k : Nat) (s0_0 : List Int) (s0_1 : Int) (a1 : Int) : Option (List Int × Int) := spec_l20Vals.l0 k a1 (([] : List Int)) 0 s0_0 s0_1
theorem spec_l20Vals.mono_l : ∀ k, (∀ y0 y1 y2 y3 y4, LeO (spec_l20Vals.l0 k y0 y1 y2 y3 y4) (spec_l20Vals.l0 (k + 1) y0 y1 y2 y3 y4))
 | 0 => fun _ _ _ _ _ r h => by simp [spec_l20Vals.l0] at h
 | k + 1 => by
  have ih0 := spec_l20Vals.mono_l k
  ·intro y0 y1 y2 y3 y4
   unfold spec_l20Vals.l0
   have := @spec_l20Rd_pick.mono
   exact mo
theorem spec_l20Vals.mono : ∀ a0 a1 a2 k, LeO (spec_l20Vals.f k a0 a1 a2) (spec_l20Vals.f (k + 1) a0 a1 a2) := by
 intro a0 a1 a2 k
 have ih0 := spec_l20Vals.mono_l k
 unfold spec_l20Vals.f
 have := @spec_l20Rd_pick.mono
 exact mo
theorem spec_l20Vals.calls (k : Nat) (g : Nat) (s0_0 : List Int) (s0_1 : Int) (a1 : Int) (r1 : List Int) (r2 : Int) (w0 w : World) (hI : IsS79 w0 w g s0_0 s0_1) (hB : Below w0.heap.size w0 w) (h : spec_l20Vals.f k s0_0 s0_1 a1 = some (r1, r2)) :
  Calls Try.prog 27 #[.pointer (some ⟨g, 0, none⟩), .int .i64 a1] w fun e w' => ∃ v0_ : Value, e = .returned (v0_) ∧ Kd.R (Kd.int .i64) 3 w' w.heap.size (fun _ => True) v0_ r1 ∧ IsS79 w0 w' g s0_0 r2 ∧ Below w0.heap.size w0 w' ∧ KeepBut w w' g none := by
 have HI0 := aM hI; have IHI0 : Nonempty _ := ⟨IsS79.ge hI⟩
 have HK := aM (KeepBut.refl w g none); have HL := aM hB.size
 clear hI; have HW0 := aM hB.size
 have HB := aM hB; clear hB; have H : (spec_l20Vals.l0 k a1 (([] : List Int)) 0 s0_0 s0_1) = some (r1, r2) := h
 clear h; obtain ⟨y751, hy751⟩ : ∃ y_ : List Int, y_ = (([] : List Int)) := ⟨_, rfl⟩
 replace H : (spec_l20Vals.l0 k a1 y751 0 s0_0 s0_1) = some (r1, r2) := by first | (rw [hy751]; exact H) | exact H
 have Ny751 := aM hy751; clear hy751; have H' := aM H
 clear H; go_enter Try.func27, Try.ntmps27
 go_wp2_with (first | ((with_reducible refine gate_dst (N := 7) rfl ?_); refine Kd.R_lit (Kd.int .i64) _ 3 ?hg (N := 7) ?hd (xs := ([] : List Int)) (inner := []) (ok := fun _ => True) (okp := fun _ => True) ?hr ?hp (fun _ hk => hk) trivial (Below.refl _ _) (Nat.le_refl _) (by simp) ?_; (case hd => rfl); (case hg => rfl); (case hr => first | (go_simp; done) | (go_simp; rfl)); (case hp => exact (Reps.none _ _)); intro v752 w3 ho4 hb hg_ hnew_; clear hg_ hnew_; (first | rw [← Ny751.out] at ho4 | (simp only [Int.reduceToNat] at ho4; rw [← Ny751.out] at ho4)); have HO753 := aM (lw ho4 HK.out); replace HI0 := aM (IsS79.below (by exact IsS79.j HI0.out) hb); replace HK := aM (kbl HK.out hb); replace HB := aM (bj HB.out hb); clear hb ho4))
 go_loopg [5, 6] k (fun kq v5 v6 w' => ∃ (x5_1 : List Int) (x6_1 : Int) (x1001_1 : Int), v6 = .int .i64 x6_1 ∧ Aside0 (spec_l20Vals.l0 kq a1 x5_1 x6_1 s0_0 x1001_1 = some (r1, r2)) ∧ Aside0 (kq ≤ k) ∧ Aside0 (Kd.R (Kd.int .i64) 3 w' w.heap.size (fun _ => True) v5 x5_1) ∧ Aside0 (IsS79 w0 w' g s0_0 x1001_1) ∧ Aside0 (KeepBut w w' g none) ∧ Aside0 (Below w0.heap.size w0 w'))
 case atStart => exact ⟨(y751), (0), (s0_1), sr, H', ⟨Nat.le_refl _⟩, ⟨by exact lR <| HO753.out⟩, ⟨by exact IsS79.j HI0.out⟩, ⟨by exact jK HK.out⟩, ⟨by exact jB HB.out⟩⟩
 case round =>
  clear H'
  (try clear c2); (try clear p2)
  obtain ⟨x5_1, x6_1, x1001_1, rfl, HA, HK1, HO_5, HI0, HK, HB⟩ := hrel
  cases gk with
  | zero => exact absurd HA.out (by simp [spec_l20Vals.l0])
  | succ k1 =>
   have H := HA.out
   clear HA; simp only [spec_l20Vals.l0] at H
   by_cases c5 : x6_1 < 3
   ·rw [if_pos c5] at H; replace c5 := decide_eq_true c5; obtain ⟨y754, Ny754⟩ : ∃ y_ : List Int, Aside0 (y_ = (([0, 1, 5, 20, (-3), 60, 10000, (-10000), 9996] : List Int))) := ⟨_, ⟨rfl⟩⟩
    try rw [← Ny754.out] at H
    try dsimp only [Option.bind_some] at H
    obtain ⟨⟨t757, t758⟩, A6, H⟩ := bS H
    try dsimp only at H
    obtain ⟨c7, H⟩ := iD H; obtain ⟨c8, H⟩ := iD H; obtain ⟨c9, H⟩ := iN H; have LMc9 := aM c9; clear c9; obtain ⟨y760, Ny760⟩ : ∃ y_ : List Int, Aside0 (y_ = (x5_1 ++ [rd y754 t757])) := ⟨_, ⟨rfl⟩⟩
    try rw [← Ny760.out] at H
    try dsimp only [Option.bind_some] at H
    have H' := aM H
    clear H; go_wp2_with (first | ((with_reducible refine gate_dst (N := 13) rfl ?_); refine Kd.R_lit (Kd.int .i64) _ 3 ?hg (N := 13) ?hd (xs := ([0, 1, 5, 20, (-3), 60, 10000, (-10000), 9996] : List Int)) (inner := [.int .i64 0, .int .i64 1, .int .i64 5, .int .i64 20, .int .i64 (-3), .int .i64 60, .int .i64 10000, .int .i64 (-10000), .int .i64 9996]) (ok := fun _ => True) (okp := fun _ => True) ?hr ?hp (fun _ hk => hk) trivial (Below.refl _ _) (Nat.le_refl _) (by simp) ?_; (case hd => rfl); (case hg => rfl); (case hr => first | (go_simp; done) | (go_simp; rfl)); (case hp => exact (Reps.one (show Kd.M (Kd.int .i64) _ _ _ 0 [.int .i64 0] from rfl) (Reps.one (show Kd.M (Kd.int .i64) _ _ _ 1 [.int .i64 1] from rfl) (Reps.one (show Kd.M (Kd.int .i64) _ _ _ 5 [.int .i64 5] from rfl) (Reps.one (show Kd.M (Kd.int .i64) _ _ _ 20 [.int .i64 20] from rfl) (Reps.one (show Kd.M (Kd.int .i64) _ _ _ (-3) [.int .i64 (-3)] from rfl) (Reps.one (show Kd.M (Kd.int .i64) _ _ _ 60 [.int .i64 60] from rfl) (Reps.one (show Kd.M (Kd.int .i64) _ _ _ 10000 [.int .i64 10000] from rfl) (Reps.one (show Kd.M (Kd.int .i64) _ _ _ (-10000) [.int .i64 (-10000)] from rfl) (Reps.one (show Kd.M (Kd.int .i64) _ _ _ 9996 [.int .i64 9996] from rfl) (Reps.none _ _))))))))))); intro v755 w10 ho11 hb hg_ hnew_; clear hg_ hnew_; (first | rw [← Ny754.out] at ho11 | (simp only [Int.reduceToNat] at ho11; rw [← Ny754.out] at ho11)); have HO756 := aM (Kd.R_lower (Kd.R_new' ho11 (rl HO_5.out)) (ks HK.out)); replace HO_5 := aM (Kd.R_elder' (by exact lR HO_5.out) (Kd.R_base ho11) hb); replace HI0 := aM (IsS79.below (by exact IsS79.j HI0.out) hb); replace HK := aM (kbl HK.out hb); replace HB := aM (bj HB.out hb); clear hb ho11) | (refine gL (some 15) Try.func48 #[.pointer (some ⟨g, 0, none⟩), .int .i64 9] ?_; (with_reducible refine (spec_l20Rd_pick.calls k1 g s0_0 x1001_1 9 t757 t758 w0 _ (by exact IsS79.j HI0.out) (by exact jB HB.out) A6.out).mono ?_); rintro e w12 ⟨rfl, hi, hb, hk⟩; refine ⟨_, rfl, ?_⟩; replace HO_5 := aM (IsS79.kp (f1 := x1001_1) (by exact IsS79.j HI0.out) (lR HO_5.out) hk); replace HO756 := aM (IsS79.kp (f1 := x1001_1) (by exact IsS79.j HI0.out) (lR HO756.out) hk); replace HK := aM (kt HK.out hk); replace HB := aM (hb); replace HI0 := aM (hi); (try clear hb hk hi); obtain ⟨Ao13, co13, rfl⟩ := Kd.R_slice HO756.out; have p759 : 0 ≤ (t757 : Int) := od; have q759 : t757 < (y754.length : Int) := od; obtain ⟨ad759, e759, hx759_0⟩ := Kd.at_int (Kd.R_reads' HO756.out).2.2 t757 p759 q759; cases e759; replace p759 := eq_true p759; replace q759 := eq_true q759) | ((with_reducible refine gate_builtin (b := .append) (xs := #[.tmp 12, .tmp 18]) rfl ?_); at_builtin; refine Kd.R_append (Kd.int .i64) w.heap.size rfl (.tmp 12) (.tmp 18) 26 3 (.int .i64 0) 8 rfl Try.underlying26 info3 rfl (by decide) (by omega) u5 x5_1 (rd y754 t757) [.int .i64 (rd y754 t757)] (fun k_ => some k_ ≠ ownBlock (.slice (some ad759) y754.length co13)) (fun _ => False) rfl rfl ?aP (fun _ hk => hk.elim) ?aF ?aO (Below.refl _ _) ?aS ?aL ?_; (case aP => exact rfl); (case aF => exact (fun k_ hk => Kd.fresh' (rl HO756.out) k_ hk)); (case aO => exact (by exact lR <| Kd.R_mono HO_5.out (fun _ hk => hk.2))); (case aS => exact (ks HK.out)); (case aL => have := LMc9.out; omega); intro v761 w14 ho hb hg hat; rw [← Ny760.out] at ho; replace HI0 := aM (IsS79.grown (by exact IsS79.j HI0.out) hg (IsS79.own_ne HI0.out HO_5.out (by decide))); replace HO756 := aM (Kd.R_after (ok := (fun _ => True)) (by exact lR HO756.out) hg hat); replace HB := aM (below_weaken (by exact jB HB.out) HL.out hb); replace HK := aM (KeepBut.trans (by exact jK HK.out) (KeepBut.of_grown hg g) (Kd.R_base2 HO_5.out)); have HO762 := aM (ho); clear HO_5 ho hb hg hat))
    go_roundg k1
    case measure => have := HK1.out; omega
    case rel => exact ⟨(y760), (wrap64 (x6_1 + 1)), (t758), sr, H', ⟨by have := HK1.out; omega⟩, ⟨by exact lR <| Kd.R_mono HO762.out (fun _ hk => trivial)⟩, ⟨by exact IsS79.j HI0.out⟩, ⟨by exact jK HK.out⟩, ⟨by exact jB HB.out⟩⟩
   ·rw [if_neg c5] at H; replace c5 := decide_eq_false c5; obtain ⟨⟨t763, t764⟩, A15, H⟩ := bS H
    try dsimp only at H
    by_cases c16 : t763 = 0
    ·rw [if_pos c16] at H; have c16b0 := beq_iff_eq.mpr c16
     have c16b1 := bne_eq_false_iff_eq.mpr c16
     clear c16; obtain ⟨⟨t765, t766⟩, A17, H⟩ := bS H
     try dsimp only at H
     by_cases c18 : t765 = 0
     ·rw [if_pos c18] at H; have c18b0 := beq_iff_eq.mpr c18
      have c18b1 := bne_eq_false_iff_eq.mpr c18
      clear c18; obtain ⟨c19, H⟩ := iN H; have c19b0 := eq_true c19
      have c19b1 := decide_eq_true c19
      clear c19; obtain ⟨y767, Ny767⟩ : ∃ y_ : List Int, Aside0 (y_ = (x5_1.take (2 : Int).toNat)) := ⟨_, ⟨rfl⟩⟩
      try rw [← Ny767.out] at H
      try dsimp only [Option.bind_some] at H
      simp only [Option.some.injEq, Prod.mk.injEq] at H
      obtain ⟨rfl, rfl⟩ := H
      go_wp2_with (first | (refine gL (some 22) Try.func48 #[.pointer (some ⟨g, 0, none⟩), .int .i64 a1] ?_; (with_reducible refine (spec_l20Rd_pick.calls k1 g s0_0 x1001_1 a1 t763 t764 w0 _ (by exact IsS79.j HI0.out) (by exact jB HB.out) A15.out).mono ?_); rintro e w20 ⟨rfl, hi, hb, hk⟩; refine ⟨_, rfl, ?_⟩; replace HO_5 := aM (IsS79.kp (f1 := x1001_1) (by exact IsS79.j HI0.out) (lR HO_5.out) hk); replace HK := aM (kt HK.out hk); replace HB := aM (hb); replace HI0 := aM (hi); (try clear hb hk hi)) | (refine gL (some 25) Try.func48 #[.pointer (some ⟨g, 0, none⟩), .int .i64 3] ?_; (with_reducible refine (spec_l20Rd_pick.calls k1 g s0_0 t764 3 t765 t766 w0 _ (by exact IsS79.j HI0.out) (by exact jB HB.out) A17.out).mono ?_); rintro e w21 ⟨rfl, hi, hb, hk⟩; refine ⟨_, rfl, ?_⟩; replace HO_5 := aM (IsS79.kp (f1 := t764) (by exact IsS79.j HI0.out) (lR HO_5.out) hk); replace HK := aM (kt HK.out hk); replace HB := aM (hb); replace HI0 := aM (hi); (try clear hb hk hi); obtain ⟨Ao22, co22, rfl⟩ := Kd.R_slice HO_5.out; have q23 : (2 : Int) ≤ ((x5_1.length : Int) : Int) := od; obtain ⟨i023, hi023, _, hsz23, _⟩ := info_parts info3; have hcut23 := cut_to (P := Try.prog) 26 3 .i64 Try.underlying26 hi023 Ao22 x5_1.length co22 2 (by omega) q23 (Kd.R_reads' HO_5.out).2.1; have hr23 := Kd.R_take (m := (2 : Int).toNat) HO_5.out (by omega); have hy23 : y767.length = (2 : Int).toNat := (by rw [Ny767.out, List.length_take]; omega); rw [← Ny767.out] at hr23; rw [← hy23] at hr23 hcut23; clear hy23 hi023 hsz23 HO_5; have HO769 := aM hr23; clear hr23; replace q23 := eq_true q23))
      go_ret
      exact ⟨_, er, by exact lR <| HO769.out, by exact IsS79.j HI0.out, by exact jB HB.out, by exact jK HK.out⟩
     ·rw [if_neg c18] at H; have c18b0 := beq_eq_false_iff_ne.mpr c18
      have c18b1 := bne_iff_ne.mpr c18
      by_cases c24 : t765 = 1
      ·rw [if_pos c24] at H; have c24b0 := beq_iff_eq.mpr c24
       have c24b1 := bne_eq_false_iff_eq.mpr c24
       clear c24; obtain ⟨c25, H⟩ := iN H; have LMc25 := aM c25; clear c25; obtain ⟨y770, Ny770⟩ : ∃ y_ : List Int, Aside0 (y_ = (x5_1 ++ [0])) := ⟨_, ⟨rfl⟩⟩
       try rw [← Ny770.out] at H
       try dsimp only [Option.bind_some] at H
       simp only [Option.some.injEq, Prod.mk.injEq] at H
       obtain ⟨rfl, rfl⟩ := H
       go_wp2_with (first | (refine gL (some 22) Try.func48 #[.pointer (some ⟨g, 0, none⟩), .int .i64 a1] ?_; (with_reducible refine (spec_l20Rd_pick.calls k1 g s0_0 x1001_1 a1 t763 t764 w0 _ (by exact IsS79.j HI0.out) (by exact jB HB.out) A15.out).mono ?_); rintro e w26 ⟨rfl, hi, hb, hk⟩; refine ⟨_, rfl, ?_⟩; replace HO_5 := aM (IsS79.kp (f1 := x1001_1) (by exact IsS79.j HI0.out) (lR HO_5.out) hk); replace HK := aM (kt HK.out hk); replace HB := aM (hb); replace HI0 := aM (hi); (try clear hb hk hi)) | (refine gL (some 25) Try.func48 #[.pointer (some ⟨g, 0, none⟩), .int .i64 3] ?_; (with_reducible refine (spec_l20Rd_pick.calls k1 g s0_0 t764 3 t765 t766 w0 _ (by exact IsS79.j HI0.out) (by exact jB HB.out) A17.out).mono ?_); rintro e w27 ⟨rfl, hi, hb, hk⟩; refine ⟨_, rfl, ?_⟩; replace HO_5 := aM (IsS79.kp (f1 := t764) (by exact IsS79.j HI0.out) (lR HO_5.out) hk); replace HK := aM (kt HK.out hk); replace HB := aM (hb); replace HI0 := aM (hi); (try clear hb hk hi)) | ((with_reducible refine gate_builtin (b := .append) (xs := #[.tmp 41, .tmp 42]) rfl ?_); at_builtin; refine Kd.R_append (Kd.int .i64) w.heap.size rfl (.tmp 41) (.tmp 42) 26 3 (.int .i64 0) 8 rfl Try.underlying26 info3 rfl (by decide) (by omega) u5 x5_1 0 [.int .i64 0] (fun _ => True) (fun _ => False) rfl rfl ?aP (fun _ hk => hk.elim) ?aF ?aO (Below.refl _ _) ?aS ?aL ?_; (case aP => exact rfl); (case aF => exact (fun _ _ => trivial)); (case aO => exact (by exact lR HO_5.out)); (case aS => exact (ks HK.out)); (case aL => have := LMc25.out; omega); intro v771 w28 ho hb hg hat; rw [← Ny770.out] at ho; replace HI0 := aM (IsS79.grown (by exact IsS79.j HI0.out) hg (IsS79.own_ne HI0.out HO_5.out (by decide))); replace HB := aM (below_weaken (by exact jB HB.out) HL.out hb); replace HK := aM (KeepBut.trans (by exact jK HK.out) (KeepBut.of_grown hg g) (Kd.R_base2 HO_5.out)); have HO772 := aM (ho); clear HO_5 ho hb hg hat))
       go_ret
       exact ⟨_, er, by exact lR <| HO772.out, by exact IsS79.j HI0.out, by exact jB HB.out, by exact jK HK.out⟩
      ·rw [if_neg c24] at H; have c24b0 := beq_eq_false_iff_ne.mpr c24
       have c24b1 := bne_iff_ne.mpr c24
       obtain ⟨⟨t773, t774⟩, A29, H⟩ := bS H
       try dsimp only at H
       obtain ⟨y775, Ny775⟩ : ∃ y_ : List Int, Aside0 (y_ = (([10001, (-10001)] : List Int))) := ⟨_, ⟨rfl⟩⟩
       try rw [← Ny775.out] at H
       try dsimp only [Option.bind_some] at H
       obtain ⟨⟨t778, t779⟩, A30, H⟩ := bS H
       try dsimp only at H
       obtain ⟨c31, H⟩ := iD H; obtain ⟨c32, H⟩ := iD H; obtain ⟨c33, H⟩ := iD H; obtain ⟨c34, H⟩ := iD H; obtain ⟨y781, Ny781⟩ : ∃ y_ : List Int, Aside0 (y_ = (x5_1.set (t773 : Int).toNat (rd y775 t778))) := ⟨_, ⟨rfl⟩⟩
       try rw [← Ny781.out] at H
       try dsimp only [Option.bind_some] at H
       simp only [Option.some.injEq, Prod.mk.injEq] at H
       obtain ⟨rfl, rfl⟩ := H
       go_wp2_with (first | (refine gL (some 22) Try.func48 #[.pointer (some ⟨g, 0, none⟩), .int .i64 a1] ?_; (with_reducible refine (spec_l20Rd_pick.calls k1 g s0_0 x1001_1 a1 t763 t764 w0 _ (by exact IsS79.j HI0.out) (by exact jB HB.out) A15.out).mono ?_); rintro e w36 ⟨rfl, hi, hb, hk⟩; refine ⟨_, rfl, ?_⟩; replace HO_5 := aM (IsS79.kp (f1 := x1001_1) (by exact IsS79.j HI0.out) (lR HO_5.out) hk); replace HK := aM (kt HK.out hk); replace HB := aM (hb); replace HI0 := aM (hi); (try clear hb hk hi)) | (refine gL (some 25) Try.func48 #[.pointer (some ⟨g, 0, none⟩), .int .i64 3] ?_; (with_reducible refine (spec_l20Rd_pick.calls k1 g s0_0 t764 3 t765 t766 w0 _ (by exact IsS79.j HI0.out) (by exact jB HB.out) A17.out).mono ?_); rintro e w37 ⟨rfl, hi, hb, hk⟩; refine ⟨_, rfl, ?_⟩; replace HO_5 := aM (IsS79.kp (f1 := t764) (by exact IsS79.j HI0.out) (lR HO_5.out) hk); replace HK := aM (kt HK.out hk); replace HB := aM (hb); replace HI0 := aM (hi); (try clear hb hk hi)) | (refine gL (some 28) Try.func48 #[.pointer (some ⟨g, 0, none⟩), .int .i64 3] ?_; (with_reducible refine (spec_l20Rd_pick.calls k1 g s0_0 t766 3 t773 t774 w0 _ (by exact IsS79.j HI0.out) (by exact jB HB.out) A29.out).mono ?_); rintro e w38 ⟨rfl, hi, hb, hk⟩; refine ⟨_, rfl, ?_⟩; replace HO_5 := aM (IsS79.kp (f1 := t766) (by exact IsS79.j HI0.out) (lR HO_5.out) hk); replace HK := aM (kt HK.out hk); replace HB := aM (hb); replace HI0 := aM (hi); (try clear hb hk hi)) | ((with_reducible refine gate_dst (N := 29) rfl ?_); refine Kd.R_lit (Kd.int .i64) _ 3 ?hg (N := 29) ?hd (xs := ([10001, (-10001)] : List Int)) (inner := [.int .i64 10001, .int .i64 (-10001)]) (ok := fun _ => True) (okp := fun _ => True) ?hr ?hp (fun _ hk => hk) trivial (Below.refl _ _) (Nat.le_refl _) (by simp) ?_; (case hd => rfl); (case hg => rfl); (case hr => first | (go_simp; done) | (go_simp; rfl)); (case hp => exact (Reps.one (show Kd.M (Kd.int .i64) _ _ _ 10001 [.int .i64 10001] from rfl) (Reps.one (show Kd.M (Kd.int .i64) _ _ _ (-10001) [.int .i64 (-10001)] from rfl) (Reps.none _ _)))); intro v776 w39 ho40 hb hg_ hnew_; clear hg_ hnew_; (first | rw [← Ny775.out] at ho40 | (simp only [Int.reduceToNat] at ho40; rw [← Ny775.out] at ho40)); have HO777 := aM (Kd.R_lower (Kd.R_new' ho40 (rl HO_5.out)) (ks HK.out)); replace HO_5 := aM (Kd.R_elder' (by exact lR HO_5.out) (Kd.R_base ho40) hb); replace HI0 := aM (IsS79.below (by exact IsS79.j HI0.out) hb); replace HK := aM (kbl HK.out hb); replace HB := aM (bj HB.out hb); clear hb ho40) | (refine gL (some 31) Try.func48 #[.pointer (some ⟨g, 0, none⟩), .int .i64 2] ?_; (with_reducible refine (spec_l20Rd_pick.calls k1 g s0_0 t774 2 t778 t779 w0 _ (by exact IsS79.j HI0.out) (by exact jB HB.out) A30.out).mono ?_); rintro e w41 ⟨rfl, hi, hb, hk⟩; refine ⟨_, rfl, ?_⟩; replace HO_5 := aM (IsS79.kp (f1 := t774) (by exact IsS79.j HI0.out) (lR HO_5.out) hk); replace HO777 := aM (IsS79.kp (f1 := t774) (by exact IsS79.j HI0.out) (lR HO777.out) hk); replace HK := aM (kt HK.out hk); replace HB := aM (hb); replace HI0 := aM (hi); (try clear hb hk hi); obtain ⟨Ao42, co42, rfl⟩ := Kd.R_slice HO777.out; have p780 : 0 ≤ (t778 : Int) := od; have q780 : t778 < (y775.length : Int) := od; obtain ⟨ad780, e780, hx780_0⟩ := Kd.at_int (Kd.R_reads' HO777.out).2.2 t778 p780 q780; cases e780; replace p780 := eq_true p780; replace q780 := eq_true q780; have p35 : 0 ≤ (t773 : Int) := od; have q35 : (t773 : Int) < ((x5_1.length : Int) : Int) := od; obtain ⟨go35, co35, eo35, gb35, gl35, cl35, HG35⟩ := Kd.R_form HO_5.out (by omega); (first | cases eo35 | (injection eo35 with ea_ en_ ec_; (first | subst ea_ | (injection ea_ with ea_; subst ea_)); subst ec_; clear en_)); have GB35 := aM gb35; have IGB35 := wn GB35.out; have GG35 := aM HG35; clear gb35 gl35 HG35; obtain ⟨hx35_0, hf35_0⟩ := Kd.R_celln 0 HO_5.out (t773 : Int) p35 q35; replace p35 := eq_true p35; replace q35 := eq_true q35; replace HO_5 := aM (Kd.R_mono (ok' := (fun k_ => some k_ ≠ ownBlock (.slice (some ad780) y775.length co42))) HO_5.out (fun k_ hk => hk.2)); obtain ⟨hy43_, hz43_⟩ := Kd.R_celln 0 HO_5.out (t773 : Int) (of_decide_eq_true (by first | (with_reducible assumption) | assumption)) (of_decide_eq_true (by first | (with_reducible assumption) | assumption)); have HP43 := Kd.R_putg HO_5.out (t773 : Int) (rd y775 t778)) | ((with_reducible refine gate_store (t := 3) (p := 34) rfl ?_); refine store_event (t := 3) (p := 34) (v := ?vo_w44) (w1 := (w41.setCell ⟨go35, (t773 : Int).toNat, none⟩ (.int .i64 (rd y775 t778)))) ?hg ?ho ?hn ?hr ?_; (case ho => rfl); (case hg => rfl); (case hn => rfl); (case hr => first | (go_simp; done) | (go_simp; rfl)); intro w44 hw; have hg : w41.grownBy w44 (some go35) := (by rw [hw]; exact HP43.2); have hp_ : Kd.R (Kd.int .i64) 3 w44 w.heap.size (fun k_ => some k_ ≠ ownBlock (.slice (some ad780) y775.length co42)) (.slice (some ⟨go35, 0, none⟩) x5_1.length co35) y781 := (by rw [hw, Ny781.out]; exact HP43.1); clear HP43; replace HI0 := aM (IsS79.grown (by exact IsS79.j HI0.out) hg (IsS79.own_ne HI0.out HO_5.out (by decide))); replace HO777 := aM (Kd.R_after (v := (.slice (some ⟨go35, 0, none⟩) x5_1.length co35)) (v1 := (.slice (some ⟨go35, 0, none⟩) x5_1.length co35)) (ok := (fun _ => True)) (by exact lR HO777.out) hg (.inl rfl)); replace HB := aM ((by rw [hw]; exact below_set (HB.out) (Nat.le_trans HL.out GB35.out) : Below w0.heap.size w0 w44)); replace HK := aM (KeepBut.trans (by exact jK HK.out) (KeepBut.of_grown hg g) (Kd.R_base2 HO_5.out)); replace HO_5 := aM (hp_); clear hg hw hp_))
       go_ret
       exact ⟨_, er, by exact lR <| Kd.R_mono HO_5.out (fun _ hk => trivial), by exact IsS79.j HI0.out, by exact jB HB.out, by exact jK HK.out⟩
    ·rw [if_neg c16] at H; have c16b0 := beq_eq_false_iff_ne.mpr c16
     have c16b1 := bne_iff_ne.mpr c16
     simp only [Option.some.injEq, Prod.mk.injEq] at H
     obtain ⟨rfl, rfl⟩ := H
     go_wp2_with (first | (refine gL (some 22) Try.func48 #[.pointer (some ⟨g, 0, none⟩), .int .i64 a1] ?_; (with_reducible refine (spec_l20Rd_pick.calls k1 g s0_0 x1001_1 a1 t763 t764 w0 _ (by exact IsS79.j HI0.out) (by exact jB HB.out) A15.out).mono ?_); rintro e w45 ⟨rfl, hi, hb, hk⟩; refine ⟨_, rfl, ?_⟩; replace HO_5 := aM (IsS79.kp (f1 := x1001_1) (by exact IsS79.j HI0.out) (lR HO_5.out) hk); replace HK := aM (kt HK.out hk); replace HB := aM (hb); replace HI0 := aM (hi); (try clear hb hk hi)))
     go_ret
     exact ⟨_, er, by exact lR <| HO_5.out, by exact IsS79.j HI0.out, by exact jB HB.out, by exact jK HK.out⟩
/-! ### spec_l20Args: function 28 -/
def spec_l20Args.f (k : Nat) (s0_0 : List Int) (s0_1 : Int) (a1 : Int) : Option (List Int × Int) := (spec_l20Rd_pick.f k s0_0 s0_1 19).bind fun bt771 => ((spec_l20Rd_pick.f k s0_0 bt771.2 19).bind fun bt773 => ((some (([wrap64 (bt771.1 - 9), wrap64 (bt773.1 - 9)] : List Int) : List Int)).bind fun y775 => ((spec_l20Rd_pick.f k s0_0 bt773.2 a1).bind fun bt778 => (if bt778.1 = 0 then ((spec_l20Rd_pick.f k s0_0 bt778.2 3).bind fun bt780 => (if bt780.1 = 0 then (if 1 ≤ (y775.length : Int) then (some ((y775.take (1 : Int).toNat), bt780.2)) else (none)) else (if bt780.1 = 1 then (if y775.length < 17592186044416 then (some ((y775 ++ [0]), bt780.2)) else (none)) else ((spec_l20Rd_pick.f k s0_0 bt780.2 2).bind fun bt788 => ((some (([10, (-10)] : List Int) : List Int)).bind fun y790 => ((spec_l20Rd_pick.f k s0_0 bt788.2 2).bind fun bt793 => (if 0 ≤ bt793.1 then (if bt793.1 < (y790.length : Int) then (if 0 ≤ bt788.1 then (if bt788.1 < (y775.length : Int) then (some ((y775.set (bt788.1 : Int).toNat (rd y790 bt793.1)), bt793.2)) else (none)) else (none)) else (none)) else (none)))))))) else (some (y775, bt778.2))))))
theorem spec_l20Args.mono : ∀ a0 a1 a2 k, LeO (spec_l20Args.f k a0 a1 a2) (spec_l20Args.f (k + 1) a0 a1 a2) := by
 intro a0 a1 a2 k
 unfold spec_l20Args.f
 have := @spec_l20Rd_pick.mono
 exact mo
theorem spec_l20Args.calls (k : Nat) (g : Nat) (s0_0 : List Int) (s0_1 : Int) (a1 : Int) (r1 : List Int) (r2 : Int) (w0 w : World) (hI : IsS79 w0 w g s0_0 s0_1) (hB : Below w0.heap.size w0 w) (h : spec_l20Args.f k s0_0 s0_1 a1 = some (r1, r2)) :
  Calls Try.prog 28 #[.pointer (some ⟨g, 0, none⟩), .int .i64 a1] w fun e w' => ∃ v0_ : Value, e = .returned (v0_) ∧ Kd.R (Kd.int .i64) 3 w' w.heap.size (fun _ => True) v0_ r1 ∧ IsS79 w0 w' g s0_0 r2 ∧ Below w0.heap.size w0 w' ∧ KeepBut w w' g none := by
 have HI0 := aM hI; have IHI0 : Nonempty _ := ⟨IsS79.ge hI⟩
 have HK := aM (KeepBut.refl w g none); have HL := aM hB.size
 clear hI; have HW0 := aM hB.size
 have HB := aM hB; clear hB; have H : ((spec_l20Rd_pick.f k s0_0 s0_1 19).bind fun bt771 => ((spec_l20Rd_pick.f k s0_0 bt771.2 19).bind fun bt773 => ((some (([wrap64 (bt771.1 - 9), wrap64 (bt773.1 - 9)] : List Int) : List Int)).bind fun y775 => ((spec_l20Rd_pick.f k s0_0 bt773.2 a1).bind fun bt778 => (if bt778.1 = 0 then ((spec_l20Rd_pick.f k s0_0 bt778.2 3).bind fun bt780 => (if bt780.1 = 0 then (if 1 ≤ (y775.length : Int) then (some ((y775.take (1 : Int).toNat), bt780.2)) else (none)) else (if bt780.1 = 1 then (if y775.length < 17592186044416 then (some ((y775 ++ [0]), bt780.2)) else (none)) else ((spec_l20Rd_pick.f k s0_0 bt780.2 2).bind fun bt788 => ((some (([10, (-10)] : List Int) : List Int)).bind fun y790 => ((spec_l20Rd_pick.f k s0_0 bt788.2 2).bind fun bt793 => (if 0 ≤ bt793.1 then (if bt793.1 < (y790.length : Int) then (if 0 ≤ bt788.1 then (if bt788.1 < (y775.length : Int) then (some ((y775.set (bt788.1 : Int).toNat (rd y790 bt793.1)), bt793.2)) else (none)) else (none)) else (none)) else (none)))))))) else (some (y775, bt778.2))))))) = some (r1, r2) := h
 clear h; obtain ⟨⟨t771, t772⟩, A3, H⟩ := bS H
 try dsimp only at H
 obtain ⟨⟨t773, t774⟩, A4, H⟩ := bS H
 try dsimp only at H
 obtain ⟨y775, Ny775⟩ : ∃ y_ : List Int, Aside0 (y_ = (([wrap64 (t771 - 9), wrap64 (t773 - 9)] : List Int))) := ⟨_, ⟨rfl⟩⟩
 try rw [← Ny775.out] at H
 try dsimp only [Option.bind_some] at H
 obtain ⟨⟨t778, t779⟩, A5, H⟩ := bS H
 try dsimp only at H
 by_cases c6 : t778 = 0
 ·rw [if_pos c6] at H; have c6b0 := beq_iff_eq.mpr c6
  have c6b1 := bne_eq_false_iff_eq.mpr c6
  clear c6; obtain ⟨⟨t780, t781⟩, A7, H⟩ := bS H
  try dsimp only at H
  by_cases c8 : t780 = 0
  ·rw [if_pos c8] at H; have c8b0 := beq_iff_eq.mpr c8
   have c8b1 := bne_eq_false_iff_eq.mpr c8
   clear c8; obtain ⟨c9, H⟩ := iN H; have c9b0 := eq_true c9
   have c9b1 := decide_eq_true c9
   clear c9; obtain ⟨y782, Ny782⟩ : ∃ y_ : List Int, Aside0 (y_ = (y775.take (1 : Int).toNat)) := ⟨_, ⟨rfl⟩⟩
   try rw [← Ny782.out] at H
   try dsimp only [Option.bind_some] at H
   simp only [Option.some.injEq, Prod.mk.injEq] at H
   obtain ⟨rfl, rfl⟩ := H
   go_enter Try.func28, Try.ntmps28
   go_wp2_with (first | (refine gL (some 7) Try.func48 #[.pointer (some ⟨g, 0, none⟩), .int .i64 19] ?_; (with_reducible refine (spec_l20Rd_pick.calls k g s0_0 s0_1 19 t771 t772 w0 _ (by exact IsS79.j HI0.out) (by exact jB HB.out) A3.out).mono ?_); rintro e w10 ⟨rfl, hi, hb, hk⟩; refine ⟨_, rfl, ?_⟩; replace HK := aM (kt HK.out hk); replace HB := aM (hb); replace HI0 := aM (hi); (try clear hb hk hi)) | (refine gL (some 10) Try.func48 #[.pointer (some ⟨g, 0, none⟩), .int .i64 19] ?_; (with_reducible refine (spec_l20Rd_pick.calls k g s0_0 t772 19 t773 t774 w0 _ (by exact IsS79.j HI0.out) (by exact jB HB.out) A4.out).mono ?_); rintro e w11 ⟨rfl, hi, hb, hk⟩; refine ⟨_, rfl, ?_⟩; replace HK := aM (kt HK.out hk); replace HB := aM (hb); replace HI0 := aM (hi); (try clear hb hk hi)) | ((with_reducible refine gate_dst (N := 12) rfl ?_); refine Kd.R_lit (Kd.int .i64) _ 3 ?hg (N := 12) ?hd (xs := ([wrap64 (t771 - 9), wrap64 (t773 - 9)] : List Int)) (inner := [.int .i64 (wrap64 (t771 - 9)), .int .i64 (wrap64 (t773 - 9))]) (ok := fun _ => True) (okp := fun _ => True) ?hr ?hp (fun _ hk => hk) trivial (Below.refl _ _) (Nat.le_refl _) (by simp) ?_; (case hd => rfl); (case hg => rfl); (case hr => first | (go_simp; done) | (go_simp; rfl)); (case hp => exact (Reps.one (show Kd.M (Kd.int .i64) _ _ _ (wrap64 (t771 - 9)) [.int .i64 (wrap64 (t771 - 9))] from rfl) (Reps.one (show Kd.M (Kd.int .i64) _ _ _ (wrap64 (t773 - 9)) [.int .i64 (wrap64 (t773 - 9))] from rfl) (Reps.none _ _)))); intro v776 w12 ho13 hb hg_ hnew_; clear hg_ hnew_; (first | rw [← Ny775.out] at ho13 | (simp only [Int.reduceToNat] at ho13; rw [← Ny775.out] at ho13)); have HO777 := aM (lw ho13 HK.out); replace HI0 := aM (IsS79.below (by exact IsS79.j HI0.out) hb); replace HK := aM (kbl HK.out hb); replace HB := aM (bj HB.out hb); clear hb ho13) | (refine gL (some 15) Try.func48 #[.pointer (some ⟨g, 0, none⟩), .int .i64 a1] ?_; (with_reducible refine (spec_l20Rd_pick.calls k g s0_0 t774 a1 t778 t779 w0 _ (by exact IsS79.j HI0.out) (by exact jB HB.out) A5.out).mono ?_); rintro e w14 ⟨rfl, hi, hb, hk⟩; refine ⟨_, rfl, ?_⟩; replace HO777 := aM (IsS79.kp (f1 := t774) (by exact IsS79.j HI0.out) (lR HO777.out) hk); replace HK := aM (kt HK.out hk); replace HB := aM (hb); replace HI0 := aM (hi); (try clear hb hk hi)) | (refine gL (some 18) Try.func48 #[.pointer (some ⟨g, 0, none⟩), .int .i64 3] ?_; (with_reducible refine (spec_l20Rd_pick.calls k g s0_0 t779 3 t780 t781 w0 _ (by exact IsS79.j HI0.out) (by exact jB HB.out) A7.out).mono ?_); rintro e w15 ⟨rfl, hi, hb, hk⟩; refine ⟨_, rfl, ?_⟩; replace HO777 := aM (IsS79.kp (f1 := t779) (by exact IsS79.j HI0.out) (lR HO777.out) hk); replace HK := aM (kt HK.out hk); replace HB := aM (hb); replace HI0 := aM (hi); (try clear hb hk hi); obtain ⟨Ao16, co16, rfl⟩ := Kd.R_slice HO777.out; have q17 : (1 : Int) ≤ ((y775.length : Int) : Int) := od; obtain ⟨i017, hi017, _, hsz17, _⟩ := info_parts info3; have hcut17 := cut_to (P := Try.prog) 26 3 .i64 Try.underlying26 hi017 Ao16 y775.length co16 1 (by omega) q17 (Kd.R_reads' HO777.out).2.1; have hr17 := Kd.R_take (m := (1 : Int).toNat) HO777.out (by omega); have hy17 : y782.length = (1 : Int).toNat := (by rw [Ny782.out, List.length_take]; omega); rw [← Ny782.out] at hr17; rw [← hy17] at hr17 hcut17; clear hy17 hi017 hsz17 HO777; have HO784 := aM hr17; clear hr17; replace q17 := eq_true q17))
   go_ret
   exact ⟨_, er, by exact lR <| HO784.out, by exact IsS79.j HI0.out, by exact jB HB.out, by exact jK HK.out⟩
  ·rw [if_neg c8] at H; have c8b0 := beq_eq_false_iff_ne.mpr c8
   have c8b1 := bne_iff_ne.mpr c8
   by_cases c18 : t780 = 1
   ·rw [if_pos c18] at H; have c18b0 := beq_iff_eq.mpr c18
    have c18b1 := bne_eq_false_iff_eq.mpr c18
    clear c18; obtain ⟨c19, H⟩ := iN H; have LMc19 := aM c19; clear c19; obtain ⟨y785, Ny785⟩ : ∃ y_ : List Int, Aside0 (y_ = (y775 ++ [0])) := ⟨_, ⟨rfl⟩⟩
    try rw [← Ny785.out] at H
    try dsimp only [Option.bind_some] at H
    simp only [Option.some.injEq, Prod.mk.injEq] at H
    obtain ⟨rfl, rfl⟩ := H
    go_enter Try.func28, Try.ntmps28
    go_wp2_with (first | (refine gL (some 7) Try.func48 #[.pointer (some ⟨g, 0, none⟩), .int .i64 19] ?_; (with_reducible refine (spec_l20Rd_pick.calls k g s0_0 s0_1 19 t771 t772 w0 _ (by exact IsS79.j HI0.out) (by exact jB HB.out) A3.out).mono ?_); rintro e w20 ⟨rfl, hi, hb, hk⟩; refine ⟨_, rfl, ?_⟩; replace HK := aM (kt HK.out hk); replace HB := aM (hb); replace HI0 := aM (hi); (try clear hb hk hi)) | (refine gL (some 10) Try.func48 #[.pointer (some ⟨g, 0, none⟩), .int .i64 19] ?_; (with_reducible refine (spec_l20Rd_pick.calls k g s0_0 t772 19 t773 t774 w0 _ (by exact IsS79.j HI0.out) (by exact jB HB.out) A4.out).mono ?_); rintro e w21 ⟨rfl, hi, hb, hk⟩; refine ⟨_, rfl, ?_⟩; replace HK := aM (kt HK.out hk); replace HB := aM (hb); replace HI0 := aM (hi); (try clear hb hk hi)) | ((with_reducible refine gate_dst (N := 12) rfl ?_); refine Kd.R_lit (Kd.int .i64) _ 3 ?hg (N := 12) ?hd (xs := ([wrap64 (t771 - 9), wrap64 (t773 - 9)] : List Int)) (inner := [.int .i64 (wrap64 (t771 - 9)), .int .i64 (wrap64 (t773 - 9))]) (ok := fun _ => True) (okp := fun _ => True) ?hr ?hp (fun _ hk => hk) trivial (Below.refl _ _) (Nat.le_refl _) (by simp) ?_; (case hd => rfl); (case hg => rfl); (case hr => first | (go_simp; done) | (go_simp; rfl)); (case hp => exact (Reps.one (show Kd.M (Kd.int .i64) _ _ _ (wrap64 (t771 - 9)) [.int .i64 (wrap64 (t771 - 9))] from rfl) (Reps.one (show Kd.M (Kd.int .i64) _ _ _ (wrap64 (t773 - 9)) [.int .i64 (wrap64 (t773 - 9))] from rfl) (Reps.none _ _)))); intro v776 w22 ho23 hb hg_ hnew_; clear hg_ hnew_; (first | rw [← Ny775.out] at ho23 | (simp only [Int.reduceToNat] at ho23; rw [← Ny775.out] at ho23)); have HO777 := aM (lw ho23 HK.out); replace HI0 := aM (IsS79.below (by exact IsS79.j HI0.out) hb); replace HK := aM (kbl HK.out hb); replace HB := aM (bj HB.out hb); clear hb ho23) | (refine gL (some 15) Try.func48 #[.pointer (some ⟨g, 0, none⟩), .int .i64 a1] ?_; (with_reducible refine (spec_l20Rd_pick.calls k g s0_0 t774 a1 t778 t779 w0 _ (by exact IsS79.j HI0.out) (by exact jB HB.out) A5.out).mono ?_); rintro e w24 ⟨rfl, hi, hb, hk⟩; refine ⟨_, rfl, ?_⟩; replace HO777 := aM (IsS79.kp (f1 := t774) (by exact IsS79.j HI0.out) (lR HO777.out) hk); replace HK := aM (kt HK.out hk); replace HB := aM (hb); replace HI0 := aM (hi); (try clear hb hk hi)) | (refine gL (some 18) Try.func48 #[.pointer (some ⟨g, 0, none⟩), .int .i64 3] ?_; (with_reducible refine (spec_l20Rd_pick.calls k g s0_0 t779 3 t780 t781 w0 _ (by exact IsS79.j HI0.out) (by exact jB HB.out) A7.out).mono ?_); rintro e w25 ⟨rfl, hi, hb, hk⟩; refine ⟨_, rfl, ?_⟩; replace HO777 := aM (IsS79.kp (f1 := t779) (by exact IsS79.j HI0.out) (lR HO777.out) hk); replace HK := aM (kt HK.out hk); replace HB := aM (hb); replace HI0 := aM (hi); (try clear hb hk hi)) | ((with_reducible refine gate_builtin (b := .append) (xs := #[.tmp 34, .tmp 35]) rfl ?_); at_builtin; refine Kd.R_append (Kd.int .i64) w.heap.size rfl (.tmp 34) (.tmp 35) 26 3 (.int .i64 0) 8 rfl Try.underlying26 info3 rfl (by decide) (by omega) v776 y775 0 [.int .i64 0] (fun _ => True) (fun _ => False) rfl rfl ?aP (fun _ hk => hk.elim) ?aF ?aO (Below.refl _ _) ?aS ?aL ?_; (case aP => exact rfl); (case aF => exact (fun _ _ => trivial)); (case aO => exact (by exact lR HO777.out)); (case aS => exact (ks HK.out)); (case aL => have := LMc19.out; omega); intro v786 w26 ho hb hg hat; rw [← Ny785.out] at ho; replace HI0 := aM (IsS79.grown (by exact IsS79.j HI0.out) hg (IsS79.own_ne HI0.out HO777.out (by decide))); replace HB := aM (below_weaken (by exact jB HB.out) HL.out hb); replace HK := aM (KeepBut.trans (by exact jK HK.out) (KeepBut.of_grown hg g) (Kd.R_base2 HO777.out)); have HO787 := aM (ho); clear HO777 ho hb hg hat))
    go_ret
    exact ⟨_, er, by exact lR <| HO787.out, by exact IsS79.j HI0.out, by exact jB HB.out, by exact jK HK.out⟩
   ·rw [if_neg c18] at H; have c18b0 := beq_eq_false_iff_ne.mpr c18
    have c18b1 := bne_iff_ne.mpr c18
    obtain ⟨⟨t788, t789⟩, A27, H⟩ := bS H
    try dsimp only at H
    obtain ⟨y790, Ny790⟩ : ∃ y_ : List Int, Aside0 (y_ = (([10, (-10)] : List Int))) := ⟨_, ⟨rfl⟩⟩
    try rw [← Ny790.out] at H
    try dsimp only [Option.bind_some] at H
    obtain ⟨⟨t793, t794⟩, A28, H⟩ := bS H
    try dsimp only at H
    obtain ⟨c29, H⟩ := iD H; obtain ⟨c30, H⟩ := iD H; obtain ⟨c31, H⟩ := iD H; obtain ⟨c32, H⟩ := iD H; obtain ⟨y796, Ny796⟩ : ∃ y_ : List Int, Aside0 (y_ = (y775.set (t788 : Int).toNat (rd y790 t793))) := ⟨_, ⟨rfl⟩⟩
    try rw [← Ny796.out] at H
    try dsimp only [Option.bind_some] at H
    simp only [Option.some.injEq, Prod.mk.injEq] at H
    obtain ⟨rfl, rfl⟩ := H
    go_enter Try.func28, Try.ntmps28
    go_wp2_with (first | (refine gL (some 7) Try.func48 #[.pointer (some ⟨g, 0, none⟩), .int .i64 19] ?_; (with_reducible refine (spec_l20Rd_pick.calls k g s0_0 s0_1 19 t771 t772 w0 _ (by exact IsS79.j HI0.out) (by exact jB HB.out) A3.out).mono ?_); rintro e w34 ⟨rfl, hi, hb, hk⟩; refine ⟨_, rfl, ?_⟩; replace HK := aM (kt HK.out hk); replace HB := aM (hb); replace HI0 := aM (hi); (try clear hb hk hi)) | (refine gL (some 10) Try.func48 #[.pointer (some ⟨g, 0, none⟩), .int .i64 19] ?_; (with_reducible refine (spec_l20Rd_pick.calls k g s0_0 t772 19 t773 t774 w0 _ (by exact IsS79.j HI0.out) (by exact jB HB.out) A4.out).mono ?_); rintro e w35 ⟨rfl, hi, hb, hk⟩; refine ⟨_, rfl, ?_⟩; replace HK := aM (kt HK.out hk); replace HB := aM (hb); replace HI0 := aM (hi); (try clear hb hk hi)) | ((with_reducible refine gate_dst (N := 12) rfl ?_); refine Kd.R_lit (Kd.int .i64) _ 3 ?hg (N := 12) ?hd (xs := ([wrap64 (t771 - 9), wrap64 (t773 - 9)] : List Int)) (inner := [.int .i64 (wrap64 (t771 - 9)), .int .i64 (wrap64 (t773 - 9))]) (ok := fun _ => True) (okp := fun _ => True) ?hr ?hp (fun _ hk => hk) trivial (Below.refl _ _) (Nat.le_refl _) (by simp) ?_; (case hd => rfl); (case hg => rfl); (case hr => first | (go_simp; done) | (go_simp; rfl)); (case hp => exact (Reps.one (show Kd.M (Kd.int .i64) _ _ _ (wrap64 (t771 - 9)) [.int .i64 (wrap64 (t771 - 9))] from rfl) (Reps.one (show Kd.M (Kd.int .i64) _ _ _ (wrap64 (t773 - 9)) [.int .i64 (wrap64 (t773 - 9))] from rfl) (Reps.none _ _)))); intro v776 w36 ho37 hb hg_ hnew_; clear hg_ hnew_; (first | rw [← Ny775.out] at ho37 | (simp only [Int.reduceToNat] at ho37; rw [← Ny775.out] at ho37)); have HO777 := aM (lw ho37 HK.out); replace HI0 := aM (IsS79.below (by exact IsS79.j HI0.out) hb); replace HK := aM (kbl HK.out hb); replace HB := aM (bj HB.out hb); clear hb ho37) | (refine gL (some 15) Try.func48 #[.pointer (some ⟨g, 0, none⟩), .int .i64 a1] ?_; (with_reducible refine (spec_l20Rd_pick.calls k g s0_0 t774 a1 t778 t779 w0 _ (by exact IsS79.j HI0.out) (by exact jB HB.out) A5.out).mono ?_); rintro e w38 ⟨rfl, hi, hb, hk⟩; refine ⟨_, rfl, ?_⟩; replace HO777 := aM (IsS79.kp (f1 := t774) (by exact IsS79.j HI0.out) (lR HO777.out) hk); replace HK := aM (kt HK.out hk); replace HB := aM (hb); replace HI0 := aM (hi); (try clear hb hk hi)) | (refine gL (some 18) Try.func48 #[.pointer (some ⟨g, 0, none⟩), .int .i64 3] ?_; (with_reducible refine (spec_l20Rd_pick.calls k g s0_0 t779 3 t780 t781 w0 _ (by exact IsS79.j HI0.out) (by exact jB HB.out) A7.out).mono ?_); rintro e w39 ⟨rfl, hi, hb, hk⟩; refine ⟨_, rfl, ?_⟩; replace HO777 := aM (IsS79.kp (f1 := t779) (by exact IsS79.j HI0.out) (lR HO777.out) hk); replace HK := aM (kt HK.out hk); replace HB := aM (hb); replace HI0 := aM (hi); (try clear hb hk hi)) | (refine gL (some 21) Try.func48 #[.pointer (some ⟨g, 0, none⟩), .int .i64 2] ?_; (with_reducible refine (spec_l20Rd_pick.calls k g s0_0 t781 2 t788 t789 w0 _ (by exact IsS79.j HI0.out) (by exact jB HB.out) A27.out).mono ?_); rintro e w40 ⟨rfl, hi, hb, hk⟩; refine ⟨_, rfl, ?_⟩; replace HO777 := aM (IsS79.kp (f1 := t781) (by exact IsS79.j HI0.out) (lR HO777.out) hk); replace HK := aM (kt HK.out hk); replace HB := aM (hb); replace HI0 := aM (hi); (try clear hb hk hi)) | ((with_reducible refine gate_dst (N := 22) rfl ?_); refine Kd.R_lit (Kd.int .i64) _ 3 ?hg (N := 22) ?hd (xs := ([10, (-10)] : List Int)) (inner := [.int .i64 10, .int .i64 (-10)]) (ok := fun _ => True) (okp := fun _ => True) ?hr ?hp (fun _ hk => hk) trivial (Below.refl _ _) (Nat.le_refl _) (by simp) ?_; (case hd => rfl); (case hg => rfl); (case hr => first | (go_simp; done) | (go_simp; rfl)); (case hp => exact (Reps.one (show Kd.M (Kd.int .i64) _ _ _ 10 [.int .i64 10] from rfl) (Reps.one (show Kd.M (Kd.int .i64) _ _ _ (-10) [.int .i64 (-10)] from rfl) (Reps.none _ _)))); intro v791 w41 ho42 hb hg_ hnew_; clear hg_ hnew_; (first | rw [← Ny790.out] at ho42 | (simp only [Int.reduceToNat] at ho42; rw [← Ny790.out] at ho42)); have HO792 := aM (Kd.R_lower (Kd.R_new' ho42 (rl HO777.out)) (ks HK.out)); replace HO777 := aM (Kd.R_elder' (by exact lR HO777.out) (Kd.R_base ho42) hb); replace HI0 := aM (IsS79.below (by exact IsS79.j HI0.out) hb); replace HK := aM (kbl HK.out hb); replace HB := aM (bj HB.out hb); clear hb ho42) | (refine gL (some 24) Try.func48 #[.pointer (some ⟨g, 0, none⟩), .int .i64 2] ?_; (with_reducible refine (spec_l20Rd_pick.calls k g s0_0 t789 2 t793 t794 w0 _ (by exact IsS79.j HI0.out) (by exact jB HB.out) A28.out).mono ?_); rintro e w43 ⟨rfl, hi, hb, hk⟩; refine ⟨_, rfl, ?_⟩; replace HO777 := aM (IsS79.kp (f1 := t789) (by exact IsS79.j HI0.out) (lR HO777.out) hk); replace HO792 := aM (IsS79.kp (f1 := t789) (by exact IsS79.j HI0.out) (lR HO792.out) hk); replace HK := aM (kt HK.out hk); replace HB := aM (hb); replace HI0 := aM (hi); (try clear hb hk hi); obtain ⟨Ao44, co44, rfl⟩ := Kd.R_slice HO792.out; have p795 : 0 ≤ (t793 : Int) := od; have q795 : t793 < (y790.length : Int) := od; obtain ⟨ad795, e795, hx795_0⟩ := Kd.at_int (Kd.R_reads' HO792.out).2.2 t793 p795 q795; cases e795; replace p795 := eq_true p795; replace q795 := eq_true q795; have p33 : 0 ≤ (t788 : Int) := od; have q33 : (t788 : Int) < ((y775.length : Int) : Int) := od; obtain ⟨go33, co33, eo33, gb33, gl33, cl33, HG33⟩ := Kd.R_form HO777.out (by omega); (first | cases eo33 | (injection eo33 with ea_ en_ ec_; (first | subst ea_ | (injection ea_ with ea_; subst ea_)); subst ec_; clear en_)); have GB33 := aM gb33; have IGB33 := wn GB33.out; have GG33 := aM HG33; clear gb33 gl33 HG33; obtain ⟨hx33_0, hf33_0⟩ := Kd.R_celln 0 HO777.out (t788 : Int) p33 q33; replace p33 := eq_true p33; replace q33 := eq_true q33; replace HO777 := aM (Kd.R_mono (ok' := (fun k_ => some k_ ≠ ownBlock (.slice (some ad795) y790.length co44))) HO777.out (fun k_ hk => hk.2)); obtain ⟨hy45_, hz45_⟩ := Kd.R_celln 0 HO777.out (t788 : Int) (of_decide_eq_true (by first | (with_reducible assumption) | assumption)) (of_decide_eq_true (by first | (with_reducible assumption) | assumption)); have HP45 := Kd.R_putg HO777.out (t788 : Int) (rd y790 t793)) | ((with_reducible refine gate_store (t := 3) (p := 27) rfl ?_); refine store_event (t := 3) (p := 27) (v := ?vo_w46) (w1 := (w43.setCell ⟨go33, (t788 : Int).toNat, none⟩ (.int .i64 (rd y790 t793)))) ?hg ?ho ?hn ?hr ?_; (case ho => rfl); (case hg => rfl); (case hn => rfl); (case hr => first | (go_simp; done) | (go_simp; rfl)); intro w46 hw; have hg : w43.grownBy w46 (some go33) := (by rw [hw]; exact HP45.2); have hp_ : Kd.R (Kd.int .i64) 3 w46 w.heap.size (fun k_ => some k_ ≠ ownBlock (.slice (some ad795) y790.length co44)) (.slice (some ⟨go33, 0, none⟩) y775.length co33) y796 := (by rw [hw, Ny796.out]; exact HP45.1); clear HP45; replace HI0 := aM (IsS79.grown (by exact IsS79.j HI0.out) hg (IsS79.own_ne HI0.out HO777.out (by decide))); replace HO792 := aM (Kd.R_after (v := (.slice (some ⟨go33, 0, none⟩) y775.length co33)) (v1 := (.slice (some ⟨go33, 0, none⟩) y775.length co33)) (ok := (fun _ => True)) (by exact lR HO792.out) hg (.inl rfl)); replace HB := aM ((by rw [hw]; exact below_set (HB.out) (Nat.le_trans HL.out GB33.out) : Below w0.heap.size w0 w46)); replace HK := aM (KeepBut.trans (by exact jK HK.out) (KeepBut.of_grown hg g) (Kd.R_base2 HO777.out)); replace HO777 := aM (hp_); clear hg hw hp_))
    go_ret
    exact ⟨_, er, by exact lR <| Kd.R_mono HO777.out (fun _ hk => trivial), by exact IsS79.j HI0.out, by exact jB HB.out, by exact jK HK.out⟩
 ·rw [if_neg c6] at H; have c6b0 := beq_eq_false_iff_ne.mpr c6
  have c6b1 := bne_iff_ne.mpr c6
  simp only [Option.some.injEq, Prod.mk.injEq] at H
  obtain ⟨rfl, rfl⟩ := H
  go_enter Try.func28, Try.ntmps28
  go_wp2_with (first | (refine gL (some 7) Try.func48 #[.pointer (some ⟨g, 0, none⟩), .int .i64 19] ?_; (with_reducible refine (spec_l20Rd_pick.calls k g s0_0 s0_1 19 t771 t772 w0 _ (by exact IsS79.j HI0.out) (by exact jB HB.out) A3.out).mono ?_); rintro e w47 ⟨rfl, hi, hb, hk⟩; refine ⟨_, rfl, ?_⟩; replace HK := aM (kt HK.out hk); replace HB := aM (hb); replace HI0 := aM (hi); (try clear hb hk hi)) | (refine gL (some 10) Try.func48 #[.pointer (some ⟨g, 0, none⟩), .int .i64 19] ?_; (with_reducible refine (spec_l20Rd_pick.calls k g s0_0 t772 19 t773 t774 w0 _ (by exact IsS79.j HI0.out) (by exact jB HB.out) A4.out).mono ?_); rintro e w48 ⟨rfl, hi, hb, hk⟩; refine ⟨_, rfl, ?_⟩; replace HK := aM (kt HK.out hk); replace HB := aM (hb); replace HI0 := aM (hi); (try clear hb hk hi)) | ((with_reducible refine gate_dst (N := 12) rfl ?_); refine Kd.R_lit (Kd.int .i64) _ 3 ?hg (N := 12) ?hd (xs := ([wrap64 (t771 - 9), wrap64 (t773 - 9)] : List Int)) (inner := [.int .i64 (wrap64 (t771 - 9)), .int .i64 (wrap64 (t773 - 9))]) (ok := fun _ => True) (okp := fun _ => True) ?hr ?hp (fun _ hk => hk) trivial (Below.refl _ _) (Nat.le_refl _) (by simp) ?_; (case hd => rfl); (case hg => rfl); (case hr => first | (go_simp; done) | (go_simp; rfl)); (case hp => exact (Reps.one (show Kd.M (Kd.int .i64) _ _ _ (wrap64 (t771 - 9)) [.int .i64 (wrap64 (t771 - 9))] from rfl) (Reps.one (show Kd.M (Kd.int .i64) _ _ _ (wrap64 (t773 - 9)) [.int .i64 (wrap64 (t773 - 9))] from rfl) (Reps.none _ _)))); intro v776 w49 ho50 hb hg_ hnew_; clear hg_ hnew_; (first | rw [← Ny775.out] at ho50 | (simp only [Int.reduceToNat] at ho50; rw [← Ny775.out] at ho50)); have HO777 := aM (lw ho50 HK.out); replace HI0 := aM (IsS79.below (by exact IsS79.j HI0.out) hb); replace HK := aM (kbl HK.out hb); replace HB := aM (bj HB.out hb); clear hb ho50) | (refine gL (some 15) Try.func48 #[.pointer (some ⟨g, 0, none⟩), .int .i64 a1] ?_; (with_reducible refine (spec_l20Rd_pick.calls k g s0_0 t774 a1 t778 t779 w0 _ (by exact IsS79.j HI0.out) (by exact jB HB.out) A5.out).mono ?_); rintro e w51 ⟨rfl, hi, hb, hk⟩; refine ⟨_, rfl, ?_⟩; replace HO777 := aM (IsS79.kp (f1 := t774) (by exact IsS79.j HI0.out) (lR HO777.out) hk); replace HK := aM (kt HK.out hk); replace HB := aM (hb); replace HI0 := aM (hi); (try clear hb hk hi)))
  go_ret
  exact ⟨_, er, by exact lR <| HO777.out, by exact IsS79.j HI0.out, by exact jB HB.out, by exact jK HK.out⟩
/-! ### spec_DrawRowFits: function 6 -/
def spec_DrawRowFits.f (k : Nat) (l0 : List Int) : Option ((List (S34)) × (List (S34)) × (List (S34)) × Bool × List Int × List Int) := (spec_l20Open.f l0).bind fun bt798 => ((spec_l20Row.f k bt798.1 bt798.2 12).bind fun bt801 => ((spec_l20Vals.f k bt798.1 bt801.2.2.2.2 16).bind fun bt812 => ((spec_l20Args.f k bt798.1 bt812.2 16).bind fun bt816 => (some (bt801.1, bt801.2.1, bt801.2.2.1, bt801.2.2.2.1, bt812.1, bt816.1)))))
theorem spec_DrawRowFits.mono : ∀ a0 k, LeO (spec_DrawRowFits.f k a0) (spec_DrawRowFits.f (k + 1) a0) := by
 intro a0 k
 unfold spec_DrawRowFits.f
 have := @spec_l20Args.mono
 have := @spec_l20Row.mono
 have := @spec_l20Vals.mono
 exact mo
theorem spec_DrawRowFits.calls (k : Nat) (A0 : Option Addr) (c0 : Nat) (l0 : List Int) (r1 : List (S34)) (r2 : List (S34)) (r3 : List (S34)) (r4 : Bool) (r5 : List Int) (r6 : List Int) (w : World) (hr0 : Kd.C (Kd.int .u8) w A0 l0.length l0) (hc0 : l0.length ≤ c0) (h : spec_DrawRowFits.f k l0 = some (r1, r2, r3, r4, r5, r6)) :
  Calls Try.prog 6 #[.slice A0 l0.length c0] w fun e w' => ∃ v0_ v1_ v2_ v4_ v5_ : Value, e = .returned (.tuple #[.agg #[v0_, v1_, v2_, .bool r4], v4_, v5_]) ∧ Kd.N k34 34 w' w.heap.size (fun k_ => (w.heap.size ≤ k_) ∧ some k_ ≠ (v1_ : Value).ownBlock ∧ some k_ ≠ (v2_ : Value).ownBlock ∧ some k_ ≠ (v4_ : Value).ownBlock ∧ some k_ ≠ (v5_ : Value).ownBlock) v0_ r1 ∧ Kd.N k34 34 w' w.heap.size (fun k_ => (w.heap.size ≤ k_) ∧ some k_ ≠ (v0_ : Value).ownBlock ∧ some k_ ≠ (v2_ : Value).ownBlock ∧ some k_ ≠ (v4_ : Value).ownBlock ∧ some k_ ≠ (v5_ : Value).ownBlock) v1_ r2 ∧ Kd.N k34 34 w' w.heap.size (fun k_ => (w.heap.size ≤ k_) ∧ some k_ ≠ (v0_ : Value).ownBlock ∧ some k_ ≠ (v1_ : Value).ownBlock ∧ some k_ ≠ (v4_ : Value).ownBlock ∧ some k_ ≠ (v5_ : Value).ownBlock) v2_ r3 ∧ Kd.R (Kd.int .i64) 3 w' w.heap.size (fun k_ => (w.heap.size ≤ k_) ∧ some k_ ≠ (v5_ : Value).ownBlock) v4_ r5 ∧ Kd.R (Kd.int .i64) 3 w' w.heap.size (fun k_ => (w.heap.size ≤ k_) ∧ some k_ ≠ (v4_ : Value).ownBlock) v5_ r6 ∧ Below w.heap.size w w' := by
 have hu25 := Try.underlying25; have HR0 := aM hr0; have HC0 := aM hc0; clear hr0 hc0; have HB := aM (Below.refl w.heap.size w); have H : ((spec_l20Open.f l0).bind fun bt798 => ((spec_l20Row.f k bt798.1 bt798.2 12).bind fun bt801 => ((spec_l20Vals.f k bt798.1 bt801.2.2.2.2 16).bind fun bt812 => ((spec_l20Args.f k bt798.1 bt812.2 16).bind fun bt816 => (some (bt801.1, bt801.2.1, bt801.2.2.1, bt801.2.2.2.1, bt812.1, bt816.1)))))) = some (r1, r2, r3, r4, r5, r6) := h
 clear h; obtain ⟨⟨t798, t799⟩, A2, H⟩ := bS H
 try dsimp only at H
 obtain ⟨⟨t801, t804, t807, t810, t811⟩, A3, H⟩ := bS H
 try dsimp only at H
 obtain ⟨⟨t812, t815⟩, A4, H⟩ := bS H
 try dsimp only at H
 obtain ⟨⟨t816, t819⟩, A5, H⟩ := bS H
 try dsimp only at H
 simp only [Option.some.injEq, Prod.mk.injEq] at H
 obtain ⟨rfl, rfl, rfl, rfl, rfl, rfl⟩ := H
 go_enter Try.func6, Try.ntmps6
 go_wp2_with (first | ((with_reducible refine gate_dst (N := 2) rfl ?_); refine bx 2 #[.slice none 0 0, .slice none 0 0, .slice none 0 0, .bool false] 25 ?_; intro gb797 hg w6 hbox hb; have BK797 := aM (hbox); have GW797 := aM (gz hg HB.out); have IGW797 := wn GW797.out; have GE797 := aM (gz hg HB.out); have IGE797 := wn GE797.out; replace HB := aM (bj HB.out hb); clear hb hbox hg) | (refine gL (some 7) Try.func25 #[.slice A0 l0.length c0] ?_; (with_reducible refine (spec_l20Open.calls _ _ l0 t798 t799 w _ (by exact jB HB.out) (by exact HR0.out) HC0.out A2.out).mono ?_); rintro e w7 ⟨g800, rfl, hi, hb, hb2⟩; refine ⟨_, rfl, ?_⟩; replace HB := aM (hb); have HI800 := aM (hi); have NB800_797 := aM (IsS79.ne_blk hi (blk_below (g := gb797) (lK BK797.out) hb2) (by decide)); have NB797_800 := aM (Ne.symm (IsS79.ne_blk hi (blk_below (g := gb797) (lK BK797.out) hb2) (by decide))); replace BK797 := aM (blk_below (g := gb797) (lK BK797.out) hb2); (try clear hb hb2 hi)) | (refine gL (some 9) Try.func26 #[.pointer (some ⟨g800, 0, none⟩), .int .i64 12] ?_; (with_reducible refine (spec_l20Row.calls k g800 t798 t799 12 t801 t804 t807 t810 t811 w _ (by exact IsS79.j HI800.out) (by exact jB HB.out) A3.out).mono ?_); rintro e w8 ⟨v802, v805, v808, rfl, ho0, ho1, ho2, hi, hb, hk⟩; refine ⟨_, rfl, ?_⟩; have HO803 := aM (Kd.N_lower (Kd.N_mono (ok' := fun k_ => (w.heap.size ≤ k_) ∧ some k_ ≠ v805.ownBlock ∧ some k_ ≠ v808.ownBlock ∧ k_ ≠ gb797 ∧ k_ ≠ g800) ho0 (fun k_ hk_ => ⟨(Nat.le_trans (bz HB.out) hk_.1), hk_.2.1, hk_.2.2, (Kd.freshB (g := gb797) (lK BK797.out) k_ hk_.1), (IsS79.fresh (by exact IsS79.j HI800.out) k_ hk_.1)⟩)) (bz HB.out)); have HO806 := aM (Kd.N_lower (Kd.N_mono (ok' := fun k_ => (w.heap.size ≤ k_) ∧ some k_ ≠ v802.ownBlock ∧ some k_ ≠ v808.ownBlock ∧ k_ ≠ gb797 ∧ k_ ≠ g800) ho1 (fun k_ hk_ => ⟨(Nat.le_trans (bz HB.out) hk_.1), hk_.2.1, hk_.2.2, (Kd.freshB (g := gb797) (lK BK797.out) k_ hk_.1), (IsS79.fresh (by exact IsS79.j HI800.out) k_ hk_.1)⟩)) (bz HB.out)); have HO809 := aM (Kd.N_lower (Kd.N_mono (ok' := fun k_ => (w.heap.size ≤ k_) ∧ some k_ ≠ v802.ownBlock ∧ some k_ ≠ v805.ownBlock ∧ k_ ≠ gb797 ∧ k_ ≠ g800) ho2 (fun k_ hk_ => ⟨(Nat.le_trans (bz HB.out) hk_.1), hk_.2.1, hk_.2.2, (Kd.freshB (g := gb797) (lK BK797.out) k_ hk_.1), (IsS79.fresh (by exact IsS79.j HI800.out) k_ hk_.1)⟩)) (bz HB.out)); replace BK797 := aM (kb hk BK797.out NB797_800.out); replace HB := aM (hb); replace HI800 := aM (hi); (try clear hb hk hi); (try clear ho0); (try clear ho1); (try clear ho2)) | (refine gL (some 11) Try.func27 #[.pointer (some ⟨g800, 0, none⟩), .int .i64 16] ?_; (with_reducible refine (spec_l20Vals.calls k g800 t798 t811 16 t812 t815 w _ (by exact IsS79.j HI800.out) (by exact jB HB.out) A4.out).mono ?_); rintro e w9 ⟨v813, rfl, ho0, hi, hb, hk⟩; refine ⟨_, rfl, ?_⟩; replace BK797 := aM (kb hk BK797.out NB797_800.out); replace HO803 := aM (Kd.N_mono (Kd.N_told (Kd.N_oldK (Kd.N_mono (ok := fun k_ => (((w.heap.size ≤ k_)) ∧ (some k_ ≠ v805.ownBlock ∧ (some k_ ≠ v808.ownBlock ∧ (k_ ≠ gb797 ∧ k_ ≠ g800))))) (by exact lN <| HO803.out) (fun k_ hk_ => (⟨hk_, hk_.2.2.2.2⟩ : _ ∧ k_ ≠ g800))) hk) (Kd.R_base ho0)) (fun _ h_ => h_.1)); replace HO806 := aM (Kd.N_mono (Kd.N_told (Kd.N_oldK (Kd.N_mono (ok := fun k_ => (((w.heap.size ≤ k_)) ∧ (some k_ ≠ v802.ownBlock ∧ (some k_ ≠ v808.ownBlock ∧ (k_ ≠ gb797 ∧ k_ ≠ g800))))) (by exact lN <| HO806.out) (fun k_ hk_ => (⟨hk_, hk_.2.2.2.2⟩ : _ ∧ k_ ≠ g800))) hk) (Kd.R_base ho0)) (fun _ h_ => h_.1)); replace HO809 := aM (Kd.N_mono (Kd.N_told (Kd.N_oldK (Kd.N_mono (ok := fun k_ => (((w.heap.size ≤ k_)) ∧ (some k_ ≠ v802.ownBlock ∧ (some k_ ≠ v805.ownBlock ∧ (k_ ≠ gb797 ∧ k_ ≠ g800))))) (by exact lN <| HO809.out) (fun k_ hk_ => (⟨hk_, hk_.2.2.2.2⟩ : _ ∧ k_ ≠ g800))) hk) (Kd.R_base ho0)) (fun _ h_ => h_.1)); have HO814 := aM (nB ho0 HB.out); replace HB := aM (hb); replace HI800 := aM (hi); (try clear hb hk hi); (try clear ho0)) | (refine gL (some 13) Try.func28 #[.pointer (some ⟨g800, 0, none⟩), .int .i64 16] ?_; (with_reducible refine (spec_l20Args.calls k g800 t798 t815 16 t816 t819 w _ (by exact IsS79.j HI800.out) (by exact jB HB.out) A5.out).mono ?_); rintro e w10 ⟨v817, rfl, ho0, hi, hb, hk⟩; refine ⟨_, rfl, ?_⟩; replace BK797 := aM (kb hk BK797.out NB797_800.out); replace HO803 := aM (Kd.N_mono (Kd.N_told (Kd.N_oldK (Kd.N_mono (ok := fun k_ => ((((w.heap.size ≤ k_)) ∧ (some k_ ≠ v805.ownBlock ∧ (some k_ ≠ v808.ownBlock ∧ (k_ ≠ gb797 ∧ k_ ≠ g800)))) ∧ some k_ ≠ v813.ownBlock)) (by exact lN <| HO803.out) (fun k_ hk_ => (⟨hk_, hk_.1.2.2.2.2⟩ : _ ∧ k_ ≠ g800))) hk) (Kd.R_base ho0)) (fun _ h_ => h_.1)); replace HO806 := aM (Kd.N_mono (Kd.N_told (Kd.N_oldK (Kd.N_mono (ok := fun k_ => ((((w.heap.size ≤ k_)) ∧ (some k_ ≠ v802.ownBlock ∧ (some k_ ≠ v808.ownBlock ∧ (k_ ≠ gb797 ∧ k_ ≠ g800)))) ∧ some k_ ≠ v813.ownBlock)) (by exact lN <| HO806.out) (fun k_ hk_ => (⟨hk_, hk_.1.2.2.2.2⟩ : _ ∧ k_ ≠ g800))) hk) (Kd.R_base ho0)) (fun _ h_ => h_.1)); replace HO809 := aM (Kd.N_mono (Kd.N_told (Kd.N_oldK (Kd.N_mono (ok := fun k_ => ((((w.heap.size ≤ k_)) ∧ (some k_ ≠ v802.ownBlock ∧ (some k_ ≠ v805.ownBlock ∧ (k_ ≠ gb797 ∧ k_ ≠ g800)))) ∧ some k_ ≠ v813.ownBlock)) (by exact lN <| HO809.out) (fun k_ hk_ => (⟨hk_, hk_.1.2.2.2.2⟩ : _ ∧ k_ ≠ g800))) hk) (Kd.R_base ho0)) (fun _ h_ => h_.1)); have HO818 := aM (nB1 ho0 HB.out (rl HO814.out)); replace HO814 := aM (Kd.R_mono (Kd.R_told (Kd.R_oldK (IsS79.apart (show IsS79 w _ g800 t798 t815 from by exact IsS79.j HI800.out) (by exact lR HO814.out) (by decide)) hk) (Kd.R_base ho0)) (fun _ h_ => h_.1)); replace HB := aM (hb); replace HI800 := aM (hi); (try clear hb hk hi); (try clear ho0); obtain ⟨Ao11, co11, eo11⟩ := Kd.N_slice HO803.out; subst eo11; have hnb12 := NB797_800.out; have hnc12 := NB800_797.out; have hcz13_0 : w10.cell? ⟨gb797, 0, none⟩ = some (.slice none 0 0) := (blk_cell BK797.out 0).trans rfl; have hcz13_1 : w10.cell? ⟨gb797, 1, none⟩ = some (.slice none 0 0) := (blk_cell BK797.out 1).trans rfl; have hcz13_2 : w10.cell? ⟨gb797, 2, none⟩ = some (.slice none 0 0) := (blk_cell BK797.out 2).trans rfl; have hcz13_3 : w10.cell? ⟨gb797, 3, none⟩ = some (.bool false) := (blk_cell BK797.out 3).trans rfl; have hfz13_0 := blk_frozen BK797.out 0; have hfz13_1 := blk_frozen BK797.out 1; have hfz13_2 := blk_frozen BK797.out 2; have hfz13_3 := blk_frozen BK797.out 3; obtain ⟨Ao14, co14, eo14⟩ := Kd.N_slice HO806.out; subst eo14; obtain ⟨Ao15, co15, eo15⟩ := Kd.N_slice HO809.out; subst eo15))
 refine bodyPost_ret (results_ctt rfl _ _ gb797 25 #[.slice Ao11 t801.length co11, .slice Ao14 t804.length co14, .slice Ao15 t807.length co15, .bool t810] (0, 0) _ rfl (by exact p4 (lK BK797.out)) Try.underlying25 rfl (by kernel_rfl)) rfl ?_
 exact ⟨_, _, _, _, _, er, by exact lN <| Kd.N_mono (Kd.N_far (p := ⟨gb797, 3, none⟩) (Kd.N_far (p := ⟨gb797, 2, none⟩) (Kd.N_far (p := ⟨gb797, 1, none⟩) (Kd.N_far (p := ⟨gb797, 0, none⟩) (Kd.N_mono HO803.out (fun k_ hk => (⟨hk, hk.1.1.2.2.2.1⟩ : _ ∧ k_ ≠ gb797))) (fun _ hk => by first | exact hk.2 | exact fun e_ => hk.2 (e_.trans (ob _ _ _ _))) (.slice Ao11 t801.length co11)) (fun _ hk => by first | exact hk.2 | exact fun e_ => hk.2 (e_.trans (ob _ _ _ _))) (.slice Ao14 t804.length co14)) (fun _ hk => by first | exact hk.2 | exact fun e_ => hk.2 (e_.trans (ob _ _ _ _))) (.slice Ao15 t807.length co15)) (fun _ hk => by first | exact hk.2 | exact fun e_ => hk.2 (e_.trans (ob _ _ _ _))) (.bool t810)) (fun _ hk => ⟨hk.1.1.1.1, ⟨hk.1.1.1.2.1, ⟨hk.1.1.1.2.2.1, ⟨hk.1.1.2, hk.1.2⟩⟩⟩⟩), by exact lN <| Kd.N_mono (Kd.N_far (p := ⟨gb797, 3, none⟩) (Kd.N_far (p := ⟨gb797, 2, none⟩) (Kd.N_far (p := ⟨gb797, 1, none⟩) (Kd.N_far (p := ⟨gb797, 0, none⟩) (Kd.N_mono HO806.out (fun k_ hk => (⟨hk, hk.1.1.2.2.2.1⟩ : _ ∧ k_ ≠ gb797))) (fun _ hk => by first | exact hk.2 | exact fun e_ => hk.2 (e_.trans (ob _ _ _ _))) (.slice Ao11 t801.length co11)) (fun _ hk => by first | exact hk.2 | exact fun e_ => hk.2 (e_.trans (ob _ _ _ _))) (.slice Ao14 t804.length co14)) (fun _ hk => by first | exact hk.2 | exact fun e_ => hk.2 (e_.trans (ob _ _ _ _))) (.slice Ao15 t807.length co15)) (fun _ hk => by first | exact hk.2 | exact fun e_ => hk.2 (e_.trans (ob _ _ _ _))) (.bool t810)) (fun _ hk => ⟨hk.1.1.1.1, ⟨hk.1.1.1.2.1, ⟨hk.1.1.1.2.2.1, ⟨hk.1.1.2, hk.1.2⟩⟩⟩⟩), by exact lN <| Kd.N_mono (Kd.N_far (p := ⟨gb797, 3, none⟩) (Kd.N_far (p := ⟨gb797, 2, none⟩) (Kd.N_far (p := ⟨gb797, 1, none⟩) (Kd.N_far (p := ⟨gb797, 0, none⟩) (Kd.N_mono HO809.out (fun k_ hk => (⟨hk, hk.1.1.2.2.2.1⟩ : _ ∧ k_ ≠ gb797))) (fun _ hk => by first | exact hk.2 | exact fun e_ => hk.2 (e_.trans (ob _ _ _ _))) (.slice Ao11 t801.length co11)) (fun _ hk => by first | exact hk.2 | exact fun e_ => hk.2 (e_.trans (ob _ _ _ _))) (.slice Ao14 t804.length co14)) (fun _ hk => by first | exact hk.2 | exact fun e_ => hk.2 (e_.trans (ob _ _ _ _))) (.slice Ao15 t807.length co15)) (fun _ hk => by first | exact hk.2 | exact fun e_ => hk.2 (e_.trans (ob _ _ _ _))) (.bool t810)) (fun _ hk => ⟨hk.1.1.1.1, ⟨hk.1.1.1.2.1, ⟨hk.1.1.1.2.2.1, ⟨hk.1.1.2, hk.1.2⟩⟩⟩⟩), by exact lR <| Kd.R_mono (Kd.R_far (p := ⟨gb797, 3, none⟩) (Kd.R_far (p := ⟨gb797, 2, none⟩) (Kd.R_far (p := ⟨gb797, 1, none⟩) (Kd.R_far (p := ⟨gb797, 0, none⟩) (Kd.R_types HO814.out BK797.out (by decide)) (fun _ hk => by first | exact hk.2 | exact fun e_ => hk.2 (e_.trans (ob _ _ _ _))) (.slice Ao11 t801.length co11)) (fun _ hk => by first | exact hk.2 | exact fun e_ => hk.2 (e_.trans (ob _ _ _ _))) (.slice Ao14 t804.length co14)) (fun _ hk => by first | exact hk.2 | exact fun e_ => hk.2 (e_.trans (ob _ _ _ _))) (.slice Ao15 t807.length co15)) (fun _ hk => by first | exact hk.2 | exact fun e_ => hk.2 (e_.trans (ob _ _ _ _))) (.bool t810)) (fun _ hk => ⟨hk.1.1.1, hk.1.2⟩), by exact lR <| Kd.R_mono (Kd.R_far (p := ⟨gb797, 3, none⟩) (Kd.R_far (p := ⟨gb797, 2, none⟩) (Kd.R_far (p := ⟨gb797, 1, none⟩) (Kd.R_far (p := ⟨gb797, 0, none⟩) (Kd.R_types HO818.out BK797.out (by decide)) (fun _ hk => by first | exact hk.2 | exact fun e_ => hk.2 (e_.trans (ob _ _ _ _))) (.slice Ao11 t801.length co11)) (fun _ hk => by first | exact hk.2 | exact fun e_ => hk.2 (e_.trans (ob _ _ _ _))) (.slice Ao14 t804.length co14)) (fun _ hk => by first | exact hk.2 | exact fun e_ => hk.2 (e_.trans (ob _ _ _ _))) (.slice Ao15 t807.length co15)) (fun _ hk => by first | exact hk.2 | exact fun e_ => hk.2 (e_.trans (ob _ _ _ _))) (.bool t810)) (fun _ hk => ⟨hk.1.1.1, hk.1.2⟩), by exact jB HB.out⟩
-- NOT PRINTED: function 74 (slices_IndexFunc_int_int)
-- NOT PRINTED: function 61 (slices_ContainsFunc_int_int)
/-! ### impl_in: function 54 -/
def impl_in.f (a0 : Int) (a1 : Int) (a2 : Int) : Option (Bool) := if a0 ≥ a1 then (some (decide (a0 ≤ a2))) else (some false)
theorem impl_in.calls (a0 : Int) (a1 : Int) (a2 : Int) (r : Bool) (w : World) (h : impl_in.f a0 a1 a2 = some r) :
  Calls Try.prog 54 #[.int .i64 a0, .int .i64 a1, .int .i64 a2] w fun e w' => e = .returned (.bool r) ∧ Drawn0 w w' := by
 have H : (if a0 ≥ a1 then (some (decide (a0 ≤ a2))) else (some false)) = some r := h
 clear h
 by_cases c4 : a0 ≥ a1
 ·rw [if_pos c4] at H; replace c4 := decide_eq_true c4; obtain rfl := Option.some.inj H
  go_enter Try.func54, Try.ntmps54
  go_wp2
  go_ret
  exact ⟨by first | rfl | (simp; done) | (simp [*]; done), by repeat (first | exact Drawn0.refl _ | apply Drawn0.step)⟩
 ·rw [if_neg c4] at H; replace c4 := decide_eq_false c4; obtain rfl := Option.some.inj H
  go_enter Try.func54, Try.ntmps54
  go_wp2
  go_ret
  exact ⟨by first | rfl | (simp; done) | (simp [*]; done), by repeat (first | exact Drawn0.refl _ | apply Drawn0.step)⟩
-- NOT PRINTED: function 67 (impl_within_1)
/-! ### impl_within: function 33, by hand -/
set_option maxHeartbeats 1000000 in
theorem idx_ints (q : Int → Bool) (g : Nat) (lb : Array Value) (eg : ∀ args w, (callFunc g args).run Try.prog w = .ok (.enter g args) w) (A0 : Option Addr) (c0 : Nat) (xs : List Int) (w : World)
  (hr : Kd.C (Kd.int .i64) w A0 xs.length xs) (hp : ∀ x, x ∈ xs → ∀ W : World, Below w.heap.size w W → Calls Try.prog g (#[.int .i64 x] ++ lb) W fun e w' => e = .returned (.bool (q x)) ∧ Below W.heap.size W w') :
  Calls Try.prog 74 #[.slice A0 xs.length c0, .func (.func g) #[] lb] w fun e w' => e = .returned (.int .i64 (idxOf q xs)) ∧ Below w.heap.size w w' := by
 have hm := Kd.C_max hr
 have HR := aM hr; have HP := aM hp; clear hr hp; go_enter Try.func74, Try.ntmps74
 go_wp2
 go_loopg [5, 8] xs.length (fun gg _ s8 wr => ∃ x : Int, s8 = .int .i64 x ∧ Aside0 (0 ≤ x ∧ x ≤ xs.length ∧ (xs.length : Int) - x ≤ gg) ∧ Aside0 (Below w.heap.size w wr) ∧ Aside0 (∀ j : Int, 0 ≤ j → j < x → q (xs.getD j.toNat 0) = false))
 case atStart => exact ⟨0, rfl, ⟨by omega, by omega, by omega⟩, ⟨Below.refl _ _⟩, ⟨fun j h0 h1 => by omega⟩⟩
 case round =>
  obtain ⟨x, rfl, HX, HB, HN⟩ := hrel
  have p1 := HX.out.1
  by_cases hlt : x < (xs.length : Int)
  ·obtain ⟨ad, e1, hx⟩ := Kd.at_int (Kd.C_below HR.out HB.out) x p1 hlt
   cases e1; have hcall := HP.out (rd xs x) (mem_rd 0 xs x p1 hlt) _ HB.out
   cases hq : q (rd xs x) with
   | true =>
    rw [hq] at hcall
    have HQ := aM hq; clear hq; have HC := aM hcall; clear hcall; go_wp2_with (go_at_fn g; refine HC.out.mono ?_; rintro e w' ⟨rfl, hb⟩)
    go_ret
    refine ⟨?_, below_then HB.out HB.out.size hb⟩
    rw [idxOf_hit 0 x p1 hlt HQ.out HN.out]
    rfl
   | false =>
    rw [hq] at hcall
    have HQ := aM hq; clear hq; have HC := aM hcall; clear hcall; go_wp2_with (go_at_fn g; refine HC.out.mono ?_; rintro e w' ⟨rfl, hb⟩)
    go_roundg (xs.length - (x.toNat + 1))
    case measure => have := HX.out; omega
    case rel =>
     refine ⟨x + 1, by go_num, ⟨by have := HX.out; omega, by have := HX.out; omega, by have := HX.out; omega⟩, ⟨below_then HB.out HB.out.size hb⟩, ⟨fun j h0 h1 => ?_⟩⟩
     by_cases e : j = x
     ·subst e; exact HQ.out
     ·exact HN.out j h0 (by omega)
  ·go_wp2
   go_ret
   refine ⟨?_, HB.out⟩
   rw [idxOf_miss 0 (fun j h0 h1 => HN.out j h0 (by have := HX.out; omega))]
   rfl
set_option maxHeartbeats 1000000 in
theorem has_ints (q : Int → Bool) (g : Nat) (lb : Array Value) (eg : ∀ args w, (callFunc g args).run Try.prog w = .ok (.enter g args) w) (A0 : Option Addr) (c0 : Nat) (xs : List Int) (w : World)
  (hr : Kd.C (Kd.int .i64) w A0 xs.length xs) (hp : ∀ x, x ∈ xs → ∀ W : World, Below w.heap.size w W → Calls Try.prog g (#[.int .i64 x] ++ lb) W fun e w' => e = .returned (.bool (q x)) ∧ Below W.heap.size W w') :
  Calls Try.prog 61 #[.slice A0 xs.length c0, .func (.func g) #[] lb] w fun e w' => e = .returned (.bool (xs.any q)) ∧ Below w.heap.size w w' := by
 have HC := aM (idx_ints q g lb eg A0 c0 xs w hr hp); rw [← idxOf_any q xs]
 generalize idxOf q xs = n at HC
 clear hr hp; go_enter Try.func61, Try.ntmps61
 go_wp2_with (go_at_call 74; refine HC.out.mono ?_; rintro e w' ⟨rfl, hb⟩)
 go_ret
 exact ⟨rfl, hb⟩
def inB (n lo hi : Int) : Bool := decide (lo ≤ n) && decide (n ≤ hi)
theorem in_inB (n lo hi : Int) : impl_in.f n lo hi = some (inB n lo hi) := by
 unfold impl_in.f inB
 by_cases h : n ≥ lo
 ·rw [if_pos h]; simp [h]
 ·rw [if_neg h]; simp [h]
set_option maxHeartbeats 1000000 in
theorem within_pred (most : Int) (B : Nat) (W : World) (x : Int) (hc : W.cell? ⟨B, 0, none⟩ = some (.int .i64 most)) :
  Calls Try.prog 67 (#[.int .i64 x] ++ #[.pointer (some ⟨B, 0, none⟩)]) W fun e w' => e = .returned (.bool (!inB x (wrap64 (-most)) most)) ∧ Below W.heap.size W w' := by
 show Calls Try.prog 67 #[.int .i64 x, .pointer (some ⟨B, 0, none⟩)] W _
 have HI := aM (impl_in.calls x (wrap64 (-most)) most (inB x (wrap64 (-most)) most) W (in_inB _ _ _)); go_enter Try.func67, Try.ntmps67
 go_wp2_with (go_at_call 54; refine HI.out.mono ?_; rintro e w' ⟨rfl, hd⟩)
 go_ret
 exact ⟨rfl, hd.below⟩
def impl_within.f (l0 : List Int) (a1 : Int) (a2 : Int) : Option (Bool) := some (decide ((l0.length : Int) = a1) && !(l0.any fun x => !inB x (wrap64 (-a2)) a2))
theorem impl_within.calls (A0 : Option Addr) (c0 : Nat) (l0 : List Int) (a1 : Int) (a2 : Int) (r : Bool) (w : World) (hr0 : Kd.C (Kd.int .i64) w A0 l0.length l0) (hc0 : l0.length ≤ c0) (h : impl_within.f l0 a1 a2 = some r) :
  Calls Try.prog 33 #[.slice A0 l0.length c0, .int .i64 a1, .int .i64 a2] w fun e w' => e = .returned (.bool r) ∧ Below w.heap.size w w' := by
 obtain rfl := Option.some.inj h
 clear h; have eg : ∀ args w, (callFunc 67 args).run Try.prog w = .ok (.enter 67 args) w := enters_of Try.func67 (by kernel_rfl) rfl
 have HC := aM (has_ints (fun x => !inB x (wrap64 (-a2)) a2) 67 #[.pointer (some ⟨w.heap.size, 0, none⟩)] eg A0 c0 l0 (w.alloc (.cells #[.int .i64 a2] 3)) (Kd.C_alloc hr0 _)
  (fun x _ W hb => within_pred a2 w.heap.size W x ((hb.cell (p := ⟨w.heap.size, 0, none⟩) (by simp)).trans (by simp))))
 clear hr0
 by_cases hn : (l0.length : Int) = a1
 ·have hb1 : ((l0.length : Int) == a1) = true := beq_iff_eq.mpr hn
  have hd : decide ((l0.length : Int) = a1) = true := decide_eq_true hn
  rw [hd]
  clear hn hd; generalize l0.any (fun x => !inB x (wrap64 (-a2)) a2) = b at HC
  go_enter Try.func33, Try.ntmps33
  go_wp2_with (go_at_call 61; refine HC.out.mono ?_; rintro e w' ⟨rfl, hb⟩)
  go_ret
  exact ⟨by simp, below_then (below_alloc (Below.refl _ _) _) (by simp) hb⟩
 ·have hb1 : ((l0.length : Int) == a1) = false := beq_eq_false_iff_ne.mpr hn
  have hd : decide ((l0.length : Int) = a1) = false := decide_eq_false hn
  rw [hd]
  clear hn hd HC; go_enter Try.func33, Try.ntmps33
  go_wp2
  go_ret
  exact ⟨by simp, below_alloc (Below.refl _ _) _⟩
/-! ### impl_FrmOk: function 30 -/
def impl_FrmOk.f (l0_0 : List Int) (l0_1 : List Int) (a0_2 : Int) : Option (Bool) := (impl_within.f l0_0 3 10000000).bind fun t821 => (if t821 = true then ((impl_within.f l0_1 2 10000000).bind fun t822 => (if t822 = true then ((impl_in.f a0_2 (-10000000) 10000000).bind fun t823 => (some t823)) else (some false))) else (some false))
theorem impl_FrmOk.calls (A0_0 : Option Addr) (c0_0 : Nat) (l0_0 : List Int) (A0_1 : Option Addr) (c0_1 : Nat) (l0_1 : List Int) (a0_2 : Int) (r : Bool) (w : World) (hr0_0 : Kd.C (Kd.int .i64) w A0_0 l0_0.length l0_0) (hc0_0 : l0_0.length ≤ c0_0) (hr0_1 : Kd.C (Kd.int .i64) w A0_1 l0_1.length l0_1) (hc0_1 : l0_1.length ≤ c0_1) (h : impl_FrmOk.f l0_0 l0_1 a0_2 = some r) :
  Calls Try.prog 30 #[.agg #[.slice A0_0 l0_0.length c0_0, .slice A0_1 l0_1.length c0_1, .int .i64 a0_2]] w fun e w' => e = .returned (.bool r) ∧ Below w.heap.size w w' := by
 have hu34 := Try.underlying34; have HR0_0 := aM hr0_0; have HC0_0 := aM hc0_0; clear hr0_0 hc0_0; have HR0_1 := aM hr0_1; have HC0_1 := aM hc0_1; clear hr0_1 hc0_1; have HB := aM (Below.refl w.heap.size w); have H : ((impl_within.f l0_0 3 10000000).bind fun t821 => (if t821 = true then ((impl_within.f l0_1 2 10000000).bind fun t822 => (if t822 = true then ((impl_in.f a0_2 (-10000000) 10000000).bind fun t823 => (some t823)) else (some false))) else (some false))) = some r := h
 clear h; obtain ⟨t821, A2, H⟩ := bS H
 try dsimp only at H
 by_cases c3 : t821 = true
 ·subst c3; rw [if_pos rfl] at H
  try dsimp only at H
  obtain ⟨t822, A4, H⟩ := bS H
  try dsimp only at H
  by_cases c5 : t822 = true
  ·subst c5; rw [if_pos rfl] at H
   try dsimp only at H
   obtain ⟨t823, A6, H⟩ := bS H
   try dsimp only at H
   obtain rfl := Option.some.inj H
   go_enter Try.func30, Try.ntmps30
   go_wp2_with (first | ((with_reducible refine gate_dst (N := 1) rfl ?_); refine bx 1 #[.slice A0_0 l0_0.length c0_0, .slice A0_1 l0_1.length c0_1, .int .i64 a0_2] 34 ?_; intro gb820 hg w7 hbox hb; have BK820 := aM (hbox); have GW820 := aM (gz hg HB.out); have IGW820 := wn GW820.out; have GE820 := aM (gz hg HB.out); have IGE820 := wn GE820.out; replace HB := aM (bj HB.out hb); clear hb hbox hg; obtain ⟨hcz8_0, hcz8_1, hcz8_2, hfz8_0, hfz8_1, hfz8_2⟩ := cf3 BK820.out) | (refine gL (some 5) Try.func33 #[.slice A0_0 l0_0.length c0_0, .int .i64 3, .int .i64 10000000] ?_; (with_reducible refine (impl_within.calls _ _ l0_0 3 10000000 true _ (by exact lC <| (Kd.C_below HR0_0.out HB.out)) HC0_0.out A2.out).mono ?_); rintro e w9 ⟨rfl, hb⟩; refine ⟨_, rfl, ?_⟩; replace BK820 := aM (bb BK820.out hb); replace HB := aM (bj HB.out hb); (try clear hb); obtain ⟨hcz10_0, hcz10_1, hcz10_2, hfz10_0, hfz10_1, hfz10_2⟩ := cf3 BK820.out) | (go_at_call 33; (with_reducible refine (impl_within.calls _ _ l0_1 2 10000000 true _ (by exact lC <| (Kd.C_below HR0_1.out HB.out)) HC0_1.out A4.out).mono ?_); rintro e w11 ⟨rfl, hb⟩; replace BK820 := aM (bb BK820.out hb); replace HB := aM (bj HB.out hb); (try clear hb); obtain ⟨hcz12_0, hcz12_1, hcz12_2, hfz12_0, hfz12_1, hfz12_2⟩ := cf3 BK820.out) | (go_at_call 54; (with_reducible refine (impl_in.calls a0_2 (-10000000) 10000000 t823 _ A6.out).mono ?_); rintro e w' ⟨rfl, ⟨nd, rfl⟩⟩))
   go_ret
   exact ⟨er, by exact jB HB.out⟩
  ·replace c5 := Bool.eq_false_iff.mpr c5
   subst c5; rw [if_neg nf] at H
   try dsimp only at H
   obtain rfl := Option.some.inj H
   go_enter Try.func30, Try.ntmps30
   go_wp2_with (first | ((with_reducible refine gate_dst (N := 1) rfl ?_); refine bx 1 #[.slice A0_0 l0_0.length c0_0, .slice A0_1 l0_1.length c0_1, .int .i64 a0_2] 34 ?_; intro gb820 hg w13 hbox hb; have BK820 := aM (hbox); have GW820 := aM (gz hg HB.out); have IGW820 := wn GW820.out; have GE820 := aM (gz hg HB.out); have IGE820 := wn GE820.out; replace HB := aM (bj HB.out hb); clear hb hbox hg; obtain ⟨hcz14_0, hcz14_1, hcz14_2, hfz14_0, hfz14_1, hfz14_2⟩ := cf3 BK820.out) | (refine gL (some 5) Try.func33 #[.slice A0_0 l0_0.length c0_0, .int .i64 3, .int .i64 10000000] ?_; (with_reducible refine (impl_within.calls _ _ l0_0 3 10000000 true _ (by exact lC <| (Kd.C_below HR0_0.out HB.out)) HC0_0.out A2.out).mono ?_); rintro e w15 ⟨rfl, hb⟩; refine ⟨_, rfl, ?_⟩; replace BK820 := aM (bb BK820.out hb); replace HB := aM (bj HB.out hb); (try clear hb); obtain ⟨hcz16_0, hcz16_1, hcz16_2, hfz16_0, hfz16_1, hfz16_2⟩ := cf3 BK820.out) | (go_at_call 33; (with_reducible refine (impl_within.calls _ _ l0_1 2 10000000 false _ (by exact lC <| (Kd.C_below HR0_1.out HB.out)) HC0_1.out A4.out).mono ?_); rintro e w17 ⟨rfl, hb⟩; replace BK820 := aM (bb BK820.out hb); replace HB := aM (bj HB.out hb); (try clear hb)))
   go_ret
   exact ⟨er, by exact jB HB.out⟩
 ·replace c3 := Bool.eq_false_iff.mpr c3
  subst c3; rw [if_neg nf] at H
  try dsimp only at H
  obtain rfl := Option.some.inj H
  go_enter Try.func30, Try.ntmps30
  go_wp2_with (first | ((with_reducible refine gate_dst (N := 1) rfl ?_); refine bx 1 #[.slice A0_0 l0_0.length c0_0, .slice A0_1 l0_1.length c0_1, .int .i64 a0_2] 34 ?_; intro gb820 hg w18 hbox hb; have BK820 := aM (hbox); have GW820 := aM (gz hg HB.out); have IGW820 := wn GW820.out; have GE820 := aM (gz hg HB.out); have IGE820 := wn GE820.out; replace HB := aM (bj HB.out hb); clear hb hbox hg; obtain ⟨hcz19_0, hcz19_1, hcz19_2, hfz19_0, hfz19_1, hfz19_2⟩ := cf3 BK820.out) | (refine gL (some 5) Try.func33 #[.slice A0_0 l0_0.length c0_0, .int .i64 3, .int .i64 10000000] ?_; (with_reducible refine (impl_within.calls _ _ l0_0 3 10000000 false _ (by exact lC <| (Kd.C_below HR0_0.out HB.out)) HC0_0.out A2.out).mono ?_); rintro e w20 ⟨rfl, hb⟩; refine ⟨_, rfl, ?_⟩; replace BK820 := aM (bb BK820.out hb); replace HB := aM (bj HB.out hb); (try clear hb)))
  go_ret
  exact ⟨er, by exact jB HB.out⟩
-- NOT PRINTED: function 29 (impl_RowOk_1)
-- NOT PRINTED: function 65 (impl_FrmForm_65)
-- NOT PRINTED: function 31 (impl_FrmForm_31)
/-! ### impl_FrmForm_66: function 66, by hand -/
def frzK {α : Type} (d : Kd α) (w0 : World) : Kd α where
 sz := d.sz
 E := []
 K := fun _ x cs => d.K w0 x cs
 M := fun _ _ _ x cs => d.K w0 x cs
 K_len := fun h => d.K_len h
 K_one := fun h => d.K_one h
 K_below := fun _ h => h
 K_of_M := fun h => h
 M_mono := fun _ h => h
 M_bound := fun h => h
 M_move := fun _ h => h
 M_lower := fun _ h => h
theorem frz_of {α : Type} {d : Kd α} {w0 : World} {A : Option Addr} {n : Nat} {xs : List α} (h : d.C w0 A n xs) : (frzK d w0).C w0 A n xs := h
theorem frz_to {α : Type} {d : Kd α} {w0 W : World} {A : Option Addr} {n : Nat} {xs : List α} (h : (frzK d w0).C W A n xs) (hb : Below w0.heap.size w0 W) : d.C W A n xs :=
 ReadsRow.imp_ h (Below.refl _ _) (fun _ _ hp => d.K_below hb hp)
set_option maxHeartbeats 4000000 in
theorem grow_nil (w0 : World) (n : Nat) (w : World) (hn : n ≤ 2000000000000) :
  Calls Try.prog 66 #[.slice none 0 0, .int .i64 n] w fun e w' => ∃ v, e = .returned v ∧ Kd.R (frzK k34 w0) 34 w' w.heap.size (fun _ => True) v [] ∧ Below w.heap.size w w' := by
 have h1 : ¬ ((n : Int) < 0) := by omega
 have h2 : wrap64 (n : Int) = n := by unfold wrap64; omega
 have h3 : wrap64 ((n : Int) - 0) = n := by unfold wrap64; omega
 by_cases h0 : n = 0
 ·subst h0; go_enter Try.func66, Try.ntmps66
  go_wp2
  go_ret
  exact ⟨_, rfl, Kd.R_nil _ _ _ _ _, Below.refl _ _⟩
 ·have h4 : (n : Int) > 0 := by omega
  obtain ⟨i0, hi, hz⟩ := Option.map_eq_some_iff.1 info34
  simp only [Prod.mk.injEq] at hz
  obtain ⟨hz0, hz1, hz2⟩ := hz
  have hrz : ∀ ty, (Builtin.append_ #[23, 3] ty #[.slice none 0 0, .int .i64 n]).run Try.prog w = _ := fun ty => Lib.run_append_nil_zeros w 23 3 ty 34 i0 (.agg #[(.slice none 0 0), (.slice none 0 0), (.int .i64 0)]) .i64 .i64 Try.underlying23 Try.underlying3 hi hz0 n (by omega) (by rw [hz1]; decide) (by omega) (by rw [hz2]; omega)
  have hG := grownCap_ge w n 0 34
  have hM := grownCap_le_maxLen w n 0 34 (by unfold maxLen; omega)
  generalize grownCap w n 0 34 = G at hrz hG hM
  have hM' := hM
  unfold maxLen at hM'
  go_enter Try.func66, Try.ntmps66
  go_wp2_with (at_builtin; refine Lib.wpList_append_run _ rfl _ _ _ _ rfl _ _ rfl rfl _ _ (hrz _) ?_)
  go_ret
  refine ⟨_, rfl, ⟨fun _ _ => trivial, [], ⟨rfl, .inr ⟨w.heap.size, G, _, rfl, Nat.le_refl _, (by show (w.heap.push _)[w.heap.size]? = some _; rw [Array.getElem?_push_size]), Nat.zero_le _, hM, ?_, by simp⟩⟩, Reps.none _ _⟩, below_alloc (below_drew1 (Below.refl _ _)) _⟩
  rw [Array.size_append, size_zeroCells, size_zeroCells]
  show n * 3 + (G - n) * 3 = G * 3
  omega
/-! ### impl_FrmForm_32: function 32, by hand -/
theorem take_flat {α : Type} (xss : List (List α)) (x : Int) (h0 : 0 ≤ x) (h1 : x < (xss.length : Int)) : (xss.take (x + 1).toNat).flatten = (xss.take x.toNat).flatten ++ xss.getD x.toNat [] := by
 have hl : x.toNat < xss.length := by omega
 rw [show (x + 1).toNat = x.toNat + 1 from by omega, List.take_succ_eq_append_getElem hl, List.flatten_append, List.getD_eq_getElem?_getD, List.getElem?_eq_getElem hl]
 simp
theorem flat_le {α : Type} (xss : List (List α)) (n : Nat) : (xss.take n).flatten.length ≤ xss.flatten.length := by
 conv => rhs; rw [← List.take_append_drop n xss, List.flatten_append, List.length_append]
 omega
set_option maxHeartbeats 4000000 in
theorem concat_calls (ad : Addr) (c : Nat) (xss : List (List (S34))) (zs : List (S34)) (hzs : xss.flatten = zs) (w : World) (hn : xss.length ≤ 1000) (hl : xss.flatten.length ≤ 2000000000000)
  (hx : ∀ i : Int, 0 ≤ i → i < (xss.length : Int) → ∃ A n, w.cell? (ad.add i.toNat) = some (.slice A (xss.getD i.toNat []).length n) ∧ Kd.C k34 w A (xss.getD i.toNat []).length (xss.getD i.toNat [])) :
  Calls Try.prog 32 #[.slice (some ad) xss.length c] w fun e w' => ∃ A m, e = .returned (.slice A zs.length m) ∧ Kd.C k34 w' A zs.length zs ∧ zs.length ≤ m ∧ Below w.heap.size w w' := by
 have HZS := aM hzs; clear hzs; have HX := aM hx; have HL := aM hl; clear hx hl; go_enter Try.func32, Try.ntmps32
 go_wp2
 go_loopg [3, 11] xss.length (fun gg v3 v11 wr => ∃ (x : Int) (n : Nat), v11 = .int .i64 x ∧ v3 = .int .i64 (n : Int) ∧ Aside0 (n = (xss.take x.toNat).flatten.length) ∧ Aside0 (0 ≤ x ∧ x ≤ xss.length ∧ (xss.length : Int) - x ≤ gg) ∧ Aside0 (Below w.heap.size w wr))
 case atStart => exact ⟨0, 0, rfl, rfl, ⟨rfl⟩, ⟨by omega, by omega, by omega⟩, ⟨Below.refl _ _⟩⟩
 case round =>
  obtain ⟨x, n, rfl, rfl, HN, HP, HB⟩ := hrel
  have p1 := HP.out.1
  by_cases hlt : x < (xss.length : Int)
  ·obtain ⟨A, m, hc, hC⟩ := HX.out x p1 hlt
   have hc' := cl HB.out hc
   have ht := take_flat xss x p1 hlt
   have hf2 := flat_le xss (x + 1).toNat
   rw [ht, List.length_append, ← HN.out] at hf2
   have hL := HL.out
   have HT : Aside0 (n + (xss.getD x.toNat []).length = (xss.take (x + 1).toNat).flatten.length) := ⟨by rw [ht, List.length_append, ← HN.out]⟩
   clear hc hC ht; generalize (xss.getD x.toNat []).length = q at hc' hf2 HT
   have hw : wrap64 ((n : Int) + (q : Int)) = ((n + q : Nat) : Int) := by unfold wrap64; omega
   have hneg : ¬ (((n + q : Nat) : Int) < 0) := by omega
   generalize hr : n + q = r at hw hneg HT
   clear hf2 hL hr; go_wp2
   go_roundg (xss.length - (x.toNat + 1))
   case measure => have := HP.out; omega
   case rel => exact ⟨x + 1, r, by go_num, rfl, HT, ⟨by have := HP.out; omega, by have := HP.out; omega, by have := HP.out; omega⟩, HB⟩
  ·have hx9 : x = xss.length := by have := HP.out; omega
   subst hx9; have hn9 : n ≤ 2000000000000 := by
    have := flat_le xss ((xss.length : Nat) : Int).toNat
    rw [← HN.out] at this
    exact Nat.le_trans this HL.out
   have HG := aM (fun (W : World) => grow_nil w n W hn9); clear hlt p1 HP hn9 HN; go_wp2_with (go_at_call 66; refine (HG.out _).mono ?_; rintro e w1 ⟨v6, rfl, ho, hb⟩; have HO := aM (Kd.R_lower ho HB.out.size); have HB1 := aM (below_then HB.out HB.out.size hb); clear ho hb HB HG)
   go_loopg [6, 27] xss.length (fun gg v6 v27 wr => ∃ x : Int, v27 = .int .i64 x ∧ Aside0 (0 ≤ x ∧ x ≤ xss.length ∧ (xss.length : Int) - x ≤ gg) ∧ Aside0 (Kd.R (frzK k34 w) 34 wr w.heap.size (fun _ => True) v6 (xss.take x.toNat).flatten) ∧ Aside0 (Below w.heap.size w wr))
   case atStart => exact ⟨0, rfl, ⟨by omega, by omega, by omega⟩, HO, HB1⟩
   case round =>
    clear HO HB1; obtain ⟨x, rfl, HP, HO, HB⟩ := hrel
    have p1 := HP.out.1
    by_cases hlt : x < (xss.length : Int)
    ·obtain ⟨A, m, hc, hC⟩ := HX.out x p1 hlt
     have hc' := cl HB.out hc
     have ht := take_flat xss x p1 hlt
     have hf2 := flat_le xss (x + 1).toNat
     rw [ht, List.length_append] at hf2
     have HF2 := aM hf2; have HT := aM ht; have HCC := aM (frz_of hC); clear hc hC ht hf2; generalize xss.getD x.toNat [] = ys at hc' HF2 HT HCC
     go_wp2_with ((with_reducible refine gate_builtin (b := .append) (xs := #[.tmp 31, .tmp 32]) rfl ?_); refine Kd.R_append_rows (frzK k34 w) (w0 := w) w.heap.size rfl (.tmp 31) (.tmp 32) 23 34 (.agg #[.slice none 0 0, .slice none 0 0, .int .i64 0]) 56 rfl Try.underlying23 info34 rfl (show 0 < 3 by decide) (by omega) _ (xss.take x.toNat).flatten ys _ _ _ (fun _ => True) (fun _ => False) rfl rfl ?aO ?aR (fun _ _ h => h) (fun _ h => h.elim) ?aF ?aB ?aS ?aL ?_; (case aR => exact Kd.C_below HCC.out HB.out); (case aB => exact HB.out); (case aF => exact (fun _ _ => trivial)); (case aO => exact HO.out); (case aS => exact HB.out.size); (case aL => have := HL.out; have := HF2.out; omega); intro v2 w2 ho hb hg_ hat_; clear hg_ hat_; rw [← HT.out] at ho; have HO2 := aM ho; have HB2 := aM hb; clear ho hb)
     go_roundg (xss.length - (x.toNat + 1))
     case measure => have := HP.out; omega
     case rel => exact ⟨x + 1, by go_num, ⟨by have := HP.out; omega, by have := HP.out; omega, by have := HP.out; omega⟩, HO2, HB2⟩
    ·have hx9 : x = xss.length := by have := HP.out; omega
     subst hx9; rw [show ((xss.length : Nat) : Int).toNat = xss.length from by omega, List.take_length, HZS.out] at HO
     obtain ⟨A, m, rfl, hm, hC⟩ := Kd.R_reads HO.out
     have HC := aM hC; have HM := aM hm; clear hC hm HO HL p1 HP; go_wp2
     go_ret
     exact ⟨_, _, rfl, frz_to HC.out HB.out, HM.out, HB.out⟩
end Go.Proofs.Ytcpaplcnebdocaa.QFnRowFits
-- shorter
