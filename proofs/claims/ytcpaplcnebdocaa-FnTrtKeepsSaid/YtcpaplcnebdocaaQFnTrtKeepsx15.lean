/- Plain functions, and that the Go code computes them: written by a program of this session over the seat's translation; the conditions stand in each theorem. -/
import Derived.Test.YtcpaplcnebdocaaHW4
import Derived.Test.YtcpaplcnebdocaaQFnTrtKeepsx0
import Derived.Test.YtcpaplcnebdocaaQFnTrtKeepsx1
import Derived.Test.YtcpaplcnebdocaaQFnTrtKeepsx11
import Derived.Test.YtcpaplcnebdocaaQFnTrtKeepsx14
namespace Go.Proofs.Ytcpaplcnebdocaa.QFnTrtKeeps
open Go.RowKit Go.Proofs.YtcpaplcnebdocaaW.PrintWords Go.Proofs.YtcpaplcnebdocaaW.PrintLast Go.Proofs.YtcpaplcnebdocaaW.PrintMore Go.Proofs.Ytcpaplcnebdocaa.HWords
open Value (ownBlock)
attribute [local go_sem] max2_int min2_int max_two min_two max_three min_three max_four min_four   -- for this text's walks alone
set_option maxRecDepth 100000
set_option maxHeartbeats 8000000
set_option linter.unusedVariables false
set_option linter.unusedSimpArgs false
/-! ### spec_l20Acts: function 47 -/
def spec_l20Acts.l0 : Nat → List (List (S100)) → Int → List Int → Int → Option ((List (List (S100))) × Int)
 | 0, _, _, _, _ => none
 | k + 1, x3, x4, x1000, x1001 => if x4 > 0 then ((spec_l20Act.f k x1000 x1001).bind fun bt744 => (if x3.length < 5864062014805 then (spec_l20Acts.l0 k (x3 ++ [bt744.1]) (wrap64 (x4 - 1)) x1000 bt744.2) else (none))) else (some (x3, x1001))
def spec_l20Acts.f (k : Nat) (s0_0 : List Int) (s0_1 : Int) : Option ((List (List (S100))) × Int) := (spec_l20Rd_pick.f k s0_0 s0_1 4).bind fun bt742 => (spec_l20Acts.l0 k (([] : List (List (S100)))) (wrap64 (1 + bt742.1)) s0_0 bt742.2)
theorem spec_l20Acts.calls (k : Nat) (g : Nat) (s0_0 : List Int) (s0_1 : Int) (r1 : List (List (S100))) (r2 : Int) (w0 w : World) (hI : IsS79 w0 w g s0_0 s0_1) (hB : Below w0.heap.size w0 w) (h : spec_l20Acts.f k s0_0 s0_1 = some (r1, r2)) :
  Calls Try.prog 47 #[.pointer (some ⟨g, 0, none⟩)] w fun e w' => ∃ v0_ : Value, e = .returned (v0_) ∧ Kd.N (Kd.slice 100 k100) 82 w' w.heap.size (fun k_ => (w.heap.size ≤ k_)) v0_ r1 ∧ IsS79 w0 w' g s0_0 r2 ∧ Below w0.heap.size w0 w' ∧ KeepBut w w' g none := by
 have HI0 := aM hI; have IHI0 : Nonempty _ := ⟨IsS79.ge hI⟩
 have HK := aM (KeepBut.refl w g none); have HL := aM hB.size
 clear hI; have HW0 := aM hB.size
 have HB := aM hB; clear hB; have H : ((spec_l20Rd_pick.f k s0_0 s0_1 4).bind fun bt742 => (spec_l20Acts.l0 k (([] : List (List (S100)))) (wrap64 (1 + bt742.1)) s0_0 bt742.2)) = some (r1, r2) := h
 clear h; obtain ⟨y739, hy739⟩ : ∃ y_ : List (List (S100)), y_ = (([] : List (List (S100)))) := ⟨_, rfl⟩
 replace H : ((spec_l20Rd_pick.f k s0_0 s0_1 4).bind fun bt742 => (spec_l20Acts.l0 k y739 (wrap64 (1 + bt742.1)) s0_0 bt742.2)) = some (r1, r2) := by first | (rw [hy739]; exact H) | exact H
 have Ny739 := aM hy739; clear hy739; obtain ⟨⟨t742, t743⟩, A2, H⟩ := bS H
 try dsimp only at H
 have H' := aM H
 clear H; go_enter Try.func47, Try.ntmps47
 go_wp2_with (first | ((with_reducible refine gate_dst (N := 5) rfl ?_); refine Kd.N_lit (Kd.slice 100 k100) _ 82 ?hg (N' := 5) ?hd (xs := ([] : List (List (S100)))) (inner := []) (ok := (fun k_ => (w.heap.size ≤ k_) ∧ k_ ≠ g)) (okp := (fun k_ => (w.heap.size ≤ k_) ∧ k_ ≠ g)) ?hr ?hp (fun _ hk => hk) ((show ∀ k_, w.heap.size ≤ k_ → (fun k_ => (w.heap.size ≤ k_) ∧ k_ ≠ g) k_ from fun k_ hk => ⟨(Nat.le_trans (ks HK.out) hk), IsS79.fresh (by exact IsS79.j HI0.out) k_ hk⟩) _ (Nat.le_refl _)) (Below.refl _ _) (Nat.le_refl _) (by simp) ?_; (case hd => rfl); (case hg => rfl); (case hr => first | (go_simp; done) | (go_simp; rfl)); (case hp => exact (Reps.none _ _)); intro v740 w3 ho4 hb hg_ hnew_; clear hg_ hnew_; (first | rw [← Ny739.out] at ho4 | (simp only [Int.reduceToNat] at ho4; rw [← Ny739.out] at ho4)); have HO741 := aM (Kd.N_lower ho4 (ks HK.out)); replace HI0 := aM (IsS79.below (by exact IsS79.j HI0.out) hb); replace HK := aM (kbl HK.out hb); replace HB := aM (bj HB.out hb); clear hb ho4) | (refine gL (some 7) Try.func48 #[.pointer (some ⟨g, 0, none⟩), .int .i64 4] ?_; (with_reducible refine (spec_l20Rd_pick.calls k g s0_0 s0_1 4 t742 t743 w0 _ (by exact IsS79.j HI0.out) (by exact jB HB.out) A2.out).mono ?_); rintro e w5 ⟨rfl, hi, hb, hk⟩; refine ⟨_, rfl, ?_⟩; replace HO741 := aM (Kd.N_mono (Kd.N_keep (Kd.N_mono (ok := fun k_ => (((w.heap.size ≤ k_)) ∧ k_ ≠ g)) (by exact lN <| HO741.out) (fun k_ hk_ => (⟨hk_, hk_.2⟩ : _ ∧ k_ ≠ g))) hk (fun _ h => h.2)) (fun _ h => h.1)); replace HK := aM (kt HK.out hk); replace HB := aM (hb); replace HI0 := aM (hi); (try clear hb hk hi)))
 go_loopg [3, 4] k (fun kq v3 v4 w' => ∃ (x3_1 : List (List (S100))) (x4_1 : Int) (x1001_1 : Int), v4 = .int .i64 x4_1 ∧ Aside0 (spec_l20Acts.l0 kq x3_1 x4_1 s0_0 x1001_1 = some (r1, r2)) ∧ Aside0 (kq ≤ k) ∧ Aside0 (Kd.N (Kd.slice 100 k100) 82 w' w.heap.size (fun k_ => (w.heap.size ≤ k_) ∧ k_ ≠ g) v3 x3_1) ∧ Aside0 (IsS79 w0 w' g s0_0 x1001_1) ∧ Aside0 (KeepBut w w' g none) ∧ Aside0 (Below w0.heap.size w0 w'))
 case atStart => exact ⟨(y739), (wrap64 (1 + t742)), (t743), sr, H', ⟨Nat.le_refl _⟩, ⟨by exact lN <| HO741.out⟩, ⟨by exact IsS79.j HI0.out⟩, ⟨by exact jK HK.out⟩, ⟨by exact jB HB.out⟩⟩
 case round =>
  clear H'
  (try clear p2); (try clear c4)
  obtain ⟨x3_1, x4_1, x1001_1, rfl, HA, HK1, HO_3, HI0, HK, HB⟩ := hrel
  cases gk with
  | zero => exact absurd HA.out (by simp [spec_l20Acts.l0])
  | succ k1 =>
   have H := HA.out
   clear HA; simp only [spec_l20Acts.l0] at H
   by_cases c6 : x4_1 > 0
   ·rw [if_pos c6] at H; replace c6 := decide_eq_true c6; obtain ⟨⟨t744, t747⟩, A7, H⟩ := bS H
    try dsimp only at H
    obtain ⟨c8, H⟩ := iN H; have LMc8 := aM c8; clear c8; obtain ⟨y748, Ny748⟩ : ∃ y_ : List (List (S100)), Aside0 (y_ = (x3_1 ++ [t744])) := ⟨_, ⟨rfl⟩⟩
    try rw [← Ny748.out] at H
    try dsimp only [Option.bind_some] at H
    have H' := aM H
    clear H; go_wp2_with (first | (refine gL (some 15) Try.func63 #[.pointer (some ⟨g, 0, none⟩)] ?_; (with_reducible refine (spec_l20Act.calls k1 g s0_0 x1001_1 t744 t747 w0 _ (by exact IsS79.j HI0.out) (by exact jB HB.out) A7.out).mono ?_); rintro e w9 ⟨v745, rfl, ho0, hi, hb, hk⟩; refine ⟨_, rfl, ?_⟩; have HO746 := aM (Kd.N_lower (Kd.N_mono (ok' := fun k_ => (w.heap.size ≤ k_) ∧ some k_ ≠ (u3 : Value).ownBlock ∧ k_ ≠ g) ho0 (fun k_ hk_ => ⟨(Nat.le_trans (ks HK.out) hk_), (Kd.fresh' (Kd.N_lt (by exact lN <| HO_3.out)) k_ hk_), (IsS79.fresh (by exact IsS79.j HI0.out) k_ hk_)⟩)) (ks HK.out)); replace HO_3 := aM (Kd.N_mono (Kd.N_told (Kd.N_oldK (Kd.N_mono (ok := fun k_ => (((w.heap.size ≤ k_)) ∧ k_ ≠ g)) (by exact lN <| HO_3.out) (fun k_ hk_ => (⟨hk_, hk_.2⟩ : _ ∧ k_ ≠ g))) hk) (Kd.N_base ho0)) (fun _ h_ => h_.1)); replace HK := aM (kt HK.out hk); replace HB := aM (hb); replace HI0 := aM (hi); (try clear hb hk hi); (try clear ho0); obtain ⟨Ao11, co11, eo11⟩ := Kd.N_slice HO746.out; subst eo11) | ((with_reducible refine gate_builtin (b := .append) (xs := #[.tmp 13, .tmp 16]) rfl ?_); at_builtin; refine Kd.N_append (Kd.slice 100 k100) w.heap.size rfl (.tmp 13) (.tmp 16) 68 82 (.slice none 0 0) 24 rfl Try.underlying68 info82 rfl (by decide) (by omega) u3 x3_1 t744 [.slice Ao11 t744.length co11] (fun k_ => (w.heap.size ≤ k_) ∧ k_ ≠ g) (fun k_ => ((fun k_ => (w.heap.size ≤ k_) ∧ k_ ≠ g)) k_ ∧ some k_ ≠ (u3 : Value).ownBlock) rfl rfl ?aP (fun _ hk => hk) ?aF ?aO (Below.refl _ _) ?aS ?aL ?_; (case aP => exact (Kd.FK_slice_mk (Kd.N_reads' (Kd.N_mono (ok' := (fun k_ => ((fun k_ => (w.heap.size ≤ k_) ∧ k_ ≠ g)) k_ ∧ some k_ ≠ (u3 : Value).ownBlock)) (HO746.out) (fun k_ hk => ⟨⟨hk.1, hk.2.2⟩, hk.2.1⟩))).2.1 (Kd.N_F (Kd.N_mono (ok' := (fun k_ => ((fun k_ => (w.heap.size ≤ k_) ∧ k_ ≠ g)) k_ ∧ some k_ ≠ (u3 : Value).ownBlock)) (HO746.out) (fun k_ hk => ⟨⟨hk.1, hk.2.2⟩, hk.2.1⟩))))); (case aF => exact (fun k_ hk => ⟨(Nat.le_trans (ks HK.out) hk), IsS79.fresh (by exact IsS79.j HI0.out) k_ hk⟩)); (case aO => exact (by exact lN <| Kd.N_mono HO_3.out (fun _ hk => ⟨hk.1.1, hk.1.2⟩))); (case aS => exact (ks HK.out)); (case aL => have := LMc8.out; omega); intro v749 w10 ho hb hg hat; rw [← Ny748.out] at ho; replace HI0 := aM (IsS79.grown (by exact IsS79.j HI0.out) hg (IsS79.own_neN HI0.out HO_3.out (by decide))); replace HB := aM (below_weaken (by exact jB HB.out) HL.out hb); replace HK := aM (KeepBut.trans (by exact jK HK.out) (KeepBut.of_grown hg g) (Kd.N_base2 HO_3.out)); have HO750 := aM (ho); clear HO_3 HO746 ho hb hg hat))
    go_roundg k1
    case measure => have := HK1.out; omega
    case rel => exact ⟨(y748), (wrap64 (x4_1 - 1)), (t747), sr, H', ⟨by have := HK1.out; omega⟩, ⟨by exact lN <| HO750.out⟩, ⟨by exact IsS79.j HI0.out⟩, ⟨by exact jK HK.out⟩, ⟨by exact jB HB.out⟩⟩
   ·rw [if_neg c6] at H; replace c6 := decide_eq_false c6; simp only [Option.some.injEq, Prod.mk.injEq] at H
    obtain ⟨rfl, rfl⟩ := H
    go_wp2
    go_ret
    exact ⟨_, er, by exact lN <| Kd.N_mono HO_3.out (fun _ hk => hk.1), by exact IsS79.j HI0.out, by exact jB HB.out, by exact jK HK.out⟩
/-! ### spec_l20Vals: function 27 -/
def spec_l20Vals.l0 : Nat → Int → List Int → Int → List Int → Int → Option (List Int × Int)
 | 0, _, _, _, _, _ => none
 | k + 1, x1, x5, x6, x1000, x1001 => if x6 < 3 then ((some (([0, 1, 5, 20, (-3), 60, 10000, (-10000), 9996] : List Int) : List Int)).bind fun y754 => ((spec_l20Rd_pick.f k x1000 x1001 9).bind fun bt757 => (if 0 ≤ bt757.1 then (if bt757.1 < (y754.length : Int) then (if x5.length < 17592186044416 then (spec_l20Vals.l0 k x1 (x5 ++ [rd y754 bt757.1]) (wrap64 (x6 + 1)) x1000 bt757.2) else (none)) else (none)) else (none)))) else ((spec_l20Rd_pick.f k x1000 x1001 x1).bind fun bt763 => (if bt763.1 = 0 then ((spec_l20Rd_pick.f k x1000 bt763.2 3).bind fun bt765 => (if bt765.1 = 0 then (if 2 ≤ (x5.length : Int) then (some ((x5.take (2 : Int).toNat), bt765.2)) else (none)) else (if bt765.1 = 1 then (if x5.length < 17592186044416 then (some ((x5 ++ [0]), bt765.2)) else (none)) else ((spec_l20Rd_pick.f k x1000 bt765.2 3).bind fun bt773 => ((some (([10001, (-10001)] : List Int) : List Int)).bind fun y775 => ((spec_l20Rd_pick.f k x1000 bt773.2 2).bind fun bt778 => (if 0 ≤ bt778.1 then (if bt778.1 < (y775.length : Int) then (if 0 ≤ bt773.1 then (if bt773.1 < (x5.length : Int) then (some ((x5.set (bt773.1 : Int).toNat (rd y775 bt778.1)), bt778.2)) else (none)) else (none)) else (none)) else (none)))))))) else (some (x5, bt763.2))))
def spec_l20Vals.f (k : Nat) (s0_0 : List Int) (s0_1 : Int) (a1 : Int) : Option (List Int × Int) := spec_l20Vals.l0 k a1 (([] : List Int)) 0 s0_0 s0_1
theorem spec_l20Vals.calls (k : Nat) (g : Nat) (s0_0 : List Int) (s0_1 : Int) (a1 : Int) (r1 : List Int) (r2 : Int) (w0 w : World) (hI : IsS79 w0 w g s0_0 s0_1) (hB : Below w0.heap.size w0 w) (h : spec_l20Vals.f k s0_0 s0_1 a1 = some (r1, r2)) :
  Calls Try.prog 27 #[.pointer (some ⟨g, 0, none⟩), .int .i64 a1] w fun e w' => ∃ v0_ : Value, e = .returned (v0_) ∧ Kd.R (Kd.int .i64) 3 w' w.heap.size (fun _ => True) v0_ r1 ∧ IsS79 w0 w' g s0_0 r2 ∧ Below w0.heap.size w0 w' ∧ KeepBut w w' g none := by
 have HI0 := aM hI; have IHI0 : Nonempty _ := ⟨IsS79.ge hI⟩
 have HK := aM (KeepBut.refl w g none); have HL := aM hB.size
 clear hI; have HW0 := aM hB.size
 have HB := aM hB; clear hB; have H : (spec_l20Vals.l0 k a1 (([] : List Int)) 0 s0_0 s0_1) = some (r1, r2) := h
 clear h; obtain ⟨y751, hy751⟩ : ∃ y_ : List Int, y_ = (([] : List Int)) := ⟨_, rfl⟩
 replace H : (spec_l20Vals.l0 k a1 y751 0 s0_0 s0_1) = some (r1, r2) := by first | (rw [hy751]; exact H) | exact H
 have Ny751 := aM hy751; clear hy751; have H' := aM H
 clear H; go_enter Try.func27, Try.ntmps27
 go_wp2_with (first | ((with_reducible refine gate_dst (N := 7) rfl ?_); refine Kd.R_lit (Kd.int .i64) _ 3 ?hg (N := 7) ?hd (xs := ([] : List Int)) (inner := []) (ok := fun _ => True) (okp := fun _ => True) ?hr ?hp (fun _ hk => hk) trivial (Below.refl _ _) (Nat.le_refl _) (by simp) ?_; (case hd => rfl); (case hg => rfl); (case hr => first | (go_simp; done) | (go_simp; rfl)); (case hp => exact (Reps.none _ _)); intro v752 w3 ho4 hb hg_ hnew_; clear hg_ hnew_; (first | rw [← Ny751.out] at ho4 | (simp only [Int.reduceToNat] at ho4; rw [← Ny751.out] at ho4)); have HO753 := aM (lw ho4 HK.out); replace HI0 := aM (IsS79.below (by exact IsS79.j HI0.out) hb); replace HK := aM (kbl HK.out hb); replace HB := aM (bj HB.out hb); clear hb ho4))
 go_loopg [5, 6] k (fun kq v5 v6 w' => ∃ (x5_1 : List Int) (x6_1 : Int) (x1001_1 : Int), v6 = .int .i64 x6_1 ∧ Aside0 (spec_l20Vals.l0 kq a1 x5_1 x6_1 s0_0 x1001_1 = some (r1, r2)) ∧ Aside0 (kq ≤ k) ∧ Aside0 (Kd.R (Kd.int .i64) 3 w' w.heap.size (fun _ => True) v5 x5_1) ∧ Aside0 (IsS79 w0 w' g s0_0 x1001_1) ∧ Aside0 (KeepBut w w' g none) ∧ Aside0 (Below w0.heap.size w0 w'))
 case atStart => exact ⟨(y751), (0), (s0_1), sr, H', ⟨Nat.le_refl _⟩, ⟨by exact lR <| HO753.out⟩, ⟨by exact IsS79.j HI0.out⟩, ⟨by exact jK HK.out⟩, ⟨by exact jB HB.out⟩⟩
 case round =>
  clear H'
  (try clear c2); (try clear p2)
  obtain ⟨x5_1, x6_1, x1001_1, rfl, HA, HK1, HO_5, HI0, HK, HB⟩ := hrel
  cases gk with
  | zero => exact absurd HA.out (by simp [spec_l20Vals.l0])
  | succ k1 =>
   have H := HA.out
   clear HA; simp only [spec_l20Vals.l0] at H
   by_cases c5 : x6_1 < 3
   ·rw [if_pos c5] at H; replace c5 := decide_eq_true c5; obtain ⟨y754, Ny754⟩ : ∃ y_ : List Int, Aside0 (y_ = (([0, 1, 5, 20, (-3), 60, 10000, (-10000), 9996] : List Int))) := ⟨_, ⟨rfl⟩⟩
    try rw [← Ny754.out] at H
    try dsimp only [Option.bind_some] at H
    obtain ⟨⟨t757, t758⟩, A6, H⟩ := bS H
    try dsimp only at H
    obtain ⟨c7, H⟩ := iD H; obtain ⟨c8, H⟩ := iD H; obtain ⟨c9, H⟩ := iN H; have LMc9 := aM c9; clear c9; obtain ⟨y760, Ny760⟩ : ∃ y_ : List Int, Aside0 (y_ = (x5_1 ++ [rd y754 t757])) := ⟨_, ⟨rfl⟩⟩
    try rw [← Ny760.out] at H
    try dsimp only [Option.bind_some] at H
    have H' := aM H
    clear H; go_wp2_with (first | ((with_reducible refine gate_dst (N := 13) rfl ?_); refine Kd.R_lit (Kd.int .i64) _ 3 ?hg (N := 13) ?hd (xs := ([0, 1, 5, 20, (-3), 60, 10000, (-10000), 9996] : List Int)) (inner := [.int .i64 0, .int .i64 1, .int .i64 5, .int .i64 20, .int .i64 (-3), .int .i64 60, .int .i64 10000, .int .i64 (-10000), .int .i64 9996]) (ok := fun _ => True) (okp := fun _ => True) ?hr ?hp (fun _ hk => hk) trivial (Below.refl _ _) (Nat.le_refl _) (by simp) ?_; (case hd => rfl); (case hg => rfl); (case hr => first | (go_simp; done) | (go_simp; rfl)); (case hp => exact (Reps.one (show Kd.M (Kd.int .i64) _ _ _ 0 [.int .i64 0] from rfl) (Reps.one (show Kd.M (Kd.int .i64) _ _ _ 1 [.int .i64 1] from rfl) (Reps.one (show Kd.M (Kd.int .i64) _ _ _ 5 [.int .i64 5] from rfl) (Reps.one (show Kd.M (Kd.int .i64) _ _ _ 20 [.int .i64 20] from rfl) (Reps.one (show Kd.M (Kd.int .i64) _ _ _ (-3) [.int .i64 (-3)] from rfl) (Reps.one (show Kd.M (Kd.int .i64) _ _ _ 60 [.int .i64 60] from rfl) (Reps.one (show Kd.M (Kd.int .i64) _ _ _ 10000 [.int .i64 10000] from rfl) (Reps.one (show Kd.M (Kd.int .i64) _ _ _ (-10000) [.int .i64 (-10000)] from rfl) (Reps.one (show Kd.M (Kd.int .i64) _ _ _ 9996 [.int .i64 9996] from rfl) (Reps.none _ _))))))))))); intro v755 w10 ho11 hb hg_ hnew_; clear hg_ hnew_; (first | rw [← Ny754.out] at ho11 | (simp only [Int.reduceToNat] at ho11; rw [← Ny754.out] at ho11)); have HO756 := aM (Kd.R_lower (Kd.R_new' ho11 (rl HO_5.out)) (ks HK.out)); replace HO_5 := aM (Kd.R_elder' (by exact lR HO_5.out) (Kd.R_base ho11) hb); replace HI0 := aM (IsS79.below (by exact IsS79.j HI0.out) hb); replace HK := aM (kbl HK.out hb); replace HB := aM (bj HB.out hb); clear hb ho11) | (refine gL (some 15) Try.func48 #[.pointer (some ⟨g, 0, none⟩), .int .i64 9] ?_; (with_reducible refine (spec_l20Rd_pick.calls k1 g s0_0 x1001_1 9 t757 t758 w0 _ (by exact IsS79.j HI0.out) (by exact jB HB.out) A6.out).mono ?_); rintro e w12 ⟨rfl, hi, hb, hk⟩; refine ⟨_, rfl, ?_⟩; replace HO_5 := aM (IsS79.kp (f1 := x1001_1) (by exact IsS79.j HI0.out) (lR HO_5.out) hk); replace HO756 := aM (IsS79.kp (f1 := x1001_1) (by exact IsS79.j HI0.out) (lR HO756.out) hk); replace HK := aM (kt HK.out hk); replace HB := aM (hb); replace HI0 := aM (hi); (try clear hb hk hi); obtain ⟨Ao13, co13, rfl⟩ := Kd.R_slice HO756.out; have p759 : 0 ≤ (t757 : Int) := od; have q759 : t757 < (y754.length : Int) := od; obtain ⟨ad759, e759, hx759_0⟩ := Kd.at_int (Kd.R_reads' HO756.out).2.2 t757 p759 q759; cases e759; replace p759 := eq_true p759; replace q759 := eq_true q759) | ((with_reducible refine gate_builtin (b := .append) (xs := #[.tmp 12, .tmp 18]) rfl ?_); at_builtin; refine Kd.R_append (Kd.int .i64) w.heap.size rfl (.tmp 12) (.tmp 18) 26 3 (.int .i64 0) 8 rfl Try.underlying26 info3 rfl (by decide) (by omega) u5 x5_1 (rd y754 t757) [.int .i64 (rd y754 t757)] (fun k_ => some k_ ≠ ownBlock (.slice (some ad759) y754.length co13)) (fun _ => False) rfl rfl ?aP (fun _ hk => hk.elim) ?aF ?aO (Below.refl _ _) ?aS ?aL ?_; (case aP => exact rfl); (case aF => exact (fun k_ hk => Kd.fresh' (rl HO756.out) k_ hk)); (case aO => exact (by exact lR <| Kd.R_mono HO_5.out (fun _ hk => hk.2))); (case aS => exact (ks HK.out)); (case aL => have := LMc9.out; omega); intro v761 w14 ho hb hg hat; rw [← Ny760.out] at ho; replace HI0 := aM (IsS79.grown (by exact IsS79.j HI0.out) hg (IsS79.own_ne HI0.out HO_5.out (by decide))); replace HO756 := aM (Kd.R_after (ok := (fun _ => True)) (by exact lR HO756.out) hg hat); replace HB := aM (below_weaken (by exact jB HB.out) HL.out hb); replace HK := aM (KeepBut.trans (by exact jK HK.out) (KeepBut.of_grown hg g) (Kd.R_base2 HO_5.out)); have HO762 := aM (ho); clear HO_5 ho hb hg hat))
    go_roundg k1
    case measure => have := HK1.out; omega
    case rel => exact ⟨(y760), (wrap64 (x6_1 + 1)), (t758), sr, H', ⟨by have := HK1.out; omega⟩, ⟨by exact lR <| Kd.R_mono HO762.out (fun _ hk => trivial)⟩, ⟨by exact IsS79.j HI0.out⟩, ⟨by exact jK HK.out⟩, ⟨by exact jB HB.out⟩⟩
   ·rw [if_neg c5] at H; replace c5 := decide_eq_false c5; obtain ⟨⟨t763, t764⟩, A15, H⟩ := bS H
    try dsimp only at H
    by_cases c16 : t763 = 0
    ·rw [if_pos c16] at H; have c16b0 := beq_iff_eq.mpr c16
     have c16b1 := bne_eq_false_iff_eq.mpr c16
     clear c16; obtain ⟨⟨t765, t766⟩, A17, H⟩ := bS H
     try dsimp only at H
     by_cases c18 : t765 = 0
     ·rw [if_pos c18] at H; have c18b0 := beq_iff_eq.mpr c18
      have c18b1 := bne_eq_false_iff_eq.mpr c18
      clear c18; obtain ⟨c19, H⟩ := iN H; have c19b0 := eq_true c19
      have c19b1 := decide_eq_true c19
      clear c19; obtain ⟨y767, Ny767⟩ : ∃ y_ : List Int, Aside0 (y_ = (x5_1.take (2 : Int).toNat)) := ⟨_, ⟨rfl⟩⟩
      try rw [← Ny767.out] at H
      try dsimp only [Option.bind_some] at H
      simp only [Option.some.injEq, Prod.mk.injEq] at H
      obtain ⟨rfl, rfl⟩ := H
      go_wp2_with (first | (refine gL (some 22) Try.func48 #[.pointer (some ⟨g, 0, none⟩), .int .i64 a1] ?_; (with_reducible refine (spec_l20Rd_pick.calls k1 g s0_0 x1001_1 a1 t763 t764 w0 _ (by exact IsS79.j HI0.out) (by exact jB HB.out) A15.out).mono ?_); rintro e w20 ⟨rfl, hi, hb, hk⟩; refine ⟨_, rfl, ?_⟩; replace HO_5 := aM (IsS79.kp (f1 := x1001_1) (by exact IsS79.j HI0.out) (lR HO_5.out) hk); replace HK := aM (kt HK.out hk); replace HB := aM (hb); replace HI0 := aM (hi); (try clear hb hk hi)) | (refine gL (some 25) Try.func48 #[.pointer (some ⟨g, 0, none⟩), .int .i64 3] ?_; (with_reducible refine (spec_l20Rd_pick.calls k1 g s0_0 t764 3 t765 t766 w0 _ (by exact IsS79.j HI0.out) (by exact jB HB.out) A17.out).mono ?_); rintro e w21 ⟨rfl, hi, hb, hk⟩; refine ⟨_, rfl, ?_⟩; replace HO_5 := aM (IsS79.kp (f1 := t764) (by exact IsS79.j HI0.out) (lR HO_5.out) hk); replace HK := aM (kt HK.out hk); replace HB := aM (hb); replace HI0 := aM (hi); (try clear hb hk hi); obtain ⟨Ao22, co22, rfl⟩ := Kd.R_slice HO_5.out; have q23 : (2 : Int) ≤ ((x5_1.length : Int) : Int) := od; obtain ⟨i023, hi023, _, hsz23, _⟩ := info_parts info3; have hcut23 := cut_to (P := Try.prog) 26 3 .i64 Try.underlying26 hi023 Ao22 x5_1.length co22 2 (by omega) q23 (Kd.R_reads' HO_5.out).2.1; have hr23 := Kd.R_take (m := (2 : Int).toNat) HO_5.out (by omega); have hy23 : y767.length = (2 : Int).toNat := (by rw [Ny767.out, List.length_take]; omega); rw [← Ny767.out] at hr23; rw [← hy23] at hr23 hcut23; clear hy23 hi023 hsz23 HO_5; have HO769 := aM hr23; clear hr23; replace q23 := eq_true q23))
      go_ret
      exact ⟨_, er, by exact lR <| HO769.out, by exact IsS79.j HI0.out, by exact jB HB.out, by exact jK HK.out⟩
     ·rw [if_neg c18] at H; have c18b0 := beq_eq_false_iff_ne.mpr c18
      have c18b1 := bne_iff_ne.mpr c18
      by_cases c24 : t765 = 1
      ·rw [if_pos c24] at H; have c24b0 := beq_iff_eq.mpr c24
       have c24b1 := bne_eq_false_iff_eq.mpr c24
       clear c24; obtain ⟨c25, H⟩ := iN H; have LMc25 := aM c25; clear c25; obtain ⟨y770, Ny770⟩ : ∃ y_ : List Int, Aside0 (y_ = (x5_1 ++ [0])) := ⟨_, ⟨rfl⟩⟩
       try rw [← Ny770.out] at H
       try dsimp only [Option.bind_some] at H
       simp only [Option.some.injEq, Prod.mk.injEq] at H
       obtain ⟨rfl, rfl⟩ := H
       go_wp2_with (first | (refine gL (some 22) Try.func48 #[.pointer (some ⟨g, 0, none⟩), .int .i64 a1] ?_; (with_reducible refine (spec_l20Rd_pick.calls k1 g s0_0 x1001_1 a1 t763 t764 w0 _ (by exact IsS79.j HI0.out) (by exact jB HB.out) A15.out).mono ?_); rintro e w26 ⟨rfl, hi, hb, hk⟩; refine ⟨_, rfl, ?_⟩; replace HO_5 := aM (IsS79.kp (f1 := x1001_1) (by exact IsS79.j HI0.out) (lR HO_5.out) hk); replace HK := aM (kt HK.out hk); replace HB := aM (hb); replace HI0 := aM (hi); (try clear hb hk hi)) | (refine gL (some 25) Try.func48 #[.pointer (some ⟨g, 0, none⟩), .int .i64 3] ?_; (with_reducible refine (spec_l20Rd_pick.calls k1 g s0_0 t764 3 t765 t766 w0 _ (by exact IsS79.j HI0.out) (by exact jB HB.out) A17.out).mono ?_); rintro e w27 ⟨rfl, hi, hb, hk⟩; refine ⟨_, rfl, ?_⟩; replace HO_5 := aM (IsS79.kp (f1 := t764) (by exact IsS79.j HI0.out) (lR HO_5.out) hk); replace HK := aM (kt HK.out hk); replace HB := aM (hb); replace HI0 := aM (hi); (try clear hb hk hi)) | ((with_reducible refine gate_builtin (b := .append) (xs := #[.tmp 41, .tmp 42]) rfl ?_); at_builtin; refine Kd.R_append (Kd.int .i64) w.heap.size rfl (.tmp 41) (.tmp 42) 26 3 (.int .i64 0) 8 rfl Try.underlying26 info3 rfl (by decide) (by omega) u5 x5_1 0 [.int .i64 0] (fun _ => True) (fun _ => False) rfl rfl ?aP (fun _ hk => hk.elim) ?aF ?aO (Below.refl _ _) ?aS ?aL ?_; (case aP => exact rfl); (case aF => exact (fun _ _ => trivial)); (case aO => exact (by exact lR HO_5.out)); (case aS => exact (ks HK.out)); (case aL => have := LMc25.out; omega); intro v771 w28 ho hb hg hat; rw [← Ny770.out] at ho; replace HI0 := aM (IsS79.grown (by exact IsS79.j HI0.out) hg (IsS79.own_ne HI0.out HO_5.out (by decide))); replace HB := aM (below_weaken (by exact jB HB.out) HL.out hb); replace HK := aM (KeepBut.trans (by exact jK HK.out) (KeepBut.of_grown hg g) (Kd.R_base2 HO_5.out)); have HO772 := aM (ho); clear HO_5 ho hb hg hat))
       go_ret
       exact ⟨_, er, by exact lR <| HO772.out, by exact IsS79.j HI0.out, by exact jB HB.out, by exact jK HK.out⟩
      ·rw [if_neg c24] at H; have c24b0 := beq_eq_false_iff_ne.mpr c24
       have c24b1 := bne_iff_ne.mpr c24
       obtain ⟨⟨t773, t774⟩, A29, H⟩ := bS H
       try dsimp only at H
       obtain ⟨y775, Ny775⟩ : ∃ y_ : List Int, Aside0 (y_ = (([10001, (-10001)] : List Int))) := ⟨_, ⟨rfl⟩⟩
       try rw [← Ny775.out] at H
       try dsimp only [Option.bind_some] at H
       obtain ⟨⟨t778, t779⟩, A30, H⟩ := bS H
       try dsimp only at H
       obtain ⟨c31, H⟩ := iD H; obtain ⟨c32, H⟩ := iD H; obtain ⟨c33, H⟩ := iD H; obtain ⟨c34, H⟩ := iD H; obtain ⟨y781, Ny781⟩ : ∃ y_ : List Int, Aside0 (y_ = (x5_1.set (t773 : Int).toNat (rd y775 t778))) := ⟨_, ⟨rfl⟩⟩
       try rw [← Ny781.out] at H
       try dsimp only [Option.bind_some] at H
       simp only [Option.some.injEq, Prod.mk.injEq] at H
       obtain ⟨rfl, rfl⟩ := H
       go_wp2_with (first | (refine gL (some 22) Try.func48 #[.pointer (some ⟨g, 0, none⟩), .int .i64 a1] ?_; (with_reducible refine (spec_l20Rd_pick.calls k1 g s0_0 x1001_1 a1 t763 t764 w0 _ (by exact IsS79.j HI0.out) (by exact jB HB.out) A15.out).mono ?_); rintro e w36 ⟨rfl, hi, hb, hk⟩; refine ⟨_, rfl, ?_⟩; replace HO_5 := aM (IsS79.kp (f1 := x1001_1) (by exact IsS79.j HI0.out) (lR HO_5.out) hk); replace HK := aM (kt HK.out hk); replace HB := aM (hb); replace HI0 := aM (hi); (try clear hb hk hi)) | (refine gL (some 25) Try.func48 #[.pointer (some ⟨g, 0, none⟩), .int .i64 3] ?_; (with_reducible refine (spec_l20Rd_pick.calls k1 g s0_0 t764 3 t765 t766 w0 _ (by exact IsS79.j HI0.out) (by exact jB HB.out) A17.out).mono ?_); rintro e w37 ⟨rfl, hi, hb, hk⟩; refine ⟨_, rfl, ?_⟩; replace HO_5 := aM (IsS79.kp (f1 := t764) (by exact IsS79.j HI0.out) (lR HO_5.out) hk); replace HK := aM (kt HK.out hk); replace HB := aM (hb); replace HI0 := aM (hi); (try clear hb hk hi)) | (refine gL (some 28) Try.func48 #[.pointer (some ⟨g, 0, none⟩), .int .i64 3] ?_; (with_reducible refine (spec_l20Rd_pick.calls k1 g s0_0 t766 3 t773 t774 w0 _ (by exact IsS79.j HI0.out) (by exact jB HB.out) A29.out).mono ?_); rintro e w38 ⟨rfl, hi, hb, hk⟩; refine ⟨_, rfl, ?_⟩; replace HO_5 := aM (IsS79.kp (f1 := t766) (by exact IsS79.j HI0.out) (lR HO_5.out) hk); replace HK := aM (kt HK.out hk); replace HB := aM (hb); replace HI0 := aM (hi); (try clear hb hk hi)) | ((with_reducible refine gate_dst (N := 29) rfl ?_); refine Kd.R_lit (Kd.int .i64) _ 3 ?hg (N := 29) ?hd (xs := ([10001, (-10001)] : List Int)) (inner := [.int .i64 10001, .int .i64 (-10001)]) (ok := fun _ => True) (okp := fun _ => True) ?hr ?hp (fun _ hk => hk) trivial (Below.refl _ _) (Nat.le_refl _) (by simp) ?_; (case hd => rfl); (case hg => rfl); (case hr => first | (go_simp; done) | (go_simp; rfl)); (case hp => exact (Reps.one (show Kd.M (Kd.int .i64) _ _ _ 10001 [.int .i64 10001] from rfl) (Reps.one (show Kd.M (Kd.int .i64) _ _ _ (-10001) [.int .i64 (-10001)] from rfl) (Reps.none _ _)))); intro v776 w39 ho40 hb hg_ hnew_; clear hg_ hnew_; (first | rw [← Ny775.out] at ho40 | (simp only [Int.reduceToNat] at ho40; rw [← Ny775.out] at ho40)); have HO777 := aM (Kd.R_lower (Kd.R_new' ho40 (rl HO_5.out)) (ks HK.out)); replace HO_5 := aM (Kd.R_elder' (by exact lR HO_5.out) (Kd.R_base ho40) hb); replace HI0 := aM (IsS79.below (by exact IsS79.j HI0.out) hb); replace HK := aM (kbl HK.out hb); replace HB := aM (bj HB.out hb); clear hb ho40) | (refine gL (some 31) Try.func48 #[.pointer (some ⟨g, 0, none⟩), .int .i64 2] ?_; (with_reducible refine (spec_l20Rd_pick.calls k1 g s0_0 t774 2 t778 t779 w0 _ (by exact IsS79.j HI0.out) (by exact jB HB.out) A30.out).mono ?_); rintro e w41 ⟨rfl, hi, hb, hk⟩; refine ⟨_, rfl, ?_⟩; replace HO_5 := aM (IsS79.kp (f1 := t774) (by exact IsS79.j HI0.out) (lR HO_5.out) hk); replace HO777 := aM (IsS79.kp (f1 := t774) (by exact IsS79.j HI0.out) (lR HO777.out) hk); replace HK := aM (kt HK.out hk); replace HB := aM (hb); replace HI0 := aM (hi); (try clear hb hk hi); obtain ⟨Ao42, co42, rfl⟩ := Kd.R_slice HO777.out; have p780 : 0 ≤ (t778 : Int) := od; have q780 : t778 < (y775.length : Int) := od; obtain ⟨ad780, e780, hx780_0⟩ := Kd.at_int (Kd.R_reads' HO777.out).2.2 t778 p780 q780; cases e780; replace p780 := eq_true p780; replace q780 := eq_true q780; have p35 : 0 ≤ (t773 : Int) := od; have q35 : (t773 : Int) < ((x5_1.length : Int) : Int) := od; obtain ⟨go35, co35, eo35, gb35, gl35, cl35, HG35⟩ := Kd.R_form HO_5.out (by omega); (first | cases eo35 | (injection eo35 with ea_ en_ ec_; (first | subst ea_ | (injection ea_ with ea_; subst ea_)); subst ec_; clear en_)); have GB35 := aM gb35; have IGB35 := wn GB35.out; have GG35 := aM HG35; clear gb35 gl35 HG35; obtain ⟨hx35_0, hf35_0⟩ := Kd.R_celln 0 HO_5.out (t773 : Int) p35 q35; replace p35 := eq_true p35; replace q35 := eq_true q35; replace HO_5 := aM (Kd.R_mono (ok' := (fun k_ => some k_ ≠ ownBlock (.slice (some ad780) y775.length co42))) HO_5.out (fun k_ hk => hk.2)); obtain ⟨hy43_, hz43_⟩ := Kd.R_celln 0 HO_5.out (t773 : Int) (of_decide_eq_true (by first | (with_reducible assumption) | assumption)) (of_decide_eq_true (by first | (with_reducible assumption) | assumption)); have HP43 := Kd.R_putg HO_5.out (t773 : Int) (rd y775 t778)) | ((with_reducible refine gate_store (t := 3) (p := 34) rfl ?_); refine store_event (t := 3) (p := 34) (v := ?vo_w44) (w1 := (w41.setCell ⟨go35, (t773 : Int).toNat, none⟩ (.int .i64 (rd y775 t778)))) ?hg ?ho ?hn ?hr ?_; (case ho => rfl); (case hg => rfl); (case hn => rfl); (case hr => first | (go_simp; done) | (go_simp; rfl)); intro w44 hw; have hg : w41.grownBy w44 (some go35) := (by rw [hw]; exact HP43.2); have hp_ : Kd.R (Kd.int .i64) 3 w44 w.heap.size (fun k_ => some k_ ≠ ownBlock (.slice (some ad780) y775.length co42)) (.slice (some ⟨go35, 0, none⟩) x5_1.length co35) y781 := (by rw [hw, Ny781.out]; exact HP43.1); clear HP43; replace HI0 := aM (IsS79.grown (by exact IsS79.j HI0.out) hg (IsS79.own_ne HI0.out HO_5.out (by decide))); replace HO777 := aM (Kd.R_after (v := (.slice (some ⟨go35, 0, none⟩) x5_1.length co35)) (v1 := (.slice (some ⟨go35, 0, none⟩) x5_1.length co35)) (ok := (fun _ => True)) (by exact lR HO777.out) hg (.inl rfl)); replace HB := aM ((by rw [hw]; exact below_set (HB.out) (Nat.le_trans HL.out GB35.out) : Below w0.heap.size w0 w44)); replace HK := aM (KeepBut.trans (by exact jK HK.out) (KeepBut.of_grown hg g) (Kd.R_base2 HO_5.out)); replace HO_5 := aM (hp_); clear hg hw hp_))
       go_ret
       exact ⟨_, er, by exact lR <| Kd.R_mono HO_5.out (fun _ hk => trivial), by exact IsS79.j HI0.out, by exact jB HB.out, by exact jK HK.out⟩
    ·rw [if_neg c16] at H; have c16b0 := beq_eq_false_iff_ne.mpr c16
     have c16b1 := bne_iff_ne.mpr c16
     simp only [Option.some.injEq, Prod.mk.injEq] at H
     obtain ⟨rfl, rfl⟩ := H
     go_wp2_with (first | (refine gL (some 22) Try.func48 #[.pointer (some ⟨g, 0, none⟩), .int .i64 a1] ?_; (with_reducible refine (spec_l20Rd_pick.calls k1 g s0_0 x1001_1 a1 t763 t764 w0 _ (by exact IsS79.j HI0.out) (by exact jB HB.out) A15.out).mono ?_); rintro e w45 ⟨rfl, hi, hb, hk⟩; refine ⟨_, rfl, ?_⟩; replace HO_5 := aM (IsS79.kp (f1 := x1001_1) (by exact IsS79.j HI0.out) (lR HO_5.out) hk); replace HK := aM (kt HK.out hk); replace HB := aM (hb); replace HI0 := aM (hi); (try clear hb hk hi)))
     go_ret
     exact ⟨_, er, by exact lR <| HO_5.out, by exact IsS79.j HI0.out, by exact jB HB.out, by exact jK HK.out⟩
end Go.Proofs.Ytcpaplcnebdocaa.QFnTrtKeeps
-- shorter
