/- Plain functions, and that the Go code computes them: written by a program of this session over the seat's translation; the conditions stand in each theorem. -/
import Derived.Test.YtcpaplcnebdocaaHW4
import Derived.Test.YtcpaplcnebdocaaQFnTrtKeepsx0
import Derived.Test.YtcpaplcnebdocaaQFnTrtKeepsx1
import Derived.Test.YtcpaplcnebdocaaQFnTrtKeepsx11
import Derived.Test.YtcpaplcnebdocaaQFnTrtKeepsx15
import Derived.Test.YtcpaplcnebdocaaQFnTrtKeepsx16
namespace Go.Proofs.Ytcpaplcnebdocaa.QFnTrtKeeps
open Go.RowKit Go.Proofs.YtcpaplcnebdocaaW.PrintWords Go.Proofs.YtcpaplcnebdocaaW.PrintLast Go.Proofs.YtcpaplcnebdocaaW.PrintMore Go.Proofs.Ytcpaplcnebdocaa.HWords
open Value (ownBlock)
attribute [local go_sem] max2_int min2_int max_two min_two max_three min_three max_four min_four   -- for this text's walks alone
set_option maxRecDepth 100000
set_option maxHeartbeats 8000000
set_option linter.unusedVariables false
set_option linter.unusedSimpArgs false
/-! ### spec_l20Added: function 50 -/
def spec_l20Added.f (k : Nat) (s0_0 : List Int) (s0_1 : Int) (a1 : Int) : Option (List Int × Int) := (spec_l20Rd_pick.f k s0_0 s0_1 9).bind fun bt817 => ((spec_l20Rd_pick.f k s0_0 bt817.2 9).bind fun bt819 => ((some (([0, 0, 1, (-2)] : List Int) : List Int)).bind fun y821 => ((spec_l20Rd_pick.f k s0_0 bt819.2 4).bind fun bt824 => (if 0 ≤ bt824.1 then (if bt824.1 < (y821.length : Int) then ((some (([wrap64 (bt817.1 - 4), wrap64 (bt819.1 - 4), rd y821 bt824.1] : List Int) : List Int)).bind fun y827 => ((spec_l20Rd_pick.f k s0_0 bt824.2 a1).bind fun bt830 => (if bt830.1 = 0 then ((spec_l20Rd_pick.f k s0_0 bt830.2 3).bind fun bt832 => (if bt832.1 = 0 then (if 2 ≤ (y827.length : Int) then (some ((y827.take (2 : Int).toNat), bt832.2)) else (none)) else (if bt832.1 = 1 then ((some (([20001, 60, (-60)] : List Int) : List Int)).bind fun y837 => ((spec_l20Rd_pick.f k s0_0 bt832.2 3).bind fun bt840 => (if 0 ≤ bt840.1 then (if bt840.1 < (y837.length : Int) then (if 0 < (y827.length : Int) then (some ((y827.set (0 : Int).toNat (rd y837 bt840.1)), bt840.2)) else (none)) else (none)) else (none)))) else (if y827.length < 17592186044416 then (some ((y827 ++ [0]), bt832.2)) else (none))))) else (some (y827, bt830.2))))) else (none)) else (none)))))
theorem spec_l20Added.calls (k : Nat) (g : Nat) (s0_0 : List Int) (s0_1 : Int) (a1 : Int) (r1 : List Int) (r2 : Int) (w0 w : World) (hI : IsS79 w0 w g s0_0 s0_1) (hB : Below w0.heap.size w0 w) (h : spec_l20Added.f k s0_0 s0_1 a1 = some (r1, r2)) :
  Calls Try.prog 50 #[.pointer (some ⟨g, 0, none⟩), .int .i64 a1] w fun e w' => ∃ v0_ : Value, e = .returned (v0_) ∧ Kd.R (Kd.int .i64) 3 w' w.heap.size (fun _ => True) v0_ r1 ∧ IsS79 w0 w' g s0_0 r2 ∧ Below w0.heap.size w0 w' ∧ KeepBut w w' g none := by
 have HI0 := aM hI; have IHI0 : Nonempty _ := ⟨IsS79.ge hI⟩
 have HK := aM (KeepBut.refl w g none); have HL := aM hB.size
 clear hI; have HW0 := aM hB.size
 have HB := aM hB; clear hB; have H : ((spec_l20Rd_pick.f k s0_0 s0_1 9).bind fun bt817 => ((spec_l20Rd_pick.f k s0_0 bt817.2 9).bind fun bt819 => ((some (([0, 0, 1, (-2)] : List Int) : List Int)).bind fun y821 => ((spec_l20Rd_pick.f k s0_0 bt819.2 4).bind fun bt824 => (if 0 ≤ bt824.1 then (if bt824.1 < (y821.length : Int) then ((some (([wrap64 (bt817.1 - 4), wrap64 (bt819.1 - 4), rd y821 bt824.1] : List Int) : List Int)).bind fun y827 => ((spec_l20Rd_pick.f k s0_0 bt824.2 a1).bind fun bt830 => (if bt830.1 = 0 then ((spec_l20Rd_pick.f k s0_0 bt830.2 3).bind fun bt832 => (if bt832.1 = 0 then (if 2 ≤ (y827.length : Int) then (some ((y827.take (2 : Int).toNat), bt832.2)) else (none)) else (if bt832.1 = 1 then ((some (([20001, 60, (-60)] : List Int) : List Int)).bind fun y837 => ((spec_l20Rd_pick.f k s0_0 bt832.2 3).bind fun bt840 => (if 0 ≤ bt840.1 then (if bt840.1 < (y837.length : Int) then (if 0 < (y827.length : Int) then (some ((y827.set (0 : Int).toNat (rd y837 bt840.1)), bt840.2)) else (none)) else (none)) else (none)))) else (if y827.length < 17592186044416 then (some ((y827 ++ [0]), bt832.2)) else (none))))) else (some (y827, bt830.2))))) else (none)) else (none)))))) = some (r1, r2) := h
 clear h; obtain ⟨⟨t817, t818⟩, A3, H⟩ := bS H
 try dsimp only at H
 obtain ⟨⟨t819, t820⟩, A4, H⟩ := bS H
 try dsimp only at H
 obtain ⟨y821, Ny821⟩ : ∃ y_ : List Int, Aside0 (y_ = (([0, 0, 1, (-2)] : List Int))) := ⟨_, ⟨rfl⟩⟩
 try rw [← Ny821.out] at H
 try dsimp only [Option.bind_some] at H
 obtain ⟨⟨t824, t825⟩, A5, H⟩ := bS H
 try dsimp only at H
 obtain ⟨c6, H⟩ := iD H; obtain ⟨c7, H⟩ := iD H; obtain ⟨y827, Ny827⟩ : ∃ y_ : List Int, Aside0 (y_ = (([wrap64 (t817 - 4), wrap64 (t819 - 4), rd y821 t824] : List Int))) := ⟨_, ⟨rfl⟩⟩
 try rw [← Ny827.out] at H
 try dsimp only [Option.bind_some] at H
 obtain ⟨⟨t830, t831⟩, A8, H⟩ := bS H
 try dsimp only at H
 by_cases c9 : t830 = 0
 ·rw [if_pos c9] at H; have c9b0 := beq_iff_eq.mpr c9
  have c9b1 := bne_eq_false_iff_eq.mpr c9
  clear c9; obtain ⟨⟨t832, t833⟩, A10, H⟩ := bS H
  try dsimp only at H
  by_cases c11 : t832 = 0
  ·rw [if_pos c11] at H; have c11b0 := beq_iff_eq.mpr c11
   have c11b1 := bne_eq_false_iff_eq.mpr c11
   clear c11; obtain ⟨c12, H⟩ := iN H; have c12b0 := eq_true c12
   have c12b1 := decide_eq_true c12
   clear c12; obtain ⟨y834, Ny834⟩ : ∃ y_ : List Int, Aside0 (y_ = (y827.take (2 : Int).toNat)) := ⟨_, ⟨rfl⟩⟩
   try rw [← Ny834.out] at H
   try dsimp only [Option.bind_some] at H
   simp only [Option.some.injEq, Prod.mk.injEq] at H
   obtain ⟨rfl, rfl⟩ := H
   go_enter Try.func50, Try.ntmps50
   go_wp2_with (first | (refine gL (some 7) Try.func48 #[.pointer (some ⟨g, 0, none⟩), .int .i64 9] ?_; (with_reducible refine (spec_l20Rd_pick.calls k g s0_0 s0_1 9 t817 t818 w0 _ (by exact IsS79.j HI0.out) (by exact jB HB.out) A3.out).mono ?_); rintro e w13 ⟨rfl, hi, hb, hk⟩; refine ⟨_, rfl, ?_⟩; replace HK := aM (kt HK.out hk); replace HB := aM (hb); replace HI0 := aM (hi); (try clear hb hk hi)) | (refine gL (some 10) Try.func48 #[.pointer (some ⟨g, 0, none⟩), .int .i64 9] ?_; (with_reducible refine (spec_l20Rd_pick.calls k g s0_0 t818 9 t819 t820 w0 _ (by exact IsS79.j HI0.out) (by exact jB HB.out) A4.out).mono ?_); rintro e w14 ⟨rfl, hi, hb, hk⟩; refine ⟨_, rfl, ?_⟩; replace HK := aM (kt HK.out hk); replace HB := aM (hb); replace HI0 := aM (hi); (try clear hb hk hi)) | ((with_reducible refine gate_dst (N := 12) rfl ?_); refine Kd.R_lit (Kd.int .i64) _ 3 ?hg (N := 12) ?hd (xs := ([0, 0, 1, (-2)] : List Int)) (inner := [.int .i64 0, .int .i64 0, .int .i64 1, .int .i64 (-2)]) (ok := fun _ => True) (okp := fun _ => True) ?hr ?hp (fun _ hk => hk) trivial (Below.refl _ _) (Nat.le_refl _) (by simp) ?_; (case hd => rfl); (case hg => rfl); (case hr => first | (go_simp; done) | (go_simp; rfl)); (case hp => exact (Reps.one (show Kd.M (Kd.int .i64) _ _ _ 0 [.int .i64 0] from rfl) (Reps.one (show Kd.M (Kd.int .i64) _ _ _ 0 [.int .i64 0] from rfl) (Reps.one (show Kd.M (Kd.int .i64) _ _ _ 1 [.int .i64 1] from rfl) (Reps.one (show Kd.M (Kd.int .i64) _ _ _ (-2) [.int .i64 (-2)] from rfl) (Reps.none _ _)))))); intro v822 w15 ho16 hb hg_ hnew_; clear hg_ hnew_; (first | rw [← Ny821.out] at ho16 | (simp only [Int.reduceToNat] at ho16; rw [← Ny821.out] at ho16)); have HO823 := aM (lw ho16 HK.out); replace HI0 := aM (IsS79.below (by exact IsS79.j HI0.out) hb); replace HK := aM (kbl HK.out hb); replace HB := aM (bj HB.out hb); clear hb ho16) | (refine gL (some 14) Try.func48 #[.pointer (some ⟨g, 0, none⟩), .int .i64 4] ?_; (with_reducible refine (spec_l20Rd_pick.calls k g s0_0 t820 4 t824 t825 w0 _ (by exact IsS79.j HI0.out) (by exact jB HB.out) A5.out).mono ?_); rintro e w17 ⟨rfl, hi, hb, hk⟩; refine ⟨_, rfl, ?_⟩; replace HO823 := aM (IsS79.kp (f1 := t820) (by exact IsS79.j HI0.out) (lR HO823.out) hk); replace HK := aM (kt HK.out hk); replace HB := aM (hb); replace HI0 := aM (hi); (try clear hb hk hi); obtain ⟨Ao18, co18, rfl⟩ := Kd.R_slice HO823.out; have p826 : 0 ≤ (t824 : Int) := od; have q826 : t824 < (y821.length : Int) := od; obtain ⟨ad826, e826, hx826_0⟩ := Kd.at_int (Kd.R_reads' HO823.out).2.2 t824 p826 q826; cases e826; replace p826 := eq_true p826; replace q826 := eq_true q826) | ((with_reducible refine gate_dst (N := 17) rfl ?_); refine Kd.R_lit (Kd.int .i64) _ 3 ?hg (N := 17) ?hd (xs := ([wrap64 (t817 - 4), wrap64 (t819 - 4), rd y821 t824] : List Int)) (inner := [.int .i64 (wrap64 (t817 - 4)), .int .i64 (wrap64 (t819 - 4)), .int .i64 (rd y821 t824)]) (ok := fun _ => True) (okp := fun _ => True) ?hr ?hp (fun _ hk => hk) trivial (Below.refl _ _) (Nat.le_refl _) (by simp) ?_; (case hd => rfl); (case hg => rfl); (case hr => first | (go_simp; done) | (go_simp; rfl)); (case hp => exact (Reps.one (show Kd.M (Kd.int .i64) _ _ _ (wrap64 (t817 - 4)) [.int .i64 (wrap64 (t817 - 4))] from rfl) (Reps.one (show Kd.M (Kd.int .i64) _ _ _ (wrap64 (t819 - 4)) [.int .i64 (wrap64 (t819 - 4))] from rfl) (Reps.one (show Kd.M (Kd.int .i64) _ _ _ (rd y821 t824) [.int .i64 (rd y821 t824)] from rfl) (Reps.none _ _))))); intro v828 w19 ho20 hb hg_ hnew_; clear hg_ hnew_; (first | rw [← Ny827.out] at ho20 | (simp only [Int.reduceToNat] at ho20; rw [← Ny827.out] at ho20)); have HO829 := aM (Kd.R_lower (Kd.R_new' ho20 (rl HO823.out)) (ks HK.out)); replace HO823 := aM (Kd.R_elder' (by exact lR HO823.out) (Kd.R_base ho20) hb); replace HI0 := aM (IsS79.below (by exact IsS79.j HI0.out) hb); replace HK := aM (kbl HK.out hb); replace HB := aM (bj HB.out hb); clear hb ho20) | (refine gL (some 20) Try.func48 #[.pointer (some ⟨g, 0, none⟩), .int .i64 a1] ?_; (with_reducible refine (spec_l20Rd_pick.calls k g s0_0 t825 a1 t830 t831 w0 _ (by exact IsS79.j HI0.out) (by exact jB HB.out) A8.out).mono ?_); rintro e w21 ⟨rfl, hi, hb, hk⟩; refine ⟨_, rfl, ?_⟩; replace HO823 := aM (IsS79.kp (f1 := t825) (by exact IsS79.j HI0.out) (lR HO823.out) hk); replace HO829 := aM (IsS79.kp (f1 := t825) (by exact IsS79.j HI0.out) (lR HO829.out) hk); replace HK := aM (kt HK.out hk); replace HB := aM (hb); replace HI0 := aM (hi); (try clear hb hk hi)) | (refine gL (some 23) Try.func48 #[.pointer (some ⟨g, 0, none⟩), .int .i64 3] ?_; (with_reducible refine (spec_l20Rd_pick.calls k g s0_0 t831 3 t832 t833 w0 _ (by exact IsS79.j HI0.out) (by exact jB HB.out) A10.out).mono ?_); rintro e w22 ⟨rfl, hi, hb, hk⟩; refine ⟨_, rfl, ?_⟩; replace HO823 := aM (IsS79.kp (f1 := t831) (by exact IsS79.j HI0.out) (lR HO823.out) hk); replace HO829 := aM (IsS79.kp (f1 := t831) (by exact IsS79.j HI0.out) (lR HO829.out) hk); replace HK := aM (kt HK.out hk); replace HB := aM (hb); replace HI0 := aM (hi); (try clear hb hk hi); obtain ⟨Ao23, co23, rfl⟩ := Kd.R_slice HO829.out; have q24 : (2 : Int) ≤ ((y827.length : Int) : Int) := od; obtain ⟨i024, hi024, _, hsz24, _⟩ := info_parts info3; have hcut24 := cut_to (P := Try.prog) 26 3 .i64 Try.underlying26 hi024 Ao23 y827.length co23 2 (by omega) q24 (Kd.R_reads' HO829.out).2.1; have hr24 := Kd.R_take (m := (2 : Int).toNat) HO829.out (by omega); have hy24 : y834.length = (2 : Int).toNat := (by rw [Ny834.out, List.length_take]; omega); rw [← Ny834.out] at hr24; rw [← hy24] at hr24 hcut24; clear hy24 hi024 hsz24 HO829; have HO836 := aM hr24; clear hr24; replace q24 := eq_true q24))
   go_ret
   exact ⟨_, er, by exact lR <| Kd.R_mono HO836.out (fun _ hk => trivial), by exact IsS79.j HI0.out, by exact jB HB.out, by exact jK HK.out⟩
  ·rw [if_neg c11] at H; have c11b0 := beq_eq_false_iff_ne.mpr c11
   have c11b1 := bne_iff_ne.mpr c11
   by_cases c25 : t832 = 1
   ·rw [if_pos c25] at H; have c25b0 := beq_iff_eq.mpr c25
    have c25b1 := bne_eq_false_iff_eq.mpr c25
    clear c25; obtain ⟨y837, Ny837⟩ : ∃ y_ : List Int, Aside0 (y_ = (([20001, 60, (-60)] : List Int))) := ⟨_, ⟨rfl⟩⟩
    try rw [← Ny837.out] at H
    try dsimp only [Option.bind_some] at H
    obtain ⟨⟨t840, t841⟩, A26, H⟩ := bS H
    try dsimp only at H
    obtain ⟨c27, H⟩ := iD H; obtain ⟨c28, H⟩ := iD H; obtain ⟨c29, H⟩ := iN H; have c29b0 := decide_eq_true c29
    have c29b1 : decide (0 < y827.length) = true := decide_eq_true (by omega)
    clear c29; obtain ⟨y843, Ny843⟩ : ∃ y_ : List Int, Aside0 (y_ = (y827.set (0 : Int).toNat (rd y837 t840))) := ⟨_, ⟨rfl⟩⟩
    try rw [← Ny843.out] at H
    try dsimp only [Option.bind_some] at H
    simp only [Option.some.injEq, Prod.mk.injEq] at H
    obtain ⟨rfl, rfl⟩ := H
    go_enter Try.func50, Try.ntmps50
    go_wp2_with (first | (refine gL (some 7) Try.func48 #[.pointer (some ⟨g, 0, none⟩), .int .i64 9] ?_; (with_reducible refine (spec_l20Rd_pick.calls k g s0_0 s0_1 9 t817 t818 w0 _ (by exact IsS79.j HI0.out) (by exact jB HB.out) A3.out).mono ?_); rintro e w31 ⟨rfl, hi, hb, hk⟩; refine ⟨_, rfl, ?_⟩; replace HK := aM (kt HK.out hk); replace HB := aM (hb); replace HI0 := aM (hi); (try clear hb hk hi)) | (refine gL (some 10) Try.func48 #[.pointer (some ⟨g, 0, none⟩), .int .i64 9] ?_; (with_reducible refine (spec_l20Rd_pick.calls k g s0_0 t818 9 t819 t820 w0 _ (by exact IsS79.j HI0.out) (by exact jB HB.out) A4.out).mono ?_); rintro e w32 ⟨rfl, hi, hb, hk⟩; refine ⟨_, rfl, ?_⟩; replace HK := aM (kt HK.out hk); replace HB := aM (hb); replace HI0 := aM (hi); (try clear hb hk hi)) | ((with_reducible refine gate_dst (N := 12) rfl ?_); refine Kd.R_lit (Kd.int .i64) _ 3 ?hg (N := 12) ?hd (xs := ([0, 0, 1, (-2)] : List Int)) (inner := [.int .i64 0, .int .i64 0, .int .i64 1, .int .i64 (-2)]) (ok := fun _ => True) (okp := fun _ => True) ?hr ?hp (fun _ hk => hk) trivial (Below.refl _ _) (Nat.le_refl _) (by simp) ?_; (case hd => rfl); (case hg => rfl); (case hr => first | (go_simp; done) | (go_simp; rfl)); (case hp => exact (Reps.one (show Kd.M (Kd.int .i64) _ _ _ 0 [.int .i64 0] from rfl) (Reps.one (show Kd.M (Kd.int .i64) _ _ _ 0 [.int .i64 0] from rfl) (Reps.one (show Kd.M (Kd.int .i64) _ _ _ 1 [.int .i64 1] from rfl) (Reps.one (show Kd.M (Kd.int .i64) _ _ _ (-2) [.int .i64 (-2)] from rfl) (Reps.none _ _)))))); intro v822 w33 ho34 hb hg_ hnew_; clear hg_ hnew_; (first | rw [← Ny821.out] at ho34 | (simp only [Int.reduceToNat] at ho34; rw [← Ny821.out] at ho34)); have HO823 := aM (lw ho34 HK.out); replace HI0 := aM (IsS79.below (by exact IsS79.j HI0.out) hb); replace HK := aM (kbl HK.out hb); replace HB := aM (bj HB.out hb); clear hb ho34) | (refine gL (some 14) Try.func48 #[.pointer (some ⟨g, 0, none⟩), .int .i64 4] ?_; (with_reducible refine (spec_l20Rd_pick.calls k g s0_0 t820 4 t824 t825 w0 _ (by exact IsS79.j HI0.out) (by exact jB HB.out) A5.out).mono ?_); rintro e w35 ⟨rfl, hi, hb, hk⟩; refine ⟨_, rfl, ?_⟩; replace HO823 := aM (IsS79.kp (f1 := t820) (by exact IsS79.j HI0.out) (lR HO823.out) hk); replace HK := aM (kt HK.out hk); replace HB := aM (hb); replace HI0 := aM (hi); (try clear hb hk hi); obtain ⟨Ao36, co36, rfl⟩ := Kd.R_slice HO823.out; have p826 : 0 ≤ (t824 : Int) := od; have q826 : t824 < (y821.length : Int) := od; obtain ⟨ad826, e826, hx826_0⟩ := Kd.at_int (Kd.R_reads' HO823.out).2.2 t824 p826 q826; cases e826; replace p826 := eq_true p826; replace q826 := eq_true q826) | ((with_reducible refine gate_dst (N := 17) rfl ?_); refine Kd.R_lit (Kd.int .i64) _ 3 ?hg (N := 17) ?hd (xs := ([wrap64 (t817 - 4), wrap64 (t819 - 4), rd y821 t824] : List Int)) (inner := [.int .i64 (wrap64 (t817 - 4)), .int .i64 (wrap64 (t819 - 4)), .int .i64 (rd y821 t824)]) (ok := fun _ => True) (okp := fun _ => True) ?hr ?hp (fun _ hk => hk) trivial (Below.refl _ _) (Nat.le_refl _) (by simp) ?_; (case hd => rfl); (case hg => rfl); (case hr => first | (go_simp; done) | (go_simp; rfl)); (case hp => exact (Reps.one (show Kd.M (Kd.int .i64) _ _ _ (wrap64 (t817 - 4)) [.int .i64 (wrap64 (t817 - 4))] from rfl) (Reps.one (show Kd.M (Kd.int .i64) _ _ _ (wrap64 (t819 - 4)) [.int .i64 (wrap64 (t819 - 4))] from rfl) (Reps.one (show Kd.M (Kd.int .i64) _ _ _ (rd y821 t824) [.int .i64 (rd y821 t824)] from rfl) (Reps.none _ _))))); intro v828 w37 ho38 hb hg_ hnew_; clear hg_ hnew_; (first | rw [← Ny827.out] at ho38 | (simp only [Int.reduceToNat] at ho38; rw [← Ny827.out] at ho38)); have HO829 := aM (Kd.R_lower (Kd.R_new' ho38 (rl HO823.out)) (ks HK.out)); replace HO823 := aM (Kd.R_elder' (by exact lR HO823.out) (Kd.R_base ho38) hb); replace HI0 := aM (IsS79.below (by exact IsS79.j HI0.out) hb); replace HK := aM (kbl HK.out hb); replace HB := aM (bj HB.out hb); clear hb ho38) | (refine gL (some 20) Try.func48 #[.pointer (some ⟨g, 0, none⟩), .int .i64 a1] ?_; (with_reducible refine (spec_l20Rd_pick.calls k g s0_0 t825 a1 t830 t831 w0 _ (by exact IsS79.j HI0.out) (by exact jB HB.out) A8.out).mono ?_); rintro e w39 ⟨rfl, hi, hb, hk⟩; refine ⟨_, rfl, ?_⟩; replace HO823 := aM (IsS79.kp (f1 := t825) (by exact IsS79.j HI0.out) (lR HO823.out) hk); replace HO829 := aM (IsS79.kp (f1 := t825) (by exact IsS79.j HI0.out) (lR HO829.out) hk); replace HK := aM (kt HK.out hk); replace HB := aM (hb); replace HI0 := aM (hi); (try clear hb hk hi)) | (refine gL (some 23) Try.func48 #[.pointer (some ⟨g, 0, none⟩), .int .i64 3] ?_; (with_reducible refine (spec_l20Rd_pick.calls k g s0_0 t831 3 t832 t833 w0 _ (by exact IsS79.j HI0.out) (by exact jB HB.out) A10.out).mono ?_); rintro e w40 ⟨rfl, hi, hb, hk⟩; refine ⟨_, rfl, ?_⟩; replace HO823 := aM (IsS79.kp (f1 := t831) (by exact IsS79.j HI0.out) (lR HO823.out) hk); replace HO829 := aM (IsS79.kp (f1 := t831) (by exact IsS79.j HI0.out) (lR HO829.out) hk); replace HK := aM (kt HK.out hk); replace HB := aM (hb); replace HI0 := aM (hi); (try clear hb hk hi)) | ((with_reducible refine gate_dst (N := 34) rfl ?_); refine Kd.R_lit (Kd.int .i64) _ 3 ?hg (N := 34) ?hd (xs := ([20001, 60, (-60)] : List Int)) (inner := [.int .i64 20001, .int .i64 60, .int .i64 (-60)]) (ok := fun _ => True) (okp := fun _ => True) ?hr ?hp (fun _ hk => hk) trivial (Below.refl _ _) (Nat.le_refl _) (by simp) ?_; (case hd => rfl); (case hg => rfl); (case hr => first | (go_simp; done) | (go_simp; rfl)); (case hp => exact (Reps.one (show Kd.M (Kd.int .i64) _ _ _ 20001 [.int .i64 20001] from rfl) (Reps.one (show Kd.M (Kd.int .i64) _ _ _ 60 [.int .i64 60] from rfl) (Reps.one (show Kd.M (Kd.int .i64) _ _ _ (-60) [.int .i64 (-60)] from rfl) (Reps.none _ _))))); intro v838 w41 ho42 hb hg_ hnew_; clear hg_ hnew_; (first | rw [← Ny837.out] at ho42 | (simp only [Int.reduceToNat] at ho42; rw [← Ny837.out] at ho42)); have HO839 := aM (Kd.R_lower (Kd.R_new' (Kd.R_new' ho42 (rl HO823.out)) (rl HO829.out)) (ks HK.out)); replace HO823 := aM (Kd.R_elder' (by exact lR HO823.out) (Kd.R_base ho42) hb); replace HO829 := aM (Kd.R_elder' (by exact lR HO829.out) (Kd.R_base ho42) hb); replace HI0 := aM (IsS79.below (by exact IsS79.j HI0.out) hb); replace HK := aM (kbl HK.out hb); replace HB := aM (bj HB.out hb); clear hb ho42) | (refine gL (some 36) Try.func48 #[.pointer (some ⟨g, 0, none⟩), .int .i64 3] ?_; (with_reducible refine (spec_l20Rd_pick.calls k g s0_0 t833 3 t840 t841 w0 _ (by exact IsS79.j HI0.out) (by exact jB HB.out) A26.out).mono ?_); rintro e w43 ⟨rfl, hi, hb, hk⟩; refine ⟨_, rfl, ?_⟩; replace HO823 := aM (IsS79.kp (f1 := t833) (by exact IsS79.j HI0.out) (lR HO823.out) hk); replace HO829 := aM (IsS79.kp (f1 := t833) (by exact IsS79.j HI0.out) (lR HO829.out) hk); replace HO839 := aM (IsS79.kp (f1 := t833) (by exact IsS79.j HI0.out) (lR HO839.out) hk); replace HK := aM (kt HK.out hk); replace HB := aM (hb); replace HI0 := aM (hi); (try clear hb hk hi); obtain ⟨Ao44, co44, rfl⟩ := Kd.R_slice HO839.out; have p842 : 0 ≤ (t840 : Int) := od; have q842 : t840 < (y837.length : Int) := od; obtain ⟨ad842, e842, hx842_0⟩ := Kd.at_int (Kd.R_reads' HO839.out).2.2 t840 p842 q842; cases e842; replace p842 := eq_true p842; replace q842 := eq_true q842; have p30 : 0 ≤ (0 : Int) := (by omega); have q30 : (0 : Int) < ((y827.length : Int) : Int) := od; have qi30 : (0 < y827.length) = True := eq_true (by omega); obtain ⟨go30, co30, eo30, gb30, gl30, cl30, HG30⟩ := Kd.R_form HO829.out (by omega); (first | cases eo30 | (injection eo30 with ea_ en_ ec_; (first | subst ea_ | (injection ea_ with ea_; subst ea_)); subst ec_; clear en_)); have GB30 := aM gb30; have IGB30 := wn GB30.out; have GG30 := aM HG30; clear gb30 gl30 HG30; obtain ⟨hx30_0, hf30_0⟩ := Kd.R_celln 0 HO829.out (0 : Int) p30 q30; (try rw [show ((0 : Int)).toNat = 0 from rfl] at hx30_0); (try simp only [Nat.reduceMul, Nat.zero_mul, Nat.zero_add, Nat.reduceAdd] at hx30_0); (try rw [show ((0 : Int)).toNat = 0 from rfl] at hf30_0); (try simp only [Nat.reduceMul, Nat.zero_mul, Nat.zero_add, Nat.reduceAdd] at hf30_0); replace p30 := eq_true p30; replace q30 := eq_true q30; replace HO829 := aM (Kd.R_mono (ok' := (fun k_ => some k_ ≠ ownBlock (.slice (some ad826) y821.length co36) ∧ some k_ ≠ ownBlock (.slice (some ad842) y837.length co44))) HO829.out (fun k_ hk => ⟨hk.1.2, hk.2⟩)); obtain ⟨hy45_, hz45_⟩ := Kd.R_celln 0 HO829.out (0 : Int) (by omega) (of_decide_eq_true (by first | (with_reducible assumption) | assumption)); (try simp only [Int.reduceToNat, Int.toNat_zero, Int.toNat_ofNat, Nat.reduceMul, Nat.zero_mul, Nat.zero_add] at hy45_ hz45_); (try rw [show ((0 : Int)).toNat = 0 from rfl] at hy45_); (try rw [show ((0 : Int)).toNat = 0 from rfl] at hz45_); have HP45 := Kd.R_putg HO829.out (0 : Int) (rd y837 t840)) | ((with_reducible refine gate_store (t := 3) (p := 39) rfl ?_); refine store_event (t := 3) (p := 39) (v := ?vo_w46) (w1 := (w43.setCell ⟨go30, (0 : Int).toNat, none⟩ (.int .i64 (rd y837 t840)))) ?hg ?ho ?hn ?hr ?_; (case ho => rfl); (case hg => rfl); (case hn => rfl); (case hr => first | (go_simp; done) | (go_simp; rfl)); intro w46 hw; have hg : w43.grownBy w46 (some go30) := (by rw [hw]; exact HP45.2); have hp_ : Kd.R (Kd.int .i64) 3 w46 w.heap.size (fun k_ => some k_ ≠ ownBlock (.slice (some ad826) y821.length co36) ∧ some k_ ≠ ownBlock (.slice (some ad842) y837.length co44)) (.slice (some ⟨go30, 0, none⟩) y827.length co30) y843 := (by rw [hw, Ny843.out]; exact HP45.1); clear HP45; replace HI0 := aM (IsS79.grown (by exact IsS79.j HI0.out) hg (IsS79.own_ne HI0.out HO829.out (by decide))); replace HO823 := aM (Kd.R_after (v := (.slice (some ⟨go30, 0, none⟩) y827.length co30)) (v1 := (.slice (some ⟨go30, 0, none⟩) y827.length co30)) (ok := (fun k_ => some k_ ≠ ownBlock (.slice (some ad842) y837.length co44))) (by exact lR <| Kd.R_mono HO823.out (fun _ hk => ⟨hk.2, hk.1.2⟩)) hg (.inl rfl)); replace HO839 := aM (Kd.R_after (v := (.slice (some ⟨go30, 0, none⟩) y827.length co30)) (v1 := (.slice (some ⟨go30, 0, none⟩) y827.length co30)) (ok := (fun k_ => some k_ ≠ ownBlock (.slice (some ad826) y821.length co36))) (by exact lR <| Kd.R_mono HO839.out (fun _ hk => ⟨hk.1.2, hk.2⟩)) hg (.inl rfl)); replace HB := aM ((by rw [hw]; exact below_set (HB.out) (Nat.le_trans HL.out GB30.out) : Below w0.heap.size w0 w46)); replace HK := aM (KeepBut.trans (by exact jK HK.out) (KeepBut.of_grown hg g) (Kd.R_base2 HO829.out)); replace HO829 := aM (hp_); clear hg hw hp_))
    go_ret
    exact ⟨_, er, by exact lR <| Kd.R_mono HO829.out (fun _ hk => trivial), by exact IsS79.j HI0.out, by exact jB HB.out, by exact jK HK.out⟩
   ·rw [if_neg c25] at H; have c25b0 := beq_eq_false_iff_ne.mpr c25
    have c25b1 := bne_iff_ne.mpr c25
    obtain ⟨c47, H⟩ := iN H; have LMc47 := aM c47; clear c47; obtain ⟨y844, Ny844⟩ : ∃ y_ : List Int, Aside0 (y_ = (y827 ++ [0])) := ⟨_, ⟨rfl⟩⟩
    try rw [← Ny844.out] at H
    try dsimp only [Option.bind_some] at H
    simp only [Option.some.injEq, Prod.mk.injEq] at H
    obtain ⟨rfl, rfl⟩ := H
    go_enter Try.func50, Try.ntmps50
    go_wp2_with (first | (refine gL (some 7) Try.func48 #[.pointer (some ⟨g, 0, none⟩), .int .i64 9] ?_; (with_reducible refine (spec_l20Rd_pick.calls k g s0_0 s0_1 9 t817 t818 w0 _ (by exact IsS79.j HI0.out) (by exact jB HB.out) A3.out).mono ?_); rintro e w48 ⟨rfl, hi, hb, hk⟩; refine ⟨_, rfl, ?_⟩; replace HK := aM (kt HK.out hk); replace HB := aM (hb); replace HI0 := aM (hi); (try clear hb hk hi)) | (refine gL (some 10) Try.func48 #[.pointer (some ⟨g, 0, none⟩), .int .i64 9] ?_; (with_reducible refine (spec_l20Rd_pick.calls k g s0_0 t818 9 t819 t820 w0 _ (by exact IsS79.j HI0.out) (by exact jB HB.out) A4.out).mono ?_); rintro e w49 ⟨rfl, hi, hb, hk⟩; refine ⟨_, rfl, ?_⟩; replace HK := aM (kt HK.out hk); replace HB := aM (hb); replace HI0 := aM (hi); (try clear hb hk hi)) | ((with_reducible refine gate_dst (N := 12) rfl ?_); refine Kd.R_lit (Kd.int .i64) _ 3 ?hg (N := 12) ?hd (xs := ([0, 0, 1, (-2)] : List Int)) (inner := [.int .i64 0, .int .i64 0, .int .i64 1, .int .i64 (-2)]) (ok := fun _ => True) (okp := fun _ => True) ?hr ?hp (fun _ hk => hk) trivial (Below.refl _ _) (Nat.le_refl _) (by simp) ?_; (case hd => rfl); (case hg => rfl); (case hr => first | (go_simp; done) | (go_simp; rfl)); (case hp => exact (Reps.one (show Kd.M (Kd.int .i64) _ _ _ 0 [.int .i64 0] from rfl) (Reps.one (show Kd.M (Kd.int .i64) _ _ _ 0 [.int .i64 0] from rfl) (Reps.one (show Kd.M (Kd.int .i64) _ _ _ 1 [.int .i64 1] from rfl) (Reps.one (show Kd.M (Kd.int .i64) _ _ _ (-2) [.int .i64 (-2)] from rfl) (Reps.none _ _)))))); intro v822 w50 ho51 hb hg_ hnew_; clear hg_ hnew_; (first | rw [← Ny821.out] at ho51 | (simp only [Int.reduceToNat] at ho51; rw [← Ny821.out] at ho51)); have HO823 := aM (lw ho51 HK.out); replace HI0 := aM (IsS79.below (by exact IsS79.j HI0.out) hb); replace HK := aM (kbl HK.out hb); replace HB := aM (bj HB.out hb); clear hb ho51) | (refine gL (some 14) Try.func48 #[.pointer (some ⟨g, 0, none⟩), .int .i64 4] ?_; (with_reducible refine (spec_l20Rd_pick.calls k g s0_0 t820 4 t824 t825 w0 _ (by exact IsS79.j HI0.out) (by exact jB HB.out) A5.out).mono ?_); rintro e w52 ⟨rfl, hi, hb, hk⟩; refine ⟨_, rfl, ?_⟩; replace HO823 := aM (IsS79.kp (f1 := t820) (by exact IsS79.j HI0.out) (lR HO823.out) hk); replace HK := aM (kt HK.out hk); replace HB := aM (hb); replace HI0 := aM (hi); (try clear hb hk hi); obtain ⟨Ao53, co53, rfl⟩ := Kd.R_slice HO823.out; have p826 : 0 ≤ (t824 : Int) := od; have q826 : t824 < (y821.length : Int) := od; obtain ⟨ad826, e826, hx826_0⟩ := Kd.at_int (Kd.R_reads' HO823.out).2.2 t824 p826 q826; cases e826; replace p826 := eq_true p826; replace q826 := eq_true q826) | ((with_reducible refine gate_dst (N := 17) rfl ?_); refine Kd.R_lit (Kd.int .i64) _ 3 ?hg (N := 17) ?hd (xs := ([wrap64 (t817 - 4), wrap64 (t819 - 4), rd y821 t824] : List Int)) (inner := [.int .i64 (wrap64 (t817 - 4)), .int .i64 (wrap64 (t819 - 4)), .int .i64 (rd y821 t824)]) (ok := fun _ => True) (okp := fun _ => True) ?hr ?hp (fun _ hk => hk) trivial (Below.refl _ _) (Nat.le_refl _) (by simp) ?_; (case hd => rfl); (case hg => rfl); (case hr => first | (go_simp; done) | (go_simp; rfl)); (case hp => exact (Reps.one (show Kd.M (Kd.int .i64) _ _ _ (wrap64 (t817 - 4)) [.int .i64 (wrap64 (t817 - 4))] from rfl) (Reps.one (show Kd.M (Kd.int .i64) _ _ _ (wrap64 (t819 - 4)) [.int .i64 (wrap64 (t819 - 4))] from rfl) (Reps.one (show Kd.M (Kd.int .i64) _ _ _ (rd y821 t824) [.int .i64 (rd y821 t824)] from rfl) (Reps.none _ _))))); intro v828 w54 ho55 hb hg_ hnew_; clear hg_ hnew_; (first | rw [← Ny827.out] at ho55 | (simp only [Int.reduceToNat] at ho55; rw [← Ny827.out] at ho55)); have HO829 := aM (Kd.R_lower (Kd.R_new' ho55 (rl HO823.out)) (ks HK.out)); replace HO823 := aM (Kd.R_elder' (by exact lR HO823.out) (Kd.R_base ho55) hb); replace HI0 := aM (IsS79.below (by exact IsS79.j HI0.out) hb); replace HK := aM (kbl HK.out hb); replace HB := aM (bj HB.out hb); clear hb ho55) | (refine gL (some 20) Try.func48 #[.pointer (some ⟨g, 0, none⟩), .int .i64 a1] ?_; (with_reducible refine (spec_l20Rd_pick.calls k g s0_0 t825 a1 t830 t831 w0 _ (by exact IsS79.j HI0.out) (by exact jB HB.out) A8.out).mono ?_); rintro e w56 ⟨rfl, hi, hb, hk⟩; refine ⟨_, rfl, ?_⟩; replace HO823 := aM (IsS79.kp (f1 := t825) (by exact IsS79.j HI0.out) (lR HO823.out) hk); replace HO829 := aM (IsS79.kp (f1 := t825) (by exact IsS79.j HI0.out) (lR HO829.out) hk); replace HK := aM (kt HK.out hk); replace HB := aM (hb); replace HI0 := aM (hi); (try clear hb hk hi)) | (refine gL (some 23) Try.func48 #[.pointer (some ⟨g, 0, none⟩), .int .i64 3] ?_; (with_reducible refine (spec_l20Rd_pick.calls k g s0_0 t831 3 t832 t833 w0 _ (by exact IsS79.j HI0.out) (by exact jB HB.out) A10.out).mono ?_); rintro e w57 ⟨rfl, hi, hb, hk⟩; refine ⟨_, rfl, ?_⟩; replace HO823 := aM (IsS79.kp (f1 := t831) (by exact IsS79.j HI0.out) (lR HO823.out) hk); replace HO829 := aM (IsS79.kp (f1 := t831) (by exact IsS79.j HI0.out) (lR HO829.out) hk); replace HK := aM (kt HK.out hk); replace HB := aM (hb); replace HI0 := aM (hi); (try clear hb hk hi)) | ((with_reducible refine gate_builtin (b := .append) (xs := #[.tmp 24, .tmp 25]) rfl ?_); at_builtin; refine Kd.R_append (Kd.int .i64) w.heap.size rfl (.tmp 24) (.tmp 25) 26 3 (.int .i64 0) 8 rfl Try.underlying26 info3 rfl (by decide) (by omega) v828 y827 0 [.int .i64 0] (fun k_ => some k_ ≠ ownBlock (.slice (some ad826) y821.length co53)) (fun _ => False) rfl rfl ?aP (fun _ hk => hk.elim) ?aF ?aO (Below.refl _ _) ?aS ?aL ?_; (case aP => exact rfl); (case aF => exact (fun k_ hk => Kd.fresh' (rl HO823.out) k_ hk)); (case aO => exact (by exact lR <| Kd.R_mono HO829.out (fun _ hk => hk.2))); (case aS => exact (ks HK.out)); (case aL => have := LMc47.out; omega); intro v845 w58 ho hb hg hat; rw [← Ny844.out] at ho; replace HI0 := aM (IsS79.grown (by exact IsS79.j HI0.out) hg (IsS79.own_ne HI0.out HO829.out (by decide))); replace HO823 := aM (Kd.R_after (ok := (fun _ => True)) (by exact lR HO823.out) hg hat); replace HB := aM (below_weaken (by exact jB HB.out) HL.out hb); replace HK := aM (KeepBut.trans (by exact jK HK.out) (KeepBut.of_grown hg g) (Kd.R_base2 HO829.out)); have HO846 := aM (ho); clear HO829 ho hb hg hat))
    go_ret
    exact ⟨_, er, by exact lR <| Kd.R_mono HO846.out (fun _ hk => trivial), by exact IsS79.j HI0.out, by exact jB HB.out, by exact jK HK.out⟩
 ·rw [if_neg c9] at H; have c9b0 := beq_eq_false_iff_ne.mpr c9
  have c9b1 := bne_iff_ne.mpr c9
  simp only [Option.some.injEq, Prod.mk.injEq] at H
  obtain ⟨rfl, rfl⟩ := H
  go_enter Try.func50, Try.ntmps50
  go_wp2_with (first | (refine gL (some 7) Try.func48 #[.pointer (some ⟨g, 0, none⟩), .int .i64 9] ?_; (with_reducible refine (spec_l20Rd_pick.calls k g s0_0 s0_1 9 t817 t818 w0 _ (by exact IsS79.j HI0.out) (by exact jB HB.out) A3.out).mono ?_); rintro e w59 ⟨rfl, hi, hb, hk⟩; refine ⟨_, rfl, ?_⟩; replace HK := aM (kt HK.out hk); replace HB := aM (hb); replace HI0 := aM (hi); (try clear hb hk hi)) | (refine gL (some 10) Try.func48 #[.pointer (some ⟨g, 0, none⟩), .int .i64 9] ?_; (with_reducible refine (spec_l20Rd_pick.calls k g s0_0 t818 9 t819 t820 w0 _ (by exact IsS79.j HI0.out) (by exact jB HB.out) A4.out).mono ?_); rintro e w60 ⟨rfl, hi, hb, hk⟩; refine ⟨_, rfl, ?_⟩; replace HK := aM (kt HK.out hk); replace HB := aM (hb); replace HI0 := aM (hi); (try clear hb hk hi)) | ((with_reducible refine gate_dst (N := 12) rfl ?_); refine Kd.R_lit (Kd.int .i64) _ 3 ?hg (N := 12) ?hd (xs := ([0, 0, 1, (-2)] : List Int)) (inner := [.int .i64 0, .int .i64 0, .int .i64 1, .int .i64 (-2)]) (ok := fun _ => True) (okp := fun _ => True) ?hr ?hp (fun _ hk => hk) trivial (Below.refl _ _) (Nat.le_refl _) (by simp) ?_; (case hd => rfl); (case hg => rfl); (case hr => first | (go_simp; done) | (go_simp; rfl)); (case hp => exact (Reps.one (show Kd.M (Kd.int .i64) _ _ _ 0 [.int .i64 0] from rfl) (Reps.one (show Kd.M (Kd.int .i64) _ _ _ 0 [.int .i64 0] from rfl) (Reps.one (show Kd.M (Kd.int .i64) _ _ _ 1 [.int .i64 1] from rfl) (Reps.one (show Kd.M (Kd.int .i64) _ _ _ (-2) [.int .i64 (-2)] from rfl) (Reps.none _ _)))))); intro v822 w61 ho62 hb hg_ hnew_; clear hg_ hnew_; (first | rw [← Ny821.out] at ho62 | (simp only [Int.reduceToNat] at ho62; rw [← Ny821.out] at ho62)); have HO823 := aM (lw ho62 HK.out); replace HI0 := aM (IsS79.below (by exact IsS79.j HI0.out) hb); replace HK := aM (kbl HK.out hb); replace HB := aM (bj HB.out hb); clear hb ho62) | (refine gL (some 14) Try.func48 #[.pointer (some ⟨g, 0, none⟩), .int .i64 4] ?_; (with_reducible refine (spec_l20Rd_pick.calls k g s0_0 t820 4 t824 t825 w0 _ (by exact IsS79.j HI0.out) (by exact jB HB.out) A5.out).mono ?_); rintro e w63 ⟨rfl, hi, hb, hk⟩; refine ⟨_, rfl, ?_⟩; replace HO823 := aM (IsS79.kp (f1 := t820) (by exact IsS79.j HI0.out) (lR HO823.out) hk); replace HK := aM (kt HK.out hk); replace HB := aM (hb); replace HI0 := aM (hi); (try clear hb hk hi); obtain ⟨Ao64, co64, rfl⟩ := Kd.R_slice HO823.out; have p826 : 0 ≤ (t824 : Int) := od; have q826 : t824 < (y821.length : Int) := od; obtain ⟨ad826, e826, hx826_0⟩ := Kd.at_int (Kd.R_reads' HO823.out).2.2 t824 p826 q826; cases e826; replace p826 := eq_true p826; replace q826 := eq_true q826) | ((with_reducible refine gate_dst (N := 17) rfl ?_); refine Kd.R_lit (Kd.int .i64) _ 3 ?hg (N := 17) ?hd (xs := ([wrap64 (t817 - 4), wrap64 (t819 - 4), rd y821 t824] : List Int)) (inner := [.int .i64 (wrap64 (t817 - 4)), .int .i64 (wrap64 (t819 - 4)), .int .i64 (rd y821 t824)]) (ok := fun _ => True) (okp := fun _ => True) ?hr ?hp (fun _ hk => hk) trivial (Below.refl _ _) (Nat.le_refl _) (by simp) ?_; (case hd => rfl); (case hg => rfl); (case hr => first | (go_simp; done) | (go_simp; rfl)); (case hp => exact (Reps.one (show Kd.M (Kd.int .i64) _ _ _ (wrap64 (t817 - 4)) [.int .i64 (wrap64 (t817 - 4))] from rfl) (Reps.one (show Kd.M (Kd.int .i64) _ _ _ (wrap64 (t819 - 4)) [.int .i64 (wrap64 (t819 - 4))] from rfl) (Reps.one (show Kd.M (Kd.int .i64) _ _ _ (rd y821 t824) [.int .i64 (rd y821 t824)] from rfl) (Reps.none _ _))))); intro v828 w65 ho66 hb hg_ hnew_; clear hg_ hnew_; (first | rw [← Ny827.out] at ho66 | (simp only [Int.reduceToNat] at ho66; rw [← Ny827.out] at ho66)); have HO829 := aM (Kd.R_lower (Kd.R_new' ho66 (rl HO823.out)) (ks HK.out)); replace HO823 := aM (Kd.R_elder' (by exact lR HO823.out) (Kd.R_base ho66) hb); replace HI0 := aM (IsS79.below (by exact IsS79.j HI0.out) hb); replace HK := aM (kbl HK.out hb); replace HB := aM (bj HB.out hb); clear hb ho66) | (refine gL (some 20) Try.func48 #[.pointer (some ⟨g, 0, none⟩), .int .i64 a1] ?_; (with_reducible refine (spec_l20Rd_pick.calls k g s0_0 t825 a1 t830 t831 w0 _ (by exact IsS79.j HI0.out) (by exact jB HB.out) A8.out).mono ?_); rintro e w67 ⟨rfl, hi, hb, hk⟩; refine ⟨_, rfl, ?_⟩; replace HO823 := aM (IsS79.kp (f1 := t825) (by exact IsS79.j HI0.out) (lR HO823.out) hk); replace HO829 := aM (IsS79.kp (f1 := t825) (by exact IsS79.j HI0.out) (lR HO829.out) hk); replace HK := aM (kt HK.out hk); replace HB := aM (hb); replace HI0 := aM (hi); (try clear hb hk hi)))
  go_ret
  exact ⟨_, er, by exact lR <| Kd.R_mono HO829.out (fun _ hk => trivial), by exact IsS79.j HI0.out, by exact jB HB.out, by exact jK HK.out⟩
/-! ### spec_DrawTrtKeeps: function 20 -/
def spec_DrawTrtKeeps.j0 : Nat → List (List Int) → List Int → Int → Option (List Int × List Int × (List (List Int)) × Int × List Int)
 | 0, _, _, _ => none
 | k + 1, x7, x851000, x851001 => (spec_l20Treaty.f k x851000 x851001 12).bind fun bt866 => ((spec_l20Rd_pick.f k x851000 bt866.2.2 4).bind fun bt873 => ((spec_l20Rd_pick.f k x851000 bt873.2 2).bind fun bt875 => ((spec_l20Added.f k x851000 bt875.2 6).bind fun bt877 => (some (bt866.1, bt866.2.1, x7, wrap64 (bt873.1 - bt875.1), bt877.1)))))
def spec_DrawTrtKeeps.f (k : Nat) (l0 : List Int) : Option (List Int × List Int × (List (List Int)) × Int × List Int) := (spec_l20Open.f l0).bind fun bt848 => ((spec_l20Acts.f k bt848.1 bt848.2).bind fun bt851 => ((spec_CatForms.f k bt851.1).bind fun t855 => ((spec_l20Rd_pick.f k bt848.1 bt851.2 16).bind fun bt858 => (if bt858.1 = 0 then (if t855.length < 5864062014805 then (spec_DrawTrtKeeps.j0 k (t855 ++ [(([1, 2] : List Int))]) bt848.1 bt858.2) else (none)) else (spec_DrawTrtKeeps.j0 k t855 bt848.1 bt858.2)))))
theorem spec_DrawTrtKeeps.calls (k : Nat) (A0 : Option Addr) (c0 : Nat) (l0 : List Int) (r1 : List Int) (r2 : List Int) (r3 : List (List Int)) (r4 : Int) (r5 : List Int) (w : World) (hr0 : Kd.C (Kd.int .u8) w A0 l0.length l0) (hc0 : l0.length ≤ c0) (h : spec_DrawTrtKeeps.f k l0 = some (r1, r2, r3, r4, r5)) :
  Calls Try.prog 20 #[.slice A0 l0.length c0] w fun e w' => ∃ v0_ v1_ v2_ v4_ : Value, e = .returned (.tuple #[.agg #[v0_, v1_], v2_, .int .i64 r4, v4_]) ∧ Kd.R (Kd.int .i64) 3 w' w.heap.size (fun k_ => (w.heap.size ≤ k_) ∧ some k_ ≠ (v1_ : Value).ownBlock ∧ some k_ ≠ (v4_ : Value).ownBlock) v0_ r1 ∧ Kd.R (Kd.int .i64) 3 w' w.heap.size (fun k_ => (w.heap.size ≤ k_) ∧ some k_ ≠ (v0_ : Value).ownBlock ∧ some k_ ≠ (v4_ : Value).ownBlock) v1_ r2 ∧ Kd.N (Kd.slice 3 (Kd.int .i64)) 26 w' w.heap.size (fun k_ => (w.heap.size ≤ k_) ∧ some k_ ≠ (v0_ : Value).ownBlock ∧ some k_ ≠ (v1_ : Value).ownBlock ∧ some k_ ≠ (v4_ : Value).ownBlock) v2_ r3 ∧ Kd.R (Kd.int .i64) 3 w' w.heap.size (fun k_ => (w.heap.size ≤ k_) ∧ some k_ ≠ (v0_ : Value).ownBlock ∧ some k_ ≠ (v1_ : Value).ownBlock) v4_ r5 ∧ Below w.heap.size w w' := by
 have hu45 := Try.underlying45; have HR0 := aM hr0; have HC0 := aM hc0; clear hr0 hc0; have HB := aM (Below.refl w.heap.size w); have H : ((spec_l20Open.f l0).bind fun bt848 => ((spec_l20Acts.f k bt848.1 bt848.2).bind fun bt851 => ((spec_CatForms.f k bt851.1).bind fun t855 => ((spec_l20Rd_pick.f k bt848.1 bt851.2 16).bind fun bt858 => (if bt858.1 = 0 then (if t855.length < 5864062014805 then (spec_DrawTrtKeeps.j0 k (t855 ++ [(([1, 2] : List Int))]) bt848.1 bt858.2) else (none)) else (spec_DrawTrtKeeps.j0 k t855 bt848.1 bt858.2)))))) = some (r1, r2, r3, r4, r5) := h
 clear h; obtain ⟨⟨t848, t849⟩, A2, H⟩ := bS H
 try dsimp only at H
 obtain ⟨⟨t851, t854⟩, A3, H⟩ := bS H
 try dsimp only at H
 obtain ⟨t855, A4, H⟩ := bS H
 try dsimp only at H
 obtain ⟨⟨t858, t859⟩, A5, H⟩ := bS H
 try dsimp only at H
 have HC6 := aM H; clear H; go_enter Try.func20, Try.ntmps20
 go_upto_if 15 with (first | ((with_reducible refine gate_dst (N := 2) rfl ?_); refine bx 2 #[.slice none 0 0, .slice none 0 0] 45 ?_; intro gb847 hg w7 hbox hb; have BK847 := aM (hbox); have GW847 := aM (gz hg HB.out); have IGW847 := wn GW847.out; have GE847 := aM (gz hg HB.out); have IGE847 := wn GE847.out; replace HB := aM (bj HB.out hb); clear hb hbox hg) | (refine gL (some 9) Try.func25 #[.slice A0 l0.length c0] ?_; (with_reducible refine (spec_l20Open.calls _ _ l0 t848 t849 w _ (by exact jB HB.out) (by exact HR0.out) HC0.out A2.out).mono ?_); rintro e w8 ⟨g850, rfl, hi, hb, hb2⟩; refine ⟨_, rfl, ?_⟩; replace HB := aM (hb); have HI850 := aM (hi); have NB850_847 := aM (IsS79.ne_blk hi (blk_below (g := gb847) (lK BK847.out) hb2) (by decide)); have NB847_850 := aM (Ne.symm (IsS79.ne_blk hi (blk_below (g := gb847) (lK BK847.out) hb2) (by decide))); replace BK847 := aM (blk_below (g := gb847) (lK BK847.out) hb2); (try clear hb hb2 hi)) | (refine gL (some 11) Try.func47 #[.pointer (some ⟨g850, 0, none⟩)] ?_; (with_reducible refine (spec_l20Acts.calls k g850 t848 t849 t851 t854 w _ (by exact IsS79.j HI850.out) (by exact jB HB.out) A3.out).mono ?_); rintro e w9 ⟨v852, rfl, ho0, hi, hb, hk⟩; refine ⟨_, rfl, ?_⟩; have HO853 := aM (Kd.N_lower (Kd.N_mono (ok' := fun k_ => (w.heap.size ≤ k_) ∧ k_ ≠ gb847 ∧ k_ ≠ g850) ho0 (fun k_ hk_ => ⟨(Nat.le_trans (bz HB.out) hk_), (Kd.freshB (g := gb847) (lK BK847.out) k_ hk_), (IsS79.fresh (by exact IsS79.j HI850.out) k_ hk_)⟩)) (bz HB.out)); replace BK847 := aM (kb hk BK847.out NB847_850.out); replace HB := aM (hb); replace HI850 := aM (hi); (try clear hb hk hi); (try clear ho0); obtain ⟨Ao10, co10, eo10⟩ := Kd.N_slice HO853.out; subst eo10) | (refine gL (some 12) Try.func46 #[.slice Ao10 t851.length co10] ?_; (with_reducible refine (spec_CatForms.calls k _ _ t851 t855 _ (by exact lC <| (Kd.N_reads' HO853.out).2.2) (by exact (Kd.N_reads' HO853.out).2.1) A4.out).mono ?_); rintro e w11 ⟨v856, rfl, ho0, hb⟩; refine ⟨_, rfl, ?_⟩; have HO857 := aM (Kd.N_lower (Kd.N_mono (ok' := fun k_ => (w.heap.size ≤ k_) ∧ some k_ ≠ ownBlock (.slice Ao10 t851.length co10) ∧ k_ ≠ gb847 ∧ k_ ≠ g850) ho0 (fun k_ hk_ => ⟨(Nat.le_trans (bz HB.out) hk_), (Kd.fresh' (Kd.N_lt (by exact lN <| HO853.out)) k_ hk_), (Kd.freshB (g := gb847) (lK BK847.out) k_ hk_), (IsS79.fresh (by exact IsS79.j HI850.out) k_ hk_)⟩)) (bz HB.out)); replace HO853 := aM (Kd.N_elder' (by exact lN <| HO853.out) (Kd.N_base ho0) hb); replace BK847 := aM (bb BK847.out hb); replace HI850 := aM (IsS79.below (by exact IsS79.j HI850.out) hb); replace HB := aM (bj HB.out hb); clear hb ho0) | (refine gL (some 14) Try.func48 #[.pointer (some ⟨g850, 0, none⟩), .int .i64 16] ?_; (with_reducible refine (spec_l20Rd_pick.calls k g850 t848 t854 16 t858 t859 w _ (by exact IsS79.j HI850.out) (by exact jB HB.out) A5.out).mono ?_); rintro e w12 ⟨rfl, hi, hb, hk⟩; refine ⟨_, rfl, ?_⟩; replace BK847 := aM (kb hk BK847.out NB847_850.out); replace HO853 := aM (Kd.N_mono (Kd.N_keep (Kd.N_mono (ok := fun k_ => ((((w.heap.size ≤ k_)) ∧ (k_ ≠ gb847 ∧ k_ ≠ g850)) ∧ some k_ ≠ v856.ownBlock)) (by exact lN <| HO853.out) (fun k_ hk_ => (⟨hk_, hk_.1.2.2⟩ : _ ∧ k_ ≠ g850))) hk (fun _ h => h.2)) (fun _ h => h.1)); replace HO857 := aM (Kd.N_mono (Kd.N_keep (Kd.N_mono (ok := fun k_ => (((w.heap.size ≤ k_)) ∧ (some k_ ≠ ownBlock (.slice Ao10 t851.length co10) ∧ (k_ ≠ gb847 ∧ k_ ≠ g850)))) (by exact lN <| HO857.out) (fun k_ hk_ => (⟨hk_, hk_.2.2.2⟩ : _ ∧ k_ ≠ g850))) hk (fun _ h => h.2)) (fun _ h => h.1)); replace HB := aM (hb); replace HI850 := aM (hi); (try clear hb hk hi)))
 (try simp only [Act.put, sA, s0, sS])
 go_cut [7] (fun v7 wc => ∃ (kq : Nat) (x7_5 : List (List Int)), Aside0 (spec_DrawTrtKeeps.j0 kq x7_5 t848 t859 = some (r1, r2, r3, r4, r5)) ∧ Aside0 (kq ≤ k) ∧ Aside0 (Kd.N (Kd.slice 3 (Kd.int .i64)) 26 wc w.heap.size (fun k_ => (w.heap.size ≤ k_) ∧ k_ ≠ gb847 ∧ k_ ≠ g850) v7 x7_5) ∧ Aside0 (wc.heap[gb847]? = some (.cells #[(.slice none 0 0), (.slice none 0 0)] 45 (0, 0))) ∧ Aside0 (IsS79 w wc g850 t848 t859) ∧ Aside0 (Below w.heap.size w wc))
 case first =>
  have H := HC6.out
  clear HC6
  by_cases c13 : t858 = 0
  ·rw [if_pos c13] at H; have c13b0 := beq_iff_eq.mpr c13
   have c13b1 := bne_eq_false_iff_eq.mpr c13
   clear c13
   (first | rw [c13b0] | (simp only [i64_w, i32_w]; rw [c13b0]) | skip)
   obtain ⟨y860, Ny860⟩ : ∃ y_ : List Int, Aside0 (y_ = (([1, 2] : List Int))) := ⟨_, ⟨rfl⟩⟩
   try rw [← Ny860.out] at H
   try dsimp only [Option.bind_some] at H
   obtain ⟨c14, H⟩ := iN H; have LMc14 := aM c14; clear c14; obtain ⟨y863, Ny863⟩ : ∃ y_ : List (List Int), Aside0 (y_ = (t855 ++ [y860])) := ⟨_, ⟨rfl⟩⟩
   try rw [← Ny863.out] at H
   try dsimp only [Option.bind_some] at H
   have H' := aM H
   clear H; go_wp2_with (first | ((with_reducible refine gate_dst (N := 17) rfl ?_); refine Kd.R_lit (Kd.int .i64) _ 3 ?hg (N := 17) ?hd (xs := ([1, 2] : List Int)) (inner := [.int .i64 1, .int .i64 2]) (ok := fun _ => True) (okp := fun _ => True) ?hr ?hp (fun _ hk => hk) trivial (Below.refl _ _) (Nat.le_refl _) (by simp) ?_; (case hd => rfl); (case hg => rfl); (case hr => first | (go_simp; done) | (go_simp; rfl)); (case hp => exact (Reps.one (show Kd.M (Kd.int .i64) _ _ _ 1 [.int .i64 1] from rfl) (Reps.one (show Kd.M (Kd.int .i64) _ _ _ 2 [.int .i64 2] from rfl) (Reps.none _ _)))); intro v861 w15 ho16 hb hg_ hnew_; clear hg_ hnew_; (first | rw [← Ny860.out] at ho16 | (simp only [Int.reduceToNat] at ho16; rw [← Ny860.out] at ho16)); replace HO853 := aM (Kd.N_elder' (by exact lN <| HO853.out) (Kd.R_base ho16) hb); replace HO857 := aM (Kd.N_elder' (by exact lN <| HO857.out) (Kd.R_base ho16) hb); have HO862 := aM (nB ho16 HB.out); replace BK847 := aM (bb BK847.out hb); replace HI850 := aM (IsS79.below (by exact IsS79.j HI850.out) hb); replace HB := aM (bj HB.out hb); clear hb ho16; obtain ⟨Ao18, co18, rfl⟩ := Kd.R_slice HO862.out) | ((with_reducible refine gate_builtin (b := .append) (xs := #[.tmp 16, .tmp 18]) rfl ?_); at_builtin; refine Kd.N_append (Kd.slice 3 (Kd.int .i64)) (w0 := w) w.heap.size rfl (.tmp 16) (.tmp 18) 46 26 (.slice none 0 0) 24 rfl Try.underlying46 info26 rfl (by decide) (by omega) v856 t855 y860 [.slice Ao18 y860.length co18] (fun k_ => (w.heap.size ≤ k_) ∧ some k_ ≠ ownBlock (.slice Ao10 t851.length co10) ∧ k_ ≠ gb847 ∧ k_ ≠ g850) (fun k_ => ((fun k_ => (w.heap.size ≤ k_) ∧ some k_ ≠ ownBlock (.slice Ao10 t851.length co10) ∧ k_ ≠ gb847 ∧ k_ ≠ g850)) k_ ∧ some k_ ≠ v856.ownBlock) rfl rfl ?aP (fun _ hk => hk) ?aF ?aO ?aB ?aS ?aL ?_; (case aP => exact (fs (Kd.R_mono (IsS79.apart HI850.out (Kd.R_types (Kd.R_apart' (Kd.R_apart' (HO862.out) (Kd.N_typed HO853.out) (show ∀ q_, q_ ∈ 3 :: ((Kd.int .i64)).E → q_ ≠ 82 from by decide)) (Kd.N_typed HO857.out) (show ∀ q_, q_ ∈ 3 :: ((Kd.int .i64)).E → q_ ≠ 26 from by decide)) BK847.out (by decide)) (by decide)) (fun k_ hk => ⟨⟨hk.1.1.1.1.1, ⟨hk.1.1.1.2, ⟨hk.1.2, hk.2⟩⟩⟩, hk.1.1.2⟩)))); (case aB => exact (by exact jB HB.out)); (case aF => exact (fun k_ hk => ⟨(Nat.le_trans (bz HB.out) hk), Kd.fresh' (Kd.N_lt (by exact lN <| HO853.out)) k_ hk, Kd.freshB (g := gb847) (lK BK847.out) k_ hk, IsS79.fresh (by exact IsS79.j HI850.out) k_ hk⟩)); (case aO => exact (by exact lN <| Kd.N_mono HO857.out (fun _ hk => ⟨hk.1.1, ⟨hk.1.2.1, ⟨hk.1.2.2.1, hk.1.2.2.2⟩⟩⟩))); (case aS => exact (bz HB.out)); (case aL => have := LMc14.out; omega); intro v864 w17 ho hb hg hat; rw [← Ny863.out] at ho; replace BK847 := aM (blk_grown (g := gb847) (lK BK847.out) hg (Kd.N_ne HO857.out BK847.out (by decide))); replace HI850 := aM (IsS79.grown (by exact IsS79.j HI850.out) hg (IsS79.own_neN HI850.out HO857.out (by decide))); replace HO853 := aM (Kd.N_afterv (ok := (fun k_ => (w.heap.size ≤ k_) ∧ some k_ ≠ ownBlock (.slice Ao18 y860.length co18) ∧ k_ ≠ gb847 ∧ k_ ≠ g850)) (by exact lN <| Kd.N_mono HO853.out (fun _ hk => ⟨⟨hk.1.1.1, ⟨hk.2, ⟨hk.1.1.2.1, hk.1.1.2.2⟩⟩⟩, hk.1.2⟩)) hg hat); replace HB := aM (hb); have HO865 := aM (ho); clear HO857 HO862 ho hb hg hat))
   go_meet
   case rel => exact ⟨_, (y863), H', ⟨by first | omega | exact Nat.le_refl _⟩, ⟨by exact lN <| Kd.N_mono HO865.out (fun _ hk => ⟨hk.1, ⟨hk.2.2.1, hk.2.2.2⟩⟩)⟩, ⟨by exact lK <| BK847.out⟩, ⟨by exact IsS79.j HI850.out⟩, ⟨by exact jB HB.out⟩⟩
  ·rw [if_neg c13] at H; have c13b0 := beq_eq_false_iff_ne.mpr c13
   have c13b1 := bne_iff_ne.mpr c13
   (first | rw [c13b0] | (simp only [i64_w, i32_w]; rw [c13b0]) | skip)
   have H' := aM H
   clear H; go_wp2
   go_meet
   case rel => exact ⟨_, (t855), H', ⟨by first | omega | exact Nat.le_refl _⟩, ⟨by exact lN <| Kd.N_mono HO857.out (fun _ hk => ⟨hk.1, ⟨hk.2.2.1, hk.2.2.2⟩⟩)⟩, ⟨by exact lK <| BK847.out⟩, ⟨by exact IsS79.j HI850.out⟩, ⟨by exact jB HB.out⟩⟩
 case rest =>
  clear HC6; (try clear c1); (try clear c2); (try clear p2); (try clear c4); (try clear c13); (try clear c13b0); (try clear c13b1); (try clear c14); (try clear HO_7)
  obtain ⟨kq, x7_5, HA, HJ5, HO_7, BK847, HI850, HB⟩ := hcut
  cases kq with
  | zero => exact absurd HA.out (by simp [spec_DrawTrtKeeps.j0])
  | succ kj5 =>
   have H := HA.out
   clear HA; simp only [spec_DrawTrtKeeps.j0] at H
   obtain ⟨⟨t866, t869, t872⟩, A19, H⟩ := bS H
   try dsimp only at H
   obtain ⟨⟨t873, t874⟩, A20, H⟩ := bS H
   try dsimp only at H
   obtain ⟨⟨t875, t876⟩, A21, H⟩ := bS H
   try dsimp only at H
   obtain ⟨⟨t877, t880⟩, A22, H⟩ := bS H
   try dsimp only at H
   simp only [Option.some.injEq, Prod.mk.injEq] at H
   obtain ⟨rfl, rfl, rfl, rfl, rfl⟩ := H
   go_wp2_with (first | (refine gL (some 21) Try.func49 #[.pointer (some ⟨g850, 0, none⟩), .int .i64 12] ?_; (with_reducible refine (spec_l20Treaty.calls kj5 g850 t848 t859 12 t866 t869 t872 w _ (by exact IsS79.j HI850.out) (by exact jB HB.out) A19.out).mono ?_); rintro e w23 ⟨v867, v870, rfl, ho0, ho1, hi, hb, hk⟩; refine ⟨_, rfl, ?_⟩; replace HO_7 := aM (Kd.N_mono (Kd.N_told (Kd.N_told (Kd.N_oldK (Kd.N_mono (ok := fun k_ => (((w.heap.size ≤ k_)) ∧ (k_ ≠ gb847 ∧ k_ ≠ g850))) (by exact lN <| HO_7.out) (fun k_ hk_ => (⟨hk_, hk_.2.2⟩ : _ ∧ k_ ≠ g850))) hk) (Kd.R_base ho0)) (Kd.R_base ho1)) (fun _ h_ => h_.1)); replace BK847 := aM (kb hk BK847.out NB847_850.out); have HO868 := aM (nB ho0 HB.out); have HO871 := aM (nB ho1 HB.out); replace HB := aM (hb); replace HI850 := aM (hi); (try clear hb hk hi); (try clear ho0); (try clear ho1)) | (refine gL (some 24) Try.func48 #[.pointer (some ⟨g850, 0, none⟩), .int .i64 4] ?_; (with_reducible refine (spec_l20Rd_pick.calls kj5 g850 t848 t872 4 t873 t874 w _ (by exact IsS79.j HI850.out) (by exact jB HB.out) A20.out).mono ?_); rintro e w24 ⟨rfl, hi, hb, hk⟩; refine ⟨_, rfl, ?_⟩; replace HO_7 := aM (Kd.N_mono (Kd.N_keep (Kd.N_mono (ok := fun k_ => (((((w.heap.size ≤ k_)) ∧ (k_ ≠ gb847 ∧ k_ ≠ g850)) ∧ some k_ ≠ v867.ownBlock) ∧ some k_ ≠ v870.ownBlock)) (by exact lN <| HO_7.out) (fun k_ hk_ => (⟨hk_, hk_.1.1.2.2⟩ : _ ∧ k_ ≠ g850))) hk (fun _ h => h.2)) (fun _ h => h.1)); replace BK847 := aM (kb hk BK847.out NB847_850.out); replace HO868 := aM (Kd.R_mono (Kd.R_keep (IsS79.apart (show IsS79 w _ g850 t848 t872 from by exact IsS79.j HI850.out) (by exact lR HO868.out) (by decide)) hk (fun _ h => h.2)) (fun _ h => h.1)); replace HO871 := aM (Kd.R_mono (Kd.R_keep (IsS79.apart (show IsS79 w _ g850 t848 t872 from by exact IsS79.j HI850.out) (by exact lR HO871.out) (by decide)) hk (fun _ h => h.2)) (fun _ h => h.1)); replace HB := aM (hb); replace HI850 := aM (hi); (try clear hb hk hi)) | (refine gL (some 26) Try.func48 #[.pointer (some ⟨g850, 0, none⟩), .int .i64 2] ?_; (with_reducible refine (spec_l20Rd_pick.calls kj5 g850 t848 t874 2 t875 t876 w _ (by exact IsS79.j HI850.out) (by exact jB HB.out) A21.out).mono ?_); rintro e w25 ⟨rfl, hi, hb, hk⟩; refine ⟨_, rfl, ?_⟩; replace HO_7 := aM (Kd.N_mono (Kd.N_keep (Kd.N_mono (ok := fun k_ => (((((w.heap.size ≤ k_)) ∧ (k_ ≠ gb847 ∧ k_ ≠ g850)) ∧ some k_ ≠ v867.ownBlock) ∧ some k_ ≠ v870.ownBlock)) (by exact lN <| HO_7.out) (fun k_ hk_ => (⟨hk_, hk_.1.1.2.2⟩ : _ ∧ k_ ≠ g850))) hk (fun _ h => h.2)) (fun _ h => h.1)); replace BK847 := aM (kb hk BK847.out NB847_850.out); replace HO868 := aM (Kd.R_mono (Kd.R_keep (IsS79.apart (show IsS79 w _ g850 t848 t874 from by exact IsS79.j HI850.out) (by exact lR HO868.out) (by decide)) hk (fun _ h => h.2)) (fun _ h => h.1)); replace HO871 := aM (Kd.R_mono (Kd.R_keep (IsS79.apart (show IsS79 w _ g850 t848 t874 from by exact IsS79.j HI850.out) (by exact lR HO871.out) (by decide)) hk (fun _ h => h.2)) (fun _ h => h.1)); replace HB := aM (hb); replace HI850 := aM (hi); (try clear hb hk hi)) | (refine gL (some 29) Try.func50 #[.pointer (some ⟨g850, 0, none⟩), .int .i64 6] ?_; (with_reducible refine (spec_l20Added.calls kj5 g850 t848 t876 6 t877 t880 w _ (by exact IsS79.j HI850.out) (by exact jB HB.out) A22.out).mono ?_); rintro e w26 ⟨v878, rfl, ho0, hi, hb, hk⟩; refine ⟨_, rfl, ?_⟩; replace HO_7 := aM (Kd.N_mono (Kd.N_told (Kd.N_oldK (Kd.N_mono (ok := fun k_ => (((((w.heap.size ≤ k_)) ∧ (k_ ≠ gb847 ∧ k_ ≠ g850)) ∧ some k_ ≠ v867.ownBlock) ∧ some k_ ≠ v870.ownBlock)) (by exact lN <| HO_7.out) (fun k_ hk_ => (⟨hk_, hk_.1.1.2.2⟩ : _ ∧ k_ ≠ g850))) hk) (Kd.R_base ho0)) (fun _ h_ => h_.1)); replace BK847 := aM (kb hk BK847.out NB847_850.out); have HO879 := aM (nB2 ho0 HB.out (rl HO868.out) (rl HO871.out)); replace HO868 := aM (Kd.R_mono (Kd.R_told (Kd.R_oldK (IsS79.apart (show IsS79 w _ g850 t848 t876 from by exact IsS79.j HI850.out) (by exact lR HO868.out) (by decide)) hk) (Kd.R_base ho0)) (fun _ h_ => h_.1)); replace HO871 := aM (Kd.R_mono (Kd.R_told (Kd.R_oldK (IsS79.apart (show IsS79 w _ g850 t848 t876 from by exact IsS79.j HI850.out) (by exact lR HO871.out) (by decide)) hk) (Kd.R_base ho0)) (fun _ h_ => h_.1)); replace HB := aM (hb); replace HI850 := aM (hi); (try clear hb hk hi); (try clear ho0); obtain ⟨Ao27, co27, rfl⟩ := Kd.R_slice HO868.out; have hnb28 := NB847_850.out; have hnc28 := NB850_847.out; obtain ⟨hcz29_0, hcz29_1, hfz29_0, hfz29_1⟩ := cf2 BK847.out; obtain ⟨Ao30, co30, rfl⟩ := Kd.R_slice HO871.out))
   refine bodyPost_ret (results_list (rs := [.cell 2 45, .tmp 3, .tmp 4, .tmp 5]) rfl (by simp) (.cell gb847 45 #[.slice Ao27 t866.length co27, .slice Ao30 t869.length co30] (0, 0) _ rfl (by exact p2 (lK BK847.out)) Try.underlying45 rfl (by kernel_rfl) (.tmp (.tmp (.tmp .nil))))) rfl ?_
   exact ⟨_, _, _, _, er, by exact lR <| Kd.R_mono (Kd.R_far (p := ⟨gb847, 1, none⟩) (Kd.R_far (p := ⟨gb847, 0, none⟩) (Kd.R_types HO868.out BK847.out (by decide)) (fun _ hk => by first | exact hk.2 | exact fun e_ => hk.2 (e_.trans (ob _ _ _ _))) (.slice Ao27 t866.length co27)) (fun _ hk => by first | exact hk.2 | exact fun e_ => hk.2 (e_.trans (ob _ _ _ _))) (.slice Ao30 t869.length co30)) (fun _ hk => ⟨hk.1.1.1, ⟨hk.1.1.2, hk.1.2⟩⟩), by exact lR <| Kd.R_mono (Kd.R_far (p := ⟨gb847, 1, none⟩) (Kd.R_far (p := ⟨gb847, 0, none⟩) (Kd.R_types HO871.out BK847.out (by decide)) (fun _ hk => by first | exact hk.2 | exact fun e_ => hk.2 (e_.trans (ob _ _ _ _))) (.slice Ao27 t866.length co27)) (fun _ hk => by first | exact hk.2 | exact fun e_ => hk.2 (e_.trans (ob _ _ _ _))) (.slice Ao30 t869.length co30)) (fun _ hk => ⟨hk.1.1.1, ⟨hk.1.1.2, hk.1.2⟩⟩), by exact lN <| Kd.N_mono (Kd.N_far (p := ⟨gb847, 1, none⟩) (Kd.N_far (p := ⟨gb847, 0, none⟩) (Kd.N_mono HO_7.out (fun k_ hk => (⟨hk, hk.1.1.1.2.1⟩ : _ ∧ k_ ≠ gb847))) (fun _ hk => by first | exact hk.2 | exact fun e_ => hk.2 (e_.trans (ob _ _ _ _))) (.slice Ao27 t866.length co27)) (fun _ hk => by first | exact hk.2 | exact fun e_ => hk.2 (e_.trans (ob _ _ _ _))) (.slice Ao30 t869.length co30)) (fun _ hk => ⟨hk.1.1.1.1.1, ⟨hk.1.1.1.2, ⟨hk.1.1.2, hk.1.2⟩⟩⟩), by exact lR <| Kd.R_mono (Kd.R_far (p := ⟨gb847, 1, none⟩) (Kd.R_far (p := ⟨gb847, 0, none⟩) (Kd.R_types HO879.out BK847.out (by decide)) (fun _ hk => by first | exact hk.2 | exact fun e_ => hk.2 (e_.trans (ob _ _ _ _))) (.slice Ao27 t866.length co27)) (fun _ hk => by first | exact hk.2 | exact fun e_ => hk.2 (e_.trans (ob _ _ _ _))) (.slice Ao30 t869.length co30)) (fun _ hk => ⟨hk.1.1.1.1, ⟨hk.1.1.2, hk.1.2⟩⟩), by exact jB HB.out⟩
-- NOT PRINTED: function 74 (slices_IndexFunc_int_int_74)
-- NOT PRINTED: function 61 (slices_ContainsFunc_int_int_61)
/-! ### impl_in: function 54 -/
def impl_in.f (a0 : Int) (a1 : Int) (a2 : Int) : Option (Bool) := if a0 ≥ a1 then (some (decide (a0 ≤ a2))) else (some false)
theorem impl_in.calls (a0 : Int) (a1 : Int) (a2 : Int) (r : Bool) (w : World) (h : impl_in.f a0 a1 a2 = some r) :
  Calls Try.prog 54 #[.int .i64 a0, .int .i64 a1, .int .i64 a2] w fun e w' => e = .returned (.bool r) ∧ Drawn0 w w' := by
 have H : (if a0 ≥ a1 then (some (decide (a0 ≤ a2))) else (some false)) = some r := h
 clear h
 by_cases c4 : a0 ≥ a1
 ·rw [if_pos c4] at H; replace c4 := decide_eq_true c4; obtain rfl := Option.some.inj H
  go_enter Try.func54, Try.ntmps54
  go_wp2
  go_ret
  exact ⟨by first | rfl | (simp; done) | (simp [*]; done), by repeat (first | exact Drawn0.refl _ | apply Drawn0.step)⟩
 ·rw [if_neg c4] at H; replace c4 := decide_eq_false c4; obtain rfl := Option.some.inj H
  go_enter Try.func54, Try.ntmps54
  go_wp2
  go_ret
  exact ⟨by first | rfl | (simp; done) | (simp [*]; done), by repeat (first | exact Drawn0.refl _ | apply Drawn0.step)⟩
-- NOT PRINTED: function 67 (impl_within_1)
/-! ### impl_within: function 33, by hand -/
set_option maxHeartbeats 1000000 in
theorem idx_ints (q : Int → Bool) (g : Nat) (lb : Array Value) (eg : ∀ args w, (callFunc g args).run Try.prog w = .ok (.enter g args) w) (A0 : Option Addr) (c0 : Nat) (xs : List Int) (w : World)
  (hr : Kd.C (Kd.int .i64) w A0 xs.length xs) (hp : ∀ x, x ∈ xs → ∀ W : World, Below w.heap.size w W → Calls Try.prog g (#[.int .i64 x] ++ lb) W fun e w' => e = .returned (.bool (q x)) ∧ Below W.heap.size W w') :
  Calls Try.prog 74 #[.slice A0 xs.length c0, .func (.func g) #[] lb] w fun e w' => e = .returned (.int .i64 (idxOf q xs)) ∧ Below w.heap.size w w' := by
 have hm := Kd.C_max hr
 have HR := aM hr; have HP := aM hp; clear hr hp; go_enter Try.func74, Try.ntmps74
 go_wp2
 go_loopg [5, 8] xs.length (fun gg _ s8 wr => ∃ x : Int, s8 = .int .i64 x ∧ Aside0 (0 ≤ x ∧ x ≤ xs.length ∧ (xs.length : Int) - x ≤ gg) ∧ Aside0 (Below w.heap.size w wr) ∧ Aside0 (∀ j : Int, 0 ≤ j → j < x → q (xs.getD j.toNat 0) = false))
 case atStart => exact ⟨0, rfl, ⟨by omega, by omega, by omega⟩, ⟨Below.refl _ _⟩, ⟨fun j h0 h1 => by omega⟩⟩
 case round =>
  obtain ⟨x, rfl, HX, HB, HN⟩ := hrel
  have p1 := HX.out.1
  by_cases hlt : x < (xs.length : Int)
  ·obtain ⟨ad, e1, hx⟩ := Kd.at_int (Kd.C_below HR.out HB.out) x p1 hlt
   cases e1; have hcall := HP.out (rd xs x) (mem_rd 0 xs x p1 hlt) _ HB.out
   cases hq : q (rd xs x) with
   | true =>
    rw [hq] at hcall
    have HQ := aM hq; clear hq; have HC := aM hcall; clear hcall; go_wp2_with (go_at_fn g; refine HC.out.mono ?_; rintro e w' ⟨rfl, hb⟩)
    go_ret
    refine ⟨?_, below_then HB.out HB.out.size hb⟩
    rw [idxOf_hit 0 x p1 hlt HQ.out HN.out]
    rfl
   | false =>
    rw [hq] at hcall
    have HQ := aM hq; clear hq; have HC := aM hcall; clear hcall; go_wp2_with (go_at_fn g; refine HC.out.mono ?_; rintro e w' ⟨rfl, hb⟩)
    go_roundg (xs.length - (x.toNat + 1))
    case measure => have := HX.out; omega
    case rel =>
     refine ⟨x + 1, by go_num, ⟨by have := HX.out; omega, by have := HX.out; omega, by have := HX.out; omega⟩, ⟨below_then HB.out HB.out.size hb⟩, ⟨fun j h0 h1 => ?_⟩⟩
     by_cases e : j = x
     ·subst e; exact HQ.out
     ·exact HN.out j h0 (by omega)
  ·go_wp2
   go_ret
   refine ⟨?_, HB.out⟩
   rw [idxOf_miss 0 (fun j h0 h1 => HN.out j h0 (by have := HX.out; omega))]
   rfl
set_option maxHeartbeats 1000000 in
theorem has_ints (q : Int → Bool) (g : Nat) (lb : Array Value) (eg : ∀ args w, (callFunc g args).run Try.prog w = .ok (.enter g args) w) (A0 : Option Addr) (c0 : Nat) (xs : List Int) (w : World)
  (hr : Kd.C (Kd.int .i64) w A0 xs.length xs) (hp : ∀ x, x ∈ xs → ∀ W : World, Below w.heap.size w W → Calls Try.prog g (#[.int .i64 x] ++ lb) W fun e w' => e = .returned (.bool (q x)) ∧ Below W.heap.size W w') :
  Calls Try.prog 61 #[.slice A0 xs.length c0, .func (.func g) #[] lb] w fun e w' => e = .returned (.bool (xs.any q)) ∧ Below w.heap.size w w' := by
 have HC := aM (idx_ints q g lb eg A0 c0 xs w hr hp); rw [← idxOf_any q xs]
 generalize idxOf q xs = n at HC
 clear hr hp; go_enter Try.func61, Try.ntmps61
 go_wp2_with (go_at_call 74; refine HC.out.mono ?_; rintro e w' ⟨rfl, hb⟩)
 go_ret
 exact ⟨rfl, hb⟩
def inB (n lo hi : Int) : Bool := decide (lo ≤ n) && decide (n ≤ hi)
theorem in_inB (n lo hi : Int) : impl_in.f n lo hi = some (inB n lo hi) := by
 unfold impl_in.f inB
 by_cases h : n ≥ lo
 ·rw [if_pos h]; simp [h]
 ·rw [if_neg h]; simp [h]
set_option maxHeartbeats 1000000 in
theorem within_pred (most : Int) (B : Nat) (W : World) (x : Int) (hc : W.cell? ⟨B, 0, none⟩ = some (.int .i64 most)) :
  Calls Try.prog 67 (#[.int .i64 x] ++ #[.pointer (some ⟨B, 0, none⟩)]) W fun e w' => e = .returned (.bool (!inB x (wrap64 (-most)) most)) ∧ Below W.heap.size W w' := by
 show Calls Try.prog 67 #[.int .i64 x, .pointer (some ⟨B, 0, none⟩)] W _
 have HI := aM (impl_in.calls x (wrap64 (-most)) most (inB x (wrap64 (-most)) most) W (in_inB _ _ _)); go_enter Try.func67, Try.ntmps67
 go_wp2_with (go_at_call 54; refine HI.out.mono ?_; rintro e w' ⟨rfl, hd⟩)
 go_ret
 exact ⟨rfl, hd.below⟩
def impl_within.f (l0 : List Int) (a1 : Int) (a2 : Int) : Option (Bool) := some (decide ((l0.length : Int) = a1) && !(l0.any fun x => !inB x (wrap64 (-a2)) a2))
theorem impl_within.calls (A0 : Option Addr) (c0 : Nat) (l0 : List Int) (a1 : Int) (a2 : Int) (r : Bool) (w : World) (hr0 : Kd.C (Kd.int .i64) w A0 l0.length l0) (hc0 : l0.length ≤ c0) (h : impl_within.f l0 a1 a2 = some r) :
  Calls Try.prog 33 #[.slice A0 l0.length c0, .int .i64 a1, .int .i64 a2] w fun e w' => e = .returned (.bool r) ∧ Below w.heap.size w w' := by
 obtain rfl := Option.some.inj h
 clear h; have eg : ∀ args w, (callFunc 67 args).run Try.prog w = .ok (.enter 67 args) w := enters_of Try.func67 (by kernel_rfl) rfl
 have HC := aM (has_ints (fun x => !inB x (wrap64 (-a2)) a2) 67 #[.pointer (some ⟨w.heap.size, 0, none⟩)] eg A0 c0 l0 (w.alloc (.cells #[.int .i64 a2] 3)) (Kd.C_alloc hr0 _)
  (fun x _ W hb => within_pred a2 w.heap.size W x ((hb.cell (p := ⟨w.heap.size, 0, none⟩) (by simp)).trans (by simp))))
 clear hr0
 by_cases hn : (l0.length : Int) = a1
 ·have hb1 : ((l0.length : Int) == a1) = true := beq_iff_eq.mpr hn
  have hd : decide ((l0.length : Int) = a1) = true := decide_eq_true hn
  rw [hd]
  clear hn hd; generalize l0.any (fun x => !inB x (wrap64 (-a2)) a2) = b at HC
  go_enter Try.func33, Try.ntmps33
  go_wp2_with (go_at_call 61; refine HC.out.mono ?_; rintro e w' ⟨rfl, hb⟩)
  go_ret
  exact ⟨by simp, below_then (below_alloc (Below.refl _ _) _) (by simp) hb⟩
 ·have hb1 : ((l0.length : Int) == a1) = false := beq_eq_false_iff_ne.mpr hn
  have hd : decide ((l0.length : Int) = a1) = false := decide_eq_false hn
  rw [hd]
  clear hn hd HC; go_enter Try.func33, Try.ntmps33
  go_wp2
  go_ret
  exact ⟨by simp, below_alloc (Below.refl _ _) _⟩
/-! ### impl_ValOk: function 8 -/
def impl_ValOk.f (l0 : List Int) : Option (Bool) := (impl_within.f l0 3 10000).bind fun t881 => (some t881)
theorem impl_ValOk.calls (A0 : Option Addr) (c0 : Nat) (l0 : List Int) (r : Bool) (w : World) (hr0 : Kd.C (Kd.int .i64) w A0 l0.length l0) (hc0 : l0.length ≤ c0) (h : impl_ValOk.f l0 = some r) :
  Calls Try.prog 8 #[.slice A0 l0.length c0] w fun e w' => e = .returned (.bool r) ∧ Below w.heap.size w w' := by
 have HR0 := aM hr0; have HC0 := aM hc0; clear hr0 hc0; have HB := aM (Below.refl w.heap.size w); have H : ((impl_within.f l0 3 10000).bind fun t881 => (some t881)) = some r := h
 clear h; obtain ⟨t881, A2, H⟩ := bS H
 try dsimp only at H
 obtain rfl := Option.some.inj H
 go_enter Try.func8, Try.ntmps8
 go_wp2_with (first | (refine gL (some 4) Try.func33 #[.slice A0 l0.length c0, .int .i64 3, .int .i64 10000] ?_; (with_reducible refine (impl_within.calls _ _ l0 3 10000 t881 _ (by exact lC HR0.out) HC0.out A2.out).mono ?_); rintro e w3 ⟨rfl, hb⟩; refine ⟨_, rfl, ?_⟩; replace HB := aM (bj HB.out hb); (try clear hb)))
 go_ret
 exact ⟨er, by exact lB HB.out⟩
-- NOT PRINTED: function 60 (impl_TrtOk_1)
/-! ### impl_TrtOk: function 23, by hand -/
def withinB (l : List Int) (n m : Int) : Bool := decide ((l.length : Int) = n) && !(l.any fun x => !inB x (wrap64 (-m)) m)
theorem within_calls (A : Option Addr) (c : Nat) (l : List Int) (n m : Int) (w : World) (hr : Kd.C (Kd.int .i64) w A l.length l) (hc : l.length ≤ c) :
  Calls Try.prog 33 #[.slice A l.length c, .int .i64 n, .int .i64 m] w fun e w' => e = .returned (.bool (withinB l n m)) ∧ Below w.heap.size w w' := impl_within.calls A c l n m _ w hr hc rfl
theorem in_calls (a lo hi : Int) (w : World) : Calls Try.prog 54 #[.int .i64 a, .int .i64 lo, .int .i64 hi] w fun e w' => e = .returned (.bool (inB a lo hi)) ∧ Drawn0 w w' := impl_in.calls a lo hi _ w (in_inB _ _ _)
theorem val_calls (A : Option Addr) (c : Nat) (l : List Int) (w : World) (hr : Kd.C (Kd.int .i64) w A l.length l) (hc : l.length ≤ c) :
  Calls Try.prog 8 #[.slice A l.length c] w fun e w' => e = .returned (.bool (withinB l 3 10000)) ∧ Below w.heap.size w w' := impl_ValOk.calls A c l _ w hr hc rfl
set_option maxHeartbeats 1000000 in
theorem trt_pred (W : World) (x : Int) : Calls Try.prog 60 (#[.int .i64 x] ++ #[]) W fun e w' => e = .returned (.bool (!inB x 0 50)) ∧ Below W.heap.size W w' := by
 show Calls Try.prog 60 #[.int .i64 x] W _
 have HC := aM (in_calls x 0 50 W); generalize inB x 0 50 = b at HC ⊢
 go_enter Try.func60, Try.ntmps60
 go_wp2_with (go_at_call 54; refine HC.out.mono ?_; rintro e w' ⟨rfl, hb⟩)
 go_ret
 exact ⟨rfl, hb.below⟩
def impl_TrtOk.f (l0_0 : List Int) (l0_1 : List Int) : Option (Bool) := some (withinB l0_0 3 10000 && (inB (l0_1.length : Int) 1 3 && !(l0_1.any fun x => !inB x 0 50)))
theorem impl_TrtOk.calls (A0_0 : Option Addr) (c0_0 : Nat) (l0_0 : List Int) (A0_1 : Option Addr) (c0_1 : Nat) (l0_1 : List Int) (r : Bool) (w : World) (hr0_0 : Kd.C (Kd.int .i64) w A0_0 l0_0.length l0_0) (hc0_0 : l0_0.length ≤ c0_0) (hr0_1 : Kd.C (Kd.int .i64) w A0_1 l0_1.length l0_1) (hc0_1 : l0_1.length ≤ c0_1) (h : impl_TrtOk.f l0_0 l0_1 = some r) :
  Calls Try.prog 23 #[.agg #[.slice A0_0 l0_0.length c0_0, .slice A0_1 l0_1.length c0_1]] w fun e w' => e = .returned (.bool r) ∧ Below w.heap.size w w' := by
 obtain rfl := Option.some.inj h
 clear h; have eg : ∀ args w, (callFunc 60 args).run Try.prog w = .ok (.enter 60 args) w := enters_of Try.func60 (by kernel_rfl) rfl
 have hm := Kd.C_max hr0_1
 have HV := aM (fun (W : World) (hb : Below w.heap.size w W) => val_calls A0_0 c0_0 l0_0 W (Kd.C_below hr0_0 hb) hc0_0); have HI := aM (fun (W : World) => in_calls (l0_1.length : Int) 1 3 W); have HC := aM (fun (W : World) (hb : Below w.heap.size w W) => has_ints (fun x => !inB x 0 50) 60 #[] eg A0_1 c0_1 l0_1 W (Kd.C_below hr0_1 hb) (fun x _ W _ => trt_pred W x)); clear hr0_0 hr0_1; generalize withinB l0_0 3 10000 = b1 at HV ⊢
 generalize inB (l0_1.length : Int) 1 3 = b2 at HI ⊢
 generalize l0_1.any (fun x => !inB x 0 50) = b3 at HC ⊢
 have B0 : Below w.heap.size w (w.alloc (.cells #[.slice A0_0 l0_0.length c0_0, .slice A0_1 l0_1.length c0_1] 45)) := below_alloc (Below.refl _ _) _
 have HB0 := aM B0; clear B0; cases b1 <;> cases b2
 all_goals
  go_enter Try.func23, Try.ntmps23
  go_wp2_with (first
   | (go_at_call 8; refine (HV.out _ HB0.out).mono ?_; rintro e w1 ⟨rfl, hb1⟩; have hx1 : w1.cell? ⟨w.heap.size, 1, none⟩ = some (.slice A0_1 l0_1.length c0_1) := (hb1.cell (p := ⟨w.heap.size, 1, none⟩) (by simp)).trans (by simp); have HB1 := aM (below_then HB0.out HB0.out.size hb1); clear hb1)
   | (go_at_call 54; refine (HI.out _).mono ?_; rintro e w2 ⟨rfl, ⟨n2, rfl⟩⟩)
   | (go_at_call 61; refine (HC.out _ (pw_below_drewN HB1.out _)).mono ?_; rintro e w3 ⟨rfl, hb3⟩; have HB3 := aM (below_then (pw_below_drewN HB1.out _) (pw_below_drewN HB1.out _).size hb3); clear hb3))
  go_ret
  exact ⟨by simp, by first | exact HB3.out | exact pw_below_drewN HB1.out _ | exact HB1.out⟩
-- NOT PRINTED: function 73 (slices_IndexFunc_int_int_73)
-- NOT PRINTED: function 52 (slices_ContainsFunc_int_int_52)
-- NOT PRINTED: function 87 (impl_partsOk_1)
/-! ### impl_partsOk: function 71, by hand -/
set_option maxHeartbeats 1000000 in
theorem idx_rows (q : List Int → Bool) (g : Nat) (lb : Array Value) (eg : ∀ args w, (callFunc g args).run Try.prog w = .ok (.enter g args) w) (A0 : Option Addr) (c0 : Nat) (xs : List (List Int)) (w : World)
  (hr : Kd.C (Kd.slice 3 (Kd.int .i64)) w A0 xs.length xs) (hp : ∀ x, x ∈ xs → ∀ (W : World) (A : Option Addr) (c : Nat), Below w.heap.size w W → x.length ≤ c → Kd.C (Kd.int .i64) W A x.length x → Calls Try.prog g (#[.slice A x.length c] ++ lb) W fun e w' => e = .returned (.bool (q x)) ∧ Below W.heap.size W w') :
  Calls Try.prog 73 #[.slice A0 xs.length c0, .func (.func g) #[] lb] w fun e w' => e = .returned (.int .i64 (idxOf q xs)) ∧ Below w.heap.size w w' := by
 have hm := Kd.C_max hr
 have HR := aM hr; have HP := aM hp; clear hr hp; go_enter Try.func73, Try.ntmps73
 go_wp2
 go_loopg [5, 8] xs.length (fun gg _ s8 wr => ∃ x : Int, s8 = .int .i64 x ∧ Aside0 (0 ≤ x ∧ x ≤ xs.length ∧ (xs.length : Int) - x ≤ gg) ∧ Aside0 (Below w.heap.size w wr) ∧ Aside0 (∀ j : Int, 0 ≤ j → j < x → q (xs.getD j.toNat ([] : List Int)) = false))
 case atStart => exact ⟨0, rfl, ⟨by omega, by omega, by omega⟩, ⟨Below.refl _ _⟩, ⟨fun j h0 h1 => by omega⟩⟩
 case round =>
  obtain ⟨x, rfl, HX, HB, HN⟩ := hrel
  have p1 := HX.out.1
  by_cases hlt : x < (xs.length : Int)
  ·obtain ⟨ad, A1, c1, e1, hx, hl1, hi1⟩ := at_L2 (Kd.C_below HR.out HB.out) x p1 hlt
   cases e1; have hcall := HP.out (rd_L2 xs x) (mem_rd ([] : List Int) xs x p1 hlt) _ A1 c1 HB.out hl1 hi1
   cases hq : q (rd_L2 xs x) with
   | true =>
    rw [hq] at hcall
    have HQ := aM hq; clear hq; have HC := aM hcall; clear hcall; go_wp2_with (go_at_fn g; refine HC.out.mono ?_; rintro e w' ⟨rfl, hb⟩)
    go_ret
    refine ⟨?_, below_then HB.out HB.out.size hb⟩
    rw [idxOf_hit ([] : List Int) x p1 hlt HQ.out HN.out]
    rfl
   | false =>
    rw [hq] at hcall
    have HQ := aM hq; clear hq; have HC := aM hcall; clear hcall; go_wp2_with (go_at_fn g; refine HC.out.mono ?_; rintro e w' ⟨rfl, hb⟩)
    go_roundg (xs.length - (x.toNat + 1))
    case measure => have := HX.out; omega
    case rel =>
     refine ⟨x + 1, by go_num, ⟨by have := HX.out; omega, by have := HX.out; omega, by have := HX.out; omega⟩, ⟨below_then HB.out HB.out.size hb⟩, ⟨fun j h0 h1 => ?_⟩⟩
     by_cases e : j = x
     ·subst e; exact HQ.out
     ·exact HN.out j h0 (by omega)
  ·go_wp2
   go_ret
   refine ⟨?_, HB.out⟩
   rw [idxOf_miss ([] : List Int) (fun j h0 h1 => HN.out j h0 (by have := HX.out; omega))]
   rfl
set_option maxHeartbeats 1000000 in
theorem has_rows (q : List Int → Bool) (g : Nat) (lb : Array Value) (eg : ∀ args w, (callFunc g args).run Try.prog w = .ok (.enter g args) w) (A0 : Option Addr) (c0 : Nat) (xs : List (List Int)) (w : World)
  (hr : Kd.C (Kd.slice 3 (Kd.int .i64)) w A0 xs.length xs) (hp : ∀ x, x ∈ xs → ∀ (W : World) (A : Option Addr) (c : Nat), Below w.heap.size w W → x.length ≤ c → Kd.C (Kd.int .i64) W A x.length x → Calls Try.prog g (#[.slice A x.length c] ++ lb) W fun e w' => e = .returned (.bool (q x)) ∧ Below W.heap.size W w') :
  Calls Try.prog 52 #[.slice A0 xs.length c0, .func (.func g) #[] lb] w fun e w' => e = .returned (.bool (xs.any q)) ∧ Below w.heap.size w w' := by
 have HC := aM (idx_rows q g lb eg A0 c0 xs w hr hp); rw [← idxOf_any q xs]
 generalize idxOf q xs = n at HC
 clear hr hp; go_enter Try.func52, Try.ntmps52
 go_wp2_with (go_at_call 73; refine HC.out.mono ?_; rintro e w' ⟨rfl, hb⟩)
 go_ret
 exact ⟨rfl, hb⟩
set_option maxHeartbeats 1000000 in
theorem parts_pred (W : World) (A : Option Addr) (c : Nat) (x : List Int) (hc : x.length ≤ c) (hr : Kd.C (Kd.int .i64) W A x.length x) : Calls Try.prog 87 (#[.slice A x.length c] ++ #[]) W fun e w' => e = .returned (.bool (!withinB x 3 10000000)) ∧ Below W.heap.size W w' := by
 show Calls Try.prog 87 #[.slice A x.length c] W _
 have HC := aM (within_calls A c x 3 10000000 W hr hc); clear hr; generalize withinB x 3 10000000 = b at HC ⊢
 go_enter Try.func87, Try.ntmps87
 go_wp2_with (go_at_call 33; refine HC.out.mono ?_; rintro e w' ⟨rfl, hb⟩)
 go_ret
 exact ⟨rfl, hb⟩
def impl_partsOk.f (l0 : List (List Int)) : Option (Bool) := some (!(l0.any fun x => !withinB x 3 10000000))
theorem impl_partsOk.calls (A0 : Option Addr) (c0 : Nat) (l0 : List (List Int)) (r : Bool) (w : World) (hr0 : Kd.C (Kd.slice 3 (Kd.int .i64)) w A0 l0.length l0) (hc0 : l0.length ≤ c0) (h : impl_partsOk.f l0 = some r) :
  Calls Try.prog 71 #[.slice A0 l0.length c0] w fun e w' => e = .returned (.bool r) ∧ Below w.heap.size w w' := by
 obtain rfl := Option.some.inj h
 clear h; have eg : ∀ args w, (callFunc 87 args).run Try.prog w = .ok (.enter 87 args) w := enters_of Try.func87 (by kernel_rfl) rfl
 have HC := aM (has_rows (fun x => !withinB x 3 10000000) 87 #[] eg A0 c0 l0 w hr0 (fun x _ W A c _ hl hi => parts_pred W A c x hl hi)); clear hr0; generalize l0.any (fun x => !withinB x 3 10000000) = b at HC ⊢
 go_enter Try.func71, Try.ntmps71
 go_wp2_with (go_at_call 52; refine HC.out.mono ?_; rintro e w' ⟨rfl, hb⟩)
 go_ret
 exact ⟨rfl, hb⟩
/-! ### impl_addedOk: function 72 -/
def impl_addedOk.f (l0 : List Int) : Option (Bool) := (impl_within.f l0 3 20000).bind fun t882 => (some t882)
theorem impl_addedOk.calls (A0 : Option Addr) (c0 : Nat) (l0 : List Int) (r : Bool) (w : World) (hr0 : Kd.C (Kd.int .i64) w A0 l0.length l0) (hc0 : l0.length ≤ c0) (h : impl_addedOk.f l0 = some r) :
  Calls Try.prog 72 #[.slice A0 l0.length c0] w fun e w' => e = .returned (.bool r) ∧ Below w.heap.size w w' := by
 have HR0 := aM hr0; have HC0 := aM hc0; clear hr0 hc0; have HB := aM (Below.refl w.heap.size w); have H : ((impl_within.f l0 3 20000).bind fun t882 => (some t882)) = some r := h
 clear h; obtain ⟨t882, A2, H⟩ := bS H
 try dsimp only at H
 obtain rfl := Option.some.inj H
 go_enter Try.func72, Try.ntmps72
 go_wp2_with (first | (refine gL (some 4) Try.func33 #[.slice A0 l0.length c0, .int .i64 3, .int .i64 20000] ?_; (with_reducible refine (impl_within.calls _ _ l0 3 20000 t882 _ (by exact lC HR0.out) HC0.out A2.out).mono ?_); rintro e w3 ⟨rfl, hb⟩; refine ⟨_, rfl, ?_⟩; replace HB := aM (bj HB.out hb); (try clear hb)))
 go_ret
 exact ⟨er, by exact lB HB.out⟩
/-! ### impl_TrtTreaty_ok: function 51 -/
def impl_TrtTreaty_ok.f (l0_0 : List Int) (l0_1 : List Int) (l1 : List (List Int)) (a2 : Int) (l3 : List Int) : Option (Bool) := (impl_TrtOk.f l0_0 l0_1).bind fun t884 => (if t884 = true then ((impl_partsOk.f l1).bind fun t885 => (if t885 = true then ((impl_in.f a2 0 (wrap64 ((l0_1.length : Int) - 1))).bind fun t886 => (if t886 = true then ((impl_addedOk.f l3).bind fun t887 => (some t887)) else (some false))) else (some false))) else (some false))
theorem impl_TrtTreaty_ok.calls (A0_0 : Option Addr) (c0_0 : Nat) (l0_0 : List Int) (A0_1 : Option Addr) (c0_1 : Nat) (l0_1 : List Int) (A1 : Option Addr) (c1 : Nat) (l1 : List (List Int)) (a2 : Int) (A3 : Option Addr) (c3 : Nat) (l3 : List Int) (r : Bool) (w : World) (hr0_0 : Kd.C (Kd.int .i64) w A0_0 l0_0.length l0_0) (hc0_0 : l0_0.length ≤ c0_0) (hr0_1 : Kd.C (Kd.int .i64) w A0_1 l0_1.length l0_1) (hc0_1 : l0_1.length ≤ c0_1) (hr1 : Kd.C (Kd.slice 3 (Kd.int .i64)) w A1 l1.length l1) (hc1 : l1.length ≤ c1) (hr3 : Kd.C (Kd.int .i64) w A3 l3.length l3) (hc3 : l3.length ≤ c3) (h : impl_TrtTreaty_ok.f l0_0 l0_1 l1 a2 l3 = some r) :
  Calls Try.prog 51 #[.agg #[.slice A0_0 l0_0.length c0_0, .slice A0_1 l0_1.length c0_1], .slice A1 l1.length c1, .int .i64 a2, .slice A3 l3.length c3] w fun e w' => e = .returned (.bool r) ∧ Below w.heap.size w w' := by
 have hu45 := Try.underlying45; have HR0_0 := aM hr0_0; have HC0_0 := aM hc0_0; clear hr0_0 hc0_0; have HR0_1 := aM hr0_1; have HC0_1 := aM hc0_1; clear hr0_1 hc0_1; have HR1 := aM hr1; have HC1 := aM hc1; clear hr1 hc1; have HR3 := aM hr3; have HC3 := aM hc3; clear hr3 hc3; have HB := aM (Below.refl w.heap.size w); have H : ((impl_TrtOk.f l0_0 l0_1).bind fun t884 => (if t884 = true then ((impl_partsOk.f l1).bind fun t885 => (if t885 = true then ((impl_in.f a2 0 (wrap64 ((l0_1.length : Int) - 1))).bind fun t886 => (if t886 = true then ((impl_addedOk.f l3).bind fun t887 => (some t887)) else (some false))) else (some false))) else (some false))) = some r := h
 clear h; obtain ⟨t884, A5, H⟩ := bS H
 try dsimp only at H
 by_cases c6 : t884 = true
 ·subst c6; rw [if_pos rfl] at H
  try dsimp only at H
  obtain ⟨t885, A7, H⟩ := bS H
  try dsimp only at H
  by_cases c8 : t885 = true
  ·subst c8; rw [if_pos rfl] at H
   try dsimp only at H
   obtain ⟨t886, A9, H⟩ := bS H
   try dsimp only at H
   by_cases c10 : t886 = true
   ·subst c10; rw [if_pos rfl] at H
    try dsimp only at H
    obtain ⟨t887, A11, H⟩ := bS H
    try dsimp only at H
    obtain rfl := Option.some.inj H
    go_enter Try.func51, Try.ntmps51
    go_wp2_with (first | ((with_reducible refine gate_dst (N := 4) rfl ?_); (try (refine gate_guard (by rfl) ?_; dsimp only)); refine bx 4 #[.slice A0_0 l0_0.length c0_0, .slice A0_1 l0_1.length c0_1] 45 ?_; intro gb883 hg w12 hbox hb; have BK883 := aM (hbox); have GW883 := aM (gz hg HB.out); have IGW883 := wn GW883.out; have GE883 := aM (gz hg HB.out); have IGE883 := wn GE883.out; replace HB := aM (bj HB.out hb); clear hb hbox hg; obtain ⟨hcz13_0, hcz13_1, hfz13_0, hfz13_1⟩ := cf2 BK883.out) | (refine gL (some 10) Try.func23 #[.agg #[.slice A0_0 l0_0.length c0_0, .slice A0_1 l0_1.length c0_1]] ?_; (with_reducible refine (impl_TrtOk.calls _ _ l0_0 _ _ l0_1 true _ (by exact lC <| (Kd.C_below HR0_0.out HB.out)) HC0_0.out (by exact lC <| (Kd.C_below HR0_1.out HB.out)) HC0_1.out A5.out).mono ?_); rintro e w14 ⟨rfl, hb⟩; refine ⟨_, rfl, ?_⟩; replace BK883 := aM (bb BK883.out hb); replace HB := aM (bj HB.out hb); (try clear hb)) | (go_at_call 71; (with_reducible refine (impl_partsOk.calls _ _ l1 true _ (by exact lC <| (Kd.C_below HR1.out HB.out)) HC1.out A7.out).mono ?_); rintro e w15 ⟨rfl, hb⟩; replace BK883 := aM (bb BK883.out hb); replace HB := aM (bj HB.out hb); (try clear hb); obtain ⟨hcz16_0, hcz16_1, hfz16_0, hfz16_1⟩ := cf2 BK883.out) | (go_at_call 54; (with_reducible refine (impl_in.calls a2 0 (wrap64 ((l0_1.length : Int) - 1)) true _ A9.out).mono ?_); rintro e w' ⟨rfl, ⟨nd, rfl⟩⟩) | (go_at_call 72; (with_reducible refine (impl_addedOk.calls _ _ l3 t887 _ ?side1 ?side2 A11.out).mono ?_); (case side1 => repeat (first | exact (Kd.C_below HR3.out (by exact jB HB.out)) | (with_reducible refine Kd.C_alloc ?_ _) | (with_reducible refine Kd.C_drewN ?_ _) | (with_reducible refine Kd.C_drew ?_))); (case side2 => exact HC3.out); rintro e w17 ⟨rfl, hb⟩; replace BK883 := aM (bb BK883.out hb); replace HB := aM (bj HB.out hb); (try clear hb)))
    go_ret
    exact ⟨er, by exact jB HB.out⟩
   ·replace c10 := Bool.eq_false_iff.mpr c10
    subst c10; rw [if_neg nf] at H
    try dsimp only at H
    obtain rfl := Option.some.inj H
    go_enter Try.func51, Try.ntmps51
    go_wp2_with (first | ((with_reducible refine gate_dst (N := 4) rfl ?_); (try (refine gate_guard (by rfl) ?_; dsimp only)); refine bx 4 #[.slice A0_0 l0_0.length c0_0, .slice A0_1 l0_1.length c0_1] 45 ?_; intro gb883 hg w18 hbox hb; have BK883 := aM (hbox); have GW883 := aM (gz hg HB.out); have IGW883 := wn GW883.out; have GE883 := aM (gz hg HB.out); have IGE883 := wn GE883.out; replace HB := aM (bj HB.out hb); clear hb hbox hg; obtain ⟨hcz19_0, hcz19_1, hfz19_0, hfz19_1⟩ := cf2 BK883.out) | (refine gL (some 10) Try.func23 #[.agg #[.slice A0_0 l0_0.length c0_0, .slice A0_1 l0_1.length c0_1]] ?_; (with_reducible refine (impl_TrtOk.calls _ _ l0_0 _ _ l0_1 true _ (by exact lC <| (Kd.C_below HR0_0.out HB.out)) HC0_0.out (by exact lC <| (Kd.C_below HR0_1.out HB.out)) HC0_1.out A5.out).mono ?_); rintro e w20 ⟨rfl, hb⟩; refine ⟨_, rfl, ?_⟩; replace BK883 := aM (bb BK883.out hb); replace HB := aM (bj HB.out hb); (try clear hb)) | (go_at_call 71; (with_reducible refine (impl_partsOk.calls _ _ l1 true _ (by exact lC <| (Kd.C_below HR1.out HB.out)) HC1.out A7.out).mono ?_); rintro e w21 ⟨rfl, hb⟩; replace BK883 := aM (bb BK883.out hb); replace HB := aM (bj HB.out hb); (try clear hb); obtain ⟨hcz22_0, hcz22_1, hfz22_0, hfz22_1⟩ := cf2 BK883.out) | (go_at_call 54; (with_reducible refine (impl_in.calls a2 0 (wrap64 ((l0_1.length : Int) - 1)) false _ A9.out).mono ?_); rintro e w' ⟨rfl, ⟨nd, rfl⟩⟩))
    go_ret
    exact ⟨er, by exact jB HB.out⟩
  ·replace c8 := Bool.eq_false_iff.mpr c8
   subst c8; rw [if_neg nf] at H
   try dsimp only at H
   obtain rfl := Option.some.inj H
   go_enter Try.func51, Try.ntmps51
   go_wp2_with (first | ((with_reducible refine gate_dst (N := 4) rfl ?_); (try (refine gate_guard (by rfl) ?_; dsimp only)); refine bx 4 #[.slice A0_0 l0_0.length c0_0, .slice A0_1 l0_1.length c0_1] 45 ?_; intro gb883 hg w23 hbox hb; have BK883 := aM (hbox); have GW883 := aM (gz hg HB.out); have IGW883 := wn GW883.out; have GE883 := aM (gz hg HB.out); have IGE883 := wn GE883.out; replace HB := aM (bj HB.out hb); clear hb hbox hg; obtain ⟨hcz24_0, hcz24_1, hfz24_0, hfz24_1⟩ := cf2 BK883.out) | (refine gL (some 10) Try.func23 #[.agg #[.slice A0_0 l0_0.length c0_0, .slice A0_1 l0_1.length c0_1]] ?_; (with_reducible refine (impl_TrtOk.calls _ _ l0_0 _ _ l0_1 true _ (by exact lC <| (Kd.C_below HR0_0.out HB.out)) HC0_0.out (by exact lC <| (Kd.C_below HR0_1.out HB.out)) HC0_1.out A5.out).mono ?_); rintro e w25 ⟨rfl, hb⟩; refine ⟨_, rfl, ?_⟩; replace BK883 := aM (bb BK883.out hb); replace HB := aM (bj HB.out hb); (try clear hb)) | (go_at_call 71; (with_reducible refine (impl_partsOk.calls _ _ l1 false _ (by exact lC <| (Kd.C_below HR1.out HB.out)) HC1.out A7.out).mono ?_); rintro e w26 ⟨rfl, hb⟩; replace BK883 := aM (bb BK883.out hb); replace HB := aM (bj HB.out hb); (try clear hb)))
   go_ret
   exact ⟨er, by exact jB HB.out⟩
 ·replace c6 := Bool.eq_false_iff.mpr c6
  subst c6; rw [if_neg nf] at H
  try dsimp only at H
  obtain rfl := Option.some.inj H
  go_enter Try.func51, Try.ntmps51
  go_wp2_with (first | ((with_reducible refine gate_dst (N := 4) rfl ?_); (try (refine gate_guard (by rfl) ?_; dsimp only)); refine bx 4 #[.slice A0_0 l0_0.length c0_0, .slice A0_1 l0_1.length c0_1] 45 ?_; intro gb883 hg w27 hbox hb; have BK883 := aM (hbox); have GW883 := aM (gz hg HB.out); have IGW883 := wn GW883.out; have GE883 := aM (gz hg HB.out); have IGE883 := wn GE883.out; replace HB := aM (bj HB.out hb); clear hb hbox hg; obtain ⟨hcz28_0, hcz28_1, hfz28_0, hfz28_1⟩ := cf2 BK883.out) | (refine gL (some 10) Try.func23 #[.agg #[.slice A0_0 l0_0.length c0_0, .slice A0_1 l0_1.length c0_1]] ?_; (with_reducible refine (impl_TrtOk.calls _ _ l0_0 _ _ l0_1 false _ (by exact lC <| (Kd.C_below HR0_0.out HB.out)) HC0_0.out (by exact lC <| (Kd.C_below HR0_1.out HB.out)) HC0_1.out A5.out).mono ?_); rintro e w29 ⟨rfl, hb⟩; refine ⟨_, rfl, ?_⟩; replace BK883 := aM (bb BK883.out hb); replace HB := aM (bj HB.out hb); (try clear hb)))
  go_ret
  exact ⟨er, by exact jB HB.out⟩
/-! ### impl_dot: function 55 -/
def impl_dot.l0 : Nat → List Int → Int → List Int → Int → Int → Option (Int)
 | 0, _, _, _, _, _ => none
 | k + 1, x1, x5, x8, x9, x10 => if x10 < x9 then (if 0 ≤ x10 then (if x10 < (x8.length : Int) then (if x10 < (x1.length : Int) then (impl_dot.l0 k x1 (wrap64 (x5 + (wrap64 ((rd x8 x10) * (rd x1 x10))))) x8 x9 (wrap64 (x10 + 1))) else (none)) else (none)) else (none)) else (some x5)
def impl_dot.f (k : Nat) (l0 : List Int) (l1 : List Int) : Option (Int) := impl_dot.l0 k l1 0 l0 (l0.length : Int) 0
theorem impl_dot.calls (k : Nat) (A0 : Option Addr) (c0 : Nat) (l0 : List Int) (A1 : Option Addr) (c1 : Nat) (l1 : List Int) (r : Int) (w : World) (hr0 : Kd.C (Kd.int .i64) w A0 l0.length l0) (hc0 : l0.length ≤ c0) (hr1 : Kd.C (Kd.int .i64) w A1 l1.length l1) (hc1 : l1.length ≤ c1) (h : impl_dot.f k l0 l1 = some r) :
  Calls Try.prog 55 #[.slice A0 l0.length c0, .slice A1 l1.length c1] w fun e w' => e = .returned (.int .i64 r) ∧ Drawn0 w w' := by
 have HR0 := aM hr0; have HC0 := aM hc0; clear hr0 hc0; have HR1 := aM hr1; have HC1 := aM hc1; clear hr1 hc1; have H : (impl_dot.l0 k l1 0 l0 (l0.length : Int) 0) = some r := h
 clear h; have H' := aM H
 clear H; go_enter Try.func55, Try.ntmps55
 go_wp2
 go_loopg [5, 10] k (fun kq v5 v10 w' => ∃ (x5_1 : Int) (x10_1 : Int), v5 = .int .i64 x5_1 ∧ v10 = .int .i64 x10_1 ∧ Aside0 (impl_dot.l0 kq l1 x5_1 l0 (l0.length : Int) x10_1 = some r) ∧ Aside0 (kq ≤ k) ∧ Drawn0 w w')
 case atStart => exact ⟨(0), (0), sr, sr, H', ⟨Nat.le_refl _⟩, by repeat (first | exact Drawn0.refl _ | apply Drawn0.step)⟩
 case round =>
  clear H'
  (try clear c1); (try clear p2)
  obtain ⟨x5_1, x10_1, rfl, rfl, HA, HK1, ⟨m1, rfl⟩⟩ := hrel
  cases gk with
  | zero => exact absurd HA.out (by simp [impl_dot.l0])
  | succ k1 =>
   have H := HA.out
   clear HA; simp only [impl_dot.l0] at H
   by_cases c3 : x10_1 < (l0.length : Int)
   ·rw [if_pos c3] at H; replace c3 := decide_eq_true c3; obtain ⟨c4, H⟩ := iD H; obtain ⟨c5, H⟩ := iD H; obtain ⟨c6, H⟩ := iD H; have H' := aM H
    clear H; have p888 : 0 ≤ (x10_1 : Int) := od; have q888 : x10_1 < (l0.length : Int) := od; obtain ⟨ad888, e888, hx888_0⟩ := Kd.at_int HR0.out x10_1 p888 q888
    cases e888; replace p888 := eq_true p888; replace q888 := eq_true q888; have p889 : 0 ≤ (x10_1 : Int) := od; have q889 : x10_1 < (l1.length : Int) := od; obtain ⟨ad889, e889, hx889_0⟩ := Kd.at_int HR1.out x10_1 p889 q889
    cases e889; replace p889 := eq_true p889; replace q889 := eq_true q889; go_wp2
    go_roundg k1
    case measure => have := HK1.out; omega
    case rel => exact ⟨(wrap64 (x5_1 + (wrap64 ((rd l0 x10_1) * (rd l1 x10_1))))), (wrap64 (x10_1 + 1)), sr, sr, H', ⟨by have := HK1.out; omega⟩, by repeat (first | exact Drawn0.refl _ | apply Drawn0.step)⟩
   ·rw [if_neg c3] at H; replace c3 := decide_eq_false c3; obtain rfl := Option.some.inj H
    go_wp2
    go_ret
    exact ⟨by first | rfl | (simp; done) | (simp [*]; done), by repeat (first | exact Drawn0.refl _ | apply Drawn0.step)⟩
-- NOT PRINTED: function 53 (impl_TrtKeeps_1)
end Go.Proofs.Ytcpaplcnebdocaa.QFnTrtKeeps
-- shorter
