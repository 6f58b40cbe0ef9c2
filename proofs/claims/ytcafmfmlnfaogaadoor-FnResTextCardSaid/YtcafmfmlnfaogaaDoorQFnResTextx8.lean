/- Plain functions, and that the Go code computes them: written by a program of this session over the seat's translation; the conditions stand in each theorem. -/
import Derived.Test.YtcafmfmlnfaogaaDoorQFnResTextx0
import Derived.Test.YtcafmfmlnfaogaaDoorQFnResTextx1
import Derived.Test.YtcafmfmlnfaogaaDoorQFnResTextx6
import Derived.Test.YtcafmfmlnfaogaaDoorQFnResTextx7
namespace Go.Proofs.YtcafmfmlnfaogaaDoor.QFnResText
open Go.RowKit Go.Proofs.YtcafmfmlnfaogaaDoorW.PrintWords Go.Proofs.YtcafmfmlnfaogaaDoorW.PrintLast Go.Proofs.YtcafmfmlnfaogaaDoorW.PrintMore Go.Proofs.YtcafmfmlnfaogaaDoor.HWords
attribute [local go_sem] max2_int min2_int max_two min_two max_three min_three max_four min_four   -- for this text's walks alone
set_option maxRecDepth 100000
set_option maxHeartbeats 8000000
set_option linter.unusedVariables false
set_option linter.unusedSimpArgs false

/-! ### spec_l20Bent: function 50 -/
def spec_l20Bent.f (k : Nat) (s0_0 : List Int) (s0_1 : Int) (a1 : ByteArray) : Option (ByteArray × Int) := (spec_l20Rd_pick.f k s0_0 s0_1 (wrap64 ((a1.size : Int) + 1))).bind fun bt254 => ((spec_l20Rd_pick.f k s0_0 bt254.2 256).bind fun bt256 => ((some (([32, 48, 49, 120, 45, 97, 0, bt256.1] : List Int) : List Int)).bind fun y258 => ((spec_l20Rd_pick.f k s0_0 bt256.2 8).bind fun bt261 => (if 0 ≤ bt261.1 then (if bt261.1 < (y258.length : Int) then ((some (([(rd y258 bt261.1) % 256] : List Int) : List Int)).bind fun y264 => ((spec_l20Rd_pick.f k s0_0 bt261.2 3).bind fun bt267 => (if bt267.1 = 0 then (if 0 ≤ bt254.1 then (if bt254.1 ≤ (a1.size : Int) then (if (a1.extract 0 (bt254.1 : Int).toNat).size + (strOfNums y264).size ≤ 9223372036854775807 then (if ((a1.extract 0 (bt254.1 : Int).toNat) ++ (strOfNums y264)).size + (a1.extract (bt254.1 : Int).toNat a1.size).size ≤ 9223372036854775807 then (some (((a1.extract 0 (bt254.1 : Int).toNat) ++ (strOfNums y264)) ++ (a1.extract (bt254.1 : Int).toNat a1.size), bt267.2)) else (none)) else (none)) else (none)) else (none)) else (if bt254.1 = (a1.size : Int) then (if a1.size + (strOfNums y264).size ≤ 9223372036854775807 then (some (a1 ++ (strOfNums y264), bt267.2)) else (none)) else ((spec_l20Rd_pick.f k s0_0 bt267.2 2).bind fun bt269 => (if bt269.1 = 0 then (if 0 ≤ bt254.1 then (if bt254.1 ≤ (a1.size : Int) then (if 0 ≤ (wrap64 (bt254.1 + 1)) then (if (wrap64 (bt254.1 + 1)) ≤ (a1.size : Int) then (if (a1.extract 0 (bt254.1 : Int).toNat).size + (a1.extract ((wrap64 (bt254.1 + 1)) : Int).toNat a1.size).size ≤ 9223372036854775807 then (some ((a1.extract 0 (bt254.1 : Int).toNat) ++ (a1.extract ((wrap64 (bt254.1 + 1)) : Int).toNat a1.size), bt269.2)) else (none)) else (none)) else (none)) else (none)) else (none)) else (if 0 ≤ bt254.1 then (if bt254.1 ≤ (a1.size : Int) then (if (a1.extract 0 (bt254.1 : Int).toNat).size + (strOfNums y264).size ≤ 9223372036854775807 then (if 0 ≤ (wrap64 (bt254.1 + 1)) then (if (wrap64 (bt254.1 + 1)) ≤ (a1.size : Int) then (if ((a1.extract 0 (bt254.1 : Int).toNat) ++ (strOfNums y264)).size + (a1.extract ((wrap64 (bt254.1 + 1)) : Int).toNat a1.size).size ≤ 9223372036854775807 then (some (((a1.extract 0 (bt254.1 : Int).toNat) ++ (strOfNums y264)) ++ (a1.extract ((wrap64 (bt254.1 + 1)) : Int).toNat a1.size), bt269.2)) else (none)) else (none)) else (none)) else (none)) else (none)) else (none)))))))) else (none)) else (none)))))
theorem spec_l20Bent.mono : ∀ a0 a1 a2 k, LeO (spec_l20Bent.f k a0 a1 a2) (spec_l20Bent.f (k + 1) a0 a1 a2) := by
 intro a0 a1 a2 k
 unfold spec_l20Bent.f
 repeat' first
   | (with_reducible exact spec_l20Rd_pick.mono _ _ _ _)
   | (with_reducible exact LeO.refl _)
   | (with_reducible exact LeO.none _)
   | (with_reducible refine LeO.ite ?_ ?_)
   | (with_reducible refine LeO.bind ?_ (fun _ => ?_))
   | exact LeO.none _
   | refine LeO.ite ?_ ?_
   | refine LeO.bind ?_ (fun _ => ?_)
theorem spec_l20Bent.calls (k : Nat) (g : Nat) (s0_0 : List Int) (s0_1 : Int) (a1 : ByteArray) (r1 : ByteArray) (r2 : Int) (w0 w : World) (hI : IsS74 w0 w g s0_0 s0_1) (hB : Below w0.heap.size w0 w) (h : spec_l20Bent.f k s0_0 s0_1 a1 = some (r1, r2)) :
  Calls Tryd.prog 50 #[.pointer (some ⟨g, 0, none⟩), .string a1] w fun e w' => e = .returned (.string r1) ∧ IsS74 w0 w' g s0_0 r2 ∧ Below w0.heap.size w0 w' ∧ KeepBut w w' g none := by
 have HI0 := aM hI
 have IHI0 : Nonempty _ := ⟨IsS74.ge hI⟩
 have HK := aM (KeepBut.refl w g none)
 have HL := aM hB.size
 clear hI
 have HW0 := aM hB.size
 have HB := aM hB
 clear hB
 have H : ((spec_l20Rd_pick.f k s0_0 s0_1 (wrap64 ((a1.size : Int) + 1))).bind fun bt254 => ((spec_l20Rd_pick.f k s0_0 bt254.2 256).bind fun bt256 => ((some (([32, 48, 49, 120, 45, 97, 0, bt256.1] : List Int) : List Int)).bind fun y258 => ((spec_l20Rd_pick.f k s0_0 bt256.2 8).bind fun bt261 => (if 0 ≤ bt261.1 then (if bt261.1 < (y258.length : Int) then ((some (([(rd y258 bt261.1) % 256] : List Int) : List Int)).bind fun y264 => ((spec_l20Rd_pick.f k s0_0 bt261.2 3).bind fun bt267 => (if bt267.1 = 0 then (if 0 ≤ bt254.1 then (if bt254.1 ≤ (a1.size : Int) then (if (a1.extract 0 (bt254.1 : Int).toNat).size + (strOfNums y264).size ≤ 9223372036854775807 then (if ((a1.extract 0 (bt254.1 : Int).toNat) ++ (strOfNums y264)).size + (a1.extract (bt254.1 : Int).toNat a1.size).size ≤ 9223372036854775807 then (some (((a1.extract 0 (bt254.1 : Int).toNat) ++ (strOfNums y264)) ++ (a1.extract (bt254.1 : Int).toNat a1.size), bt267.2)) else (none)) else (none)) else (none)) else (none)) else (if bt254.1 = (a1.size : Int) then (if a1.size + (strOfNums y264).size ≤ 9223372036854775807 then (some (a1 ++ (strOfNums y264), bt267.2)) else (none)) else ((spec_l20Rd_pick.f k s0_0 bt267.2 2).bind fun bt269 => (if bt269.1 = 0 then (if 0 ≤ bt254.1 then (if bt254.1 ≤ (a1.size : Int) then (if 0 ≤ (wrap64 (bt254.1 + 1)) then (if (wrap64 (bt254.1 + 1)) ≤ (a1.size : Int) then (if (a1.extract 0 (bt254.1 : Int).toNat).size + (a1.extract ((wrap64 (bt254.1 + 1)) : Int).toNat a1.size).size ≤ 9223372036854775807 then (some ((a1.extract 0 (bt254.1 : Int).toNat) ++ (a1.extract ((wrap64 (bt254.1 + 1)) : Int).toNat a1.size), bt269.2)) else (none)) else (none)) else (none)) else (none)) else (none)) else (if 0 ≤ bt254.1 then (if bt254.1 ≤ (a1.size : Int) then (if (a1.extract 0 (bt254.1 : Int).toNat).size + (strOfNums y264).size ≤ 9223372036854775807 then (if 0 ≤ (wrap64 (bt254.1 + 1)) then (if (wrap64 (bt254.1 + 1)) ≤ (a1.size : Int) then (if ((a1.extract 0 (bt254.1 : Int).toNat) ++ (strOfNums y264)).size + (a1.extract ((wrap64 (bt254.1 + 1)) : Int).toNat a1.size).size ≤ 9223372036854775807 then (some (((a1.extract 0 (bt254.1 : Int).toNat) ++ (strOfNums y264)) ++ (a1.extract ((wrap64 (bt254.1 + 1)) : Int).toNat a1.size), bt269.2)) else (none)) else (none)) else (none)) else (none)) else (none)) else (none)))))))) else (none)) else (none)))))) = some (r1, r2) := h
 clear h
 obtain ⟨⟨t254, t255⟩, A3, H⟩ := bS H
 try dsimp only at H
 obtain ⟨⟨t256, t257⟩, A4, H⟩ := bS H
 try dsimp only at H
 obtain ⟨y258, hy258⟩ : ∃ y_ : List Int, y_ = (([32, 48, 49, 120, 45, 97, 0, t256] : List Int)) := ⟨_, rfl⟩
 try rw [← hy258] at H
 try dsimp only [Option.bind_some] at H
 have Ny258 := aM hy258
 clear hy258
 obtain ⟨⟨t261, t262⟩, A5, H⟩ := bS H
 try dsimp only at H
 by_cases c6 : 0 ≤ t261
 ·rw [if_pos c6] at H
  have c6b0 := decide_eq_true c6
  clear c6
  by_cases c7 : t261 < (y258.length : Int)
  ·rw [if_pos c7] at H
   have c7b0 := decide_eq_true c7
   clear c7
   obtain ⟨y264, hy264⟩ : ∃ y_ : List Int, y_ = (([(rd y258 t261) % 256] : List Int)) := ⟨_, rfl⟩
   try rw [← hy264] at H
   try dsimp only [Option.bind_some] at H
   have Ny264 := aM hy264
   clear hy264
   obtain ⟨⟨t267, t268⟩, A8, H⟩ := bS H
   try dsimp only at H
   by_cases c9 : t267 = 0
   ·rw [if_pos c9] at H
    have c9b0 := beq_iff_eq.mpr c9
    have c9b1 := bne_eq_false_iff_eq.mpr c9
    clear c9
    by_cases c10 : 0 ≤ t254
    ·rw [if_pos c10] at H
     have c10b0 := eq_true c10
     have c10b1 := decide_eq_true c10
     clear c10
     by_cases c11 : t254 ≤ (a1.size : Int)
     ·rw [if_pos c11] at H
      have c11b0 := eq_true c11
      have c11b1 := decide_eq_true c11
      clear c11
      by_cases c12 : (a1.extract 0 (t254 : Int).toNat).size + (strOfNums y264).size ≤ 9223372036854775807
      ·rw [if_pos c12] at H
       have c12b0 := eq_true c12
       have c12b1 := decide_eq_true c12
       try have c12b2 : (9223372036854775807 < (a1.extract 0 (t254 : Int).toNat).size + (strOfNums y264).size) = False := eq_false (Nat.not_lt.2 c12)
       have c13b0 := eq_true (of_decide_eq_true (by first | (with_reducible assumption) | assumption) : 0 ≤ t254)
       have c14b0 := eq_true (of_decide_eq_true (by first | (with_reducible assumption) | assumption) : t254 ≤ (a1.size : Int))
       by_cases c15 : ((a1.extract 0 (t254 : Int).toNat) ++ (strOfNums y264)).size + (a1.extract (t254 : Int).toNat a1.size).size ≤ 9223372036854775807
       ·rw [if_pos c15] at H
        have c15b0 := eq_true c15
        have c15b1 := decide_eq_true c15
        try have c15b2 : (9223372036854775807 < ((a1.extract 0 (t254 : Int).toNat) ++ (strOfNums y264)).size + (a1.extract (t254 : Int).toNat a1.size).size) = False := eq_false (Nat.not_lt.2 c15)
        simp only [Option.some.injEq, Prod.mk.injEq] at H
        obtain ⟨rfl, rfl⟩ := H
        go_enter Tryd.func50, Tryd.ntmps50
        go_wp2_with (first | (go_at_call 49; (with_reducible refine (spec_l20Rd_pick.calls k g s0_0 s0_1 (wrap64 ((a1.size : Int) + 1)) t254 t255 w0 _ ?side1 ?side2 A3.out).mono ?_); (case side1 => exact IsS74.j HI0.out); (case side2 => exact jB HB.out); rintro e w16 ⟨rfl, hi, hb, hk⟩; replace HK := aM (kt HK.out hk); replace HB := aM (hb); replace HI0 := aM (hi)) | (go_at_call 49; (with_reducible refine (spec_l20Rd_pick.calls k g s0_0 t255 256 t256 t257 w0 _ ?side1 ?side2 A4.out).mono ?_); (case side1 => exact IsS74.j HI0.out); (case side2 => exact jB HB.out); rintro e w17 ⟨rfl, hi, hb, hk⟩; replace HK := aM (kt HK.out hk); replace HB := aM (hb); replace HI0 := aM (hi)) | ((with_reducible refine gate_dst (N := 14) rfl ?_); refine Kd.R_lit (Kd.int .i64) _ 3 ?hg (N := 14) ?hd (xs := ([32, 48, 49, 120, 45, 97, 0, t256] : List Int)) (inner := [.int .i64 32, .int .i64 48, .int .i64 49, .int .i64 120, .int .i64 45, .int .i64 97, .int .i64 0, .int .i64 t256]) (ok := fun _ => True) (okp := fun _ => True) ?hr ?hp (fun _ hk => hk) trivial (Below.refl _ _) (Nat.le_refl _) (by simp) ?_; (case hd => rfl); (case hg => rfl); (case hr => first | (go_simp; done) | (go_simp; rfl)); (case hp => exact (Reps.one (show Kd.M (Kd.int .i64) _ _ _ 32 [.int .i64 32] from rfl) (Reps.one (show Kd.M (Kd.int .i64) _ _ _ 48 [.int .i64 48] from rfl) (Reps.one (show Kd.M (Kd.int .i64) _ _ _ 49 [.int .i64 49] from rfl) (Reps.one (show Kd.M (Kd.int .i64) _ _ _ 120 [.int .i64 120] from rfl) (Reps.one (show Kd.M (Kd.int .i64) _ _ _ 45 [.int .i64 45] from rfl) (Reps.one (show Kd.M (Kd.int .i64) _ _ _ 97 [.int .i64 97] from rfl) (Reps.one (show Kd.M (Kd.int .i64) _ _ _ 0 [.int .i64 0] from rfl) (Reps.one (show Kd.M (Kd.int .i64) _ _ _ t256 [.int .i64 t256] from rfl) (Reps.none _ _)))))))))); intro v259 w18 ho19 hb hg_ hnew_; clear hg_ hnew_; (first | rw [← Ny258.out] at ho19 | (simp only [Int.reduceToNat] at ho19; rw [← Ny258.out] at ho19)); have HO260 := aM (lw ho19 HK.out); replace HI0 := aM (IsS74.below (by exact IsS74.j HI0.out) hb); replace HK := aM (kbl HK.out hb); replace HB := aM (bj HB.out hb); clear hb ho19) | (go_at_call 49; (with_reducible refine (spec_l20Rd_pick.calls k g s0_0 t257 8 t261 t262 w0 _ ?side1 ?side2 A5.out).mono ?_); (case side1 => exact IsS74.j HI0.out); (case side2 => exact jB HB.out); rintro e w20 ⟨rfl, hi, hb, hk⟩; replace HO260 := aM (IsS74.kp (f1 := t257) (by exact IsS74.j HI0.out) (lR HO260.out) hk); replace HK := aM (kt HK.out hk); replace HB := aM (hb); replace HI0 := aM (hi); (try clear hb hk hi); obtain ⟨Ao21, co21, eo21⟩ := Kd.R_slice HO260.out; subst eo21; have p263 : 0 ≤ (t261 : Int) := of_decide_eq_true (by first | (with_reducible assumption) | assumption); have q263 : t261 < (y258.length : Int) := of_decide_eq_true (by first | (with_reducible assumption) | assumption); obtain ⟨ad263, e263, hx263_0⟩ := Kd.at_int (Kd.R_reads' HO260.out).2.2 t261 p263 q263; cases e263; replace p263 := eq_true p263; replace q263 := eq_true q263) | ((with_reducible refine gate_dst (N := 20) rfl ?_); refine Kd.R_lit (Kd.int .u8) _ 5 ?hg (N := 20) ?hd (xs := ([(rd y258 t261) % 256] : List Int)) (inner := [.int .u8 ((rd y258 t261) % 256)]) (ok := fun _ => True) (okp := fun _ => True) ?hr ?hp (fun _ hk => hk) trivial (Below.refl _ _) (Nat.le_refl _) (by simp) ?_; (case hd => rfl); (case hg => rfl); (case hr => first | (go_simp; done) | (go_simp; rfl)); (case hp => exact (Reps.one (show Kd.M (Kd.int .u8) _ _ _ ((rd y258 t261) % 256) [.int .u8 ((rd y258 t261) % 256)] from rfl) (Reps.none _ _))); intro v265 w22 ho23 hb hg_ hnew_; clear hg_ hnew_; (first | rw [← Ny264.out] at ho23 | (simp only [Int.reduceToNat] at ho23; rw [← Ny264.out] at ho23)); replace HO260 := aM (rb HO260.out hb); have HO266 := aM (lw ho23 HK.out); replace HI0 := aM (IsS74.below (by exact IsS74.j HI0.out) hb); replace HK := aM (kbl HK.out hb); replace HB := aM (bj HB.out hb); clear hb ho23; have hcv24 := own_string (P := Tryd.prog) Tryd.underlying36 Tryd.underlying5 Tryd.underlying9 (Kd.own_of_R HO266.out)) | (go_at_call 49; (with_reducible refine (spec_l20Rd_pick.calls k g s0_0 t262 3 t267 t268 w0 _ ?side1 ?side2 A8.out).mono ?_); (case side1 => exact IsS74.j HI0.out); (case side2 => exact jB HB.out); rintro e w25 ⟨rfl, hi, hb, hk⟩; replace HO260 := aM (IsS74.kp (f1 := t262) (by exact IsS74.j HI0.out) (lR HO260.out) hk); replace HO266 := aM (IsS74.kp (f1 := t262) (by exact IsS74.j HI0.out) (lR HO266.out) hk); replace HK := aM (kt HK.out hk); replace HB := aM (hb); replace HI0 := aM (hi); (try clear hb hk hi)))
        repeat (go_quiet (first | (go_at_call 49; (with_reducible refine (spec_l20Rd_pick.calls k g s0_0 s0_1 (wrap64 ((a1.size : Int) + 1)) t254 t255 w0 _ ?side1 ?side2 A3.out).mono ?_); (case side1 => exact IsS74.j HI0.out); (case side2 => exact jB HB.out); rintro e w16 ⟨rfl, hi, hb, hk⟩; replace HK := aM (kt HK.out hk); replace HB := aM (hb); replace HI0 := aM (hi); (try clear hb hk hi)) | (go_at_call 49; (with_reducible refine (spec_l20Rd_pick.calls k g s0_0 t255 256 t256 t257 w0 _ ?side1 ?side2 A4.out).mono ?_); (case side1 => exact IsS74.j HI0.out); (case side2 => exact jB HB.out); rintro e w17 ⟨rfl, hi, hb, hk⟩; replace HK := aM (kt HK.out hk); replace HB := aM (hb); replace HI0 := aM (hi); (try clear hb hk hi)) | ((with_reducible refine gate_dst (N := 14) rfl ?_); refine Kd.R_lit (Kd.int .i64) _ 3 ?hg (N := 14) ?hd (xs := ([32, 48, 49, 120, 45, 97, 0, t256] : List Int)) (inner := [.int .i64 32, .int .i64 48, .int .i64 49, .int .i64 120, .int .i64 45, .int .i64 97, .int .i64 0, .int .i64 t256]) (ok := fun _ => True) (okp := fun _ => True) ?hr ?hp (fun _ hk => hk) trivial (Below.refl _ _) (Nat.le_refl _) (by simp) ?_; (case hd => rfl); (case hg => rfl); (case hr => first | (go_simp; done) | (go_simp; rfl)); (case hp => exact (Reps.one (show Kd.M (Kd.int .i64) _ _ _ 32 [.int .i64 32] from rfl) (Reps.one (show Kd.M (Kd.int .i64) _ _ _ 48 [.int .i64 48] from rfl) (Reps.one (show Kd.M (Kd.int .i64) _ _ _ 49 [.int .i64 49] from rfl) (Reps.one (show Kd.M (Kd.int .i64) _ _ _ 120 [.int .i64 120] from rfl) (Reps.one (show Kd.M (Kd.int .i64) _ _ _ 45 [.int .i64 45] from rfl) (Reps.one (show Kd.M (Kd.int .i64) _ _ _ 97 [.int .i64 97] from rfl) (Reps.one (show Kd.M (Kd.int .i64) _ _ _ 0 [.int .i64 0] from rfl) (Reps.one (show Kd.M (Kd.int .i64) _ _ _ t256 [.int .i64 t256] from rfl) (Reps.none _ _)))))))))); intro v259 w18 ho19 hb hg_ hnew_; clear hg_ hnew_; (first | rw [← Ny258.out] at ho19 | (simp only [Int.reduceToNat] at ho19; rw [← Ny258.out] at ho19)); have HO260 := aM (lw ho19 HK.out); replace HI0 := aM (IsS74.below (by exact IsS74.j HI0.out) hb); replace HK := aM (kbl HK.out hb); replace HB := aM (bj HB.out hb); clear hb ho19) | (go_at_call 49; (with_reducible refine (spec_l20Rd_pick.calls k g s0_0 t257 8 t261 t262 w0 _ ?side1 ?side2 A5.out).mono ?_); (case side1 => exact IsS74.j HI0.out); (case side2 => exact jB HB.out); rintro e w20 ⟨rfl, hi, hb, hk⟩; replace HO260 := aM (IsS74.kp (f1 := t257) (by exact IsS74.j HI0.out) (lR HO260.out) hk); replace HK := aM (kt HK.out hk); replace HB := aM (hb); replace HI0 := aM (hi); (try clear hb hk hi); obtain ⟨Ao21, co21, eo21⟩ := Kd.R_slice HO260.out; subst eo21; have p263 : 0 ≤ (t261 : Int) := of_decide_eq_true (by first | (with_reducible assumption) | assumption); have q263 : t261 < (y258.length : Int) := of_decide_eq_true (by first | (with_reducible assumption) | assumption); obtain ⟨ad263, e263, hx263_0⟩ := Kd.at_int (Kd.R_reads' HO260.out).2.2 t261 p263 q263; cases e263; replace p263 := eq_true p263; replace q263 := eq_true q263) | ((with_reducible refine gate_dst (N := 20) rfl ?_); refine Kd.R_lit (Kd.int .u8) _ 5 ?hg (N := 20) ?hd (xs := ([(rd y258 t261) % 256] : List Int)) (inner := [.int .u8 ((rd y258 t261) % 256)]) (ok := fun _ => True) (okp := fun _ => True) ?hr ?hp (fun _ hk => hk) trivial (Below.refl _ _) (Nat.le_refl _) (by simp) ?_; (case hd => rfl); (case hg => rfl); (case hr => first | (go_simp; done) | (go_simp; rfl)); (case hp => exact (Reps.one (show Kd.M (Kd.int .u8) _ _ _ ((rd y258 t261) % 256) [.int .u8 ((rd y258 t261) % 256)] from rfl) (Reps.none _ _))); intro v265 w22 ho23 hb hg_ hnew_; clear hg_ hnew_; (first | rw [← Ny264.out] at ho23 | (simp only [Int.reduceToNat] at ho23; rw [← Ny264.out] at ho23)); replace HO260 := aM (rb HO260.out hb); have HO266 := aM (lw ho23 HK.out); replace HI0 := aM (IsS74.below (by exact IsS74.j HI0.out) hb); replace HK := aM (kbl HK.out hb); replace HB := aM (bj HB.out hb); clear hb ho23; have hcv24 := own_string (P := Tryd.prog) Tryd.underlying36 Tryd.underlying5 Tryd.underlying9 (Kd.own_of_R HO266.out)) | (go_at_call 49; (with_reducible refine (spec_l20Rd_pick.calls k g s0_0 t262 3 t267 t268 w0 _ ?side1 ?side2 A8.out).mono ?_); (case side1 => exact IsS74.j HI0.out); (case side2 => exact jB HB.out); rintro e w25 ⟨rfl, hi, hb, hk⟩; replace HO260 := aM (IsS74.kp (f1 := t262) (by exact IsS74.j HI0.out) (lR HO260.out) hk); replace HO266 := aM (IsS74.kp (f1 := t262) (by exact IsS74.j HI0.out) (lR HO266.out) hk); replace HK := aM (kt HK.out hk); replace HB := aM (hb); replace HI0 := aM (hi); (try clear hb hk hi))); try go_wp2_with (first | (go_at_call 49; (with_reducible refine (spec_l20Rd_pick.calls k g s0_0 s0_1 (wrap64 ((a1.size : Int) + 1)) t254 t255 w0 _ ?side1 ?side2 A3.out).mono ?_); (case side1 => exact IsS74.j HI0.out); (case side2 => exact jB HB.out); rintro e w16 ⟨rfl, hi, hb, hk⟩; replace HK := aM (kt HK.out hk); replace HB := aM (hb); replace HI0 := aM (hi); (try clear hb hk hi)) | (go_at_call 49; (with_reducible refine (spec_l20Rd_pick.calls k g s0_0 t255 256 t256 t257 w0 _ ?side1 ?side2 A4.out).mono ?_); (case side1 => exact IsS74.j HI0.out); (case side2 => exact jB HB.out); rintro e w17 ⟨rfl, hi, hb, hk⟩; replace HK := aM (kt HK.out hk); replace HB := aM (hb); replace HI0 := aM (hi); (try clear hb hk hi)) | ((with_reducible refine gate_dst (N := 14) rfl ?_); refine Kd.R_lit (Kd.int .i64) _ 3 ?hg (N := 14) ?hd (xs := ([32, 48, 49, 120, 45, 97, 0, t256] : List Int)) (inner := [.int .i64 32, .int .i64 48, .int .i64 49, .int .i64 120, .int .i64 45, .int .i64 97, .int .i64 0, .int .i64 t256]) (ok := fun _ => True) (okp := fun _ => True) ?hr ?hp (fun _ hk => hk) trivial (Below.refl _ _) (Nat.le_refl _) (by simp) ?_; (case hd => rfl); (case hg => rfl); (case hr => first | (go_simp; done) | (go_simp; rfl)); (case hp => exact (Reps.one (show Kd.M (Kd.int .i64) _ _ _ 32 [.int .i64 32] from rfl) (Reps.one (show Kd.M (Kd.int .i64) _ _ _ 48 [.int .i64 48] from rfl) (Reps.one (show Kd.M (Kd.int .i64) _ _ _ 49 [.int .i64 49] from rfl) (Reps.one (show Kd.M (Kd.int .i64) _ _ _ 120 [.int .i64 120] from rfl) (Reps.one (show Kd.M (Kd.int .i64) _ _ _ 45 [.int .i64 45] from rfl) (Reps.one (show Kd.M (Kd.int .i64) _ _ _ 97 [.int .i64 97] from rfl) (Reps.one (show Kd.M (Kd.int .i64) _ _ _ 0 [.int .i64 0] from rfl) (Reps.one (show Kd.M (Kd.int .i64) _ _ _ t256 [.int .i64 t256] from rfl) (Reps.none _ _)))))))))); intro v259 w18 ho19 hb hg_ hnew_; clear hg_ hnew_; (first | rw [← Ny258.out] at ho19 | (simp only [Int.reduceToNat] at ho19; rw [← Ny258.out] at ho19)); have HO260 := aM (lw ho19 HK.out); replace HI0 := aM (IsS74.below (by exact IsS74.j HI0.out) hb); replace HK := aM (kbl HK.out hb); replace HB := aM (bj HB.out hb); clear hb ho19) | (go_at_call 49; (with_reducible refine (spec_l20Rd_pick.calls k g s0_0 t257 8 t261 t262 w0 _ ?side1 ?side2 A5.out).mono ?_); (case side1 => exact IsS74.j HI0.out); (case side2 => exact jB HB.out); rintro e w20 ⟨rfl, hi, hb, hk⟩; replace HO260 := aM (IsS74.kp (f1 := t257) (by exact IsS74.j HI0.out) (lR HO260.out) hk); replace HK := aM (kt HK.out hk); replace HB := aM (hb); replace HI0 := aM (hi); (try clear hb hk hi); obtain ⟨Ao21, co21, eo21⟩ := Kd.R_slice HO260.out; subst eo21; have p263 : 0 ≤ (t261 : Int) := of_decide_eq_true (by first | (with_reducible assumption) | assumption); have q263 : t261 < (y258.length : Int) := of_decide_eq_true (by first | (with_reducible assumption) | assumption); obtain ⟨ad263, e263, hx263_0⟩ := Kd.at_int (Kd.R_reads' HO260.out).2.2 t261 p263 q263; cases e263; replace p263 := eq_true p263; replace q263 := eq_true q263) | ((with_reducible refine gate_dst (N := 20) rfl ?_); refine Kd.R_lit (Kd.int .u8) _ 5 ?hg (N := 20) ?hd (xs := ([(rd y258 t261) % 256] : List Int)) (inner := [.int .u8 ((rd y258 t261) % 256)]) (ok := fun _ => True) (okp := fun _ => True) ?hr ?hp (fun _ hk => hk) trivial (Below.refl _ _) (Nat.le_refl _) (by simp) ?_; (case hd => rfl); (case hg => rfl); (case hr => first | (go_simp; done) | (go_simp; rfl)); (case hp => exact (Reps.one (show Kd.M (Kd.int .u8) _ _ _ ((rd y258 t261) % 256) [.int .u8 ((rd y258 t261) % 256)] from rfl) (Reps.none _ _))); intro v265 w22 ho23 hb hg_ hnew_; clear hg_ hnew_; (first | rw [← Ny264.out] at ho23 | (simp only [Int.reduceToNat] at ho23; rw [← Ny264.out] at ho23)); replace HO260 := aM (rb HO260.out hb); have HO266 := aM (lw ho23 HK.out); replace HI0 := aM (IsS74.below (by exact IsS74.j HI0.out) hb); replace HK := aM (kbl HK.out hb); replace HB := aM (bj HB.out hb); clear hb ho23; have hcv24 := own_string (P := Tryd.prog) Tryd.underlying36 Tryd.underlying5 Tryd.underlying9 (Kd.own_of_R HO266.out)) | (go_at_call 49; (with_reducible refine (spec_l20Rd_pick.calls k g s0_0 t262 3 t267 t268 w0 _ ?side1 ?side2 A8.out).mono ?_); (case side1 => exact IsS74.j HI0.out); (case side2 => exact jB HB.out); rintro e w25 ⟨rfl, hi, hb, hk⟩; replace HO260 := aM (IsS74.kp (f1 := t262) (by exact IsS74.j HI0.out) (lR HO260.out) hk); replace HO266 := aM (IsS74.kp (f1 := t262) (by exact IsS74.j HI0.out) (lR HO266.out) hk); replace HK := aM (kt HK.out hk); replace HB := aM (hb); replace HI0 := aM (hi); (try clear hb hk hi))))
        go_ret
        exact ⟨er, by exact IsS74.j HI0.out, by exact jB HB.out, by exact jK HK.out⟩
       ·rw [if_neg c15] at H
        exact absurd H (by simp)
      ·rw [if_neg c12] at H
       exact absurd H (by simp)
     ·rw [if_neg c11] at H
      exact absurd H (by simp)
    ·rw [if_neg c10] at H
     exact absurd H (by simp)
   ·rw [if_neg c9] at H
    have c9b0 := beq_eq_false_iff_ne.mpr c9
    have c9b1 := bne_iff_ne.mpr c9
    by_cases c26 : t254 = (a1.size : Int)
    ·rw [if_pos c26] at H
     have c26b0 := beq_iff_eq.mpr c26
     have c26b1 := bne_eq_false_iff_eq.mpr c26
     clear c26
     by_cases c27 : a1.size + (strOfNums y264).size ≤ 9223372036854775807
     ·rw [if_pos c27] at H
      have c27b0 := eq_true c27
      have c27b1 := decide_eq_true c27
      try have c27b2 : (9223372036854775807 < a1.size + (strOfNums y264).size) = False := eq_false (Nat.not_lt.2 c27)
      simp only [Option.some.injEq, Prod.mk.injEq] at H
      obtain ⟨rfl, rfl⟩ := H
      go_enter Tryd.func50, Tryd.ntmps50
      go_wp2_with (first | (go_at_call 49; (with_reducible refine (spec_l20Rd_pick.calls k g s0_0 s0_1 (wrap64 ((a1.size : Int) + 1)) t254 t255 w0 _ ?side1 ?side2 A3.out).mono ?_); (case side1 => exact IsS74.j HI0.out); (case side2 => exact jB HB.out); rintro e w28 ⟨rfl, hi, hb, hk⟩; replace HK := aM (kt HK.out hk); replace HB := aM (hb); replace HI0 := aM (hi); (try clear hb hk hi)) | (go_at_call 49; (with_reducible refine (spec_l20Rd_pick.calls k g s0_0 t255 256 t256 t257 w0 _ ?side1 ?side2 A4.out).mono ?_); (case side1 => exact IsS74.j HI0.out); (case side2 => exact jB HB.out); rintro e w29 ⟨rfl, hi, hb, hk⟩; replace HK := aM (kt HK.out hk); replace HB := aM (hb); replace HI0 := aM (hi); (try clear hb hk hi)) | ((with_reducible refine gate_dst (N := 14) rfl ?_); refine Kd.R_lit (Kd.int .i64) _ 3 ?hg (N := 14) ?hd (xs := ([32, 48, 49, 120, 45, 97, 0, t256] : List Int)) (inner := [.int .i64 32, .int .i64 48, .int .i64 49, .int .i64 120, .int .i64 45, .int .i64 97, .int .i64 0, .int .i64 t256]) (ok := fun _ => True) (okp := fun _ => True) ?hr ?hp (fun _ hk => hk) trivial (Below.refl _ _) (Nat.le_refl _) (by simp) ?_; (case hd => rfl); (case hg => rfl); (case hr => first | (go_simp; done) | (go_simp; rfl)); (case hp => exact (Reps.one (show Kd.M (Kd.int .i64) _ _ _ 32 [.int .i64 32] from rfl) (Reps.one (show Kd.M (Kd.int .i64) _ _ _ 48 [.int .i64 48] from rfl) (Reps.one (show Kd.M (Kd.int .i64) _ _ _ 49 [.int .i64 49] from rfl) (Reps.one (show Kd.M (Kd.int .i64) _ _ _ 120 [.int .i64 120] from rfl) (Reps.one (show Kd.M (Kd.int .i64) _ _ _ 45 [.int .i64 45] from rfl) (Reps.one (show Kd.M (Kd.int .i64) _ _ _ 97 [.int .i64 97] from rfl) (Reps.one (show Kd.M (Kd.int .i64) _ _ _ 0 [.int .i64 0] from rfl) (Reps.one (show Kd.M (Kd.int .i64) _ _ _ t256 [.int .i64 t256] from rfl) (Reps.none _ _)))))))))); intro v259 w30 ho31 hb hg_ hnew_; clear hg_ hnew_; (first | rw [← Ny258.out] at ho31 | (simp only [Int.reduceToNat] at ho31; rw [← Ny258.out] at ho31)); have HO260 := aM (lw ho31 HK.out); replace HI0 := aM (IsS74.below (by exact IsS74.j HI0.out) hb); replace HK := aM (kbl HK.out hb); replace HB := aM (bj HB.out hb); clear hb ho31) | (go_at_call 49; (with_reducible refine (spec_l20Rd_pick.calls k g s0_0 t257 8 t261 t262 w0 _ ?side1 ?side2 A5.out).mono ?_); (case side1 => exact IsS74.j HI0.out); (case side2 => exact jB HB.out); rintro e w32 ⟨rfl, hi, hb, hk⟩; replace HO260 := aM (IsS74.kp (f1 := t257) (by exact IsS74.j HI0.out) (lR HO260.out) hk); replace HK := aM (kt HK.out hk); replace HB := aM (hb); replace HI0 := aM (hi); (try clear hb hk hi); obtain ⟨Ao33, co33, eo33⟩ := Kd.R_slice HO260.out; subst eo33; have p263 : 0 ≤ (t261 : Int) := of_decide_eq_true (by first | (with_reducible assumption) | assumption); have q263 : t261 < (y258.length : Int) := of_decide_eq_true (by first | (with_reducible assumption) | assumption); obtain ⟨ad263, e263, hx263_0⟩ := Kd.at_int (Kd.R_reads' HO260.out).2.2 t261 p263 q263; cases e263; replace p263 := eq_true p263; replace q263 := eq_true q263) | ((with_reducible refine gate_dst (N := 20) rfl ?_); refine Kd.R_lit (Kd.int .u8) _ 5 ?hg (N := 20) ?hd (xs := ([(rd y258 t261) % 256] : List Int)) (inner := [.int .u8 ((rd y258 t261) % 256)]) (ok := fun _ => True) (okp := fun _ => True) ?hr ?hp (fun _ hk => hk) trivial (Below.refl _ _) (Nat.le_refl _) (by simp) ?_; (case hd => rfl); (case hg => rfl); (case hr => first | (go_simp; done) | (go_simp; rfl)); (case hp => exact (Reps.one (show Kd.M (Kd.int .u8) _ _ _ ((rd y258 t261) % 256) [.int .u8 ((rd y258 t261) % 256)] from rfl) (Reps.none _ _))); intro v265 w34 ho35 hb hg_ hnew_; clear hg_ hnew_; (first | rw [← Ny264.out] at ho35 | (simp only [Int.reduceToNat] at ho35; rw [← Ny264.out] at ho35)); replace HO260 := aM (rb HO260.out hb); have HO266 := aM (lw ho35 HK.out); replace HI0 := aM (IsS74.below (by exact IsS74.j HI0.out) hb); replace HK := aM (kbl HK.out hb); replace HB := aM (bj HB.out hb); clear hb ho35; have hcv36 := own_string (P := Tryd.prog) Tryd.underlying36 Tryd.underlying5 Tryd.underlying9 (Kd.own_of_R HO266.out)) | (go_at_call 49; (with_reducible refine (spec_l20Rd_pick.calls k g s0_0 t262 3 t267 t268 w0 _ ?side1 ?side2 A8.out).mono ?_); (case side1 => exact IsS74.j HI0.out); (case side2 => exact jB HB.out); rintro e w37 ⟨rfl, hi, hb, hk⟩; replace HO260 := aM (IsS74.kp (f1 := t262) (by exact IsS74.j HI0.out) (lR HO260.out) hk); replace HO266 := aM (IsS74.kp (f1 := t262) (by exact IsS74.j HI0.out) (lR HO266.out) hk); replace HK := aM (kt HK.out hk); replace HB := aM (hb); replace HI0 := aM (hi); (try clear hb hk hi)))
      repeat (go_quiet (first | (go_at_call 49; (with_reducible refine (spec_l20Rd_pick.calls k g s0_0 s0_1 (wrap64 ((a1.size : Int) + 1)) t254 t255 w0 _ ?side1 ?side2 A3.out).mono ?_); (case side1 => exact IsS74.j HI0.out); (case side2 => exact jB HB.out); rintro e w28 ⟨rfl, hi, hb, hk⟩; replace HK := aM (kt HK.out hk); replace HB := aM (hb); replace HI0 := aM (hi); (try clear hb hk hi)) | (go_at_call 49; (with_reducible refine (spec_l20Rd_pick.calls k g s0_0 t255 256 t256 t257 w0 _ ?side1 ?side2 A4.out).mono ?_); (case side1 => exact IsS74.j HI0.out); (case side2 => exact jB HB.out); rintro e w29 ⟨rfl, hi, hb, hk⟩; replace HK := aM (kt HK.out hk); replace HB := aM (hb); replace HI0 := aM (hi); (try clear hb hk hi)) | ((with_reducible refine gate_dst (N := 14) rfl ?_); refine Kd.R_lit (Kd.int .i64) _ 3 ?hg (N := 14) ?hd (xs := ([32, 48, 49, 120, 45, 97, 0, t256] : List Int)) (inner := [.int .i64 32, .int .i64 48, .int .i64 49, .int .i64 120, .int .i64 45, .int .i64 97, .int .i64 0, .int .i64 t256]) (ok := fun _ => True) (okp := fun _ => True) ?hr ?hp (fun _ hk => hk) trivial (Below.refl _ _) (Nat.le_refl _) (by simp) ?_; (case hd => rfl); (case hg => rfl); (case hr => first | (go_simp; done) | (go_simp; rfl)); (case hp => exact (Reps.one (show Kd.M (Kd.int .i64) _ _ _ 32 [.int .i64 32] from rfl) (Reps.one (show Kd.M (Kd.int .i64) _ _ _ 48 [.int .i64 48] from rfl) (Reps.one (show Kd.M (Kd.int .i64) _ _ _ 49 [.int .i64 49] from rfl) (Reps.one (show Kd.M (Kd.int .i64) _ _ _ 120 [.int .i64 120] from rfl) (Reps.one (show Kd.M (Kd.int .i64) _ _ _ 45 [.int .i64 45] from rfl) (Reps.one (show Kd.M (Kd.int .i64) _ _ _ 97 [.int .i64 97] from rfl) (Reps.one (show Kd.M (Kd.int .i64) _ _ _ 0 [.int .i64 0] from rfl) (Reps.one (show Kd.M (Kd.int .i64) _ _ _ t256 [.int .i64 t256] from rfl) (Reps.none _ _)))))))))); intro v259 w30 ho31 hb hg_ hnew_; clear hg_ hnew_; (first | rw [← Ny258.out] at ho31 | (simp only [Int.reduceToNat] at ho31; rw [← Ny258.out] at ho31)); have HO260 := aM (lw ho31 HK.out); replace HI0 := aM (IsS74.below (by exact IsS74.j HI0.out) hb); replace HK := aM (kbl HK.out hb); replace HB := aM (bj HB.out hb); clear hb ho31) | (go_at_call 49; (with_reducible refine (spec_l20Rd_pick.calls k g s0_0 t257 8 t261 t262 w0 _ ?side1 ?side2 A5.out).mono ?_); (case side1 => exact IsS74.j HI0.out); (case side2 => exact jB HB.out); rintro e w32 ⟨rfl, hi, hb, hk⟩; replace HO260 := aM (IsS74.kp (f1 := t257) (by exact IsS74.j HI0.out) (lR HO260.out) hk); replace HK := aM (kt HK.out hk); replace HB := aM (hb); replace HI0 := aM (hi); (try clear hb hk hi); obtain ⟨Ao33, co33, eo33⟩ := Kd.R_slice HO260.out; subst eo33; have p263 : 0 ≤ (t261 : Int) := of_decide_eq_true (by first | (with_reducible assumption) | assumption); have q263 : t261 < (y258.length : Int) := of_decide_eq_true (by first | (with_reducible assumption) | assumption); obtain ⟨ad263, e263, hx263_0⟩ := Kd.at_int (Kd.R_reads' HO260.out).2.2 t261 p263 q263; cases e263; replace p263 := eq_true p263; replace q263 := eq_true q263) | ((with_reducible refine gate_dst (N := 20) rfl ?_); refine Kd.R_lit (Kd.int .u8) _ 5 ?hg (N := 20) ?hd (xs := ([(rd y258 t261) % 256] : List Int)) (inner := [.int .u8 ((rd y258 t261) % 256)]) (ok := fun _ => True) (okp := fun _ => True) ?hr ?hp (fun _ hk => hk) trivial (Below.refl _ _) (Nat.le_refl _) (by simp) ?_; (case hd => rfl); (case hg => rfl); (case hr => first | (go_simp; done) | (go_simp; rfl)); (case hp => exact (Reps.one (show Kd.M (Kd.int .u8) _ _ _ ((rd y258 t261) % 256) [.int .u8 ((rd y258 t261) % 256)] from rfl) (Reps.none _ _))); intro v265 w34 ho35 hb hg_ hnew_; clear hg_ hnew_; (first | rw [← Ny264.out] at ho35 | (simp only [Int.reduceToNat] at ho35; rw [← Ny264.out] at ho35)); replace HO260 := aM (rb HO260.out hb); have HO266 := aM (lw ho35 HK.out); replace HI0 := aM (IsS74.below (by exact IsS74.j HI0.out) hb); replace HK := aM (kbl HK.out hb); replace HB := aM (bj HB.out hb); clear hb ho35; have hcv36 := own_string (P := Tryd.prog) Tryd.underlying36 Tryd.underlying5 Tryd.underlying9 (Kd.own_of_R HO266.out)) | (go_at_call 49; (with_reducible refine (spec_l20Rd_pick.calls k g s0_0 t262 3 t267 t268 w0 _ ?side1 ?side2 A8.out).mono ?_); (case side1 => exact IsS74.j HI0.out); (case side2 => exact jB HB.out); rintro e w37 ⟨rfl, hi, hb, hk⟩; replace HO260 := aM (IsS74.kp (f1 := t262) (by exact IsS74.j HI0.out) (lR HO260.out) hk); replace HO266 := aM (IsS74.kp (f1 := t262) (by exact IsS74.j HI0.out) (lR HO266.out) hk); replace HK := aM (kt HK.out hk); replace HB := aM (hb); replace HI0 := aM (hi); (try clear hb hk hi))); try go_wp2_with (first | (go_at_call 49; (with_reducible refine (spec_l20Rd_pick.calls k g s0_0 s0_1 (wrap64 ((a1.size : Int) + 1)) t254 t255 w0 _ ?side1 ?side2 A3.out).mono ?_); (case side1 => exact IsS74.j HI0.out); (case side2 => exact jB HB.out); rintro e w28 ⟨rfl, hi, hb, hk⟩; replace HK := aM (kt HK.out hk); replace HB := aM (hb); replace HI0 := aM (hi); (try clear hb hk hi)) | (go_at_call 49; (with_reducible refine (spec_l20Rd_pick.calls k g s0_0 t255 256 t256 t257 w0 _ ?side1 ?side2 A4.out).mono ?_); (case side1 => exact IsS74.j HI0.out); (case side2 => exact jB HB.out); rintro e w29 ⟨rfl, hi, hb, hk⟩; replace HK := aM (kt HK.out hk); replace HB := aM (hb); replace HI0 := aM (hi); (try clear hb hk hi)) | ((with_reducible refine gate_dst (N := 14) rfl ?_); refine Kd.R_lit (Kd.int .i64) _ 3 ?hg (N := 14) ?hd (xs := ([32, 48, 49, 120, 45, 97, 0, t256] : List Int)) (inner := [.int .i64 32, .int .i64 48, .int .i64 49, .int .i64 120, .int .i64 45, .int .i64 97, .int .i64 0, .int .i64 t256]) (ok := fun _ => True) (okp := fun _ => True) ?hr ?hp (fun _ hk => hk) trivial (Below.refl _ _) (Nat.le_refl _) (by simp) ?_; (case hd => rfl); (case hg => rfl); (case hr => first | (go_simp; done) | (go_simp; rfl)); (case hp => exact (Reps.one (show Kd.M (Kd.int .i64) _ _ _ 32 [.int .i64 32] from rfl) (Reps.one (show Kd.M (Kd.int .i64) _ _ _ 48 [.int .i64 48] from rfl) (Reps.one (show Kd.M (Kd.int .i64) _ _ _ 49 [.int .i64 49] from rfl) (Reps.one (show Kd.M (Kd.int .i64) _ _ _ 120 [.int .i64 120] from rfl) (Reps.one (show Kd.M (Kd.int .i64) _ _ _ 45 [.int .i64 45] from rfl) (Reps.one (show Kd.M (Kd.int .i64) _ _ _ 97 [.int .i64 97] from rfl) (Reps.one (show Kd.M (Kd.int .i64) _ _ _ 0 [.int .i64 0] from rfl) (Reps.one (show Kd.M (Kd.int .i64) _ _ _ t256 [.int .i64 t256] from rfl) (Reps.none _ _)))))))))); intro v259 w30 ho31 hb hg_ hnew_; clear hg_ hnew_; (first | rw [← Ny258.out] at ho31 | (simp only [Int.reduceToNat] at ho31; rw [← Ny258.out] at ho31)); have HO260 := aM (lw ho31 HK.out); replace HI0 := aM (IsS74.below (by exact IsS74.j HI0.out) hb); replace HK := aM (kbl HK.out hb); replace HB := aM (bj HB.out hb); clear hb ho31) | (go_at_call 49; (with_reducible refine (spec_l20Rd_pick.calls k g s0_0 t257 8 t261 t262 w0 _ ?side1 ?side2 A5.out).mono ?_); (case side1 => exact IsS74.j HI0.out); (case side2 => exact jB HB.out); rintro e w32 ⟨rfl, hi, hb, hk⟩; replace HO260 := aM (IsS74.kp (f1 := t257) (by exact IsS74.j HI0.out) (lR HO260.out) hk); replace HK := aM (kt HK.out hk); replace HB := aM (hb); replace HI0 := aM (hi); (try clear hb hk hi); obtain ⟨Ao33, co33, eo33⟩ := Kd.R_slice HO260.out; subst eo33; have p263 : 0 ≤ (t261 : Int) := of_decide_eq_true (by first | (with_reducible assumption) | assumption); have q263 : t261 < (y258.length : Int) := of_decide_eq_true (by first | (with_reducible assumption) | assumption); obtain ⟨ad263, e263, hx263_0⟩ := Kd.at_int (Kd.R_reads' HO260.out).2.2 t261 p263 q263; cases e263; replace p263 := eq_true p263; replace q263 := eq_true q263) | ((with_reducible refine gate_dst (N := 20) rfl ?_); refine Kd.R_lit (Kd.int .u8) _ 5 ?hg (N := 20) ?hd (xs := ([(rd y258 t261) % 256] : List Int)) (inner := [.int .u8 ((rd y258 t261) % 256)]) (ok := fun _ => True) (okp := fun _ => True) ?hr ?hp (fun _ hk => hk) trivial (Below.refl _ _) (Nat.le_refl _) (by simp) ?_; (case hd => rfl); (case hg => rfl); (case hr => first | (go_simp; done) | (go_simp; rfl)); (case hp => exact (Reps.one (show Kd.M (Kd.int .u8) _ _ _ ((rd y258 t261) % 256) [.int .u8 ((rd y258 t261) % 256)] from rfl) (Reps.none _ _))); intro v265 w34 ho35 hb hg_ hnew_; clear hg_ hnew_; (first | rw [← Ny264.out] at ho35 | (simp only [Int.reduceToNat] at ho35; rw [← Ny264.out] at ho35)); replace HO260 := aM (rb HO260.out hb); have HO266 := aM (lw ho35 HK.out); replace HI0 := aM (IsS74.below (by exact IsS74.j HI0.out) hb); replace HK := aM (kbl HK.out hb); replace HB := aM (bj HB.out hb); clear hb ho35; have hcv36 := own_string (P := Tryd.prog) Tryd.underlying36 Tryd.underlying5 Tryd.underlying9 (Kd.own_of_R HO266.out)) | (go_at_call 49; (with_reducible refine (spec_l20Rd_pick.calls k g s0_0 t262 3 t267 t268 w0 _ ?side1 ?side2 A8.out).mono ?_); (case side1 => exact IsS74.j HI0.out); (case side2 => exact jB HB.out); rintro e w37 ⟨rfl, hi, hb, hk⟩; replace HO260 := aM (IsS74.kp (f1 := t262) (by exact IsS74.j HI0.out) (lR HO260.out) hk); replace HO266 := aM (IsS74.kp (f1 := t262) (by exact IsS74.j HI0.out) (lR HO266.out) hk); replace HK := aM (kt HK.out hk); replace HB := aM (hb); replace HI0 := aM (hi); (try clear hb hk hi))))
      go_ret
      exact ⟨er, by exact IsS74.j HI0.out, by exact jB HB.out, by exact jK HK.out⟩
     ·rw [if_neg c27] at H
      exact absurd H (by simp)
    ·rw [if_neg c26] at H
     have c26b0 := beq_eq_false_iff_ne.mpr c26
     have c26b1 := bne_iff_ne.mpr c26
     obtain ⟨⟨t269, t270⟩, A38, H⟩ := bS H
     try dsimp only at H
     by_cases c39 : t269 = 0
     ·rw [if_pos c39] at H
      have c39b0 := beq_iff_eq.mpr c39
      have c39b1 := bne_eq_false_iff_eq.mpr c39
      clear c39
      by_cases c40 : 0 ≤ t254
      ·rw [if_pos c40] at H
       have c40b0 := eq_true c40
       have c40b1 := decide_eq_true c40
       clear c40
       by_cases c41 : t254 ≤ (a1.size : Int)
       ·rw [if_pos c41] at H
        have c41b0 := eq_true c41
        have c41b1 := decide_eq_true c41
        clear c41
        obtain ⟨ji42, hji42⟩ : ∃ j_ : Int, (wrap64 (t254 + 1)) = j_ := ⟨_, rfl⟩
        replace H : (if 0 ≤ (ji42) then (if (ji42) ≤ (a1.size : Int) then (if (a1.extract 0 (t254 : Int).toNat).size + (a1.extract ((ji42) : Int).toNat a1.size).size ≤ 9223372036854775807 then (some ((a1.extract 0 (t254 : Int).toNat) ++ (a1.extract ((ji42) : Int).toNat a1.size), t270)) else (none)) else (none)) else (none)) = some (r1, r2) := by first | (rw [hji42] at H; exact H) | (simp only [hji42] at H ⊢; exact H)
        (try rw [hji42] at A3)
        (try rw [hji42] at A4)
        (try rw [hji42] at A5)
        (try rw [hji42] at A8)
        (try rw [hji42] at A38)
        have hji42w : (IntKind.i64.wrap (t254 + 1)) = ji42 := (i64_w _).trans hji42
        by_cases c43 : 0 ≤ (ji42)
        ·rw [if_pos c43] at H
         have c43b0 := eq_true c43
         have c43b1 := decide_eq_true c43
         clear c43
         by_cases c44 : (ji42) ≤ (a1.size : Int)
         ·rw [if_pos c44] at H
          have c44b0 := eq_true c44
          have c44b1 := decide_eq_true c44
          clear c44
          by_cases c45 : (a1.extract 0 (t254 : Int).toNat).size + (a1.extract ((ji42) : Int).toNat a1.size).size ≤ 9223372036854775807
          ·rw [if_pos c45] at H
           have c45b0 := eq_true c45
           have c45b1 := decide_eq_true c45
           try have c45b2 : (9223372036854775807 < (a1.extract 0 (t254 : Int).toNat).size + (a1.extract ((ji42) : Int).toNat a1.size).size) = False := eq_false (Nat.not_lt.2 c45)
           simp only [Option.some.injEq, Prod.mk.injEq] at H
           obtain ⟨rfl, rfl⟩ := H
           go_enter Tryd.func50, Tryd.ntmps50
           go_wp2_with (first | (go_at_call 49; (with_reducible refine (spec_l20Rd_pick.calls k g s0_0 s0_1 (wrap64 ((a1.size : Int) + 1)) t254 t255 w0 _ ?side1 ?side2 A3.out).mono ?_); (case side1 => exact IsS74.j HI0.out); (case side2 => exact jB HB.out); rintro e w46 ⟨rfl, hi, hb, hk⟩; replace HK := aM (kt HK.out hk); replace HB := aM (hb); replace HI0 := aM (hi); (try clear hb hk hi)) | (go_at_call 49; (with_reducible refine (spec_l20Rd_pick.calls k g s0_0 t255 256 t256 t257 w0 _ ?side1 ?side2 A4.out).mono ?_); (case side1 => exact IsS74.j HI0.out); (case side2 => exact jB HB.out); rintro e w47 ⟨rfl, hi, hb, hk⟩; replace HK := aM (kt HK.out hk); replace HB := aM (hb); replace HI0 := aM (hi); (try clear hb hk hi)) | ((with_reducible refine gate_dst (N := 14) rfl ?_); refine Kd.R_lit (Kd.int .i64) _ 3 ?hg (N := 14) ?hd (xs := ([32, 48, 49, 120, 45, 97, 0, t256] : List Int)) (inner := [.int .i64 32, .int .i64 48, .int .i64 49, .int .i64 120, .int .i64 45, .int .i64 97, .int .i64 0, .int .i64 t256]) (ok := fun _ => True) (okp := fun _ => True) ?hr ?hp (fun _ hk => hk) trivial (Below.refl _ _) (Nat.le_refl _) (by simp) ?_; (case hd => rfl); (case hg => rfl); (case hr => first | (go_simp; done) | (go_simp; rfl)); (case hp => exact (Reps.one (show Kd.M (Kd.int .i64) _ _ _ 32 [.int .i64 32] from rfl) (Reps.one (show Kd.M (Kd.int .i64) _ _ _ 48 [.int .i64 48] from rfl) (Reps.one (show Kd.M (Kd.int .i64) _ _ _ 49 [.int .i64 49] from rfl) (Reps.one (show Kd.M (Kd.int .i64) _ _ _ 120 [.int .i64 120] from rfl) (Reps.one (show Kd.M (Kd.int .i64) _ _ _ 45 [.int .i64 45] from rfl) (Reps.one (show Kd.M (Kd.int .i64) _ _ _ 97 [.int .i64 97] from rfl) (Reps.one (show Kd.M (Kd.int .i64) _ _ _ 0 [.int .i64 0] from rfl) (Reps.one (show Kd.M (Kd.int .i64) _ _ _ t256 [.int .i64 t256] from rfl) (Reps.none _ _)))))))))); intro v259 w48 ho49 hb hg_ hnew_; clear hg_ hnew_; (first | rw [← Ny258.out] at ho49 | (simp only [Int.reduceToNat] at ho49; rw [← Ny258.out] at ho49)); have HO260 := aM (lw ho49 HK.out); replace HI0 := aM (IsS74.below (by exact IsS74.j HI0.out) hb); replace HK := aM (kbl HK.out hb); replace HB := aM (bj HB.out hb); clear hb ho49) | (go_at_call 49; (with_reducible refine (spec_l20Rd_pick.calls k g s0_0 t257 8 t261 t262 w0 _ ?side1 ?side2 A5.out).mono ?_); (case side1 => exact IsS74.j HI0.out); (case side2 => exact jB HB.out); rintro e w50 ⟨rfl, hi, hb, hk⟩; replace HO260 := aM (IsS74.kp (f1 := t257) (by exact IsS74.j HI0.out) (lR HO260.out) hk); replace HK := aM (kt HK.out hk); replace HB := aM (hb); replace HI0 := aM (hi); (try clear hb hk hi); obtain ⟨Ao51, co51, eo51⟩ := Kd.R_slice HO260.out; subst eo51; have p263 : 0 ≤ (t261 : Int) := of_decide_eq_true (by first | (with_reducible assumption) | assumption); have q263 : t261 < (y258.length : Int) := of_decide_eq_true (by first | (with_reducible assumption) | assumption); obtain ⟨ad263, e263, hx263_0⟩ := Kd.at_int (Kd.R_reads' HO260.out).2.2 t261 p263 q263; cases e263; replace p263 := eq_true p263; replace q263 := eq_true q263) | ((with_reducible refine gate_dst (N := 20) rfl ?_); refine Kd.R_lit (Kd.int .u8) _ 5 ?hg (N := 20) ?hd (xs := ([(rd y258 t261) % 256] : List Int)) (inner := [.int .u8 ((rd y258 t261) % 256)]) (ok := fun _ => True) (okp := fun _ => True) ?hr ?hp (fun _ hk => hk) trivial (Below.refl _ _) (Nat.le_refl _) (by simp) ?_; (case hd => rfl); (case hg => rfl); (case hr => first | (go_simp; done) | (go_simp; rfl)); (case hp => exact (Reps.one (show Kd.M (Kd.int .u8) _ _ _ ((rd y258 t261) % 256) [.int .u8 ((rd y258 t261) % 256)] from rfl) (Reps.none _ _))); intro v265 w52 ho53 hb hg_ hnew_; clear hg_ hnew_; (first | rw [← Ny264.out] at ho53 | (simp only [Int.reduceToNat] at ho53; rw [← Ny264.out] at ho53)); replace HO260 := aM (rb HO260.out hb); have HO266 := aM (lw ho53 HK.out); replace HI0 := aM (IsS74.below (by exact IsS74.j HI0.out) hb); replace HK := aM (kbl HK.out hb); replace HB := aM (bj HB.out hb); clear hb ho53; have hcv54 := own_string (P := Tryd.prog) Tryd.underlying36 Tryd.underlying5 Tryd.underlying9 (Kd.own_of_R HO266.out)) | (go_at_call 49; (with_reducible refine (spec_l20Rd_pick.calls k g s0_0 t262 3 t267 t268 w0 _ ?side1 ?side2 A8.out).mono ?_); (case side1 => exact IsS74.j HI0.out); (case side2 => exact jB HB.out); rintro e w55 ⟨rfl, hi, hb, hk⟩; replace HO260 := aM (IsS74.kp (f1 := t262) (by exact IsS74.j HI0.out) (lR HO260.out) hk); replace HO266 := aM (IsS74.kp (f1 := t262) (by exact IsS74.j HI0.out) (lR HO266.out) hk); replace HK := aM (kt HK.out hk); replace HB := aM (hb); replace HI0 := aM (hi); (try clear hb hk hi)) | (go_at_call 49; (with_reducible refine (spec_l20Rd_pick.calls k g s0_0 t268 2 t269 t270 w0 _ ?side1 ?side2 A38.out).mono ?_); (case side1 => exact IsS74.j HI0.out); (case side2 => exact jB HB.out); rintro e w56 ⟨rfl, hi, hb, hk⟩; replace HO260 := aM (IsS74.kp (f1 := t268) (by exact IsS74.j HI0.out) (lR HO260.out) hk); replace HO266 := aM (IsS74.kp (f1 := t268) (by exact IsS74.j HI0.out) (lR HO266.out) hk); replace HK := aM (kt HK.out hk); replace HB := aM (hb); replace HI0 := aM (hi); (try clear hb hk hi)))
           repeat (go_quiet (first | (go_at_call 49; (with_reducible refine (spec_l20Rd_pick.calls k g s0_0 s0_1 (wrap64 ((a1.size : Int) + 1)) t254 t255 w0 _ ?side1 ?side2 A3.out).mono ?_); (case side1 => exact IsS74.j HI0.out); (case side2 => exact jB HB.out); rintro e w46 ⟨rfl, hi, hb, hk⟩; replace HK := aM (kt HK.out hk); replace HB := aM (hb); replace HI0 := aM (hi); (try clear hb hk hi)) | (go_at_call 49; (with_reducible refine (spec_l20Rd_pick.calls k g s0_0 t255 256 t256 t257 w0 _ ?side1 ?side2 A4.out).mono ?_); (case side1 => exact IsS74.j HI0.out); (case side2 => exact jB HB.out); rintro e w47 ⟨rfl, hi, hb, hk⟩; replace HK := aM (kt HK.out hk); replace HB := aM (hb); replace HI0 := aM (hi); (try clear hb hk hi)) | ((with_reducible refine gate_dst (N := 14) rfl ?_); refine Kd.R_lit (Kd.int .i64) _ 3 ?hg (N := 14) ?hd (xs := ([32, 48, 49, 120, 45, 97, 0, t256] : List Int)) (inner := [.int .i64 32, .int .i64 48, .int .i64 49, .int .i64 120, .int .i64 45, .int .i64 97, .int .i64 0, .int .i64 t256]) (ok := fun _ => True) (okp := fun _ => True) ?hr ?hp (fun _ hk => hk) trivial (Below.refl _ _) (Nat.le_refl _) (by simp) ?_; (case hd => rfl); (case hg => rfl); (case hr => first | (go_simp; done) | (go_simp; rfl)); (case hp => exact (Reps.one (show Kd.M (Kd.int .i64) _ _ _ 32 [.int .i64 32] from rfl) (Reps.one (show Kd.M (Kd.int .i64) _ _ _ 48 [.int .i64 48] from rfl) (Reps.one (show Kd.M (Kd.int .i64) _ _ _ 49 [.int .i64 49] from rfl) (Reps.one (show Kd.M (Kd.int .i64) _ _ _ 120 [.int .i64 120] from rfl) (Reps.one (show Kd.M (Kd.int .i64) _ _ _ 45 [.int .i64 45] from rfl) (Reps.one (show Kd.M (Kd.int .i64) _ _ _ 97 [.int .i64 97] from rfl) (Reps.one (show Kd.M (Kd.int .i64) _ _ _ 0 [.int .i64 0] from rfl) (Reps.one (show Kd.M (Kd.int .i64) _ _ _ t256 [.int .i64 t256] from rfl) (Reps.none _ _)))))))))); intro v259 w48 ho49 hb hg_ hnew_; clear hg_ hnew_; (first | rw [← Ny258.out] at ho49 | (simp only [Int.reduceToNat] at ho49; rw [← Ny258.out] at ho49)); have HO260 := aM (lw ho49 HK.out); replace HI0 := aM (IsS74.below (by exact IsS74.j HI0.out) hb); replace HK := aM (kbl HK.out hb); replace HB := aM (bj HB.out hb); clear hb ho49) | (go_at_call 49; (with_reducible refine (spec_l20Rd_pick.calls k g s0_0 t257 8 t261 t262 w0 _ ?side1 ?side2 A5.out).mono ?_); (case side1 => exact IsS74.j HI0.out); (case side2 => exact jB HB.out); rintro e w50 ⟨rfl, hi, hb, hk⟩; replace HO260 := aM (IsS74.kp (f1 := t257) (by exact IsS74.j HI0.out) (lR HO260.out) hk); replace HK := aM (kt HK.out hk); replace HB := aM (hb); replace HI0 := aM (hi); (try clear hb hk hi); obtain ⟨Ao51, co51, eo51⟩ := Kd.R_slice HO260.out; subst eo51; have p263 : 0 ≤ (t261 : Int) := of_decide_eq_true (by first | (with_reducible assumption) | assumption); have q263 : t261 < (y258.length : Int) := of_decide_eq_true (by first | (with_reducible assumption) | assumption); obtain ⟨ad263, e263, hx263_0⟩ := Kd.at_int (Kd.R_reads' HO260.out).2.2 t261 p263 q263; cases e263; replace p263 := eq_true p263; replace q263 := eq_true q263) | ((with_reducible refine gate_dst (N := 20) rfl ?_); refine Kd.R_lit (Kd.int .u8) _ 5 ?hg (N := 20) ?hd (xs := ([(rd y258 t261) % 256] : List Int)) (inner := [.int .u8 ((rd y258 t261) % 256)]) (ok := fun _ => True) (okp := fun _ => True) ?hr ?hp (fun _ hk => hk) trivial (Below.refl _ _) (Nat.le_refl _) (by simp) ?_; (case hd => rfl); (case hg => rfl); (case hr => first | (go_simp; done) | (go_simp; rfl)); (case hp => exact (Reps.one (show Kd.M (Kd.int .u8) _ _ _ ((rd y258 t261) % 256) [.int .u8 ((rd y258 t261) % 256)] from rfl) (Reps.none _ _))); intro v265 w52 ho53 hb hg_ hnew_; clear hg_ hnew_; (first | rw [← Ny264.out] at ho53 | (simp only [Int.reduceToNat] at ho53; rw [← Ny264.out] at ho53)); replace HO260 := aM (rb HO260.out hb); have HO266 := aM (lw ho53 HK.out); replace HI0 := aM (IsS74.below (by exact IsS74.j HI0.out) hb); replace HK := aM (kbl HK.out hb); replace HB := aM (bj HB.out hb); clear hb ho53; have hcv54 := own_string (P := Tryd.prog) Tryd.underlying36 Tryd.underlying5 Tryd.underlying9 (Kd.own_of_R HO266.out)) | (go_at_call 49; (with_reducible refine (spec_l20Rd_pick.calls k g s0_0 t262 3 t267 t268 w0 _ ?side1 ?side2 A8.out).mono ?_); (case side1 => exact IsS74.j HI0.out); (case side2 => exact jB HB.out); rintro e w55 ⟨rfl, hi, hb, hk⟩; replace HO260 := aM (IsS74.kp (f1 := t262) (by exact IsS74.j HI0.out) (lR HO260.out) hk); replace HO266 := aM (IsS74.kp (f1 := t262) (by exact IsS74.j HI0.out) (lR HO266.out) hk); replace HK := aM (kt HK.out hk); replace HB := aM (hb); replace HI0 := aM (hi); (try clear hb hk hi)) | (go_at_call 49; (with_reducible refine (spec_l20Rd_pick.calls k g s0_0 t268 2 t269 t270 w0 _ ?side1 ?side2 A38.out).mono ?_); (case side1 => exact IsS74.j HI0.out); (case side2 => exact jB HB.out); rintro e w56 ⟨rfl, hi, hb, hk⟩; replace HO260 := aM (IsS74.kp (f1 := t268) (by exact IsS74.j HI0.out) (lR HO260.out) hk); replace HO266 := aM (IsS74.kp (f1 := t268) (by exact IsS74.j HI0.out) (lR HO266.out) hk); replace HK := aM (kt HK.out hk); replace HB := aM (hb); replace HI0 := aM (hi); (try clear hb hk hi))); try go_wp2_with (first | (go_at_call 49; (with_reducible refine (spec_l20Rd_pick.calls k g s0_0 s0_1 (wrap64 ((a1.size : Int) + 1)) t254 t255 w0 _ ?side1 ?side2 A3.out).mono ?_); (case side1 => exact IsS74.j HI0.out); (case side2 => exact jB HB.out); rintro e w46 ⟨rfl, hi, hb, hk⟩; replace HK := aM (kt HK.out hk); replace HB := aM (hb); replace HI0 := aM (hi); (try clear hb hk hi)) | (go_at_call 49; (with_reducible refine (spec_l20Rd_pick.calls k g s0_0 t255 256 t256 t257 w0 _ ?side1 ?side2 A4.out).mono ?_); (case side1 => exact IsS74.j HI0.out); (case side2 => exact jB HB.out); rintro e w47 ⟨rfl, hi, hb, hk⟩; replace HK := aM (kt HK.out hk); replace HB := aM (hb); replace HI0 := aM (hi); (try clear hb hk hi)) | ((with_reducible refine gate_dst (N := 14) rfl ?_); refine Kd.R_lit (Kd.int .i64) _ 3 ?hg (N := 14) ?hd (xs := ([32, 48, 49, 120, 45, 97, 0, t256] : List Int)) (inner := [.int .i64 32, .int .i64 48, .int .i64 49, .int .i64 120, .int .i64 45, .int .i64 97, .int .i64 0, .int .i64 t256]) (ok := fun _ => True) (okp := fun _ => True) ?hr ?hp (fun _ hk => hk) trivial (Below.refl _ _) (Nat.le_refl _) (by simp) ?_; (case hd => rfl); (case hg => rfl); (case hr => first | (go_simp; done) | (go_simp; rfl)); (case hp => exact (Reps.one (show Kd.M (Kd.int .i64) _ _ _ 32 [.int .i64 32] from rfl) (Reps.one (show Kd.M (Kd.int .i64) _ _ _ 48 [.int .i64 48] from rfl) (Reps.one (show Kd.M (Kd.int .i64) _ _ _ 49 [.int .i64 49] from rfl) (Reps.one (show Kd.M (Kd.int .i64) _ _ _ 120 [.int .i64 120] from rfl) (Reps.one (show Kd.M (Kd.int .i64) _ _ _ 45 [.int .i64 45] from rfl) (Reps.one (show Kd.M (Kd.int .i64) _ _ _ 97 [.int .i64 97] from rfl) (Reps.one (show Kd.M (Kd.int .i64) _ _ _ 0 [.int .i64 0] from rfl) (Reps.one (show Kd.M (Kd.int .i64) _ _ _ t256 [.int .i64 t256] from rfl) (Reps.none _ _)))))))))); intro v259 w48 ho49 hb hg_ hnew_; clear hg_ hnew_; (first | rw [← Ny258.out] at ho49 | (simp only [Int.reduceToNat] at ho49; rw [← Ny258.out] at ho49)); have HO260 := aM (lw ho49 HK.out); replace HI0 := aM (IsS74.below (by exact IsS74.j HI0.out) hb); replace HK := aM (kbl HK.out hb); replace HB := aM (bj HB.out hb); clear hb ho49) | (go_at_call 49; (with_reducible refine (spec_l20Rd_pick.calls k g s0_0 t257 8 t261 t262 w0 _ ?side1 ?side2 A5.out).mono ?_); (case side1 => exact IsS74.j HI0.out); (case side2 => exact jB HB.out); rintro e w50 ⟨rfl, hi, hb, hk⟩; replace HO260 := aM (IsS74.kp (f1 := t257) (by exact IsS74.j HI0.out) (lR HO260.out) hk); replace HK := aM (kt HK.out hk); replace HB := aM (hb); replace HI0 := aM (hi); (try clear hb hk hi); obtain ⟨Ao51, co51, eo51⟩ := Kd.R_slice HO260.out; subst eo51; have p263 : 0 ≤ (t261 : Int) := of_decide_eq_true (by first | (with_reducible assumption) | assumption); have q263 : t261 < (y258.length : Int) := of_decide_eq_true (by first | (with_reducible assumption) | assumption); obtain ⟨ad263, e263, hx263_0⟩ := Kd.at_int (Kd.R_reads' HO260.out).2.2 t261 p263 q263; cases e263; replace p263 := eq_true p263; replace q263 := eq_true q263) | ((with_reducible refine gate_dst (N := 20) rfl ?_); refine Kd.R_lit (Kd.int .u8) _ 5 ?hg (N := 20) ?hd (xs := ([(rd y258 t261) % 256] : List Int)) (inner := [.int .u8 ((rd y258 t261) % 256)]) (ok := fun _ => True) (okp := fun _ => True) ?hr ?hp (fun _ hk => hk) trivial (Below.refl _ _) (Nat.le_refl _) (by simp) ?_; (case hd => rfl); (case hg => rfl); (case hr => first | (go_simp; done) | (go_simp; rfl)); (case hp => exact (Reps.one (show Kd.M (Kd.int .u8) _ _ _ ((rd y258 t261) % 256) [.int .u8 ((rd y258 t261) % 256)] from rfl) (Reps.none _ _))); intro v265 w52 ho53 hb hg_ hnew_; clear hg_ hnew_; (first | rw [← Ny264.out] at ho53 | (simp only [Int.reduceToNat] at ho53; rw [← Ny264.out] at ho53)); replace HO260 := aM (rb HO260.out hb); have HO266 := aM (lw ho53 HK.out); replace HI0 := aM (IsS74.below (by exact IsS74.j HI0.out) hb); replace HK := aM (kbl HK.out hb); replace HB := aM (bj HB.out hb); clear hb ho53; have hcv54 := own_string (P := Tryd.prog) Tryd.underlying36 Tryd.underlying5 Tryd.underlying9 (Kd.own_of_R HO266.out)) | (go_at_call 49; (with_reducible refine (spec_l20Rd_pick.calls k g s0_0 t262 3 t267 t268 w0 _ ?side1 ?side2 A8.out).mono ?_); (case side1 => exact IsS74.j HI0.out); (case side2 => exact jB HB.out); rintro e w55 ⟨rfl, hi, hb, hk⟩; replace HO260 := aM (IsS74.kp (f1 := t262) (by exact IsS74.j HI0.out) (lR HO260.out) hk); replace HO266 := aM (IsS74.kp (f1 := t262) (by exact IsS74.j HI0.out) (lR HO266.out) hk); replace HK := aM (kt HK.out hk); replace HB := aM (hb); replace HI0 := aM (hi); (try clear hb hk hi)) | (go_at_call 49; (with_reducible refine (spec_l20Rd_pick.calls k g s0_0 t268 2 t269 t270 w0 _ ?side1 ?side2 A38.out).mono ?_); (case side1 => exact IsS74.j HI0.out); (case side2 => exact jB HB.out); rintro e w56 ⟨rfl, hi, hb, hk⟩; replace HO260 := aM (IsS74.kp (f1 := t268) (by exact IsS74.j HI0.out) (lR HO260.out) hk); replace HO266 := aM (IsS74.kp (f1 := t268) (by exact IsS74.j HI0.out) (lR HO266.out) hk); replace HK := aM (kt HK.out hk); replace HB := aM (hb); replace HI0 := aM (hi); (try clear hb hk hi))))
           go_ret
           exact ⟨by first | rfl | (simp [errW_none, errW_some] <;> rfl) | (simp only [← hji42]; first | rfl | (simp [errW_none, errW_some] <;> rfl)) | (simp [*, errW_none, errW_some] <;> rfl), by exact IsS74.j HI0.out, by exact jB HB.out, by exact jK HK.out⟩
          ·rw [if_neg c45] at H
           exact absurd H (by simp)
         ·rw [if_neg c44] at H
          exact absurd H (by simp)
        ·rw [if_neg c43] at H
         exact absurd H (by simp)
       ·rw [if_neg c41] at H
        exact absurd H (by simp)
      ·rw [if_neg c40] at H
       exact absurd H (by simp)
     ·rw [if_neg c39] at H
      have c39b0 := beq_eq_false_iff_ne.mpr c39
      have c39b1 := bne_iff_ne.mpr c39
      by_cases c57 : 0 ≤ t254
      ·rw [if_pos c57] at H
       have c57b0 := eq_true c57
       have c57b1 := decide_eq_true c57
       clear c57
       by_cases c58 : t254 ≤ (a1.size : Int)
       ·rw [if_pos c58] at H
        have c58b0 := eq_true c58
        have c58b1 := decide_eq_true c58
        clear c58
        by_cases c59 : (a1.extract 0 (t254 : Int).toNat).size + (strOfNums y264).size ≤ 9223372036854775807
        ·rw [if_pos c59] at H
         have c59b0 := eq_true c59
         have c59b1 := decide_eq_true c59
         try have c59b2 : (9223372036854775807 < (a1.extract 0 (t254 : Int).toNat).size + (strOfNums y264).size) = False := eq_false (Nat.not_lt.2 c59)
         obtain ⟨ji60, hji60⟩ : ∃ j_ : Int, (wrap64 (t254 + 1)) = j_ := ⟨_, rfl⟩
         replace H : (if 0 ≤ (ji60) then (if (ji60) ≤ (a1.size : Int) then (if ((a1.extract 0 (t254 : Int).toNat) ++ (strOfNums y264)).size + (a1.extract ((ji60) : Int).toNat a1.size).size ≤ 9223372036854775807 then (some (((a1.extract 0 (t254 : Int).toNat) ++ (strOfNums y264)) ++ (a1.extract ((ji60) : Int).toNat a1.size), t270)) else (none)) else (none)) else (none)) = some (r1, r2) := by first | (rw [hji60] at H; exact H) | (simp only [hji60] at H ⊢; exact H)
         (try rw [hji60] at A3)
         (try rw [hji60] at A4)
         (try rw [hji60] at A5)
         (try rw [hji60] at A8)
         (try rw [hji60] at A38)
         have hji60w : (IntKind.i64.wrap (t254 + 1)) = ji60 := (i64_w _).trans hji60
         by_cases c61 : 0 ≤ (ji60)
         ·rw [if_pos c61] at H
          have c61b0 := eq_true c61
          have c61b1 := decide_eq_true c61
          clear c61
          by_cases c62 : (ji60) ≤ (a1.size : Int)
          ·rw [if_pos c62] at H
           have c62b0 := eq_true c62
           have c62b1 := decide_eq_true c62
           clear c62
           by_cases c63 : ((a1.extract 0 (t254 : Int).toNat) ++ (strOfNums y264)).size + (a1.extract ((ji60) : Int).toNat a1.size).size ≤ 9223372036854775807
           ·rw [if_pos c63] at H
            have c63b0 := eq_true c63
            have c63b1 := decide_eq_true c63
            try have c63b2 : (9223372036854775807 < ((a1.extract 0 (t254 : Int).toNat) ++ (strOfNums y264)).size + (a1.extract ((ji60) : Int).toNat a1.size).size) = False := eq_false (Nat.not_lt.2 c63)
            simp only [Option.some.injEq, Prod.mk.injEq] at H
            obtain ⟨rfl, rfl⟩ := H
            go_enter Tryd.func50, Tryd.ntmps50
            go_wp2_with (first | (go_at_call 49; (with_reducible refine (spec_l20Rd_pick.calls k g s0_0 s0_1 (wrap64 ((a1.size : Int) + 1)) t254 t255 w0 _ ?side1 ?side2 A3.out).mono ?_); (case side1 => exact IsS74.j HI0.out); (case side2 => exact jB HB.out); rintro e w64 ⟨rfl, hi, hb, hk⟩; replace HK := aM (kt HK.out hk); replace HB := aM (hb); replace HI0 := aM (hi); (try clear hb hk hi)) | (go_at_call 49; (with_reducible refine (spec_l20Rd_pick.calls k g s0_0 t255 256 t256 t257 w0 _ ?side1 ?side2 A4.out).mono ?_); (case side1 => exact IsS74.j HI0.out); (case side2 => exact jB HB.out); rintro e w65 ⟨rfl, hi, hb, hk⟩; replace HK := aM (kt HK.out hk); replace HB := aM (hb); replace HI0 := aM (hi); (try clear hb hk hi)) | ((with_reducible refine gate_dst (N := 14) rfl ?_); refine Kd.R_lit (Kd.int .i64) _ 3 ?hg (N := 14) ?hd (xs := ([32, 48, 49, 120, 45, 97, 0, t256] : List Int)) (inner := [.int .i64 32, .int .i64 48, .int .i64 49, .int .i64 120, .int .i64 45, .int .i64 97, .int .i64 0, .int .i64 t256]) (ok := fun _ => True) (okp := fun _ => True) ?hr ?hp (fun _ hk => hk) trivial (Below.refl _ _) (Nat.le_refl _) (by simp) ?_; (case hd => rfl); (case hg => rfl); (case hr => first | (go_simp; done) | (go_simp; rfl)); (case hp => exact (Reps.one (show Kd.M (Kd.int .i64) _ _ _ 32 [.int .i64 32] from rfl) (Reps.one (show Kd.M (Kd.int .i64) _ _ _ 48 [.int .i64 48] from rfl) (Reps.one (show Kd.M (Kd.int .i64) _ _ _ 49 [.int .i64 49] from rfl) (Reps.one (show Kd.M (Kd.int .i64) _ _ _ 120 [.int .i64 120] from rfl) (Reps.one (show Kd.M (Kd.int .i64) _ _ _ 45 [.int .i64 45] from rfl) (Reps.one (show Kd.M (Kd.int .i64) _ _ _ 97 [.int .i64 97] from rfl) (Reps.one (show Kd.M (Kd.int .i64) _ _ _ 0 [.int .i64 0] from rfl) (Reps.one (show Kd.M (Kd.int .i64) _ _ _ t256 [.int .i64 t256] from rfl) (Reps.none _ _)))))))))); intro v259 w66 ho67 hb hg_ hnew_; clear hg_ hnew_; (first | rw [← Ny258.out] at ho67 | (simp only [Int.reduceToNat] at ho67; rw [← Ny258.out] at ho67)); have HO260 := aM (lw ho67 HK.out); replace HI0 := aM (IsS74.below (by exact IsS74.j HI0.out) hb); replace HK := aM (kbl HK.out hb); replace HB := aM (bj HB.out hb); clear hb ho67) | (go_at_call 49; (with_reducible refine (spec_l20Rd_pick.calls k g s0_0 t257 8 t261 t262 w0 _ ?side1 ?side2 A5.out).mono ?_); (case side1 => exact IsS74.j HI0.out); (case side2 => exact jB HB.out); rintro e w68 ⟨rfl, hi, hb, hk⟩; replace HO260 := aM (IsS74.kp (f1 := t257) (by exact IsS74.j HI0.out) (lR HO260.out) hk); replace HK := aM (kt HK.out hk); replace HB := aM (hb); replace HI0 := aM (hi); (try clear hb hk hi); obtain ⟨Ao69, co69, eo69⟩ := Kd.R_slice HO260.out; subst eo69; have p263 : 0 ≤ (t261 : Int) := of_decide_eq_true (by first | (with_reducible assumption) | assumption); have q263 : t261 < (y258.length : Int) := of_decide_eq_true (by first | (with_reducible assumption) | assumption); obtain ⟨ad263, e263, hx263_0⟩ := Kd.at_int (Kd.R_reads' HO260.out).2.2 t261 p263 q263; cases e263; replace p263 := eq_true p263; replace q263 := eq_true q263) | ((with_reducible refine gate_dst (N := 20) rfl ?_); refine Kd.R_lit (Kd.int .u8) _ 5 ?hg (N := 20) ?hd (xs := ([(rd y258 t261) % 256] : List Int)) (inner := [.int .u8 ((rd y258 t261) % 256)]) (ok := fun _ => True) (okp := fun _ => True) ?hr ?hp (fun _ hk => hk) trivial (Below.refl _ _) (Nat.le_refl _) (by simp) ?_; (case hd => rfl); (case hg => rfl); (case hr => first | (go_simp; done) | (go_simp; rfl)); (case hp => exact (Reps.one (show Kd.M (Kd.int .u8) _ _ _ ((rd y258 t261) % 256) [.int .u8 ((rd y258 t261) % 256)] from rfl) (Reps.none _ _))); intro v265 w70 ho71 hb hg_ hnew_; clear hg_ hnew_; (first | rw [← Ny264.out] at ho71 | (simp only [Int.reduceToNat] at ho71; rw [← Ny264.out] at ho71)); replace HO260 := aM (rb HO260.out hb); have HO266 := aM (lw ho71 HK.out); replace HI0 := aM (IsS74.below (by exact IsS74.j HI0.out) hb); replace HK := aM (kbl HK.out hb); replace HB := aM (bj HB.out hb); clear hb ho71; have hcv72 := own_string (P := Tryd.prog) Tryd.underlying36 Tryd.underlying5 Tryd.underlying9 (Kd.own_of_R HO266.out)) | (go_at_call 49; (with_reducible refine (spec_l20Rd_pick.calls k g s0_0 t262 3 t267 t268 w0 _ ?side1 ?side2 A8.out).mono ?_); (case side1 => exact IsS74.j HI0.out); (case side2 => exact jB HB.out); rintro e w73 ⟨rfl, hi, hb, hk⟩; replace HO260 := aM (IsS74.kp (f1 := t262) (by exact IsS74.j HI0.out) (lR HO260.out) hk); replace HO266 := aM (IsS74.kp (f1 := t262) (by exact IsS74.j HI0.out) (lR HO266.out) hk); replace HK := aM (kt HK.out hk); replace HB := aM (hb); replace HI0 := aM (hi); (try clear hb hk hi)) | (go_at_call 49; (with_reducible refine (spec_l20Rd_pick.calls k g s0_0 t268 2 t269 t270 w0 _ ?side1 ?side2 A38.out).mono ?_); (case side1 => exact IsS74.j HI0.out); (case side2 => exact jB HB.out); rintro e w74 ⟨rfl, hi, hb, hk⟩; replace HO260 := aM (IsS74.kp (f1 := t268) (by exact IsS74.j HI0.out) (lR HO260.out) hk); replace HO266 := aM (IsS74.kp (f1 := t268) (by exact IsS74.j HI0.out) (lR HO266.out) hk); replace HK := aM (kt HK.out hk); replace HB := aM (hb); replace HI0 := aM (hi); (try clear hb hk hi)))
            repeat (go_quiet (first | (go_at_call 49; (with_reducible refine (spec_l20Rd_pick.calls k g s0_0 s0_1 (wrap64 ((a1.size : Int) + 1)) t254 t255 w0 _ ?side1 ?side2 A3.out).mono ?_); (case side1 => exact IsS74.j HI0.out); (case side2 => exact jB HB.out); rintro e w64 ⟨rfl, hi, hb, hk⟩; replace HK := aM (kt HK.out hk); replace HB := aM (hb); replace HI0 := aM (hi); (try clear hb hk hi)) | (go_at_call 49; (with_reducible refine (spec_l20Rd_pick.calls k g s0_0 t255 256 t256 t257 w0 _ ?side1 ?side2 A4.out).mono ?_); (case side1 => exact IsS74.j HI0.out); (case side2 => exact jB HB.out); rintro e w65 ⟨rfl, hi, hb, hk⟩; replace HK := aM (kt HK.out hk); replace HB := aM (hb); replace HI0 := aM (hi); (try clear hb hk hi)) | ((with_reducible refine gate_dst (N := 14) rfl ?_); refine Kd.R_lit (Kd.int .i64) _ 3 ?hg (N := 14) ?hd (xs := ([32, 48, 49, 120, 45, 97, 0, t256] : List Int)) (inner := [.int .i64 32, .int .i64 48, .int .i64 49, .int .i64 120, .int .i64 45, .int .i64 97, .int .i64 0, .int .i64 t256]) (ok := fun _ => True) (okp := fun _ => True) ?hr ?hp (fun _ hk => hk) trivial (Below.refl _ _) (Nat.le_refl _) (by simp) ?_; (case hd => rfl); (case hg => rfl); (case hr => first | (go_simp; done) | (go_simp; rfl)); (case hp => exact (Reps.one (show Kd.M (Kd.int .i64) _ _ _ 32 [.int .i64 32] from rfl) (Reps.one (show Kd.M (Kd.int .i64) _ _ _ 48 [.int .i64 48] from rfl) (Reps.one (show Kd.M (Kd.int .i64) _ _ _ 49 [.int .i64 49] from rfl) (Reps.one (show Kd.M (Kd.int .i64) _ _ _ 120 [.int .i64 120] from rfl) (Reps.one (show Kd.M (Kd.int .i64) _ _ _ 45 [.int .i64 45] from rfl) (Reps.one (show Kd.M (Kd.int .i64) _ _ _ 97 [.int .i64 97] from rfl) (Reps.one (show Kd.M (Kd.int .i64) _ _ _ 0 [.int .i64 0] from rfl) (Reps.one (show Kd.M (Kd.int .i64) _ _ _ t256 [.int .i64 t256] from rfl) (Reps.none _ _)))))))))); intro v259 w66 ho67 hb hg_ hnew_; clear hg_ hnew_; (first | rw [← Ny258.out] at ho67 | (simp only [Int.reduceToNat] at ho67; rw [← Ny258.out] at ho67)); have HO260 := aM (lw ho67 HK.out); replace HI0 := aM (IsS74.below (by exact IsS74.j HI0.out) hb); replace HK := aM (kbl HK.out hb); replace HB := aM (bj HB.out hb); clear hb ho67) | (go_at_call 49; (with_reducible refine (spec_l20Rd_pick.calls k g s0_0 t257 8 t261 t262 w0 _ ?side1 ?side2 A5.out).mono ?_); (case side1 => exact IsS74.j HI0.out); (case side2 => exact jB HB.out); rintro e w68 ⟨rfl, hi, hb, hk⟩; replace HO260 := aM (IsS74.kp (f1 := t257) (by exact IsS74.j HI0.out) (lR HO260.out) hk); replace HK := aM (kt HK.out hk); replace HB := aM (hb); replace HI0 := aM (hi); (try clear hb hk hi); obtain ⟨Ao69, co69, eo69⟩ := Kd.R_slice HO260.out; subst eo69; have p263 : 0 ≤ (t261 : Int) := of_decide_eq_true (by first | (with_reducible assumption) | assumption); have q263 : t261 < (y258.length : Int) := of_decide_eq_true (by first | (with_reducible assumption) | assumption); obtain ⟨ad263, e263, hx263_0⟩ := Kd.at_int (Kd.R_reads' HO260.out).2.2 t261 p263 q263; cases e263; replace p263 := eq_true p263; replace q263 := eq_true q263) | ((with_reducible refine gate_dst (N := 20) rfl ?_); refine Kd.R_lit (Kd.int .u8) _ 5 ?hg (N := 20) ?hd (xs := ([(rd y258 t261) % 256] : List Int)) (inner := [.int .u8 ((rd y258 t261) % 256)]) (ok := fun _ => True) (okp := fun _ => True) ?hr ?hp (fun _ hk => hk) trivial (Below.refl _ _) (Nat.le_refl _) (by simp) ?_; (case hd => rfl); (case hg => rfl); (case hr => first | (go_simp; done) | (go_simp; rfl)); (case hp => exact (Reps.one (show Kd.M (Kd.int .u8) _ _ _ ((rd y258 t261) % 256) [.int .u8 ((rd y258 t261) % 256)] from rfl) (Reps.none _ _))); intro v265 w70 ho71 hb hg_ hnew_; clear hg_ hnew_; (first | rw [← Ny264.out] at ho71 | (simp only [Int.reduceToNat] at ho71; rw [← Ny264.out] at ho71)); replace HO260 := aM (rb HO260.out hb); have HO266 := aM (lw ho71 HK.out); replace HI0 := aM (IsS74.below (by exact IsS74.j HI0.out) hb); replace HK := aM (kbl HK.out hb); replace HB := aM (bj HB.out hb); clear hb ho71; have hcv72 := own_string (P := Tryd.prog) Tryd.underlying36 Tryd.underlying5 Tryd.underlying9 (Kd.own_of_R HO266.out)) | (go_at_call 49; (with_reducible refine (spec_l20Rd_pick.calls k g s0_0 t262 3 t267 t268 w0 _ ?side1 ?side2 A8.out).mono ?_); (case side1 => exact IsS74.j HI0.out); (case side2 => exact jB HB.out); rintro e w73 ⟨rfl, hi, hb, hk⟩; replace HO260 := aM (IsS74.kp (f1 := t262) (by exact IsS74.j HI0.out) (lR HO260.out) hk); replace HO266 := aM (IsS74.kp (f1 := t262) (by exact IsS74.j HI0.out) (lR HO266.out) hk); replace HK := aM (kt HK.out hk); replace HB := aM (hb); replace HI0 := aM (hi); (try clear hb hk hi)) | (go_at_call 49; (with_reducible refine (spec_l20Rd_pick.calls k g s0_0 t268 2 t269 t270 w0 _ ?side1 ?side2 A38.out).mono ?_); (case side1 => exact IsS74.j HI0.out); (case side2 => exact jB HB.out); rintro e w74 ⟨rfl, hi, hb, hk⟩; replace HO260 := aM (IsS74.kp (f1 := t268) (by exact IsS74.j HI0.out) (lR HO260.out) hk); replace HO266 := aM (IsS74.kp (f1 := t268) (by exact IsS74.j HI0.out) (lR HO266.out) hk); replace HK := aM (kt HK.out hk); replace HB := aM (hb); replace HI0 := aM (hi); (try clear hb hk hi))); try go_wp2_with (first | (go_at_call 49; (with_reducible refine (spec_l20Rd_pick.calls k g s0_0 s0_1 (wrap64 ((a1.size : Int) + 1)) t254 t255 w0 _ ?side1 ?side2 A3.out).mono ?_); (case side1 => exact IsS74.j HI0.out); (case side2 => exact jB HB.out); rintro e w64 ⟨rfl, hi, hb, hk⟩; replace HK := aM (kt HK.out hk); replace HB := aM (hb); replace HI0 := aM (hi); (try clear hb hk hi)) | (go_at_call 49; (with_reducible refine (spec_l20Rd_pick.calls k g s0_0 t255 256 t256 t257 w0 _ ?side1 ?side2 A4.out).mono ?_); (case side1 => exact IsS74.j HI0.out); (case side2 => exact jB HB.out); rintro e w65 ⟨rfl, hi, hb, hk⟩; replace HK := aM (kt HK.out hk); replace HB := aM (hb); replace HI0 := aM (hi); (try clear hb hk hi)) | ((with_reducible refine gate_dst (N := 14) rfl ?_); refine Kd.R_lit (Kd.int .i64) _ 3 ?hg (N := 14) ?hd (xs := ([32, 48, 49, 120, 45, 97, 0, t256] : List Int)) (inner := [.int .i64 32, .int .i64 48, .int .i64 49, .int .i64 120, .int .i64 45, .int .i64 97, .int .i64 0, .int .i64 t256]) (ok := fun _ => True) (okp := fun _ => True) ?hr ?hp (fun _ hk => hk) trivial (Below.refl _ _) (Nat.le_refl _) (by simp) ?_; (case hd => rfl); (case hg => rfl); (case hr => first | (go_simp; done) | (go_simp; rfl)); (case hp => exact (Reps.one (show Kd.M (Kd.int .i64) _ _ _ 32 [.int .i64 32] from rfl) (Reps.one (show Kd.M (Kd.int .i64) _ _ _ 48 [.int .i64 48] from rfl) (Reps.one (show Kd.M (Kd.int .i64) _ _ _ 49 [.int .i64 49] from rfl) (Reps.one (show Kd.M (Kd.int .i64) _ _ _ 120 [.int .i64 120] from rfl) (Reps.one (show Kd.M (Kd.int .i64) _ _ _ 45 [.int .i64 45] from rfl) (Reps.one (show Kd.M (Kd.int .i64) _ _ _ 97 [.int .i64 97] from rfl) (Reps.one (show Kd.M (Kd.int .i64) _ _ _ 0 [.int .i64 0] from rfl) (Reps.one (show Kd.M (Kd.int .i64) _ _ _ t256 [.int .i64 t256] from rfl) (Reps.none _ _)))))))))); intro v259 w66 ho67 hb hg_ hnew_; clear hg_ hnew_; (first | rw [← Ny258.out] at ho67 | (simp only [Int.reduceToNat] at ho67; rw [← Ny258.out] at ho67)); have HO260 := aM (lw ho67 HK.out); replace HI0 := aM (IsS74.below (by exact IsS74.j HI0.out) hb); replace HK := aM (kbl HK.out hb); replace HB := aM (bj HB.out hb); clear hb ho67) | (go_at_call 49; (with_reducible refine (spec_l20Rd_pick.calls k g s0_0 t257 8 t261 t262 w0 _ ?side1 ?side2 A5.out).mono ?_); (case side1 => exact IsS74.j HI0.out); (case side2 => exact jB HB.out); rintro e w68 ⟨rfl, hi, hb, hk⟩; replace HO260 := aM (IsS74.kp (f1 := t257) (by exact IsS74.j HI0.out) (lR HO260.out) hk); replace HK := aM (kt HK.out hk); replace HB := aM (hb); replace HI0 := aM (hi); (try clear hb hk hi); obtain ⟨Ao69, co69, eo69⟩ := Kd.R_slice HO260.out; subst eo69; have p263 : 0 ≤ (t261 : Int) := of_decide_eq_true (by first | (with_reducible assumption) | assumption); have q263 : t261 < (y258.length : Int) := of_decide_eq_true (by first | (with_reducible assumption) | assumption); obtain ⟨ad263, e263, hx263_0⟩ := Kd.at_int (Kd.R_reads' HO260.out).2.2 t261 p263 q263; cases e263; replace p263 := eq_true p263; replace q263 := eq_true q263) | ((with_reducible refine gate_dst (N := 20) rfl ?_); refine Kd.R_lit (Kd.int .u8) _ 5 ?hg (N := 20) ?hd (xs := ([(rd y258 t261) % 256] : List Int)) (inner := [.int .u8 ((rd y258 t261) % 256)]) (ok := fun _ => True) (okp := fun _ => True) ?hr ?hp (fun _ hk => hk) trivial (Below.refl _ _) (Nat.le_refl _) (by simp) ?_; (case hd => rfl); (case hg => rfl); (case hr => first | (go_simp; done) | (go_simp; rfl)); (case hp => exact (Reps.one (show Kd.M (Kd.int .u8) _ _ _ ((rd y258 t261) % 256) [.int .u8 ((rd y258 t261) % 256)] from rfl) (Reps.none _ _))); intro v265 w70 ho71 hb hg_ hnew_; clear hg_ hnew_; (first | rw [← Ny264.out] at ho71 | (simp only [Int.reduceToNat] at ho71; rw [← Ny264.out] at ho71)); replace HO260 := aM (rb HO260.out hb); have HO266 := aM (lw ho71 HK.out); replace HI0 := aM (IsS74.below (by exact IsS74.j HI0.out) hb); replace HK := aM (kbl HK.out hb); replace HB := aM (bj HB.out hb); clear hb ho71; have hcv72 := own_string (P := Tryd.prog) Tryd.underlying36 Tryd.underlying5 Tryd.underlying9 (Kd.own_of_R HO266.out)) | (go_at_call 49; (with_reducible refine (spec_l20Rd_pick.calls k g s0_0 t262 3 t267 t268 w0 _ ?side1 ?side2 A8.out).mono ?_); (case side1 => exact IsS74.j HI0.out); (case side2 => exact jB HB.out); rintro e w73 ⟨rfl, hi, hb, hk⟩; replace HO260 := aM (IsS74.kp (f1 := t262) (by exact IsS74.j HI0.out) (lR HO260.out) hk); replace HO266 := aM (IsS74.kp (f1 := t262) (by exact IsS74.j HI0.out) (lR HO266.out) hk); replace HK := aM (kt HK.out hk); replace HB := aM (hb); replace HI0 := aM (hi); (try clear hb hk hi)) | (go_at_call 49; (with_reducible refine (spec_l20Rd_pick.calls k g s0_0 t268 2 t269 t270 w0 _ ?side1 ?side2 A38.out).mono ?_); (case side1 => exact IsS74.j HI0.out); (case side2 => exact jB HB.out); rintro e w74 ⟨rfl, hi, hb, hk⟩; replace HO260 := aM (IsS74.kp (f1 := t268) (by exact IsS74.j HI0.out) (lR HO260.out) hk); replace HO266 := aM (IsS74.kp (f1 := t268) (by exact IsS74.j HI0.out) (lR HO266.out) hk); replace HK := aM (kt HK.out hk); replace HB := aM (hb); replace HI0 := aM (hi); (try clear hb hk hi))))
            go_ret
            exact ⟨by first | rfl | (simp [errW_none, errW_some] <;> rfl) | (simp only [← hji60]; first | rfl | (simp [errW_none, errW_some] <;> rfl)) | (simp [*, errW_none, errW_some] <;> rfl), by exact IsS74.j HI0.out, by exact jB HB.out, by exact jK HK.out⟩
           ·rw [if_neg c63] at H
            exact absurd H (by simp)
          ·rw [if_neg c62] at H
           exact absurd H (by simp)
         ·rw [if_neg c61] at H
          exact absurd H (by simp)
        ·rw [if_neg c59] at H
         exact absurd H (by simp)
       ·rw [if_neg c58] at H
        exact absurd H (by simp)
      ·rw [if_neg c57] at H
       exact absurd H (by simp)
  ·rw [if_neg c7] at H
   exact absurd H (by simp)
 ·rw [if_neg c6] at H
  exact absurd H (by simp)

/-! ### spec_l20Maybe: function 40 -/
def spec_l20Maybe.f (k : Nat) (s0_0 : List Int) (s0_1 : Int) (a1 : ByteArray) : Option (ByteArray × Int) := (spec_l20Rd_pick.f k s0_0 s0_1 2).bind fun bt271 => (if bt271.1 = 0 then ((spec_l20Bent.f k s0_0 bt271.2 a1).bind fun bt273 => (some (bt273.1, bt273.2))) else (some (a1, bt271.2)))
theorem spec_l20Maybe.mono : ∀ a0 a1 a2 k, LeO (spec_l20Maybe.f k a0 a1 a2) (spec_l20Maybe.f (k + 1) a0 a1 a2) := by
 intro a0 a1 a2 k
 unfold spec_l20Maybe.f
 repeat' first
   | (with_reducible exact spec_l20Bent.mono _ _ _ _)
   | (with_reducible exact spec_l20Rd_pick.mono _ _ _ _)
   | (with_reducible exact LeO.refl _)
   | (with_reducible exact LeO.none _)
   | (with_reducible refine LeO.ite ?_ ?_)
   | (with_reducible refine LeO.bind ?_ (fun _ => ?_))
   | exact LeO.none _
   | refine LeO.ite ?_ ?_
   | refine LeO.bind ?_ (fun _ => ?_)
theorem spec_l20Maybe.calls (k : Nat) (g : Nat) (s0_0 : List Int) (s0_1 : Int) (a1 : ByteArray) (r1 : ByteArray) (r2 : Int) (w0 w : World) (hI : IsS74 w0 w g s0_0 s0_1) (hB : Below w0.heap.size w0 w) (h : spec_l20Maybe.f k s0_0 s0_1 a1 = some (r1, r2)) :
  Calls Tryd.prog 40 #[.pointer (some ⟨g, 0, none⟩), .string a1] w fun e w' => e = .returned (.string r1) ∧ IsS74 w0 w' g s0_0 r2 ∧ Below w0.heap.size w0 w' ∧ KeepBut w w' g none := by
 have HI0 := aM hI
 have IHI0 : Nonempty _ := ⟨IsS74.ge hI⟩
 have HK := aM (KeepBut.refl w g none)
 have HL := aM hB.size
 clear hI
 have HW0 := aM hB.size
 have HB := aM hB
 clear hB
 have H : ((spec_l20Rd_pick.f k s0_0 s0_1 2).bind fun bt271 => (if bt271.1 = 0 then ((spec_l20Bent.f k s0_0 bt271.2 a1).bind fun bt273 => (some (bt273.1, bt273.2))) else (some (a1, bt271.2)))) = some (r1, r2) := h
 clear h
 obtain ⟨⟨t271, t272⟩, A3, H⟩ := bS H
 try dsimp only at H
 by_cases c4 : t271 = 0
 ·rw [if_pos c4] at H
  have c4b0 := beq_iff_eq.mpr c4
  have c4b1 := bne_eq_false_iff_eq.mpr c4
  clear c4
  obtain ⟨⟨t273, t274⟩, A5, H⟩ := bS H
  try dsimp only at H
  simp only [Option.some.injEq, Prod.mk.injEq] at H
  obtain ⟨rfl, rfl⟩ := H
  go_enter Tryd.func40, Tryd.ntmps40
  go_wp2_with (first | ((with_reducible refine gate_callee (f := 49) rfl ?_); refine gL (some 6) Tryd.func49 #[.pointer (some ⟨g, 0, none⟩), .int .i64 2] ?_; (with_reducible refine (spec_l20Rd_pick.calls k g s0_0 s0_1 2 t271 t272 w0 _ ?side1 ?side2 A3.out).mono ?_); (case side1 => exact IsS74.j HI0.out); (case side2 => exact jB HB.out); rintro e w6 ⟨rfl, hi, hb, hk⟩; refine ⟨_, rfl, ?_⟩; replace HK := aM (kt HK.out hk); replace HB := aM (hb); replace HI0 := aM (hi); (try clear hb hk hi)) | ((with_reducible refine gate_callee (f := 50) rfl ?_); refine gL (some 10) Tryd.func50 #[.pointer (some ⟨g, 0, none⟩), .string a1] ?_; (with_reducible refine (spec_l20Bent.calls k g s0_0 t272 a1 t273 t274 w0 _ ?side1 ?side2 A5.out).mono ?_); (case side1 => exact IsS74.j HI0.out); (case side2 => exact jB HB.out); rintro e w7 ⟨rfl, hi, hb, hk⟩; refine ⟨_, rfl, ?_⟩; replace HK := aM (kt HK.out hk); replace HB := aM (hb); replace HI0 := aM (hi); (try clear hb hk hi)))
  go_ret
  exact ⟨er, by exact IsS74.j HI0.out, by exact jB HB.out, by exact jK HK.out⟩
 ·rw [if_neg c4] at H
  have c4b0 := beq_eq_false_iff_ne.mpr c4
  have c4b1 := bne_iff_ne.mpr c4
  simp only [Option.some.injEq, Prod.mk.injEq] at H
  obtain ⟨rfl, rfl⟩ := H
  go_enter Tryd.func40, Tryd.ntmps40
  go_wp2_with (first | ((with_reducible refine gate_callee (f := 49) rfl ?_); refine gL (some 6) Tryd.func49 #[.pointer (some ⟨g, 0, none⟩), .int .i64 2] ?_; (with_reducible refine (spec_l20Rd_pick.calls k g s0_0 s0_1 2 t271 t272 w0 _ ?side1 ?side2 A3.out).mono ?_); (case side1 => exact IsS74.j HI0.out); (case side2 => exact jB HB.out); rintro e w8 ⟨rfl, hi, hb, hk⟩; refine ⟨_, rfl, ?_⟩; replace HK := aM (kt HK.out hk); replace HB := aM (hb); replace HI0 := aM (hi); (try clear hb hk hi)))
  go_ret
  exact ⟨er, by exact IsS74.j HI0.out, by exact jB HB.out, by exact jK HK.out⟩

/-! ### spec_DrawResRead: function 19 -/
def spec_DrawResRead.f (k : Nat) (l0 : List Int) : Option (ByteArray) := (spec_l20Open.f l0).bind fun bt275 => ((spec_l20Res.f k bt275.1 bt275.2 99).bind fun bt278 => ((spec_ResText.f k bt278.1 bt278.2.1).bind fun t283 => ((spec_l20Maybe.f k bt275.1 bt278.2.2 t283).bind fun bt284 => (some bt284.1))))
theorem spec_DrawResRead.mono : ∀ a0 k, LeO (spec_DrawResRead.f k a0) (spec_DrawResRead.f (k + 1) a0) := by
 intro a0 k
 unfold spec_DrawResRead.f
 repeat' first
   | (with_reducible exact spec_ResText.mono _ _ _)
   | (with_reducible exact spec_l20Maybe.mono _ _ _ _)
   | (with_reducible exact spec_l20Res.mono _ _ _ _)
   | (with_reducible exact LeO.refl _)
   | (with_reducible exact LeO.none _)
   | (with_reducible refine LeO.ite ?_ ?_)
   | (with_reducible refine LeO.bind ?_ (fun _ => ?_))
   | exact LeO.none _
   | refine LeO.ite ?_ ?_
   | refine LeO.bind ?_ (fun _ => ?_)
theorem spec_DrawResRead.calls (k : Nat) (A0 : Option Addr) (c0 : Nat) (l0 : List Int) (r : ByteArray) (w : World) (hr0 : Kd.C (Kd.int .u8) w A0 l0.length l0) (hc0 : l0.length ≤ c0) (h : spec_DrawResRead.f k l0 = some r) :
  Calls Tryd.prog 19 #[.slice A0 l0.length c0] w fun e w' => e = .returned (.string r) ∧ Below w.heap.size w w' := by
 have HR0 := aM hr0
 have HC0 := aM hc0
 clear hr0 hc0
 have HB := aM (Below.refl w.heap.size w)
 have H : ((spec_l20Open.f l0).bind fun bt275 => ((spec_l20Res.f k bt275.1 bt275.2 99).bind fun bt278 => ((spec_ResText.f k bt278.1 bt278.2.1).bind fun t283 => ((spec_l20Maybe.f k bt275.1 bt278.2.2 t283).bind fun bt284 => (some bt284.1))))) = some r := h
 clear h
 obtain ⟨⟨t275, t276⟩, A2, H⟩ := bS H
 try dsimp only at H
 obtain ⟨⟨t278, t279, t282⟩, A3, H⟩ := bS H
 try dsimp only at H
 obtain ⟨t283, A4, H⟩ := bS H
 try dsimp only at H
 obtain ⟨⟨t284, t285⟩, A5, H⟩ := bS H
 try dsimp only at H
 obtain rfl := Option.some.inj H
 go_enter Tryd.func19, Tryd.ntmps19
 go_wp2_with (first | ((with_reducible refine gate_callee (f := 39) rfl ?_); refine gL (some 5) Tryd.func39 #[.slice A0 l0.length c0] ?_; (with_reducible refine (spec_l20Open.calls _ _ l0 t275 t276 w _ ?side1 ?side2 ?side3 A2.out).mono ?_); (case side1 => exact lB HB.out); (case side2 => exact HR0.out); (case side3 => exact HC0.out); rintro e w6 ⟨g277, rfl, hi, hb, hb2⟩; refine ⟨_, rfl, ?_⟩; replace HB := aM (hb); have HI277 := aM (hi); (try clear hb hb2 hi)) | ((with_reducible refine gate_callee (f := 38) rfl ?_); refine gL (some 8) Tryd.func38 #[.pointer (some ⟨g277, 0, none⟩), .int .i64 99] ?_; (with_reducible refine (spec_l20Res.calls k g277 t275 t276 99 t278 t279 t282 w _ ?side1 ?side2 A3.out).mono ?_); (case side1 => exact IsS74.j HI277.out); (case side2 => exact jB HB.out); rintro e w7 ⟨v280, rfl, ho0, hi, hb, hk⟩; refine ⟨_, rfl, ?_⟩; have HO281 := aM (Kd.V_lower (Kd.V_mono (ok' := fun k_ => k_ ≠ g277) ho0 (fun k_ hk_ => (IsS74.fresh (by exact IsS74.j HI277.out) k_ hk_))) (below_size (by exact jB HB.out))); replace HB := aM (hb); replace HI277 := aM (hi); (try clear hb hk hi); (try clear ho0); obtain ⟨Ao8, co8, eo8⟩ := Kd.V_slice HO281.out; subst eo8) | ((with_reducible refine gate_callee (f := 8) rfl ?_); refine gL (some 9) Tryd.func8 #[.agg #[.int .i64 t278, .slice Ao8 t279.length co8]] ?_; (with_reducible refine (spec_ResText.calls k t278 _ _ t279 t283 _ ?side1 ?side2 A4.out).mono ?_); (case side1 => exact lC <| (Kd.V_reads' HO281.out).2.2); (case side2 => exact (Kd.V_reads' HO281.out).2.1); rintro e w9 ⟨rfl, hb⟩; refine ⟨_, rfl, ?_⟩; replace HO281 := aM (Kd.V_below (by (with_reducible repeat (first | apply Kd.V_alloc | apply Kd.V_drewN | apply Kd.V_drew)); exact HO281.out) hb); replace HI277 := aM (IsS74.below (by exact IsS74.j HI277.out) hb); replace HB := aM (bj HB.out hb); (try clear hb)) | ((with_reducible refine gate_callee (f := 40) rfl ?_); refine gL (some 10) Tryd.func40 #[.pointer (some ⟨g277, 0, none⟩), .string t283] ?_; (with_reducible refine (spec_l20Maybe.calls k g277 t275 t282 t283 t284 t285 w _ ?side1 ?side2 A5.out).mono ?_); (case side1 => exact IsS74.j HI277.out); (case side2 => exact jB HB.out); rintro e w10 ⟨rfl, hi, hb, hk⟩; refine ⟨_, rfl, ?_⟩; replace HO281 := aM (Kd.V_mono (Kd.V_keep (Kd.V_mono (ok := fun k_ => k_ ≠ g277) (by (with_reducible repeat (first | apply Kd.V_alloc | apply Kd.V_drewN | apply Kd.V_drew)); exact HO281.out) (fun k_ hk_ => (⟨hk_, hk_⟩ : _ ∧ k_ ≠ g277))) hk (fun _ h => h.2)) (fun _ h => h.1)); replace HB := aM (hb); replace HI277 := aM (hi); (try clear hb hk hi)))
 go_ret
 exact ⟨er, by exact jB HB.out⟩

/-! ### laws_coInts: function 41 -/
def laws_coInts.l0 : Nat → List Int → List Int → Int → Option (Bool)
 | 0, _, _, _ => none
 | k + 1, x0, x1, x5 => if x5 < (x0.length : Int) then (if 0 ≤ x5 then (if x5 < (x1.length : Int) then (if (rd x0 x5) = (rd x1 x5) then (laws_coInts.l0 k x0 x1 (wrap64 (x5 + 1))) else (some false)) else (none)) else (none)) else (some true)
def laws_coInts.f (k : Nat) (l0 : List Int) (l1 : List Int) : Option (Bool) := if (l0.length : Int) = (l1.length : Int) then (laws_coInts.l0 k l0 l1 0) else (some false)
theorem laws_coInts.mono_l : ∀ k, (∀ y0 y1 y2, LeO (laws_coInts.l0 k y0 y1 y2) (laws_coInts.l0 (k + 1) y0 y1 y2))
 | 0 => fun _ _ _ r h => by simp [laws_coInts.l0] at h
 | k + 1 => by
  have ih0 := laws_coInts.mono_l k
  ·intro y0 y1 y2
   unfold laws_coInts.l0
   repeat' first
   | (with_reducible exact ih0 _ _ _)
   | (with_reducible exact LeO.refl _)
   | (with_reducible exact LeO.none _)
   | (with_reducible refine LeO.ite ?_ ?_)
   | (with_reducible refine LeO.bind ?_ (fun _ => ?_))
   | exact LeO.none _
   | refine LeO.ite ?_ ?_
   | refine LeO.bind ?_ (fun _ => ?_)
theorem laws_coInts.mono : ∀ a0 a1 k, LeO (laws_coInts.f k a0 a1) (laws_coInts.f (k + 1) a0 a1) := by
 intro a0 a1 k
 have ih0 := laws_coInts.mono_l k
 unfold laws_coInts.f
 repeat' first
   | (with_reducible exact ih0 _ _ _)
   | (with_reducible exact LeO.refl _)
   | (with_reducible exact LeO.none _)
   | (with_reducible refine LeO.ite ?_ ?_)
   | (with_reducible refine LeO.bind ?_ (fun _ => ?_))
   | exact LeO.none _
   | refine LeO.ite ?_ ?_
   | refine LeO.bind ?_ (fun _ => ?_)
theorem laws_coInts.calls (k : Nat) (A0 : Option Addr) (c0 : Nat) (l0 : List Int) (A1 : Option Addr) (c1 : Nat) (l1 : List Int) (r : Bool) (w : World) (hr0 : Kd.C (Kd.int .i64) w A0 l0.length l0) (hc0 : l0.length ≤ c0) (hr1 : Kd.C (Kd.int .i64) w A1 l1.length l1) (hc1 : l1.length ≤ c1) (h : laws_coInts.f k l0 l1 = some r) :
  Calls Tryd.prog 41 #[.slice A0 l0.length c0, .slice A1 l1.length c1] w fun e w' => e = .returned (.bool r) ∧ Drawn0 w w' := by
 have HR0 := aM hr0
 have HC0 := aM hc0
 clear hr0 hc0
 have HR1 := aM hr1
 have HC1 := aM hc1
 clear hr1 hc1
 have H : (if (l0.length : Int) = (l1.length : Int) then (laws_coInts.l0 k l0 l1 0) else (some false)) = some r := h
 clear h
 by_cases c3 : (l0.length : Int) = (l1.length : Int)
 ·rw [if_pos c3] at H
  have c3b0 := beq_iff_eq.mpr c3
  have c3b1 := bne_eq_false_iff_eq.mpr c3
  have c3b2 : (l0.length == l1.length) = true := by first | simpa using c3 | (simp at c3 ⊢; omega)
  clear c3
  have H' := aM H
  clear H
  go_enter Tryd.func41, Tryd.ntmps41
  go_wp2
  repeat (go_quiet (fail); try go_wp2)
  go_loopg [5] k (fun kq v5 w' => ∃ (x5_1 : Int), v5 = .int .i64 x5_1 ∧ Aside0 (laws_coInts.l0 kq l0 l1 x5_1 = some r) ∧ Aside0 (kq ≤ k) ∧ Drawn0 w w')
  case atStart => exact ⟨(0), (by first | rfl | (simp; done) | (simp [*]; done)), H', ⟨Nat.le_refl _⟩, by repeat (first | exact Drawn0.refl _ | apply Drawn0.step)⟩
  case round =>
   clear H'
   try clear c1
   try clear p2
   try clear c3
   try clear c3b0
   try clear c3b1
   try clear c3b2
   obtain ⟨x5_1, rfl, HA, HK1, ⟨m1, rfl⟩⟩ := hrel
   cases gk with
   | zero => exact absurd HA.out (by simp [laws_coInts.l0])
   | succ k1 =>
    have H := HA.out
    clear HA
    simp only [laws_coInts.l0] at H
    by_cases c4 : x5_1 < (l0.length : Int)
    ·rw [if_pos c4] at H
     have c4b0 := decide_eq_true c4
     clear c4
     by_cases c5 : 0 ≤ x5_1
     ·rw [if_pos c5] at H
      have c5b0 := decide_eq_true c5
      clear c5
      by_cases c6 : x5_1 < (l1.length : Int)
      ·rw [if_pos c6] at H
       have c6b0 := decide_eq_true c6
       clear c6
       by_cases c7 : (rd l0 x5_1) = (rd l1 x5_1)
       ·rw [if_pos c7] at H
        have c7b0 := beq_iff_eq.mpr c7
        have c7b1 := bne_eq_false_iff_eq.mpr c7
        clear c7
        have H' := aM H
        clear H
        have p286 : 0 ≤ (x5_1 : Int) := of_decide_eq_true (by first | (with_reducible assumption) | assumption)
        have q286 : x5_1 < (l0.length : Int) := of_decide_eq_true (by first | (with_reducible assumption) | assumption)
        obtain ⟨ad286, e286, hx286_0⟩ := Kd.at_int HR0.out x5_1 p286 q286
        cases e286
        replace p286 := eq_true p286
        replace q286 := eq_true q286
        have p287 : 0 ≤ (x5_1 : Int) := of_decide_eq_true (by first | (with_reducible assumption) | assumption)
        have q287 : x5_1 < (l1.length : Int) := of_decide_eq_true (by first | (with_reducible assumption) | assumption)
        obtain ⟨ad287, e287, hx287_0⟩ := Kd.at_int HR1.out x5_1 p287 q287
        cases e287
        replace p287 := eq_true p287
        replace q287 := eq_true q287
        go_wp2
        repeat (go_quiet (fail); try go_wp2)
        go_roundg k1
        case measure => have := HK1.out; omega
        case rel => exact ⟨(wrap64 (x5_1 + 1)), (by first | rfl | (simp; done) | (simp [*]; done)), H', ⟨by have := HK1.out; omega⟩, by repeat (first | exact Drawn0.refl _ | apply Drawn0.step)⟩
       ·rw [if_neg c7] at H
        have c7b0 := beq_eq_false_iff_ne.mpr c7
        have c7b1 := bne_iff_ne.mpr c7
        obtain rfl := Option.some.inj H
        have p286 : 0 ≤ (x5_1 : Int) := of_decide_eq_true (by first | (with_reducible assumption) | assumption)
        have q286 : x5_1 < (l0.length : Int) := of_decide_eq_true (by first | (with_reducible assumption) | assumption)
        obtain ⟨ad286, e286, hx286_0⟩ := Kd.at_int HR0.out x5_1 p286 q286
        cases e286
        replace p286 := eq_true p286
        replace q286 := eq_true q286
        have p287 : 0 ≤ (x5_1 : Int) := of_decide_eq_true (by first | (with_reducible assumption) | assumption)
        have q287 : x5_1 < (l1.length : Int) := of_decide_eq_true (by first | (with_reducible assumption) | assumption)
        obtain ⟨ad287, e287, hx287_0⟩ := Kd.at_int HR1.out x5_1 p287 q287
        cases e287
        replace p287 := eq_true p287
        replace q287 := eq_true q287
        go_wp2
        repeat (go_quiet (fail); try go_wp2)
        go_ret
        exact ⟨by first | rfl | (simp; done) | (simp [*]; done), by repeat (first | exact Drawn0.refl _ | apply Drawn0.step)⟩
      ·rw [if_neg c6] at H
       exact absurd H (by simp)
     ·rw [if_neg c5] at H
      exact absurd H (by simp)
    ·rw [if_neg c4] at H
     have c4b0 := decide_eq_false c4
     clear c4
     obtain rfl := Option.some.inj H
     go_wp2
     repeat (go_quiet (fail); try go_wp2)
     go_ret
     exact ⟨by first | rfl | (simp; done) | (simp [*]; done), by repeat (first | exact Drawn0.refl _ | apply Drawn0.step)⟩
 ·rw [if_neg c3] at H
  have c3b0 := beq_eq_false_iff_ne.mpr c3
  have c3b1 := bne_iff_ne.mpr c3
  have c3b2 : (l0.length == l1.length) = false := by first | simpa using c3 | (simp at c3 ⊢; omega)
  obtain rfl := Option.some.inj H
  go_enter Tryd.func41, Tryd.ntmps41
  go_wp2
  repeat (go_quiet (fail); try go_wp2)
  go_ret
  exact ⟨by first | rfl | (simp; done) | (simp [*]; done), by repeat (first | exact Drawn0.refl _ | apply Drawn0.step)⟩

/-! ### laws_coRes: function 20 -/
def laws_coRes.f (k : Nat) (a0_0 : Int) (l0_1 : List Int) (a1_0 : Int) (l1_1 : List Int) : Option (Bool) := if a0_0 = a1_0 then ((laws_coInts.f k l0_1 l1_1).bind fun t290 => (some t290)) else (some false)
theorem laws_coRes.mono : ∀ a0 a1 a2 a3 k, LeO (laws_coRes.f k a0 a1 a2 a3) (laws_coRes.f (k + 1) a0 a1 a2 a3) := by
 intro a0 a1 a2 a3 k
 unfold laws_coRes.f
 repeat' first
   | (with_reducible exact laws_coInts.mono _ _ _)
   | (with_reducible exact LeO.refl _)
   | (with_reducible exact LeO.none _)
   | (with_reducible refine LeO.ite ?_ ?_)
   | (with_reducible refine LeO.bind ?_ (fun _ => ?_))
   | exact LeO.none _
   | refine LeO.ite ?_ ?_
   | refine LeO.bind ?_ (fun _ => ?_)
theorem laws_coRes.calls (k : Nat) (a0_0 : Int) (A0_1 : Option Addr) (c0_1 : Nat) (l0_1 : List Int) (a1_0 : Int) (A1_1 : Option Addr) (c1_1 : Nat) (l1_1 : List Int) (r : Bool) (w : World) (hr0_1 : Kd.C (Kd.int .i64) w A0_1 l0_1.length l0_1) (hc0_1 : l0_1.length ≤ c0_1) (hr1_1 : Kd.C (Kd.int .i64) w A1_1 l1_1.length l1_1) (hc1_1 : l1_1.length ≤ c1_1) (h : laws_coRes.f k a0_0 l0_1 a1_0 l1_1 = some r) :
  Calls Tryd.prog 20 #[.agg #[.int .i64 a0_0, .slice A0_1 l0_1.length c0_1], .agg #[.int .i64 a1_0, .slice A1_1 l1_1.length c1_1]] w fun e w' => e = .returned (.bool r) ∧ Below w.heap.size w w' := by
 have hu27 := Tryd.underlying27
 have HR0_1 := aM hr0_1
 have HC0_1 := aM hc0_1
 clear hr0_1 hc0_1
 have HR1_1 := aM hr1_1
 have HC1_1 := aM hc1_1
 clear hr1_1 hc1_1
 have HB := aM (Below.refl w.heap.size w)
 have H : (if a0_0 = a1_0 then ((laws_coInts.f k l0_1 l1_1).bind fun t290 => (some t290)) else (some false)) = some r := h
 clear h
 by_cases c3 : a0_0 = a1_0
 ·rw [if_pos c3] at H
  have c3b0 := beq_iff_eq.mpr c3
  have c3b1 := bne_eq_false_iff_eq.mpr c3
  clear c3
  obtain ⟨t290, A4, H⟩ := bS H
  try dsimp only at H
  obtain rfl := Option.some.inj H
  go_enter Tryd.func20, Tryd.ntmps20
  go_wp2_with (first | ((with_reducible refine gate_dst (N := 2) rfl ?_); refine bx 2 #[.int .i64 a0_0, .slice A0_1 l0_1.length c0_1] 27 ?_; intro gb288 hg w5 hbox hb; have BK288 := aM (hbox); have GW288 := aM ((gz hg HB.out)); have IGW288 : Nonempty _ := ⟨GW288.out⟩; have GE288 := aM ((gz hg HB.out)); have IGE288 : Nonempty _ := ⟨GE288.out⟩; replace HB := aM (bj HB.out hb); clear hb hbox hg) | ((with_reducible refine gate_dst (N := 3) rfl ?_); refine bx 3 #[.int .i64 a1_0, .slice A1_1 l1_1.length c1_1] 27 ?_; intro gb289 hg w6 hbox hb; have BK289 := aM (hbox); have GW289 := aM ((gz hg HB.out)); have IGW289 : Nonempty _ := ⟨GW289.out⟩; have GE289 := aM ((gz hg HB.out)); have IGE289 : Nonempty _ := ⟨GE289.out⟩; replace HB := aM (bj HB.out hb); have NB288_289 := aM ((neL hg (lK BK288.out) : gb288 ≠ gb289)); have NB289_288 := aM ((neG hg (lK BK288.out) : gb289 ≠ gb288)); replace BK288 := aM (bb BK288.out hb); clear hb hbox hg; have hnb7 := NB288_289.out; have hnc7 := NB289_288.out; obtain ⟨hcz8_0, hcz8_1, hfz8_0, hfz8_1⟩ := cf2 BK288.out; obtain ⟨hcz9_0, hcz9_1, hfz9_0, hfz9_1⟩ := cf2 BK289.out) | (go_at_call 41; (with_reducible refine (laws_coInts.calls k _ _ l0_1 _ _ l1_1 t290 _ ?side1 ?side2 ?side3 ?side4 A4.out).mono ?_); (case side1 => exact lC <| (Kd.C_below HR0_1.out HB.out)); (case side2 => exact HC0_1.out); (case side3 => exact lC <| (Kd.C_below HR1_1.out HB.out)); (case side4 => exact HC1_1.out); rintro e w' ⟨rfl, ⟨nd, rfl⟩⟩))
  go_ret
  exact ⟨er, by exact jB HB.out⟩
 ·rw [if_neg c3] at H
  have c3b0 := beq_eq_false_iff_ne.mpr c3
  have c3b1 := bne_iff_ne.mpr c3
  obtain rfl := Option.some.inj H
  go_enter Tryd.func20, Tryd.ntmps20
  go_wp2_with (first | ((with_reducible refine gate_dst (N := 2) rfl ?_); refine bx 2 #[.int .i64 a0_0, .slice A0_1 l0_1.length c0_1] 27 ?_; intro gb288 hg w10 hbox hb; have BK288 := aM (hbox); have GW288 := aM ((gz hg HB.out)); have IGW288 : Nonempty _ := ⟨GW288.out⟩; have GE288 := aM ((gz hg HB.out)); have IGE288 : Nonempty _ := ⟨GE288.out⟩; replace HB := aM (bj HB.out hb); clear hb hbox hg) | ((with_reducible refine gate_dst (N := 3) rfl ?_); refine bx 3 #[.int .i64 a1_0, .slice A1_1 l1_1.length c1_1] 27 ?_; intro gb289 hg w11 hbox hb; have BK289 := aM (hbox); have GW289 := aM ((gz hg HB.out)); have IGW289 : Nonempty _ := ⟨GW289.out⟩; have GE289 := aM ((gz hg HB.out)); have IGE289 : Nonempty _ := ⟨GE289.out⟩; replace HB := aM (bj HB.out hb); have NB288_289 := aM ((neL hg (lK BK288.out) : gb288 ≠ gb289)); have NB289_288 := aM ((neG hg (lK BK288.out) : gb289 ≠ gb288)); replace BK288 := aM (bb BK288.out hb); clear hb hbox hg; have hnb12 := NB288_289.out; have hnc12 := NB289_288.out; obtain ⟨hcz13_0, hcz13_1, hfz13_0, hfz13_1⟩ := cf2 BK288.out; obtain ⟨hcz14_0, hcz14_1, hfz14_0, hfz14_1⟩ := cf2 BK289.out))
  go_ret
  exact ⟨er, by exact jB HB.out⟩

end Go.Proofs.YtcafmfmlnfaogaaDoor.QFnResText

-- shorter
