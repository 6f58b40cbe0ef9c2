/- Plain functions, and that the Go code computes them: written by a program of this session over the seat's translation; the conditions stand in each theorem. -/
import Derived.Test.YtcpaplcnebdocaaHW4
import Derived.Test.YtcpaplcnebdocaaQFnTrtKeepsx0
import Derived.Test.YtcpaplcnebdocaaQFnTrtKeepsx1
import Derived.Test.YtcpaplcnebdocaaQFnTrtKeepsx2
import Derived.Test.YtcpaplcnebdocaaQFnTrtKeepsx10
namespace Go.Proofs.Ytcpaplcnebdocaa.QFnTrtKeeps
open Go.RowKit Go.Proofs.YtcpaplcnebdocaaW.PrintWords Go.Proofs.YtcpaplcnebdocaaW.PrintLast Go.Proofs.YtcpaplcnebdocaaW.PrintMore Go.Proofs.Ytcpaplcnebdocaa.HWords
open Value (ownBlock)
attribute [local go_sem] max2_int min2_int max_two min_two max_three min_three max_four min_four   -- for this text's walks alone
set_option maxRecDepth 100000
set_option maxHeartbeats 8000000
set_option linter.unusedVariables false
set_option linter.unusedSimpArgs false
/-! ### spec_CatForms: function 46 -/
def spec_CatForms.f (k : Nat) (l0 : List (List (S100))) : Option ((List (List Int))) := (spec_CatOk.f k l0).bind fun t477 => (if t477 = true then ((spec_l4Both.f k l0).bind fun bt478 => (some bt478.1)) else (some (([] : List (List Int)))))
theorem spec_CatForms.calls (k : Nat) (A0 : Option Addr) (c0 : Nat) (l0 : List (List (S100))) (r : List (List Int)) (w : World) (hr0 : Kd.C (Kd.slice 100 k100) w A0 l0.length l0) (hc0 : l0.length ≤ c0) (h : spec_CatForms.f k l0 = some r) :
  Calls Try.prog 46 #[.slice A0 l0.length c0] w fun e w' => ∃ v0_ : Value, e = .returned (v0_) ∧ Kd.N (Kd.slice 3 (Kd.int .i64)) 26 w' w.heap.size (fun k_ => (w.heap.size ≤ k_)) v0_ r ∧ Below w.heap.size w w' := by
 have HR0 := aM hr0; have HC0 := aM hc0; clear hr0 hc0; have HB := aM (Below.refl w.heap.size w); have H : ((spec_CatOk.f k l0).bind fun t477 => (if t477 = true then ((spec_l4Both.f k l0).bind fun bt478 => (some bt478.1)) else (some (([] : List (List Int)))))) = some r := h
 clear h; obtain ⟨t477, A2, H⟩ := bS H
 try dsimp only at H
 by_cases c3 : t477 = true
 ·subst c3; rw [if_pos rfl] at H
  try dsimp only at H
  obtain ⟨⟨t478, t481⟩, A4, H⟩ := bS H
  try dsimp only at H
  obtain rfl := Option.some.inj H
  go_enter Try.func46, Try.ntmps46
  go_wp2_with (first | (refine gL (some 6) Try.func69 #[.slice A0 l0.length c0] ?_; (with_reducible refine (spec_CatOk.calls k _ _ l0 true _ (by exact lC HR0.out) HC0.out A2.out).mono ?_); rintro e w5 ⟨rfl, hb⟩; refine ⟨_, rfl, ?_⟩; replace HB := aM (bj HB.out hb); (try clear hb)) | (refine gL (some 11) Try.func70 #[.slice A0 l0.length c0] ?_; (with_reducible refine (spec_l4Both.calls k _ _ l0 t478 t481 _ (by exact lC <| (Kd.C_below HR0.out HB.out)) HC0.out A4.out).mono ?_); rintro e w6 ⟨v479, v482, rfl, ho0, ho1, hb⟩; refine ⟨_, rfl, ?_⟩; have HO480 := aM (Kd.N_lower (Kd.N_mono (ok' := fun k_ => (w.heap.size ≤ k_) ∧ some k_ ≠ v482.ownBlock) ho0 (fun k_ hk_ => ⟨(Nat.le_trans (bz HB.out) hk_.1), hk_.2⟩)) (bz HB.out)); have HO483 := aM (Kd.R_lower (Kd.R_newM (M := fun k_ => (w.heap.size ≤ k_)) (Kd.R_mono (ok' := fun k_ => True) ho1 (fun _ hk_ => trivial)) (bz HB.out) (fun k_ h_ => h_)) (bz HB.out)); replace HB := aM (bj HB.out hb); clear hb ho0 ho1))
  go_ret
  exact ⟨_, er, by exact lN <| Kd.N_mono HO480.out (fun _ hk => hk.1), by exact lB HB.out⟩
 ·replace c3 := Bool.eq_false_iff.mpr c3
  subst c3; rw [if_neg nf] at H
  try dsimp only at H
  obtain ⟨y484, hy484⟩ : ∃ y_ : List (List Int), y_ = (([] : List (List Int))) := ⟨_, rfl⟩
  replace H : (some y484) = some r := by first | (rw [hy484]; exact H) | exact H
  have Ny484 := aM hy484; clear hy484; obtain rfl := Option.some.inj H
  go_enter Try.func46, Try.ntmps46
  go_wp2_with (first | (refine gL (some 6) Try.func69 #[.slice A0 l0.length c0] ?_; (with_reducible refine (spec_CatOk.calls k _ _ l0 false _ (by exact lC HR0.out) HC0.out A2.out).mono ?_); rintro e w7 ⟨rfl, hb⟩; refine ⟨_, rfl, ?_⟩; replace HB := aM (bj HB.out hb); (try clear hb)) | ((with_reducible refine gate_dst (N := 8) rfl ?_); refine Kd.N_lit (Kd.slice 3 (Kd.int .i64)) _ 26 ?hg (N' := 8) ?hd (xs := ([] : List (List Int))) (inner := []) (ok := (fun k_ => (w.heap.size ≤ k_))) (okp := (fun k_ => (w.heap.size ≤ k_))) ?hr ?hp (fun _ hk => hk) ((show ∀ k_, w7.heap.size ≤ k_ → (fun k_ => (w.heap.size ≤ k_)) k_ from fun k_ hk => (Nat.le_trans (bz HB.out) hk)) _ (Nat.le_refl _)) (Below.refl _ _) (Nat.le_refl _) (by simp) ?_; (case hd => rfl); (case hg => rfl); (case hr => first | (go_simp; done) | (go_simp; rfl)); (case hp => exact (Reps.none _ _)); intro v485 w8 ho9 hb hg_ hnew_; clear hg_ hnew_; (first | rw [← Ny484.out] at ho9 | (simp only [Int.reduceToNat] at ho9; rw [← Ny484.out] at ho9)); have HO486 := aM (Kd.N_lower ho9 (bz HB.out)); replace HB := aM (bj HB.out hb); clear hb ho9))
  go_ret
  exact ⟨_, er, by exact lN <| HO486.out, by exact lB HB.out⟩
/-! ### spec_l20Rd_pick: function 48 -/
def spec_l20Rd_pick.j0 : Nat → Int → Bool → List Int → Int → Option (Int × Int)
 | 0, _, _, _, _ => none
 | k + 1, x1, x24, x1000, x1001 => if x24 = true then (some (0, x1001)) else (if (wrap64 (x1001 - 1)) < (x1000.length : Int) then (if 0 ≤ (wrap64 (x1001 - 1)) then (if x1 = 0 then (none) else (some (Int.tmod (wrap64 (rd x1000 (wrap64 (x1001 - 1)))) x1, x1001))) else (none)) else (if (x1000.length : Int) = 0 then (none) else (if 0 ≤ (Int.tmod (wrap64 (x1001 - 1)) (x1000.length : Int)) then (if (Int.tmod (wrap64 (x1001 - 1)) (x1000.length : Int)) < (x1000.length : Int) then (if 0 ≤ (Int.tmod (wrap64 ((wrap64 ((wrap64 (x1001 - 1)) * 7)) + 3)) (x1000.length : Int)) then (if (Int.tmod (wrap64 ((wrap64 ((wrap64 (x1001 - 1)) * 7)) + 3)) (x1000.length : Int)) < (x1000.length : Int) then (if x1 = 0 then (none) else (some (Int.tmod (Go.bits .xor .i64 (wrap64 ((wrap64 ((wrap64 ((wrap64 ((wrap64 (rd x1000 (Int.tmod (wrap64 (x1001 - 1)) (x1000.length : Int)))) * 131)) + (wrap64 ((wrap64 (rd x1000 (Int.tmod (wrap64 ((wrap64 ((wrap64 (x1001 - 1)) * 7)) + 3)) (x1000.length : Int)))) * 1117)))) + (wrap64 ((wrap64 (x1001 - 1)) * 29)))) + (wrap64 ((wrap64 (Int.tdiv (wrap64 (x1001 - 1)) (x1000.length : Int))) * 53)))) (wrap64 (Int.tdiv (wrap64 ((wrap64 ((wrap64 ((wrap64 ((wrap64 (rd x1000 (Int.tmod (wrap64 (x1001 - 1)) (x1000.length : Int)))) * 131)) + (wrap64 ((wrap64 (rd x1000 (Int.tmod (wrap64 ((wrap64 ((wrap64 (x1001 - 1)) * 7)) + 3)) (x1000.length : Int)))) * 1117)))) + (wrap64 ((wrap64 (x1001 - 1)) * 29)))) + (wrap64 ((wrap64 (Int.tdiv (wrap64 (x1001 - 1)) (x1000.length : Int))) * 53)))) 64))) x1, x1001))) else (none)) else (none)) else (none)) else (none))))
def spec_l20Rd_pick.f (k : Nat) (s0_0 : List Int) (s0_1 : Int) (a1 : Int) : Option (Int × Int) := if a1 < 1 then (spec_l20Rd_pick.j0 k a1 true s0_0 (wrap64 (s0_1 + 1))) else (spec_l20Rd_pick.j0 k a1 ((s0_0.length : Int) == 0) s0_0 (wrap64 (s0_1 + 1)))
theorem spec_l20Rd_pick.calls (k : Nat) (g : Nat) (s0_0 : List Int) (s0_1 : Int) (a1 : Int) (r1 : Int) (r2 : Int) (w0 w : World) (hI : IsS79 w0 w g s0_0 s0_1) (hB : Below w0.heap.size w0 w) (h : spec_l20Rd_pick.f k s0_0 s0_1 a1 = some (r1, r2)) :
  Calls Try.prog 48 #[.pointer (some ⟨g, 0, none⟩), .int .i64 a1] w fun e w' => e = .returned (.int .i64 r1) ∧ IsS79 w0 w' g s0_0 r2 ∧ Below w0.heap.size w0 w' ∧ KeepBut w w' g none := by
 have HI0 := aM hI; have IHI0 : Nonempty _ := ⟨IsS79.ge hI⟩
 have HK := aM (KeepBut.refl w g none); have HL := aM hB.size
 clear hI; have HW0 := aM hB.size
 have HB := aM hB; clear hB; have H : (if a1 < 1 then (spec_l20Rd_pick.j0 k a1 true s0_0 (wrap64 (s0_1 + 1))) else (spec_l20Rd_pick.j0 k a1 ((s0_0.length : Int) == 0) s0_0 (wrap64 (s0_1 + 1)))) = some (r1, r2) := h
 clear h; have HC3 := aM H; clear H; obtain ⟨ASz4_0, cSz4_0, HGz4, hgz4, HSz4_0⟩ := HI0.out
 have hcz4_0 := cellS79_0 HGz4
 have hcz4_1 := cellS79_1 HGz4
 have hfz4_1 := blk_frozen HGz4 1
 clear HGz4 hgz4; go_enter Try.func48, Try.ntmps48
 go_upto_region 2 with (fail)
 repeat (go_quiet (fail); go_upto_region 2 with (fail))
 go_cut [24] (fun v24 wc => ∃ (kq : Nat) (x24_2 : Bool), v24 = .bool x24_2 ∧ Aside0 (spec_l20Rd_pick.j0 kq a1 x24_2 s0_0 (wrap64 (s0_1 + 1)) = some (r1, r2)) ∧ Aside0 (kq ≤ k) ∧ Aside0 (IsS79 w0 wc g s0_0 (wrap64 (s0_1 + 1))) ∧ Aside0 (KeepBut w wc g none) ∧ Aside0 (Below w0.heap.size w0 wc))
 case first =>
  have H := HC3.out
  clear HC3
  by_cases c5 : a1 < 1
  ·rw [if_pos c5] at H; have c5b0 := decide_eq_true c5
   clear c5
   (first | rw [c5b0] | (simp only [i64_w, i32_w]; rw [c5b0]) | skip)
   have H' := aM H
   clear H; go_wp2
   repeat (go_quiet (fail); try go_wp2)
   go_meet
   case rel => exact ⟨_, (true), sr, H', ⟨by first | omega | exact Nat.le_refl _⟩, ⟨by repeat (first | (with_reducible first | exact HI0.out | apply IsS79.alloc | apply IsS79.drewN | apply IsS79.drew | apply IsS79.set_1) | exact HI0.out)⟩, ⟨by exact jK HK.out⟩, ⟨by exact jB HB.out⟩⟩
  ·rw [if_neg c5] at H; have c5b0 := decide_eq_false c5
   clear c5
   (first | rw [c5b0] | (simp only [i64_w, i32_w]; rw [c5b0]) | skip)
   have H' := aM H
   clear H; obtain ⟨ASz6_0, cSz6_0, HGz6, hgz6, HSz6_0⟩ := HI0.out
   have hcz6_0 := cellS79_0 HGz6
   have hcz6_1 := cellS79_1 HGz6
   have hfz6_1 := blk_frozen HGz6 1
   clear HGz6 hgz6; go_wp2
   repeat (go_quiet (fail); try go_wp2)
   go_meet
   case rel => exact ⟨_, (((s0_0.length : Int) == 0)), sr, H', ⟨by first | omega | exact Nat.le_refl _⟩, ⟨by repeat (first | (with_reducible first | exact HI0.out | apply IsS79.alloc | apply IsS79.drewN | apply IsS79.drew | apply IsS79.set_1) | exact HI0.out)⟩, ⟨by exact jK HK.out⟩, ⟨by exact jB HB.out⟩⟩
 case rest =>
  clear HC3; (try clear p2); (try clear c4); (try clear c5); (try clear c5b0); (try clear p6); (try clear hcz4_0); (try clear hcz4_1); (try clear hcz6_0); (try clear hcz6_1); (try clear hfz4_1); (try clear hfz6_1)
  obtain ⟨kq, x24_2, rfl, HA, HJ2, HI0, HK, HB⟩ := hcut
  cases kq with
  | zero => exact absurd HA.out (by simp [spec_l20Rd_pick.j0])
  | succ kj2 =>
   have H := HA.out
   clear HA; simp only [spec_l20Rd_pick.j0] at H
   by_cases c7 : x24_2 = true
   ·subst c7; rw [if_pos rfl] at H
    try dsimp only at H
    simp only [Option.some.injEq, Prod.mk.injEq] at H
    obtain ⟨rfl, rfl⟩ := H
    go_wp2
    repeat (go_quiet (fail); try go_wp2)
    go_ret
    exact ⟨er, by repeat (first | (with_reducible first | exact HI0.out | apply IsS79.alloc | apply IsS79.drewN | apply IsS79.drew | apply IsS79.set_1) | exact HI0.out), by exact jB HB.out, by exact jK HK.out⟩
   ·replace c7 := Bool.eq_false_iff.mpr c7
    subst c7; rw [if_neg nf] at H
    try dsimp only at H
    by_cases c8 : (wrap64 ((wrap64 (s0_1 + 1)) - 1)) < (s0_0.length : Int)
    ·rw [if_pos c8] at H; have c8b0 := decide_eq_true c8
     clear c8; obtain ⟨ji9, hji9⟩ : ∃ j_ : Int, (wrap64 ((wrap64 (s0_1 + 1)) - 1)) = j_ := ⟨_, rfl⟩
     replace H : (if 0 ≤ (ji9) then (if a1 = 0 then (none) else (some (Int.tmod (wrap64 (rd s0_0 (ji9))) a1, (wrap64 (s0_1 + 1))))) else (none)) = some (r1, r2) := by first | (rw [hji9] at H; exact H) | (simp only [hji9] at H ⊢; exact H)
     (try rw [hji9] at c8b0)
     have hji9w : (IntKind.i64.wrap ((wrap64 (s0_1 + 1)) - 1)) = ji9 := (i64_w _).trans hji9
     obtain ⟨c10, H⟩ := iD H
     by_cases c11 : a1 = 0
     ·rw [if_pos c11] at H; exact absurd H (by simp)
     ·rw [if_neg c11] at H; have c11b0 := beq_eq_false_iff_ne.mpr c11
      have c11b1 := bne_iff_ne.mpr c11
      simp only [Option.some.injEq, Prod.mk.injEq] at H
      obtain ⟨rfl, rfl⟩ := H
      obtain ⟨ASz12_0, cSz12_0, HGz12, hgz12, HSz12_0⟩ := HI0.out
      have hcz12_0 := cellS79_0 HGz12
      have hcz12_1 := cellS79_1 HGz12
      have hfz12_1 := blk_frozen HGz12 1
      clear HGz12 hgz12; have p487 : 0 ≤ ((ji9) : Int) := od; have q487 : (ji9) < (s0_0.length : Int) := od; obtain ⟨ad487, e487, hx487_0⟩ := Kd.at_int HSz12_0 (ji9) p487 q487
      cases e487; replace hx487_0 := pw_cell_below HB.out hx487_0
      replace p487 := eq_true p487; replace q487 := eq_true q487; go_wp2
      repeat (go_quiet (fail); try go_wp2)
      go_ret
      exact ⟨by first | rfl | (simp [errW_none, errW_some] <;> rfl) | (simp only [← hji9]; first | rfl | (simp [errW_none, errW_some] <;> rfl)) | (simp [*, errW_none, errW_some] <;> rfl), by repeat (first | (with_reducible first | exact HI0.out | apply IsS79.alloc | apply IsS79.drewN | apply IsS79.drew | apply IsS79.set_1) | exact HI0.out), by exact jB HB.out, by exact jK HK.out⟩
    ·rw [if_neg c8] at H; have c8b0 := decide_eq_false c8
     clear c8
     by_cases c13 : (s0_0.length : Int) = 0
     ·rw [if_pos c13] at H; exact absurd H (by simp)
     ·rw [if_neg c13] at H; have c13b0 := beq_eq_false_iff_ne.mpr c13
      have c13b1 := bne_iff_ne.mpr c13
      have c13b2 : ¬ (s0_0 = []) := fun h_ => c13 (by rw [h_]; rfl)
      obtain ⟨ji14, hji14⟩ : ∃ j_ : Int, (Int.tmod (wrap64 ((wrap64 (s0_1 + 1)) - 1)) (s0_0.length : Int)) = j_ := ⟨_, rfl⟩
      replace H : (if 0 ≤ (ji14) then (if (ji14) < (s0_0.length : Int) then (if 0 ≤ (Int.tmod (wrap64 ((wrap64 ((wrap64 ((wrap64 (s0_1 + 1)) - 1)) * 7)) + 3)) (s0_0.length : Int)) then (if (Int.tmod (wrap64 ((wrap64 ((wrap64 ((wrap64 (s0_1 + 1)) - 1)) * 7)) + 3)) (s0_0.length : Int)) < (s0_0.length : Int) then (if a1 = 0 then (none) else (some (Int.tmod (Go.bits .xor .i64 (wrap64 ((wrap64 ((wrap64 ((wrap64 ((wrap64 (rd s0_0 (ji14))) * 131)) + (wrap64 ((wrap64 (rd s0_0 (Int.tmod (wrap64 ((wrap64 ((wrap64 ((wrap64 (s0_1 + 1)) - 1)) * 7)) + 3)) (s0_0.length : Int)))) * 1117)))) + (wrap64 ((wrap64 ((wrap64 (s0_1 + 1)) - 1)) * 29)))) + (wrap64 ((wrap64 (Int.tdiv (wrap64 ((wrap64 (s0_1 + 1)) - 1)) (s0_0.length : Int))) * 53)))) (wrap64 (Int.tdiv (wrap64 ((wrap64 ((wrap64 ((wrap64 ((wrap64 (rd s0_0 (ji14))) * 131)) + (wrap64 ((wrap64 (rd s0_0 (Int.tmod (wrap64 ((wrap64 ((wrap64 ((wrap64 (s0_1 + 1)) - 1)) * 7)) + 3)) (s0_0.length : Int)))) * 1117)))) + (wrap64 ((wrap64 ((wrap64 (s0_1 + 1)) - 1)) * 29)))) + (wrap64 ((wrap64 (Int.tdiv (wrap64 ((wrap64 (s0_1 + 1)) - 1)) (s0_0.length : Int))) * 53)))) 64))) a1, (wrap64 (s0_1 + 1))))) else (none)) else (none)) else (none)) else (none)) = some (r1, r2) := by first | (rw [hji14] at H; exact H) | (simp only [hji14] at H ⊢; exact H)
      obtain ⟨c15, H⟩ := iD H; obtain ⟨c16, H⟩ := iD H; obtain ⟨ji17, hji17⟩ : ∃ j_ : Int, (Int.tmod (wrap64 ((wrap64 ((wrap64 ((wrap64 (s0_1 + 1)) - 1)) * 7)) + 3)) (s0_0.length : Int)) = j_ := ⟨_, rfl⟩
      replace H : (if 0 ≤ (ji17) then (if (ji17) < (s0_0.length : Int) then (if a1 = 0 then (none) else (some (Int.tmod (Go.bits .xor .i64 (wrap64 ((wrap64 ((wrap64 ((wrap64 ((wrap64 (rd s0_0 (ji14))) * 131)) + (wrap64 ((wrap64 (rd s0_0 (ji17))) * 1117)))) + (wrap64 ((wrap64 ((wrap64 (s0_1 + 1)) - 1)) * 29)))) + (wrap64 ((wrap64 (Int.tdiv (wrap64 ((wrap64 (s0_1 + 1)) - 1)) (s0_0.length : Int))) * 53)))) (wrap64 (Int.tdiv (wrap64 ((wrap64 ((wrap64 ((wrap64 ((wrap64 (rd s0_0 (ji14))) * 131)) + (wrap64 ((wrap64 (rd s0_0 (ji17))) * 1117)))) + (wrap64 ((wrap64 ((wrap64 (s0_1 + 1)) - 1)) * 29)))) + (wrap64 ((wrap64 (Int.tdiv (wrap64 ((wrap64 (s0_1 + 1)) - 1)) (s0_0.length : Int))) * 53)))) 64))) a1, (wrap64 (s0_1 + 1))))) else (none)) else (none)) = some (r1, r2) := by first | (rw [hji17] at H; exact H) | (simp only [hji17] at H ⊢; exact H)
      obtain ⟨c18, H⟩ := iD H; obtain ⟨c19, H⟩ := iD H
      by_cases c20 : a1 = 0
      ·rw [if_pos c20] at H; exact absurd H (by simp)
      ·rw [if_neg c20] at H; have c20b0 := beq_eq_false_iff_ne.mpr c20
       have c20b1 := bne_iff_ne.mpr c20
       simp only [Option.some.injEq, Prod.mk.injEq] at H
       obtain ⟨rfl, rfl⟩ := H
       obtain ⟨ASz21_0, cSz21_0, HGz21, hgz21, HSz21_0⟩ := HI0.out
       have hcz21_0 := cellS79_0 HGz21
       have hcz21_1 := cellS79_1 HGz21
       have hfz21_1 := blk_frozen HGz21 1
       clear HGz21 hgz21; have p488 : 0 ≤ ((ji14) : Int) := od; have q488 : (ji14) < (s0_0.length : Int) := od; obtain ⟨ad488, e488, hx488_0⟩ := Kd.at_int HSz21_0 (ji14) p488 q488
       cases e488; replace hx488_0 := pw_cell_below HB.out hx488_0
       replace p488 := eq_true p488; replace q488 := eq_true q488; have p489 : 0 ≤ ((ji17) : Int) := od; have q489 : (ji17) < (s0_0.length : Int) := od; obtain ⟨ad489, e489, hx489_0⟩ := Kd.at_int HSz21_0 (ji17) p489 q489
       obtain rfl : ad488 = ad489 := (by injection e489)
       replace hx489_0 := pw_cell_below HB.out hx489_0
       replace p489 := eq_true p489; replace q489 := eq_true q489; go_wp2
       repeat (go_quiet (fail); try go_wp2)
       go_ret
       exact ⟨by first | rfl | (simp [errW_none, errW_some] <;> rfl) | (simp only [← hji14, ← hji17]; first | rfl | (simp [errW_none, errW_some] <;> rfl)) | (simp [*, errW_none, errW_some] <;> rfl), by repeat (first | (with_reducible first | exact HI0.out | apply IsS79.alloc | apply IsS79.drewN | apply IsS79.drew | apply IsS79.set_1) | exact HI0.out), by exact jB HB.out, by exact jK HK.out⟩
/-! ### spec_l20With: function 78 -/
def spec_l20With.f (l0_0 : List Int) (l0_1 : List Int) (a0_2 : Int) (a1 : Int) (a2 : Int) : Option (List Int × List Int × Int) := if 0 ≤ a1 then (if a1 < (l0_0.length : Int) then (some ((l0_0.set (a1 : Int).toNat a2), l0_1, a0_2)) else (none)) else (none)
theorem spec_l20With.calls (P0_0_ : Nat → Prop) (u9000_ : Value) (l0_0 : List Int) (P0_1_ : Nat → Prop) (u9001_ : Value) (l0_1 : List Int) (a0_2 : Int) (a1 : Int) (a2 : Int) (r1 : List Int) (r2 : List Int) (r3 : Int) (w0 w : World) (hB : Below w0.heap.size w0 w) (ho0_0 : Kd.R (Kd.int .i64) 3 w w0.heap.size P0_0_ u9000_ l0_0) (hp0_0_0_1 : ∀ k_, P0_0_ k_ → ¬ P0_1_ k_) (ho0_1 : Kd.R (Kd.int .i64) 3 w w0.heap.size P0_1_ u9001_ l0_1) (hp0_1_0_0 : ∀ k_, P0_1_ k_ → ¬ P0_0_ k_) (h : spec_l20With.f l0_0 l0_1 a0_2 a1 a2 = some (r1, r2, r3)) :
  Calls Try.prog 78 #[.agg #[u9000_, u9001_, .int .i64 a0_2], .int .i64 a1, .int .i64 a2] w fun e w' => ∃ v0_ v1_ : Value, e = .returned (.agg #[v0_, v1_, .int .i64 r3]) ∧ Kd.R (Kd.int .i64) 3 w' w0.heap.size (fun k_ => ((P0_0_ k_ ∨ P0_1_ k_) ∨ w.heap.size ≤ k_) ∧ some k_ ≠ (v1_ : Value).ownBlock) v0_ r1 ∧ Kd.R (Kd.int .i64) 3 w' w0.heap.size (fun k_ => ((P0_0_ k_ ∨ P0_1_ k_) ∨ w.heap.size ≤ k_) ∧ some k_ ≠ (v0_ : Value).ownBlock) v1_ r2 ∧ Below w0.heap.size w0 w' ∧ Kept w w' (fun k_ => P0_0_ k_ ∨ P0_1_ k_) := by
 have hu34 := Try.underlying34; have HO0_0 := aM (show Kd.R (Kd.int .i64) 3 w w0.heap.size (fun k_ => ((P0_0_ k_ ∨ P0_1_ k_) ∨ w.heap.size ≤ k_) ∧ some k_ ≠ (u9001_ : Value).ownBlock) u9000_ l0_0 from Kd.R_mono ho0_0 (fun k_ hk => ⟨(.inl (.inl hk)), fun e_ => hp0_0_0_1 k_ hk (ho0_1.1 k_ e_.symm)⟩)); have HO0_1 := aM (show Kd.R (Kd.int .i64) 3 w w0.heap.size (fun k_ => ((P0_0_ k_ ∨ P0_1_ k_) ∨ w.heap.size ≤ k_) ∧ some k_ ≠ (u9000_ : Value).ownBlock) u9001_ l0_1 from Kd.R_mono ho0_1 (fun k_ hk => ⟨(.inl (.inr hk)), fun e_ => hp0_1_0_0 k_ hk (ho0_0.1 k_ e_.symm)⟩)); have HK := aM (Kept.refl w (fun k_ => P0_0_ k_ ∨ P0_1_ k_)); have HW0 := aM hB.size
 have HB := aM hB; clear hB; have H : (if 0 ≤ a1 then (if a1 < (l0_0.length : Int) then (some ((l0_0.set (a1 : Int).toNat a2), l0_1, a0_2)) else (none)) else (none)) = some (r1, r2, r3) := h
 clear h; obtain ⟨c4, H⟩ := iD H; obtain ⟨c5, H⟩ := iN H; have c5b0 := decide_eq_true c5
 clear c5; obtain ⟨y492, Ny492⟩ : ∃ y_ : List Int, Aside0 (y_ = (l0_0.set (a1 : Int).toNat a2)) := ⟨_, ⟨rfl⟩⟩
 try rw [← Ny492.out] at H
 try dsimp only [Option.bind_some] at H
 simp only [Option.some.injEq, Prod.mk.injEq] at H
 obtain ⟨rfl, rfl, rfl⟩ := H
 obtain ⟨Ao7, co7, eo7⟩ := Kd.R_slice HO0_0.out; subst eo7; obtain ⟨Ao8, co8, eo8⟩ := Kd.R_slice HO0_1.out; subst eo8; go_enter Try.func78, Try.ntmps78
 go_wp2_with (first | ((with_reducible refine gate_dst (N := 3) rfl ?_); refine bx 3 #[.slice Ao7 l0_0.length co7, .slice Ao8 l0_1.length co8, .int .i64 a0_2] 34 ?_; intro gb490 hg w9 hbox hb; replace HO0_0 := aM (rb HO0_0.out hb); replace HO0_1 := aM (rb HO0_1.out hb); have BK490 := aM (hbox); have GW490 := aM ((by rw [hg]; exact (by first | exact HK.out.1 | exact (show Kept w _ (fun k_ => P0_0_ k_ ∨ P0_1_ k_) from by repeat (first | (with_reducible first | exact HK.out | apply Kept.alloc | apply Kept.drewN | apply Kept.drew) | exact HK.out)).1) : w.heap.size ≤ gb490)); have IGW490 := wn GW490.out; replace HK := aM (Kept.below (S := (fun k_ => P0_0_ k_ ∨ P0_1_ k_)) (by repeat (first | (with_reducible first | exact HK.out | apply Kept.alloc | apply Kept.drewN | apply Kept.drew) | exact HK.out)) hb); have GE490 := aM ((by rw [hg]; exact (bz HB.out) : w0.heap.size ≤ gb490)); have IGE490 := wn GE490.out; replace HB := aM (bj HB.out hb); clear hb hbox hg) | ((with_reducible refine gate_dst (N := 6) rfl ?_); refine bx 6 #[.slice none 0 0, .slice none 0 0, .int .i64 0] 34 ?_; intro gb491 hg w10 hbox hb; replace HO0_0 := aM (rb HO0_0.out hb); replace HO0_1 := aM (rb HO0_1.out hb); have BK491 := aM (hbox); have GW491 := aM ((by rw [hg]; exact (by first | exact HK.out.1 | exact (show Kept w _ (fun k_ => P0_0_ k_ ∨ P0_1_ k_) from by repeat (first | (with_reducible first | exact HK.out | apply Kept.alloc | apply Kept.drewN | apply Kept.drew | refine Kept.setCell ?_ (.inr GW490.out) _) | exact HK.out)).1) : w.heap.size ≤ gb491)); have IGW491 := wn GW491.out; replace HK := aM (Kept.below (S := (fun k_ => P0_0_ k_ ∨ P0_1_ k_)) (by repeat (first | (with_reducible first | exact HK.out | apply Kept.alloc | apply Kept.drewN | apply Kept.drew | refine Kept.setCell ?_ (.inr GW490.out) _) | exact HK.out)) hb); have GE491 := aM ((by rw [hg]; exact (bz HB.out) : w0.heap.size ≤ gb491)); have IGE491 := wn GE491.out; replace HB := aM (bj HB.out hb); have NB490_491 := aM ((neL hg (lK BK490.out) : gb490 ≠ gb491)); have NB491_490 := aM ((neG hg (lK BK490.out) : gb491 ≠ gb490)); replace BK490 := aM (bb BK490.out hb); clear hb hbox hg; have hnb11 := NB490_491.out; have hnc11 := NB491_490.out; obtain ⟨hcz12_0, hcz12_1, hcz12_2, hfz12_0, hfz12_1, hfz12_2⟩ := cf3 BK490.out; have p6 : 0 ≤ (a1 : Int) := od; have q6 : (a1 : Int) < ((l0_0.length : Int) : Int) := od; obtain ⟨go6, co6, eo6, gb6, gl6, cl6, HG6⟩ := Kd.R_form HO0_0.out (by omega); (first | cases eo6 | (injection eo6 with ea_ en_ ec_; (first | subst ea_ | (injection ea_ with ea_; subst ea_)); subst ec_; clear en_)); have GB6 := aM gb6; have IGB6 := wn GB6.out; have GG6 := aM HG6; clear gb6 gl6 HG6; have HMgo6 := aM (show ((P0_0_ go6 ∨ P0_1_ go6) ∨ w.heap.size ≤ go6) from (HO0_0.out.1 _ rfl).1); obtain ⟨hx6_0, hf6_0⟩ := Kd.R_celln 0 HO0_0.out (a1 : Int) p6 q6; replace p6 := eq_true p6; replace q6 := eq_true q6; obtain ⟨hy13_, hz13_⟩ := Kd.R_celln 0 HO0_0.out (a1 : Int) (of_decide_eq_true (by first | (with_reducible assumption) | assumption)) (of_decide_eq_true (by first | (with_reducible assumption) | assumption)); have HP13 := Kd.R_putg HO0_0.out (a1 : Int) a2) | ((with_reducible refine gate_store (t := 3) (p := 11) rfl ?_); refine store_event (t := 3) (p := 11) (v := ?vo_w14) (w1 := (w10.setCell ⟨go6, (a1 : Int).toNat, none⟩ (.int .i64 a2))) ?hg ?ho ?hn ?hr ?_; (case ho => rfl); (case hg => rfl); (case hn => rfl); (case hr => first | (go_simp; done) | (go_simp; rfl)); intro w14 hw; have hg : w10.grownBy w14 (some go6) := (by rw [hw]; exact HP13.2); have hp_ : Kd.R (Kd.int .i64) 3 w14 w0.heap.size (fun k_ => ((P0_0_ k_ ∨ P0_1_ k_) ∨ w.heap.size ≤ k_) ∧ some k_ ≠ ownBlock (.slice Ao8 l0_1.length co8)) (.slice (some ⟨go6, 0, none⟩) l0_0.length co7) y492 := (by rw [hw, Ny492.out]; exact HP13.1); clear HP13; replace HO0_1 := aM (Kd.R_after (v := (.slice (some ⟨go6, 0, none⟩) l0_0.length co7)) (v1 := (.slice (some ⟨go6, 0, none⟩) l0_0.length co7)) (ok := (fun k_ => ((P0_0_ k_ ∨ P0_1_ k_) ∨ w.heap.size ≤ k_))) (by exact lR HO0_1.out) hg (.inl rfl)); replace BK490 := aM (blk_grown (g := gb490) (lK BK490.out) hg (Kd.R_ne HO0_0.out BK490.out (by decide))); replace BK491 := aM (blk_grown (g := gb491) (lK BK491.out) hg (Kd.R_ne HO0_0.out BK491.out (by decide))); replace HB := aM ((by rw [hw]; exact below_set (HB.out) GB6.out : Below w0.heap.size w0 w14)); replace HK := aM (Kept.of_grown (S := (fun k_ => P0_0_ k_ ∨ P0_1_ k_)) hg (by repeat (first | (with_reducible first | exact HK.out | apply Kept.alloc | apply Kept.drewN | apply Kept.drew | refine Kept.setCell ?_ (.inr GW490.out) _ | refine Kept.setCell ?_ (.inr GW491.out) _) | exact HK.out)) (fun k_ e_ => (HO0_0.out.1 k_ e_).1)); replace HO0_0 := aM (hp_); clear hg hw hp_; obtain ⟨hcz15_0, hcz15_1, hcz15_2, hfz15_0, hfz15_1, hfz15_2⟩ := cf3 BK490.out; obtain ⟨hcz16_0, hcz16_1, hcz16_2, hfz16_0, hfz16_1, hfz16_2⟩ := cf3 BK491.out))
 refine bodyPost_ret (results_cell_row rfl _ _ gb491 34 #[.slice (some ⟨go6, 0, none⟩) l0_0.length co7, .slice Ao8 l0_1.length co8, .int .i64 a0_2] (0, 0) _ rfl (by exact p3 (lK BK491.out)) Try.underlying34 rfl (by kernel_rfl)) rfl ?_
 exact ⟨_, _, er, by exact lR <| Kd.R_mono (Kd.R_far (p := ⟨gb491, 2, none⟩) (Kd.R_far (p := ⟨gb491, 1, none⟩) (Kd.R_far (p := ⟨gb491, 0, none⟩) (Kd.R_types HO0_0.out BK491.out (by decide)) (fun _ hk => by first | exact hk.2 | exact fun e_ => hk.2 (e_.trans (ob _ _ _ _))) (.slice (some ⟨go6, 0, none⟩) l0_0.length co7)) (fun _ hk => by first | exact hk.2 | exact fun e_ => hk.2 (e_.trans (ob _ _ _ _))) (.slice Ao8 l0_1.length co8)) (fun _ hk => by first | exact hk.2 | exact fun e_ => hk.2 (e_.trans (ob _ _ _ _))) (.int .i64 a0_2)) (fun _ hk => ⟨hk.1.1, hk.1.2⟩), by exact lR <| Kd.R_mono (Kd.R_far (p := ⟨gb491, 2, none⟩) (Kd.R_far (p := ⟨gb491, 1, none⟩) (Kd.R_far (p := ⟨gb491, 0, none⟩) (Kd.R_types HO0_1.out BK491.out (by decide)) (fun _ hk => by first | exact hk.2 | exact fun e_ => hk.2 (e_.trans (ob _ _ _ _))) (.slice (some ⟨go6, 0, none⟩) l0_0.length co7)) (fun _ hk => by first | exact hk.2 | exact fun e_ => hk.2 (e_.trans (ob _ _ _ _))) (.slice Ao8 l0_1.length co8)) (fun _ hk => by first | exact hk.2 | exact fun e_ => hk.2 (e_.trans (ob _ _ _ _))) (.int .i64 a0_2)) (fun _ hk => ⟨hk.1.1, hk.1.2⟩), by exact jB HB.out, by repeat (first | (with_reducible first | exact HK.out | apply Kept.alloc | apply Kept.drewN | apply Kept.drew | refine Kept.setCell ?_ (.inr GW490.out) _ | refine Kept.setCell ?_ (.inr GW491.out) _) | exact HK.out)⟩
/-! ### spec_l20Num: function 79 -/
def spec_l20Num.f (a0 : Int) (a1 : Int) (a2 : Int) : Option (List Int × List Int × Int) := (spec_FrmZero.f).bind fun bt494 => (if 0 < (bt494.2.1.length : Int) then (if 1 < (bt494.2.1.length : Int) then (some (bt494.1, ((bt494.2.1.set (0 : Int).toNat a0).set (1 : Int).toNat a1), a2)) else (none)) else (none))
theorem spec_l20Num.calls (a0 : Int) (a1 : Int) (a2 : Int) (r1 : List Int) (r2 : List Int) (r3 : Int) (w : World) (h : spec_l20Num.f a0 a1 a2 = some (r1, r2, r3)) :
  Calls Try.prog 79 #[.int .i64 a0, .int .i64 a1, .int .i64 a2] w fun e w' => ∃ v0_ v1_ : Value, e = .returned (.agg #[v0_, v1_, .int .i64 r3]) ∧ Kd.R (Kd.int .i64) 3 w' w.heap.size (fun k_ => some k_ ≠ (v1_ : Value).ownBlock) v0_ r1 ∧ Kd.R (Kd.int .i64) 3 w' w.heap.size (fun k_ => some k_ ≠ (v0_ : Value).ownBlock) v1_ r2 ∧ Below w.heap.size w w' := by
 have hu34 := Try.underlying34; have HB := aM (Below.refl w.heap.size w); have H : ((spec_FrmZero.f).bind fun bt494 => (if 0 < (bt494.2.1.length : Int) then (if 1 < (bt494.2.1.length : Int) then (some (bt494.1, ((bt494.2.1.set (0 : Int).toNat a0).set (1 : Int).toNat a1), a2)) else (none)) else (none))) = some (r1, r2, r3) := h
 clear h; obtain ⟨⟨t494, t497, t500⟩, A4, H⟩ := bS H
 try dsimp only at H
 obtain ⟨c5, H⟩ := iN H; have c5b0 := decide_eq_true c5
 have c5b1 : decide (0 < t497.length) = true := decide_eq_true (by omega)
 clear c5; obtain ⟨y502, Ny502⟩ : ∃ y_ : List Int, Aside0 (y_ = (t497.set (0 : Int).toNat a0)) := ⟨_, ⟨rfl⟩⟩
 try rw [← Ny502.out] at H
 try dsimp only [Option.bind_some] at H
 obtain ⟨c7, H⟩ := iN H; have c7b0 := decide_eq_true c7
 have c7b1 : decide (1 < t497.length) = true := decide_eq_true (by omega)
 clear c7; obtain ⟨y503, Ny503⟩ : ∃ y_ : List Int, Aside0 (y_ = (y502.set (1 : Int).toNat a1)) := ⟨_, ⟨rfl⟩⟩
 try rw [← Ny503.out] at H
 try dsimp only [Option.bind_some] at H
 simp only [Option.some.injEq, Prod.mk.injEq] at H
 obtain ⟨rfl, rfl, rfl⟩ := H
 go_enter Try.func79, Try.ntmps79
 go_wp2_with (first | ((with_reducible refine gate_dst (N := 6) rfl ?_); refine bx 6 #[.slice none 0 0, .slice none 0 0, .int .i64 0] 34 ?_; intro gb493 hg w9 hbox hb; have BK493 := aM (hbox); have GW493 := aM (gz hg HB.out); have IGW493 := wn GW493.out; have GE493 := aM (gz hg HB.out); have IGE493 := wn GE493.out; replace HB := aM (bj HB.out hb); clear hb hbox hg) | (refine gL (some 8) Try.func86 #[] ?_; (with_reducible refine (spec_FrmZero.calls  t494 t497 t500 _ A4.out).mono ?_); rintro e w10 ⟨v495, v498, rfl, ho0, ho1, hb⟩; refine ⟨_, rfl, ?_⟩; have HO496 := aM (Kd.R_lower ho0 (bz HB.out)); have HO499 := aM (Kd.R_lower ho1 (bz HB.out)); replace BK493 := aM (bb BK493.out hb); replace HB := aM (bj HB.out hb); clear hb ho0 ho1) | ((with_reducible refine gate_dst (N := 7) rfl ?_); refine bx 7 #[.slice none 0 0, .slice none 0 0, .int .i64 0] 34 ?_; intro gb501 hg w11 hbox hb; replace HO496 := aM (rb HO496.out hb); replace HO499 := aM (rb HO499.out hb); have BK501 := aM (hbox); have GW501 := aM (gz hg HB.out); have IGW501 := wn GW501.out; have GE501 := aM (gz hg HB.out); have IGE501 := wn GE501.out; replace HB := aM (bj HB.out hb); have NB493_501 := aM ((neL hg (lK BK493.out) : gb493 ≠ gb501)); have NB501_493 := aM ((neG hg (lK BK493.out) : gb501 ≠ gb493)); replace BK493 := aM (bb BK493.out hb); clear hb hbox hg; obtain ⟨Ao12, co12, rfl⟩ := Kd.R_slice HO496.out; have hnb13 := NB501_493.out; have hnc13 := NB493_501.out; obtain ⟨hcz14_0, hcz14_1, hcz14_2, hfz14_0, hfz14_1, hfz14_2⟩ := cf3 BK501.out; obtain ⟨Ao15, co15, rfl⟩ := Kd.R_slice HO499.out) | ((with_reducible refine gate_store (t := 34) (p := 7) rfl ?_); refine store_event (t := 34) (p := 7) (v := ?vo_w16) (w1 := (((w11.setCell ⟨gb501, 0, none⟩ (.slice Ao12 t494.length co12)).setCell ⟨gb501, 1, none⟩ (.slice Ao15 t497.length co15)).setCell ⟨gb501, 2, none⟩ (.int .i64 t500))) ?hg ?ho ?hn ?hr ?_; (case ho => rfl); (case hg => rfl); (case hn => rfl); (case hr => first | (go_simp; done) | (go_simp; rfl)); intro w16 hw; replace HO496 : Aside0 (Kd.R (Kd.int .i64) 3 w16 w.heap.size (fun k_ => some k_ ≠ ownBlock (.slice Ao15 t497.length co15)) (.slice Ao12 t494.length co12) t494) := ⟨(by rw [hw]; exact (by (with_reducible repeat (first | apply ra | apply rn | apply re)); exact R3 HO496.out BK501.out))⟩; replace HO499 : Aside0 (Kd.R (Kd.int .i64) 3 w16 w.heap.size (fun k_ => some k_ ≠ ownBlock (.slice Ao12 t494.length co12)) (.slice Ao15 t497.length co15) t497) := ⟨(by rw [hw]; exact (by (with_reducible repeat (first | apply ra | apply rn | apply re)); exact R3 HO499.out BK501.out))⟩; replace BK493 : Aside0 (w16.heap[gb493]? = some (.cells #[.slice none 0 0, .slice none 0 0, .int .i64 0] 34 (0, 0))) := ⟨(by rw [hw]; exact (by exact f3 (lK BK493.out) NB493_501.out))⟩; replace BK501 : Aside0 (w16.heap[gb501]? = some (.cells #[.slice Ao12 t494.length co12, .slice Ao15 t497.length co15, .int .i64 t500] 34 (0, 0))) := ⟨(by rw [hw]; exact (by exact p3 (lK BK501.out)))⟩; replace HB : Aside0 (Below w.heap.size w w16) := ⟨(by rw [hw]; exact (by exact jB HB.out))⟩; clear hw; obtain ⟨hcz17_0, hcz17_1, hcz17_2, hfz17_0, hfz17_1, hfz17_2⟩ := cf3 BK501.out; have p6 : 0 ≤ (0 : Int) := (by omega); have q6 : (0 : Int) < ((t497.length : Int) : Int) := od; have qi6 : (0 < t497.length) = True := eq_true (by omega); obtain ⟨go6, co6, eo6, gb6, gl6, cl6, HG6⟩ := Kd.R_form HO499.out (by omega); (first | cases eo6 | (injection eo6 with ea_ en_ ec_; (first | subst ea_ | (injection ea_ with ea_; subst ea_)); subst ec_; clear en_)); have GB6 := aM gb6; have IGB6 := wn GB6.out; have GG6 := aM HG6; clear gb6 gl6 HG6; obtain ⟨hx6_0, hf6_0⟩ := Kd.R_celln 0 HO499.out (0 : Int) p6 q6; (try rw [show ((0 : Int)).toNat = 0 from rfl] at hx6_0); (try simp only [Nat.reduceMul, Nat.zero_mul, Nat.zero_add, Nat.reduceAdd] at hx6_0); (try rw [show ((0 : Int)).toNat = 0 from rfl] at hf6_0); (try simp only [Nat.reduceMul, Nat.zero_mul, Nat.zero_add, Nat.reduceAdd] at hf6_0); replace p6 := eq_true p6; replace q6 := eq_true q6; obtain ⟨hy18_, hz18_⟩ := Kd.R_celln 0 HO499.out (0 : Int) (by omega) (of_decide_eq_true (by first | (with_reducible assumption) | assumption)); (try simp only [Int.reduceToNat, Int.toNat_zero, Int.toNat_ofNat, Nat.reduceMul, Nat.zero_mul, Nat.zero_add] at hy18_ hz18_); (try rw [show ((0 : Int)).toNat = 0 from rfl] at hy18_); (try rw [show ((0 : Int)).toNat = 0 from rfl] at hz18_); have HP18 := Kd.R_putg HO499.out (0 : Int) a0) | ((with_reducible refine gate_store (t := 3) (p := 12) rfl ?_); refine store_event (t := 3) (p := 12) (v := ?vo_w19) (w1 := (w16.setCell ⟨go6, (0 : Int).toNat, none⟩ (.int .i64 a0))) ?hg ?ho ?hn ?hr ?_; (case ho => rfl); (case hg => rfl); (case hn => rfl); (case hr => first | (go_simp; done) | (go_simp; rfl)); intro w19 hw; have hg : w16.grownBy w19 (some go6) := (by rw [hw]; exact HP18.2); have hp_ : Kd.R (Kd.int .i64) 3 w19 w.heap.size (fun k_ => some k_ ≠ ownBlock (.slice Ao12 t494.length co12)) (.slice (some ⟨go6, 0, none⟩) t497.length co15) y502 := (by rw [hw, Ny502.out]; exact HP18.1); clear HP18; replace BK493 := aM (blk_grown (g := gb493) (lK BK493.out) hg (Kd.R_ne HO499.out BK493.out (by decide))); replace HO496 := aM (Kd.R_after (v := (.slice (some ⟨go6, 0, none⟩) t497.length co15)) (v1 := (.slice (some ⟨go6, 0, none⟩) t497.length co15)) (ok := (fun _ => True)) (by exact lR <| Kd.R_mono HO496.out (fun _ hk => ⟨trivial, hk⟩)) hg (.inl rfl)); replace BK501 := aM (blk_grown (g := gb501) (lK BK501.out) hg (Kd.R_ne HO499.out BK501.out (by decide))); replace HO499 := aM (hp_); replace HB := aM ((by rw [hw]; exact below_set (HB.out) GB6.out : Below w.heap.size w w19)); clear hg hw hp_; obtain ⟨hcz20_0, hcz20_1, hcz20_2, hfz20_0, hfz20_1, hfz20_2⟩ := cf3 BK501.out; have p8 : 0 ≤ (1 : Int) := (by omega); have q8 : (1 : Int) < ((t497.length : Int) : Int) := od; have qi8 : (1 < t497.length) = True := eq_true (by omega); obtain ⟨hx8_0, hf8_0⟩ := Kd.R_celln 0 HO499.out (1 : Int) p8 q8; (try rw [show ((1 : Int)).toNat = 1 from rfl] at hx8_0); (try simp only [Nat.reduceMul, Nat.zero_mul, Nat.zero_add, Nat.reduceAdd] at hx8_0); (try rw [show ((1 : Int)).toNat = 1 from rfl] at hf8_0); (try simp only [Nat.reduceMul, Nat.zero_mul, Nat.zero_add, Nat.reduceAdd] at hf8_0); replace p8 := eq_true p8; replace q8 := eq_true q8; obtain ⟨hy21_, hz21_⟩ := Kd.R_celln 0 HO499.out (1 : Int) (by omega) (of_decide_eq_true (by first | (with_reducible assumption) | assumption)); (try simp only [Int.reduceToNat, Int.toNat_zero, Int.toNat_ofNat, Nat.reduceMul, Nat.zero_mul, Nat.zero_add] at hy21_ hz21_); (try rw [show ((1 : Int)).toNat = 1 from rfl] at hy21_); (try rw [show ((1 : Int)).toNat = 1 from rfl] at hz21_); have HP21 := Kd.R_putg HO499.out (1 : Int) a1) | ((with_reducible refine gate_store (t := 3) (p := 16) rfl ?_); refine store_event (t := 3) (p := 16) (v := ?vo_w22) (w1 := (w19.setCell ⟨go6, (1 : Int).toNat, none⟩ (.int .i64 a1))) ?hg ?ho ?hn ?hr ?_; (case ho => rfl); (case hg => rfl); (case hn => rfl); (case hr => first | (go_simp; done) | (go_simp; rfl)); intro w22 hw; have hg : w19.grownBy w22 (some go6) := (by rw [hw]; exact HP21.2); have hp_ : Kd.R (Kd.int .i64) 3 w22 w.heap.size (fun k_ => some k_ ≠ ownBlock (.slice Ao12 t494.length co12)) (.slice (some ⟨go6, 0, none⟩) t497.length co15) y503 := (by rw [hw, Ny503.out]; exact HP21.1); clear HP21; replace BK493 := aM (blk_grown (g := gb493) (lK BK493.out) hg (Kd.R_ne HO499.out BK493.out (by decide))); replace HO496 := aM (Kd.R_after (v := (.slice (some ⟨go6, 0, none⟩) t497.length co15)) (v1 := (.slice (some ⟨go6, 0, none⟩) t497.length co15)) (ok := (fun _ => True)) (by exact lR HO496.out) hg (.inl rfl)); replace BK501 := aM (blk_grown (g := gb501) (lK BK501.out) hg (Kd.R_ne HO499.out BK501.out (by decide))); replace HO499 := aM (hp_); replace HB := aM ((by rw [hw]; exact below_set (HB.out) GB6.out : Below w.heap.size w w22)); clear hg hw hp_; obtain ⟨hcz23_0, hcz23_1, hcz23_2, hfz23_0, hfz23_1, hfz23_2⟩ := cf3 BK501.out; obtain ⟨hcz24_0, hcz24_1, hcz24_2, hfz24_0, hfz24_1, hfz24_2⟩ := cf3 BK493.out))
 refine bodyPost_ret (results_cell_row rfl _ _ gb493 34 #[.slice Ao12 t494.length co12, .slice (some ⟨go6, 0, none⟩) t497.length co15, .int .i64 a2] (0, 0) _ rfl (by (with_reducible repeat first | refine kN ?_ _ | refine kD ?_ | refine kA ?_ _); refine blk_put (cs := #[.slice Ao12 t494.length co12, .slice (some ⟨go6, 0, none⟩) t497.length co15, .int .i64 0]) ?_ 2 _ rfl; (with_reducible repeat first | refine kN ?_ _ | refine kD ?_ | refine kA ?_ _); refine blk_put (cs := #[.slice Ao12 t494.length co12, .slice none 0 0, .int .i64 0]) ?_ 1 _ rfl; (with_reducible repeat first | refine kN ?_ _ | refine kD ?_ | refine kA ?_ _); refine blk_put (cs := #[.slice none 0 0, .slice none 0 0, .int .i64 0]) ?_ 0 _ rfl; (with_reducible repeat first | refine kN ?_ _ | refine kD ?_ | refine kA ?_ _); refine blk_far ?_ NB493_501.out _; exact lK BK493.out) Try.underlying34 rfl (by kernel_rfl)) rfl ?_
 exact ⟨_, _, er, by exact lR <| Kd.R_mono (Kd.R_far (p := ⟨gb493, 2, none⟩) (Kd.R_far (p := ⟨gb493, 1, none⟩) (Kd.R_far (p := ⟨gb493, 0, none⟩) (Kd.R_far (p := ⟨gb501, 2, none⟩) (Kd.R_types (Kd.R_types HO496.out BK501.out (by decide)) BK493.out (by decide)) (fun _ hk => by first | exact hk.1.2 | exact fun e_ => hk.1.2 (e_.trans (ob _ _ _ _))) (.int .i64 a2)) (fun _ hk => by first | exact hk.2 | exact fun e_ => hk.2 (e_.trans (ob _ _ _ _))) (.slice Ao12 t494.length co12)) (fun _ hk => by first | exact hk.2 | exact fun e_ => hk.2 (e_.trans (ob _ _ _ _))) (.slice (some ⟨go6, 0, none⟩) t497.length co15)) (fun _ hk => by first | exact hk.2 | exact fun e_ => hk.2 (e_.trans (ob _ _ _ _))) (.int .i64 a2)) (fun _ hk => by first | exact hk.1.1.2 | exact fun e_ => hk.1.1.2 (e_.trans (ob _ _ _ _))), by exact lR <| Kd.R_mono (Kd.R_far (p := ⟨gb493, 2, none⟩) (Kd.R_far (p := ⟨gb493, 1, none⟩) (Kd.R_far (p := ⟨gb493, 0, none⟩) (Kd.R_far (p := ⟨gb501, 2, none⟩) (Kd.R_types (Kd.R_types HO499.out BK501.out (by decide)) BK493.out (by decide)) (fun _ hk => by first | exact hk.1.2 | exact fun e_ => hk.1.2 (e_.trans (ob _ _ _ _))) (.int .i64 a2)) (fun _ hk => by first | exact hk.2 | exact fun e_ => hk.2 (e_.trans (ob _ _ _ _))) (.slice Ao12 t494.length co12)) (fun _ hk => by first | exact hk.2 | exact fun e_ => hk.2 (e_.trans (ob _ _ _ _))) (.slice (some ⟨go6, 0, none⟩) t497.length co15)) (fun _ hk => by first | exact hk.2 | exact fun e_ => hk.2 (e_.trans (ob _ _ _ _))) (.int .i64 a2)) (fun _ hk => by first | exact hk.1.1 | exact fun e_ => hk.1.1 (e_.trans (ob _ _ _ _))), by exact jB HB.out⟩
end Go.Proofs.Ytcpaplcnebdocaa.QFnTrtKeeps
-- shorter
