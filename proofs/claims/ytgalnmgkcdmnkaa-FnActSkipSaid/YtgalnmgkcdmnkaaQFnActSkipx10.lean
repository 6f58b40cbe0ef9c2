/- Plain functions, and that the Go code computes them: written by a program of this session over the seat's translation; the conditions stand in each theorem. -/
import Derived.Test.YtgalnmgkcdmnkaaQFnActSkipx0
import Derived.Test.YtgalnmgkcdmnkaaQFnActSkipx2
import Derived.Test.YtgalnmgkcdmnkaaQFnActSkipx9
namespace Go.Proofs.Ytgalnmgkcdmnkaa.QFnActSkip
open Go.RowKit Go.Proofs.YtgalnmgkcdmnkaaW.PrintWords Go.Proofs.YtgalnmgkcdmnkaaW.PrintLast Go.Proofs.YtgalnmgkcdmnkaaW.PrintMore Go.Proofs.Ytgalnmgkcdmnkaa.HWords
open Value (ownBlock)
attribute [local go_sem] max2_int min2_int max_two min_two max_three min_three max_four min_four   -- for this text's walks alone
set_option linter.unusedVariables false
set_option linter.unusedSimpArgs false

/-! ### impl_ActRun: function 13 -/
mutual
def impl_ActRun.j0 : Nat → List (S45) → List Int → List Int → Bool → Option (Int × List Int × List Int)
 | 0, _, _, _, _ => none
 | k + 1, x0, x1, x2, x25 => if x25 = true then (some (0, ([] : List Int), ([] : List Int))) else ((slices_Clone_int_int.f x1).bind fun t612 => (impl_ActRun.l0 k x0 x1 x2 t612 ([] : List Int) 0))
def impl_ActRun.l0 : Nat → List (S45) → List Int → List Int → List Int → List Int → Int → Option (Int × List Int × List Int)
 | 0, _, _, _, _, _, _ => none
 | k + 1, x0, x1, x2, x8, x9, x10 => if x10 < (x0.length : Int) then (if 0 ≤ x10 then (if ((rd_T45 x0 x10).f0) = 4 then ((slices_Clone_int_int.f x1).bind fun t617 => (some (2, ([] : List Int), t617))) else ((impl_FrmForm_at.f k ((rd_T45 x0 x10).f3.f0) ((rd_T45 x0 x10).f3.f1) ((rd_T45 x0 x10).f3.f2) x8 x2).bind fun t620 => (if ((rd_T45 x0 x10).f0) = 1 then (if t620 < 0 then (impl_ActRun.l0 k x0 x1 x2 x8 x9 (wrap64 ((wrap64 (x10 + ((rd_T45 x0 x10).f2))) + 1))) else (impl_ActRun.l0 k x0 x1 x2 x8 x9 (wrap64 (x10 + 1)))) else (if ((rd_T45 x0 x10).f0) = 2 then (if 0 ≤ ((rd_T45 x0 x10).f1) then (if ((rd_T45 x0 x10).f1) < (x8.length : Int) then (impl_ActRun.l0 k x0 x1 x2 (x8.set (((rd_T45 x0 x10).f1) : Int).toNat (wrap64 ((rd x8 ((rd_T45 x0 x10).f1)) + t620))) x9 (wrap64 (x10 + 1))) else (none)) else (none)) else (if ((rd_T45 x0 x10).f0) = 3 then (if x9.length < 17592186044416 then (impl_ActRun.l0 k x0 x1 x2 x8 (x9 ++ [t620]) (wrap64 (x10 + 1))) else (none)) else (impl_ActRun.l0 k x0 x1 x2 x8 x9 (wrap64 (x10 + 1)))))))) else (none)) else ((impl_ValOk.f x8).bind fun t626 => (if t626 = true then (some (1, x9, x8)) else ((slices_Clone_int_int.f x1).bind fun t627 => (some (3, ([] : List Int), t627)))))
end
def impl_ActRun.f (k : Nat) (l0 : List (S45)) (l1 : List Int) (l2 : List Int) : Option (Int × List Int × List Int) := (impl_ActOk.f k l0).bind fun t609 => (if t609 = true then ((impl_ValOk.f l1).bind fun t610 => (if t610 = true then ((impl_ArgOk.f l2).bind fun t611 => (impl_ActRun.j0 k l0 l1 l2 (!t611))) else (impl_ActRun.j0 k l0 l1 l2 true))) else (impl_ActRun.j0 k l0 l1 l2 true))
theorem impl_ActRun.mono_l : ∀ k, (∀ y0 y1 y2 y3, LeO (impl_ActRun.j0 k y0 y1 y2 y3) (impl_ActRun.j0 (k + 1) y0 y1 y2 y3)) ∧ (∀ y0 y1 y2 y3 y4 y5, LeO (impl_ActRun.l0 k y0 y1 y2 y3 y4 y5) (impl_ActRun.l0 (k + 1) y0 y1 y2 y3 y4 y5))
 | 0 => ⟨fun _ _ _ _ r h => by simp [impl_ActRun.j0] at h, fun _ _ _ _ _ _ r h => by simp [impl_ActRun.l0] at h⟩
 | k + 1 => by
  obtain ⟨ih0, ih1⟩ := impl_ActRun.mono_l k
  refine ⟨?_, ?_⟩
  ·intro y0 y1 y2 y3
   unfold impl_ActRun.j0
   repeat' first
   | (with_reducible exact ih0 _ _ _ _)
   | (with_reducible exact ih1 _ _ _ _ _ _)
   | (with_reducible exact impl_ActOk.mono _ _)
   | (with_reducible exact impl_FrmForm_at.mono _ _ _ _ _ _)
   | (with_reducible exact LeO.refl _)
   | (with_reducible exact LeO.none _)
   | (with_reducible refine LeO.ite ?_ ?_)
   | (with_reducible refine LeO.bind ?_ (fun _ => ?_))
   | exact LeO.none _
   | refine LeO.ite ?_ ?_
   | refine LeO.bind ?_ (fun _ => ?_)
  ·intro y0 y1 y2 y3 y4 y5
   unfold impl_ActRun.l0
   repeat' first
   | (with_reducible exact ih0 _ _ _ _)
   | (with_reducible exact ih1 _ _ _ _ _ _)
   | (with_reducible exact impl_ActOk.mono _ _)
   | (with_reducible exact impl_FrmForm_at.mono _ _ _ _ _ _)
   | (with_reducible exact LeO.refl _)
   | (with_reducible exact LeO.none _)
   | (with_reducible refine LeO.ite ?_ ?_)
   | (with_reducible refine LeO.bind ?_ (fun _ => ?_))
   | exact LeO.none _
   | refine LeO.ite ?_ ?_
   | refine LeO.bind ?_ (fun _ => ?_)
theorem impl_ActRun.mono : ∀ a0 a1 a2 k, LeO (impl_ActRun.f k a0 a1 a2) (impl_ActRun.f (k + 1) a0 a1 a2) := by
 intro a0 a1 a2 k
 obtain ⟨ih0, ih1⟩ := impl_ActRun.mono_l k
 unfold impl_ActRun.f
 repeat' first
   | (with_reducible exact ih0 _ _ _ _)
   | (with_reducible exact ih1 _ _ _ _ _ _)
   | (with_reducible exact impl_ActOk.mono _ _)
   | (with_reducible exact impl_FrmForm_at.mono _ _ _ _ _ _)
   | (with_reducible exact LeO.refl _)
   | (with_reducible exact LeO.none _)
   | (with_reducible refine LeO.ite ?_ ?_)
   | (with_reducible refine LeO.bind ?_ (fun _ => ?_))
   | exact LeO.none _
   | refine LeO.ite ?_ ?_
   | refine LeO.bind ?_ (fun _ => ?_)
set_option maxHeartbeats 8000000 in
set_option maxRecDepth 100000 in
theorem impl_ActRun.calls (k : Nat) (A0 : Option Addr) (c0 : Nat) (l0 : List (S45)) (A1 : Option Addr) (c1 : Nat) (l1 : List Int) (A2 : Option Addr) (c2 : Nat) (l2 : List Int) (r1 : Int) (r2 : List Int) (r3 : List Int) (w : World) (hr0 : Kd.C k45 w A0 l0.length l0) (hc0 : l0.length ≤ c0) (hr1 : Kd.C (Kd.int .i64) w A1 l1.length l1) (hc1 : l1.length ≤ c1) (hr2 : Kd.C (Kd.int .i64) w A2 l2.length l2) (hc2 : l2.length ≤ c2) (h : impl_ActRun.f k l0 l1 l2 = some (r1, r2, r3)) :
  Calls Try.prog 13 #[.slice A0 l0.length c0, .slice A1 l1.length c1, .slice A2 l2.length c2] w fun e w' => ∃ v1_ v2_ : Value, e = .returned (.tuple #[.agg #[.int .i64 r1, v1_], v2_]) ∧ Kd.R (Kd.int .i64) 3 w' w.heap.size (fun k_ => some k_ ≠ (v2_ : Value).ownBlock) v1_ r2 ∧ Kd.R (Kd.int .i64) 3 w' w.heap.size (fun k_ => some k_ ≠ (v1_ : Value).ownBlock) v2_ r3 ∧ Below w.heap.size w w' := by
 have hu37 := Try.underlying37
 have hu45 := Try.underlying45
 have hu43 := Try.underlying43
 have HR0 := Aside0.mk hr0
 have HC0 := Aside0.mk hc0
 clear hr0 hc0
 have HR1 := Aside0.mk hr1
 have HC1 := Aside0.mk hc1
 clear hr1 hc1
 have HR2 := Aside0.mk hr2
 have HC2 := Aside0.mk hc2
 clear hr2 hc2
 have HB := Aside0.mk (Below.refl w.heap.size w)
 have H : ((impl_ActOk.f k l0).bind fun t609 => (if t609 = true then ((impl_ValOk.f l1).bind fun t610 => (if t610 = true then ((impl_ArgOk.f l2).bind fun t611 => (impl_ActRun.j0 k l0 l1 l2 (!t611))) else (impl_ActRun.j0 k l0 l1 l2 true))) else (impl_ActRun.j0 k l0 l1 l2 true))) = some (r1, r2, r3) := h
 clear h
 have HC4 := Aside0.mk H
 clear H
 go_enter Try.func13, Try.ntmps13
 go_upto_region 1 with (first | ((with_reducible refine gate_dst (N := 6) rfl ?_); refine bx 6 #[.int .i64 0, .slice none 0 0] 37 ?_; intro gb608 hg w5 hbox hb; have BK608 := Aside0.mk (hbox); have GW608 := Aside0.mk ((gz hg HB.out)); have IGW608 : Nonempty _ := ⟨GW608.out⟩; have GE608 := Aside0.mk ((gz hg HB.out)); have IGE608 : Nonempty _ := ⟨GE608.out⟩; replace HB := Aside0.mk (bj HB.out hb); clear hb hbox hg))
 (try simp only [Act.put, sA, s0, sS])
 go_cut [25] (fun v25 wc => ∃ (kq : Nat) (x25_3 : Bool), v25 = .bool x25_3 ∧ Aside0 (impl_ActRun.j0 kq l0 l1 l2 x25_3 = some (r1, r2, r3)) ∧ Aside0 (kq ≤ k) ∧ Aside0 (wc.heap[gb608]? = some (.cells #[.int .i64 0, (.slice none 0 0)] 37 (0, 0))) ∧ Aside0 (Below w.heap.size w wc))
 case first =>
  have H := HC4.out
  clear HC4
  obtain ⟨t609, A6, H⟩ := bS H
  try dsimp only at H
  by_cases c7 : t609 = true
  ·subst c7
   have H1 : ((impl_ValOk.f l1).bind fun t610 => (if t610 = true then ((impl_ArgOk.f l2).bind fun t611 => (impl_ActRun.j0 k l0 l1 l2 (!t611))) else (impl_ActRun.j0 k l0 l1 l2 true))) = some (r1, r2, r3) := by rw [if_pos rfl] at H; exact H
   clear H
   have H := H1
   clear H1
   obtain ⟨t610, A8, H⟩ := bS H
   try dsimp only at H
   by_cases c9 : t610 = true
   ·subst c9
    have H1 : ((impl_ArgOk.f l2).bind fun t611 => (impl_ActRun.j0 k l0 l1 l2 (!t611))) = some (r1, r2, r3) := by rw [if_pos rfl] at H; exact H
    clear H
    have H := H1
    clear H1
    obtain ⟨t611, A10, H⟩ := bS H
    try dsimp only at H
    have H' := Aside0.mk H
    clear H
    go_wp2_with (first | ((with_reducible refine gate_callee (f := 17) rfl ?_); refine gL (some 14) Try.func17 #[.slice A0 l0.length c0] ?_; (with_reducible refine (impl_ActOk.calls k _ _ l0 true _ ?side1 ?side2 A6.out).mono ?_); (case side1 => exact lC <| (Kd.C_below HR0.out HB.out)); (case side2 => exact HC0.out); rintro e w11 ⟨rfl, hb⟩; refine ⟨_, rfl, ?_⟩; replace BK608 := Aside0.mk (bb BK608.out hb); replace HB := Aside0.mk (bj HB.out hb); (try clear hb)) | (go_at_call 36; (with_reducible refine (impl_ValOk.calls _ _ l1 true _ ?side1 ?side2 A8.out).mono ?_); (case side1 => exact lC <| (Kd.C_below HR1.out HB.out)); (case side2 => exact HC1.out); rintro e w12 ⟨rfl, hb⟩; replace BK608 := Aside0.mk (bb BK608.out hb); replace HB := Aside0.mk (bj HB.out hb); (try clear hb)) | (go_at_call 37; (with_reducible refine (impl_ArgOk.calls _ _ l2 t611 _ ?side1 ?side2 A10.out).mono ?_); (case side1 => exact lC <| (Kd.C_below HR2.out HB.out)); (case side2 => exact HC2.out); rintro e w13 ⟨rfl, hb⟩; replace BK608 := Aside0.mk (bb BK608.out hb); replace HB := Aside0.mk (bj HB.out hb); (try clear hb)))
    go_meet
    case rel => exact ⟨_, (!t611), (by first | rfl | (simp; done) | (simp [*]; done)), H', ⟨by first | omega | exact Nat.le_refl _⟩, ⟨by exact lK <| BK608.out⟩, ⟨by exact jB HB.out⟩⟩
   ·replace c9 := Bool.eq_false_iff.mpr c9
    subst c9
    have H1 : (impl_ActRun.j0 k l0 l1 l2 true) = some (r1, r2, r3) := by rw [if_neg (show ¬ (false = true) by decide)] at H; exact H
    clear H
    have H := H1
    clear H1
    have H' := Aside0.mk H
    clear H
    go_wp2_with (first | ((with_reducible refine gate_callee (f := 17) rfl ?_); refine gL (some 14) Try.func17 #[.slice A0 l0.length c0] ?_; (with_reducible refine (impl_ActOk.calls k _ _ l0 true _ ?side1 ?side2 A6.out).mono ?_); (case side1 => exact lC <| (Kd.C_below HR0.out HB.out)); (case side2 => exact HC0.out); rintro e w14 ⟨rfl, hb⟩; refine ⟨_, rfl, ?_⟩; replace BK608 := Aside0.mk (bb BK608.out hb); replace HB := Aside0.mk (bj HB.out hb); (try clear hb)) | (go_at_call 36; (with_reducible refine (impl_ValOk.calls _ _ l1 false _ ?side1 ?side2 A8.out).mono ?_); (case side1 => exact lC <| (Kd.C_below HR1.out HB.out)); (case side2 => exact HC1.out); rintro e w15 ⟨rfl, hb⟩; replace BK608 := Aside0.mk (bb BK608.out hb); replace HB := Aside0.mk (bj HB.out hb); (try clear hb)))
    go_meet
    case rel => exact ⟨_, (true), (by first | rfl | (simp; done) | (simp [*]; done)), H', ⟨by first | omega | exact Nat.le_refl _⟩, ⟨by exact lK <| BK608.out⟩, ⟨by exact jB HB.out⟩⟩
  ·replace c7 := Bool.eq_false_iff.mpr c7
   subst c7
   have H1 : (impl_ActRun.j0 k l0 l1 l2 true) = some (r1, r2, r3) := by rw [if_neg (show ¬ (false = true) by decide)] at H; exact H
   clear H
   have H := H1
   clear H1
   have H' := Aside0.mk H
   clear H
   go_wp2_with (first | ((with_reducible refine gate_callee (f := 17) rfl ?_); refine gL (some 14) Try.func17 #[.slice A0 l0.length c0] ?_; (with_reducible refine (impl_ActOk.calls k _ _ l0 false _ ?side1 ?side2 A6.out).mono ?_); (case side1 => exact lC <| (Kd.C_below HR0.out HB.out)); (case side2 => exact HC0.out); rintro e w16 ⟨rfl, hb⟩; refine ⟨_, rfl, ?_⟩; replace BK608 := Aside0.mk (bb BK608.out hb); replace HB := Aside0.mk (bj HB.out hb); (try clear hb)))
   go_meet
   case rel => exact ⟨_, (true), (by first | rfl | (simp; done) | (simp [*]; done)), H', ⟨by first | omega | exact Nat.le_refl _⟩, ⟨by exact lK <| BK608.out⟩, ⟨by exact jB HB.out⟩⟩
 case rest =>
  clear HC4
  try clear c1
  try clear c2
  try clear p2
  try clear c7
  try clear c9
  try clear c13
  obtain ⟨kq, x25_3, rfl, HA, HJ3, BK608, HB⟩ := hcut
  cases kq with
  | zero => exact absurd HA.out (by simp [impl_ActRun.j0])
  | succ kj3 =>
   have H := HA.out
   clear HA
   simp only [impl_ActRun.j0] at H
   by_cases c17 : x25_3 = true
   ·subst c17
    have H1 : (some (0, ([] : List Int), ([] : List Int))) = some (r1, r2, r3) := by rw [if_pos rfl] at H; exact H
    clear H
    have H := H1
    clear H1
    simp only [Option.some.injEq, Prod.mk.injEq] at H
    obtain ⟨rfl, rfl, rfl⟩ := H
    obtain ⟨hcz18_0, hcz18_1, hfz18_0, hfz18_1⟩ := cf2 BK608.out
    go_wp2
    refine bodyPost_ret (results_ct rfl _ _ gb608 37 #[.int .i64 0, .slice none 0 0] (0, 0) _ rfl (by exact p2 (lK BK608.out)) Try.underlying37 rfl (by kernel_rfl)) rfl ?_
    exact ⟨_, _, by first | rfl | (simp [errW_none, errW_some] <;> rfl) | (simp [*, errW_none, errW_some] <;> rfl), by first | exact Kd.R_nil _ _ _ _ _ | exact Kd.N_nil _ _ _ _ _ | exact Kd.V_nil _ _ _ _ _ | exact Kd.Q_nil _ _ _ _ _ | exact Kd.S_nil _ _ _ _ _, by first | exact Kd.R_nil _ _ _ _ _ | exact Kd.N_nil _ _ _ _ _ | exact Kd.V_nil _ _ _ _ _ | exact Kd.Q_nil _ _ _ _ _ | exact Kd.S_nil _ _ _ _ _, by exact jB HB.out⟩
   ·replace c17 := Bool.eq_false_iff.mpr c17
    subst c17
    have H1 : ((slices_Clone_int_int.f l1).bind fun t612 => (impl_ActRun.l0 kj3 l0 l1 l2 t612 ([] : List Int) 0)) = some (r1, r2, r3) := by rw [if_neg (show ¬ (false = true) by decide)] at H; exact H
    clear H
    have H := H1
    clear H1
    obtain ⟨t612, A19, H⟩ := bS H
    try dsimp only at H
    have H' := Aside0.mk H
    clear H
    go_wp2_with (first | ((with_reducible refine gate_callee (f := 38) rfl ?_); refine gL (some 28) Try.func38 #[.slice A1 l1.length c1] ?_; (with_reducible refine (slices_Clone_int_int.calls _ _ l1 t612 _ ?side1 ?side2 A19.out).mono ?_); (case side1 => exact lC <| (Kd.C_below HR1.out HB.out)); (case side2 => exact HC1.out); rintro e w20 ⟨v613, rfl, ho0, hb⟩; refine ⟨_, rfl, ?_⟩; have HO614 := Aside0.mk (Kd.R_lower ho0 (below_size (by exact jB HB.out))); replace BK608 := Aside0.mk (bb BK608.out hb); replace HB := Aside0.mk (bj HB.out hb); (try clear hb); (try clear ho0)))
    go_loopg [9, 10] kj3 (fun kq v9 v10 w' => ∃ (x8_2 : List Int) (x9_2 : List Int) (x10_2 : Int) (x609000_2 : Int), v10 = .int .i64 x10_2 ∧ Aside0 (impl_ActRun.l0 kq l0 l1 l2 x8_2 x9_2 x10_2 = some (r1, r2, r3)) ∧ Aside0 (kq ≤ kj3) ∧ Aside0 (Kd.R (Kd.int .i64) 3 w' w.heap.size (fun k_ => some k_ ≠ v9.ownBlock) v613 x8_2) ∧ Aside0 (Kd.R (Kd.int .i64) 3 w' w.heap.size (fun k_ => some k_ ≠ v613.ownBlock) v9 x9_2) ∧ Aside0 (w'.heap[gb608]? = some (.cells #[.int .i64 x609000_2, (.slice none 0 0)] 37 (0, 0))) ∧ Aside0 (Below w.heap.size w w'))
    case atStart => exact ⟨(t612), (([] : List Int)), (0), (0), (by first | rfl | (simp; done) | (simp [*]; done)), H', ⟨Nat.le_refl _⟩, ⟨by exact lR <| Kd.R_mono HO614.out (fun _ hk => (by simp [Value.ownBlock]))⟩, ⟨by first | exact Kd.R_nil _ _ _ _ _ | exact Kd.N_nil _ _ _ _ _ | exact Kd.V_nil _ _ _ _ _ | exact Kd.Q_nil _ _ _ _ _ | exact Kd.S_nil _ _ _ _ _⟩, ⟨by exact lK <| BK608.out⟩, ⟨by exact jB HB.out⟩⟩
    case round =>
     clear H'
     try clear c1
     try clear c2
     try clear p2
     try clear c3
     try clear c7
     try clear c9
     try clear c13
     try clear c17
     try clear hcz18_0
     try clear hcz18_1
     try clear hfz18_0
     try clear hfz18_1
     try clear p2
     obtain ⟨x8_2, x9_2, x10_2, x609000_2, rfl, HA, HK2, HO_8, HO_9, BK608, HB⟩ := hrel
     cases gk with
     | zero => exact absurd HA.out (by simp [impl_ActRun.l0])
     | succ k2 =>
      have H := HA.out
      clear HA
      simp only [impl_ActRun.l0] at H
      by_cases c21 : x10_2 < (l0.length : Int)
      ·rw [if_pos c21] at H
       have c21b0 := decide_eq_true c21
       clear c21
       by_cases c22 : 0 ≤ x10_2
       ·rw [if_pos c22] at H
        have c22b0 := decide_eq_true c22
        clear c22
        by_cases c23 : ((rd_T45 l0 x10_2).f0) = 4
        ·rw [if_pos c23] at H
         have c23b0 := beq_iff_eq.mpr c23
         have c23b1 := bne_eq_false_iff_eq.mpr c23
         clear c23
         obtain ⟨t617, A24, H⟩ := bS H
         try dsimp only at H
         simp only [Option.some.injEq, Prod.mk.injEq] at H
         obtain ⟨rfl, rfl, rfl⟩ := H
         have p615 : 0 ≤ (x10_2 : Int) := of_decide_eq_true (by first | (with_reducible assumption) | assumption)
         have q615 : x10_2 < (l0.length : Int) := of_decide_eq_true (by first | (with_reducible assumption) | assumption)
         obtain ⟨ad615, A615_3, c615_3, A615_4, c615_4, e615, hx615_0, hx615_1, hx615_2, hx615_3, hx615_4, hx615_5, hl615_3, hi615_3, hl615_4, hi615_4⟩ := at_T45 HR0.out x10_2 p615 q615
         cases e615
         replace hx615_0 := cl HB.out hx615_0
         replace hx615_1 := cl HB.out hx615_1
         replace hx615_2 := cl HB.out hx615_2
         replace hx615_3 := cl HB.out hx615_3
         replace hx615_4 := cl HB.out hx615_4
         replace hx615_5 := cl HB.out hx615_5
         have HR615_3 := Aside0.mk hi615_3
         have HC615_3 := Aside0.mk hl615_3
         clear hi615_3 hl615_3
         have HR615_4 := Aside0.mk hi615_4
         have HC615_4 := Aside0.mk hl615_4
         clear hi615_4 hl615_4
         replace p615 := eq_true p615
         replace q615 := eq_true q615
         go_wp2_with (first | ((with_reducible refine gate_dst (N := 11) rfl ?_); refine bx 11 #[.int .i64 0, .int .i64 0, .int .i64 0, .slice none 0 0, .slice none 0 0, .int .i64 0] 45 ?_; intro gb616 hg w25 hbox hb; replace HO_8 := Aside0.mk (rb HO_8.out hb); replace HO_9 := Aside0.mk (rb HO_9.out hb); have BK616 := Aside0.mk (hbox); have GW616 := Aside0.mk ((gz hg HB.out)); have IGW616 : Nonempty _ := ⟨GW616.out⟩; have GE616 := Aside0.mk ((gz hg HB.out)); have IGE616 : Nonempty _ := ⟨GE616.out⟩; replace HB := Aside0.mk (bj HB.out hb); have NB608_616 := Aside0.mk ((neL hg (lK BK608.out) : gb608 ≠ gb616)); have NB616_608 := Aside0.mk ((neG hg (lK BK608.out) : gb616 ≠ gb608)); replace BK608 := Aside0.mk (bb BK608.out hb); clear hb hbox hg; have hnb26 := NB616_608.out; have hnc26 := NB608_616.out; obtain ⟨hcz27_0, hcz27_1, hcz27_2, hcz27_3, hcz27_4, hcz27_5, hfz27_0, hfz27_1, hfz27_2, hfz27_3, hfz27_4, hfz27_5⟩ := cf6 BK616.out) | ((with_reducible refine gate_callee (f := 38) rfl ?_); refine gL (some 44) Try.func38 #[.slice A1 l1.length c1] ?_; (with_reducible refine (slices_Clone_int_int.calls _ _ l1 t617 _ ?side1 ?side2 A24.out).mono ?_); (case side1 => exact Kd.C_below HR1.out (by exact jB HB.out)); (case side2 => exact HC1.out); rintro e w28 ⟨v618, rfl, ho0, hb⟩; refine ⟨_, rfl, ?_⟩; have HO619 := Aside0.mk (Kd.R_lower (Kd.R_new' (Kd.R_new' ho0 (Kd.R_lt (qp (R6 HO_8.out BK616.out)))) (Kd.R_lt (qp (R6 HO_9.out BK616.out)))) (below_size (by exact jB HB.out))); replace HO_8 := Aside0.mk (Kd.R_elder' (qp (R6 HO_8.out BK616.out)) (Kd.R_base ho0) hb); replace HO_9 := Aside0.mk (Kd.R_elder' (qp (R6 HO_9.out BK616.out)) (Kd.R_base ho0) hb); replace BK608 := Aside0.mk (blk_below (f6 (lK BK608.out) NB608_616.out) hb); replace BK616 := Aside0.mk (blk_below (g := gb616) (o := .cells #[.int .i64 ((rd_T45 l0 x10_2).f0), .int .i64 ((rd_T45 l0 x10_2).f1), .int .i64 ((rd_T45 l0 x10_2).f2), .slice A615_3 ((rd_T45 l0 x10_2).f3.f0).length c615_3, .slice A615_4 ((rd_T45 l0 x10_2).f3.f1).length c615_4, .int .i64 ((rd_T45 l0 x10_2).f3.f2)] 45 (0, 0)) (by exact p6 (lK BK616.out)) hb); replace HB := Aside0.mk (bj HB.out hb); (try clear hb); (try clear ho0); obtain ⟨hcz29_0, hcz29_1, hfz29_0, hfz29_1⟩ := cf2 BK608.out))
         refine bodyPost_ret (results_ct rfl _ _ gb608 37 #[.int .i64 2, .slice none 0 0] (0, 0) _ rfl (by exact p2 (lK BK608.out)) Try.underlying37 rfl (by kernel_rfl)) rfl ?_
         exact ⟨_, _, by first | rfl | (simp [errW_none, errW_some] <;> rfl) | (simp [*, errW_none, errW_some] <;> rfl), by first | exact Kd.R_nil _ _ _ _ _ | exact Kd.N_nil _ _ _ _ _ | exact Kd.V_nil _ _ _ _ _ | exact Kd.Q_nil _ _ _ _ _ | exact Kd.S_nil _ _ _ _ _, by exact lR <| Kd.R_mono (Kd.R_far (p := ⟨gb608, 1, none⟩) (Kd.R_far (p := ⟨gb608, 0, none⟩) (Kd.R_types HO619.out BK608.out (by decide)) (fun _ hk => by first | exact hk.2 | exact fun e_ => hk.2 (e_.trans (ob _ _ _ _))) (.int .i64 2)) (fun _ hk => by first | exact hk.2 | exact fun e_ => hk.2 (e_.trans (ob _ _ _ _))) (.slice none 0 0)) (fun _ hk => (by simp [Value.ownBlock])), by exact jB HB.out⟩
        ·rw [if_neg c23] at H
         have c23b0 := beq_eq_false_iff_ne.mpr c23
         have c23b1 := bne_iff_ne.mpr c23
         obtain ⟨t620, A30, H⟩ := bS H
         try dsimp only at H
         by_cases c31 : ((rd_T45 l0 x10_2).f0) = 1
         ·rw [if_pos c31] at H
          have c31b0 := beq_iff_eq.mpr c31
          have c31b1 := bne_eq_false_iff_eq.mpr c31
          clear c31
          by_cases c32 : t620 < 0
          ·rw [if_pos c32] at H
           have c32b0 := decide_eq_true c32
           clear c32
           have H' := Aside0.mk H
           clear H
           have p615 : 0 ≤ (x10_2 : Int) := of_decide_eq_true (by first | (with_reducible assumption) | assumption)
           have q615 : x10_2 < (l0.length : Int) := of_decide_eq_true (by first | (with_reducible assumption) | assumption)
           obtain ⟨ad615, A615_3, c615_3, A615_4, c615_4, e615, hx615_0, hx615_1, hx615_2, hx615_3, hx615_4, hx615_5, hl615_3, hi615_3, hl615_4, hi615_4⟩ := at_T45 HR0.out x10_2 p615 q615
           cases e615
           replace hx615_0 := cl HB.out hx615_0
           replace hx615_1 := cl HB.out hx615_1
           replace hx615_2 := cl HB.out hx615_2
           replace hx615_3 := cl HB.out hx615_3
           replace hx615_4 := cl HB.out hx615_4
           replace hx615_5 := cl HB.out hx615_5
           have HR615_3 := Aside0.mk hi615_3
           have HC615_3 := Aside0.mk hl615_3
           clear hi615_3 hl615_3
           have HR615_4 := Aside0.mk hi615_4
           have HC615_4 := Aside0.mk hl615_4
           clear hi615_4 hl615_4
           replace p615 := eq_true p615
           replace q615 := eq_true q615
           go_wp2_with (first | ((with_reducible refine gate_dst (N := 11) rfl ?_); refine bx 11 #[.int .i64 0, .int .i64 0, .int .i64 0, .slice none 0 0, .slice none 0 0, .int .i64 0] 45 ?_; intro gb616 hg w33 hbox hb; replace HO_8 := Aside0.mk (rb HO_8.out hb); replace HO_9 := Aside0.mk (rb HO_9.out hb); have BK616 := Aside0.mk (hbox); have GW616 := Aside0.mk ((gz hg HB.out)); have IGW616 : Nonempty _ := ⟨GW616.out⟩; have GE616 := Aside0.mk ((gz hg HB.out)); have IGE616 : Nonempty _ := ⟨GE616.out⟩; replace HB := Aside0.mk (bj HB.out hb); have NB608_616 := Aside0.mk ((neL hg (lK BK608.out) : gb608 ≠ gb616)); have NB616_608 := Aside0.mk ((neG hg (lK BK608.out) : gb616 ≠ gb608)); replace BK608 := Aside0.mk (bb BK608.out hb); clear hb hbox hg; have hnb34 := NB616_608.out; have hnc34 := NB608_616.out; obtain ⟨hcz35_0, hcz35_1, hcz35_2, hcz35_3, hcz35_4, hcz35_5, hfz35_0, hfz35_1, hfz35_2, hfz35_3, hfz35_4, hfz35_5⟩ := cf6 BK616.out; obtain ⟨Ao36, co36, eo36⟩ := Kd.R_slice HO_8.out; subst eo36) | ((with_reducible refine gate_callee (f := 39) rfl ?_); refine gL (some 49) Try.func39 #[.agg #[.slice A615_3 ((rd_T45 l0 x10_2).f3.f0).length c615_3, .slice A615_4 ((rd_T45 l0 x10_2).f3.f1).length c615_4, .int .i64 ((rd_T45 l0 x10_2).f3.f2)], .slice Ao36 x8_2.length co36, .slice A2 l2.length c2] ?_; (with_reducible refine (impl_FrmForm_at.calls k2 _ _ ((rd_T45 l0 x10_2).f3.f0) _ _ ((rd_T45 l0 x10_2).f3.f1) ((rd_T45 l0 x10_2).f3.f2) _ _ x8_2 _ _ l2 t620 _ ?side1 ?side2 ?side3 ?side4 ?side5 ?side6 ?side7 ?side8 A30.out).mono ?_); (case side1 => exact Kd.C_below HR615_3.out (by exact jB HB.out)); (case side2 => exact HC615_3.out); (case side3 => exact Kd.C_below HR615_4.out (by exact jB HB.out)); (case side4 => exact HC615_4.out); (case side5 => refine (Kd.R_reads' (e := 3) (base := w.heap.size) (ok := fun k_ => some k_ ≠ (u9 : Value).ownBlock) (n := x8_2.length) (c := co36) ?_).2.2; exact (qp (R6 HO_8.out BK616.out))); (case side6 => exact (Kd.R_reads' HO_8.out).2.1); (case side7 => exact Kd.C_below HR2.out (by exact jB HB.out)); (case side8 => exact HC2.out); rintro e w37 ⟨rfl, hb⟩; refine ⟨_, rfl, ?_⟩; replace HO_8 := Aside0.mk (Kd.R_below (qp (R6 HO_8.out BK616.out)) hb); replace HO_9 := Aside0.mk (Kd.R_below (qp (R6 HO_9.out BK616.out)) hb); replace BK608 := Aside0.mk (blk_below (f6 (lK BK608.out) NB608_616.out) hb); replace BK616 := Aside0.mk (blk_below (g := gb616) (o := .cells #[.int .i64 ((rd_T45 l0 x10_2).f0), .int .i64 ((rd_T45 l0 x10_2).f1), .int .i64 ((rd_T45 l0 x10_2).f2), .slice A615_3 ((rd_T45 l0 x10_2).f3.f0).length c615_3, .slice A615_4 ((rd_T45 l0 x10_2).f3.f1).length c615_4, .int .i64 ((rd_T45 l0 x10_2).f3.f2)] 45 (0, 0)) (by exact p6 (lK BK616.out)) hb); replace HB := Aside0.mk (bj HB.out hb); (try clear hb); obtain ⟨hcz38_0, hcz38_1, hcz38_2, hcz38_3, hcz38_4, hcz38_5, hfz38_0, hfz38_1, hfz38_2, hfz38_3, hfz38_4, hfz38_5⟩ := cf6 BK616.out))
           go_roundg k2
           case measure => have := HJ3.out; have := HK2.out; omega
           case rel => exact ⟨(x8_2), (x9_2), (wrap64 ((wrap64 (x10_2 + ((rd_T45 l0 x10_2).f2))) + 1)), (x609000_2), (by first | rfl | (simp; done) | (simp [*]; done)), H', ⟨by have := HJ3.out; have := HK2.out; omega⟩, ⟨by exact lR <| HO_8.out⟩, ⟨by exact lR <| HO_9.out⟩, ⟨by exact lK <| BK608.out⟩, ⟨by exact jB HB.out⟩⟩
          ·rw [if_neg c32] at H
           have c32b0 := decide_eq_false c32
           clear c32
           have H' := Aside0.mk H
           clear H
           have p615 : 0 ≤ (x10_2 : Int) := of_decide_eq_true (by first | (with_reducible assumption) | assumption)
           have q615 : x10_2 < (l0.length : Int) := of_decide_eq_true (by first | (with_reducible assumption) | assumption)
           obtain ⟨ad615, A615_3, c615_3, A615_4, c615_4, e615, hx615_0, hx615_1, hx615_2, hx615_3, hx615_4, hx615_5, hl615_3, hi615_3, hl615_4, hi615_4⟩ := at_T45 HR0.out x10_2 p615 q615
           cases e615
           replace hx615_0 := cl HB.out hx615_0
           replace hx615_1 := cl HB.out hx615_1
           replace hx615_2 := cl HB.out hx615_2
           replace hx615_3 := cl HB.out hx615_3
           replace hx615_4 := cl HB.out hx615_4
           replace hx615_5 := cl HB.out hx615_5
           have HR615_3 := Aside0.mk hi615_3
           have HC615_3 := Aside0.mk hl615_3
           clear hi615_3 hl615_3
           have HR615_4 := Aside0.mk hi615_4
           have HC615_4 := Aside0.mk hl615_4
           clear hi615_4 hl615_4
           replace p615 := eq_true p615
           replace q615 := eq_true q615
           go_wp2_with (first | ((with_reducible refine gate_dst (N := 11) rfl ?_); refine bx 11 #[.int .i64 0, .int .i64 0, .int .i64 0, .slice none 0 0, .slice none 0 0, .int .i64 0] 45 ?_; intro gb616 hg w39 hbox hb; replace HO_8 := Aside0.mk (rb HO_8.out hb); replace HO_9 := Aside0.mk (rb HO_9.out hb); have BK616 := Aside0.mk (hbox); have GW616 := Aside0.mk ((gz hg HB.out)); have IGW616 : Nonempty _ := ⟨GW616.out⟩; have GE616 := Aside0.mk ((gz hg HB.out)); have IGE616 : Nonempty _ := ⟨GE616.out⟩; replace HB := Aside0.mk (bj HB.out hb); have NB608_616 := Aside0.mk ((neL hg (lK BK608.out) : gb608 ≠ gb616)); have NB616_608 := Aside0.mk ((neG hg (lK BK608.out) : gb616 ≠ gb608)); replace BK608 := Aside0.mk (bb BK608.out hb); clear hb hbox hg; have hnb40 := NB616_608.out; have hnc40 := NB608_616.out; obtain ⟨hcz41_0, hcz41_1, hcz41_2, hcz41_3, hcz41_4, hcz41_5, hfz41_0, hfz41_1, hfz41_2, hfz41_3, hfz41_4, hfz41_5⟩ := cf6 BK616.out; obtain ⟨Ao42, co42, eo42⟩ := Kd.R_slice HO_8.out; subst eo42) | ((with_reducible refine gate_callee (f := 39) rfl ?_); refine gL (some 49) Try.func39 #[.agg #[.slice A615_3 ((rd_T45 l0 x10_2).f3.f0).length c615_3, .slice A615_4 ((rd_T45 l0 x10_2).f3.f1).length c615_4, .int .i64 ((rd_T45 l0 x10_2).f3.f2)], .slice Ao42 x8_2.length co42, .slice A2 l2.length c2] ?_; (with_reducible refine (impl_FrmForm_at.calls k2 _ _ ((rd_T45 l0 x10_2).f3.f0) _ _ ((rd_T45 l0 x10_2).f3.f1) ((rd_T45 l0 x10_2).f3.f2) _ _ x8_2 _ _ l2 t620 _ ?side1 ?side2 ?side3 ?side4 ?side5 ?side6 ?side7 ?side8 A30.out).mono ?_); (case side1 => exact Kd.C_below HR615_3.out (by exact jB HB.out)); (case side2 => exact HC615_3.out); (case side3 => exact Kd.C_below HR615_4.out (by exact jB HB.out)); (case side4 => exact HC615_4.out); (case side5 => refine (Kd.R_reads' (e := 3) (base := w.heap.size) (ok := fun k_ => some k_ ≠ (u9 : Value).ownBlock) (n := x8_2.length) (c := co42) ?_).2.2; exact (qp (R6 HO_8.out BK616.out))); (case side6 => exact (Kd.R_reads' HO_8.out).2.1); (case side7 => exact Kd.C_below HR2.out (by exact jB HB.out)); (case side8 => exact HC2.out); rintro e w43 ⟨rfl, hb⟩; refine ⟨_, rfl, ?_⟩; replace HO_8 := Aside0.mk (Kd.R_below (qp (R6 HO_8.out BK616.out)) hb); replace HO_9 := Aside0.mk (Kd.R_below (qp (R6 HO_9.out BK616.out)) hb); replace BK608 := Aside0.mk (blk_below (f6 (lK BK608.out) NB608_616.out) hb); replace BK616 := Aside0.mk (blk_below (g := gb616) (o := .cells #[.int .i64 ((rd_T45 l0 x10_2).f0), .int .i64 ((rd_T45 l0 x10_2).f1), .int .i64 ((rd_T45 l0 x10_2).f2), .slice A615_3 ((rd_T45 l0 x10_2).f3.f0).length c615_3, .slice A615_4 ((rd_T45 l0 x10_2).f3.f1).length c615_4, .int .i64 ((rd_T45 l0 x10_2).f3.f2)] 45 (0, 0)) (by exact p6 (lK BK616.out)) hb); replace HB := Aside0.mk (bj HB.out hb); (try clear hb); obtain ⟨hcz44_0, hcz44_1, hcz44_2, hcz44_3, hcz44_4, hcz44_5, hfz44_0, hfz44_1, hfz44_2, hfz44_3, hfz44_4, hfz44_5⟩ := cf6 BK616.out))
           go_roundg k2
           case measure => have := HJ3.out; have := HK2.out; omega
           case rel => exact ⟨(x8_2), (x9_2), (wrap64 (x10_2 + 1)), (x609000_2), (by first | rfl | (simp; done) | (simp [*]; done)), H', ⟨by have := HJ3.out; have := HK2.out; omega⟩, ⟨by exact lR <| HO_8.out⟩, ⟨by exact lR <| HO_9.out⟩, ⟨by exact lK <| BK608.out⟩, ⟨by exact jB HB.out⟩⟩
         ·rw [if_neg c31] at H
          have c31b0 := beq_eq_false_iff_ne.mpr c31
          have c31b1 := bne_iff_ne.mpr c31
          by_cases c45 : ((rd_T45 l0 x10_2).f0) = 2
          ·rw [if_pos c45] at H
           have c45b0 := beq_iff_eq.mpr c45
           have c45b1 := bne_eq_false_iff_eq.mpr c45
           clear c45
           by_cases c46 : 0 ≤ ((rd_T45 l0 x10_2).f1)
           ·rw [if_pos c46] at H
            have c46b0 := decide_eq_true c46
            clear c46
            by_cases c47 : ((rd_T45 l0 x10_2).f1) < (x8_2.length : Int)
            ·rw [if_pos c47] at H
             have c47b0 := decide_eq_true c47
             clear c47
             obtain ⟨y622, hy622⟩ : ∃ y_ : List Int, y_ = (x8_2.set (((rd_T45 l0 x10_2).f1) : Int).toNat (wrap64 ((rd x8_2 ((rd_T45 l0 x10_2).f1)) + t620))) := ⟨_, rfl⟩
             replace H : (impl_ActRun.l0 k2 l0 l1 l2 y622 x9_2 (wrap64 (x10_2 + 1))) = some (r1, r2, r3) := by first | (rw [hy622]; exact H) | exact H
             have Ny622 := Aside0.mk hy622
             clear hy622
             have H' := Aside0.mk H
             clear H
             have p615 : 0 ≤ (x10_2 : Int) := of_decide_eq_true (by first | (with_reducible assumption) | assumption)
             have q615 : x10_2 < (l0.length : Int) := of_decide_eq_true (by first | (with_reducible assumption) | assumption)
             obtain ⟨ad615, A615_3, c615_3, A615_4, c615_4, e615, hx615_0, hx615_1, hx615_2, hx615_3, hx615_4, hx615_5, hl615_3, hi615_3, hl615_4, hi615_4⟩ := at_T45 HR0.out x10_2 p615 q615
             cases e615
             replace hx615_0 := cl HB.out hx615_0
             replace hx615_1 := cl HB.out hx615_1
             replace hx615_2 := cl HB.out hx615_2
             replace hx615_3 := cl HB.out hx615_3
             replace hx615_4 := cl HB.out hx615_4
             replace hx615_5 := cl HB.out hx615_5
             have HR615_3 := Aside0.mk hi615_3
             have HC615_3 := Aside0.mk hl615_3
             clear hi615_3 hl615_3
             have HR615_4 := Aside0.mk hi615_4
             have HC615_4 := Aside0.mk hl615_4
             clear hi615_4 hl615_4
             replace p615 := eq_true p615
             replace q615 := eq_true q615
             go_wp2_with (first | ((with_reducible refine gate_dst (N := 11) rfl ?_); refine bx 11 #[.int .i64 0, .int .i64 0, .int .i64 0, .slice none 0 0, .slice none 0 0, .int .i64 0] 45 ?_; intro gb616 hg w49 hbox hb; replace HO_8 := Aside0.mk (rb HO_8.out hb); replace HO_9 := Aside0.mk (rb HO_9.out hb); have BK616 := Aside0.mk (hbox); have GW616 := Aside0.mk ((gz hg HB.out)); have IGW616 : Nonempty _ := ⟨GW616.out⟩; have GE616 := Aside0.mk ((gz hg HB.out)); have IGE616 : Nonempty _ := ⟨GE616.out⟩; replace HB := Aside0.mk (bj HB.out hb); have NB608_616 := Aside0.mk ((neL hg (lK BK608.out) : gb608 ≠ gb616)); have NB616_608 := Aside0.mk ((neG hg (lK BK608.out) : gb616 ≠ gb608)); replace BK608 := Aside0.mk (bb BK608.out hb); clear hb hbox hg; have hnb50 := NB616_608.out; have hnc50 := NB608_616.out; obtain ⟨hcz51_0, hcz51_1, hcz51_2, hcz51_3, hcz51_4, hcz51_5, hfz51_0, hfz51_1, hfz51_2, hfz51_3, hfz51_4, hfz51_5⟩ := cf6 BK616.out; obtain ⟨Ao52, co52, eo52⟩ := Kd.R_slice HO_8.out; subst eo52) | ((with_reducible refine gate_callee (f := 39) rfl ?_); refine gL (some 49) Try.func39 #[.agg #[.slice A615_3 ((rd_T45 l0 x10_2).f3.f0).length c615_3, .slice A615_4 ((rd_T45 l0 x10_2).f3.f1).length c615_4, .int .i64 ((rd_T45 l0 x10_2).f3.f2)], .slice Ao52 x8_2.length co52, .slice A2 l2.length c2] ?_; (with_reducible refine (impl_FrmForm_at.calls k2 _ _ ((rd_T45 l0 x10_2).f3.f0) _ _ ((rd_T45 l0 x10_2).f3.f1) ((rd_T45 l0 x10_2).f3.f2) _ _ x8_2 _ _ l2 t620 _ ?side1 ?side2 ?side3 ?side4 ?side5 ?side6 ?side7 ?side8 A30.out).mono ?_); (case side1 => exact Kd.C_below HR615_3.out (by exact jB HB.out)); (case side2 => exact HC615_3.out); (case side3 => exact Kd.C_below HR615_4.out (by exact jB HB.out)); (case side4 => exact HC615_4.out); (case side5 => refine (Kd.R_reads' (e := 3) (base := w.heap.size) (ok := fun k_ => some k_ ≠ (u9 : Value).ownBlock) (n := x8_2.length) (c := co52) ?_).2.2; exact (qp (R6 HO_8.out BK616.out))); (case side6 => exact (Kd.R_reads' HO_8.out).2.1); (case side7 => exact Kd.C_below HR2.out (by exact jB HB.out)); (case side8 => exact HC2.out); rintro e w53 ⟨rfl, hb⟩; refine ⟨_, rfl, ?_⟩; replace HO_8 := Aside0.mk (Kd.R_below (qp (R6 HO_8.out BK616.out)) hb); replace HO_9 := Aside0.mk (Kd.R_below (qp (R6 HO_9.out BK616.out)) hb); replace BK608 := Aside0.mk (blk_below (f6 (lK BK608.out) NB608_616.out) hb); replace BK616 := Aside0.mk (blk_below (g := gb616) (o := .cells #[.int .i64 ((rd_T45 l0 x10_2).f0), .int .i64 ((rd_T45 l0 x10_2).f1), .int .i64 ((rd_T45 l0 x10_2).f2), .slice A615_3 ((rd_T45 l0 x10_2).f3.f0).length c615_3, .slice A615_4 ((rd_T45 l0 x10_2).f3.f1).length c615_4, .int .i64 ((rd_T45 l0 x10_2).f3.f2)] 45 (0, 0)) (by exact p6 (lK BK616.out)) hb); replace HB := Aside0.mk (bj HB.out hb); (try clear hb); obtain ⟨hcz54_0, hcz54_1, hcz54_2, hcz54_3, hcz54_4, hcz54_5, hfz54_0, hfz54_1, hfz54_2, hfz54_3, hfz54_4, hfz54_5⟩ := cf6 BK616.out; have p621 : 0 ≤ (((rd_T45 l0 x10_2).f1) : Int) := of_decide_eq_true (by first | (with_reducible assumption) | assumption); have q621 : ((rd_T45 l0 x10_2).f1) < (x8_2.length : Int) := of_decide_eq_true (by first | (with_reducible assumption) | assumption); obtain ⟨ad621, e621, hx621_0⟩ := Kd.at_int (Kd.R_reads' HO_8.out).2.2 ((rd_T45 l0 x10_2).f1) p621 q621; cases e621; replace p621 := eq_true p621; replace q621 := eq_true q621; have p48 : 0 ≤ (((rd_T45 l0 x10_2).f1) : Int) := of_decide_eq_true (by first | (with_reducible assumption) | assumption); have q48 : (((rd_T45 l0 x10_2).f1) : Int) < ((x8_2.length : Int) : Int) := of_decide_eq_true (by first | (with_reducible assumption) | assumption); obtain ⟨go48, co48, eo48, gb48, gl48, cl48, HG48⟩ := Kd.R_form HO_8.out (by omega); (first | cases eo48 | (injection eo48 with ea_ en_ ec_; (first | subst ea_ | (injection ea_ with ea_; subst ea_)); subst ec_; clear en_)); have GB48 := Aside0.mk gb48; have IGB48 : Nonempty _ := ⟨GB48.out⟩; have GG48 := Aside0.mk HG48; clear gb48 gl48 HG48; (first | simp only [add_plain] at hx621_0 | skip); obtain ⟨hx48_0, hf48_0⟩ := Kd.R_celln 0 HO_8.out (((rd_T45 l0 x10_2).f1) : Int) p48 q48; replace p48 := eq_true p48; replace q48 := eq_true q48; obtain ⟨hy55_, hz55_⟩ := Kd.R_celln 0 HO_8.out (((rd_T45 l0 x10_2).f1) : Int) (of_decide_eq_true (by first | (with_reducible assumption) | assumption)) (of_decide_eq_true (by first | (with_reducible assumption) | assumption)); have HP55 := Kd.R_putg HO_8.out (((rd_T45 l0 x10_2).f1) : Int) (wrap64 ((rd x8_2 ((rd_T45 l0 x10_2).f1)) + t620))) | ((with_reducible refine gate_store (t := 3) (p := 69) rfl ?_); refine store_event (t := 3) (p := 69) (v := ?vo_w56) (w1 := (w53.setCell ⟨go48, (((rd_T45 l0 x10_2).f1) : Int).toNat, none⟩ (.int .i64 (wrap64 ((rd x8_2 ((rd_T45 l0 x10_2).f1)) + t620))))) ?hg ?ho ?hn ?hr ?_; (case ho => rfl); (case hg => rfl); (case hn => rfl); (case hr => first | (go_simp; done) | (go_simp; rfl)); intro w56 hw; have hg : w53.grownBy w56 (some go48) := (by rw [hw]; exact HP55.2); have hp_ : Kd.R (Kd.int .i64) 3 w56 w.heap.size (fun k_ => some k_ ≠ (u9 : Value).ownBlock) (.slice (some ⟨go48, 0, none⟩) x8_2.length co52) y622 := (by rw [hw, Ny622.out]; exact HP55.1); clear HP55; replace HO_9 := Aside0.mk (Kd.R_after (v := (.slice (some ⟨go48, 0, none⟩) x8_2.length co52)) (v1 := (.slice (some ⟨go48, 0, none⟩) x8_2.length co52)) (ok := (fun _ => True)) (by exact lR <| Kd.R_mono HO_9.out (fun _ hk => ⟨trivial, hk⟩)) hg (.inl rfl)); replace BK608 := Aside0.mk (blk_grown (g := gb608) (o := .cells #[.int .i64 x609000_2, .slice none 0 0] 37 (0, 0)) (by exact lK BK608.out) hg (Kd.R_ne HO_8.out BK608.out (by decide))); replace BK616 := Aside0.mk (blk_grown (g := gb616) (o := .cells #[.int .i64 ((rd_T45 l0 x10_2).f0), .int .i64 ((rd_T45 l0 x10_2).f1), .int .i64 ((rd_T45 l0 x10_2).f2), .slice A615_3 ((rd_T45 l0 x10_2).f3.f0).length c615_3, .slice A615_4 ((rd_T45 l0 x10_2).f3.f1).length c615_4, .int .i64 ((rd_T45 l0 x10_2).f3.f2)] 45 (0, 0)) (by exact lK BK616.out) hg (Kd.R_ne HO_8.out BK616.out (by decide))); replace HO_8 := Aside0.mk (hp_); replace HB := Aside0.mk ((by rw [hw]; exact below_set (HB.out) GB48.out : Below w.heap.size w w56)); clear hg hw hp_))
             go_roundg k2
             case measure => have := HJ3.out; have := HK2.out; omega
             case rel => exact ⟨(y622), (x9_2), (wrap64 (x10_2 + 1)), (x609000_2), (by first | rfl | (simp; done) | (simp [*]; done)), H', ⟨by have := HJ3.out; have := HK2.out; omega⟩, ⟨by exact lR <| HO_8.out⟩, ⟨by exact lR <| Kd.R_mono HO_9.out (fun _ hk => hk.2)⟩, ⟨by exact lK <| BK608.out⟩, ⟨by exact jB HB.out⟩⟩
            ·rw [if_neg c47] at H
             exact absurd H (by simp)
           ·rw [if_neg c46] at H
            exact absurd H (by simp)
          ·rw [if_neg c45] at H
           have c45b0 := beq_eq_false_iff_ne.mpr c45
           have c45b1 := bne_iff_ne.mpr c45
           by_cases c57 : ((rd_T45 l0 x10_2).f0) = 3
           ·rw [if_pos c57] at H
            have c57b0 := beq_iff_eq.mpr c57
            have c57b1 := bne_eq_false_iff_eq.mpr c57
            clear c57
            by_cases c58 : x9_2.length < 17592186044416
            ·rw [if_pos c58] at H
             have LMc58 := Aside0.mk c58
             clear c58
             obtain ⟨y623, hy623⟩ : ∃ y_ : List Int, y_ = (x9_2 ++ [t620]) := ⟨_, rfl⟩
             replace H : (impl_ActRun.l0 k2 l0 l1 l2 x8_2 y623 (wrap64 (x10_2 + 1))) = some (r1, r2, r3) := by first | (rw [hy623]; exact H) | exact H
             have Ny623 := Aside0.mk hy623
             clear hy623
             have H' := Aside0.mk H
             clear H
             have p615 : 0 ≤ (x10_2 : Int) := of_decide_eq_true (by first | (with_reducible assumption) | assumption)
             have q615 : x10_2 < (l0.length : Int) := of_decide_eq_true (by first | (with_reducible assumption) | assumption)
             obtain ⟨ad615, A615_3, c615_3, A615_4, c615_4, e615, hx615_0, hx615_1, hx615_2, hx615_3, hx615_4, hx615_5, hl615_3, hi615_3, hl615_4, hi615_4⟩ := at_T45 HR0.out x10_2 p615 q615
             cases e615
             replace hx615_0 := cl HB.out hx615_0
             replace hx615_1 := cl HB.out hx615_1
             replace hx615_2 := cl HB.out hx615_2
             replace hx615_3 := cl HB.out hx615_3
             replace hx615_4 := cl HB.out hx615_4
             replace hx615_5 := cl HB.out hx615_5
             have HR615_3 := Aside0.mk hi615_3
             have HC615_3 := Aside0.mk hl615_3
             clear hi615_3 hl615_3
             have HR615_4 := Aside0.mk hi615_4
             have HC615_4 := Aside0.mk hl615_4
             clear hi615_4 hl615_4
             replace p615 := eq_true p615
             replace q615 := eq_true q615
             go_wp2_with (first | ((with_reducible refine gate_dst (N := 11) rfl ?_); refine bx 11 #[.int .i64 0, .int .i64 0, .int .i64 0, .slice none 0 0, .slice none 0 0, .int .i64 0] 45 ?_; intro gb616 hg w59 hbox hb; replace HO_8 := Aside0.mk (rb HO_8.out hb); replace HO_9 := Aside0.mk (rb HO_9.out hb); have BK616 := Aside0.mk (hbox); have GW616 := Aside0.mk ((gz hg HB.out)); have IGW616 : Nonempty _ := ⟨GW616.out⟩; have GE616 := Aside0.mk ((gz hg HB.out)); have IGE616 : Nonempty _ := ⟨GE616.out⟩; replace HB := Aside0.mk (bj HB.out hb); have NB608_616 := Aside0.mk ((neL hg (lK BK608.out) : gb608 ≠ gb616)); have NB616_608 := Aside0.mk ((neG hg (lK BK608.out) : gb616 ≠ gb608)); replace BK608 := Aside0.mk (bb BK608.out hb); clear hb hbox hg; have hnb60 := NB616_608.out; have hnc60 := NB608_616.out; obtain ⟨hcz61_0, hcz61_1, hcz61_2, hcz61_3, hcz61_4, hcz61_5, hfz61_0, hfz61_1, hfz61_2, hfz61_3, hfz61_4, hfz61_5⟩ := cf6 BK616.out; obtain ⟨Ao62, co62, eo62⟩ := Kd.R_slice HO_8.out; subst eo62) | ((with_reducible refine gate_callee (f := 39) rfl ?_); refine gL (some 49) Try.func39 #[.agg #[.slice A615_3 ((rd_T45 l0 x10_2).f3.f0).length c615_3, .slice A615_4 ((rd_T45 l0 x10_2).f3.f1).length c615_4, .int .i64 ((rd_T45 l0 x10_2).f3.f2)], .slice Ao62 x8_2.length co62, .slice A2 l2.length c2] ?_; (with_reducible refine (impl_FrmForm_at.calls k2 _ _ ((rd_T45 l0 x10_2).f3.f0) _ _ ((rd_T45 l0 x10_2).f3.f1) ((rd_T45 l0 x10_2).f3.f2) _ _ x8_2 _ _ l2 t620 _ ?side1 ?side2 ?side3 ?side4 ?side5 ?side6 ?side7 ?side8 A30.out).mono ?_); (case side1 => exact Kd.C_below HR615_3.out (by exact jB HB.out)); (case side2 => exact HC615_3.out); (case side3 => exact Kd.C_below HR615_4.out (by exact jB HB.out)); (case side4 => exact HC615_4.out); (case side5 => refine (Kd.R_reads' (e := 3) (base := w.heap.size) (ok := fun k_ => some k_ ≠ (u9 : Value).ownBlock) (n := x8_2.length) (c := co62) ?_).2.2; exact (qp (R6 HO_8.out BK616.out))); (case side6 => exact (Kd.R_reads' HO_8.out).2.1); (case side7 => exact Kd.C_below HR2.out (by exact jB HB.out)); (case side8 => exact HC2.out); rintro e w63 ⟨rfl, hb⟩; refine ⟨_, rfl, ?_⟩; replace HO_8 := Aside0.mk (Kd.R_below (qp (R6 HO_8.out BK616.out)) hb); replace HO_9 := Aside0.mk (Kd.R_below (qp (R6 HO_9.out BK616.out)) hb); replace BK608 := Aside0.mk (blk_below (f6 (lK BK608.out) NB608_616.out) hb); replace BK616 := Aside0.mk (blk_below (g := gb616) (o := .cells #[.int .i64 ((rd_T45 l0 x10_2).f0), .int .i64 ((rd_T45 l0 x10_2).f1), .int .i64 ((rd_T45 l0 x10_2).f2), .slice A615_3 ((rd_T45 l0 x10_2).f3.f0).length c615_3, .slice A615_4 ((rd_T45 l0 x10_2).f3.f1).length c615_4, .int .i64 ((rd_T45 l0 x10_2).f3.f2)] 45 (0, 0)) (by exact p6 (lK BK616.out)) hb); replace HB := Aside0.mk (bj HB.out hb); (try clear hb); obtain ⟨hcz64_0, hcz64_1, hcz64_2, hcz64_3, hcz64_4, hcz64_5, hfz64_0, hfz64_1, hfz64_2, hfz64_3, hfz64_4, hfz64_5⟩ := cf6 BK616.out) | ((with_reducible refine gate_builtin (b := .append) (xs := #[.tmp 72, .tmp 74]) rfl ?_); at_builtin; refine Kd.R_append (Kd.int .i64) (w0 := w) w.heap.size rfl (.tmp 72) (.tmp 74) 24 3 (.int .i64 0) 8 rfl Try.underlying24 info3 rfl (by decide) (by omega) u9 x9_2 t620 [.int .i64 t620] (fun k_ => some k_ ≠ ownBlock (.slice Ao62 x8_2.length co62)) (fun _ => False) rfl rfl ?aP (fun _ hk => hk.elim) ?aF ?aO ?aB ?aS ?aL ?_; (case aP => exact rfl); (case aB => exact (by exact jB HB.out)); (case aF => exact (fun k_ hk => Kd.fresh' (rl HO_8.out) k_ hk)); (case aO => exact (by exact lR HO_9.out)); (case aS => exact (below_size (by exact jB HB.out))); (case aL => have := LMc58.out; omega); intro v624 w65 ho hb hg hat; rw [← Ny623.out] at ho; replace HO_8 := Aside0.mk (Kd.R_after (ok := (fun _ => True)) (by exact lR <| Kd.R_mono HO_8.out (fun _ hk => ⟨trivial, hk⟩)) hg hat); replace BK608 := Aside0.mk (blk_grown (g := gb608) (o := .cells #[.int .i64 x609000_2, .slice none 0 0] 37 (0, 0)) (by exact lK BK608.out) hg (Kd.R_ne HO_9.out BK608.out (by decide))); replace BK616 := Aside0.mk (blk_grown (g := gb616) (o := .cells #[.int .i64 ((rd_T45 l0 x10_2).f0), .int .i64 ((rd_T45 l0 x10_2).f1), .int .i64 ((rd_T45 l0 x10_2).f2), .slice A615_3 ((rd_T45 l0 x10_2).f3.f0).length c615_3, .slice A615_4 ((rd_T45 l0 x10_2).f3.f1).length c615_4, .int .i64 ((rd_T45 l0 x10_2).f3.f2)] 45 (0, 0)) (by exact lK BK616.out) hg (Kd.R_ne HO_9.out BK616.out (by decide))); replace HB := Aside0.mk (hb); have HO625 := Aside0.mk (ho); clear HO_9 ho hb hg hat))
             go_roundg k2
             case measure => have := HJ3.out; have := HK2.out; omega
             case rel => exact ⟨(x8_2), (y623), (wrap64 (x10_2 + 1)), (x609000_2), (by first | rfl | (simp; done) | (simp [*]; done)), H', ⟨by have := HJ3.out; have := HK2.out; omega⟩, ⟨by exact lR <| Kd.R_mono HO_8.out (fun _ hk => hk.2)⟩, ⟨by exact lR <| HO625.out⟩, ⟨by exact lK <| BK608.out⟩, ⟨by exact jB HB.out⟩⟩
            ·rw [if_neg c58] at H
             exact absurd H (by simp)
           ·rw [if_neg c57] at H
            have c57b0 := beq_eq_false_iff_ne.mpr c57
            have c57b1 := bne_iff_ne.mpr c57
            have H' := Aside0.mk H
            clear H
            have p615 : 0 ≤ (x10_2 : Int) := of_decide_eq_true (by first | (with_reducible assumption) | assumption)
            have q615 : x10_2 < (l0.length : Int) := of_decide_eq_true (by first | (with_reducible assumption) | assumption)
            obtain ⟨ad615, A615_3, c615_3, A615_4, c615_4, e615, hx615_0, hx615_1, hx615_2, hx615_3, hx615_4, hx615_5, hl615_3, hi615_3, hl615_4, hi615_4⟩ := at_T45 HR0.out x10_2 p615 q615
            cases e615
            replace hx615_0 := cl HB.out hx615_0
            replace hx615_1 := cl HB.out hx615_1
            replace hx615_2 := cl HB.out hx615_2
            replace hx615_3 := cl HB.out hx615_3
            replace hx615_4 := cl HB.out hx615_4
            replace hx615_5 := cl HB.out hx615_5
            have HR615_3 := Aside0.mk hi615_3
            have HC615_3 := Aside0.mk hl615_3
            clear hi615_3 hl615_3
            have HR615_4 := Aside0.mk hi615_4
            have HC615_4 := Aside0.mk hl615_4
            clear hi615_4 hl615_4
            replace p615 := eq_true p615
            replace q615 := eq_true q615
            go_wp2_with (first | ((with_reducible refine gate_dst (N := 11) rfl ?_); refine bx 11 #[.int .i64 0, .int .i64 0, .int .i64 0, .slice none 0 0, .slice none 0 0, .int .i64 0] 45 ?_; intro gb616 hg w66 hbox hb; replace HO_8 := Aside0.mk (rb HO_8.out hb); replace HO_9 := Aside0.mk (rb HO_9.out hb); have BK616 := Aside0.mk (hbox); have GW616 := Aside0.mk ((gz hg HB.out)); have IGW616 : Nonempty _ := ⟨GW616.out⟩; have GE616 := Aside0.mk ((gz hg HB.out)); have IGE616 : Nonempty _ := ⟨GE616.out⟩; replace HB := Aside0.mk (bj HB.out hb); have NB608_616 := Aside0.mk ((neL hg (lK BK608.out) : gb608 ≠ gb616)); have NB616_608 := Aside0.mk ((neG hg (lK BK608.out) : gb616 ≠ gb608)); replace BK608 := Aside0.mk (bb BK608.out hb); clear hb hbox hg; have hnb67 := NB616_608.out; have hnc67 := NB608_616.out; obtain ⟨hcz68_0, hcz68_1, hcz68_2, hcz68_3, hcz68_4, hcz68_5, hfz68_0, hfz68_1, hfz68_2, hfz68_3, hfz68_4, hfz68_5⟩ := cf6 BK616.out; obtain ⟨Ao69, co69, eo69⟩ := Kd.R_slice HO_8.out; subst eo69) | ((with_reducible refine gate_callee (f := 39) rfl ?_); refine gL (some 49) Try.func39 #[.agg #[.slice A615_3 ((rd_T45 l0 x10_2).f3.f0).length c615_3, .slice A615_4 ((rd_T45 l0 x10_2).f3.f1).length c615_4, .int .i64 ((rd_T45 l0 x10_2).f3.f2)], .slice Ao69 x8_2.length co69, .slice A2 l2.length c2] ?_; (with_reducible refine (impl_FrmForm_at.calls k2 _ _ ((rd_T45 l0 x10_2).f3.f0) _ _ ((rd_T45 l0 x10_2).f3.f1) ((rd_T45 l0 x10_2).f3.f2) _ _ x8_2 _ _ l2 t620 _ ?side1 ?side2 ?side3 ?side4 ?side5 ?side6 ?side7 ?side8 A30.out).mono ?_); (case side1 => exact Kd.C_below HR615_3.out (by exact jB HB.out)); (case side2 => exact HC615_3.out); (case side3 => exact Kd.C_below HR615_4.out (by exact jB HB.out)); (case side4 => exact HC615_4.out); (case side5 => refine (Kd.R_reads' (e := 3) (base := w.heap.size) (ok := fun k_ => some k_ ≠ (u9 : Value).ownBlock) (n := x8_2.length) (c := co69) ?_).2.2; exact (qp (R6 HO_8.out BK616.out))); (case side6 => exact (Kd.R_reads' HO_8.out).2.1); (case side7 => exact Kd.C_below HR2.out (by exact jB HB.out)); (case side8 => exact HC2.out); rintro e w70 ⟨rfl, hb⟩; refine ⟨_, rfl, ?_⟩; replace HO_8 := Aside0.mk (Kd.R_below (qp (R6 HO_8.out BK616.out)) hb); replace HO_9 := Aside0.mk (Kd.R_below (qp (R6 HO_9.out BK616.out)) hb); replace BK608 := Aside0.mk (blk_below (f6 (lK BK608.out) NB608_616.out) hb); replace BK616 := Aside0.mk (blk_below (g := gb616) (o := .cells #[.int .i64 ((rd_T45 l0 x10_2).f0), .int .i64 ((rd_T45 l0 x10_2).f1), .int .i64 ((rd_T45 l0 x10_2).f2), .slice A615_3 ((rd_T45 l0 x10_2).f3.f0).length c615_3, .slice A615_4 ((rd_T45 l0 x10_2).f3.f1).length c615_4, .int .i64 ((rd_T45 l0 x10_2).f3.f2)] 45 (0, 0)) (by exact p6 (lK BK616.out)) hb); replace HB := Aside0.mk (bj HB.out hb); (try clear hb); obtain ⟨hcz71_0, hcz71_1, hcz71_2, hcz71_3, hcz71_4, hcz71_5, hfz71_0, hfz71_1, hfz71_2, hfz71_3, hfz71_4, hfz71_5⟩ := cf6 BK616.out))
            go_roundg k2
            case measure => have := HJ3.out; have := HK2.out; omega
            case rel => exact ⟨(x8_2), (x9_2), (wrap64 (x10_2 + 1)), (x609000_2), (by first | rfl | (simp; done) | (simp [*]; done)), H', ⟨by have := HJ3.out; have := HK2.out; omega⟩, ⟨by exact lR <| HO_8.out⟩, ⟨by exact lR <| HO_9.out⟩, ⟨by exact lK <| BK608.out⟩, ⟨by exact jB HB.out⟩⟩
       ·rw [if_neg c22] at H
        exact absurd H (by simp)
      ·rw [if_neg c21] at H
       have c21b0 := decide_eq_false c21
       clear c21
       obtain ⟨t626, A72, H⟩ := bS H
       try dsimp only at H
       by_cases c73 : t626 = true
       ·subst c73
        have H1 : (some (1, x9_2, x8_2)) = some (r1, r2, r3) := by rw [if_pos rfl] at H; exact H
        clear H
        have H := H1
        clear H1
        simp only [Option.some.injEq, Prod.mk.injEq] at H
        obtain ⟨rfl, rfl, rfl⟩ := H
        obtain ⟨Ao74, co74, eo74⟩ := Kd.R_slice HO_8.out
        subst eo74
        go_wp2_with (first | ((with_reducible refine gate_callee (f := 36) rfl ?_); refine gL (some 77) Try.func36 #[.slice Ao74 x8_2.length co74] ?_; (with_reducible refine (impl_ValOk.calls _ _ x8_2 true _ ?side1 ?side2 A72.out).mono ?_); (case side1 => exact lC <| (Kd.R_reads' HO_8.out).2.2); (case side2 => exact (Kd.R_reads' HO_8.out).2.1); rintro e w75 ⟨rfl, hb⟩; refine ⟨_, rfl, ?_⟩; replace HO_8 := Aside0.mk (rb HO_8.out hb); replace HO_9 := Aside0.mk (rb HO_9.out hb); replace BK608 := Aside0.mk (bb BK608.out hb); replace HB := Aside0.mk (bj HB.out hb); (try clear hb); obtain ⟨Ao76, co76, eo76⟩ := Kd.R_slice HO_9.out; subst eo76; obtain ⟨hcz77_0, hcz77_1, hfz77_0, hfz77_1⟩ := cf2 BK608.out))
        refine bodyPost_ret (results_ct rfl _ _ gb608 37 #[.int .i64 1, .slice Ao76 x9_2.length co76] (0, 0) _ rfl (by exact p2 (lK BK608.out)) Try.underlying37 rfl (by kernel_rfl)) rfl ?_
        exact ⟨_, _, by first | rfl | (simp [errW_none, errW_some] <;> rfl) | (simp [*, errW_none, errW_some] <;> rfl), by exact lR <| Kd.R_mono (Kd.R_far (p := ⟨gb608, 1, none⟩) (Kd.R_far (p := ⟨gb608, 0, none⟩) (Kd.R_types HO_9.out BK608.out (by decide)) (fun _ hk => by first | exact hk.2 | exact fun e_ => hk.2 (e_.trans (ob _ _ _ _))) (.int .i64 1)) (fun _ hk => by first | exact hk.2 | exact fun e_ => hk.2 (e_.trans (ob _ _ _ _))) (.slice Ao76 x9_2.length co76)) (fun _ hk => by first | exact hk.1 | exact fun e_ => hk.1 (e_.trans (ob _ _ _ _))), by exact lR <| Kd.R_mono (Kd.R_far (p := ⟨gb608, 1, none⟩) (Kd.R_far (p := ⟨gb608, 0, none⟩) (Kd.R_types HO_8.out BK608.out (by decide)) (fun _ hk => by first | exact hk.2 | exact fun e_ => hk.2 (e_.trans (ob _ _ _ _))) (.int .i64 1)) (fun _ hk => by first | exact hk.2 | exact fun e_ => hk.2 (e_.trans (ob _ _ _ _))) (.slice Ao76 x9_2.length co76)) (fun _ hk => by first | exact hk.1 | exact fun e_ => hk.1 (e_.trans (ob _ _ _ _))), by exact jB HB.out⟩
       ·replace c73 := Bool.eq_false_iff.mpr c73
        subst c73
        have H1 : ((slices_Clone_int_int.f l1).bind fun t627 => (some (3, ([] : List Int), t627))) = some (r1, r2, r3) := by rw [if_neg (show ¬ (false = true) by decide)] at H; exact H
        clear H
        have H := H1
        clear H1
        obtain ⟨t627, A78, H⟩ := bS H
        try dsimp only at H
        simp only [Option.some.injEq, Prod.mk.injEq] at H
        obtain ⟨rfl, rfl, rfl⟩ := H
        obtain ⟨Ao79, co79, eo79⟩ := Kd.R_slice HO_8.out
        subst eo79
        go_wp2_with (first | ((with_reducible refine gate_callee (f := 36) rfl ?_); refine gL (some 77) Try.func36 #[.slice Ao79 x8_2.length co79] ?_; (with_reducible refine (impl_ValOk.calls _ _ x8_2 false _ ?side1 ?side2 A72.out).mono ?_); (case side1 => exact lC <| (Kd.R_reads' HO_8.out).2.2); (case side2 => exact (Kd.R_reads' HO_8.out).2.1); rintro e w80 ⟨rfl, hb⟩; refine ⟨_, rfl, ?_⟩; replace HO_8 := Aside0.mk (rb HO_8.out hb); replace HO_9 := Aside0.mk (rb HO_9.out hb); replace BK608 := Aside0.mk (bb BK608.out hb); replace HB := Aside0.mk (bj HB.out hb); (try clear hb)) | ((with_reducible refine gate_callee (f := 38) rfl ?_); refine gL (some 81) Try.func38 #[.slice A1 l1.length c1] ?_; (with_reducible refine (slices_Clone_int_int.calls _ _ l1 t627 _ ?side1 ?side2 A78.out).mono ?_); (case side1 => exact lC <| (Kd.C_below HR1.out HB.out)); (case side2 => exact HC1.out); rintro e w81 ⟨v628, rfl, ho0, hb⟩; refine ⟨_, rfl, ?_⟩; have HO629 := Aside0.mk (Kd.R_lower (Kd.R_new' (Kd.R_new' ho0 (rl HO_8.out)) (rl HO_9.out)) (below_size (by exact jB HB.out))); replace HO_8 := Aside0.mk (Kd.R_elder' (by exact lR HO_8.out) (Kd.R_base ho0) hb); replace HO_9 := Aside0.mk (Kd.R_elder' (by exact lR HO_9.out) (Kd.R_base ho0) hb); replace BK608 := Aside0.mk (bb BK608.out hb); replace HB := Aside0.mk (bj HB.out hb); (try clear hb); (try clear ho0); obtain ⟨hcz82_0, hcz82_1, hfz82_0, hfz82_1⟩ := cf2 BK608.out))
        refine bodyPost_ret (results_ct rfl _ _ gb608 37 #[.int .i64 3, .slice none 0 0] (0, 0) _ rfl (by exact p2 (lK BK608.out)) Try.underlying37 rfl (by kernel_rfl)) rfl ?_
        exact ⟨_, _, by first | rfl | (simp [errW_none, errW_some] <;> rfl) | (simp [*, errW_none, errW_some] <;> rfl), by first | exact Kd.R_nil _ _ _ _ _ | exact Kd.N_nil _ _ _ _ _ | exact Kd.V_nil _ _ _ _ _ | exact Kd.Q_nil _ _ _ _ _ | exact Kd.S_nil _ _ _ _ _, by exact lR <| Kd.R_mono (Kd.R_far (p := ⟨gb608, 1, none⟩) (Kd.R_far (p := ⟨gb608, 0, none⟩) (Kd.R_types HO629.out BK608.out (by decide)) (fun _ hk => by first | exact hk.2 | exact fun e_ => hk.2 (e_.trans (ob _ _ _ _))) (.int .i64 3)) (fun _ hk => by first | exact hk.2 | exact fun e_ => hk.2 (e_.trans (ob _ _ _ _))) (.slice none 0 0)) (fun _ hk => (by simp [Value.ownBlock])), by exact jB HB.out⟩

/-! ### spec_ValOk: function 41 -/
def spec_ValOk.f (k : Nat) (l0 : List Int) : Option (Bool) := (spec_l1All.f k l0 3 10000).bind fun t630 => (some t630)
theorem spec_ValOk.mono : ∀ a0 k, LeO (spec_ValOk.f k a0) (spec_ValOk.f (k + 1) a0) := by
 intro a0 k
 unfold spec_ValOk.f
 repeat' first
   | (with_reducible exact spec_l1All.mono _ _ _ _)
   | (with_reducible exact LeO.refl _)
   | (with_reducible exact LeO.none _)
   | (with_reducible refine LeO.ite ?_ ?_)
   | (with_reducible refine LeO.bind ?_ (fun _ => ?_))
   | exact LeO.none _
   | refine LeO.ite ?_ ?_
   | refine LeO.bind ?_ (fun _ => ?_)
set_option maxHeartbeats 8000000 in
set_option maxRecDepth 100000 in
theorem spec_ValOk.calls (k : Nat) (A0 : Option Addr) (c0 : Nat) (l0 : List Int) (r : Bool) (w : World) (hr0 : Kd.C (Kd.int .i64) w A0 l0.length l0) (hc0 : l0.length ≤ c0) (h : spec_ValOk.f k l0 = some r) :
  Calls Try.prog 41 #[.slice A0 l0.length c0] w fun e w' => e = .returned (.bool r) ∧ Drawn0 w w' := by
 have HR0 := Aside0.mk hr0
 have HC0 := Aside0.mk hc0
 clear hr0 hc0
 have H : ((spec_l1All.f k l0 3 10000).bind fun t630 => (some t630)) = some r := h
 clear h
 obtain ⟨t630, A2, H⟩ := bS H
 try dsimp only at H
 obtain rfl := Option.some.inj H
 go_enter Try.func41, Try.ntmps41
 go_wp2_with (first | ((with_reducible refine gate_callee (f := 29) rfl ?_); refine gL (some 4) Try.func29 #[.slice A0 l0.length c0, .int .i64 3, .int .i64 10000] ?_; (with_reducible refine (spec_l1All.calls k _ _ l0 3 10000 t630 _ ?side1 ?side2 A2.out).mono ?_); (case side1 => exact lC HR0.out); (case side2 => exact HC0.out); rintro e w' ⟨rfl, ⟨nd, rfl⟩⟩; refine ⟨_, rfl, ?_⟩))
 go_ret
 exact ⟨by first | rfl | (simp; done) | (simp [*]; done), by repeat (first | exact Drawn0.refl _ | apply Drawn0.step)⟩

/-! ### spec_ArgOk: function 42 -/
def spec_ArgOk.f (k : Nat) (l0 : List Int) : Option (Bool) := (spec_l1All.f k l0 2 9).bind fun t631 => (some t631)
theorem spec_ArgOk.mono : ∀ a0 k, LeO (spec_ArgOk.f k a0) (spec_ArgOk.f (k + 1) a0) := by
 intro a0 k
 unfold spec_ArgOk.f
 repeat' first
   | (with_reducible exact spec_l1All.mono _ _ _ _)
   | (with_reducible exact LeO.refl _)
   | (with_reducible exact LeO.none _)
   | (with_reducible refine LeO.ite ?_ ?_)
   | (with_reducible refine LeO.bind ?_ (fun _ => ?_))
   | exact LeO.none _
   | refine LeO.ite ?_ ?_
   | refine LeO.bind ?_ (fun _ => ?_)
set_option maxHeartbeats 8000000 in
set_option maxRecDepth 100000 in
theorem spec_ArgOk.calls (k : Nat) (A0 : Option Addr) (c0 : Nat) (l0 : List Int) (r : Bool) (w : World) (hr0 : Kd.C (Kd.int .i64) w A0 l0.length l0) (hc0 : l0.length ≤ c0) (h : spec_ArgOk.f k l0 = some r) :
  Calls Try.prog 42 #[.slice A0 l0.length c0] w fun e w' => e = .returned (.bool r) ∧ Drawn0 w w' := by
 have HR0 := Aside0.mk hr0
 have HC0 := Aside0.mk hc0
 clear hr0 hc0
 have H : ((spec_l1All.f k l0 2 9).bind fun t631 => (some t631)) = some r := h
 clear h
 obtain ⟨t631, A2, H⟩ := bS H
 try dsimp only at H
 obtain rfl := Option.some.inj H
 go_enter Try.func42, Try.ntmps42
 go_wp2_with (first | ((with_reducible refine gate_callee (f := 29) rfl ?_); refine gL (some 4) Try.func29 #[.slice A0 l0.length c0, .int .i64 2, .int .i64 9] ?_; (with_reducible refine (spec_l1All.calls k _ _ l0 2 9 t631 _ ?side1 ?side2 A2.out).mono ?_); (case side1 => exact lC HR0.out); (case side2 => exact HC0.out); rintro e w' ⟨rfl, ⟨nd, rfl⟩⟩; refine ⟨_, rfl, ?_⟩))
 go_ret
 exact ⟨by first | rfl | (simp; done) | (simp [*]; done), by repeat (first | exact Drawn0.refl _ | apply Drawn0.step)⟩

/-! ### spec_l1At: function 43 -/
mutual
def spec_l1At.l0 : Nat → List Int → List Int → Int → Int → List Int → List Int → Int → Option (Int)
 | 0, _, _, _, _, _, _, _ => none
 | k + 1, x1, x2, x7, x8, x633000, x633001, x633002 => if x8 < 3 then (if 0 ≤ x8 then (if x8 < (x633000.length : Int) then (if x8 < (x1.length : Int) then (spec_l1At.l0 k x1 x2 (wrap64 (x7 + (wrap64 ((rd x633000 x8) * (rd x1 x8))))) (wrap64 (x8 + 1)) x633000 x633001 x633002) else (none)) else (none)) else (none)) else (spec_l1At.l1 k x2 x7 0 x633000 x633001 x633002)
def spec_l1At.l1 : Nat → List Int → Int → Int → List Int → List Int → Int → Option (Int)
 | 0, _, _, _, _, _, _ => none
 | k + 1, x2, x7, x9, x633000, x633001, x633002 => if x9 < 2 then (if 0 ≤ x9 then (if x9 < (x633001.length : Int) then (if x9 < (x2.length : Int) then (spec_l1At.l1 k x2 (wrap64 (x7 + (wrap64 ((rd x633001 x9) * (rd x2 x9))))) (wrap64 (x9 + 1)) x633000 x633001 x633002) else (none)) else (none)) else (none)) else (some x7)
end
def spec_l1At.f (k : Nat) (l0_0 : List Int) (l0_1 : List Int) (a0_2 : Int) (l1 : List Int) (l2 : List Int) : Option (Int) := spec_l1At.l0 k l1 l2 a0_2 0 l0_0 l0_1 a0_2
theorem spec_l1At.mono_l : ∀ k, (∀ y0 y1 y2 y3 y4 y5 y6, LeO (spec_l1At.l0 k y0 y1 y2 y3 y4 y5 y6) (spec_l1At.l0 (k + 1) y0 y1 y2 y3 y4 y5 y6)) ∧ (∀ y0 y1 y2 y3 y4 y5, LeO (spec_l1At.l1 k y0 y1 y2 y3 y4 y5) (spec_l1At.l1 (k + 1) y0 y1 y2 y3 y4 y5))
 | 0 => ⟨fun _ _ _ _ _ _ _ r h => by simp [spec_l1At.l0] at h, fun _ _ _ _ _ _ r h => by simp [spec_l1At.l1] at h⟩
 | k + 1 => by
  obtain ⟨ih0, ih1⟩ := spec_l1At.mono_l k
  refine ⟨?_, ?_⟩
  ·intro y0 y1 y2 y3 y4 y5 y6
   unfold spec_l1At.l0
   repeat' first
   | (with_reducible exact ih0 _ _ _ _ _ _ _)
   | (with_reducible exact ih1 _ _ _ _ _ _)
   | (with_reducible exact LeO.refl _)
   | (with_reducible exact LeO.none _)
   | (with_reducible refine LeO.ite ?_ ?_)
   | (with_reducible refine LeO.bind ?_ (fun _ => ?_))
   | exact LeO.none _
   | refine LeO.ite ?_ ?_
   | refine LeO.bind ?_ (fun _ => ?_)
  ·intro y0 y1 y2 y3 y4 y5
   unfold spec_l1At.l1
   repeat' first
   | (with_reducible exact ih0 _ _ _ _ _ _ _)
   | (with_reducible exact ih1 _ _ _ _ _ _)
   | (with_reducible exact LeO.refl _)
   | (with_reducible exact LeO.none _)
   | (with_reducible refine LeO.ite ?_ ?_)
   | (with_reducible refine LeO.bind ?_ (fun _ => ?_))
   | exact LeO.none _
   | refine LeO.ite ?_ ?_
   | refine LeO.bind ?_ (fun _ => ?_)
theorem spec_l1At.mono : ∀ a0 a1 a2 a3 a4 k, LeO (spec_l1At.f k a0 a1 a2 a3 a4) (spec_l1At.f (k + 1) a0 a1 a2 a3 a4) := by
 intro a0 a1 a2 a3 a4 k
 obtain ⟨ih0, ih1⟩ := spec_l1At.mono_l k
 unfold spec_l1At.f
 repeat' first
   | (with_reducible exact ih0 _ _ _ _ _ _ _)
   | (with_reducible exact ih1 _ _ _ _ _ _)
   | (with_reducible exact LeO.refl _)
   | (with_reducible exact LeO.none _)
   | (with_reducible refine LeO.ite ?_ ?_)
   | (with_reducible refine LeO.bind ?_ (fun _ => ?_))
   | exact LeO.none _
   | refine LeO.ite ?_ ?_
   | refine LeO.bind ?_ (fun _ => ?_)
set_option maxHeartbeats 8000000 in
set_option maxRecDepth 100000 in
theorem spec_l1At.calls (k : Nat) (A0_0 : Option Addr) (c0_0 : Nat) (l0_0 : List Int) (A0_1 : Option Addr) (c0_1 : Nat) (l0_1 : List Int) (a0_2 : Int) (A1 : Option Addr) (c1 : Nat) (l1 : List Int) (A2 : Option Addr) (c2 : Nat) (l2 : List Int) (r : Int) (w : World) (hr0_0 : Kd.C (Kd.int .i64) w A0_0 l0_0.length l0_0) (hc0_0 : l0_0.length ≤ c0_0) (hr0_1 : Kd.C (Kd.int .i64) w A0_1 l0_1.length l0_1) (hc0_1 : l0_1.length ≤ c0_1) (hr1 : Kd.C (Kd.int .i64) w A1 l1.length l1) (hc1 : l1.length ≤ c1) (hr2 : Kd.C (Kd.int .i64) w A2 l2.length l2) (hc2 : l2.length ≤ c2) (h : spec_l1At.f k l0_0 l0_1 a0_2 l1 l2 = some r) :
  Calls Try.prog 43 #[.agg #[.slice A0_0 l0_0.length c0_0, .slice A0_1 l0_1.length c0_1, .int .i64 a0_2], .slice A1 l1.length c1, .slice A2 l2.length c2] w fun e w' => e = .returned (.int .i64 r) ∧ Below w.heap.size w w' := by
 have hu43 := Try.underlying43
 have HR0_0 := Aside0.mk hr0_0
 have HC0_0 := Aside0.mk hc0_0
 clear hr0_0 hc0_0
 have HR0_1 := Aside0.mk hr0_1
 have HC0_1 := Aside0.mk hc0_1
 clear hr0_1 hc0_1
 have HR1 := Aside0.mk hr1
 have HC1 := Aside0.mk hc1
 clear hr1 hc1
 have HR2 := Aside0.mk hr2
 have HC2 := Aside0.mk hc2
 clear hr2 hc2
 have HB := Aside0.mk (Below.refl w.heap.size w)
 have H : (spec_l1At.l0 k l1 l2 a0_2 0 l0_0 l0_1 a0_2) = some r := h
 clear h
 have H' := Aside0.mk H
 clear H
 go_enter Try.func43, Try.ntmps43
 go_wp2_with (first | ((with_reducible refine gate_dst (N := 3) rfl ?_); refine bx 3 #[.slice A0_0 l0_0.length c0_0, .slice A0_1 l0_1.length c0_1, .int .i64 a0_2] 43 ?_; intro gb632 hg w4 hbox hb; have BK632 := Aside0.mk (hbox); have GW632 := Aside0.mk ((gz hg HB.out)); have IGW632 : Nonempty _ := ⟨GW632.out⟩; have GE632 := Aside0.mk ((gz hg HB.out)); have IGE632 : Nonempty _ := ⟨GE632.out⟩; replace HB := Aside0.mk (bj HB.out hb); clear hb hbox hg; obtain ⟨hcz5_0, hcz5_1, hcz5_2, hfz5_0, hfz5_1, hfz5_2⟩ := cf3 BK632.out))
 repeat (go_quiet (first | ((with_reducible refine gate_dst (N := 3) rfl ?_); refine bx 3 #[.slice A0_0 l0_0.length c0_0, .slice A0_1 l0_1.length c0_1, .int .i64 a0_2] 43 ?_; intro gb632 hg w4 hbox hb; have BK632 := Aside0.mk (hbox); have GW632 := Aside0.mk ((gz hg HB.out)); have IGW632 : Nonempty _ := ⟨GW632.out⟩; have GE632 := Aside0.mk ((gz hg HB.out)); have IGE632 : Nonempty _ := ⟨GE632.out⟩; replace HB := Aside0.mk (bj HB.out hb); clear hb hbox hg; obtain ⟨hcz5_0, hcz5_1, hcz5_2, hfz5_0, hfz5_1, hfz5_2⟩ := cf3 BK632.out)); try go_wp2_with (first | ((with_reducible refine gate_dst (N := 3) rfl ?_); refine bx 3 #[.slice A0_0 l0_0.length c0_0, .slice A0_1 l0_1.length c0_1, .int .i64 a0_2] 43 ?_; intro gb632 hg w4 hbox hb; have BK632 := Aside0.mk (hbox); have GW632 := Aside0.mk ((gz hg HB.out)); have IGW632 : Nonempty _ := ⟨GW632.out⟩; have GE632 := Aside0.mk ((gz hg HB.out)); have IGE632 : Nonempty _ := ⟨GE632.out⟩; replace HB := Aside0.mk (bj HB.out hb); clear hb hbox hg; obtain ⟨hcz5_0, hcz5_1, hcz5_2, hfz5_0, hfz5_1, hfz5_2⟩ := cf3 BK632.out)))
 go_loopg [7, 8] k (fun kq v7 v8 w' => ∃ (x7_1 : Int) (x8_1 : Int), v7 = .int .i64 x7_1 ∧ v8 = .int .i64 x8_1 ∧ Aside0 (spec_l1At.l0 kq l1 l2 x7_1 x8_1 l0_0 l0_1 a0_2 = some r) ∧ Aside0 (kq ≤ k) ∧ Aside0 (w'.heap[gb632]? = some (.cells #[(.slice A0_0 l0_0.length c0_0), (.slice A0_1 l0_1.length c0_1), .int .i64 a0_2] 43 (0, 0))) ∧ Aside0 (Below w.heap.size w w'))
 case atStart => exact ⟨(a0_2), (0), (by first | rfl | (simp; done) | (simp [*]; done)), (by first | rfl | (simp; done) | (simp [*]; done)), H', ⟨Nat.le_refl _⟩, ⟨by exact lK <| BK632.out⟩, ⟨by exact jB HB.out⟩⟩
 case round =>
  clear H'
  try clear c1
  try clear c2
  try clear p2
  try clear c4
  try clear hcz5_0
  try clear hcz5_1
  try clear hcz5_2
  try clear hfz5_0
  try clear hfz5_1
  try clear hfz5_2
  obtain ⟨x7_1, x8_1, rfl, rfl, HA, HK1, BK632, HB⟩ := hrel
  cases gk with
  | zero => exact absurd HA.out (by simp [spec_l1At.l0])
  | succ k1 =>
   have H := HA.out
   clear HA
   simp only [spec_l1At.l0] at H
   by_cases c6 : x8_1 < 3
   ·rw [if_pos c6] at H
    have c6b0 := decide_eq_true c6
    clear c6
    by_cases c7 : 0 ≤ x8_1
    ·rw [if_pos c7] at H
     have c7b0 := decide_eq_true c7
     clear c7
     by_cases c8 : x8_1 < (l0_0.length : Int)
     ·rw [if_pos c8] at H
      have c8b0 := decide_eq_true c8
      clear c8
      by_cases c9 : x8_1 < (l1.length : Int)
      ·rw [if_pos c9] at H
       have c9b0 := decide_eq_true c9
       clear c9
       have H' := Aside0.mk H
       clear H
       obtain ⟨hcz10_0, hcz10_1, hcz10_2, hfz10_0, hfz10_1, hfz10_2⟩ := cf3 BK632.out
       have p633 : 0 ≤ (x8_1 : Int) := of_decide_eq_true (by first | (with_reducible assumption) | assumption)
       have q633 : x8_1 < (l0_0.length : Int) := of_decide_eq_true (by first | (with_reducible assumption) | assumption)
       obtain ⟨ad633, e633, hx633_0⟩ := Kd.at_int HR0_0.out x8_1 p633 q633
       cases e633
       replace hx633_0 := cl HB.out hx633_0
       replace p633 := eq_true p633
       replace q633 := eq_true q633
       have p634 : 0 ≤ (x8_1 : Int) := of_decide_eq_true (by first | (with_reducible assumption) | assumption)
       have q634 : x8_1 < (l1.length : Int) := of_decide_eq_true (by first | (with_reducible assumption) | assumption)
       obtain ⟨ad634, e634, hx634_0⟩ := Kd.at_int HR1.out x8_1 p634 q634
       cases e634
       replace hx634_0 := cl HB.out hx634_0
       replace p634 := eq_true p634
       replace q634 := eq_true q634
       go_wp2
       repeat (go_quiet (fail); try go_wp2)
       go_roundg k1
       case measure => have := HK1.out; omega
       case rel => exact ⟨(wrap64 (x7_1 + (wrap64 ((rd l0_0 x8_1) * (rd l1 x8_1))))), (wrap64 (x8_1 + 1)), (by first | rfl | (simp; done) | (simp [*]; done)), (by first | rfl | (simp; done) | (simp [*]; done)), H', ⟨by have := HK1.out; omega⟩, ⟨by exact lK <| BK632.out⟩, ⟨by exact jB HB.out⟩⟩
      ·rw [if_neg c9] at H
       exact absurd H (by simp)
     ·rw [if_neg c8] at H
      exact absurd H (by simp)
    ·rw [if_neg c7] at H
     exact absurd H (by simp)
   ·rw [if_neg c6] at H
    have c6b0 := decide_eq_false c6
    clear c6
    have H' := Aside0.mk H
    clear H
    go_wp2
    repeat (go_quiet (fail); try go_wp2)
    go_loopg [7, 9] k1 (fun kq v7 v9 w' => ∃ (x7_2 : Int) (x9_2 : Int), v7 = .int .i64 x7_2 ∧ v9 = .int .i64 x9_2 ∧ Aside0 (spec_l1At.l1 kq l2 x7_2 x9_2 l0_0 l0_1 a0_2 = some r) ∧ Aside0 (kq ≤ k1) ∧ Aside0 (w'.heap[gb632]? = some (.cells #[(.slice A0_0 l0_0.length c0_0), (.slice A0_1 l0_1.length c0_1), .int .i64 a0_2] 43 (0, 0))) ∧ Aside0 (Below w.heap.size w w'))
    case atStart => exact ⟨(x7_1), (0), (by first | rfl | (simp; done) | (simp [*]; done)), (by first | rfl | (simp; done) | (simp [*]; done)), H', ⟨Nat.le_refl _⟩, ⟨by exact lK <| BK632.out⟩, ⟨by exact jB HB.out⟩⟩
    case round =>
     clear H'
     try clear c1
     try clear c2
     try clear p2
     try clear c4
     try clear c6
     try clear c6b0
     try clear p6
     try clear q6
     try clear hx6
     try clear c7
     try clear c7b0
     try clear c8
     try clear c8b0
     try clear c9
     try clear c9b0
     try clear hcz10_0
     try clear hcz10_1
     try clear hcz10_2
     try clear hcz5_0
     try clear hcz5_1
     try clear hcz5_2
     try clear hfz10_0
     try clear hfz10_1
     try clear hfz10_2
     try clear hfz5_0
     try clear hfz5_1
     try clear hfz5_2
     try clear hx633_0
     try clear hx634_0
     try clear p2
     try clear p633
     try clear p634
     try clear q633
     try clear q634
     obtain ⟨x7_2, x9_2, rfl, rfl, HA, HK2, BK632, HB⟩ := hrel
     cases gk with
     | zero => exact absurd HA.out (by simp [spec_l1At.l1])
     | succ k2 =>
      have H := HA.out
      clear HA
      simp only [spec_l1At.l1] at H
      by_cases c11 : x9_2 < 2
      ·rw [if_pos c11] at H
       have c11b0 := decide_eq_true c11
       clear c11
       by_cases c12 : 0 ≤ x9_2
       ·rw [if_pos c12] at H
        have c12b0 := decide_eq_true c12
        clear c12
        by_cases c13 : x9_2 < (l0_1.length : Int)
        ·rw [if_pos c13] at H
         have c13b0 := decide_eq_true c13
         clear c13
         by_cases c14 : x9_2 < (l2.length : Int)
         ·rw [if_pos c14] at H
          have c14b0 := decide_eq_true c14
          clear c14
          have H' := Aside0.mk H
          clear H
          obtain ⟨hcz15_0, hcz15_1, hcz15_2, hfz15_0, hfz15_1, hfz15_2⟩ := cf3 BK632.out
          have p635 : 0 ≤ (x9_2 : Int) := of_decide_eq_true (by first | (with_reducible assumption) | assumption)
          have q635 : x9_2 < (l0_1.length : Int) := of_decide_eq_true (by first | (with_reducible assumption) | assumption)
          obtain ⟨ad635, e635, hx635_0⟩ := Kd.at_int HR0_1.out x9_2 p635 q635
          cases e635
          replace hx635_0 := cl HB.out hx635_0
          replace p635 := eq_true p635
          replace q635 := eq_true q635
          have p636 : 0 ≤ (x9_2 : Int) := of_decide_eq_true (by first | (with_reducible assumption) | assumption)
          have q636 : x9_2 < (l2.length : Int) := of_decide_eq_true (by first | (with_reducible assumption) | assumption)
          obtain ⟨ad636, e636, hx636_0⟩ := Kd.at_int HR2.out x9_2 p636 q636
          cases e636
          replace hx636_0 := cl HB.out hx636_0
          replace p636 := eq_true p636
          replace q636 := eq_true q636
          go_wp2
          repeat (go_quiet (fail); try go_wp2)
          go_roundg k2
          case measure => have := HK1.out; have := HK2.out; omega
          case rel => exact ⟨(wrap64 (x7_2 + (wrap64 ((rd l0_1 x9_2) * (rd l2 x9_2))))), (wrap64 (x9_2 + 1)), (by first | rfl | (simp; done) | (simp [*]; done)), (by first | rfl | (simp; done) | (simp [*]; done)), H', ⟨by have := HK1.out; have := HK2.out; omega⟩, ⟨by exact lK <| BK632.out⟩, ⟨by exact jB HB.out⟩⟩
         ·rw [if_neg c14] at H
          exact absurd H (by simp)
        ·rw [if_neg c13] at H
         exact absurd H (by simp)
       ·rw [if_neg c12] at H
        exact absurd H (by simp)
      ·rw [if_neg c11] at H
       have c11b0 := decide_eq_false c11
       clear c11
       obtain rfl := Option.some.inj H
       go_wp2
       repeat (go_quiet (fail); try go_wp2)
       go_ret
       exact ⟨by first | rfl | (simp [errW_none, errW_some] <;> rfl) | (simp [*, errW_none, errW_some] <;> rfl), by exact jB HB.out⟩

/-! ### spec_l2End: function 44 -/
def spec_l2End.f (k : Nat) (l0 : List Int) (l1 : List Int) (l2 : List Int) : Option (Int × List Int × List Int) := (spec_ValOk.f k l1).bind fun t638 => (if t638 = true then (some (1, l2, l1)) else ((some (([] : List Int) : List Int)).bind fun y639 => (if y639.length + l0.length < 17592186044416 then (some (3, ([] : List Int), (y639 ++ l0))) else (none))))
theorem spec_l2End.mono : ∀ a0 a1 a2 k, LeO (spec_l2End.f k a0 a1 a2) (spec_l2End.f (k + 1) a0 a1 a2) := by
 intro a0 a1 a2 k
 unfold spec_l2End.f
 repeat' first
   | (with_reducible exact spec_ValOk.mono _ _)
   | (with_reducible exact LeO.refl _)
   | (with_reducible exact LeO.none _)
   | (with_reducible refine LeO.ite ?_ ?_)
   | (with_reducible refine LeO.bind ?_ (fun _ => ?_))
   | exact LeO.none _
   | refine LeO.ite ?_ ?_
   | refine LeO.bind ?_ (fun _ => ?_)
set_option maxHeartbeats 8000000 in
set_option maxRecDepth 100000 in
theorem spec_l2End.calls (k : Nat) (A0 : Option Addr) (c0 : Nat) (l0 : List Int) (P1_ : Nat → Prop) (u9000_ : Value) (l1 : List Int) (P2_ : Nat → Prop) (u9001_ : Value) (l2 : List Int) (r1 : Int) (r2 : List Int) (r3 : List Int) (w0 w : World) (hB : Below w0.heap.size w0 w) (hr0 : ∀ W_, Kept w W_ (fun k_ => P1_ k_ ∨ P2_ k_) → Kd.C (Kd.int .i64) W_ A0 l0.length l0) (hc0 : l0.length ≤ c0) (ho1 : Kd.R (Kd.int .i64) 3 w w0.heap.size P1_ u9000_ l1) (hp1_2 : ∀ k_, P1_ k_ → ¬ P2_ k_) (ho2 : Kd.R (Kd.int .i64) 3 w w0.heap.size P2_ u9001_ l2) (hp2_1 : ∀ k_, P2_ k_ → ¬ P1_ k_) (h : spec_l2End.f k l0 l1 l2 = some (r1, r2, r3)) :
  Calls Try.prog 44 #[.slice A0 l0.length c0, u9000_, u9001_] w fun e w' => ∃ v1_ v2_ : Value, e = .returned (.tuple #[.agg #[.int .i64 r1, v1_], v2_]) ∧ Kd.R (Kd.int .i64) 3 w' w0.heap.size (fun k_ => ((P1_ k_ ∨ P2_ k_) ∨ w.heap.size ≤ k_) ∧ some k_ ≠ (v2_ : Value).ownBlock) v1_ r2 ∧ Kd.R (Kd.int .i64) 3 w' w0.heap.size (fun k_ => ((P1_ k_ ∨ P2_ k_) ∨ w.heap.size ≤ k_) ∧ some k_ ≠ (v1_ : Value).ownBlock) v2_ r3 ∧ Below w0.heap.size w0 w' ∧ Kept w w' (fun k_ => P1_ k_ ∨ P2_ k_) := by
 have hu37 := Try.underlying37
 have HR0 := Aside0.mk hr0
 have HC0 := Aside0.mk hc0
 clear hr0 hc0
 have HO1 := Aside0.mk (show Kd.R (Kd.int .i64) 3 w w0.heap.size (fun k_ => ((P1_ k_ ∨ P2_ k_) ∨ w.heap.size ≤ k_) ∧ some k_ ≠ (u9001_ : Value).ownBlock) u9000_ l1 from Kd.R_mono ho1 (fun k_ hk => ⟨(.inl (.inl hk)), fun e_ => hp1_2 k_ hk (ho2.1 k_ e_.symm)⟩))
 have HO2 := Aside0.mk (show Kd.R (Kd.int .i64) 3 w w0.heap.size (fun k_ => ((P1_ k_ ∨ P2_ k_) ∨ w.heap.size ≤ k_) ∧ some k_ ≠ (u9000_ : Value).ownBlock) u9001_ l2 from Kd.R_mono ho2 (fun k_ hk => ⟨(.inl (.inr hk)), fun e_ => hp2_1 k_ hk (ho1.1 k_ e_.symm)⟩))
 have HK := Aside0.mk (Kept.refl w (fun k_ => P1_ k_ ∨ P2_ k_))
 have HW0 := Aside0.mk hB.size
 have HB := Aside0.mk hB
 clear hB
 have H : ((spec_ValOk.f k l1).bind fun t638 => (if t638 = true then (some (1, l2, l1)) else ((some (([] : List Int) : List Int)).bind fun y639 => (if y639.length + l0.length < 17592186044416 then (some (3, ([] : List Int), (y639 ++ l0))) else (none))))) = some (r1, r2, r3) := h
 clear h
 obtain ⟨t638, A4, H⟩ := bS H
 try dsimp only at H
 by_cases c5 : t638 = true
 ·subst c5
  have H1 : (some (1, l2, l1)) = some (r1, r2, r3) := by rw [if_pos rfl] at H; exact H
  clear H
  have H := H1
  clear H1
  simp only [Option.some.injEq, Prod.mk.injEq] at H
  obtain ⟨rfl, rfl, rfl⟩ := H
  go_enter Try.func44, Try.ntmps44
  go_wp2_with (first | ((with_reducible refine gate_dst (N := 6) rfl ?_); refine bx 6 #[.int .i64 0, .slice none 0 0] 37 ?_; intro gb637 hg w6 hbox hb; replace HO1 := Aside0.mk (rb HO1.out hb); replace HO2 := Aside0.mk (rb HO2.out hb); have BK637 := Aside0.mk (hbox); have GW637 := Aside0.mk ((by rw [hg]; exact (by first | exact HK.out.1 | exact (show Kept w _ (fun k_ => P1_ k_ ∨ P2_ k_) from by repeat (first | (with_reducible first | exact HK.out | apply Kept.alloc | apply Kept.drewN | apply Kept.drew) | exact HK.out)).1) : w.heap.size ≤ gb637)); have IGW637 : Nonempty _ := ⟨GW637.out⟩; replace HK := Aside0.mk (Kept.below (S := (fun k_ => P1_ k_ ∨ P2_ k_)) (by repeat (first | (with_reducible first | exact HK.out | apply Kept.alloc | apply Kept.drewN | apply Kept.drew) | exact HK.out)) hb); have GE637 := Aside0.mk ((by rw [hg]; exact (below_size (by exact lB HB.out)) : w0.heap.size ≤ gb637)); have IGE637 : Nonempty _ := ⟨GE637.out⟩; replace HB := Aside0.mk (bj HB.out hb); clear hb hbox hg; obtain ⟨Ao7, co7, eo7⟩ := Kd.R_slice HO1.out; subst eo7) | ((with_reducible refine gate_callee (f := 41) rfl ?_); refine gL (some 9) Try.func41 #[.slice Ao7 l1.length co7] ?_; (with_reducible refine (spec_ValOk.calls k _ _ l1 true _ ?side1 ?side2 A4.out).mono ?_); (case side1 => exact lC <| (Kd.R_reads' HO1.out).2.2); (case side2 => exact (Kd.R_reads' HO1.out).2.1); rintro e w' ⟨rfl, ⟨nd, rfl⟩⟩; refine ⟨_, rfl, ?_⟩; (try (rw [drewN_self w6]; generalize hq_ : World.drewN w6 _ = w6; replace HO1 : Aside0 (Kd.R (Kd.int .i64) 3 w6 w0.heap.size (fun k_ => ((((P1_ k_ ∨ P2_ k_) ∨ w.heap.size ≤ k_)) ∧ some k_ ≠ (u9001_ : Value).ownBlock)) (.slice Ao7 l1.length co7) l1) := ⟨by rw [← hq_]; exact (by exact lR HO1.out)⟩; replace HO2 : Aside0 (Kd.R (Kd.int .i64) 3 w6 w0.heap.size (fun k_ => ((((P1_ k_ ∨ P2_ k_) ∨ w.heap.size ≤ k_)) ∧ some k_ ≠ ownBlock (.slice Ao7 l1.length co7))) u9001_ l2) := ⟨by rw [← hq_]; exact (by exact lR HO2.out)⟩; replace BK637 : Aside0 (w6.heap[gb637]? = some (.cells #[.int .i64 0, .slice none 0 0] 37 (0, 0))) := ⟨by rw [← hq_]; exact (by exact lK BK637.out)⟩; replace HK : Aside0 (Kept w w6 (fun k_ => P1_ k_ ∨ P2_ k_)) := ⟨by rw [← hq_]; exact (by repeat (first | (with_reducible first | exact HK.out | apply Kept.alloc | apply Kept.drewN | apply Kept.drew | refine Kept.setCell ?_ (.inr GW637.out) _) | exact HK.out))⟩; replace HB : Aside0 (Below w0.heap.size w0 w6) := ⟨by rw [← hq_]; exact (by exact jB HB.out)⟩; clear hq_)); obtain ⟨Ao8, co8, eo8⟩ := Kd.R_slice HO2.out; subst eo8; obtain ⟨hcz9_0, hcz9_1, hfz9_0, hfz9_1⟩ := cf2 BK637.out))
  refine bodyPost_ret (results_ct rfl _ _ gb637 37 #[.int .i64 1, .slice Ao8 l2.length co8] (0, 0) _ rfl (by exact p2 (lK BK637.out)) Try.underlying37 rfl (by kernel_rfl)) rfl ?_
  exact ⟨_, _, by first | rfl | (simp [errW_none, errW_some] <;> rfl) | (simp [*, errW_none, errW_some] <;> rfl), by exact lR <| Kd.R_mono (Kd.R_far (p := ⟨gb637, 1, none⟩) (Kd.R_far (p := ⟨gb637, 0, none⟩) (Kd.R_types HO2.out BK637.out (by decide)) (fun _ hk => by first | exact hk.2 | exact fun e_ => hk.2 (e_.trans (ob _ _ _ _))) (.int .i64 1)) (fun _ hk => by first | exact hk.2 | exact fun e_ => hk.2 (e_.trans (ob _ _ _ _))) (.slice Ao8 l2.length co8)) (fun _ hk => ⟨hk.1.1, hk.1.2⟩), by exact lR <| Kd.R_mono (Kd.R_far (p := ⟨gb637, 1, none⟩) (Kd.R_far (p := ⟨gb637, 0, none⟩) (Kd.R_types HO1.out BK637.out (by decide)) (fun _ hk => by first | exact hk.2 | exact fun e_ => hk.2 (e_.trans (ob _ _ _ _))) (.int .i64 1)) (fun _ hk => by first | exact hk.2 | exact fun e_ => hk.2 (e_.trans (ob _ _ _ _))) (.slice Ao8 l2.length co8)) (fun _ hk => ⟨hk.1.1, hk.1.2⟩), by exact jB HB.out, by repeat (first | (with_reducible first | exact HK.out | apply Kept.alloc | apply Kept.drewN | apply Kept.drew | refine Kept.setCell ?_ (.inr GW637.out) _) | exact HK.out)⟩
 ·replace c5 := Bool.eq_false_iff.mpr c5
  subst c5
  have H1 : ((some (([] : List Int) : List Int)).bind fun y639 => (if y639.length + l0.length < 17592186044416 then (some (3, ([] : List Int), (y639 ++ l0))) else (none))) = some (r1, r2, r3) := by rw [if_neg (show ¬ (false = true) by decide)] at H; exact H
  clear H
  have H := H1
  clear H1
  obtain ⟨y639, hy639⟩ : ∃ y_ : List Int, y_ = (([] : List Int)) := ⟨_, rfl⟩
  replace H : (if y639.length + l0.length < 17592186044416 then (some (3, ([] : List Int), (y639 ++ l0))) else (none)) = some (r1, r2, r3) := by first | (rw [hy639]; exact H) | exact H
  have Ny639 := Aside0.mk hy639
  clear hy639
  by_cases c10 : y639.length + l0.length < 17592186044416
  ·rw [if_pos c10] at H
   have LMc10 := Aside0.mk c10
   clear c10
   obtain ⟨y642, hy642⟩ : ∃ y_ : List Int, y_ = (y639 ++ l0) := ⟨_, rfl⟩
   replace H : (some (3, ([] : List Int), y642)) = some (r1, r2, r3) := by first | (rw [hy642]; exact H) | exact H
   have Ny642 := Aside0.mk hy642
   clear hy642
   simp only [Option.some.injEq, Prod.mk.injEq] at H
   obtain ⟨rfl, rfl, rfl⟩ := H
   go_enter Try.func44, Try.ntmps44
   go_wp2_with (first | ((with_reducible refine gate_dst (N := 6) rfl ?_); refine bx 6 #[.int .i64 0, .slice none 0 0] 37 ?_; intro gb637 hg w11 hbox hb; replace HO1 := Aside0.mk (rb HO1.out hb); replace HO2 := Aside0.mk (rb HO2.out hb); have BK637 := Aside0.mk (hbox); have GW637 := Aside0.mk ((by rw [hg]; exact (by first | exact HK.out.1 | exact (show Kept w _ (fun k_ => P1_ k_ ∨ P2_ k_) from by repeat (first | (with_reducible first | exact HK.out | apply Kept.alloc | apply Kept.drewN | apply Kept.drew) | exact HK.out)).1) : w.heap.size ≤ gb637)); have IGW637 : Nonempty _ := ⟨GW637.out⟩; replace HK := Aside0.mk (Kept.below (S := (fun k_ => P1_ k_ ∨ P2_ k_)) (by repeat (first | (with_reducible first | exact HK.out | apply Kept.alloc | apply Kept.drewN | apply Kept.drew) | exact HK.out)) hb); have GE637 := Aside0.mk ((by rw [hg]; exact (below_size (by exact lB HB.out)) : w0.heap.size ≤ gb637)); have IGE637 : Nonempty _ := ⟨GE637.out⟩; replace HB := Aside0.mk (bj HB.out hb); clear hb hbox hg; obtain ⟨Ao12, co12, eo12⟩ := Kd.R_slice HO1.out; subst eo12) | ((with_reducible refine gate_callee (f := 41) rfl ?_); refine gL (some 9) Try.func41 #[.slice Ao12 l1.length co12] ?_; (with_reducible refine (spec_ValOk.calls k _ _ l1 false _ ?side1 ?side2 A4.out).mono ?_); (case side1 => exact lC <| (Kd.R_reads' HO1.out).2.2); (case side2 => exact (Kd.R_reads' HO1.out).2.1); rintro e w' ⟨rfl, ⟨nd, rfl⟩⟩; refine ⟨_, rfl, ?_⟩; (try (rw [drewN_self w11]; generalize hq_ : World.drewN w11 _ = w11; replace HO1 : Aside0 (Kd.R (Kd.int .i64) 3 w11 w0.heap.size (fun k_ => ((((P1_ k_ ∨ P2_ k_) ∨ w.heap.size ≤ k_)) ∧ some k_ ≠ (u9001_ : Value).ownBlock)) (.slice Ao12 l1.length co12) l1) := ⟨by rw [← hq_]; exact (by exact lR HO1.out)⟩; replace HO2 : Aside0 (Kd.R (Kd.int .i64) 3 w11 w0.heap.size (fun k_ => ((((P1_ k_ ∨ P2_ k_) ∨ w.heap.size ≤ k_)) ∧ some k_ ≠ ownBlock (.slice Ao12 l1.length co12))) u9001_ l2) := ⟨by rw [← hq_]; exact (by exact lR HO2.out)⟩; replace BK637 : Aside0 (w11.heap[gb637]? = some (.cells #[.int .i64 0, .slice none 0 0] 37 (0, 0))) := ⟨by rw [← hq_]; exact (by exact lK BK637.out)⟩; replace HK : Aside0 (Kept w w11 (fun k_ => P1_ k_ ∨ P2_ k_)) := ⟨by rw [← hq_]; exact (by repeat (first | (with_reducible first | exact HK.out | apply Kept.alloc | apply Kept.drewN | apply Kept.drew | refine Kept.setCell ?_ (.inr GW637.out) _) | exact HK.out))⟩; replace HB : Aside0 (Below w0.heap.size w0 w11) := ⟨by rw [← hq_]; exact (by exact jB HB.out)⟩; clear hq_))) | ((with_reducible refine gate_dst (N := 12) rfl ?_); refine Kd.R_lit (Kd.int .i64) _ 3 ?hg (N := 12) ?hd (xs := ([] : List Int)) (inner := []) (ok := fun _ => True) (okp := fun _ => True) ?hr ?hp (fun _ hk => hk) trivial (Below.refl _ _) (Nat.le_refl _) (by simp) ?_; (case hd => rfl); (case hg => rfl); (case hr => first | (go_simp; done) | (go_simp; rfl)); (case hp => exact (Reps.none _ _)); intro v640 w13 ho14 hb hg_ hnew_; clear hg_ hnew_; (first | rw [← Ny639.out] at ho14 | (simp only [Int.reduceToNat] at ho14; rw [← Ny639.out] at ho14)); have HO641 := Aside0.mk (Kd.R_lower (Kd.R_new' (Kd.R_new' (Kd.R_newM (M := fun k_ => ((P1_ k_ ∨ P2_ k_) ∨ w.heap.size ≤ k_)) ho14 (by first | exact HK.out.1 | exact (show Kept w _ (fun k_ => P1_ k_ ∨ P2_ k_) from by repeat (first | (with_reducible first | exact HK.out | apply Kept.alloc | apply Kept.drewN | apply Kept.drew | refine Kept.setCell ?_ (.inr GW637.out) _) | exact HK.out)).1) (fun k_ h_ => .inr h_)) (rl HO1.out)) (rl HO2.out)) (below_size (by exact jB HB.out))); replace HO1 := Aside0.mk (Kd.R_elder' (by exact lR HO1.out) (Kd.R_base ho14) hb); replace HO2 := Aside0.mk (Kd.R_elder' (by exact lR HO2.out) (Kd.R_base ho14) hb); replace BK637 := Aside0.mk (bb BK637.out hb); replace HK := Aside0.mk (Kept.below (S := (fun k_ => P1_ k_ ∨ P2_ k_)) (by repeat (first | (with_reducible first | exact HK.out | apply Kept.alloc | apply Kept.drewN | apply Kept.drew | refine Kept.setCell ?_ (.inr GW637.out) _) | exact HK.out)) hb); replace HB := Aside0.mk (bj HB.out hb); clear hb ho14) | ((with_reducible refine gate_builtin (b := .append) (xs := #[.tmp 12, .tmp 13]) rfl ?_); at_builtin; refine Kd.R_append_rows (Kd.int .i64) (w0 := w0) w0.heap.size rfl (.tmp 12) (.tmp 13) 24 3 (.int .i64 0) 8 rfl Try.underlying24 info3 rfl (by decide) (by omega) v640 y639 l0 _ _ _ (fun k_ => ((P1_ k_ ∨ P2_ k_) ∨ w.heap.size ≤ k_) ∧ some k_ ≠ ownBlock (.slice Ao12 l1.length co12) ∧ some k_ ≠ (u9001_ : Value).ownBlock) (fun _ => False) rfl rfl ?aO ?aR (fun _ _ h => h) (fun _ h => h.elim) ?aF ?aB ?aS ?aL ?_; (case aR => exact Kd.C_kept_now HR0.out (by repeat (first | (with_reducible first | exact HK.out | apply Kept.alloc | apply Kept.drewN | apply Kept.drew | refine Kept.setCell ?_ (.inr GW637.out) _) | exact HK.out))); (case aB => exact (by exact jB HB.out)); (case aF => exact (fun k_ hk => ⟨(.inr (Nat.le_trans (by first | exact HK.out.1 | exact (show Kept w _ (fun k_ => P1_ k_ ∨ P2_ k_) from by repeat (first | (with_reducible first | exact HK.out | apply Kept.alloc | apply Kept.drewN | apply Kept.drew | refine Kept.setCell ?_ (.inr GW637.out) _) | exact HK.out)).1) hk)), Kd.fresh' (rl HO1.out) k_ hk, Kd.fresh' (rl HO2.out) k_ hk⟩)); (case aO => exact (by exact lR <| Kd.R_mono HO641.out (fun _ hk => ⟨hk.1.1.1, ⟨hk.1.2, hk.2⟩⟩))); (case aS => exact (below_size (by exact jB HB.out))); (case aL => have := LMc10.out; omega); intro v643 w15 ho hb hg hat; rw [← Ny642.out] at ho; replace HO1 := Aside0.mk (Kd.R_after (ok := (fun k_ => ((P1_ k_ ∨ P2_ k_) ∨ w.heap.size ≤ k_) ∧ some k_ ≠ (u9001_ : Value).ownBlock)) (by exact lR HO1.out) hg hat); replace HO2 := Aside0.mk (Kd.R_after (ok := (fun k_ => ((P1_ k_ ∨ P2_ k_) ∨ w.heap.size ≤ k_) ∧ some k_ ≠ ownBlock (.slice Ao12 l1.length co12))) (by exact lR HO2.out) hg hat); replace BK637 := Aside0.mk (blk_grown (g := gb637) (o := .cells #[.int .i64 0, .slice none 0 0] 37 (0, 0)) (by exact lK BK637.out) hg (Kd.R_ne HO641.out BK637.out (by decide))); replace HB := Aside0.mk (hb); replace HK := Aside0.mk (Kept.of_grown (S := (fun k_ => P1_ k_ ∨ P2_ k_)) hg (by repeat (first | (with_reducible first | exact HK.out | apply Kept.alloc | apply Kept.drewN | apply Kept.drew | refine Kept.setCell ?_ (.inr GW637.out) _) | exact HK.out)) (fun k_ e_ => (HO641.out.1 k_ e_).1.1.1)); have HO644 := Aside0.mk (ho); clear HO641 ho hb hg hat; obtain ⟨hcz16_0, hcz16_1, hfz16_0, hfz16_1⟩ := cf2 BK637.out))
   refine bodyPost_ret (results_ct rfl _ _ gb637 37 #[.int .i64 3, .slice none 0 0] (0, 0) _ rfl (by exact p2 (lK BK637.out)) Try.underlying37 rfl (by kernel_rfl)) rfl ?_
   exact ⟨_, _, by first | rfl | (simp [errW_none, errW_some] <;> rfl) | (simp [*, errW_none, errW_some] <;> rfl), by first | exact Kd.R_nil _ _ _ _ _ | exact Kd.N_nil _ _ _ _ _ | exact Kd.V_nil _ _ _ _ _ | exact Kd.Q_nil _ _ _ _ _ | exact Kd.S_nil _ _ _ _ _, by exact lR <| Kd.R_mono (Kd.R_far (p := ⟨gb637, 1, none⟩) (Kd.R_far (p := ⟨gb637, 0, none⟩) (Kd.R_types HO644.out BK637.out (by decide)) (fun _ hk => by first | exact hk.2 | exact fun e_ => hk.2 (e_.trans (ob _ _ _ _))) (.int .i64 3)) (fun _ hk => by first | exact hk.2 | exact fun e_ => hk.2 (e_.trans (ob _ _ _ _))) (.slice none 0 0)) (fun _ hk => ⟨hk.1.1, (by simp [Value.ownBlock])⟩), by exact jB HB.out, by repeat (first | (with_reducible first | exact HK.out | apply Kept.alloc | apply Kept.drewN | apply Kept.drew | refine Kept.setCell ?_ (.inr GW637.out) _) | exact HK.out)⟩
  ·rw [if_neg c10] at H
   exact absurd H (by simp)

end Go.Proofs.Ytgalnmgkcdmnkaa.QFnActSkip

-- shorter
