/- Plain functions, and that the Go code computes them: written by a program of this session over the seat's translation; the conditions stand in each theorem. -/
import Derived.Test.YtgalnmgkcdmnkaaQFnPlnHomex0
import Derived.Test.YtgalnmgkcdmnkaaQFnPlnHomex1
import Derived.Test.YtgalnmgkcdmnkaaQFnPlnHomex12
import Derived.Test.YtgalnmgkcdmnkaaQFnPlnHomex13
namespace Go.Proofs.Ytgalnmgkcdmnkaa.QFnPlnHome
open Go.RowKit Go.Proofs.YtgalnmgkcdmnkaaW.PrintWords Go.Proofs.YtgalnmgkcdmnkaaW.PrintLast Go.Proofs.YtgalnmgkcdmnkaaW.PrintMore Go.Proofs.Ytgalnmgkcdmnkaa.HWords
attribute [local go_sem] max2_int min2_int max_two min_two max_three min_three max_four min_four   -- for this text's walks alone
set_option maxRecDepth 100000
set_option maxHeartbeats 8000000
set_option linter.unusedVariables false
set_option linter.unusedSimpArgs false

/-! ### spec_TrtOk: function 30 -/
mutual
def spec_TrtOk.j0 : Nat → Bool → List Int → List Int → Option (Bool)
 | 0, _, _, _ => none
 | k + 1, x14, x649000, x649001 => if x14 = true then (some false) else (spec_TrtOk.l0 k 0 x649000 x649001)
def spec_TrtOk.l0 : Nat → Int → List Int → List Int → Option (Bool)
 | 0, _, _, _ => none
 | k + 1, x3, x649000, x649001 => if x3 < (x649001.length : Int) then (if 0 ≤ x3 then ((spec_l1In.f (rd x649001 x3) 0 50).bind fun t652 => (if t652 = true then (spec_TrtOk.l0 k (wrap64 (x3 + 1)) x649000 x649001) else (some false))) else (none)) else (some true)
end
def spec_TrtOk.f (k : Nat) (l0_0 : List Int) (l0_1 : List Int) : Option (Bool) := (spec_ValOk.f k l0_0).bind fun t649 => (if t649 = true then ((spec_l1In.f (l0_1.length : Int) 1 3).bind fun t650 => (spec_TrtOk.j0 k (!t650) l0_0 l0_1)) else (spec_TrtOk.j0 k true l0_0 l0_1))
theorem spec_TrtOk.mono_l : ∀ k, (∀ y0 y1 y2, LeO (spec_TrtOk.j0 k y0 y1 y2) (spec_TrtOk.j0 (k + 1) y0 y1 y2)) ∧ (∀ y0 y1 y2, LeO (spec_TrtOk.l0 k y0 y1 y2) (spec_TrtOk.l0 (k + 1) y0 y1 y2))
 | 0 => ⟨fun _ _ _ r h => by simp [spec_TrtOk.j0] at h, fun _ _ _ r h => by simp [spec_TrtOk.l0] at h⟩
 | k + 1 => by
  obtain ⟨ih0, ih1⟩ := spec_TrtOk.mono_l k
  refine ⟨?_, ?_⟩
  ·intro y0 y1 y2
   unfold spec_TrtOk.j0
   repeat' first
   | (with_reducible exact ih0 _ _ _)
   | (with_reducible exact ih1 _ _ _)
   | (with_reducible exact spec_ValOk.mono _ _)
   | (with_reducible exact LeO.refl _)
   | (with_reducible exact LeO.none _)
   | (with_reducible refine LeO.ite ?_ ?_)
   | (with_reducible refine LeO.bind ?_ (fun _ => ?_))
   | exact LeO.none _
   | refine LeO.ite ?_ ?_
   | refine LeO.bind ?_ (fun _ => ?_)
  ·intro y0 y1 y2
   unfold spec_TrtOk.l0
   repeat' first
   | (with_reducible exact ih0 _ _ _)
   | (with_reducible exact ih1 _ _ _)
   | (with_reducible exact spec_ValOk.mono _ _)
   | (with_reducible exact LeO.refl _)
   | (with_reducible exact LeO.none _)
   | (with_reducible refine LeO.ite ?_ ?_)
   | (with_reducible refine LeO.bind ?_ (fun _ => ?_))
   | exact LeO.none _
   | refine LeO.ite ?_ ?_
   | refine LeO.bind ?_ (fun _ => ?_)
theorem spec_TrtOk.mono : ∀ a0 a1 k, LeO (spec_TrtOk.f k a0 a1) (spec_TrtOk.f (k + 1) a0 a1) := by
 intro a0 a1 k
 obtain ⟨ih0, ih1⟩ := spec_TrtOk.mono_l k
 unfold spec_TrtOk.f
 repeat' first
   | (with_reducible exact ih0 _ _ _)
   | (with_reducible exact ih1 _ _ _)
   | (with_reducible exact spec_ValOk.mono _ _)
   | (with_reducible exact LeO.refl _)
   | (with_reducible exact LeO.none _)
   | (with_reducible refine LeO.ite ?_ ?_)
   | (with_reducible refine LeO.bind ?_ (fun _ => ?_))
   | exact LeO.none _
   | refine LeO.ite ?_ ?_
   | refine LeO.bind ?_ (fun _ => ?_)
theorem spec_TrtOk.calls (k : Nat) (A0_0 : Option Addr) (c0_0 : Nat) (l0_0 : List Int) (A0_1 : Option Addr) (c0_1 : Nat) (l0_1 : List Int) (r : Bool) (w : World) (hr0_0 : Kd.C (Kd.int .i64) w A0_0 l0_0.length l0_0) (hc0_0 : l0_0.length ≤ c0_0) (hr0_1 : Kd.C (Kd.int .i64) w A0_1 l0_1.length l0_1) (hc0_1 : l0_1.length ≤ c0_1) (h : spec_TrtOk.f k l0_0 l0_1 = some r) :
  Calls Try.prog 30 #[.agg #[.slice A0_0 l0_0.length c0_0, .slice A0_1 l0_1.length c0_1]] w fun e w' => e = .returned (.bool r) ∧ Below w.heap.size w w' := by
 have hu57 := Try.underlying57
 have HR0_0 := aM hr0_0
 have HC0_0 := aM hc0_0
 clear hr0_0 hc0_0
 have HR0_1 := aM hr0_1
 have HC0_1 := aM hc0_1
 clear hr0_1 hc0_1
 have HB := aM (Below.refl w.heap.size w)
 have H : ((spec_ValOk.f k l0_0).bind fun t649 => (if t649 = true then ((spec_l1In.f (l0_1.length : Int) 1 3).bind fun t650 => (spec_TrtOk.j0 k (!t650) l0_0 l0_1)) else (spec_TrtOk.j0 k true l0_0 l0_1))) = some r := h
 clear h
 have HC2 := aM H
 clear H
 go_enter Try.func30, Try.ntmps30
 go_upto_region 1 with (first | ((with_reducible refine gate_dst (N := 1) rfl ?_); (try (refine gate_guard (by rfl) ?_; dsimp only)); refine bx 1 #[.slice A0_0 l0_0.length c0_0, .slice A0_1 l0_1.length c0_1] 57 ?_; intro gb648 hg w3 hbox hb; have BK648 := aM (hbox); have GW648 := aM ((gz hg HB.out)); have IGW648 : Nonempty _ := ⟨GW648.out⟩; have GE648 := aM ((gz hg HB.out)); have IGE648 : Nonempty _ := ⟨GE648.out⟩; replace HB := aM (bj HB.out hb); clear hb hbox hg))
 (try simp only [Act.put, sA, s0, sS])
 go_cut [14] (fun v14 wc => ∃ (kq : Nat) (x14_1 : Bool), v14 = .bool x14_1 ∧ Aside0 (spec_TrtOk.j0 kq x14_1 l0_0 l0_1 = some r) ∧ Aside0 (kq ≤ k) ∧ Aside0 (wc.heap[gb648]? = some (.cells #[(.slice A0_0 l0_0.length c0_0), (.slice A0_1 l0_1.length c0_1)] 57 (0, 0))) ∧ Aside0 (Below w.heap.size w wc))
 case first =>
  have H := HC2.out
  clear HC2
  obtain ⟨t649, A4, H⟩ := bS H
  try dsimp only at H
  by_cases c5 : t649 = true
  ·subst c5
   rw [if_pos rfl] at H
   try dsimp only at H
   obtain ⟨t650, A6, H⟩ := bS H
   try dsimp only at H
   have H' := aM H
   clear H
   obtain ⟨hcz7_0, hcz7_1, hfz7_0, hfz7_1⟩ := cf2 BK648.out
   go_wp2_with (first | ((with_reducible refine gate_callee (f := 41) rfl ?_); refine gL (some 6) Try.func41 #[.slice A0_0 l0_0.length c0_0] ?_; (with_reducible refine (spec_ValOk.calls k _ _ l0_0 true _ ?side1 ?side2 A4.out).mono ?_); (case side1 => exact lC <| (Kd.C_below HR0_0.out HB.out)); (case side2 => exact HC0_0.out); rintro e w' ⟨rfl, ⟨nd, rfl⟩⟩; refine ⟨_, rfl, ?_⟩) | (go_at_call 22; (with_reducible refine (spec_l1In.calls (l0_1.length : Int) 1 3 t650 _ A6.out).mono ?_); rintro e w' ⟨rfl, ⟨nd, rfl⟩⟩))
   go_meet
   case rel => exact ⟨_, (!t650), (by first | rfl | (simp; done) | (simp [*]; done)), H', ⟨by first | omega | exact Nat.le_refl _⟩, ⟨by exact lK <| BK648.out⟩, ⟨by exact jB HB.out⟩⟩
  ·replace c5 := Bool.eq_false_iff.mpr c5
   subst c5
   rw [if_neg nf] at H
   try dsimp only at H
   have H' := aM H
   clear H
   obtain ⟨hcz8_0, hcz8_1, hfz8_0, hfz8_1⟩ := cf2 BK648.out
   go_wp2_with (first | ((with_reducible refine gate_callee (f := 41) rfl ?_); refine gL (some 6) Try.func41 #[.slice A0_0 l0_0.length c0_0] ?_; (with_reducible refine (spec_ValOk.calls k _ _ l0_0 false _ ?side1 ?side2 A4.out).mono ?_); (case side1 => exact lC <| (Kd.C_below HR0_0.out HB.out)); (case side2 => exact HC0_0.out); rintro e w' ⟨rfl, ⟨nd, rfl⟩⟩; refine ⟨_, rfl, ?_⟩))
   go_meet
   case rel => exact ⟨_, (true), (by first | rfl | (simp; done) | (simp [*]; done)), H', ⟨by first | omega | exact Nat.le_refl _⟩, ⟨by exact lK <| BK648.out⟩, ⟨by exact jB HB.out⟩⟩
 case rest =>
  clear HC2
  try clear p2
  try clear c3
  try clear c4
  try clear c5
  try clear hcz7_0
  try clear hcz7_1
  try clear hcz8_0
  try clear hcz8_1
  try clear hfz7_0
  try clear hfz7_1
  try clear hfz8_0
  try clear hfz8_1
  obtain ⟨kq, x14_1, rfl, HA, HJ1, BK648, HB⟩ := hcut
  cases kq with
  | zero => exact absurd HA.out (by simp [spec_TrtOk.j0])
  | succ kj1 =>
   have H := HA.out
   clear HA
   simp only [spec_TrtOk.j0] at H
   by_cases c9 : x14_1 = true
   ·subst c9
    rw [if_pos rfl] at H
    try dsimp only at H
    obtain rfl := Option.some.inj H
    go_wp2
    go_ret
    exact ⟨er, by exact jB HB.out⟩
   ·replace c9 := Bool.eq_false_iff.mpr c9
    subst c9
    rw [if_neg nf] at H
    try dsimp only at H
    have H' := aM H
    clear H
    go_wp2
    go_loopg [3] kj1 (fun kq v3 w' => ∃ (x3_2 : Int), v3 = .int .i64 x3_2 ∧ Aside0 (spec_TrtOk.l0 kq x3_2 l0_0 l0_1 = some r) ∧ Aside0 (kq ≤ kj1) ∧ Aside0 (w'.heap[gb648]? = some (.cells #[(.slice A0_0 l0_0.length c0_0), (.slice A0_1 l0_1.length c0_1)] 57 (0, 0))) ∧ Aside0 (Below w.heap.size w w'))
    case atStart => exact ⟨(0), (by first | rfl | (simp; done) | (simp [*]; done)), H', ⟨Nat.le_refl _⟩, ⟨by exact lK <| BK648.out⟩, ⟨by exact jB HB.out⟩⟩
    case round =>
     clear H'
     try clear p2
     try clear c3
     try clear c4
     try clear c5
     try clear c9
     try clear hcz7_0
     try clear hcz7_1
     try clear hcz8_0
     try clear hcz8_1
     try clear hfz7_0
     try clear hfz7_1
     try clear hfz8_0
     try clear hfz8_1
     try clear p2
     obtain ⟨x3_2, rfl, HA, HK2, BK648, HB⟩ := hrel
     cases gk with
     | zero => exact absurd HA.out (by simp [spec_TrtOk.l0])
     | succ k2 =>
      have H := HA.out
      clear HA
      simp only [spec_TrtOk.l0] at H
      by_cases c10 : x3_2 < (l0_1.length : Int)
      ·rw [if_pos c10] at H
       have c10b0 := decide_eq_true c10
       clear c10
       by_cases c11 : 0 ≤ x3_2
       ·rw [if_pos c11] at H
        have c11b0 := decide_eq_true c11
        clear c11
        obtain ⟨t652, A12, H⟩ := bS H
        try dsimp only at H
        by_cases c13 : t652 = true
        ·subst c13
         rw [if_pos rfl] at H
         try dsimp only at H
         have H' := aM H
         clear H
         obtain ⟨hcz14_0, hcz14_1, hfz14_0, hfz14_1⟩ := cf2 BK648.out
         have p651 : 0 ≤ (x3_2 : Int) := of_decide_eq_true (by first | (with_reducible assumption) | assumption)
         have q651 : x3_2 < (l0_1.length : Int) := of_decide_eq_true (by first | (with_reducible assumption) | assumption)
         obtain ⟨ad651, e651, hx651_0⟩ := Kd.at_int HR0_1.out x3_2 p651 q651
         cases e651
         replace hx651_0 := cl HB.out hx651_0
         replace p651 := eq_true p651
         replace q651 := eq_true q651
         go_wp2_with (first | ((with_reducible refine gate_callee (f := 22) rfl ?_); refine gL (some 27) Try.func22 #[.int .i64 (rd l0_1 x3_2), .int .i64 0, .int .i64 50] ?_; (with_reducible refine (spec_l1In.calls (rd l0_1 x3_2) 0 50 true _ A12.out).mono ?_); rintro e w' ⟨rfl, ⟨nd, rfl⟩⟩; refine ⟨_, rfl, ?_⟩))
         go_roundg k2
         case measure => have := HJ1.out; have := HK2.out; omega
         case rel => exact ⟨(wrap64 (x3_2 + 1)), (by first | rfl | (simp; done) | (simp [*]; done)), H', ⟨by have := HJ1.out; have := HK2.out; omega⟩, ⟨by exact lK <| BK648.out⟩, ⟨by exact jB HB.out⟩⟩
        ·replace c13 := Bool.eq_false_iff.mpr c13
         subst c13
         rw [if_neg nf] at H
         try dsimp only at H
         obtain rfl := Option.some.inj H
         obtain ⟨hcz15_0, hcz15_1, hfz15_0, hfz15_1⟩ := cf2 BK648.out
         have p651 : 0 ≤ (x3_2 : Int) := of_decide_eq_true (by first | (with_reducible assumption) | assumption)
         have q651 : x3_2 < (l0_1.length : Int) := of_decide_eq_true (by first | (with_reducible assumption) | assumption)
         obtain ⟨ad651, e651, hx651_0⟩ := Kd.at_int HR0_1.out x3_2 p651 q651
         cases e651
         replace hx651_0 := cl HB.out hx651_0
         replace p651 := eq_true p651
         replace q651 := eq_true q651
         go_wp2_with (first | ((with_reducible refine gate_callee (f := 22) rfl ?_); refine gL (some 27) Try.func22 #[.int .i64 (rd l0_1 x3_2), .int .i64 0, .int .i64 50] ?_; (with_reducible refine (spec_l1In.calls (rd l0_1 x3_2) 0 50 false _ A12.out).mono ?_); rintro e w' ⟨rfl, ⟨nd, rfl⟩⟩; refine ⟨_, rfl, ?_⟩))
         go_ret
         exact ⟨er, by exact jB HB.out⟩
       ·rw [if_neg c11] at H
        exact absurd H (by simp)
      ·rw [if_neg c10] at H
       have c10b0 := decide_eq_false c10
       clear c10
       obtain rfl := Option.some.inj H
       obtain ⟨hcz16_0, hcz16_1, hfz16_0, hfz16_1⟩ := cf2 BK648.out
       go_wp2
       go_ret
       exact ⟨er, by exact jB HB.out⟩

/-! ### spec_PlnOk: function 10 -/
def spec_PlnOk.f (k : Nat) (a0_0 : Int) (l0_1 : List (List (S45))) (l0_2 : List Int) (l0_3 : List Int) : Option (Bool) := (spec_l1In.f a0_0 1 4).bind fun t654 => (if t654 = true then ((spec_CatOk.f k l0_1).bind fun t655 => (if t655 = true then ((spec_l1All.f k l0_3 3 1000).bind fun t656 => (if t656 = true then ((spec_TrtOk.f k l0_3 l0_2).bind fun t657 => (some t657)) else (some false))) else (some false))) else (some false))
theorem spec_PlnOk.mono : ∀ a0 a1 a2 a3 k, LeO (spec_PlnOk.f k a0 a1 a2 a3) (spec_PlnOk.f (k + 1) a0 a1 a2 a3) := by
 intro a0 a1 a2 a3 k
 unfold spec_PlnOk.f
 repeat' first
   | (with_reducible exact spec_CatOk.mono _ _)
   | (with_reducible exact spec_TrtOk.mono _ _ _)
   | (with_reducible exact spec_l1All.mono _ _ _ _)
   | (with_reducible exact LeO.refl _)
   | (with_reducible exact LeO.none _)
   | (with_reducible refine LeO.ite ?_ ?_)
   | (with_reducible refine LeO.bind ?_ (fun _ => ?_))
   | exact LeO.none _
   | refine LeO.ite ?_ ?_
   | refine LeO.bind ?_ (fun _ => ?_)
theorem spec_PlnOk.calls (k : Nat) (a0_0 : Int) (A0_1 : Option Addr) (c0_1 : Nat) (l0_1 : List (List (S45))) (A0_2 : Option Addr) (c0_2 : Nat) (l0_2 : List Int) (A0_3 : Option Addr) (c0_3 : Nat) (l0_3 : List Int) (r : Bool) (w : World) (hr0_1 : Kd.C (Kd.slice 45 k45) w A0_1 l0_1.length l0_1) (hc0_1 : l0_1.length ≤ c0_1) (hr0_2 : Kd.C (Kd.int .i64) w A0_2 l0_2.length l0_2) (hc0_2 : l0_2.length ≤ c0_2) (hr0_3 : Kd.C (Kd.int .i64) w A0_3 l0_3.length l0_3) (hc0_3 : l0_3.length ≤ c0_3) (h : spec_PlnOk.f k a0_0 l0_1 l0_2 l0_3 = some r) :
  Calls Try.prog 10 #[.agg #[.int .i64 a0_0, .slice A0_1 l0_1.length c0_1, .slice A0_2 l0_2.length c0_2, .slice A0_3 l0_3.length c0_3]] w fun e w' => e = .returned (.bool r) ∧ Below w.heap.size w w' := by
 have hu26 := Try.underlying26
 have hu57 := Try.underlying57
 have HR0_1 := aM hr0_1
 have HC0_1 := aM hc0_1
 clear hr0_1 hc0_1
 have HR0_2 := aM hr0_2
 have HC0_2 := aM hc0_2
 clear hr0_2 hc0_2
 have HR0_3 := aM hr0_3
 have HC0_3 := aM hc0_3
 clear hr0_3 hc0_3
 have HB := aM (Below.refl w.heap.size w)
 have H : ((spec_l1In.f a0_0 1 4).bind fun t654 => (if t654 = true then ((spec_CatOk.f k l0_1).bind fun t655 => (if t655 = true then ((spec_l1All.f k l0_3 3 1000).bind fun t656 => (if t656 = true then ((spec_TrtOk.f k l0_3 l0_2).bind fun t657 => (some t657)) else (some false))) else (some false))) else (some false))) = some r := h
 clear h
 obtain ⟨t654, A2, H⟩ := bS H
 try dsimp only at H
 by_cases c3 : t654 = true
 ·subst c3
  rw [if_pos rfl] at H
  try dsimp only at H
  obtain ⟨t655, A4, H⟩ := bS H
  try dsimp only at H
  by_cases c5 : t655 = true
  ·subst c5
   rw [if_pos rfl] at H
   try dsimp only at H
   obtain ⟨t656, A6, H⟩ := bS H
   try dsimp only at H
   by_cases c7 : t656 = true
   ·subst c7
    rw [if_pos rfl] at H
    try dsimp only at H
    obtain ⟨t657, A8, H⟩ := bS H
    try dsimp only at H
    obtain rfl := Option.some.inj H
    go_enter Try.func10, Try.ntmps10
    go_wp2_with (first | ((with_reducible refine gate_dst (N := 1) rfl ?_); refine bx 1 #[.int .i64 a0_0, .slice A0_1 l0_1.length c0_1, .slice A0_2 l0_2.length c0_2, .slice A0_3 l0_3.length c0_3] 26 ?_; intro gb653 hg w9 hbox hb; have BK653 := aM (hbox); have GW653 := aM ((gz hg HB.out)); have IGW653 : Nonempty _ := ⟨GW653.out⟩; have GE653 := aM ((gz hg HB.out)); have IGE653 : Nonempty _ := ⟨GE653.out⟩; replace HB := aM (bj HB.out hb); clear hb hbox hg; have hcz10_0 : w9.cell? ⟨gb653, 0, none⟩ = some (.int .i64 a0_0) := (blk_cell BK653.out 0).trans rfl; have hcz10_1 : w9.cell? ⟨gb653, 1, none⟩ = some (.slice A0_1 l0_1.length c0_1) := (blk_cell BK653.out 1).trans rfl; have hcz10_2 : w9.cell? ⟨gb653, 2, none⟩ = some (.slice A0_2 l0_2.length c0_2) := (blk_cell BK653.out 2).trans rfl; have hcz10_3 : w9.cell? ⟨gb653, 3, none⟩ = some (.slice A0_3 l0_3.length c0_3) := (blk_cell BK653.out 3).trans rfl; have hfz10_0 := blk_frozen BK653.out 0; have hfz10_1 := blk_frozen BK653.out 1; have hfz10_2 := blk_frozen BK653.out 2; have hfz10_3 := blk_frozen BK653.out 3) | ((with_reducible refine gate_callee (f := 22) rfl ?_); refine gL (some 5) Try.func22 #[.int .i64 a0_0, .int .i64 1, .int .i64 4] ?_; (with_reducible refine (spec_l1In.calls a0_0 1 4 true _ A2.out).mono ?_); rintro e w' ⟨rfl, ⟨nd, rfl⟩⟩; refine ⟨_, rfl, ?_⟩) | (go_at_call 28; (with_reducible refine (spec_CatOk.calls k _ _ l0_1 true _ ?side1 ?side2 A4.out).mono ?_); (case side1 => repeat (first | exact (Kd.C_below HR0_1.out (by exact jB HB.out)) | (with_reducible refine Kd.C_alloc ?_ _) | (with_reducible refine Kd.C_drewN ?_ _) | (with_reducible refine Kd.C_drew ?_))); (case side2 => exact HC0_1.out); rintro e w11 ⟨rfl, hb⟩; replace BK653 := aM (bb BK653.out hb); replace HB := aM (bj HB.out hb); (try clear hb); have hcz12_0 : w11.cell? ⟨gb653, 0, none⟩ = some (.int .i64 a0_0) := (blk_cell BK653.out 0).trans rfl; have hcz12_1 : w11.cell? ⟨gb653, 1, none⟩ = some (.slice A0_1 l0_1.length c0_1) := (blk_cell BK653.out 1).trans rfl; have hcz12_2 : w11.cell? ⟨gb653, 2, none⟩ = some (.slice A0_2 l0_2.length c0_2) := (blk_cell BK653.out 2).trans rfl; have hcz12_3 : w11.cell? ⟨gb653, 3, none⟩ = some (.slice A0_3 l0_3.length c0_3) := (blk_cell BK653.out 3).trans rfl; have hfz12_0 := blk_frozen BK653.out 0; have hfz12_1 := blk_frozen BK653.out 1; have hfz12_2 := blk_frozen BK653.out 2; have hfz12_3 := blk_frozen BK653.out 3) | (go_at_call 29; (with_reducible refine (spec_l1All.calls k _ _ l0_3 3 1000 true _ ?side1 ?side2 A6.out).mono ?_); (case side1 => exact lC <| (Kd.C_below HR0_3.out HB.out)); (case side2 => exact HC0_3.out); rintro e w' ⟨rfl, ⟨nd, rfl⟩⟩) | (go_at_call 30; (with_reducible refine (spec_TrtOk.calls k _ _ l0_3 _ _ l0_2 t657 _ ?side1 ?side2 ?side3 ?side4 A8.out).mono ?_); (case side1 => repeat (first | exact (Kd.C_below HR0_3.out (by exact jB HB.out)) | (with_reducible refine Kd.C_alloc ?_ _) | (with_reducible refine Kd.C_drewN ?_ _) | (with_reducible refine Kd.C_drew ?_))); (case side2 => exact HC0_3.out); (case side3 => repeat (first | exact (Kd.C_below HR0_2.out (by exact jB HB.out)) | (with_reducible refine Kd.C_alloc ?_ _) | (with_reducible refine Kd.C_drewN ?_ _) | (with_reducible refine Kd.C_drew ?_))); (case side4 => exact HC0_2.out); rintro e w13 ⟨rfl, hb⟩; replace BK653 := aM (bb BK653.out hb); replace HB := aM (bj HB.out hb); (try clear hb)))
    go_ret
    exact ⟨er, by exact jB HB.out⟩
   ·replace c7 := Bool.eq_false_iff.mpr c7
    subst c7
    rw [if_neg nf] at H
    try dsimp only at H
    obtain rfl := Option.some.inj H
    go_enter Try.func10, Try.ntmps10
    go_wp2_with (first | ((with_reducible refine gate_dst (N := 1) rfl ?_); refine bx 1 #[.int .i64 a0_0, .slice A0_1 l0_1.length c0_1, .slice A0_2 l0_2.length c0_2, .slice A0_3 l0_3.length c0_3] 26 ?_; intro gb653 hg w14 hbox hb; have BK653 := aM (hbox); have GW653 := aM ((gz hg HB.out)); have IGW653 : Nonempty _ := ⟨GW653.out⟩; have GE653 := aM ((gz hg HB.out)); have IGE653 : Nonempty _ := ⟨GE653.out⟩; replace HB := aM (bj HB.out hb); clear hb hbox hg; have hcz15_0 : w14.cell? ⟨gb653, 0, none⟩ = some (.int .i64 a0_0) := (blk_cell BK653.out 0).trans rfl; have hcz15_1 : w14.cell? ⟨gb653, 1, none⟩ = some (.slice A0_1 l0_1.length c0_1) := (blk_cell BK653.out 1).trans rfl; have hcz15_2 : w14.cell? ⟨gb653, 2, none⟩ = some (.slice A0_2 l0_2.length c0_2) := (blk_cell BK653.out 2).trans rfl; have hcz15_3 : w14.cell? ⟨gb653, 3, none⟩ = some (.slice A0_3 l0_3.length c0_3) := (blk_cell BK653.out 3).trans rfl; have hfz15_0 := blk_frozen BK653.out 0; have hfz15_1 := blk_frozen BK653.out 1; have hfz15_2 := blk_frozen BK653.out 2; have hfz15_3 := blk_frozen BK653.out 3) | ((with_reducible refine gate_callee (f := 22) rfl ?_); refine gL (some 5) Try.func22 #[.int .i64 a0_0, .int .i64 1, .int .i64 4] ?_; (with_reducible refine (spec_l1In.calls a0_0 1 4 true _ A2.out).mono ?_); rintro e w' ⟨rfl, ⟨nd, rfl⟩⟩; refine ⟨_, rfl, ?_⟩) | (go_at_call 28; (with_reducible refine (spec_CatOk.calls k _ _ l0_1 true _ ?side1 ?side2 A4.out).mono ?_); (case side1 => repeat (first | exact (Kd.C_below HR0_1.out (by exact jB HB.out)) | (with_reducible refine Kd.C_alloc ?_ _) | (with_reducible refine Kd.C_drewN ?_ _) | (with_reducible refine Kd.C_drew ?_))); (case side2 => exact HC0_1.out); rintro e w16 ⟨rfl, hb⟩; replace BK653 := aM (bb BK653.out hb); replace HB := aM (bj HB.out hb); (try clear hb); have hcz17_0 : w16.cell? ⟨gb653, 0, none⟩ = some (.int .i64 a0_0) := (blk_cell BK653.out 0).trans rfl; have hcz17_1 : w16.cell? ⟨gb653, 1, none⟩ = some (.slice A0_1 l0_1.length c0_1) := (blk_cell BK653.out 1).trans rfl; have hcz17_2 : w16.cell? ⟨gb653, 2, none⟩ = some (.slice A0_2 l0_2.length c0_2) := (blk_cell BK653.out 2).trans rfl; have hcz17_3 : w16.cell? ⟨gb653, 3, none⟩ = some (.slice A0_3 l0_3.length c0_3) := (blk_cell BK653.out 3).trans rfl; have hfz17_0 := blk_frozen BK653.out 0; have hfz17_1 := blk_frozen BK653.out 1; have hfz17_2 := blk_frozen BK653.out 2; have hfz17_3 := blk_frozen BK653.out 3) | (go_at_call 29; (with_reducible refine (spec_l1All.calls k _ _ l0_3 3 1000 false _ ?side1 ?side2 A6.out).mono ?_); (case side1 => exact lC <| (Kd.C_below HR0_3.out HB.out)); (case side2 => exact HC0_3.out); rintro e w' ⟨rfl, ⟨nd, rfl⟩⟩))
    go_ret
    exact ⟨er, by exact jB HB.out⟩
  ·replace c5 := Bool.eq_false_iff.mpr c5
   subst c5
   rw [if_neg nf] at H
   try dsimp only at H
   obtain rfl := Option.some.inj H
   go_enter Try.func10, Try.ntmps10
   go_wp2_with (first | ((with_reducible refine gate_dst (N := 1) rfl ?_); refine bx 1 #[.int .i64 a0_0, .slice A0_1 l0_1.length c0_1, .slice A0_2 l0_2.length c0_2, .slice A0_3 l0_3.length c0_3] 26 ?_; intro gb653 hg w18 hbox hb; have BK653 := aM (hbox); have GW653 := aM ((gz hg HB.out)); have IGW653 : Nonempty _ := ⟨GW653.out⟩; have GE653 := aM ((gz hg HB.out)); have IGE653 : Nonempty _ := ⟨GE653.out⟩; replace HB := aM (bj HB.out hb); clear hb hbox hg; have hcz19_0 : w18.cell? ⟨gb653, 0, none⟩ = some (.int .i64 a0_0) := (blk_cell BK653.out 0).trans rfl; have hcz19_1 : w18.cell? ⟨gb653, 1, none⟩ = some (.slice A0_1 l0_1.length c0_1) := (blk_cell BK653.out 1).trans rfl; have hcz19_2 : w18.cell? ⟨gb653, 2, none⟩ = some (.slice A0_2 l0_2.length c0_2) := (blk_cell BK653.out 2).trans rfl; have hcz19_3 : w18.cell? ⟨gb653, 3, none⟩ = some (.slice A0_3 l0_3.length c0_3) := (blk_cell BK653.out 3).trans rfl; have hfz19_0 := blk_frozen BK653.out 0; have hfz19_1 := blk_frozen BK653.out 1; have hfz19_2 := blk_frozen BK653.out 2; have hfz19_3 := blk_frozen BK653.out 3) | ((with_reducible refine gate_callee (f := 22) rfl ?_); refine gL (some 5) Try.func22 #[.int .i64 a0_0, .int .i64 1, .int .i64 4] ?_; (with_reducible refine (spec_l1In.calls a0_0 1 4 true _ A2.out).mono ?_); rintro e w' ⟨rfl, ⟨nd, rfl⟩⟩; refine ⟨_, rfl, ?_⟩) | (go_at_call 28; (with_reducible refine (spec_CatOk.calls k _ _ l0_1 false _ ?side1 ?side2 A4.out).mono ?_); (case side1 => repeat (first | exact (Kd.C_below HR0_1.out (by exact jB HB.out)) | (with_reducible refine Kd.C_alloc ?_ _) | (with_reducible refine Kd.C_drewN ?_ _) | (with_reducible refine Kd.C_drew ?_))); (case side2 => exact HC0_1.out); rintro e w20 ⟨rfl, hb⟩; replace BK653 := aM (bb BK653.out hb); replace HB := aM (bj HB.out hb); (try clear hb)))
   go_ret
   exact ⟨er, by exact jB HB.out⟩
 ·replace c3 := Bool.eq_false_iff.mpr c3
  subst c3
  rw [if_neg nf] at H
  try dsimp only at H
  obtain rfl := Option.some.inj H
  go_enter Try.func10, Try.ntmps10
  go_wp2_with (first | ((with_reducible refine gate_dst (N := 1) rfl ?_); refine bx 1 #[.int .i64 a0_0, .slice A0_1 l0_1.length c0_1, .slice A0_2 l0_2.length c0_2, .slice A0_3 l0_3.length c0_3] 26 ?_; intro gb653 hg w21 hbox hb; have BK653 := aM (hbox); have GW653 := aM ((gz hg HB.out)); have IGW653 : Nonempty _ := ⟨GW653.out⟩; have GE653 := aM ((gz hg HB.out)); have IGE653 : Nonempty _ := ⟨GE653.out⟩; replace HB := aM (bj HB.out hb); clear hb hbox hg; have hcz22_0 : w21.cell? ⟨gb653, 0, none⟩ = some (.int .i64 a0_0) := (blk_cell BK653.out 0).trans rfl; have hcz22_1 : w21.cell? ⟨gb653, 1, none⟩ = some (.slice A0_1 l0_1.length c0_1) := (blk_cell BK653.out 1).trans rfl; have hcz22_2 : w21.cell? ⟨gb653, 2, none⟩ = some (.slice A0_2 l0_2.length c0_2) := (blk_cell BK653.out 2).trans rfl; have hcz22_3 : w21.cell? ⟨gb653, 3, none⟩ = some (.slice A0_3 l0_3.length c0_3) := (blk_cell BK653.out 3).trans rfl; have hfz22_0 := blk_frozen BK653.out 0; have hfz22_1 := blk_frozen BK653.out 1; have hfz22_2 := blk_frozen BK653.out 2; have hfz22_3 := blk_frozen BK653.out 3) | ((with_reducible refine gate_callee (f := 22) rfl ?_); refine gL (some 5) Try.func22 #[.int .i64 a0_0, .int .i64 1, .int .i64 4] ?_; (with_reducible refine (spec_l1In.calls a0_0 1 4 false _ A2.out).mono ?_); rintro e w' ⟨rfl, ⟨nd, rfl⟩⟩; refine ⟨_, rfl, ?_⟩))
  go_ret
  exact ⟨er, by exact jB HB.out⟩

/-! ### spec_PlnHome: function 8 -/
def spec_PlnHome.f (k : Nat) (a0_0 : Int) (l0_1 : List (List (S45))) (l0_2 : List Int) (l0_3 : List Int) (a1 : Int) : Option (Int) := (spec_PlnOk.f k a0_0 l0_1 l0_2 l0_3).bind fun t659 => (if t659 = true then ((spec_l1In.f a1 0 (wrap64 (a0_0 - 1))).bind fun t660 => (if t660 = true then (if (l0_2.length : Int) = 0 then (none) else (some (Int.tmod a1 (l0_2.length : Int)))) else (some (-1)))) else (some (-1)))
theorem spec_PlnHome.mono : ∀ a0 a1 a2 a3 a4 k, LeO (spec_PlnHome.f k a0 a1 a2 a3 a4) (spec_PlnHome.f (k + 1) a0 a1 a2 a3 a4) := by
 intro a0 a1 a2 a3 a4 k
 unfold spec_PlnHome.f
 repeat' first
   | (with_reducible exact spec_PlnOk.mono _ _ _ _ _)
   | (with_reducible exact LeO.refl _)
   | (with_reducible exact LeO.none _)
   | (with_reducible refine LeO.ite ?_ ?_)
   | (with_reducible refine LeO.bind ?_ (fun _ => ?_))
   | exact LeO.none _
   | refine LeO.ite ?_ ?_
   | refine LeO.bind ?_ (fun _ => ?_)
theorem spec_PlnHome.calls (k : Nat) (a0_0 : Int) (A0_1 : Option Addr) (c0_1 : Nat) (l0_1 : List (List (S45))) (A0_2 : Option Addr) (c0_2 : Nat) (l0_2 : List Int) (A0_3 : Option Addr) (c0_3 : Nat) (l0_3 : List Int) (a1 : Int) (r : Int) (w : World) (hr0_1 : Kd.C (Kd.slice 45 k45) w A0_1 l0_1.length l0_1) (hc0_1 : l0_1.length ≤ c0_1) (hr0_2 : Kd.C (Kd.int .i64) w A0_2 l0_2.length l0_2) (hc0_2 : l0_2.length ≤ c0_2) (hr0_3 : Kd.C (Kd.int .i64) w A0_3 l0_3.length l0_3) (hc0_3 : l0_3.length ≤ c0_3) (h : spec_PlnHome.f k a0_0 l0_1 l0_2 l0_3 a1 = some r) :
  Calls Try.prog 8 #[.agg #[.int .i64 a0_0, .slice A0_1 l0_1.length c0_1, .slice A0_2 l0_2.length c0_2, .slice A0_3 l0_3.length c0_3], .int .i64 a1] w fun e w' => e = .returned (.int .i64 r) ∧ Below w.heap.size w w' := by
 have hu26 := Try.underlying26
 have HR0_1 := aM hr0_1
 have HC0_1 := aM hc0_1
 clear hr0_1 hc0_1
 have HR0_2 := aM hr0_2
 have HC0_2 := aM hc0_2
 clear hr0_2 hc0_2
 have HR0_3 := aM hr0_3
 have HC0_3 := aM hc0_3
 clear hr0_3 hc0_3
 have HB := aM (Below.refl w.heap.size w)
 have H : ((spec_PlnOk.f k a0_0 l0_1 l0_2 l0_3).bind fun t659 => (if t659 = true then ((spec_l1In.f a1 0 (wrap64 (a0_0 - 1))).bind fun t660 => (if t660 = true then (if (l0_2.length : Int) = 0 then (none) else (some (Int.tmod a1 (l0_2.length : Int)))) else (some (-1)))) else (some (-1)))) = some r := h
 clear h
 obtain ⟨t659, A3, H⟩ := bS H
 try dsimp only at H
 by_cases c4 : t659 = true
 ·subst c4
  rw [if_pos rfl] at H
  try dsimp only at H
  obtain ⟨t660, A5, H⟩ := bS H
  try dsimp only at H
  by_cases c6 : t660 = true
  ·subst c6
   rw [if_pos rfl] at H
   try dsimp only at H
   by_cases c7 : (l0_2.length : Int) = 0
   ·rw [if_pos c7] at H
    exact absurd H (by simp)
   ·rw [if_neg c7] at H
    have c7b0 := beq_eq_false_iff_ne.mpr c7
    have c7b1 := bne_iff_ne.mpr c7
    have c7b2 : ¬ (l0_2 = []) := fun h_ => c7 (by rw [h_]; rfl)
    obtain rfl := Option.some.inj H
    go_enter Try.func8, Try.ntmps8
    go_wp2_with (first | ((with_reducible refine gate_dst (N := 2) rfl ?_); refine bx 2 #[.int .i64 a0_0, .slice A0_1 l0_1.length c0_1, .slice A0_2 l0_2.length c0_2, .slice A0_3 l0_3.length c0_3] 26 ?_; intro gb658 hg w8 hbox hb; have BK658 := aM (hbox); have GW658 := aM ((gz hg HB.out)); have IGW658 : Nonempty _ := ⟨GW658.out⟩; have GE658 := aM ((gz hg HB.out)); have IGE658 : Nonempty _ := ⟨GE658.out⟩; replace HB := aM (bj HB.out hb); clear hb hbox hg; have hcz9_0 : w8.cell? ⟨gb658, 0, none⟩ = some (.int .i64 a0_0) := (blk_cell BK658.out 0).trans rfl; have hcz9_1 : w8.cell? ⟨gb658, 1, none⟩ = some (.slice A0_1 l0_1.length c0_1) := (blk_cell BK658.out 1).trans rfl; have hcz9_2 : w8.cell? ⟨gb658, 2, none⟩ = some (.slice A0_2 l0_2.length c0_2) := (blk_cell BK658.out 2).trans rfl; have hcz9_3 : w8.cell? ⟨gb658, 3, none⟩ = some (.slice A0_3 l0_3.length c0_3) := (blk_cell BK658.out 3).trans rfl; have hfz9_0 := blk_frozen BK658.out 0; have hfz9_1 := blk_frozen BK658.out 1; have hfz9_2 := blk_frozen BK658.out 2; have hfz9_3 := blk_frozen BK658.out 3) | ((with_reducible refine gate_callee (f := 10) rfl ?_); refine gL (some 6) Try.func10 #[.agg #[.int .i64 a0_0, .slice A0_1 l0_1.length c0_1, .slice A0_2 l0_2.length c0_2, .slice A0_3 l0_3.length c0_3]] ?_; (with_reducible refine (spec_PlnOk.calls k a0_0 _ _ l0_1 _ _ l0_2 _ _ l0_3 true _ ?side1 ?side2 ?side3 ?side4 ?side5 ?side6 A3.out).mono ?_); (case side1 => exact lC <| (Kd.C_below HR0_1.out HB.out)); (case side2 => exact HC0_1.out); (case side3 => exact lC <| (Kd.C_below HR0_2.out HB.out)); (case side4 => exact HC0_2.out); (case side5 => exact lC <| (Kd.C_below HR0_3.out HB.out)); (case side6 => exact HC0_3.out); rintro e w10 ⟨rfl, hb⟩; refine ⟨_, rfl, ?_⟩; replace BK658 := aM (bb BK658.out hb); replace HB := aM (bj HB.out hb); (try clear hb); have hcz11_0 : w10.cell? ⟨gb658, 0, none⟩ = some (.int .i64 a0_0) := (blk_cell BK658.out 0).trans rfl; have hcz11_1 : w10.cell? ⟨gb658, 1, none⟩ = some (.slice A0_1 l0_1.length c0_1) := (blk_cell BK658.out 1).trans rfl; have hcz11_2 : w10.cell? ⟨gb658, 2, none⟩ = some (.slice A0_2 l0_2.length c0_2) := (blk_cell BK658.out 2).trans rfl; have hcz11_3 : w10.cell? ⟨gb658, 3, none⟩ = some (.slice A0_3 l0_3.length c0_3) := (blk_cell BK658.out 3).trans rfl; have hfz11_0 := blk_frozen BK658.out 0; have hfz11_1 := blk_frozen BK658.out 1; have hfz11_2 := blk_frozen BK658.out 2; have hfz11_3 := blk_frozen BK658.out 3) | (go_at_call 22; (with_reducible refine (spec_l1In.calls a1 0 (wrap64 (a0_0 - 1)) true _ A5.out).mono ?_); rintro e w' ⟨rfl, ⟨nd, rfl⟩⟩))
    go_ret
    exact ⟨er, by exact jB HB.out⟩
  ·replace c6 := Bool.eq_false_iff.mpr c6
   subst c6
   rw [if_neg nf] at H
   try dsimp only at H
   obtain rfl := Option.some.inj H
   go_enter Try.func8, Try.ntmps8
   go_wp2_with (first | ((with_reducible refine gate_dst (N := 2) rfl ?_); refine bx 2 #[.int .i64 a0_0, .slice A0_1 l0_1.length c0_1, .slice A0_2 l0_2.length c0_2, .slice A0_3 l0_3.length c0_3] 26 ?_; intro gb658 hg w12 hbox hb; have BK658 := aM (hbox); have GW658 := aM ((gz hg HB.out)); have IGW658 : Nonempty _ := ⟨GW658.out⟩; have GE658 := aM ((gz hg HB.out)); have IGE658 : Nonempty _ := ⟨GE658.out⟩; replace HB := aM (bj HB.out hb); clear hb hbox hg; have hcz13_0 : w12.cell? ⟨gb658, 0, none⟩ = some (.int .i64 a0_0) := (blk_cell BK658.out 0).trans rfl; have hcz13_1 : w12.cell? ⟨gb658, 1, none⟩ = some (.slice A0_1 l0_1.length c0_1) := (blk_cell BK658.out 1).trans rfl; have hcz13_2 : w12.cell? ⟨gb658, 2, none⟩ = some (.slice A0_2 l0_2.length c0_2) := (blk_cell BK658.out 2).trans rfl; have hcz13_3 : w12.cell? ⟨gb658, 3, none⟩ = some (.slice A0_3 l0_3.length c0_3) := (blk_cell BK658.out 3).trans rfl; have hfz13_0 := blk_frozen BK658.out 0; have hfz13_1 := blk_frozen BK658.out 1; have hfz13_2 := blk_frozen BK658.out 2; have hfz13_3 := blk_frozen BK658.out 3) | ((with_reducible refine gate_callee (f := 10) rfl ?_); refine gL (some 6) Try.func10 #[.agg #[.int .i64 a0_0, .slice A0_1 l0_1.length c0_1, .slice A0_2 l0_2.length c0_2, .slice A0_3 l0_3.length c0_3]] ?_; (with_reducible refine (spec_PlnOk.calls k a0_0 _ _ l0_1 _ _ l0_2 _ _ l0_3 true _ ?side1 ?side2 ?side3 ?side4 ?side5 ?side6 A3.out).mono ?_); (case side1 => exact lC <| (Kd.C_below HR0_1.out HB.out)); (case side2 => exact HC0_1.out); (case side3 => exact lC <| (Kd.C_below HR0_2.out HB.out)); (case side4 => exact HC0_2.out); (case side5 => exact lC <| (Kd.C_below HR0_3.out HB.out)); (case side6 => exact HC0_3.out); rintro e w14 ⟨rfl, hb⟩; refine ⟨_, rfl, ?_⟩; replace BK658 := aM (bb BK658.out hb); replace HB := aM (bj HB.out hb); (try clear hb); have hcz15_0 : w14.cell? ⟨gb658, 0, none⟩ = some (.int .i64 a0_0) := (blk_cell BK658.out 0).trans rfl; have hcz15_1 : w14.cell? ⟨gb658, 1, none⟩ = some (.slice A0_1 l0_1.length c0_1) := (blk_cell BK658.out 1).trans rfl; have hcz15_2 : w14.cell? ⟨gb658, 2, none⟩ = some (.slice A0_2 l0_2.length c0_2) := (blk_cell BK658.out 2).trans rfl; have hcz15_3 : w14.cell? ⟨gb658, 3, none⟩ = some (.slice A0_3 l0_3.length c0_3) := (blk_cell BK658.out 3).trans rfl; have hfz15_0 := blk_frozen BK658.out 0; have hfz15_1 := blk_frozen BK658.out 1; have hfz15_2 := blk_frozen BK658.out 2; have hfz15_3 := blk_frozen BK658.out 3) | (go_at_call 22; (with_reducible refine (spec_l1In.calls a1 0 (wrap64 (a0_0 - 1)) false _ A5.out).mono ?_); rintro e w' ⟨rfl, ⟨nd, rfl⟩⟩))
   go_ret
   exact ⟨er, by exact jB HB.out⟩
 ·replace c4 := Bool.eq_false_iff.mpr c4
  subst c4
  rw [if_neg nf] at H
  try dsimp only at H
  obtain rfl := Option.some.inj H
  go_enter Try.func8, Try.ntmps8
  go_wp2_with (first | ((with_reducible refine gate_dst (N := 2) rfl ?_); refine bx 2 #[.int .i64 a0_0, .slice A0_1 l0_1.length c0_1, .slice A0_2 l0_2.length c0_2, .slice A0_3 l0_3.length c0_3] 26 ?_; intro gb658 hg w16 hbox hb; have BK658 := aM (hbox); have GW658 := aM ((gz hg HB.out)); have IGW658 : Nonempty _ := ⟨GW658.out⟩; have GE658 := aM ((gz hg HB.out)); have IGE658 : Nonempty _ := ⟨GE658.out⟩; replace HB := aM (bj HB.out hb); clear hb hbox hg; have hcz17_0 : w16.cell? ⟨gb658, 0, none⟩ = some (.int .i64 a0_0) := (blk_cell BK658.out 0).trans rfl; have hcz17_1 : w16.cell? ⟨gb658, 1, none⟩ = some (.slice A0_1 l0_1.length c0_1) := (blk_cell BK658.out 1).trans rfl; have hcz17_2 : w16.cell? ⟨gb658, 2, none⟩ = some (.slice A0_2 l0_2.length c0_2) := (blk_cell BK658.out 2).trans rfl; have hcz17_3 : w16.cell? ⟨gb658, 3, none⟩ = some (.slice A0_3 l0_3.length c0_3) := (blk_cell BK658.out 3).trans rfl; have hfz17_0 := blk_frozen BK658.out 0; have hfz17_1 := blk_frozen BK658.out 1; have hfz17_2 := blk_frozen BK658.out 2; have hfz17_3 := blk_frozen BK658.out 3) | ((with_reducible refine gate_callee (f := 10) rfl ?_); refine gL (some 6) Try.func10 #[.agg #[.int .i64 a0_0, .slice A0_1 l0_1.length c0_1, .slice A0_2 l0_2.length c0_2, .slice A0_3 l0_3.length c0_3]] ?_; (with_reducible refine (spec_PlnOk.calls k a0_0 _ _ l0_1 _ _ l0_2 _ _ l0_3 false _ ?side1 ?side2 ?side3 ?side4 ?side5 ?side6 A3.out).mono ?_); (case side1 => exact lC <| (Kd.C_below HR0_1.out HB.out)); (case side2 => exact HC0_1.out); (case side3 => exact lC <| (Kd.C_below HR0_2.out HB.out)); (case side4 => exact HC0_2.out); (case side5 => exact lC <| (Kd.C_below HR0_3.out HB.out)); (case side6 => exact HC0_3.out); rintro e w18 ⟨rfl, hb⟩; refine ⟨_, rfl, ?_⟩; replace BK658 := aM (bb BK658.out hb); replace HB := aM (bj HB.out hb); (try clear hb)))
  go_ret
  exact ⟨er, by exact jB HB.out⟩

/-! ### impl_FrmOk: function 31 -/
def impl_FrmOk.f (l0_0 : List Int) (l0_1 : List Int) (a0_2 : Int) : Option (Bool) := (impl_within.f l0_0 3 10000000).bind fun t662 => (if t662 = true then ((impl_within.f l0_1 2 10000000).bind fun t663 => (if t663 = true then ((impl_in.f a0_2 (-10000000) 10000000).bind fun t664 => (some t664)) else (some false))) else (some false))
theorem impl_FrmOk.calls (A0_0 : Option Addr) (c0_0 : Nat) (l0_0 : List Int) (A0_1 : Option Addr) (c0_1 : Nat) (l0_1 : List Int) (a0_2 : Int) (r : Bool) (w : World) (hr0_0 : Kd.C (Kd.int .i64) w A0_0 l0_0.length l0_0) (hc0_0 : l0_0.length ≤ c0_0) (hr0_1 : Kd.C (Kd.int .i64) w A0_1 l0_1.length l0_1) (hc0_1 : l0_1.length ≤ c0_1) (h : impl_FrmOk.f l0_0 l0_1 a0_2 = some r) :
  Calls Try.prog 31 #[.agg #[.slice A0_0 l0_0.length c0_0, .slice A0_1 l0_1.length c0_1, .int .i64 a0_2]] w fun e w' => e = .returned (.bool r) ∧ Below w.heap.size w w' := by
 have hu43 := Try.underlying43
 have HR0_0 := aM hr0_0
 have HC0_0 := aM hc0_0
 clear hr0_0 hc0_0
 have HR0_1 := aM hr0_1
 have HC0_1 := aM hc0_1
 clear hr0_1 hc0_1
 have HB := aM (Below.refl w.heap.size w)
 have H : ((impl_within.f l0_0 3 10000000).bind fun t662 => (if t662 = true then ((impl_within.f l0_1 2 10000000).bind fun t663 => (if t663 = true then ((impl_in.f a0_2 (-10000000) 10000000).bind fun t664 => (some t664)) else (some false))) else (some false))) = some r := h
 clear h
 obtain ⟨t662, A2, H⟩ := bS H
 try dsimp only at H
 by_cases c3 : t662 = true
 ·subst c3
  rw [if_pos rfl] at H
  try dsimp only at H
  obtain ⟨t663, A4, H⟩ := bS H
  try dsimp only at H
  by_cases c5 : t663 = true
  ·subst c5
   rw [if_pos rfl] at H
   try dsimp only at H
   obtain ⟨t664, A6, H⟩ := bS H
   try dsimp only at H
   obtain rfl := Option.some.inj H
   go_enter Try.func31, Try.ntmps31
   go_wp2_with (first | ((with_reducible refine gate_dst (N := 1) rfl ?_); refine bx 1 #[.slice A0_0 l0_0.length c0_0, .slice A0_1 l0_1.length c0_1, .int .i64 a0_2] 43 ?_; intro gb661 hg w7 hbox hb; have BK661 := aM (hbox); have GW661 := aM ((gz hg HB.out)); have IGW661 : Nonempty _ := ⟨GW661.out⟩; have GE661 := aM ((gz hg HB.out)); have IGE661 : Nonempty _ := ⟨GE661.out⟩; replace HB := aM (bj HB.out hb); clear hb hbox hg; obtain ⟨hcz8_0, hcz8_1, hcz8_2, hfz8_0, hfz8_1, hfz8_2⟩ := cf3 BK661.out) | ((with_reducible refine gate_callee (f := 25) rfl ?_); refine gL (some 5) Try.func25 #[.slice A0_0 l0_0.length c0_0, .int .i64 3, .int .i64 10000000] ?_; (with_reducible refine (impl_within.calls _ _ l0_0 3 10000000 true _ ?side1 ?side2 A2.out).mono ?_); (case side1 => exact lC <| (Kd.C_below HR0_0.out HB.out)); (case side2 => exact HC0_0.out); rintro e w9 ⟨rfl, hb⟩; refine ⟨_, rfl, ?_⟩; replace BK661 := aM (bb BK661.out hb); replace HB := aM (bj HB.out hb); (try clear hb); obtain ⟨hcz10_0, hcz10_1, hcz10_2, hfz10_0, hfz10_1, hfz10_2⟩ := cf3 BK661.out) | (go_at_call 25; (with_reducible refine (impl_within.calls _ _ l0_1 2 10000000 true _ ?side1 ?side2 A4.out).mono ?_); (case side1 => exact lC <| (Kd.C_below HR0_1.out HB.out)); (case side2 => exact HC0_1.out); rintro e w11 ⟨rfl, hb⟩; replace BK661 := aM (bb BK661.out hb); replace HB := aM (bj HB.out hb); (try clear hb); obtain ⟨hcz12_0, hcz12_1, hcz12_2, hfz12_0, hfz12_1, hfz12_2⟩ := cf3 BK661.out) | (go_at_call 23; (with_reducible refine (impl_in.calls a0_2 (-10000000) 10000000 t664 _ A6.out).mono ?_); rintro e w' ⟨rfl, ⟨nd, rfl⟩⟩))
   go_ret
   exact ⟨er, by exact jB HB.out⟩
  ·replace c5 := Bool.eq_false_iff.mpr c5
   subst c5
   rw [if_neg nf] at H
   try dsimp only at H
   obtain rfl := Option.some.inj H
   go_enter Try.func31, Try.ntmps31
   go_wp2_with (first | ((with_reducible refine gate_dst (N := 1) rfl ?_); refine bx 1 #[.slice A0_0 l0_0.length c0_0, .slice A0_1 l0_1.length c0_1, .int .i64 a0_2] 43 ?_; intro gb661 hg w13 hbox hb; have BK661 := aM (hbox); have GW661 := aM ((gz hg HB.out)); have IGW661 : Nonempty _ := ⟨GW661.out⟩; have GE661 := aM ((gz hg HB.out)); have IGE661 : Nonempty _ := ⟨GE661.out⟩; replace HB := aM (bj HB.out hb); clear hb hbox hg; obtain ⟨hcz14_0, hcz14_1, hcz14_2, hfz14_0, hfz14_1, hfz14_2⟩ := cf3 BK661.out) | ((with_reducible refine gate_callee (f := 25) rfl ?_); refine gL (some 5) Try.func25 #[.slice A0_0 l0_0.length c0_0, .int .i64 3, .int .i64 10000000] ?_; (with_reducible refine (impl_within.calls _ _ l0_0 3 10000000 true _ ?side1 ?side2 A2.out).mono ?_); (case side1 => exact lC <| (Kd.C_below HR0_0.out HB.out)); (case side2 => exact HC0_0.out); rintro e w15 ⟨rfl, hb⟩; refine ⟨_, rfl, ?_⟩; replace BK661 := aM (bb BK661.out hb); replace HB := aM (bj HB.out hb); (try clear hb); obtain ⟨hcz16_0, hcz16_1, hcz16_2, hfz16_0, hfz16_1, hfz16_2⟩ := cf3 BK661.out) | (go_at_call 25; (with_reducible refine (impl_within.calls _ _ l0_1 2 10000000 false _ ?side1 ?side2 A4.out).mono ?_); (case side1 => exact lC <| (Kd.C_below HR0_1.out HB.out)); (case side2 => exact HC0_1.out); rintro e w17 ⟨rfl, hb⟩; replace BK661 := aM (bb BK661.out hb); replace HB := aM (bj HB.out hb); (try clear hb)))
   go_ret
   exact ⟨er, by exact jB HB.out⟩
 ·replace c3 := Bool.eq_false_iff.mpr c3
  subst c3
  rw [if_neg nf] at H
  try dsimp only at H
  obtain rfl := Option.some.inj H
  go_enter Try.func31, Try.ntmps31
  go_wp2_with (first | ((with_reducible refine gate_dst (N := 1) rfl ?_); refine bx 1 #[.slice A0_0 l0_0.length c0_0, .slice A0_1 l0_1.length c0_1, .int .i64 a0_2] 43 ?_; intro gb661 hg w18 hbox hb; have BK661 := aM (hbox); have GW661 := aM ((gz hg HB.out)); have IGW661 : Nonempty _ := ⟨GW661.out⟩; have GE661 := aM ((gz hg HB.out)); have IGE661 : Nonempty _ := ⟨GE661.out⟩; replace HB := aM (bj HB.out hb); clear hb hbox hg; obtain ⟨hcz19_0, hcz19_1, hcz19_2, hfz19_0, hfz19_1, hfz19_2⟩ := cf3 BK661.out) | ((with_reducible refine gate_callee (f := 25) rfl ?_); refine gL (some 5) Try.func25 #[.slice A0_0 l0_0.length c0_0, .int .i64 3, .int .i64 10000000] ?_; (with_reducible refine (impl_within.calls _ _ l0_0 3 10000000 false _ ?side1 ?side2 A2.out).mono ?_); (case side1 => exact lC <| (Kd.C_below HR0_0.out HB.out)); (case side2 => exact HC0_0.out); rintro e w20 ⟨rfl, hb⟩; refine ⟨_, rfl, ?_⟩; replace BK661 := aM (bb BK661.out hb); replace HB := aM (bj HB.out hb); (try clear hb)))
  go_ret
  exact ⟨er, by exact jB HB.out⟩

/-! ### impl_FrmZero: function 32 -/
def impl_FrmZero.f  : Option (List Int × List Int × Int) := if 3 ≤ 35184372088832 then (if 2 ≤ 35184372088832 then (some ((List.replicate 3 0), (List.replicate 2 0), 0)) else (none)) else (none)
theorem impl_FrmZero.calls  (r1 : List Int) (r2 : List Int) (r3 : Int) (w : World) (h : impl_FrmZero.f  = some (r1, r2, r3)) :
  Calls Try.prog 32 #[] w fun e w' => ∃ v0_ v1_ : Value, e = .returned (.agg #[v0_, v1_, .int .i64 r3]) ∧ Kd.R (Kd.int .i64) 3 w' w.heap.size (fun k_ => some k_ ≠ (v1_ : Value).ownBlock) v0_ r1 ∧ Kd.R (Kd.int .i64) 3 w' w.heap.size (fun k_ => some k_ ≠ (v0_ : Value).ownBlock) v1_ r2 ∧ Below w.heap.size w w' := by
 have hu43 := Try.underlying43
 have HB := aM (Below.refl w.heap.size w)
 have H : (if 3 ≤ 35184372088832 then (if 2 ≤ 35184372088832 then (some ((List.replicate 3 0), (List.replicate 2 0), 0)) else (none)) else (none)) = some (r1, r2, r3) := h
 clear h
 by_cases c1 : 3 ≤ 35184372088832
 ·rw [if_pos c1] at H
  have c1b0 := eq_true c1
  have c1b1 := decide_eq_true c1
  clear c1
  obtain ⟨y666, hy666⟩ : ∃ y_ : List Int, y_ = (List.replicate 3 0) := ⟨_, rfl⟩
  try rw [← hy666] at H
  try dsimp only [Option.bind_some] at H
  have Ny666 := aM hy666
  clear hy666
  by_cases c2 : 2 ≤ 35184372088832
  ·rw [if_pos c2] at H
   have c2b0 := eq_true c2
   have c2b1 := decide_eq_true c2
   clear c2
   obtain ⟨y669, hy669⟩ : ∃ y_ : List Int, y_ = (List.replicate 2 0) := ⟨_, rfl⟩
   try rw [← hy669] at H
   try dsimp only [Option.bind_some] at H
   have Ny669 := aM hy669
   clear hy669
   simp only [Option.some.injEq, Prod.mk.injEq] at H
   obtain ⟨rfl, rfl, rfl⟩ := H
   go_enter Try.func32, Try.ntmps32
   try go_wp2_with (first | ((with_reducible refine gate_dst (N := 0) rfl ?_); refine bx 0 #[.slice none 0 0, .slice none 0 0, .int .i64 0] 43 ?_; intro gb665 hg w3 hbox hb; have BK665 := aM (hbox); have GW665 := aM ((gz hg HB.out)); have IGW665 : Nonempty _ := ⟨GW665.out⟩; have GE665 := aM ((gz hg HB.out)); have IGE665 : Nonempty _ := ⟨GE665.out⟩; replace HB := aM (bj HB.out hb); clear hb hbox hg))
   replace BK665 := aM (blk_drew BK665.out)
   replace HB := aM (below_drew1 HB.out)
   refine start_ (n := 4) (S := fun w' => True) (ds := []) #[false, false, false, false] (by kernel_rfl) rfl rfl trivial (fun hHeld => ?_)
   generalize w3.drew = w4 at BK665 HB hHeld ⊢
   refine join_ (σ := Value × Value) 2 #[true, true, false, false] (fun s_ => [(1, s_.1), (2, s_.2)]) (fun s_ w' => (Kd.R (Kd.int .i64) 3 w' w.heap.size (fun k_ => some k_ ≠ (s_.2 : Value).ownBlock) s_.1 y666) ∧ (Kd.R (Kd.int .i64) 3 w' w.heap.size (fun k_ => some k_ ≠ (s_.1 : Value).ownBlock) s_.2 y669) ∧ (w'.heap[gb665]? = some (.cells #[.slice none 0 0, .slice none 0 0, .int .i64 0] 43 (0, 0))) ∧ (Below w.heap.size w w')) ?_ ?_
   rotate_left
   ·intro hCont
    refine two_ (i := 0) (j := 1) (Ni := some 1) (Nj := some 2) #[true, false, false, false] #[false, true, false, false] rfl rfl rfl rfl (by kernel_rfl) (by decide) (by decide) (fun K hK => ?_) (fun K hK => ?_)
    ·skip
     refine Kd.R_make_step (Kd.int .i64) _ 3 (by rfl) (N := 1) rfl 24 _ _ rfl 3 rfl rfl Try.underlying24 (.int .i64 0) 8 info3 rfl (by decide) (by omega) 0 (ok := fun _ => True) (okp := fun _ => True) rfl (fun _ hk => hk) trivial (by omega) (by omega) (Below.refl _ _) (Nat.le_refl _) ?_
     intro v667 w5 ho6 hb hg_ hnew_
     clear hg_ hnew_
     (first | rw [← Ny666.out] at ho6 | (simp only [Int.reduceToNat] at ho6; rw [← Ny666.out] at ho6))
     have HO668 := aM (Kd.R_lower ho6 (below_size (by exact jB HB.out)))
     replace BK665 := aM (bb BK665.out hb)
     replace HB := aM (bj HB.out hb)
     clear hb ho6
     refine hK.out _ _ trivial (fun hHeld => ?_)
     clear hK K
     refine norm_ (a' := ?_) ?_ ?_
     rotate_left
     ·show Act.put _ (some 1) _ = _
      simp only [Act.put, sA, s0, sS, i64_w, i32_w]
      rfl
     refine one_ (i := 1) (N := some 2) #[true, true, false, false] rfl rfl (by kernel_rfl) (by decide) (fun K hK => ?_)
     refine Kd.R_make_step (Kd.int .i64) _ 3 (by rfl) (N := 2) rfl 24 _ _ rfl 2 rfl rfl Try.underlying24 (.int .i64 0) 8 info3 rfl (by decide) (by omega) 0 (ok := fun _ => True) (okp := fun _ => True) rfl (fun _ hk => hk) trivial (by omega) (by omega) (Below.refl _ _) (Nat.le_refl _) ?_
     intro v670 w7 ho8 hb hg_ hnew_
     clear hg_ hnew_
     (first | rw [← Ny669.out] at ho8 | (simp only [Int.reduceToNat] at ho8; rw [← Ny669.out] at ho8))
     have HO671 := aM (Kd.R_lower (Kd.R_new' ho8 (rl HO668.out)) (below_size (by exact jB HB.out)))
     replace HO668 := aM (Kd.R_elder' (by exact lR HO668.out) (Kd.R_base ho8) hb)
     replace BK665 := aM (bb BK665.out hb)
     replace HB := aM (bj HB.out hb)
     clear hb ho8
     obtain ⟨Ao9, co9, eo9⟩ := Kd.R_slice HO671.out
     (first | subst eo9 | (injection eo9 with f1_ f2_ f3_; have f4_ := f1_.symm; have f5_ := f3_.symm; clear f1_ f2_ f3_; subst f4_; subst f5_))
     obtain ⟨Ao10, co10, eo10⟩ := Kd.R_slice HO668.out
     (first | subst eo10 | (injection eo10 with f1_ f2_ f3_; have f4_ := f1_.symm; have f5_ := f3_.symm; clear f1_ f2_ f3_; subst f4_; subst f5_))
     refine hK.out _ _ trivial (fun hHeld => ?_)
     clear hK K
     refine norm_ (a' := ?_) ?_ ?_
     rotate_left
     ·show Act.put _ (some 2) _ = _
      simp only [Act.put, sA, s0, sS, i64_w, i32_w]
      rfl
     exact norm_ (by simp only [putAll, Act.put, List.setIfInBounds_toArray, List.set_cons_zero, List.set_cons_succ]) (hCont (.slice Ao10 y666.length co10, .slice Ao9 y669.length co9) _ ⟨(by exact lR <| Kd.R_mono HO668.out (fun _ hk => hk.2)), (by exact lR <| Kd.R_mono HO671.out (fun _ hk => hk.2)), (by exact lK BK665.out), (by exact jB HB.out)⟩)
    ·skip
     refine Kd.R_make_step (Kd.int .i64) _ 3 (by rfl) (N := 2) rfl 24 _ _ rfl 2 rfl rfl Try.underlying24 (.int .i64 0) 8 info3 rfl (by decide) (by omega) 0 (ok := fun _ => True) (okp := fun _ => True) rfl (fun _ hk => hk) trivial (by omega) (by omega) (Below.refl _ _) (Nat.le_refl _) ?_
     intro v670 w5 ho6 hb hg_ hnew_
     clear hg_ hnew_
     (first | rw [← Ny669.out] at ho6 | (simp only [Int.reduceToNat] at ho6; rw [← Ny669.out] at ho6))
     have HO671 := aM (Kd.R_lower ho6 (below_size (by exact jB HB.out)))
     replace BK665 := aM (bb BK665.out hb)
     replace HB := aM (bj HB.out hb)
     clear hb ho6
     refine hK.out _ _ trivial (fun hHeld => ?_)
     clear hK K
     refine norm_ (a' := ?_) ?_ ?_
     rotate_left
     ·show Act.put _ (some 2) _ = _
      simp only [Act.put, sA, s0, sS, i64_w, i32_w]
      rfl
     refine one_ (i := 0) (N := some 1) #[true, true, false, false] rfl rfl (by kernel_rfl) (by decide) (fun K hK => ?_)
     refine Kd.R_make_step (Kd.int .i64) _ 3 (by rfl) (N := 1) rfl 24 _ _ rfl 3 rfl rfl Try.underlying24 (.int .i64 0) 8 info3 rfl (by decide) (by omega) 0 (ok := fun _ => True) (okp := fun _ => True) rfl (fun _ hk => hk) trivial (by omega) (by omega) (Below.refl _ _) (Nat.le_refl _) ?_
     intro v667 w7 ho8 hb hg_ hnew_
     clear hg_ hnew_
     (first | rw [← Ny666.out] at ho8 | (simp only [Int.reduceToNat] at ho8; rw [← Ny666.out] at ho8))
     have HO668 := aM (Kd.R_lower (Kd.R_new' ho8 (rl HO671.out)) (below_size (by exact jB HB.out)))
     replace HO671 := aM (Kd.R_elder' (by exact lR HO671.out) (Kd.R_base ho8) hb)
     replace BK665 := aM (bb BK665.out hb)
     replace HB := aM (bj HB.out hb)
     clear hb ho8
     obtain ⟨Ao9, co9, eo9⟩ := Kd.R_slice HO671.out
     (first | subst eo9 | (injection eo9 with f1_ f2_ f3_; have f4_ := f1_.symm; have f5_ := f3_.symm; clear f1_ f2_ f3_; subst f4_; subst f5_))
     obtain ⟨Ao10, co10, eo10⟩ := Kd.R_slice HO668.out
     (first | subst eo10 | (injection eo10 with f1_ f2_ f3_; have f4_ := f1_.symm; have f5_ := f3_.symm; clear f1_ f2_ f3_; subst f4_; subst f5_))
     refine hK.out _ _ trivial (fun hHeld => ?_)
     clear hK K
     refine norm_ (a' := ?_) ?_ ?_
     rotate_left
     ·show Act.put _ (some 1) _ = _
      simp only [Act.put, sA, s0, sS, i64_w, i32_w]
      rfl
     exact norm_ (by simp only [putAll, Act.put, List.setIfInBounds_toArray, List.set_cons_zero, List.set_cons_succ]) (hCont (.slice Ao10 y666.length co10, .slice Ao9 y669.length co9) _ ⟨(by exact lR <| Kd.R_mono HO668.out (fun _ hk => hk.2)), (by exact lR <| Kd.R_mono HO671.out (fun _ hk => hk.2)), (by exact lK BK665.out), (by exact jB HB.out)⟩)
   rintro ⟨v667, v670⟩ w11 ⟨h0_, h1_, h2_, h3_⟩
   have HO668 : Aside0 (Kd.R (Kd.int .i64) 3 w11 w.heap.size (fun k_ => some k_ ≠ v670.ownBlock) v667 y666) := ⟨h0_⟩
   have HO671 : Aside0 (Kd.R (Kd.int .i64) 3 w11 w.heap.size (fun k_ => some k_ ≠ v667.ownBlock) v670 y669) := ⟨h1_⟩
   replace BK665 : Aside0 (w11.heap[gb665]? = some (.cells #[.slice none 0 0, .slice none 0 0, .int .i64 0] 43 (0, 0))) := ⟨h2_⟩
   replace HB : Aside0 (Below w.heap.size w w11) := ⟨h3_⟩
   clear h0_ h1_ h2_ h3_
   have hHeld := trivial
   obtain ⟨Ao12, co12, eo12⟩ := Kd.R_slice HO671.out
   (first | subst eo12 | (injection eo12 with f1_ f2_ f3_; have f4_ := f1_.symm; have f5_ := f3_.symm; clear f1_ f2_ f3_; subst f4_; subst f5_))
   obtain ⟨Ao13, co13, eo13⟩ := Kd.R_slice HO668.out
   (first | subst eo13 | (injection eo13 with f1_ f2_ f3_; have f4_ := f1_.symm; have f5_ := f3_.symm; clear f1_ f2_ f3_; subst f4_; subst f5_))
   refine norm_ (a' := ?_) ?_ ?_
   rotate_left
   ·simp only [putAll, Act.put, List.setIfInBounds_toArray, List.set_cons_zero, List.set_cons_succ]
    rfl
   refine pure_ (i := 2) (N := some 3) (v := ?_) (a' := ?_) #[true, true, true, false] rfl rfl (by kernel_rfl) (fun _ _ _ h => h) (Or.inl ⟨by rfl, ?_⟩) ?_ ?_
   rotate_left
   ·intro w'
    go_simp
    with_reducible rfl
   rotate_left
   ·simp only [Act.put, sA, s0, sS, i64_w, i32_w]
    rfl
   refine one_ (i := 3) (N := none) #[true, true, true, true] rfl rfl (by kernel_rfl) (by decide) (fun K hK => ?_)
   have hs14 : w11.cell? ⟨gb665, 0, none⟩ = some (.slice none 0 0) := (blk_cell BK665.out 0).trans rfl
   have hfs14 := blk_frozen BK665.out 0
   have hs15 : w11.cell? ⟨gb665, 1, none⟩ = some (.slice none 0 0) := (blk_cell BK665.out 1).trans rfl
   have hfs15 := blk_frozen BK665.out 1
   have hs16 : w11.cell? ⟨gb665, 2, none⟩ = some (.int .i64 0) := (blk_cell BK665.out 2).trans rfl
   have hfs16 := blk_frozen BK665.out 2
   refine skip_ (w1 := ?_) (by rfl) rfl ?_ ?_
   rotate_left
   ·go_simp
    rfl
   refine hK.out _ _ trivial (fun hHeld => ?_)
   clear hK K
   refine done_ (by kernel_rfl) ?_
   try go_wp2
   refine bodyPost_ret (results_cell_row rfl _ _ gb665 43 #[.slice Ao13 y666.length co13, .slice Ao12 y669.length co12, .int .i64 0] (0, 0) _ rfl (by exact p3 (lK BK665.out)) Try.underlying43 rfl (by kernel_rfl)) rfl ?_
   exact ⟨_, _, er, by exact lR <| Kd.R_mono (Kd.R_far (p := ⟨gb665, 2, none⟩) (Kd.R_far (p := ⟨gb665, 1, none⟩) (Kd.R_far (p := ⟨gb665, 0, none⟩) (Kd.R_types HO668.out BK665.out (by decide)) (fun _ hk => by first | exact hk.2 | exact fun e_ => hk.2 (e_.trans (ob _ _ _ _))) (.slice Ao13 y666.length co13)) (fun _ hk => by first | exact hk.2 | exact fun e_ => hk.2 (e_.trans (ob _ _ _ _))) (.slice Ao12 y669.length co12)) (fun _ hk => by first | exact hk.2 | exact fun e_ => hk.2 (e_.trans (ob _ _ _ _))) (.int .i64 0)) (fun _ hk => by first | exact hk.1 | exact fun e_ => hk.1 (e_.trans (ob _ _ _ _))), by exact lR <| Kd.R_mono (Kd.R_far (p := ⟨gb665, 2, none⟩) (Kd.R_far (p := ⟨gb665, 1, none⟩) (Kd.R_far (p := ⟨gb665, 0, none⟩) (Kd.R_types HO671.out BK665.out (by decide)) (fun _ hk => by first | exact hk.2 | exact fun e_ => hk.2 (e_.trans (ob _ _ _ _))) (.slice Ao13 y666.length co13)) (fun _ hk => by first | exact hk.2 | exact fun e_ => hk.2 (e_.trans (ob _ _ _ _))) (.slice Ao12 y669.length co12)) (fun _ hk => by first | exact hk.2 | exact fun e_ => hk.2 (e_.trans (ob _ _ _ _))) (.int .i64 0)) (fun _ hk => by first | exact hk.1 | exact fun e_ => hk.1 (e_.trans (ob _ _ _ _))), by exact jB HB.out⟩
  ·rw [if_neg c2] at H
   exact absurd H (by simp)
 ·rw [if_neg c1] at H
  exact absurd H (by simp)

/-! ### laws_coHolds: function 11 -/
def laws_coHolds.f  : Option (Bool) := (impl_FrmZero.f).bind fun bt672 => ((impl_FrmOk.f bt672.1 bt672.2.1 bt672.2.2).bind fun t679 => (some t679))
theorem laws_coHolds.calls  (r : Bool) (w : World) (h : laws_coHolds.f  = some r) :
  Calls Try.prog 11 #[] w fun e w' => e = .returned (.bool r) ∧ Below w.heap.size w w' := by
 have HB := aM (Below.refl w.heap.size w)
 have H : ((impl_FrmZero.f).bind fun bt672 => ((impl_FrmOk.f bt672.1 bt672.2.1 bt672.2.2).bind fun t679 => (some t679))) = some r := h
 clear h
 obtain ⟨⟨t672, t675, t678⟩, A1, H⟩ := bS H
 try dsimp only at H
 obtain ⟨t679, A2, H⟩ := bS H
 try dsimp only at H
 obtain rfl := Option.some.inj H
 go_enter Try.func11, Try.ntmps11
 go_wp2_with (first | ((with_reducible refine gate_callee (f := 32) rfl ?_); refine gL (some 1) Try.func32 #[] ?_; (with_reducible refine (impl_FrmZero.calls  t672 t675 t678 _ A1.out).mono ?_); rintro e w3 ⟨v673, v676, rfl, ho0, ho1, hb⟩; refine ⟨_, rfl, ?_⟩; have HO674 := aM (Kd.R_lower ho0 (below_size (by exact lB HB.out))); have HO677 := aM (Kd.R_lower ho1 (below_size (by exact lB HB.out))); replace HB := aM (bj HB.out hb); (try clear hb); (try clear ho0); (try clear ho1); obtain ⟨Ao4, co4, eo4⟩ := Kd.R_slice HO674.out; subst eo4; obtain ⟨Ao5, co5, eo5⟩ := Kd.R_slice HO677.out; subst eo5) | ((with_reducible refine gate_callee (f := 31) rfl ?_); refine gL (some 2) Try.func31 #[.agg #[.slice Ao4 t672.length co4, .slice Ao5 t675.length co5, .int .i64 t678]] ?_; (with_reducible refine (impl_FrmOk.calls _ _ t672 _ _ t675 t678 t679 _ ?side1 ?side2 ?side3 ?side4 A2.out).mono ?_); (case side1 => exact lC <| (Kd.R_reads' HO674.out).2.2); (case side2 => exact (Kd.R_reads' HO674.out).2.1); (case side3 => exact lC <| (Kd.R_reads' HO677.out).2.2); (case side4 => exact (Kd.R_reads' HO677.out).2.1); rintro e w6 ⟨rfl, hb⟩; refine ⟨_, rfl, ?_⟩; replace HO674 := aM (rb HO674.out hb); replace HO677 := aM (rb HO677.out hb); replace HB := aM (bj HB.out hb); (try clear hb)))
 go_ret
 exact ⟨er, by exact lB HB.out⟩

end Go.Proofs.Ytgalnmgkcdmnkaa.QFnPlnHome

-- shorter
