/- Plain functions, and that the Go code computes them: written by a program of this session over the seat's translation; the conditions stand in each theorem. -/
import Derived.Test.YtcpaplcnebdocaaHW5
import Derived.Test.YtcpaplcnebdocaaQFnRowDox0
import Derived.Test.YtcpaplcnebdocaaQFnRowDox1
import Derived.Test.YtcpaplcnebdocaaQFnRowDox6
namespace Go.Proofs.Ytcpaplcnebdocaa.QFnRowDo
open Go.RowKit Go.Proofs.YtcpaplcnebdocaaW.PrintWords Go.Proofs.YtcpaplcnebdocaaW.PrintLast Go.Proofs.YtcpaplcnebdocaaW.PrintMore Go.Proofs.Ytcpaplcnebdocaa.HWords
open Value (ownBlock)
attribute [local go_sem] max2_int min2_int max_two min_two max_three min_three max_four min_four   -- for this text's walks alone
set_option linter.unusedVariables false
set_option linter.unusedSimpArgs false
set_option maxRecDepth 100000
set_option maxHeartbeats 8000000
/-! ### spec_l20Line: function 80 -/
mutual
def spec_l20Line.j0 : Nat → Int → Bool → List Int → Int → Option (Int × Int × Int × List Int × List Int × Int × Int)
 | 0, _, _, _, _ => none
 | k + 1, x5, x6, x1000, x1001 => if x6 = true then ((spec_l20Rd_pick.f k x1000 x1001 3).bind fun bt536 => ((spec_l20Small.f k x1000 bt536.2).bind fun bt538 => (some (1, 0, wrap64 (1 + bt536.1), bt538.1, bt538.2.1, bt538.2.2.1, bt538.2.2.2)))) else (if x5 = 2 then (spec_l20Line.j1 k x5 (x5 == 2) x1000 x1001) else (if x5 = 3 then (spec_l20Line.j1 k x5 (x5 == 3) x1000 x1001) else (spec_l20Line.j1 k x5 (x5 == 4) x1000 x1001)))
def spec_l20Line.j1 : Nat → Int → Bool → List Int → Int → Option (Int × Int × Int × List Int × List Int × Int × Int)
 | 0, _, _, _, _ => none
 | k + 1, x5, x15, x1000, x1001 => if x15 = true then ((spec_l20Small.f k x1000 x1001).bind fun bt546 => ((spec_l20Rd_pick.f k x1000 bt546.2.2.2 3).bind fun bt555 => (if bt555.1 > 0 then ((spec_l20Rd_pick.f k x1000 bt555.2 3).bind fun bt560 => (some (2, bt560.1, 0, (([0, 0, 0] : List Int)), bt546.2.1, bt546.2.2.1, bt560.2))) else ((spec_l20Rd_pick.f k x1000 bt555.2 3).bind fun bt562 => (some (2, bt562.1, 0, bt546.1, bt546.2.1, bt546.2.2.1, bt562.2)))))) else (if x5 = 5 then ((spec_l20Small.f k x1000 x1001).bind fun bt564 => (some (3, 0, 0, bt564.1, bt564.2.1, bt564.2.2.1, bt564.2.2.2))) else (some (4, 0, 0, ([] : List Int), ([] : List Int), 0, x1001)))
end
def spec_l20Line.f (k : Nat) (s0_0 : List Int) (s0_1 : Int) : Option (Int × Int × Int × List Int × List Int × Int × Int) := (spec_l20Rd_pick.f k s0_0 s0_1 7).bind fun bt534 => (if bt534.1 = 0 then (spec_l20Line.j0 k bt534.1 (bt534.1 == 0) s0_0 bt534.2) else (spec_l20Line.j0 k bt534.1 (bt534.1 == 1) s0_0 bt534.2))
set_option maxHeartbeats 8000000 in
set_option maxRecDepth 100000 in
theorem spec_l20Line.calls (k : Nat) (g : Nat) (s0_0 : List Int) (s0_1 : Int) (r1 : Int) (r2 : Int) (r3 : Int) (r4 : List Int) (r5 : List Int) (r6 : Int) (r7 : Int) (w0 w : World) (hI : IsS79 w0 w g s0_0 s0_1) (hB : Below w0.heap.size w0 w) (h : spec_l20Line.f k s0_0 s0_1 = some (r1, r2, r3, r4, r5, r6, r7)) :
  Calls Try.prog 80 #[.pointer (some ⟨g, 0, none⟩)] w fun e w' => ∃ v3_ v4_ : Value, e = .returned (.agg #[.int .i64 r1, .int .i64 r2, .int .i64 r3, v3_, v4_, .int .i64 r6]) ∧ Kd.R (Kd.int .i64) 3 w' w.heap.size (fun k_ => some k_ ≠ (v4_ : Value).ownBlock) v3_ r4 ∧ Kd.R (Kd.int .i64) 3 w' w.heap.size (fun k_ => some k_ ≠ (v3_ : Value).ownBlock) v4_ r5 ∧ IsS79 w0 w' g s0_0 r7 ∧ Below w0.heap.size w0 w' ∧ KeepBut w w' g none := by
 have hu100 := Try.underlying100; have hu34 := Try.underlying34; have HI0 := aM hI; have IHI0 : Nonempty _ := ⟨IsS79.ge hI⟩
 have HK := aM (KeepBut.refl w g none); have HL := aM hB.size
 clear hI; have HW0 := aM hB.size
 have HB := aM hB; clear hB; have H : ((spec_l20Rd_pick.f k s0_0 s0_1 7).bind fun bt534 => (if bt534.1 = 0 then (spec_l20Line.j0 k bt534.1 (bt534.1 == 0) s0_0 bt534.2) else (spec_l20Line.j0 k bt534.1 (bt534.1 == 1) s0_0 bt534.2))) = some (r1, r2, r3, r4, r5, r6, r7) := h
 clear h; obtain ⟨⟨t534, t535⟩, A2, H⟩ := bS H
 try dsimp only at H
 have HC3 := aM H; clear H; go_enter Try.func80, Try.ntmps80
 go_upto_if 6 with (first | ((with_reducible refine gate_dst (N := 2) rfl ?_); refine bx 2 #[.int .i64 0, .int .i64 0, .int .i64 0, .slice none 0 0, .slice none 0 0, .int .i64 0] 100 ?_; intro gb533 hg w4 hbox hb; replace HB := aM (bj HB.out hb); have BK533 := aM (hbox); have GW533 := aM (gk hg HK.out); have IGW533 := wn GW533.out; have GE533 := aM ((Nat.le_trans HW0.out (gk hg HK.out) : w0.heap.size ≤ gb533)); have IGE533 := wn GE533.out; replace HK := aM (kbl HK.out hb); have NB0_533 := aM ((by rw [hg]; exact Nat.ne_of_lt (IsS79.lt (show IsS79 w0 _ g s0_0 s0_1 from by exact IsS79.j HI0.out)) : g ≠ gb533)); have INB0_533 := wn NB0_533.out; have NB533_0 := aM ((by rw [hg]; exact Nat.ne_of_gt (IsS79.lt (show IsS79 w0 _ g s0_0 s0_1 from by exact IsS79.j HI0.out)) : gb533 ≠ g)); replace HI0 := aM (IsS79.below (by exact IsS79.j HI0.out) hb); clear hb hbox hg) | (refine gL (some 5) Try.func48 #[.pointer (some ⟨g, 0, none⟩), .int .i64 7] ?_; (with_reducible refine (spec_l20Rd_pick.calls k g s0_0 s0_1 7 t534 t535 w0 _ (by exact IsS79.j HI0.out) (by exact jB HB.out) A2.out).mono ?_); rintro e w5 ⟨rfl, hi, hb, hk⟩; refine ⟨_, rfl, ?_⟩; replace BK533 := aM (kb hk BK533.out NB533_0.out); replace HK := aM (kt HK.out hk); replace HB := aM (hb); replace HI0 := aM (hi); (try clear hb hk hi)))
 (try simp only [Act.put, sA, s0, sS])
 go_cut [6] (fun v6 wc => ∃ (kq : Nat) (x6_2 : Bool), v6 = .bool x6_2 ∧ Aside0 (spec_l20Line.j0 kq t534 x6_2 s0_0 t535 = some (r1, r2, r3, r4, r5, r6, r7)) ∧ Aside0 (kq ≤ k) ∧ Aside0 (wc.heap[gb533]? = some (.cells #[.int .i64 0, .int .i64 0, .int .i64 0, (.slice none 0 0), (.slice none 0 0), .int .i64 0] 100 (0, 0))) ∧ Aside0 (IsS79 w0 wc g s0_0 t535) ∧ Aside0 (KeepBut w wc g none) ∧ Aside0 (Below w0.heap.size w0 wc))
 case first =>
  have H := HC3.out
  clear HC3
  by_cases c6 : t534 = 0
  ·rw [if_pos c6] at H; have c6b0 := beq_iff_eq.mpr c6
   have c6b1 := bne_eq_false_iff_eq.mpr c6
   clear c6
   (first | rw [c6b0] | (simp only [i64_w, i32_w]; rw [c6b0]) | skip)
   have H' := aM H
   clear H; go_wp2
   go_meet
   case rel => exact ⟨_, ((t534 == 0)), sr, H', ⟨by first | omega | exact Nat.le_refl _⟩, ⟨by exact lK <| BK533.out⟩, ⟨by exact IsS79.j HI0.out⟩, ⟨by exact jK HK.out⟩, ⟨by exact jB HB.out⟩⟩
  ·rw [if_neg c6] at H; have c6b0 := beq_eq_false_iff_ne.mpr c6
   have c6b1 := bne_iff_ne.mpr c6
   (first | rw [c6b0] | (simp only [i64_w, i32_w]; rw [c6b0]) | skip)
   have H' := aM H
   clear H; go_wp2
   go_meet
   case rel => exact ⟨_, ((t534 == 1)), sr, H', ⟨by first | omega | exact Nat.le_refl _⟩, ⟨by exact lK <| BK533.out⟩, ⟨by exact IsS79.j HI0.out⟩, ⟨by exact jK HK.out⟩, ⟨by exact jB HB.out⟩⟩
 case rest =>
  clear HC3; (try clear p2); (try clear c4); (try clear c6); (try clear c6b0); (try clear c6b1)
  obtain ⟨kq, x6_2, rfl, HA, HJ2, BK533, HI0, HK, HB⟩ := hcut
  cases kq with
  | zero => exact absurd HA.out (by simp [spec_l20Line.j0])
  | succ kj2 =>
   have H := HA.out
   clear HA; simp only [spec_l20Line.j0] at H
   by_cases c7 : x6_2 = true
   ·subst c7; rw [if_pos rfl] at H
    try dsimp only at H
    obtain ⟨⟨t536, t537⟩, A8, H⟩ := bS H
    try dsimp only at H
    obtain ⟨⟨t538, t541, t544, t545⟩, A9, H⟩ := bS H
    try dsimp only at H
    simp only [Option.some.injEq, Prod.mk.injEq] at H
    obtain ⟨rfl, rfl, rfl, rfl, rfl, rfl, rfl⟩ := H
    go_wp2_with (first | (refine gL (some 10) Try.func48 #[.pointer (some ⟨g, 0, none⟩), .int .i64 3] ?_; (with_reducible refine (spec_l20Rd_pick.calls kj2 g s0_0 t535 3 t536 t537 w0 _ (by exact IsS79.j HI0.out) (by exact jB HB.out) A8.out).mono ?_); rintro e w10 ⟨rfl, hi, hb, hk⟩; refine ⟨_, rfl, ?_⟩; replace BK533 := aM (kb hk BK533.out NB533_0.out); replace HK := aM (kt HK.out hk); replace HB := aM (hb); replace HI0 := aM (hi); (try clear hb hk hi)) | (refine gL (some 13) Try.func81 #[.pointer (some ⟨g, 0, none⟩)] ?_; (with_reducible refine (spec_l20Small.calls kj2 g s0_0 t537 t538 t541 t544 t545 w0 _ (by exact IsS79.j HI0.out) (by exact jB HB.out) A9.out).mono ?_); rintro e w11 ⟨v539, v542, rfl, ho0, ho1, hi, hb, hk⟩; refine ⟨_, rfl, ?_⟩; replace BK533 := aM (kb hk BK533.out NB533_0.out); have HO540 := aM (lw ho0 HK.out); have HO543 := aM (lw ho1 HK.out); replace HK := aM (kt HK.out hk); replace HB := aM (hb); replace HI0 := aM (hi); (try clear hb hk hi); (try clear ho0); (try clear ho1); obtain ⟨Ao12, co12, rfl⟩ := Kd.R_slice HO543.out; obtain ⟨Ao13, co13, rfl⟩ := Kd.R_slice HO540.out; have hnb14 := NB533_0.out; have hnc14 := NB0_533.out; obtain ⟨hcz15_0, hcz15_1, hcz15_2, hcz15_3, hcz15_4, hcz15_5, hfz15_0, hfz15_1, hfz15_2, hfz15_3, hfz15_4, hfz15_5⟩ := cf6 BK533.out))
    refine bodyPost_ret (results_cell_row rfl _ _ gb533 100 #[.int .i64 1, .int .i64 0, .int .i64 (wrap64 (1 + t536)), .slice Ao13 t538.length co13, .slice Ao12 t541.length co12, .int .i64 t544] (0, 0) _ rfl (by exact p6 (lK BK533.out)) Try.underlying100 rfl (by kernel_rfl)) rfl ?_
    exact ⟨_, _, er, by exact lR <| Kd.R_mono (Kd.R_far (p := ⟨gb533, 5, none⟩) (Kd.R_far (p := ⟨gb533, 4, none⟩) (Kd.R_far (p := ⟨gb533, 3, none⟩) (Kd.R_far (p := ⟨gb533, 2, none⟩) (Kd.R_far (p := ⟨gb533, 1, none⟩) (Kd.R_far (p := ⟨gb533, 0, none⟩) (Kd.R_types HO540.out BK533.out (by decide)) (fun _ hk => by first | exact hk.2 | exact fun e_ => hk.2 (e_.trans (ob _ _ _ _))) (.int .i64 1)) (fun _ hk => by first | exact hk.2 | exact fun e_ => hk.2 (e_.trans (ob _ _ _ _))) (.int .i64 0)) (fun _ hk => by first | exact hk.2 | exact fun e_ => hk.2 (e_.trans (ob _ _ _ _))) (.int .i64 (wrap64 (1 + t536)))) (fun _ hk => by first | exact hk.2 | exact fun e_ => hk.2 (e_.trans (ob _ _ _ _))) (.slice Ao13 t538.length co13)) (fun _ hk => by first | exact hk.2 | exact fun e_ => hk.2 (e_.trans (ob _ _ _ _))) (.slice Ao12 t541.length co12)) (fun _ hk => by first | exact hk.2 | exact fun e_ => hk.2 (e_.trans (ob _ _ _ _))) (.int .i64 t544)) (fun _ hk => by first | exact hk.1 | exact fun e_ => hk.1 (e_.trans (ob _ _ _ _))), by exact lR <| Kd.R_mono (Kd.R_far (p := ⟨gb533, 5, none⟩) (Kd.R_far (p := ⟨gb533, 4, none⟩) (Kd.R_far (p := ⟨gb533, 3, none⟩) (Kd.R_far (p := ⟨gb533, 2, none⟩) (Kd.R_far (p := ⟨gb533, 1, none⟩) (Kd.R_far (p := ⟨gb533, 0, none⟩) (Kd.R_types HO543.out BK533.out (by decide)) (fun _ hk => by first | exact hk.2 | exact fun e_ => hk.2 (e_.trans (ob _ _ _ _))) (.int .i64 1)) (fun _ hk => by first | exact hk.2 | exact fun e_ => hk.2 (e_.trans (ob _ _ _ _))) (.int .i64 0)) (fun _ hk => by first | exact hk.2 | exact fun e_ => hk.2 (e_.trans (ob _ _ _ _))) (.int .i64 (wrap64 (1 + t536)))) (fun _ hk => by first | exact hk.2 | exact fun e_ => hk.2 (e_.trans (ob _ _ _ _))) (.slice Ao13 t538.length co13)) (fun _ hk => by first | exact hk.2 | exact fun e_ => hk.2 (e_.trans (ob _ _ _ _))) (.slice Ao12 t541.length co12)) (fun _ hk => by first | exact hk.2 | exact fun e_ => hk.2 (e_.trans (ob _ _ _ _))) (.int .i64 t544)) (fun _ hk => by first | exact hk.1 | exact fun e_ => hk.1 (e_.trans (ob _ _ _ _))), by exact IsS79.j HI0.out, by exact jB HB.out, by exact jK HK.out⟩
   ·replace c7 := Bool.eq_false_iff.mpr c7
    subst c7; rw [if_neg nf] at H
    try dsimp only at H
    have HC16 := aM H; clear H; go_upto_if 15 with (fail)
    go_cut [15] (fun v15 wc => ∃ (kq : Nat) (x15_15 : Bool), v15 = .bool x15_15 ∧ Aside0 (spec_l20Line.j1 kq t534 x15_15 s0_0 t535 = some (r1, r2, r3, r4, r5, r6, r7)) ∧ Aside0 (kq ≤ kj2) ∧ Aside0 (wc.heap[gb533]? = some (.cells #[.int .i64 0, .int .i64 0, .int .i64 0, (.slice none 0 0), (.slice none 0 0), .int .i64 0] 100 (0, 0))) ∧ Aside0 (IsS79 w0 wc g s0_0 t535) ∧ Aside0 (KeepBut w wc g none) ∧ Aside0 (Below w0.heap.size w0 wc))
    case first =>
     have H := HC16.out
     clear HC16
     by_cases c17 : t534 = 2
     ·rw [if_pos c17] at H; have c17b0 := beq_iff_eq.mpr c17
      have c17b1 := bne_eq_false_iff_eq.mpr c17
      clear c17
      (first | rw [c17b0] | (simp only [i64_w, i32_w]; rw [c17b0]) | skip)
      have H' := aM H
      clear H; go_wp2
      go_meet
      case rel => exact ⟨_, ((t534 == 2)), sr, H', ⟨by have := HJ2.out; first | omega | exact Nat.le_refl _⟩, ⟨by exact lK <| BK533.out⟩, ⟨by exact IsS79.j HI0.out⟩, ⟨by exact jK HK.out⟩, ⟨by exact jB HB.out⟩⟩
     ·rw [if_neg c17] at H; have c17b0 := beq_eq_false_iff_ne.mpr c17
      have c17b1 := bne_iff_ne.mpr c17
      (first | rw [c17b0] | (simp only [i64_w, i32_w]; rw [c17b0]) | skip)
      by_cases c18 : t534 = 3
      ·rw [if_pos c18] at H; have c18b0 := beq_iff_eq.mpr c18
       have c18b1 := bne_eq_false_iff_eq.mpr c18
       clear c18; have H' := aM H
       clear H; go_wp2
       go_meet
       case rel => exact ⟨_, ((t534 == 3)), sr, H', ⟨by have := HJ2.out; first | omega | exact Nat.le_refl _⟩, ⟨by exact lK <| BK533.out⟩, ⟨by exact IsS79.j HI0.out⟩, ⟨by exact jK HK.out⟩, ⟨by exact jB HB.out⟩⟩
      ·rw [if_neg c18] at H; have c18b0 := beq_eq_false_iff_ne.mpr c18
       have c18b1 := bne_iff_ne.mpr c18
       have H' := aM H
       clear H; go_wp2
       go_meet
       case rel => exact ⟨_, ((t534 == 4)), sr, H', ⟨by have := HJ2.out; first | omega | exact Nat.le_refl _⟩, ⟨by exact lK <| BK533.out⟩, ⟨by exact IsS79.j HI0.out⟩, ⟨by exact jK HK.out⟩, ⟨by exact jB HB.out⟩⟩
    case rest =>
     clear HC16; (try clear c1); (try clear p2); (try clear c4); (try clear c6); (try clear c6b0); (try clear c6b1); (try clear p6); (try clear c7); (try clear c8); (try clear c14); (try clear c17); (try clear c17b0); (try clear c17b1); (try clear c18); (try clear c18b0); (try clear c18b1); (try clear hcz15_0); (try clear hcz15_1); (try clear hcz15_2); (try clear hcz15_3); (try clear hcz15_4); (try clear hcz15_5); (try clear hfz15_0); (try clear hfz15_1); (try clear hfz15_2); (try clear hfz15_3); (try clear hfz15_4); (try clear hfz15_5)
     obtain ⟨kq, x15_15, rfl, HA, HJ15, BK533, HI0, HK, HB⟩ := hcut
     cases kq with
     | zero => exact absurd HA.out (by simp [spec_l20Line.j1])
     | succ kj15 =>
      have H := HA.out
      clear HA; simp only [spec_l20Line.j1] at H
      by_cases c19 : x15_15 = true
      ·subst c19; rw [if_pos rfl] at H
       try dsimp only at H
       obtain ⟨⟨t546, t549, t552, t553⟩, A20, H⟩ := bS H
       try dsimp only at H
       obtain ⟨⟨t555, t556⟩, A21, H⟩ := bS H
       try dsimp only at H
       by_cases c22 : t555 > 0
       ·rw [if_pos c22] at H; replace c22 := decide_eq_true c22; obtain ⟨y557, Ny557⟩ : ∃ y_ : List Int, Aside0 (y_ = (([0, 0, 0] : List Int))) := ⟨_, ⟨rfl⟩⟩
        try rw [← Ny557.out] at H
        try dsimp only [Option.bind_some] at H
        obtain ⟨⟨t560, t561⟩, A23, H⟩ := bS H
        try dsimp only at H
        simp only [Option.some.injEq, Prod.mk.injEq] at H
        obtain ⟨rfl, rfl, rfl, rfl, rfl, rfl, rfl⟩ := H
        try go_wp2_with (first | (refine gL (some 20) Try.func81 #[.pointer (some ⟨g, 0, none⟩)] ?_; (with_reducible refine (spec_l20Small.calls kj15 g s0_0 t535 t546 t549 t552 t553 w0 _ (by exact IsS79.j HI0.out) (by exact jB HB.out) A20.out).mono ?_); rintro e w24 ⟨v547, v550, rfl, ho0, ho1, hi, hb, hk⟩; refine ⟨_, rfl, ?_⟩; replace BK533 := aM (kb hk BK533.out NB533_0.out); have HO548 := aM (lw ho0 HK.out); have HO551 := aM (lw ho1 HK.out); replace HK := aM (kt HK.out hk); replace HB := aM (hb); replace HI0 := aM (hi); (try clear hb hk hi); (try clear ho0); (try clear ho1)) | ((with_reducible refine gate_dst (N := 3) rfl ?_); refine bx 3 #[.slice none 0 0, .slice none 0 0, .int .i64 0] 34 ?_; intro gb554 hg w25 hbox hb; replace HO548 := aM (rb HO548.out hb); replace HO551 := aM (rb HO551.out hb); replace HB := aM (bj HB.out hb); have BK554 := aM (hbox); have GW554 := aM (gk hg HK.out); have IGW554 := wn GW554.out; have GE554 := aM ((Nat.le_trans HW0.out (gk hg HK.out) : w0.heap.size ≤ gb554)); have IGE554 := wn GE554.out; replace HK := aM (kbl HK.out hb); have NB533_554 := aM ((neL hg (lK BK533.out) : gb533 ≠ gb554)); have NB554_533 := aM ((neG hg (lK BK533.out) : gb554 ≠ gb533)); replace BK533 := aM (bb BK533.out hb); have NB0_554 := aM ((by rw [hg]; exact Nat.ne_of_lt (IsS79.lt (show IsS79 w0 _ g s0_0 t553 from by exact IsS79.j HI0.out)) : g ≠ gb554)); have INB0_554 := wn NB0_554.out; have NB554_0 := aM ((by rw [hg]; exact Nat.ne_of_gt (IsS79.lt (show IsS79 w0 _ g s0_0 t553 from by exact IsS79.j HI0.out)) : gb554 ≠ g)); replace HI0 := aM (IsS79.below (by exact IsS79.j HI0.out) hb); clear hb hbox hg; obtain ⟨Ao26, co26, rfl⟩ := Kd.R_slice HO548.out; have hnb27 := NB554_533.out; have hnc27 := NB533_554.out; have hnb28 := NB554_0.out; have hnc28 := NB0_554.out; obtain ⟨hcz29_0, hcz29_1, hcz29_2, hfz29_0, hfz29_1, hfz29_2⟩ := cf3 BK554.out; obtain ⟨Ao30, co30, rfl⟩ := Kd.R_slice HO551.out) | (refine gL (some 22) Try.func48 #[.pointer (some ⟨g, 0, none⟩), .int .i64 3] ?_; (with_reducible refine (spec_l20Rd_pick.calls kj15 g s0_0 t553 3 t555 t556 w0 _ (by exact IsS79.j HI0.out) (by exact jB HB.out) A21.out).mono ?_); rintro e w31 ⟨rfl, hi, hb, hk⟩; refine ⟨_, rfl, ?_⟩; replace BK533 := aM (KeepBut.blk hk (g' := gb533) (o := .cells #[.int .i64 0, .int .i64 0, .int .i64 0, .slice none 0 0, .slice none 0 0, .int .i64 0] 100 (0, 0)) (by exact f3 (lK BK533.out) NB533_554.out) NB533_0.out (by simp)); replace HO548 := aM (Kd.R_mono (Kd.R_keep (IsS79.apart (show IsS79 w0 _ g s0_0 t553 from by exact IsS79.j HI0.out) (by (with_reducible repeat (first | apply ra | apply rn | apply re)); exact (R3 HO548.out BK554.out)) (by decide)) hk (fun _ h => h.2)) (fun _ h => h.1)); replace HO551 := aM (Kd.R_mono (Kd.R_keep (IsS79.apart (show IsS79 w0 _ g s0_0 t553 from by exact IsS79.j HI0.out) (by (with_reducible repeat (first | apply ra | apply rn | apply re)); exact (R3 HO551.out BK554.out)) (by decide)) hk (fun _ h => h.2)) (fun _ h => h.1)); replace BK554 := aM (KeepBut.blk hk (g' := gb554) (o := .cells #[.slice Ao26 t546.length co26, .slice Ao30 t549.length co30, .int .i64 t552] 34 (0, 0)) (by exact p3 (lK BK554.out)) NB554_0.out (by simp)); replace HK := aM (kt HK.out hk); replace HB := aM (hb); replace HI0 := aM (hi); (try clear hb hk hi)) | ((with_reducible refine gate_dst (N := 24) rfl ?_); refine rlW 24 [0, 0, 0] [.int .i64 0, .int .i64 0, .int .i64 0] ?_; intro v558 w32 ho33 hb hg_ hnew_; clear hg_ hnew_; rw [← Ny557.out] at ho33; have HO559 := aM (Kd.R_lower (Kd.R_new' (Kd.R_new' ho33 (rl HO548.out)) (rl HO551.out)) (ks HK.out)); replace HO548 := aM (Kd.R_elder' (by exact lR HO548.out) (Kd.R_base ho33) hb); replace HO551 := aM (Kd.R_elder' (by exact lR HO551.out) (Kd.R_base ho33) hb); replace BK533 := aM (bb BK533.out hb); replace HI0 := aM (IsS79.below (by exact IsS79.j HI0.out) hb); replace BK554 := aM (bb BK554.out hb); replace HK := aM (kbl HK.out hb); replace HB := aM (bj HB.out hb); clear hb ho33; obtain ⟨Ao34, co34, rfl⟩ := Kd.R_slice HO559.out; obtain ⟨hcz35_0, hcz35_1, hcz35_2, hfz35_0, hfz35_1, hfz35_2⟩ := cf3 BK554.out))
        have n0_ : Aside0 (Kd.R (Kd.int .i64) 3 (w32.setCell ⟨gb554, 0, none⟩ (.slice Ao34 y557.length co34)) w.heap.size (fun k_ => some k_ ≠ ownBlock (.slice Ao30 t549.length co30) ∧ some k_ ≠ ownBlock (.slice Ao34 y557.length co34)) (.slice Ao26 t546.length co26) t546) := ⟨by exact lR <| Kd.R_mono (Kd.R_far (p := ⟨gb554, 0, none⟩) (Kd.R_types HO548.out BK554.out (by decide)) (fun _ hk => hk.2) (.slice Ao34 y557.length co34)) (fun _ hk => ⟨hk.1.1, hk.1.2⟩)⟩
        have n1_ : Aside0 (Kd.R (Kd.int .i64) 3 (w32.setCell ⟨gb554, 0, none⟩ (.slice Ao34 y557.length co34)) w.heap.size (fun k_ => some k_ ≠ ownBlock (.slice Ao26 t546.length co26) ∧ some k_ ≠ ownBlock (.slice Ao34 y557.length co34)) (.slice Ao30 t549.length co30) t549) := ⟨by exact lR <| Kd.R_mono (Kd.R_far (p := ⟨gb554, 0, none⟩) (Kd.R_types HO551.out BK554.out (by decide)) (fun _ hk => hk.2) (.slice Ao34 y557.length co34)) (fun _ hk => ⟨hk.1.1, hk.1.2⟩)⟩
        have n2_ : Aside0 (Kd.R (Kd.int .i64) 3 (w32.setCell ⟨gb554, 0, none⟩ (.slice Ao34 y557.length co34)) w.heap.size (fun k_ => some k_ ≠ ownBlock (.slice Ao26 t546.length co26) ∧ some k_ ≠ ownBlock (.slice Ao30 t549.length co30)) (.slice Ao34 y557.length co34) y557) := ⟨by exact lR <| Kd.R_mono (Kd.R_far (p := ⟨gb554, 0, none⟩) (Kd.R_types HO559.out BK554.out (by decide)) (fun _ hk => hk.2) (.slice Ao34 y557.length co34)) (fun _ hk => ⟨hk.1.1.2, hk.1.2⟩)⟩
        have n3_ : Aside0 ((w32.setCell ⟨gb554, 0, none⟩ (.slice Ao34 y557.length co34)).heap[gb533]? = some (.cells #[.int .i64 0, .int .i64 0, .int .i64 0, .slice none 0 0, .slice none 0 0, .int .i64 0] 100 (0, 0))) := ⟨by (with_reducible repeat first | refine kN ?_ _ | refine kD ?_ | refine kA ?_ _); refine blk_far ?_ NB533_554.out _; exact lK <| BK533.out⟩
        have n4_ : Aside0 ((w32.setCell ⟨gb554, 0, none⟩ (.slice Ao34 y557.length co34)).heap[gb554]? = some (.cells #[.slice Ao34 y557.length co34, .slice Ao30 t549.length co30, .int .i64 t552] 34 (0, 0))) := ⟨by (with_reducible repeat first | refine kN ?_ _ | refine kD ?_ | refine kA ?_ _); refine blk_put (cs := #[.slice Ao26 t546.length co26, .slice Ao30 t549.length co30, .int .i64 t552]) ?_ 0 _ rfl; exact lK <| BK554.out⟩
        have n5_ : Aside0 (IsS79 w0 (w32.setCell ⟨gb554, 0, none⟩ (.slice Ao34 y557.length co34)) g s0_0 t556) := ⟨by exact IsS79.j HI0.out⟩
        have n6_ : Aside0 (KeepBut w (w32.setCell ⟨gb554, 0, none⟩ (.slice Ao34 y557.length co34)) g none) := ⟨by exact jK HK.out⟩
        have n7_ : Aside0 (Below w0.heap.size w0 (w32.setCell ⟨gb554, 0, none⟩ (.slice Ao34 y557.length co34))) := ⟨by exact jB HB.out⟩
        (try clear HO548); (try clear HO551); (try clear HO559); (try clear BK533); (try clear BK554); (try clear HI0); (try clear HK); (try clear HB); generalize (w32.setCell ⟨gb554, 0, none⟩ (.slice Ao34 y557.length co34)) = w36 at n0_ n1_ n2_ n3_ n4_ n5_ n6_ n7_ ⊢
        have HO548 := n0_; have HO551 := n1_; have HO559 := n2_; have BK533 := n3_; have BK554 := n4_; have HI0 := n5_; have HK := n6_; have HB := n7_; clear n0_ n1_ n2_ n3_ n4_ n5_ n6_ n7_; replace HO548 := aM (Kd.R_drew HO548.out); replace HO551 := aM (Kd.R_drew HO551.out); replace HO559 := aM (Kd.R_drew HO559.out); replace BK533 := aM (blk_drew BK533.out); replace BK554 := aM (blk_drew BK554.out); replace HI0 := aM (IsS79.drew HI0.out); replace HK := aM (keep_drew HK.out); replace HB := aM (below_drew1 HB.out); refine start_ (n := 5) (S := fun w' => w'.cell? ⟨gb554, 0, none⟩ = some (.slice Ao34 y557.length co34) ∧ w'.cell? ⟨gb554, 1, none⟩ = some (.slice Ao30 t549.length co30) ∧ w'.cell? ⟨gb554, 2, none⟩ = some (.int .i64 t552)) (ds := []) #[false, false, false, false, false] (by kernel_rfl) rfl rfl (cz3 BK554.out) (fun hHeld => ?_)
        generalize w36.drew = w37 at HO548 HO551 HO559 BK533 BK554 HI0 HK HB hHeld ⊢
        refine pure_ (i := 0) (N := some 26) (v := ?_) (a' := ?_) #[true, false, false, false, false] rfl rfl (by kernel_rfl) (fun _ _ _ h => h) (Or.inl ⟨by rfl, ?_⟩) ?_ ?_
        rotate_left
        ·intro w'
         go_simp
         with_reducible rfl
        rotate_left
        ·simp only [Act.put, sA, s0, sS, i64_w, i32_w]
         rfl
        refine take_ (i := 2) (N := some 28) (v := ?_) (a' := ?_) #[true, false, true, false, false] rfl rfl (by kernel_rfl) (fun _ _ _ h => h) (Or.inl ⟨by rfl, ?_⟩) hHeld ?_ ?_
        rotate_left
        ·rintro w' ⟨s0, s1, s2⟩
         go_simp
         with_reducible rfl
        rotate_left
        ·simp only [Act.put, sA, s0, sS, i64_w, i32_w]
         rfl
        refine one_ (i := 1) (N := some 27) #[true, true, true, false, false] rfl rfl (by kernel_rfl) (by decide) (fun K hK => ?_)
        refine gO Try.func48 #[.pointer (some ⟨g, 0, none⟩), .int .i64 3] ?_; with_reducible refine (spec_l20Rd_pick.calls kj15 g s0_0 t556 3 t560 t561 w0 _ (by exact IsS79.j HI0.out) (by exact jB HB.out) A23.out).mono ?_
        rintro e w38 ⟨rfl, hi, hb, hk⟩; refine ⟨_, rfl, ?_⟩; replace BK533 := aM (kb hk BK533.out NB533_0.out); replace HO548 := aM (IsS79.kp (f1 := t556) (by exact IsS79.j HI0.out) (lR HO548.out) hk); replace HO551 := aM (IsS79.kp (f1 := t556) (by exact IsS79.j HI0.out) (lR HO551.out) hk); replace BK554 := aM (kb hk BK554.out NB554_0.out); replace HO559 := aM (IsS79.kp (f1 := t556) (by exact IsS79.j HI0.out) (lR HO559.out) hk); replace HK := aM (kt HK.out hk); replace HB := aM (hb); replace HI0 := aM (hi); (try clear hb); (try clear hb2); (try clear hk); (try clear hi); refine hK.out _ _ (cz3 BK554.out) (fun hHeld => ?_); clear hK K; refine nm (some 27) ?_; refine pure_ (i := 3) (N := some 29) (v := ?_) (a' := ?_) #[true, true, true, true, false] rfl rfl (by kernel_rfl) (fun _ _ _ h => h) (Or.inl ⟨by rfl, ?_⟩) ?_ ?_
        rotate_left
        ·intro w'
         go_simp
         with_reducible rfl
        rotate_left
        ·simp only [Act.put, sA, s0, sS, i64_w, i32_w]
         rfl
        refine one_ (i := 4) (N := none) #[true, true, true, true, true] rfl rfl (by kernel_rfl) (by decide) (fun K hK => ?_)
        have hs39 : w38.cell? ⟨gb533, 0, none⟩ = some (.int .i64 0) := (blk_cell BK533.out 0).trans rfl
        have hfs39 := blk_frozen BK533.out 0
        have hns39_1 := NB554_533.out
        have hms39_1 := NB533_554.out
        have hs40 : w38.cell? ⟨gb533, 1, none⟩ = some (.int .i64 0) := (blk_cell BK533.out 1).trans rfl
        have hfs40 := blk_frozen BK533.out 1
        have hns40_1 := NB554_533.out
        have hms40_1 := NB533_554.out
        have hs41 : w38.cell? ⟨gb533, 2, none⟩ = some (.int .i64 0) := (blk_cell BK533.out 2).trans rfl
        have hfs41 := blk_frozen BK533.out 2
        have hns41_1 := NB554_533.out
        have hms41_1 := NB533_554.out
        have hs42 : w38.cell? ⟨gb533, 3, none⟩ = some (.slice none 0 0) := (blk_cell BK533.out 3).trans rfl
        have hfs42 := blk_frozen BK533.out 3
        have hns42_1 := NB554_533.out
        have hms42_1 := NB533_554.out
        have hs43 : w38.cell? ⟨gb533, 4, none⟩ = some (.slice none 0 0) := (blk_cell BK533.out 4).trans rfl
        have hfs43 := blk_frozen BK533.out 4
        have hns43_1 := NB554_533.out
        have hms43_1 := NB533_554.out
        have hs44 : w38.cell? ⟨gb533, 5, none⟩ = some (.int .i64 0) := (blk_cell BK533.out 5).trans rfl
        have hfs44 := blk_frozen BK533.out 5
        have hns44_1 := NB554_533.out
        have hms44_1 := NB533_554.out
        refine skip_ (w1 := ?_) (by rfl) rfl ?_ ?_
        rotate_left
        ·go_simp
         rfl
        refine hK.out _ _ ⟨((cell_far (p := ⟨gb533, _, none⟩) NB554_533.out _).trans (((cell_far (p := ⟨gb533, _, none⟩) NB554_533.out _).trans (((cell_far (p := ⟨gb533, _, none⟩) NB554_533.out _).trans (((cell_far (p := ⟨gb533, _, none⟩) NB554_533.out _).trans (((cell_far (p := ⟨gb533, _, none⟩) NB554_533.out _).trans (((cell_far (p := ⟨gb533, _, none⟩) NB554_533.out _).trans (hHeld.1)))))))))))), ((cell_far (p := ⟨gb533, _, none⟩) NB554_533.out _).trans (((cell_far (p := ⟨gb533, _, none⟩) NB554_533.out _).trans (((cell_far (p := ⟨gb533, _, none⟩) NB554_533.out _).trans (((cell_far (p := ⟨gb533, _, none⟩) NB554_533.out _).trans (((cell_far (p := ⟨gb533, _, none⟩) NB554_533.out _).trans (((cell_far (p := ⟨gb533, _, none⟩) NB554_533.out _).trans (hHeld.2.1)))))))))))), ((cell_far (p := ⟨gb533, _, none⟩) NB554_533.out _).trans (((cell_far (p := ⟨gb533, _, none⟩) NB554_533.out _).trans (((cell_far (p := ⟨gb533, _, none⟩) NB554_533.out _).trans (((cell_far (p := ⟨gb533, _, none⟩) NB554_533.out _).trans (((cell_far (p := ⟨gb533, _, none⟩) NB554_533.out _).trans (((cell_far (p := ⟨gb533, _, none⟩) NB554_533.out _).trans (hHeld.2.2))))))))))))⟩ (fun hHeld => ?_); clear hK K; refine done_ (by kernel_rfl) ?_
        try go_wp2
        refine bodyPost_ret (results_cell_row rfl _ _ gb533 100 #[.int .i64 2, .int .i64 t560, .int .i64 0, .slice Ao34 y557.length co34, .slice Ao30 t549.length co30, .int .i64 t552] (0, 0) _ rfl (by exact p6 (lK BK533.out)) Try.underlying100 rfl (by kernel_rfl)) rfl ?_
        exact ⟨_, _, er, by exact lR <| Kd.R_mono (Kd.R_far (p := ⟨gb533, 5, none⟩) (Kd.R_far (p := ⟨gb533, 4, none⟩) (Kd.R_far (p := ⟨gb533, 3, none⟩) (Kd.R_far (p := ⟨gb533, 2, none⟩) (Kd.R_far (p := ⟨gb533, 1, none⟩) (Kd.R_far (p := ⟨gb533, 0, none⟩) (Kd.R_types HO559.out BK533.out (by decide)) (fun _ hk => by first | exact hk.2 | exact fun e_ => hk.2 (e_.trans (ob _ _ _ _))) (.int .i64 2)) (fun _ hk => by first | exact hk.2 | exact fun e_ => hk.2 (e_.trans (ob _ _ _ _))) (.int .i64 t560)) (fun _ hk => by first | exact hk.2 | exact fun e_ => hk.2 (e_.trans (ob _ _ _ _))) (.int .i64 0)) (fun _ hk => by first | exact hk.2 | exact fun e_ => hk.2 (e_.trans (ob _ _ _ _))) (.slice Ao34 y557.length co34)) (fun _ hk => by first | exact hk.2 | exact fun e_ => hk.2 (e_.trans (ob _ _ _ _))) (.slice Ao30 t549.length co30)) (fun _ hk => by first | exact hk.2 | exact fun e_ => hk.2 (e_.trans (ob _ _ _ _))) (.int .i64 t552)) (fun _ hk => by first | exact hk.1.2 | exact fun e_ => hk.1.2 (e_.trans (ob _ _ _ _))), by exact lR <| Kd.R_mono (Kd.R_far (p := ⟨gb533, 5, none⟩) (Kd.R_far (p := ⟨gb533, 4, none⟩) (Kd.R_far (p := ⟨gb533, 3, none⟩) (Kd.R_far (p := ⟨gb533, 2, none⟩) (Kd.R_far (p := ⟨gb533, 1, none⟩) (Kd.R_far (p := ⟨gb533, 0, none⟩) (Kd.R_types HO551.out BK533.out (by decide)) (fun _ hk => by first | exact hk.2 | exact fun e_ => hk.2 (e_.trans (ob _ _ _ _))) (.int .i64 2)) (fun _ hk => by first | exact hk.2 | exact fun e_ => hk.2 (e_.trans (ob _ _ _ _))) (.int .i64 t560)) (fun _ hk => by first | exact hk.2 | exact fun e_ => hk.2 (e_.trans (ob _ _ _ _))) (.int .i64 0)) (fun _ hk => by first | exact hk.2 | exact fun e_ => hk.2 (e_.trans (ob _ _ _ _))) (.slice Ao34 y557.length co34)) (fun _ hk => by first | exact hk.2 | exact fun e_ => hk.2 (e_.trans (ob _ _ _ _))) (.slice Ao30 t549.length co30)) (fun _ hk => by first | exact hk.2 | exact fun e_ => hk.2 (e_.trans (ob _ _ _ _))) (.int .i64 t552)) (fun _ hk => by first | exact hk.1.2 | exact fun e_ => hk.1.2 (e_.trans (ob _ _ _ _))), by exact IsS79.j HI0.out, by exact jB HB.out, by exact jK HK.out⟩
       ·rw [if_neg c22] at H; replace c22 := decide_eq_false c22; obtain ⟨⟨t562, t563⟩, A45, H⟩ := bS H
        try dsimp only at H
        simp only [Option.some.injEq, Prod.mk.injEq] at H
        obtain ⟨rfl, rfl, rfl, rfl, rfl, rfl, rfl⟩ := H
        try go_wp2_with (first | (refine gL (some 20) Try.func81 #[.pointer (some ⟨g, 0, none⟩)] ?_; (with_reducible refine (spec_l20Small.calls kj15 g s0_0 t535 t546 t549 t552 t553 w0 _ (by exact IsS79.j HI0.out) (by exact jB HB.out) A20.out).mono ?_); rintro e w46 ⟨v547, v550, rfl, ho0, ho1, hi, hb, hk⟩; refine ⟨_, rfl, ?_⟩; replace BK533 := aM (kb hk BK533.out NB533_0.out); have HO548 := aM (lw ho0 HK.out); have HO551 := aM (lw ho1 HK.out); replace HK := aM (kt HK.out hk); replace HB := aM (hb); replace HI0 := aM (hi); (try clear hb hk hi); (try clear ho0); (try clear ho1)) | ((with_reducible refine gate_dst (N := 3) rfl ?_); refine bx 3 #[.slice none 0 0, .slice none 0 0, .int .i64 0] 34 ?_; intro gb554 hg w47 hbox hb; replace HO548 := aM (rb HO548.out hb); replace HO551 := aM (rb HO551.out hb); replace HB := aM (bj HB.out hb); have BK554 := aM (hbox); have GW554 := aM (gk hg HK.out); have IGW554 := wn GW554.out; have GE554 := aM ((Nat.le_trans HW0.out (gk hg HK.out) : w0.heap.size ≤ gb554)); have IGE554 := wn GE554.out; replace HK := aM (kbl HK.out hb); have NB533_554 := aM ((neL hg (lK BK533.out) : gb533 ≠ gb554)); have NB554_533 := aM ((neG hg (lK BK533.out) : gb554 ≠ gb533)); replace BK533 := aM (bb BK533.out hb); have NB0_554 := aM ((by rw [hg]; exact Nat.ne_of_lt (IsS79.lt (show IsS79 w0 _ g s0_0 t553 from by exact IsS79.j HI0.out)) : g ≠ gb554)); have INB0_554 := wn NB0_554.out; have NB554_0 := aM ((by rw [hg]; exact Nat.ne_of_gt (IsS79.lt (show IsS79 w0 _ g s0_0 t553 from by exact IsS79.j HI0.out)) : gb554 ≠ g)); replace HI0 := aM (IsS79.below (by exact IsS79.j HI0.out) hb); clear hb hbox hg; obtain ⟨Ao48, co48, rfl⟩ := Kd.R_slice HO548.out; have hnb49 := NB554_533.out; have hnc49 := NB533_554.out; have hnb50 := NB554_0.out; have hnc50 := NB0_554.out; obtain ⟨hcz51_0, hcz51_1, hcz51_2, hfz51_0, hfz51_1, hfz51_2⟩ := cf3 BK554.out; obtain ⟨Ao52, co52, rfl⟩ := Kd.R_slice HO551.out) | (refine gL (some 22) Try.func48 #[.pointer (some ⟨g, 0, none⟩), .int .i64 3] ?_; (with_reducible refine (spec_l20Rd_pick.calls kj15 g s0_0 t553 3 t555 t556 w0 _ (by exact IsS79.j HI0.out) (by exact jB HB.out) A21.out).mono ?_); rintro e w53 ⟨rfl, hi, hb, hk⟩; refine ⟨_, rfl, ?_⟩; replace BK533 := aM (KeepBut.blk hk (g' := gb533) (o := .cells #[.int .i64 0, .int .i64 0, .int .i64 0, .slice none 0 0, .slice none 0 0, .int .i64 0] 100 (0, 0)) (by exact f3 (lK BK533.out) NB533_554.out) NB533_0.out (by simp)); replace HO548 := aM (Kd.R_mono (Kd.R_keep (IsS79.apart (show IsS79 w0 _ g s0_0 t553 from by exact IsS79.j HI0.out) (by (with_reducible repeat (first | apply ra | apply rn | apply re)); exact (R3 HO548.out BK554.out)) (by decide)) hk (fun _ h => h.2)) (fun _ h => h.1)); replace HO551 := aM (Kd.R_mono (Kd.R_keep (IsS79.apart (show IsS79 w0 _ g s0_0 t553 from by exact IsS79.j HI0.out) (by (with_reducible repeat (first | apply ra | apply rn | apply re)); exact (R3 HO551.out BK554.out)) (by decide)) hk (fun _ h => h.2)) (fun _ h => h.1)); replace BK554 := aM (KeepBut.blk hk (g' := gb554) (o := .cells #[.slice Ao48 t546.length co48, .slice Ao52 t549.length co52, .int .i64 t552] 34 (0, 0)) (by exact p3 (lK BK554.out)) NB554_0.out (by simp)); replace HK := aM (kt HK.out hk); replace HB := aM (hb); replace HI0 := aM (hi); (try clear hb hk hi)))
        replace HO548 := aM (Kd.R_drew HO548.out); replace HO551 := aM (Kd.R_drew HO551.out); replace BK533 := aM (blk_drew BK533.out); replace BK554 := aM (blk_drew BK554.out); replace HI0 := aM (IsS79.drew HI0.out); replace HK := aM (keep_drew HK.out); replace HB := aM (below_drew1 HB.out); refine start_ (n := 5) (S := fun w' => w'.cell? ⟨gb554, 0, none⟩ = some (.slice Ao48 t546.length co48) ∧ w'.cell? ⟨gb554, 1, none⟩ = some (.slice Ao52 t549.length co52) ∧ w'.cell? ⟨gb554, 2, none⟩ = some (.int .i64 t552)) (ds := []) #[false, false, false, false, false] (by kernel_rfl) rfl rfl (cz3 BK554.out) (fun hHeld => ?_)
        generalize w53.drew = w54 at HO548 HO551 BK533 BK554 HI0 HK HB hHeld ⊢
        refine pure_ (i := 0) (N := some 26) (v := ?_) (a' := ?_) #[true, false, false, false, false] rfl rfl (by kernel_rfl) (fun _ _ _ h => h) (Or.inl ⟨by rfl, ?_⟩) ?_ ?_
        rotate_left
        ·intro w'
         go_simp
         with_reducible rfl
        rotate_left
        ·simp only [Act.put, sA, s0, sS, i64_w, i32_w]
         rfl
        refine take_ (i := 2) (N := some 28) (v := ?_) (a' := ?_) #[true, false, true, false, false] rfl rfl (by kernel_rfl) (fun _ _ _ h => h) (Or.inl ⟨by rfl, ?_⟩) hHeld ?_ ?_
        rotate_left
        ·rintro w' ⟨s0, s1, s2⟩
         go_simp
         with_reducible rfl
        rotate_left
        ·simp only [Act.put, sA, s0, sS, i64_w, i32_w]
         rfl
        refine one_ (i := 1) (N := some 27) #[true, true, true, false, false] rfl rfl (by kernel_rfl) (by decide) (fun K hK => ?_)
        refine gO Try.func48 #[.pointer (some ⟨g, 0, none⟩), .int .i64 3] ?_; with_reducible refine (spec_l20Rd_pick.calls kj15 g s0_0 t556 3 t562 t563 w0 _ (by exact IsS79.j HI0.out) (by exact jB HB.out) A45.out).mono ?_
        rintro e w55 ⟨rfl, hi, hb, hk⟩; refine ⟨_, rfl, ?_⟩; replace BK533 := aM (kb hk BK533.out NB533_0.out); replace HO548 := aM (IsS79.kp (f1 := t556) (by exact IsS79.j HI0.out) (lR HO548.out) hk); replace HO551 := aM (IsS79.kp (f1 := t556) (by exact IsS79.j HI0.out) (lR HO551.out) hk); replace BK554 := aM (kb hk BK554.out NB554_0.out); replace HK := aM (kt HK.out hk); replace HB := aM (hb); replace HI0 := aM (hi); (try clear hb); (try clear hb2); (try clear hk); (try clear hi); refine hK.out _ _ (cz3 BK554.out) (fun hHeld => ?_); clear hK K; refine nm (some 27) ?_; refine pure_ (i := 3) (N := some 29) (v := ?_) (a' := ?_) #[true, true, true, true, false] rfl rfl (by kernel_rfl) (fun _ _ _ h => h) (Or.inl ⟨by rfl, ?_⟩) ?_ ?_
        rotate_left
        ·intro w'
         go_simp
         with_reducible rfl
        rotate_left
        ·simp only [Act.put, sA, s0, sS, i64_w, i32_w]
         rfl
        refine one_ (i := 4) (N := none) #[true, true, true, true, true] rfl rfl (by kernel_rfl) (by decide) (fun K hK => ?_)
        have hs56 : w55.cell? ⟨gb533, 0, none⟩ = some (.int .i64 0) := (blk_cell BK533.out 0).trans rfl
        have hfs56 := blk_frozen BK533.out 0
        have hns56_1 := NB554_533.out
        have hms56_1 := NB533_554.out
        have hs57 : w55.cell? ⟨gb533, 1, none⟩ = some (.int .i64 0) := (blk_cell BK533.out 1).trans rfl
        have hfs57 := blk_frozen BK533.out 1
        have hns57_1 := NB554_533.out
        have hms57_1 := NB533_554.out
        have hs58 : w55.cell? ⟨gb533, 2, none⟩ = some (.int .i64 0) := (blk_cell BK533.out 2).trans rfl
        have hfs58 := blk_frozen BK533.out 2
        have hns58_1 := NB554_533.out
        have hms58_1 := NB533_554.out
        have hs59 : w55.cell? ⟨gb533, 3, none⟩ = some (.slice none 0 0) := (blk_cell BK533.out 3).trans rfl
        have hfs59 := blk_frozen BK533.out 3
        have hns59_1 := NB554_533.out
        have hms59_1 := NB533_554.out
        have hs60 : w55.cell? ⟨gb533, 4, none⟩ = some (.slice none 0 0) := (blk_cell BK533.out 4).trans rfl
        have hfs60 := blk_frozen BK533.out 4
        have hns60_1 := NB554_533.out
        have hms60_1 := NB533_554.out
        have hs61 : w55.cell? ⟨gb533, 5, none⟩ = some (.int .i64 0) := (blk_cell BK533.out 5).trans rfl
        have hfs61 := blk_frozen BK533.out 5
        have hns61_1 := NB554_533.out
        have hms61_1 := NB533_554.out
        refine skip_ (w1 := ?_) (by rfl) rfl ?_ ?_
        rotate_left
        ·go_simp
         rfl
        refine hK.out _ _ ⟨((cell_far (p := ⟨gb533, _, none⟩) NB554_533.out _).trans (((cell_far (p := ⟨gb533, _, none⟩) NB554_533.out _).trans (((cell_far (p := ⟨gb533, _, none⟩) NB554_533.out _).trans (((cell_far (p := ⟨gb533, _, none⟩) NB554_533.out _).trans (((cell_far (p := ⟨gb533, _, none⟩) NB554_533.out _).trans (((cell_far (p := ⟨gb533, _, none⟩) NB554_533.out _).trans (hHeld.1)))))))))))), ((cell_far (p := ⟨gb533, _, none⟩) NB554_533.out _).trans (((cell_far (p := ⟨gb533, _, none⟩) NB554_533.out _).trans (((cell_far (p := ⟨gb533, _, none⟩) NB554_533.out _).trans (((cell_far (p := ⟨gb533, _, none⟩) NB554_533.out _).trans (((cell_far (p := ⟨gb533, _, none⟩) NB554_533.out _).trans (((cell_far (p := ⟨gb533, _, none⟩) NB554_533.out _).trans (hHeld.2.1)))))))))))), ((cell_far (p := ⟨gb533, _, none⟩) NB554_533.out _).trans (((cell_far (p := ⟨gb533, _, none⟩) NB554_533.out _).trans (((cell_far (p := ⟨gb533, _, none⟩) NB554_533.out _).trans (((cell_far (p := ⟨gb533, _, none⟩) NB554_533.out _).trans (((cell_far (p := ⟨gb533, _, none⟩) NB554_533.out _).trans (((cell_far (p := ⟨gb533, _, none⟩) NB554_533.out _).trans (hHeld.2.2))))))))))))⟩ (fun hHeld => ?_); clear hK K; refine done_ (by kernel_rfl) ?_
        try go_wp2
        refine bodyPost_ret (results_cell_row rfl _ _ gb533 100 #[.int .i64 2, .int .i64 t562, .int .i64 0, .slice Ao48 t546.length co48, .slice Ao52 t549.length co52, .int .i64 t552] (0, 0) _ rfl (by exact p6 (lK BK533.out)) Try.underlying100 rfl (by kernel_rfl)) rfl ?_
        exact ⟨_, _, er, by exact lR <| Kd.R_mono (Kd.R_far (p := ⟨gb533, 5, none⟩) (Kd.R_far (p := ⟨gb533, 4, none⟩) (Kd.R_far (p := ⟨gb533, 3, none⟩) (Kd.R_far (p := ⟨gb533, 2, none⟩) (Kd.R_far (p := ⟨gb533, 1, none⟩) (Kd.R_far (p := ⟨gb533, 0, none⟩) (Kd.R_types HO548.out BK533.out (by decide)) (fun _ hk => by first | exact hk.2 | exact fun e_ => hk.2 (e_.trans (ob _ _ _ _))) (.int .i64 2)) (fun _ hk => by first | exact hk.2 | exact fun e_ => hk.2 (e_.trans (ob _ _ _ _))) (.int .i64 t562)) (fun _ hk => by first | exact hk.2 | exact fun e_ => hk.2 (e_.trans (ob _ _ _ _))) (.int .i64 0)) (fun _ hk => by first | exact hk.2 | exact fun e_ => hk.2 (e_.trans (ob _ _ _ _))) (.slice Ao48 t546.length co48)) (fun _ hk => by first | exact hk.2 | exact fun e_ => hk.2 (e_.trans (ob _ _ _ _))) (.slice Ao52 t549.length co52)) (fun _ hk => by first | exact hk.2 | exact fun e_ => hk.2 (e_.trans (ob _ _ _ _))) (.int .i64 t552)) (fun _ hk => by first | exact hk.1 | exact fun e_ => hk.1 (e_.trans (ob _ _ _ _))), by exact lR <| Kd.R_mono (Kd.R_far (p := ⟨gb533, 5, none⟩) (Kd.R_far (p := ⟨gb533, 4, none⟩) (Kd.R_far (p := ⟨gb533, 3, none⟩) (Kd.R_far (p := ⟨gb533, 2, none⟩) (Kd.R_far (p := ⟨gb533, 1, none⟩) (Kd.R_far (p := ⟨gb533, 0, none⟩) (Kd.R_types HO551.out BK533.out (by decide)) (fun _ hk => by first | exact hk.2 | exact fun e_ => hk.2 (e_.trans (ob _ _ _ _))) (.int .i64 2)) (fun _ hk => by first | exact hk.2 | exact fun e_ => hk.2 (e_.trans (ob _ _ _ _))) (.int .i64 t562)) (fun _ hk => by first | exact hk.2 | exact fun e_ => hk.2 (e_.trans (ob _ _ _ _))) (.int .i64 0)) (fun _ hk => by first | exact hk.2 | exact fun e_ => hk.2 (e_.trans (ob _ _ _ _))) (.slice Ao48 t546.length co48)) (fun _ hk => by first | exact hk.2 | exact fun e_ => hk.2 (e_.trans (ob _ _ _ _))) (.slice Ao52 t549.length co52)) (fun _ hk => by first | exact hk.2 | exact fun e_ => hk.2 (e_.trans (ob _ _ _ _))) (.int .i64 t552)) (fun _ hk => by first | exact hk.1 | exact fun e_ => hk.1 (e_.trans (ob _ _ _ _))), by exact IsS79.j HI0.out, by exact jB HB.out, by exact jK HK.out⟩
      ·replace c19 := Bool.eq_false_iff.mpr c19
       subst c19; rw [if_neg nf] at H
       try dsimp only at H
       by_cases c62 : t534 = 5
       ·rw [if_pos c62] at H; have c62b0 := beq_iff_eq.mpr c62
        have c62b1 := bne_eq_false_iff_eq.mpr c62
        clear c62; obtain ⟨⟨t564, t567, t570, t571⟩, A63, H⟩ := bS H
        try dsimp only at H
        simp only [Option.some.injEq, Prod.mk.injEq] at H
        obtain ⟨rfl, rfl, rfl, rfl, rfl, rfl, rfl⟩ := H
        go_wp2_with (first | (refine gL (some 33) Try.func81 #[.pointer (some ⟨g, 0, none⟩)] ?_; (with_reducible refine (spec_l20Small.calls kj15 g s0_0 t535 t564 t567 t570 t571 w0 _ (by exact IsS79.j HI0.out) (by exact jB HB.out) A63.out).mono ?_); rintro e w64 ⟨v565, v568, rfl, ho0, ho1, hi, hb, hk⟩; refine ⟨_, rfl, ?_⟩; replace BK533 := aM (kb hk BK533.out NB533_0.out); have HO566 := aM (lw ho0 HK.out); have HO569 := aM (lw ho1 HK.out); replace HK := aM (kt HK.out hk); replace HB := aM (hb); replace HI0 := aM (hi); (try clear hb hk hi); (try clear ho0); (try clear ho1); obtain ⟨Ao65, co65, rfl⟩ := Kd.R_slice HO569.out; obtain ⟨Ao66, co66, rfl⟩ := Kd.R_slice HO566.out; have hnb67 := NB533_0.out; have hnc67 := NB0_533.out; obtain ⟨hcz68_0, hcz68_1, hcz68_2, hcz68_3, hcz68_4, hcz68_5, hfz68_0, hfz68_1, hfz68_2, hfz68_3, hfz68_4, hfz68_5⟩ := cf6 BK533.out))
        refine bodyPost_ret (results_cell_row rfl _ _ gb533 100 #[.int .i64 3, .int .i64 0, .int .i64 0, .slice Ao66 t564.length co66, .slice Ao65 t567.length co65, .int .i64 t570] (0, 0) _ rfl (by exact p6 (lK BK533.out)) Try.underlying100 rfl (by kernel_rfl)) rfl ?_
        exact ⟨_, _, er, by exact lR <| Kd.R_mono (Kd.R_far (p := ⟨gb533, 5, none⟩) (Kd.R_far (p := ⟨gb533, 4, none⟩) (Kd.R_far (p := ⟨gb533, 3, none⟩) (Kd.R_far (p := ⟨gb533, 2, none⟩) (Kd.R_far (p := ⟨gb533, 1, none⟩) (Kd.R_far (p := ⟨gb533, 0, none⟩) (Kd.R_types HO566.out BK533.out (by decide)) (fun _ hk => by first | exact hk.2 | exact fun e_ => hk.2 (e_.trans (ob _ _ _ _))) (.int .i64 3)) (fun _ hk => by first | exact hk.2 | exact fun e_ => hk.2 (e_.trans (ob _ _ _ _))) (.int .i64 0)) (fun _ hk => by first | exact hk.2 | exact fun e_ => hk.2 (e_.trans (ob _ _ _ _))) (.int .i64 0)) (fun _ hk => by first | exact hk.2 | exact fun e_ => hk.2 (e_.trans (ob _ _ _ _))) (.slice Ao66 t564.length co66)) (fun _ hk => by first | exact hk.2 | exact fun e_ => hk.2 (e_.trans (ob _ _ _ _))) (.slice Ao65 t567.length co65)) (fun _ hk => by first | exact hk.2 | exact fun e_ => hk.2 (e_.trans (ob _ _ _ _))) (.int .i64 t570)) (fun _ hk => by first | exact hk.1 | exact fun e_ => hk.1 (e_.trans (ob _ _ _ _))), by exact lR <| Kd.R_mono (Kd.R_far (p := ⟨gb533, 5, none⟩) (Kd.R_far (p := ⟨gb533, 4, none⟩) (Kd.R_far (p := ⟨gb533, 3, none⟩) (Kd.R_far (p := ⟨gb533, 2, none⟩) (Kd.R_far (p := ⟨gb533, 1, none⟩) (Kd.R_far (p := ⟨gb533, 0, none⟩) (Kd.R_types HO569.out BK533.out (by decide)) (fun _ hk => by first | exact hk.2 | exact fun e_ => hk.2 (e_.trans (ob _ _ _ _))) (.int .i64 3)) (fun _ hk => by first | exact hk.2 | exact fun e_ => hk.2 (e_.trans (ob _ _ _ _))) (.int .i64 0)) (fun _ hk => by first | exact hk.2 | exact fun e_ => hk.2 (e_.trans (ob _ _ _ _))) (.int .i64 0)) (fun _ hk => by first | exact hk.2 | exact fun e_ => hk.2 (e_.trans (ob _ _ _ _))) (.slice Ao66 t564.length co66)) (fun _ hk => by first | exact hk.2 | exact fun e_ => hk.2 (e_.trans (ob _ _ _ _))) (.slice Ao65 t567.length co65)) (fun _ hk => by first | exact hk.2 | exact fun e_ => hk.2 (e_.trans (ob _ _ _ _))) (.int .i64 t570)) (fun _ hk => by first | exact hk.1 | exact fun e_ => hk.1 (e_.trans (ob _ _ _ _))), by exact IsS79.j HI0.out, by exact jB HB.out, by exact jK HK.out⟩
       ·rw [if_neg c62] at H; have c62b0 := beq_eq_false_iff_ne.mpr c62
        have c62b1 := bne_iff_ne.mpr c62
        simp only [Option.some.injEq, Prod.mk.injEq] at H
        obtain ⟨rfl, rfl, rfl, rfl, rfl, rfl, rfl⟩ := H
        have hnb69 := NB533_0.out
        have hnc69 := NB0_533.out
        obtain ⟨hcz70_0, hcz70_1, hcz70_2, hcz70_3, hcz70_4, hcz70_5, hfz70_0, hfz70_1, hfz70_2, hfz70_3, hfz70_4, hfz70_5⟩ := cf6 BK533.out
        go_wp2
        refine bodyPost_ret (results_cell_row rfl _ _ gb533 100 #[.int .i64 4, .int .i64 0, .int .i64 0, .slice none 0 0, .slice none 0 0, .int .i64 0] (0, 0) _ rfl (by exact p6 (lK BK533.out)) Try.underlying100 rfl (by kernel_rfl)) rfl ?_
        exact ⟨_, _, er, by first | exact Kd.R_nil _ _ _ _ _ | exact Kd.N_nil _ _ _ _ _ | exact Kd.V_nil _ _ _ _ _ | exact Kd.Q_nil _ _ _ _ _ | exact Kd.S_nil _ _ _ _ _, by first | exact Kd.R_nil _ _ _ _ _ | exact Kd.N_nil _ _ _ _ _ | exact Kd.V_nil _ _ _ _ _ | exact Kd.Q_nil _ _ _ _ _ | exact Kd.S_nil _ _ _ _ _, by exact IsS79.j HI0.out, by exact jB HB.out, by exact jK HK.out⟩
end Go.Proofs.Ytcpaplcnebdocaa.QFnRowDo
-- shorter
