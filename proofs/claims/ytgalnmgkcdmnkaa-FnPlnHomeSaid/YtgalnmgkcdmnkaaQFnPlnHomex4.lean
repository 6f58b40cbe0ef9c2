/- Plain functions, and that the Go code computes them: written by a program of this session over the seat's translation; the conditions stand in each theorem. -/
import Derived.Test.YtgalnmgkcdmnkaaQFnPlnHomex0
import Derived.Test.YtgalnmgkcdmnkaaQFnPlnHomex1
import Derived.Test.YtgalnmgkcdmnkaaQFnPlnHomex3
namespace Go.Proofs.Ytgalnmgkcdmnkaa.QFnPlnHome
open Go.RowKit Go.Proofs.YtgalnmgkcdmnkaaW.PrintWords Go.Proofs.YtgalnmgkcdmnkaaW.PrintLast Go.Proofs.YtgalnmgkcdmnkaaW.PrintMore Go.Proofs.Ytgalnmgkcdmnkaa.HWords
open Value (ownBlock)
attribute [local go_sem] max2_int min2_int max_two min_two max_three min_three max_four min_four   -- for this text's walks alone
set_option linter.unusedVariables false
set_option linter.unusedSimpArgs false

/-! ### spec_l20Line: function 65 -/
mutual
def spec_l20Line.j0 : Nat → Int → Bool → List Int → Int → Option (Int × Int × Int × List Int × List Int × Int × Int)
 | 0, _, _, _, _ => none
 | k + 1, x5, x6, x1000, x1001 => if x6 = true then ((spec_l20Rd_pick.f k x1000 x1001 3).bind fun bt175 => ((spec_l20Small.f k x1000 bt175.2).bind fun bt177 => (some (1, 0, wrap64 (1 + bt175.1), bt177.1, bt177.2.1, bt177.2.2.1, bt177.2.2.2)))) else (if x5 = 2 then (spec_l20Line.j1 k x5 (x5 == 2) x1000 x1001) else (if x5 = 3 then (spec_l20Line.j1 k x5 (x5 == 3) x1000 x1001) else (spec_l20Line.j1 k x5 (x5 == 4) x1000 x1001)))
def spec_l20Line.j1 : Nat → Int → Bool → List Int → Int → Option (Int × Int × Int × List Int × List Int × Int × Int)
 | 0, _, _, _, _ => none
 | k + 1, x5, x15, x1000, x1001 => if x15 = true then ((spec_l20Small.f k x1000 x1001).bind fun bt185 => ((spec_l20Rd_pick.f k x1000 bt185.2.2.2 3).bind fun bt194 => (if bt194.1 > 0 then ((spec_l20Rd_pick.f k x1000 bt194.2 3).bind fun bt199 => (some (2, bt199.1, 0, (([0, 0, 0] : List Int)), bt185.2.1, bt185.2.2.1, bt199.2))) else ((spec_l20Rd_pick.f k x1000 bt194.2 3).bind fun bt201 => (some (2, bt201.1, 0, bt185.1, bt185.2.1, bt185.2.2.1, bt201.2)))))) else (if x5 = 5 then ((spec_l20Small.f k x1000 x1001).bind fun bt203 => (some (3, 0, 0, bt203.1, bt203.2.1, bt203.2.2.1, bt203.2.2.2))) else (some (4, 0, 0, ([] : List Int), ([] : List Int), 0, x1001)))
end
def spec_l20Line.f (k : Nat) (s0_0 : List Int) (s0_1 : Int) : Option (Int × Int × Int × List Int × List Int × Int × Int) := (spec_l20Rd_pick.f k s0_0 s0_1 7).bind fun bt173 => (if bt173.1 = 0 then (spec_l20Line.j0 k bt173.1 (bt173.1 == 0) s0_0 bt173.2) else (spec_l20Line.j0 k bt173.1 (bt173.1 == 1) s0_0 bt173.2))
theorem spec_l20Line.mono_l : ∀ k, (∀ y0 y1 y2 y3, LeO (spec_l20Line.j0 k y0 y1 y2 y3) (spec_l20Line.j0 (k + 1) y0 y1 y2 y3)) ∧ (∀ y0 y1 y2 y3, LeO (spec_l20Line.j1 k y0 y1 y2 y3) (spec_l20Line.j1 (k + 1) y0 y1 y2 y3))
 | 0 => ⟨fun _ _ _ _ r h => by simp [spec_l20Line.j0] at h, fun _ _ _ _ r h => by simp [spec_l20Line.j1] at h⟩
 | k + 1 => by
  obtain ⟨ih0, ih1⟩ := spec_l20Line.mono_l k
  refine ⟨?_, ?_⟩
  ·intro y0 y1 y2 y3
   unfold spec_l20Line.j0
   repeat' first
   | (with_reducible exact ih0 _ _ _ _)
   | (with_reducible exact ih1 _ _ _ _)
   | (with_reducible exact spec_l20Rd_pick.mono _ _ _ _)
   | (with_reducible exact spec_l20Small.mono _ _ _)
   | (with_reducible exact LeO.refl _)
   | (with_reducible exact LeO.none _)
   | (with_reducible refine LeO.ite ?_ ?_)
   | (with_reducible refine LeO.bind ?_ (fun _ => ?_))
   | exact LeO.none _
   | refine LeO.ite ?_ ?_
   | refine LeO.bind ?_ (fun _ => ?_)
  ·intro y0 y1 y2 y3
   unfold spec_l20Line.j1
   repeat' first
   | (with_reducible exact ih0 _ _ _ _)
   | (with_reducible exact ih1 _ _ _ _)
   | (with_reducible exact spec_l20Rd_pick.mono _ _ _ _)
   | (with_reducible exact spec_l20Small.mono _ _ _)
   | (with_reducible exact LeO.refl _)
   | (with_reducible exact LeO.none _)
   | (with_reducible refine LeO.ite ?_ ?_)
   | (with_reducible refine LeO.bind ?_ (fun _ => ?_))
   | exact LeO.none _
   | refine LeO.ite ?_ ?_
   | refine LeO.bind ?_ (fun _ => ?_)
theorem spec_l20Line.mono : ∀ a0 a1 k, LeO (spec_l20Line.f k a0 a1) (spec_l20Line.f (k + 1) a0 a1) := by
 intro a0 a1 k
 obtain ⟨ih0, ih1⟩ := spec_l20Line.mono_l k
 unfold spec_l20Line.f
 repeat' first
   | (with_reducible exact ih0 _ _ _ _)
   | (with_reducible exact ih1 _ _ _ _)
   | (with_reducible exact spec_l20Rd_pick.mono _ _ _ _)
   | (with_reducible exact spec_l20Small.mono _ _ _)
   | (with_reducible exact LeO.refl _)
   | (with_reducible exact LeO.none _)
   | (with_reducible refine LeO.ite ?_ ?_)
   | (with_reducible refine LeO.bind ?_ (fun _ => ?_))
   | exact LeO.none _
   | refine LeO.ite ?_ ?_
   | refine LeO.bind ?_ (fun _ => ?_)
set_option maxHeartbeats 8000000 in
set_option maxRecDepth 100000 in
theorem spec_l20Line.calls (k : Nat) (g : Nat) (s0_0 : List Int) (s0_1 : Int) (r1 : Int) (r2 : Int) (r3 : Int) (r4 : List Int) (r5 : List Int) (r6 : Int) (r7 : Int) (w0 w : World) (hI : IsS69 w0 w g s0_0 s0_1) (hB : Below w0.heap.size w0 w) (h : spec_l20Line.f k s0_0 s0_1 = some (r1, r2, r3, r4, r5, r6, r7)) :
  Calls Try.prog 65 #[.pointer (some ⟨g, 0, none⟩)] w fun e w' => ∃ v3_ v4_ : Value, e = .returned (.agg #[.int .i64 r1, .int .i64 r2, .int .i64 r3, v3_, v4_, .int .i64 r6]) ∧ Kd.R (Kd.int .i64) 3 w' w.heap.size (fun k_ => some k_ ≠ (v4_ : Value).ownBlock) v3_ r4 ∧ Kd.R (Kd.int .i64) 3 w' w.heap.size (fun k_ => some k_ ≠ (v3_ : Value).ownBlock) v4_ r5 ∧ IsS69 w0 w' g s0_0 r7 ∧ Below w0.heap.size w0 w' ∧ KeepBut w w' g none := by
 have hu45 := Try.underlying45
 have hu43 := Try.underlying43
 have HI0 := aM hI
 have IHI0 : Nonempty _ := ⟨IsS69.ge hI⟩
 have HK := aM (KeepBut.refl w g none)
 have HL := aM hB.size
 clear hI
 have HW0 := aM hB.size
 have HB := aM hB
 clear hB
 have H : ((spec_l20Rd_pick.f k s0_0 s0_1 7).bind fun bt173 => (if bt173.1 = 0 then (spec_l20Line.j0 k bt173.1 (bt173.1 == 0) s0_0 bt173.2) else (spec_l20Line.j0 k bt173.1 (bt173.1 == 1) s0_0 bt173.2))) = some (r1, r2, r3, r4, r5, r6, r7) := h
 clear h
 obtain ⟨⟨t173, t174⟩, A2, H⟩ := bS H
 try dsimp only at H
 have HC3 := aM H
 clear H
 go_enter Try.func65, Try.ntmps65
 go_upto_if 6 with (first | ((with_reducible refine gate_dst (N := 2) rfl ?_); refine bx 2 #[.int .i64 0, .int .i64 0, .int .i64 0, .slice none 0 0, .slice none 0 0, .int .i64 0] 45 ?_; intro gb172 hg w4 hbox hb; replace HB := aM (bj HB.out hb); have BK172 := aM (hbox); have GW172 := aM ((gk hg HK.out)); have IGW172 : Nonempty _ := ⟨GW172.out⟩; have GE172 := aM ((Nat.le_trans HW0.out (gk hg HK.out) : w0.heap.size ≤ gb172)); have IGE172 : Nonempty _ := ⟨GE172.out⟩; replace HK := aM (kbl HK.out hb); have NB0_172 := aM ((by rw [hg]; exact Nat.ne_of_lt (IsS69.lt (show IsS69 w0 _ g s0_0 s0_1 from by exact IsS69.j HI0.out)) : g ≠ gb172)); have INB0_172 : Nonempty _ := ⟨NB0_172.out⟩; have NB172_0 := aM ((by rw [hg]; exact Nat.ne_of_gt (IsS69.lt (show IsS69 w0 _ g s0_0 s0_1 from by exact IsS69.j HI0.out)) : gb172 ≠ g)); replace HI0 := aM (IsS69.below (by exact IsS69.j HI0.out) hb); clear hb hbox hg) | ((with_reducible refine gate_callee (f := 20) rfl ?_); refine gL (some 5) Try.func20 #[.pointer (some ⟨g, 0, none⟩), .int .i64 7] ?_; (with_reducible refine (spec_l20Rd_pick.calls k g s0_0 s0_1 7 t173 t174 w0 _ ?side1 ?side2 A2.out).mono ?_); (case side1 => exact IsS69.j HI0.out); (case side2 => exact jB HB.out); rintro e w5 ⟨rfl, hi, hb, hk⟩; refine ⟨_, rfl, ?_⟩; replace BK172 := aM (kb hk BK172.out NB172_0.out); replace HK := aM (kt HK.out hk); replace HB := aM (hb); replace HI0 := aM (hi); (try clear hb hk hi)))
 (try simp only [Act.put, sA, s0, sS])
 go_cut [6] (fun v6 wc => ∃ (kq : Nat) (x6_2 : Bool), v6 = .bool x6_2 ∧ Aside0 (spec_l20Line.j0 kq t173 x6_2 s0_0 t174 = some (r1, r2, r3, r4, r5, r6, r7)) ∧ Aside0 (kq ≤ k) ∧ Aside0 (wc.heap[gb172]? = some (.cells #[.int .i64 0, .int .i64 0, .int .i64 0, (.slice none 0 0), (.slice none 0 0), .int .i64 0] 45 (0, 0))) ∧ Aside0 (IsS69 w0 wc g s0_0 t174) ∧ Aside0 (KeepBut w wc g none) ∧ Aside0 (Below w0.heap.size w0 wc))
 case first =>
  have H := HC3.out
  clear HC3
  by_cases c6 : t173 = 0
  ·rw [if_pos c6] at H
   have c6b0 := beq_iff_eq.mpr c6
   have c6b1 := bne_eq_false_iff_eq.mpr c6
   clear c6
   (first | rw [c6b0] | (simp only [i64_w, i32_w]; rw [c6b0]) | skip)
   have H' := aM H
   clear H
   go_wp2
   go_meet
   case rel => exact ⟨_, ((t173 == 0)), (by first | rfl | (simp; done) | (simp [*]; done)), H', ⟨by first | omega | exact Nat.le_refl _⟩, ⟨by exact lK <| BK172.out⟩, ⟨by exact IsS69.j HI0.out⟩, ⟨by exact jK HK.out⟩, ⟨by exact jB HB.out⟩⟩
  ·rw [if_neg c6] at H
   have c6b0 := beq_eq_false_iff_ne.mpr c6
   have c6b1 := bne_iff_ne.mpr c6
   (first | rw [c6b0] | (simp only [i64_w, i32_w]; rw [c6b0]) | skip)
   have H' := aM H
   clear H
   go_wp2
   go_meet
   case rel => exact ⟨_, ((t173 == 1)), (by first | rfl | (simp; done) | (simp [*]; done)), H', ⟨by first | omega | exact Nat.le_refl _⟩, ⟨by exact lK <| BK172.out⟩, ⟨by exact IsS69.j HI0.out⟩, ⟨by exact jK HK.out⟩, ⟨by exact jB HB.out⟩⟩
 case rest =>
  clear HC3
  try clear c2
  try clear p2
  try clear c6
  try clear c6b0
  try clear c6b1
  obtain ⟨kq, x6_2, rfl, HA, HJ2, BK172, HI0, HK, HB⟩ := hcut
  cases kq with
  | zero => exact absurd HA.out (by simp [spec_l20Line.j0])
  | succ kj2 =>
   have H := HA.out
   clear HA
   simp only [spec_l20Line.j0] at H
   by_cases c7 : x6_2 = true
   ·subst c7
    rw [if_pos rfl] at H
    try dsimp only at H
    obtain ⟨⟨t175, t176⟩, A8, H⟩ := bS H
    try dsimp only at H
    obtain ⟨⟨t177, t180, t183, t184⟩, A9, H⟩ := bS H
    try dsimp only at H
    simp only [Option.some.injEq, Prod.mk.injEq] at H
    obtain ⟨rfl, rfl, rfl, rfl, rfl, rfl, rfl⟩ := H
    go_wp2_with (first | ((with_reducible refine gate_callee (f := 20) rfl ?_); refine gL (some 10) Try.func20 #[.pointer (some ⟨g, 0, none⟩), .int .i64 3] ?_; (with_reducible refine (spec_l20Rd_pick.calls kj2 g s0_0 t174 3 t175 t176 w0 _ ?side1 ?side2 A8.out).mono ?_); (case side1 => exact IsS69.j HI0.out); (case side2 => exact jB HB.out); rintro e w10 ⟨rfl, hi, hb, hk⟩; refine ⟨_, rfl, ?_⟩; replace BK172 := aM (kb hk BK172.out NB172_0.out); replace HK := aM (kt HK.out hk); replace HB := aM (hb); replace HI0 := aM (hi); (try clear hb hk hi)) | ((with_reducible refine gate_callee (f := 55) rfl ?_); refine gL (some 13) Try.func55 #[.pointer (some ⟨g, 0, none⟩)] ?_; (with_reducible refine (spec_l20Small.calls kj2 g s0_0 t176 t177 t180 t183 t184 w0 _ ?side1 ?side2 A9.out).mono ?_); (case side1 => exact IsS69.j HI0.out); (case side2 => exact jB HB.out); rintro e w11 ⟨v178, v181, rfl, ho0, ho1, hi, hb, hk⟩; refine ⟨_, rfl, ?_⟩; replace BK172 := aM (kb hk BK172.out NB172_0.out); have HO179 := aM (lw ho0 HK.out); have HO182 := aM (lw ho1 HK.out); replace HK := aM (kt HK.out hk); replace HB := aM (hb); replace HI0 := aM (hi); (try clear hb hk hi); (try clear ho0); (try clear ho1); obtain ⟨Ao12, co12, eo12⟩ := Kd.R_slice HO182.out; subst eo12; obtain ⟨Ao13, co13, eo13⟩ := Kd.R_slice HO179.out; subst eo13; have hnb14 := NB172_0.out; have hnc14 := NB0_172.out; obtain ⟨hcz15_0, hcz15_1, hcz15_2, hcz15_3, hcz15_4, hcz15_5, hfz15_0, hfz15_1, hfz15_2, hfz15_3, hfz15_4, hfz15_5⟩ := cf6 BK172.out))
    refine bodyPost_ret (results_cell_row rfl _ _ gb172 45 #[.int .i64 1, .int .i64 0, .int .i64 (wrap64 (1 + t175)), .slice Ao13 t177.length co13, .slice Ao12 t180.length co12, .int .i64 t183] (0, 0) _ rfl (by exact p6 (lK BK172.out)) Try.underlying45 rfl (by kernel_rfl)) rfl ?_
    exact ⟨_, _, er, by exact lR <| Kd.R_mono (Kd.R_far (p := ⟨gb172, 5, none⟩) (Kd.R_far (p := ⟨gb172, 4, none⟩) (Kd.R_far (p := ⟨gb172, 3, none⟩) (Kd.R_far (p := ⟨gb172, 2, none⟩) (Kd.R_far (p := ⟨gb172, 1, none⟩) (Kd.R_far (p := ⟨gb172, 0, none⟩) (Kd.R_types HO179.out BK172.out (by decide)) (fun _ hk => by first | exact hk.2 | exact fun e_ => hk.2 (e_.trans (ob _ _ _ _))) (.int .i64 1)) (fun _ hk => by first | exact hk.2 | exact fun e_ => hk.2 (e_.trans (ob _ _ _ _))) (.int .i64 0)) (fun _ hk => by first | exact hk.2 | exact fun e_ => hk.2 (e_.trans (ob _ _ _ _))) (.int .i64 (wrap64 (1 + t175)))) (fun _ hk => by first | exact hk.2 | exact fun e_ => hk.2 (e_.trans (ob _ _ _ _))) (.slice Ao13 t177.length co13)) (fun _ hk => by first | exact hk.2 | exact fun e_ => hk.2 (e_.trans (ob _ _ _ _))) (.slice Ao12 t180.length co12)) (fun _ hk => by first | exact hk.2 | exact fun e_ => hk.2 (e_.trans (ob _ _ _ _))) (.int .i64 t183)) (fun _ hk => by first | exact hk.1 | exact fun e_ => hk.1 (e_.trans (ob _ _ _ _))), by exact lR <| Kd.R_mono (Kd.R_far (p := ⟨gb172, 5, none⟩) (Kd.R_far (p := ⟨gb172, 4, none⟩) (Kd.R_far (p := ⟨gb172, 3, none⟩) (Kd.R_far (p := ⟨gb172, 2, none⟩) (Kd.R_far (p := ⟨gb172, 1, none⟩) (Kd.R_far (p := ⟨gb172, 0, none⟩) (Kd.R_types HO182.out BK172.out (by decide)) (fun _ hk => by first | exact hk.2 | exact fun e_ => hk.2 (e_.trans (ob _ _ _ _))) (.int .i64 1)) (fun _ hk => by first | exact hk.2 | exact fun e_ => hk.2 (e_.trans (ob _ _ _ _))) (.int .i64 0)) (fun _ hk => by first | exact hk.2 | exact fun e_ => hk.2 (e_.trans (ob _ _ _ _))) (.int .i64 (wrap64 (1 + t175)))) (fun _ hk => by first | exact hk.2 | exact fun e_ => hk.2 (e_.trans (ob _ _ _ _))) (.slice Ao13 t177.length co13)) (fun _ hk => by first | exact hk.2 | exact fun e_ => hk.2 (e_.trans (ob _ _ _ _))) (.slice Ao12 t180.length co12)) (fun _ hk => by first | exact hk.2 | exact fun e_ => hk.2 (e_.trans (ob _ _ _ _))) (.int .i64 t183)) (fun _ hk => by first | exact hk.1 | exact fun e_ => hk.1 (e_.trans (ob _ _ _ _))), by exact IsS69.j HI0.out, by exact jB HB.out, by exact jK HK.out⟩
   ·replace c7 := Bool.eq_false_iff.mpr c7
    subst c7
    rw [if_neg nf] at H
    try dsimp only at H
    have HC16 := aM H
    clear H
    go_upto_if 15 with (fail)
    go_cut [15] (fun v15 wc => ∃ (kq : Nat) (x15_15 : Bool), v15 = .bool x15_15 ∧ Aside0 (spec_l20Line.j1 kq t173 x15_15 s0_0 t174 = some (r1, r2, r3, r4, r5, r6, r7)) ∧ Aside0 (kq ≤ kj2) ∧ Aside0 (wc.heap[gb172]? = some (.cells #[.int .i64 0, .int .i64 0, .int .i64 0, (.slice none 0 0), (.slice none 0 0), .int .i64 0] 45 (0, 0))) ∧ Aside0 (IsS69 w0 wc g s0_0 t174) ∧ Aside0 (KeepBut w wc g none) ∧ Aside0 (Below w0.heap.size w0 wc))
    case first =>
     have H := HC16.out
     clear HC16
     by_cases c17 : t173 = 2
     ·rw [if_pos c17] at H
      have c17b0 := beq_iff_eq.mpr c17
      have c17b1 := bne_eq_false_iff_eq.mpr c17
      clear c17
      (first | rw [c17b0] | (simp only [i64_w, i32_w]; rw [c17b0]) | skip)
      have H' := aM H
      clear H
      go_wp2
      go_meet
      case rel => exact ⟨_, ((t173 == 2)), (by first | rfl | (simp; done) | (simp [*]; done)), H', ⟨by have := HJ2.out; first | omega | exact Nat.le_refl _⟩, ⟨by exact lK <| BK172.out⟩, ⟨by exact IsS69.j HI0.out⟩, ⟨by exact jK HK.out⟩, ⟨by exact jB HB.out⟩⟩
     ·rw [if_neg c17] at H
      have c17b0 := beq_eq_false_iff_ne.mpr c17
      have c17b1 := bne_iff_ne.mpr c17
      (first | rw [c17b0] | (simp only [i64_w, i32_w]; rw [c17b0]) | skip)
      by_cases c18 : t173 = 3
      ·rw [if_pos c18] at H
       have c18b0 := beq_iff_eq.mpr c18
       have c18b1 := bne_eq_false_iff_eq.mpr c18
       clear c18
       have H' := aM H
       clear H
       go_wp2
       go_meet
       case rel => exact ⟨_, ((t173 == 3)), (by first | rfl | (simp; done) | (simp [*]; done)), H', ⟨by have := HJ2.out; first | omega | exact Nat.le_refl _⟩, ⟨by exact lK <| BK172.out⟩, ⟨by exact IsS69.j HI0.out⟩, ⟨by exact jK HK.out⟩, ⟨by exact jB HB.out⟩⟩
      ·rw [if_neg c18] at H
       have c18b0 := beq_eq_false_iff_ne.mpr c18
       have c18b1 := bne_iff_ne.mpr c18
       have H' := aM H
       clear H
       go_wp2
       go_meet
       case rel => exact ⟨_, ((t173 == 4)), (by first | rfl | (simp; done) | (simp [*]; done)), H', ⟨by have := HJ2.out; first | omega | exact Nat.le_refl _⟩, ⟨by exact lK <| BK172.out⟩, ⟨by exact IsS69.j HI0.out⟩, ⟨by exact jK HK.out⟩, ⟨by exact jB HB.out⟩⟩
    case rest =>
     clear HC16
     try clear c1
     try clear c2
     try clear p2
     try clear c5
     try clear c6
     try clear c6b0
     try clear c6b1
     try clear p6
     try clear c7
     try clear c14
     try clear c17
     try clear c17b0
     try clear c17b1
     try clear c18
     try clear c18b0
     try clear c18b1
     try clear hcz15_0
     try clear hcz15_1
     try clear hcz15_2
     try clear hcz15_3
     try clear hcz15_4
     try clear hcz15_5
     try clear hfz15_0
     try clear hfz15_1
     try clear hfz15_2
     try clear hfz15_3
     try clear hfz15_4
     try clear hfz15_5
     try clear p2
     obtain ⟨kq, x15_15, rfl, HA, HJ15, BK172, HI0, HK, HB⟩ := hcut
     cases kq with
     | zero => exact absurd HA.out (by simp [spec_l20Line.j1])
     | succ kj15 =>
      have H := HA.out
      clear HA
      simp only [spec_l20Line.j1] at H
      by_cases c19 : x15_15 = true
      ·subst c19
       rw [if_pos rfl] at H
       try dsimp only at H
       obtain ⟨⟨t185, t188, t191, t192⟩, A20, H⟩ := bS H
       try dsimp only at H
       obtain ⟨⟨t194, t195⟩, A21, H⟩ := bS H
       try dsimp only at H
       by_cases c22 : t194 > 0
       ·rw [if_pos c22] at H
        have c22b0 := decide_eq_true c22
        clear c22
        obtain ⟨y196, hy196⟩ : ∃ y_ : List Int, y_ = (([0, 0, 0] : List Int)) := ⟨_, rfl⟩
        try rw [← hy196] at H
        try dsimp only [Option.bind_some] at H
        have Ny196 := aM hy196
        clear hy196
        obtain ⟨⟨t199, t200⟩, A23, H⟩ := bS H
        try dsimp only at H
        simp only [Option.some.injEq, Prod.mk.injEq] at H
        obtain ⟨rfl, rfl, rfl, rfl, rfl, rfl, rfl⟩ := H
        try go_wp2_with (first | ((with_reducible refine gate_callee (f := 55) rfl ?_); refine gL (some 20) Try.func55 #[.pointer (some ⟨g, 0, none⟩)] ?_; (with_reducible refine (spec_l20Small.calls kj15 g s0_0 t174 t185 t188 t191 t192 w0 _ ?side1 ?side2 A20.out).mono ?_); (case side1 => exact IsS69.j HI0.out); (case side2 => exact jB HB.out); rintro e w24 ⟨v186, v189, rfl, ho0, ho1, hi, hb, hk⟩; refine ⟨_, rfl, ?_⟩; replace BK172 := aM (kb hk BK172.out NB172_0.out); have HO187 := aM (lw ho0 HK.out); have HO190 := aM (lw ho1 HK.out); replace HK := aM (kt HK.out hk); replace HB := aM (hb); replace HI0 := aM (hi); (try clear hb hk hi); (try clear ho0); (try clear ho1)) | ((with_reducible refine gate_dst (N := 3) rfl ?_); refine bx 3 #[.slice none 0 0, .slice none 0 0, .int .i64 0] 43 ?_; intro gb193 hg w25 hbox hb; replace HO187 := aM (rb HO187.out hb); replace HO190 := aM (rb HO190.out hb); replace HB := aM (bj HB.out hb); have BK193 := aM (hbox); have GW193 := aM ((gk hg HK.out)); have IGW193 : Nonempty _ := ⟨GW193.out⟩; have GE193 := aM ((Nat.le_trans HW0.out (gk hg HK.out) : w0.heap.size ≤ gb193)); have IGE193 : Nonempty _ := ⟨GE193.out⟩; replace HK := aM (kbl HK.out hb); have NB172_193 := aM ((neL hg (lK BK172.out) : gb172 ≠ gb193)); have NB193_172 := aM ((neG hg (lK BK172.out) : gb193 ≠ gb172)); replace BK172 := aM (bb BK172.out hb); have NB0_193 := aM ((by rw [hg]; exact Nat.ne_of_lt (IsS69.lt (show IsS69 w0 _ g s0_0 t192 from by exact IsS69.j HI0.out)) : g ≠ gb193)); have INB0_193 : Nonempty _ := ⟨NB0_193.out⟩; have NB193_0 := aM ((by rw [hg]; exact Nat.ne_of_gt (IsS69.lt (show IsS69 w0 _ g s0_0 t192 from by exact IsS69.j HI0.out)) : gb193 ≠ g)); replace HI0 := aM (IsS69.below (by exact IsS69.j HI0.out) hb); clear hb hbox hg; obtain ⟨Ao26, co26, eo26⟩ := Kd.R_slice HO187.out; subst eo26; have hnb27 := NB193_172.out; have hnc27 := NB172_193.out; have hnb28 := NB193_0.out; have hnc28 := NB0_193.out; obtain ⟨hcz29_0, hcz29_1, hcz29_2, hfz29_0, hfz29_1, hfz29_2⟩ := cf3 BK193.out; obtain ⟨Ao30, co30, eo30⟩ := Kd.R_slice HO190.out; subst eo30) | ((with_reducible refine gate_callee (f := 20) rfl ?_); refine gL (some 22) Try.func20 #[.pointer (some ⟨g, 0, none⟩), .int .i64 3] ?_; (with_reducible refine (spec_l20Rd_pick.calls kj15 g s0_0 t192 3 t194 t195 w0 _ ?side1 ?side2 A21.out).mono ?_); (case side1 => exact IsS69.j HI0.out); (case side2 => exact jB HB.out); rintro e w31 ⟨rfl, hi, hb, hk⟩; refine ⟨_, rfl, ?_⟩; replace BK172 := aM (KeepBut.blk hk (g' := gb172) (o := .cells #[.int .i64 0, .int .i64 0, .int .i64 0, .slice none 0 0, .slice none 0 0, .int .i64 0] 45 (0, 0)) (by exact f3 (lK BK172.out) NB172_193.out) NB172_0.out (by simp)); replace HO187 := aM (Kd.R_mono (Kd.R_keep (IsS69.apart (show IsS69 w0 _ g s0_0 t192 from by exact IsS69.j HI0.out) (by (with_reducible repeat (first | apply ra | apply rn | apply re)); exact (R3 HO187.out BK193.out)) (by decide)) hk (fun _ h => h.2)) (fun _ h => h.1)); replace HO190 := aM (Kd.R_mono (Kd.R_keep (IsS69.apart (show IsS69 w0 _ g s0_0 t192 from by exact IsS69.j HI0.out) (by (with_reducible repeat (first | apply ra | apply rn | apply re)); exact (R3 HO190.out BK193.out)) (by decide)) hk (fun _ h => h.2)) (fun _ h => h.1)); replace BK193 := aM (KeepBut.blk hk (g' := gb193) (o := .cells #[.slice Ao26 t185.length co26, .slice Ao30 t188.length co30, .int .i64 t191] 43 (0, 0)) (by exact p3 (lK BK193.out)) NB193_0.out (by simp)); replace HK := aM (kt HK.out hk); replace HB := aM (hb); replace HI0 := aM (hi); (try clear hb hk hi)) | ((with_reducible refine gate_dst (N := 24) rfl ?_); refine Kd.R_lit (Kd.int .i64) _ 3 ?hg (N := 24) ?hd (xs := ([0, 0, 0] : List Int)) (inner := [.int .i64 0, .int .i64 0, .int .i64 0]) (ok := fun _ => True) (okp := fun _ => True) ?hr ?hp (fun _ hk => hk) trivial (Below.refl _ _) (Nat.le_refl _) (by simp) ?_; (case hd => rfl); (case hg => rfl); (case hr => first | (go_simp; done) | (go_simp; rfl)); (case hp => exact (Reps.one (show Kd.M (Kd.int .i64) _ _ _ 0 [.int .i64 0] from rfl) (Reps.one (show Kd.M (Kd.int .i64) _ _ _ 0 [.int .i64 0] from rfl) (Reps.one (show Kd.M (Kd.int .i64) _ _ _ 0 [.int .i64 0] from rfl) (Reps.none _ _))))); intro v197 w32 ho33 hb hg_ hnew_; clear hg_ hnew_; (first | rw [← Ny196.out] at ho33 | (simp only [Int.reduceToNat] at ho33; rw [← Ny196.out] at ho33)); have HO198 := aM (Kd.R_lower (Kd.R_new' (Kd.R_new' ho33 (rl HO187.out)) (rl HO190.out)) (keep_size (w := w) (g := g) (row := none) (by exact jK HK.out))); replace HO187 := aM (Kd.R_elder' (by exact lR HO187.out) (Kd.R_base ho33) hb); replace HO190 := aM (Kd.R_elder' (by exact lR HO190.out) (Kd.R_base ho33) hb); replace BK172 := aM (bb BK172.out hb); replace HI0 := aM (IsS69.below (by exact IsS69.j HI0.out) hb); replace BK193 := aM (bb BK193.out hb); replace HK := aM (kbl HK.out hb); replace HB := aM (bj HB.out hb); clear hb ho33; obtain ⟨Ao34, co34, eo34⟩ := Kd.R_slice HO198.out; subst eo34; obtain ⟨hcz35_0, hcz35_1, hcz35_2, hfz35_0, hfz35_1, hfz35_2⟩ := cf3 BK193.out))
        have n0_ : Aside0 (Kd.R (Kd.int .i64) 3 (w32.setCell ⟨gb193, 0, none⟩ (.slice Ao34 y196.length co34)) w.heap.size (fun k_ => some k_ ≠ ownBlock (.slice Ao30 t188.length co30) ∧ some k_ ≠ ownBlock (.slice Ao34 y196.length co34)) (.slice Ao26 t185.length co26) t185) := ⟨by exact lR <| Kd.R_mono (Kd.R_far (p := ⟨gb193, 0, none⟩) (Kd.R_types HO187.out BK193.out (by decide)) (fun _ hk => hk.2) (.slice Ao34 y196.length co34)) (fun _ hk => ⟨hk.1.1, hk.1.2⟩)⟩
        have n1_ : Aside0 (Kd.R (Kd.int .i64) 3 (w32.setCell ⟨gb193, 0, none⟩ (.slice Ao34 y196.length co34)) w.heap.size (fun k_ => some k_ ≠ ownBlock (.slice Ao26 t185.length co26) ∧ some k_ ≠ ownBlock (.slice Ao34 y196.length co34)) (.slice Ao30 t188.length co30) t188) := ⟨by exact lR <| Kd.R_mono (Kd.R_far (p := ⟨gb193, 0, none⟩) (Kd.R_types HO190.out BK193.out (by decide)) (fun _ hk => hk.2) (.slice Ao34 y196.length co34)) (fun _ hk => ⟨hk.1.1, hk.1.2⟩)⟩
        have n2_ : Aside0 (Kd.R (Kd.int .i64) 3 (w32.setCell ⟨gb193, 0, none⟩ (.slice Ao34 y196.length co34)) w.heap.size (fun k_ => some k_ ≠ ownBlock (.slice Ao26 t185.length co26) ∧ some k_ ≠ ownBlock (.slice Ao30 t188.length co30)) (.slice Ao34 y196.length co34) y196) := ⟨by exact lR <| Kd.R_mono (Kd.R_far (p := ⟨gb193, 0, none⟩) (Kd.R_types HO198.out BK193.out (by decide)) (fun _ hk => hk.2) (.slice Ao34 y196.length co34)) (fun _ hk => ⟨hk.1.1.2, hk.1.2⟩)⟩
        have n3_ : Aside0 ((w32.setCell ⟨gb193, 0, none⟩ (.slice Ao34 y196.length co34)).heap[gb172]? = some (.cells #[.int .i64 0, .int .i64 0, .int .i64 0, .slice none 0 0, .slice none 0 0, .int .i64 0] 45 (0, 0))) := ⟨by (with_reducible repeat first | refine kN ?_ _ | refine kD ?_ | refine kA ?_ _); refine blk_far ?_ NB172_193.out _; exact lK <| BK172.out⟩
        have n4_ : Aside0 ((w32.setCell ⟨gb193, 0, none⟩ (.slice Ao34 y196.length co34)).heap[gb193]? = some (.cells #[.slice Ao34 y196.length co34, .slice Ao30 t188.length co30, .int .i64 t191] 43 (0, 0))) := ⟨by (with_reducible repeat first | refine kN ?_ _ | refine kD ?_ | refine kA ?_ _); refine blk_put (cs := #[.slice Ao26 t185.length co26, .slice Ao30 t188.length co30, .int .i64 t191]) ?_ 0 _ rfl; exact lK <| BK193.out⟩
        have n5_ : Aside0 (IsS69 w0 (w32.setCell ⟨gb193, 0, none⟩ (.slice Ao34 y196.length co34)) g s0_0 t195) := ⟨by exact IsS69.j HI0.out⟩
        have n6_ : Aside0 (KeepBut w (w32.setCell ⟨gb193, 0, none⟩ (.slice Ao34 y196.length co34)) g none) := ⟨by exact jK HK.out⟩
        have n7_ : Aside0 (Below w0.heap.size w0 (w32.setCell ⟨gb193, 0, none⟩ (.slice Ao34 y196.length co34))) := ⟨by exact jB HB.out⟩
        (try clear HO187)
        (try clear HO190)
        (try clear HO198)
        (try clear BK172)
        (try clear BK193)
        (try clear HI0)
        (try clear HK)
        (try clear HB)
        generalize (w32.setCell ⟨gb193, 0, none⟩ (.slice Ao34 y196.length co34)) = w36 at n0_ n1_ n2_ n3_ n4_ n5_ n6_ n7_ ⊢
        have HO187 := n0_
        have HO190 := n1_
        have HO198 := n2_
        have BK172 := n3_
        have BK193 := n4_
        have HI0 := n5_
        have HK := n6_
        have HB := n7_
        clear n0_ n1_ n2_ n3_ n4_ n5_ n6_ n7_
        replace HO187 := aM (Kd.R_drew HO187.out)
        replace HO190 := aM (Kd.R_drew HO190.out)
        replace HO198 := aM (Kd.R_drew HO198.out)
        replace BK172 := aM (blk_drew BK172.out)
        replace BK193 := aM (blk_drew BK193.out)
        replace HI0 := aM (IsS69.drew HI0.out)
        replace HK := aM (keep_drew HK.out)
        replace HB := aM (below_drew1 HB.out)
        refine start_ (n := 5) (S := fun w' => w'.cell? ⟨gb193, 0, none⟩ = some (.slice Ao34 y196.length co34) ∧ w'.cell? ⟨gb193, 1, none⟩ = some (.slice Ao30 t188.length co30) ∧ w'.cell? ⟨gb193, 2, none⟩ = some (.int .i64 t191)) (ds := []) #[false, false, false, false, false] (by kernel_rfl) rfl rfl (cz3 BK193.out) (fun hHeld => ?_)
        generalize w36.drew = w37 at HO187 HO190 HO198 BK172 BK193 HI0 HK HB hHeld ⊢
        refine pure_ (i := 0) (N := some 26) (v := ?_) (a' := ?_) #[true, false, false, false, false] rfl rfl (by kernel_rfl) (fun _ _ _ h => h) (Or.inl ⟨by rfl, ?_⟩) ?_ ?_
        rotate_left
        ·intro w'
         go_simp
         with_reducible rfl
        rotate_left
        ·simp only [Act.put, sA, s0, sS, i64_w, i32_w]
         rfl
        refine take_ (i := 2) (N := some 28) (v := ?_) (a' := ?_) #[true, false, true, false, false] rfl rfl (by kernel_rfl) (fun _ _ _ h => h) (Or.inl ⟨by rfl, ?_⟩) hHeld ?_ ?_
        rotate_left
        ·rintro w' ⟨s0, s1, s2⟩
         go_simp
         with_reducible rfl
        rotate_left
        ·simp only [Act.put, sA, s0, sS, i64_w, i32_w]
         rfl
        refine one_ (i := 1) (N := some 27) #[true, true, true, false, false] rfl rfl (by kernel_rfl) (by decide) (fun K hK => ?_)
        refine goes_ Try.func20 (by kernel_rfl) rfl #[.pointer (some ⟨g, 0, none⟩), .int .i64 3] (by rfl) rfl rfl (by (try simp only [mA, mC, mN]); first | done | rfl | (simp only [ld, lt]; rfl)) ?_
        with_reducible refine (spec_l20Rd_pick.calls kj15 g s0_0 t195 3 t199 t200 w0 _ ?side1 ?side2 A23.out).mono ?_
        (case side1 => exact IsS69.j HI0.out)
        (case side2 => exact jB HB.out)
        rintro e w38 ⟨rfl, hi, hb, hk⟩
        refine ⟨_, rfl, ?_⟩
        replace BK172 := aM (kb hk BK172.out NB172_0.out)
        replace HO187 := aM (IsS69.kp (f1 := t195) (by exact IsS69.j HI0.out) (lR HO187.out) hk)
        replace HO190 := aM (IsS69.kp (f1 := t195) (by exact IsS69.j HI0.out) (lR HO190.out) hk)
        replace BK193 := aM (kb hk BK193.out NB193_0.out)
        replace HO198 := aM (IsS69.kp (f1 := t195) (by exact IsS69.j HI0.out) (lR HO198.out) hk)
        replace HK := aM (kt HK.out hk)
        replace HB := aM (hb)
        replace HI0 := aM (hi)
        (try clear hb)
        (try clear hb2)
        (try clear hk)
        (try clear hi)
        refine hK.out _ _ (cz3 BK193.out) (fun hHeld => ?_)
        clear hK K
        refine norm_ (a' := ?_) ?_ ?_
        rotate_left
        ·show Act.put _ (some 27) _ = _
         simp only [Act.put, sA, s0, sS, i64_w, i32_w]
         rfl
        refine pure_ (i := 3) (N := some 29) (v := ?_) (a' := ?_) #[true, true, true, true, false] rfl rfl (by kernel_rfl) (fun _ _ _ h => h) (Or.inl ⟨by rfl, ?_⟩) ?_ ?_
        rotate_left
        ·intro w'
         go_simp
         with_reducible rfl
        rotate_left
        ·simp only [Act.put, sA, s0, sS, i64_w, i32_w]
         rfl
        refine one_ (i := 4) (N := none) #[true, true, true, true, true] rfl rfl (by kernel_rfl) (by decide) (fun K hK => ?_)
        have hs39 : w38.cell? ⟨gb172, 0, none⟩ = some (.int .i64 0) := (blk_cell BK172.out 0).trans rfl
        have hfs39 := blk_frozen BK172.out 0
        have hns39_1 := NB193_172.out
        have hms39_1 := NB172_193.out
        have hs40 : w38.cell? ⟨gb172, 1, none⟩ = some (.int .i64 0) := (blk_cell BK172.out 1).trans rfl
        have hfs40 := blk_frozen BK172.out 1
        have hns40_1 := NB193_172.out
        have hms40_1 := NB172_193.out
        have hs41 : w38.cell? ⟨gb172, 2, none⟩ = some (.int .i64 0) := (blk_cell BK172.out 2).trans rfl
        have hfs41 := blk_frozen BK172.out 2
        have hns41_1 := NB193_172.out
        have hms41_1 := NB172_193.out
        have hs42 : w38.cell? ⟨gb172, 3, none⟩ = some (.slice none 0 0) := (blk_cell BK172.out 3).trans rfl
        have hfs42 := blk_frozen BK172.out 3
        have hns42_1 := NB193_172.out
        have hms42_1 := NB172_193.out
        have hs43 : w38.cell? ⟨gb172, 4, none⟩ = some (.slice none 0 0) := (blk_cell BK172.out 4).trans rfl
        have hfs43 := blk_frozen BK172.out 4
        have hns43_1 := NB193_172.out
        have hms43_1 := NB172_193.out
        have hs44 : w38.cell? ⟨gb172, 5, none⟩ = some (.int .i64 0) := (blk_cell BK172.out 5).trans rfl
        have hfs44 := blk_frozen BK172.out 5
        have hns44_1 := NB193_172.out
        have hms44_1 := NB172_193.out
        refine skip_ (w1 := ?_) (by rfl) rfl ?_ ?_
        rotate_left
        ·go_simp
         rfl
        refine hK.out _ _ ⟨((cell_far (p := ⟨gb172, _, none⟩) NB193_172.out _).trans (((cell_far (p := ⟨gb172, _, none⟩) NB193_172.out _).trans (((cell_far (p := ⟨gb172, _, none⟩) NB193_172.out _).trans (((cell_far (p := ⟨gb172, _, none⟩) NB193_172.out _).trans (((cell_far (p := ⟨gb172, _, none⟩) NB193_172.out _).trans (((cell_far (p := ⟨gb172, _, none⟩) NB193_172.out _).trans (hHeld.1)))))))))))), ((cell_far (p := ⟨gb172, _, none⟩) NB193_172.out _).trans (((cell_far (p := ⟨gb172, _, none⟩) NB193_172.out _).trans (((cell_far (p := ⟨gb172, _, none⟩) NB193_172.out _).trans (((cell_far (p := ⟨gb172, _, none⟩) NB193_172.out _).trans (((cell_far (p := ⟨gb172, _, none⟩) NB193_172.out _).trans (((cell_far (p := ⟨gb172, _, none⟩) NB193_172.out _).trans (hHeld.2.1)))))))))))), ((cell_far (p := ⟨gb172, _, none⟩) NB193_172.out _).trans (((cell_far (p := ⟨gb172, _, none⟩) NB193_172.out _).trans (((cell_far (p := ⟨gb172, _, none⟩) NB193_172.out _).trans (((cell_far (p := ⟨gb172, _, none⟩) NB193_172.out _).trans (((cell_far (p := ⟨gb172, _, none⟩) NB193_172.out _).trans (((cell_far (p := ⟨gb172, _, none⟩) NB193_172.out _).trans (hHeld.2.2))))))))))))⟩ (fun hHeld => ?_)
        clear hK K
        refine done_ (by kernel_rfl) ?_
        try go_wp2
        refine bodyPost_ret (results_cell_row rfl _ _ gb172 45 #[.int .i64 2, .int .i64 t199, .int .i64 0, .slice Ao34 y196.length co34, .slice Ao30 t188.length co30, .int .i64 t191] (0, 0) _ rfl (by exact p6 (lK BK172.out)) Try.underlying45 rfl (by kernel_rfl)) rfl ?_
        exact ⟨_, _, er, by exact lR <| Kd.R_mono (Kd.R_far (p := ⟨gb172, 5, none⟩) (Kd.R_far (p := ⟨gb172, 4, none⟩) (Kd.R_far (p := ⟨gb172, 3, none⟩) (Kd.R_far (p := ⟨gb172, 2, none⟩) (Kd.R_far (p := ⟨gb172, 1, none⟩) (Kd.R_far (p := ⟨gb172, 0, none⟩) (Kd.R_types HO198.out BK172.out (by decide)) (fun _ hk => by first | exact hk.2 | exact fun e_ => hk.2 (e_.trans (ob _ _ _ _))) (.int .i64 2)) (fun _ hk => by first | exact hk.2 | exact fun e_ => hk.2 (e_.trans (ob _ _ _ _))) (.int .i64 t199)) (fun _ hk => by first | exact hk.2 | exact fun e_ => hk.2 (e_.trans (ob _ _ _ _))) (.int .i64 0)) (fun _ hk => by first | exact hk.2 | exact fun e_ => hk.2 (e_.trans (ob _ _ _ _))) (.slice Ao34 y196.length co34)) (fun _ hk => by first | exact hk.2 | exact fun e_ => hk.2 (e_.trans (ob _ _ _ _))) (.slice Ao30 t188.length co30)) (fun _ hk => by first | exact hk.2 | exact fun e_ => hk.2 (e_.trans (ob _ _ _ _))) (.int .i64 t191)) (fun _ hk => by first | exact hk.1.2 | exact fun e_ => hk.1.2 (e_.trans (ob _ _ _ _))), by exact lR <| Kd.R_mono (Kd.R_far (p := ⟨gb172, 5, none⟩) (Kd.R_far (p := ⟨gb172, 4, none⟩) (Kd.R_far (p := ⟨gb172, 3, none⟩) (Kd.R_far (p := ⟨gb172, 2, none⟩) (Kd.R_far (p := ⟨gb172, 1, none⟩) (Kd.R_far (p := ⟨gb172, 0, none⟩) (Kd.R_types HO190.out BK172.out (by decide)) (fun _ hk => by first | exact hk.2 | exact fun e_ => hk.2 (e_.trans (ob _ _ _ _))) (.int .i64 2)) (fun _ hk => by first | exact hk.2 | exact fun e_ => hk.2 (e_.trans (ob _ _ _ _))) (.int .i64 t199)) (fun _ hk => by first | exact hk.2 | exact fun e_ => hk.2 (e_.trans (ob _ _ _ _))) (.int .i64 0)) (fun _ hk => by first | exact hk.2 | exact fun e_ => hk.2 (e_.trans (ob _ _ _ _))) (.slice Ao34 y196.length co34)) (fun _ hk => by first | exact hk.2 | exact fun e_ => hk.2 (e_.trans (ob _ _ _ _))) (.slice Ao30 t188.length co30)) (fun _ hk => by first | exact hk.2 | exact fun e_ => hk.2 (e_.trans (ob _ _ _ _))) (.int .i64 t191)) (fun _ hk => by first | exact hk.1.2 | exact fun e_ => hk.1.2 (e_.trans (ob _ _ _ _))), by exact IsS69.j HI0.out, by exact jB HB.out, by exact jK HK.out⟩
       ·rw [if_neg c22] at H
        have c22b0 := decide_eq_false c22
        clear c22
        obtain ⟨⟨t201, t202⟩, A45, H⟩ := bS H
        try dsimp only at H
        simp only [Option.some.injEq, Prod.mk.injEq] at H
        obtain ⟨rfl, rfl, rfl, rfl, rfl, rfl, rfl⟩ := H
        try go_wp2_with (first | ((with_reducible refine gate_callee (f := 55) rfl ?_); refine gL (some 20) Try.func55 #[.pointer (some ⟨g, 0, none⟩)] ?_; (with_reducible refine (spec_l20Small.calls kj15 g s0_0 t174 t185 t188 t191 t192 w0 _ ?side1 ?side2 A20.out).mono ?_); (case side1 => exact IsS69.j HI0.out); (case side2 => exact jB HB.out); rintro e w46 ⟨v186, v189, rfl, ho0, ho1, hi, hb, hk⟩; refine ⟨_, rfl, ?_⟩; replace BK172 := aM (kb hk BK172.out NB172_0.out); have HO187 := aM (lw ho0 HK.out); have HO190 := aM (lw ho1 HK.out); replace HK := aM (kt HK.out hk); replace HB := aM (hb); replace HI0 := aM (hi); (try clear hb hk hi); (try clear ho0); (try clear ho1)) | ((with_reducible refine gate_dst (N := 3) rfl ?_); refine bx 3 #[.slice none 0 0, .slice none 0 0, .int .i64 0] 43 ?_; intro gb193 hg w47 hbox hb; replace HO187 := aM (rb HO187.out hb); replace HO190 := aM (rb HO190.out hb); replace HB := aM (bj HB.out hb); have BK193 := aM (hbox); have GW193 := aM ((gk hg HK.out)); have IGW193 : Nonempty _ := ⟨GW193.out⟩; have GE193 := aM ((Nat.le_trans HW0.out (gk hg HK.out) : w0.heap.size ≤ gb193)); have IGE193 : Nonempty _ := ⟨GE193.out⟩; replace HK := aM (kbl HK.out hb); have NB172_193 := aM ((neL hg (lK BK172.out) : gb172 ≠ gb193)); have NB193_172 := aM ((neG hg (lK BK172.out) : gb193 ≠ gb172)); replace BK172 := aM (bb BK172.out hb); have NB0_193 := aM ((by rw [hg]; exact Nat.ne_of_lt (IsS69.lt (show IsS69 w0 _ g s0_0 t192 from by exact IsS69.j HI0.out)) : g ≠ gb193)); have INB0_193 : Nonempty _ := ⟨NB0_193.out⟩; have NB193_0 := aM ((by rw [hg]; exact Nat.ne_of_gt (IsS69.lt (show IsS69 w0 _ g s0_0 t192 from by exact IsS69.j HI0.out)) : gb193 ≠ g)); replace HI0 := aM (IsS69.below (by exact IsS69.j HI0.out) hb); clear hb hbox hg; obtain ⟨Ao48, co48, eo48⟩ := Kd.R_slice HO187.out; subst eo48; have hnb49 := NB193_172.out; have hnc49 := NB172_193.out; have hnb50 := NB193_0.out; have hnc50 := NB0_193.out; obtain ⟨hcz51_0, hcz51_1, hcz51_2, hfz51_0, hfz51_1, hfz51_2⟩ := cf3 BK193.out; obtain ⟨Ao52, co52, eo52⟩ := Kd.R_slice HO190.out; subst eo52) | ((with_reducible refine gate_callee (f := 20) rfl ?_); refine gL (some 22) Try.func20 #[.pointer (some ⟨g, 0, none⟩), .int .i64 3] ?_; (with_reducible refine (spec_l20Rd_pick.calls kj15 g s0_0 t192 3 t194 t195 w0 _ ?side1 ?side2 A21.out).mono ?_); (case side1 => exact IsS69.j HI0.out); (case side2 => exact jB HB.out); rintro e w53 ⟨rfl, hi, hb, hk⟩; refine ⟨_, rfl, ?_⟩; replace BK172 := aM (KeepBut.blk hk (g' := gb172) (o := .cells #[.int .i64 0, .int .i64 0, .int .i64 0, .slice none 0 0, .slice none 0 0, .int .i64 0] 45 (0, 0)) (by exact f3 (lK BK172.out) NB172_193.out) NB172_0.out (by simp)); replace HO187 := aM (Kd.R_mono (Kd.R_keep (IsS69.apart (show IsS69 w0 _ g s0_0 t192 from by exact IsS69.j HI0.out) (by (with_reducible repeat (first | apply ra | apply rn | apply re)); exact (R3 HO187.out BK193.out)) (by decide)) hk (fun _ h => h.2)) (fun _ h => h.1)); replace HO190 := aM (Kd.R_mono (Kd.R_keep (IsS69.apart (show IsS69 w0 _ g s0_0 t192 from by exact IsS69.j HI0.out) (by (with_reducible repeat (first | apply ra | apply rn | apply re)); exact (R3 HO190.out BK193.out)) (by decide)) hk (fun _ h => h.2)) (fun _ h => h.1)); replace BK193 := aM (KeepBut.blk hk (g' := gb193) (o := .cells #[.slice Ao48 t185.length co48, .slice Ao52 t188.length co52, .int .i64 t191] 43 (0, 0)) (by exact p3 (lK BK193.out)) NB193_0.out (by simp)); replace HK := aM (kt HK.out hk); replace HB := aM (hb); replace HI0 := aM (hi); (try clear hb hk hi)))
        replace HO187 := aM (Kd.R_drew HO187.out)
        replace HO190 := aM (Kd.R_drew HO190.out)
        replace BK172 := aM (blk_drew BK172.out)
        replace BK193 := aM (blk_drew BK193.out)
        replace HI0 := aM (IsS69.drew HI0.out)
        replace HK := aM (keep_drew HK.out)
        replace HB := aM (below_drew1 HB.out)
        refine start_ (n := 5) (S := fun w' => w'.cell? ⟨gb193, 0, none⟩ = some (.slice Ao48 t185.length co48) ∧ w'.cell? ⟨gb193, 1, none⟩ = some (.slice Ao52 t188.length co52) ∧ w'.cell? ⟨gb193, 2, none⟩ = some (.int .i64 t191)) (ds := []) #[false, false, false, false, false] (by kernel_rfl) rfl rfl (cz3 BK193.out) (fun hHeld => ?_)
        generalize w53.drew = w54 at HO187 HO190 BK172 BK193 HI0 HK HB hHeld ⊢
        refine pure_ (i := 0) (N := some 26) (v := ?_) (a' := ?_) #[true, false, false, false, false] rfl rfl (by kernel_rfl) (fun _ _ _ h => h) (Or.inl ⟨by rfl, ?_⟩) ?_ ?_
        rotate_left
        ·intro w'
         go_simp
         with_reducible rfl
        rotate_left
        ·simp only [Act.put, sA, s0, sS, i64_w, i32_w]
         rfl
        refine take_ (i := 2) (N := some 28) (v := ?_) (a' := ?_) #[true, false, true, false, false] rfl rfl (by kernel_rfl) (fun _ _ _ h => h) (Or.inl ⟨by rfl, ?_⟩) hHeld ?_ ?_
        rotate_left
        ·rintro w' ⟨s0, s1, s2⟩
         go_simp
         with_reducible rfl
        rotate_left
        ·simp only [Act.put, sA, s0, sS, i64_w, i32_w]
         rfl
        refine one_ (i := 1) (N := some 27) #[true, true, true, false, false] rfl rfl (by kernel_rfl) (by decide) (fun K hK => ?_)
        refine goes_ Try.func20 (by kernel_rfl) rfl #[.pointer (some ⟨g, 0, none⟩), .int .i64 3] (by rfl) rfl rfl (by (try simp only [mA, mC, mN]); first | done | rfl | (simp only [ld, lt]; rfl)) ?_
        with_reducible refine (spec_l20Rd_pick.calls kj15 g s0_0 t195 3 t201 t202 w0 _ ?side1 ?side2 A45.out).mono ?_
        (case side1 => exact IsS69.j HI0.out)
        (case side2 => exact jB HB.out)
        rintro e w55 ⟨rfl, hi, hb, hk⟩
        refine ⟨_, rfl, ?_⟩
        replace BK172 := aM (kb hk BK172.out NB172_0.out)
        replace HO187 := aM (IsS69.kp (f1 := t195) (by exact IsS69.j HI0.out) (lR HO187.out) hk)
        replace HO190 := aM (IsS69.kp (f1 := t195) (by exact IsS69.j HI0.out) (lR HO190.out) hk)
        replace BK193 := aM (kb hk BK193.out NB193_0.out)
        replace HK := aM (kt HK.out hk)
        replace HB := aM (hb)
        replace HI0 := aM (hi)
        (try clear hb)
        (try clear hb2)
        (try clear hk)
        (try clear hi)
        refine hK.out _ _ (cz3 BK193.out) (fun hHeld => ?_)
        clear hK K
        refine norm_ (a' := ?_) ?_ ?_
        rotate_left
        ·show Act.put _ (some 27) _ = _
         simp only [Act.put, sA, s0, sS, i64_w, i32_w]
         rfl
        refine pure_ (i := 3) (N := some 29) (v := ?_) (a' := ?_) #[true, true, true, true, false] rfl rfl (by kernel_rfl) (fun _ _ _ h => h) (Or.inl ⟨by rfl, ?_⟩) ?_ ?_
        rotate_left
        ·intro w'
         go_simp
         with_reducible rfl
        rotate_left
        ·simp only [Act.put, sA, s0, sS, i64_w, i32_w]
         rfl
        refine one_ (i := 4) (N := none) #[true, true, true, true, true] rfl rfl (by kernel_rfl) (by decide) (fun K hK => ?_)
        have hs56 : w55.cell? ⟨gb172, 0, none⟩ = some (.int .i64 0) := (blk_cell BK172.out 0).trans rfl
        have hfs56 := blk_frozen BK172.out 0
        have hns56_1 := NB193_172.out
        have hms56_1 := NB172_193.out
        have hs57 : w55.cell? ⟨gb172, 1, none⟩ = some (.int .i64 0) := (blk_cell BK172.out 1).trans rfl
        have hfs57 := blk_frozen BK172.out 1
        have hns57_1 := NB193_172.out
        have hms57_1 := NB172_193.out
        have hs58 : w55.cell? ⟨gb172, 2, none⟩ = some (.int .i64 0) := (blk_cell BK172.out 2).trans rfl
        have hfs58 := blk_frozen BK172.out 2
        have hns58_1 := NB193_172.out
        have hms58_1 := NB172_193.out
        have hs59 : w55.cell? ⟨gb172, 3, none⟩ = some (.slice none 0 0) := (blk_cell BK172.out 3).trans rfl
        have hfs59 := blk_frozen BK172.out 3
        have hns59_1 := NB193_172.out
        have hms59_1 := NB172_193.out
        have hs60 : w55.cell? ⟨gb172, 4, none⟩ = some (.slice none 0 0) := (blk_cell BK172.out 4).trans rfl
        have hfs60 := blk_frozen BK172.out 4
        have hns60_1 := NB193_172.out
        have hms60_1 := NB172_193.out
        have hs61 : w55.cell? ⟨gb172, 5, none⟩ = some (.int .i64 0) := (blk_cell BK172.out 5).trans rfl
        have hfs61 := blk_frozen BK172.out 5
        have hns61_1 := NB193_172.out
        have hms61_1 := NB172_193.out
        refine skip_ (w1 := ?_) (by rfl) rfl ?_ ?_
        rotate_left
        ·go_simp
         rfl
        refine hK.out _ _ ⟨((cell_far (p := ⟨gb172, _, none⟩) NB193_172.out _).trans (((cell_far (p := ⟨gb172, _, none⟩) NB193_172.out _).trans (((cell_far (p := ⟨gb172, _, none⟩) NB193_172.out _).trans (((cell_far (p := ⟨gb172, _, none⟩) NB193_172.out _).trans (((cell_far (p := ⟨gb172, _, none⟩) NB193_172.out _).trans (((cell_far (p := ⟨gb172, _, none⟩) NB193_172.out _).trans (hHeld.1)))))))))))), ((cell_far (p := ⟨gb172, _, none⟩) NB193_172.out _).trans (((cell_far (p := ⟨gb172, _, none⟩) NB193_172.out _).trans (((cell_far (p := ⟨gb172, _, none⟩) NB193_172.out _).trans (((cell_far (p := ⟨gb172, _, none⟩) NB193_172.out _).trans (((cell_far (p := ⟨gb172, _, none⟩) NB193_172.out _).trans (((cell_far (p := ⟨gb172, _, none⟩) NB193_172.out _).trans (hHeld.2.1)))))))))))), ((cell_far (p := ⟨gb172, _, none⟩) NB193_172.out _).trans (((cell_far (p := ⟨gb172, _, none⟩) NB193_172.out _).trans (((cell_far (p := ⟨gb172, _, none⟩) NB193_172.out _).trans (((cell_far (p := ⟨gb172, _, none⟩) NB193_172.out _).trans (((cell_far (p := ⟨gb172, _, none⟩) NB193_172.out _).trans (((cell_far (p := ⟨gb172, _, none⟩) NB193_172.out _).trans (hHeld.2.2))))))))))))⟩ (fun hHeld => ?_)
        clear hK K
        refine done_ (by kernel_rfl) ?_
        try go_wp2
        refine bodyPost_ret (results_cell_row rfl _ _ gb172 45 #[.int .i64 2, .int .i64 t201, .int .i64 0, .slice Ao48 t185.length co48, .slice Ao52 t188.length co52, .int .i64 t191] (0, 0) _ rfl (by exact p6 (lK BK172.out)) Try.underlying45 rfl (by kernel_rfl)) rfl ?_
        exact ⟨_, _, er, by exact lR <| Kd.R_mono (Kd.R_far (p := ⟨gb172, 5, none⟩) (Kd.R_far (p := ⟨gb172, 4, none⟩) (Kd.R_far (p := ⟨gb172, 3, none⟩) (Kd.R_far (p := ⟨gb172, 2, none⟩) (Kd.R_far (p := ⟨gb172, 1, none⟩) (Kd.R_far (p := ⟨gb172, 0, none⟩) (Kd.R_types HO187.out BK172.out (by decide)) (fun _ hk => by first | exact hk.2 | exact fun e_ => hk.2 (e_.trans (ob _ _ _ _))) (.int .i64 2)) (fun _ hk => by first | exact hk.2 | exact fun e_ => hk.2 (e_.trans (ob _ _ _ _))) (.int .i64 t201)) (fun _ hk => by first | exact hk.2 | exact fun e_ => hk.2 (e_.trans (ob _ _ _ _))) (.int .i64 0)) (fun _ hk => by first | exact hk.2 | exact fun e_ => hk.2 (e_.trans (ob _ _ _ _))) (.slice Ao48 t185.length co48)) (fun _ hk => by first | exact hk.2 | exact fun e_ => hk.2 (e_.trans (ob _ _ _ _))) (.slice Ao52 t188.length co52)) (fun _ hk => by first | exact hk.2 | exact fun e_ => hk.2 (e_.trans (ob _ _ _ _))) (.int .i64 t191)) (fun _ hk => by first | exact hk.1 | exact fun e_ => hk.1 (e_.trans (ob _ _ _ _))), by exact lR <| Kd.R_mono (Kd.R_far (p := ⟨gb172, 5, none⟩) (Kd.R_far (p := ⟨gb172, 4, none⟩) (Kd.R_far (p := ⟨gb172, 3, none⟩) (Kd.R_far (p := ⟨gb172, 2, none⟩) (Kd.R_far (p := ⟨gb172, 1, none⟩) (Kd.R_far (p := ⟨gb172, 0, none⟩) (Kd.R_types HO190.out BK172.out (by decide)) (fun _ hk => by first | exact hk.2 | exact fun e_ => hk.2 (e_.trans (ob _ _ _ _))) (.int .i64 2)) (fun _ hk => by first | exact hk.2 | exact fun e_ => hk.2 (e_.trans (ob _ _ _ _))) (.int .i64 t201)) (fun _ hk => by first | exact hk.2 | exact fun e_ => hk.2 (e_.trans (ob _ _ _ _))) (.int .i64 0)) (fun _ hk => by first | exact hk.2 | exact fun e_ => hk.2 (e_.trans (ob _ _ _ _))) (.slice Ao48 t185.length co48)) (fun _ hk => by first | exact hk.2 | exact fun e_ => hk.2 (e_.trans (ob _ _ _ _))) (.slice Ao52 t188.length co52)) (fun _ hk => by first | exact hk.2 | exact fun e_ => hk.2 (e_.trans (ob _ _ _ _))) (.int .i64 t191)) (fun _ hk => by first | exact hk.1 | exact fun e_ => hk.1 (e_.trans (ob _ _ _ _))), by exact IsS69.j HI0.out, by exact jB HB.out, by exact jK HK.out⟩
      ·replace c19 := Bool.eq_false_iff.mpr c19
       subst c19
       rw [if_neg nf] at H
       try dsimp only at H
       by_cases c62 : t173 = 5
       ·rw [if_pos c62] at H
        have c62b0 := beq_iff_eq.mpr c62
        have c62b1 := bne_eq_false_iff_eq.mpr c62
        clear c62
        obtain ⟨⟨t203, t206, t209, t210⟩, A63, H⟩ := bS H
        try dsimp only at H
        simp only [Option.some.injEq, Prod.mk.injEq] at H
        obtain ⟨rfl, rfl, rfl, rfl, rfl, rfl, rfl⟩ := H
        go_wp2_with (first | ((with_reducible refine gate_callee (f := 55) rfl ?_); refine gL (some 33) Try.func55 #[.pointer (some ⟨g, 0, none⟩)] ?_; (with_reducible refine (spec_l20Small.calls kj15 g s0_0 t174 t203 t206 t209 t210 w0 _ ?side1 ?side2 A63.out).mono ?_); (case side1 => exact IsS69.j HI0.out); (case side2 => exact jB HB.out); rintro e w64 ⟨v204, v207, rfl, ho0, ho1, hi, hb, hk⟩; refine ⟨_, rfl, ?_⟩; replace BK172 := aM (kb hk BK172.out NB172_0.out); have HO205 := aM (lw ho0 HK.out); have HO208 := aM (lw ho1 HK.out); replace HK := aM (kt HK.out hk); replace HB := aM (hb); replace HI0 := aM (hi); (try clear hb hk hi); (try clear ho0); (try clear ho1); obtain ⟨Ao65, co65, eo65⟩ := Kd.R_slice HO208.out; subst eo65; obtain ⟨Ao66, co66, eo66⟩ := Kd.R_slice HO205.out; subst eo66; have hnb67 := NB172_0.out; have hnc67 := NB0_172.out; obtain ⟨hcz68_0, hcz68_1, hcz68_2, hcz68_3, hcz68_4, hcz68_5, hfz68_0, hfz68_1, hfz68_2, hfz68_3, hfz68_4, hfz68_5⟩ := cf6 BK172.out))
        refine bodyPost_ret (results_cell_row rfl _ _ gb172 45 #[.int .i64 3, .int .i64 0, .int .i64 0, .slice Ao66 t203.length co66, .slice Ao65 t206.length co65, .int .i64 t209] (0, 0) _ rfl (by exact p6 (lK BK172.out)) Try.underlying45 rfl (by kernel_rfl)) rfl ?_
        exact ⟨_, _, er, by exact lR <| Kd.R_mono (Kd.R_far (p := ⟨gb172, 5, none⟩) (Kd.R_far (p := ⟨gb172, 4, none⟩) (Kd.R_far (p := ⟨gb172, 3, none⟩) (Kd.R_far (p := ⟨gb172, 2, none⟩) (Kd.R_far (p := ⟨gb172, 1, none⟩) (Kd.R_far (p := ⟨gb172, 0, none⟩) (Kd.R_types HO205.out BK172.out (by decide)) (fun _ hk => by first | exact hk.2 | exact fun e_ => hk.2 (e_.trans (ob _ _ _ _))) (.int .i64 3)) (fun _ hk => by first | exact hk.2 | exact fun e_ => hk.2 (e_.trans (ob _ _ _ _))) (.int .i64 0)) (fun _ hk => by first | exact hk.2 | exact fun e_ => hk.2 (e_.trans (ob _ _ _ _))) (.int .i64 0)) (fun _ hk => by first | exact hk.2 | exact fun e_ => hk.2 (e_.trans (ob _ _ _ _))) (.slice Ao66 t203.length co66)) (fun _ hk => by first | exact hk.2 | exact fun e_ => hk.2 (e_.trans (ob _ _ _ _))) (.slice Ao65 t206.length co65)) (fun _ hk => by first | exact hk.2 | exact fun e_ => hk.2 (e_.trans (ob _ _ _ _))) (.int .i64 t209)) (fun _ hk => by first | exact hk.1 | exact fun e_ => hk.1 (e_.trans (ob _ _ _ _))), by exact lR <| Kd.R_mono (Kd.R_far (p := ⟨gb172, 5, none⟩) (Kd.R_far (p := ⟨gb172, 4, none⟩) (Kd.R_far (p := ⟨gb172, 3, none⟩) (Kd.R_far (p := ⟨gb172, 2, none⟩) (Kd.R_far (p := ⟨gb172, 1, none⟩) (Kd.R_far (p := ⟨gb172, 0, none⟩) (Kd.R_types HO208.out BK172.out (by decide)) (fun _ hk => by first | exact hk.2 | exact fun e_ => hk.2 (e_.trans (ob _ _ _ _))) (.int .i64 3)) (fun _ hk => by first | exact hk.2 | exact fun e_ => hk.2 (e_.trans (ob _ _ _ _))) (.int .i64 0)) (fun _ hk => by first | exact hk.2 | exact fun e_ => hk.2 (e_.trans (ob _ _ _ _))) (.int .i64 0)) (fun _ hk => by first | exact hk.2 | exact fun e_ => hk.2 (e_.trans (ob _ _ _ _))) (.slice Ao66 t203.length co66)) (fun _ hk => by first | exact hk.2 | exact fun e_ => hk.2 (e_.trans (ob _ _ _ _))) (.slice Ao65 t206.length co65)) (fun _ hk => by first | exact hk.2 | exact fun e_ => hk.2 (e_.trans (ob _ _ _ _))) (.int .i64 t209)) (fun _ hk => by first | exact hk.1 | exact fun e_ => hk.1 (e_.trans (ob _ _ _ _))), by exact IsS69.j HI0.out, by exact jB HB.out, by exact jK HK.out⟩
       ·rw [if_neg c62] at H
        have c62b0 := beq_eq_false_iff_ne.mpr c62
        have c62b1 := bne_iff_ne.mpr c62
        simp only [Option.some.injEq, Prod.mk.injEq] at H
        obtain ⟨rfl, rfl, rfl, rfl, rfl, rfl, rfl⟩ := H
        have hnb69 := NB172_0.out
        have hnc69 := NB0_172.out
        obtain ⟨hcz70_0, hcz70_1, hcz70_2, hcz70_3, hcz70_4, hcz70_5, hfz70_0, hfz70_1, hfz70_2, hfz70_3, hfz70_4, hfz70_5⟩ := cf6 BK172.out
        go_wp2
        refine bodyPost_ret (results_cell_row rfl _ _ gb172 45 #[.int .i64 4, .int .i64 0, .int .i64 0, .slice none 0 0, .slice none 0 0, .int .i64 0] (0, 0) _ rfl (by exact p6 (lK BK172.out)) Try.underlying45 rfl (by kernel_rfl)) rfl ?_
        exact ⟨_, _, er, by first | exact Kd.R_nil _ _ _ _ _ | exact Kd.N_nil _ _ _ _ _ | exact Kd.V_nil _ _ _ _ _ | exact Kd.Q_nil _ _ _ _ _ | exact Kd.S_nil _ _ _ _ _, by first | exact Kd.R_nil _ _ _ _ _ | exact Kd.N_nil _ _ _ _ _ | exact Kd.V_nil _ _ _ _ _ | exact Kd.Q_nil _ _ _ _ _ | exact Kd.S_nil _ _ _ _ _, by exact IsS69.j HI0.out, by exact jB HB.out, by exact jK HK.out⟩

end Go.Proofs.Ytgalnmgkcdmnkaa.QFnPlnHome

-- shorter
