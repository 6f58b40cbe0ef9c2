/- Plain functions, and that the Go code computes them: written by a program of this session over the seat's translation; the conditions stand in each theorem. -/
import Derived.Test.YtgalnmgkcdmnkaaQFnPlnHomex0
import Derived.Test.YtgalnmgkcdmnkaaQFnPlnHomex1
import Derived.Test.YtgalnmgkcdmnkaaQFnPlnHomex3
namespace Go.Proofs.Ytgalnmgkcdmnkaa.QFnPlnHome
open Go.RowKit Go.Proofs.YtgalnmgkcdmnkaaW.PrintWords Go.Proofs.YtgalnmgkcdmnkaaW.PrintLast Go.Proofs.YtgalnmgkcdmnkaaW.PrintMore Go.Proofs.Ytgalnmgkcdmnkaa.HWords
open Value (ownBlock)
attribute [local go_sem] max2_int min2_int max_two min_two max_three min_three max_four min_four   -- for this text's walks alone
set_option linter.unusedVariables false
set_option linter.unusedSimpArgs false

/-! ### spec_l20Form: function 54 -/
def spec_l20Form.j0 : Nat → Int → List Int → Int → List Int → List Int → Int → Option (List Int × List Int × Int × Int)
 | 0, _, _, _, _, _, _ => none
 | k + 1, x1, x1000, x1001, x428000, x428001, x428002 => (spec_l20Rd_pick.f k x1000 x1001 x1).bind fun bt439 => (if bt439.1 > 0 then (some (x428000, x428001, x428002, bt439.2)) else ((spec_l20Rd_pick.f k x1000 bt439.2 4).bind fun bt441 => (if bt441.1 = 0 then (if 2 ≤ (x428000.length : Int) then (some ((x428000.take (2 : Int).toNat), x428001, x428002, bt441.2)) else (none)) else (if bt441.1 = 1 then (if x428001.length < 17592186044416 then (some (x428000, (x428001 ++ [0]), x428002, bt441.2)) else (none)) else (if bt441.1 = 2 then ((some (([10000001, (-10000001), 10000000] : List Int) : List Int)).bind fun y449 => ((spec_l20Rd_pick.f k x1000 bt441.2 3).bind fun bt452 => (if 0 ≤ bt452.1 then (if bt452.1 < (y449.length : Int) then (some (x428000, x428001, rd y449 bt452.1, bt452.2)) else (none)) else (none)))) else ((spec_l20Rd_pick.f k x1000 bt441.2 3).bind fun bt455 => ((some (([10000001, (-10000001)] : List Int) : List Int)).bind fun y457 => ((spec_l20Rd_pick.f k x1000 bt455.2 2).bind fun bt460 => (if 0 ≤ bt460.1 then (if bt460.1 < (y457.length : Int) then (if 0 ≤ bt455.1 then (if bt455.1 < (x428000.length : Int) then (some ((x428000.set (bt455.1 : Int).toNat (rd y457 bt460.1)), x428001, x428002, bt460.2)) else (none)) else (none)) else (none)) else (none))))))))))
def spec_l20Form.f (k : Nat) (s0_0 : List Int) (s0_1 : Int) (a1 : Int) : Option (List Int × List Int × Int × Int) := (spec_l20Small.f k s0_0 s0_1).bind fun bt419 => ((spec_l20Rd_pick.f k s0_0 bt419.2.2.2 4).bind fun bt428 => (if bt428.1 = 0 then ((spec_l20Rd_pick.f k s0_0 bt428.2 3).bind fun bt430 => ((some (([10000000, (-10000000), 1000, 77] : List Int) : List Int)).bind fun y432 => ((spec_l20Rd_pick.f k s0_0 bt430.2 4).bind fun bt435 => (if 0 ≤ bt435.1 then (if bt435.1 < (y432.length : Int) then (if 0 ≤ bt430.1 then (if bt430.1 < (bt419.1.length : Int) then (spec_l20Form.j0 k a1 s0_0 bt435.2 (bt419.1.set (bt430.1 : Int).toNat (rd y432 bt435.1)) bt419.2.1 bt419.2.2.1) else (none)) else (none)) else (none)) else (none))))) else (spec_l20Form.j0 k a1 s0_0 bt428.2 bt419.1 bt419.2.1 bt419.2.2.1)))
theorem spec_l20Form.mono_l : ∀ k, (∀ y0 y1 y2 y3 y4 y5, LeO (spec_l20Form.j0 k y0 y1 y2 y3 y4 y5) (spec_l20Form.j0 (k + 1) y0 y1 y2 y3 y4 y5))
 | 0 => fun _ _ _ _ _ _ r h => by simp [spec_l20Form.j0] at h
 | k + 1 => by
  have ih0 := spec_l20Form.mono_l k
  ·intro y0 y1 y2 y3 y4 y5
   unfold spec_l20Form.j0
   repeat' first
   | (with_reducible exact ih0 _ _ _ _ _ _)
   | (with_reducible exact spec_l20Rd_pick.mono _ _ _ _)
   | (with_reducible exact spec_l20Small.mono _ _ _)
   | (with_reducible exact LeO.refl _)
   | (with_reducible exact LeO.none _)
   | (with_reducible refine LeO.ite ?_ ?_)
   | (with_reducible refine LeO.bind ?_ (fun _ => ?_))
   | exact LeO.none _
   | refine LeO.ite ?_ ?_
   | refine LeO.bind ?_ (fun _ => ?_)
theorem spec_l20Form.mono : ∀ a0 a1 a2 k, LeO (spec_l20Form.f k a0 a1 a2) (spec_l20Form.f (k + 1) a0 a1 a2) := by
 intro a0 a1 a2 k
 have ih0 := spec_l20Form.mono_l k
 unfold spec_l20Form.f
 repeat' first
   | (with_reducible exact ih0 _ _ _ _ _ _)
   | (with_reducible exact spec_l20Rd_pick.mono _ _ _ _)
   | (with_reducible exact spec_l20Small.mono _ _ _)
   | (with_reducible exact LeO.refl _)
   | (with_reducible exact LeO.none _)
   | (with_reducible refine LeO.ite ?_ ?_)
   | (with_reducible refine LeO.bind ?_ (fun _ => ?_))
   | exact LeO.none _
   | refine LeO.ite ?_ ?_
   | refine LeO.bind ?_ (fun _ => ?_)
def spec_l20Form.T3 : Bool × List (List Nat × List Nat) := (true, [([], []), ([0], [0]), ([], []), ([2], [2]), ([], []), ([], []), ([5, 3], [5]), ([4, 6], [4, 6]), ([7], [7]), ([1, 3, 0, 1, 2, 3, 4, 5, 6, 7, 8], [1, 3]), ([9, 8, 6, 0, 1, 2, 3, 4, 5, 6, 7, 8], [8, 9])])
def spec_l20Form.B3 : List Nat := [0, 1, 0, 4, 0, 0, 44, 124, 252, 511, 1023]
theorem spec_l20Form.tab3 : rtab .any (opsOf Try.f54 3) = spec_l20Form.T3 := by kernel_rfl
theorem spec_l20Form.bits3 : waitsOk spec_l20Form.T3.2 spec_l20Form.B3 = true := by kernel_rfl
def spec_l20Form.T7 : Bool × List (List Nat × List Nat) := (true, [([], []), ([0], [0]), ([], []), ([2], [2]), ([], []), ([], []), ([5, 3], [5]), ([4, 6], [4, 6]), ([7], [7]), ([1, 3, 0, 1, 2, 3, 4, 5, 6, 7, 8], [1, 3]), ([9, 8, 6, 0, 1, 2, 3, 4, 5, 6, 7, 8], [8, 9])])
def spec_l20Form.B7 : List Nat := [0, 1, 0, 4, 0, 0, 44, 124, 252, 511, 1023]
theorem spec_l20Form.tab7 : rtab .any (opsOf Try.f54 7) = spec_l20Form.T7 := by kernel_rfl
theorem spec_l20Form.bits7 : waitsOk spec_l20Form.T7.2 spec_l20Form.B7 = true := by kernel_rfl
set_option maxHeartbeats 8000000 in
set_option maxRecDepth 100000 in
theorem spec_l20Form.calls (k : Nat) (g : Nat) (s0_0 : List Int) (s0_1 : Int) (a1 : Int) (r1 : List Int) (r2 : List Int) (r3 : Int) (r4 : Int) (w0 w : World) (hI : IsS69 w0 w g s0_0 s0_1) (hB : Below w0.heap.size w0 w) (h : spec_l20Form.f k s0_0 s0_1 a1 = some (r1, r2, r3, r4)) :
  Calls Try.prog 54 #[.pointer (some ⟨g, 0, none⟩), .int .i64 a1] w fun e w' => ∃ v0_ v1_ : Value, e = .returned (.agg #[v0_, v1_, .int .i64 r3]) ∧ Kd.R (Kd.int .i64) 3 w' w.heap.size (fun k_ => some k_ ≠ (v1_ : Value).ownBlock) v0_ r1 ∧ Kd.R (Kd.int .i64) 3 w' w.heap.size (fun k_ => some k_ ≠ (v0_ : Value).ownBlock) v1_ r2 ∧ IsS69 w0 w' g s0_0 r4 ∧ Below w0.heap.size w0 w' ∧ KeepBut w w' g none := by
 have hu43 := Try.underlying43
 have HI0 := aM hI
 have IHI0 : Nonempty _ := ⟨IsS69.ge hI⟩
 have HK := aM (KeepBut.refl w g none)
 have HL := aM hB.size
 clear hI
 have HW0 := aM hB.size
 have HB := aM hB
 clear hB
 have H : ((spec_l20Small.f k s0_0 s0_1).bind fun bt419 => ((spec_l20Rd_pick.f k s0_0 bt419.2.2.2 4).bind fun bt428 => (if bt428.1 = 0 then ((spec_l20Rd_pick.f k s0_0 bt428.2 3).bind fun bt430 => ((some (([10000000, (-10000000), 1000, 77] : List Int) : List Int)).bind fun y432 => ((spec_l20Rd_pick.f k s0_0 bt430.2 4).bind fun bt435 => (if 0 ≤ bt435.1 then (if bt435.1 < (y432.length : Int) then (if 0 ≤ bt430.1 then (if bt430.1 < (bt419.1.length : Int) then (spec_l20Form.j0 k a1 s0_0 bt435.2 (bt419.1.set (bt430.1 : Int).toNat (rd y432 bt435.1)) bt419.2.1 bt419.2.2.1) else (none)) else (none)) else (none)) else (none))))) else (spec_l20Form.j0 k a1 s0_0 bt428.2 bt419.1 bt419.2.1 bt419.2.2.1)))) = some (r1, r2, r3, r4) := h
 clear h
 obtain ⟨⟨t419, t422, t425, t426⟩, A3, H⟩ := bS H
 try dsimp only at H
 obtain ⟨⟨t428, t429⟩, A4, H⟩ := bS H
 try dsimp only at H
 have HC5 := aM H
 clear H
 go_enter Try.func54, Try.ntmps54
 go_upto_if 10 with (first | ((with_reducible refine gate_dst (N := 4) rfl ?_); refine bx 4 #[.slice none 0 0, .slice none 0 0, .int .i64 0] 43 ?_; intro gb418 hg w6 hbox hb; replace HB := aM (bj HB.out hb); have BK418 := aM (hbox); have GW418 := aM ((gk hg HK.out)); have IGW418 : Nonempty _ := ⟨GW418.out⟩; have GE418 := aM ((Nat.le_trans HW0.out (gk hg HK.out) : w0.heap.size ≤ gb418)); have IGE418 : Nonempty _ := ⟨GE418.out⟩; replace HK := aM (kbl HK.out hb); have NB0_418 := aM ((by rw [hg]; exact Nat.ne_of_lt (IsS69.lt (show IsS69 w0 _ g s0_0 s0_1 from by exact IsS69.j HI0.out)) : g ≠ gb418)); have INB0_418 : Nonempty _ := ⟨NB0_418.out⟩; have NB418_0 := aM ((by rw [hg]; exact Nat.ne_of_gt (IsS69.lt (show IsS69 w0 _ g s0_0 s0_1 from by exact IsS69.j HI0.out)) : gb418 ≠ g)); replace HI0 := aM (IsS69.below (by exact IsS69.j HI0.out) hb); clear hb hbox hg) | ((with_reducible refine gate_callee (f := 55) rfl ?_); refine gL (some 7) Try.func55 #[.pointer (some ⟨g, 0, none⟩)] ?_; (with_reducible refine (spec_l20Small.calls k g s0_0 s0_1 t419 t422 t425 t426 w0 _ ?side1 ?side2 A3.out).mono ?_); (case side1 => exact IsS69.j HI0.out); (case side2 => exact jB HB.out); rintro e w7 ⟨v420, v423, rfl, ho0, ho1, hi, hb, hk⟩; refine ⟨_, rfl, ?_⟩; replace BK418 := aM (kb hk BK418.out NB418_0.out); have HO421 := aM (lw ho0 HK.out); have HO424 := aM (lw ho1 HK.out); replace HK := aM (kt HK.out hk); replace HB := aM (hb); replace HI0 := aM (hi); (try clear hb hk hi); (try clear ho0); (try clear ho1)) | ((with_reducible refine gate_dst (N := 5) rfl ?_); refine bx 5 #[.slice none 0 0, .slice none 0 0, .int .i64 0] 43 ?_; intro gb427 hg w8 hbox hb; replace HO421 := aM (rb HO421.out hb); replace HO424 := aM (rb HO424.out hb); replace HB := aM (bj HB.out hb); have BK427 := aM (hbox); have GW427 := aM ((gk hg HK.out)); have IGW427 : Nonempty _ := ⟨GW427.out⟩; have GE427 := aM ((Nat.le_trans HW0.out (gk hg HK.out) : w0.heap.size ≤ gb427)); have IGE427 : Nonempty _ := ⟨GE427.out⟩; replace HK := aM (kbl HK.out hb); have NB418_427 := aM ((neL hg (lK BK418.out) : gb418 ≠ gb427)); have NB427_418 := aM ((neG hg (lK BK418.out) : gb427 ≠ gb418)); replace BK418 := aM (bb BK418.out hb); have NB0_427 := aM ((by rw [hg]; exact Nat.ne_of_lt (IsS69.lt (show IsS69 w0 _ g s0_0 t426 from by exact IsS69.j HI0.out)) : g ≠ gb427)); have INB0_427 : Nonempty _ := ⟨NB0_427.out⟩; have NB427_0 := aM ((by rw [hg]; exact Nat.ne_of_gt (IsS69.lt (show IsS69 w0 _ g s0_0 t426 from by exact IsS69.j HI0.out)) : gb427 ≠ g)); replace HI0 := aM (IsS69.below (by exact IsS69.j HI0.out) hb); clear hb hbox hg; obtain ⟨Ao9, co9, eo9⟩ := Kd.R_slice HO421.out; subst eo9; have hnb10 := NB427_418.out; have hnc10 := NB418_427.out; have hnb11 := NB427_0.out; have hnc11 := NB0_427.out; obtain ⟨hcz12_0, hcz12_1, hcz12_2, hfz12_0, hfz12_1, hfz12_2⟩ := cf3 BK427.out; obtain ⟨Ao13, co13, eo13⟩ := Kd.R_slice HO424.out; subst eo13) | ((with_reducible refine gate_callee (f := 20) rfl ?_); refine gL (some 9) Try.func20 #[.pointer (some ⟨g, 0, none⟩), .int .i64 4] ?_; (with_reducible refine (spec_l20Rd_pick.calls k g s0_0 t426 4 t428 t429 w0 _ ?side1 ?side2 A4.out).mono ?_); (case side1 => exact IsS69.j HI0.out); (case side2 => exact jB HB.out); rintro e w14 ⟨rfl, hi, hb, hk⟩; refine ⟨_, rfl, ?_⟩; replace BK418 := aM (KeepBut.blk hk (g' := gb418) (o := .cells #[.slice none 0 0, .slice none 0 0, .int .i64 0] 43 (0, 0)) (by exact f3 (lK BK418.out) NB418_427.out) NB418_0.out (by simp)); replace HO421 := aM (Kd.R_mono (Kd.R_keep (IsS69.apart (show IsS69 w0 _ g s0_0 t426 from by exact IsS69.j HI0.out) (by (with_reducible repeat (first | apply ra | apply rn | apply re)); exact (R3 HO421.out BK427.out)) (by decide)) hk (fun _ h => h.2)) (fun _ h => h.1)); replace HO424 := aM (Kd.R_mono (Kd.R_keep (IsS69.apart (show IsS69 w0 _ g s0_0 t426 from by exact IsS69.j HI0.out) (by (with_reducible repeat (first | apply ra | apply rn | apply re)); exact (R3 HO424.out BK427.out)) (by decide)) hk (fun _ h => h.2)) (fun _ h => h.1)); replace BK427 := aM (KeepBut.blk hk (g' := gb427) (o := .cells #[.slice Ao9 t419.length co9, .slice Ao13 t422.length co13, .int .i64 t425] 43 (0, 0)) (by exact p3 (lK BK427.out)) NB427_0.out (by simp)); replace HK := aM (kt HK.out hk); replace HB := aM (hb); replace HI0 := aM (hi); (try clear hb hk hi)))
 (try simp only [Act.put, sA, s0, sS])
 go_cut [] (fun wc => ∃ (kq : Nat) (x1001_4 : Int) (x428000_4 : List Int) (x428001_4 : List Int) (u428000 : Value) (u428001 : Value), Aside0 (spec_l20Form.j0 kq a1 s0_0 x1001_4 x428000_4 x428001_4 t425 = some (r1, r2, r3, r4)) ∧ Aside0 (kq ≤ k) ∧ Aside0 (Kd.R (Kd.int .i64) 3 wc w.heap.size (fun k_ => some k_ ≠ (u428001 : Value).ownBlock) u428000 x428000_4) ∧ Aside0 (Kd.R (Kd.int .i64) 3 wc w.heap.size (fun k_ => some k_ ≠ (u428000 : Value).ownBlock) u428001 x428001_4) ∧ Aside0 (wc.heap[gb418]? = some (.cells #[(.slice none 0 0), (.slice none 0 0), .int .i64 0] 43 (0, 0))) ∧ Aside0 (wc.heap[gb427]? = some (.cells #[u428000, u428001, .int .i64 t425] 43 (0, 0))) ∧ Aside0 (IsS69 w0 wc g s0_0 x1001_4) ∧ Aside0 (KeepBut w wc g none) ∧ Aside0 (Below w0.heap.size w0 wc))
 case first =>
  have H := HC5.out
  clear HC5
  by_cases c15 : t428 = 0
  ·rw [if_pos c15] at H
   have c15b0 := beq_iff_eq.mpr c15
   have c15b1 := bne_eq_false_iff_eq.mpr c15
   clear c15
   (first | rw [c15b0] | (simp only [i64_w, i32_w]; rw [c15b0]) | skip)
   obtain ⟨⟨t430, t431⟩, A16, H⟩ := bS H
   try dsimp only at H
   obtain ⟨y432, hy432⟩ : ∃ y_ : List Int, y_ = (([10000000, (-10000000), 1000, 77] : List Int)) := ⟨_, rfl⟩
   try rw [← hy432] at H
   try dsimp only [Option.bind_some] at H
   have Ny432 := aM hy432
   clear hy432
   obtain ⟨⟨t435, t436⟩, A17, H⟩ := bS H
   try dsimp only at H
   by_cases c18 : 0 ≤ t435
   ·rw [if_pos c18] at H
    have c18b0 := decide_eq_true c18
    clear c18
    by_cases c19 : t435 < (y432.length : Int)
    ·rw [if_pos c19] at H
     have c19b0 := decide_eq_true c19
     clear c19
     by_cases c20 : 0 ≤ t430
     ·rw [if_pos c20] at H
      have c20b0 := decide_eq_true c20
      clear c20
      by_cases c21 : t430 < (t419.length : Int)
      ·rw [if_pos c21] at H
       have c21b0 := decide_eq_true c21
       clear c21
       obtain ⟨y438, hy438⟩ : ∃ y_ : List Int, y_ = (t419.set (t430 : Int).toNat (rd y432 t435)) := ⟨_, rfl⟩
       try rw [← hy438] at H
       try dsimp only [Option.bind_some] at H
       have Ny438 := aM hy438
       clear hy438
       have H' := aM H
       clear H
       try go_wp2
       have pi437 : (0 ≤ (t435 : Int)) = True := eq_true (of_decide_eq_true (by first | (with_reducible assumption) | assumption))
       have qi437 : (t435 < (y432.length : Int)) = True := eq_true (of_decide_eq_true (by first | (with_reducible assumption) | assumption))
       replace HO421 := aM (Kd.R_drew HO421.out)
       replace HO424 := aM (Kd.R_drew HO424.out)
       replace BK418 := aM (blk_drew BK418.out)
       replace BK427 := aM (blk_drew BK427.out)
       replace HI0 := aM (IsS69.drew HI0.out)
       replace HK := aM (keep_drew HK.out)
       replace HB := aM (below_drew1 HB.out)
       refine start_ (n := 11) (S := fun w' => w'.cell? ⟨gb427, 0, none⟩ = some (.slice Ao9 t419.length co9) ∧ w'.cell? ⟨gb427, 1, none⟩ = some (.slice Ao13 t422.length co13) ∧ w'.cell? ⟨gb427, 2, none⟩ = some (.int .i64 t425)) (ds := [10]) #[false, false, false, false, false, false, false, false, false, false, false] (by kernel_rfl) rfl rfl (cz3 BK427.out) (fun hHeld => ?_); refine with_tabW spec_l20Form.tab3 spec_l20Form.bits3 (fun HT_ HW_ => ?_)
       generalize w14.drew = w23 at HO421 HO424 BK418 BK427 HI0 HK HB hHeld ⊢
       refine pure_ (i := 0) (N := some 11) (v := ?_) (a' := ?_) #[true, false, false, false, false, false, false, false, false, false, false] rfl rfl (any_of HT_.out (by kernel_rfl)) (fun _ _ _ h => h) (Or.inl ⟨by rfl, ?_⟩) ?_ ?_
       rotate_left
       ·intro w'
        go_simp
        with_reducible rfl
       rotate_left
       ·simp only [Act.put, sA, s0, sS, i64_w, i32_w]
        rfl
       refine pure_ (i := 2) (N := some 13) (v := ?_) (a' := ?_) #[true, false, true, false, false, false, false, false, false, false, false] rfl rfl (any_of HT_.out (by kernel_rfl)) (fun _ _ _ h => h) (Or.inl ⟨by rfl, ?_⟩) ?_ ?_
       rotate_left
       ·intro w'
        go_simp
        with_reducible rfl
       rotate_left
       ·simp only [Act.put, sA, s0, sS, i64_w, i32_w]
        rfl
       refine pure_ (i := 5) (N := some 16) (v := ?_) (a' := ?_) #[true, false, true, false, false, true, false, false, false, false, false] rfl rfl (any_of HT_.out (by kernel_rfl)) (fun _ _ _ h => h) (Or.inl ⟨by rfl, ?_⟩) ?_ ?_
       rotate_left
       ·intro w'
        go_simp
        with_reducible rfl
       rotate_left
       ·simp only [Act.put, sA, s0, sS, i64_w, i32_w]
        rfl
       refine take_ (i := 1) (N := some 12) (v := ?_) (a' := ?_) #[true, true, true, false, false, true, false, false, false, false, false] rfl rfl (take_ofW HT_.out HW_.out (by kernel_rfl)) (fun _ _ _ h => h) (Or.inl ⟨by rfl, ?_⟩) hHeld ?_ ?_
       rotate_left
       ·rintro w' ⟨s0, s1, s2⟩
        go_simp
        with_reducible rfl
       rotate_left
       ·simp only [Act.put, sA, s0, sS, i64_w, i32_w]
        rfl
       refine join_ (σ := Value × Addr) 4 #[true, true, true, true, true, true, true, false, false, false, false] (fun s_ => [(14, .int .i64 t430), (15, s_.1), (17, .int .i64 t435)]) (fun s_ w' => (w'.cell? ⟨gb427, 0, none⟩ = some (.slice Ao9 t419.length co9) ∧ w'.cell? ⟨gb427, 1, none⟩ = some (.slice Ao13 t422.length co13) ∧ w'.cell? ⟨gb427, 2, none⟩ = some (.int .i64 t425)) ∧ (Kd.R (Kd.int .i64) 3 w' w.heap.size (fun k_ => some k_ ≠ ownBlock (.slice Ao13 t422.length co13) ∧ some k_ ≠ (s_.1 : Value).ownBlock) (.slice Ao9 t419.length co9) t419) ∧ (Kd.R (Kd.int .i64) 3 w' w.heap.size (fun k_ => some k_ ≠ ownBlock (.slice Ao9 t419.length co9) ∧ some k_ ≠ (s_.1 : Value).ownBlock) (.slice Ao13 t422.length co13) t422) ∧ (Kd.R (Kd.int .i64) 3 w' w.heap.size (fun k_ => some k_ ≠ ownBlock (.slice Ao9 t419.length co9) ∧ some k_ ≠ ownBlock (.slice Ao13 t422.length co13)) s_.1 y432) ∧ (∃ c_, (s_.1 : Value) = .slice (some s_.2) y432.length c_) ∧ (w'.heap[gb418]? = some (.cells #[.slice none 0 0, .slice none 0 0, .int .i64 0] 43 (0, 0))) ∧ (w'.heap[gb427]? = some (.cells #[.slice Ao9 t419.length co9, .slice Ao13 t422.length co13, .int .i64 t425] 43 (0, 0))) ∧ (IsS69 w0 w' g s0_0 t436) ∧ (KeepBut w w' g none) ∧ (Below w0.heap.size w0 w')) ?_ ?_
       rotate_left
       ·intro hCont
        refine two_ (i := 3) (j := 4) (Ni := some 14) (Nj := some 15) #[true, true, true, true, false, true, false, false, false, false, false] #[true, true, true, false, true, true, false, false, false, false, false] rfl rfl rfl rfl (two_of HT_.out (by kernel_rfl)) (by decide) (by decide) (fun K hK => ?_) (fun K hK => ?_)
        ·skip
         refine goes_ Try.func20 (by kernel_rfl) rfl #[.pointer (some ⟨g, 0, none⟩), .int .i64 3] (by rfl) rfl rfl (by (try simp only [mA, mC, mN]); first | done | rfl | (simp only [ld, lt]; rfl)) ?_
         with_reducible refine (spec_l20Rd_pick.calls k g s0_0 t429 3 t430 t431 w0 _ ?side1 ?side2 A16.out).mono ?_
         (case side1 => exact IsS69.j HI0.out)
         (case side2 => exact jB HB.out)
         rintro e w24 ⟨rfl, hi, hb, hk⟩
         refine ⟨_, rfl, ?_⟩
         replace BK418 := aM (kb hk BK418.out NB418_0.out)
         replace HO421 := aM (IsS69.kp (f1 := t429) (by exact IsS69.j HI0.out) (lR HO421.out) hk)
         replace HO424 := aM (IsS69.kp (f1 := t429) (by exact IsS69.j HI0.out) (lR HO424.out) hk)
         replace BK427 := aM (kb hk BK427.out NB427_0.out)
         replace HK := aM (kt HK.out hk)
         replace HB := aM (hb)
         replace HI0 := aM (hi)
         (try clear hb)
         (try clear hb2)
         (try clear hk)
         (try clear hi)
         refine hK.out _ _ (cz3 BK427.out) (fun hHeld => ?_)
         clear hK K
         refine norm_ (a' := ?_) ?_ ?_
         rotate_left
         ·show Act.put _ (some 14) _ = _
          simp only [Act.put, sA, s0, sS, i64_w, i32_w]
          rfl
         refine two_ (i := 4) (j := 6) (Ni := some 15) (Nj := some 17) #[true, true, true, true, true, true, false, false, false, false, false] #[true, true, true, true, false, true, true, false, false, false, false] rfl rfl rfl rfl (two_of HT_.out (by kernel_rfl)) (by decide) (by decide) (fun K hK => ?_) (fun K hK => ?_)
         ·skip
          refine Kd.R_lit_step (Kd.int .i64) _ 3 ?hg (N := 15) ?hd (xs := ([10000000, (-10000000), 1000, 77] : List Int)) (inner := [.int .i64 10000000, .int .i64 (-10000000), .int .i64 1000, .int .i64 77]) (ok := fun _ => True) (okp := fun _ => True) ?hr ?hp (fun _ hk => hk) trivial (Below.refl _ _) (Nat.le_refl _) (by simp) ?_; (case hd => rfl); (case hg => rfl); (case hr => first | (go_simp; done) | (go_simp; rfl)); (case hp => exact (Reps.one (show Kd.M (Kd.int .i64) _ _ _ 10000000 [.int .i64 10000000] from rfl) (Reps.one (show Kd.M (Kd.int .i64) _ _ _ (-10000000) [.int .i64 (-10000000)] from rfl) (Reps.one (show Kd.M (Kd.int .i64) _ _ _ 1000 [.int .i64 1000] from rfl) (Reps.one (show Kd.M (Kd.int .i64) _ _ _ 77 [.int .i64 77] from rfl) (Reps.none _ _))))))
          intro v433 w25 ho26 hb hg_ hnew_
          clear hg_ hnew_
          (first | rw [← Ny432.out] at ho26 | (simp only [Int.reduceToNat] at ho26; rw [← Ny432.out] at ho26))
          have HO434 := aM (Kd.R_lower (Kd.R_new' (Kd.R_new' ho26 (rl HO421.out)) (rl HO424.out)) (keep_size (w := w) (g := g) (row := none) (by exact jK HK.out)))
          replace HO421 := aM (Kd.R_elder' (by exact lR HO421.out) (Kd.R_base ho26) hb)
          replace HO424 := aM (Kd.R_elder' (by exact lR HO424.out) (Kd.R_base ho26) hb)
          replace HI0 := aM (IsS69.below (by exact IsS69.j HI0.out) hb)
          replace BK418 := aM (bb BK418.out hb)
          replace BK427 := aM (bb BK427.out hb)
          replace HK := aM (kbl HK.out hb)
          replace HB := aM (bj HB.out hb)
          clear hb ho26
          obtain ⟨Ao27, co27, eo27⟩ := Kd.R_slice HO434.out
          subst eo27
          obtain ⟨ado27, fo27, _⟩ := Kd.at_int (Kd.R_reads' HO434.out).2.2 0 (by decide) (by rw [Ny432.out]; simp)
          cases fo27
          refine hK.out _ _ (cz3 BK427.out) (fun hHeld => ?_)
          clear hK K
          refine norm_ (a' := ?_) ?_ ?_
          rotate_left
          ·show Act.put _ (some 15) _ = _
           simp only [Act.put, sA, s0, sS, i64_w, i32_w]
           rfl
          refine one_ (i := 6) (N := some 17) #[true, true, true, true, true, true, true, false, false, false, false] rfl rfl (one_of HT_.out (by kernel_rfl)) (by decide) (fun K hK => ?_)
          refine goes_ Try.func20 (by kernel_rfl) rfl #[.pointer (some ⟨g, 0, none⟩), .int .i64 4] (by rfl) rfl rfl (by (try simp only [mA, mC, mN]); first | done | rfl | (simp only [ld, lt]; rfl)) ?_
          with_reducible refine (spec_l20Rd_pick.calls k g s0_0 t431 4 t435 t436 w0 _ ?side1 ?side2 A17.out).mono ?_
          (case side1 => exact IsS69.j HI0.out)
          (case side2 => exact jB HB.out)
          rintro e w28 ⟨rfl, hi, hb, hk⟩
          refine ⟨_, rfl, ?_⟩
          replace BK418 := aM (kb hk BK418.out NB418_0.out)
          replace HO421 := aM (IsS69.kp (f1 := t431) (by exact IsS69.j HI0.out) (lR HO421.out) hk)
          replace HO424 := aM (IsS69.kp (f1 := t431) (by exact IsS69.j HI0.out) (lR HO424.out) hk)
          replace BK427 := aM (kb hk BK427.out NB427_0.out)
          replace HO434 := aM (IsS69.kp (f1 := t431) (by exact IsS69.j HI0.out) (lR HO434.out) hk)
          replace HK := aM (kt HK.out hk)
          replace HB := aM (hb)
          replace HI0 := aM (hi)
          (try clear hb)
          (try clear hb2)
          (try clear hk)
          (try clear hi)
          refine hK.out _ _ (cz3 BK427.out) (fun hHeld => ?_)
          clear hK K
          refine norm_ (a' := ?_) ?_ ?_
          rotate_left
          ·show Act.put _ (some 17) _ = _
           simp only [Act.put, sA, s0, sS, i64_w, i32_w]
           rfl
          exact norm_ (by simp only [putAll, Act.put, List.setIfInBounds_toArray, List.set_cons_zero, List.set_cons_succ]) (hCont (.slice (some ado27) y432.length co27, ado27) _ ⟨hHeld, (by exact lR HO421.out), (by exact lR HO424.out), (by exact lR <| Kd.R_mono HO434.out (fun _ hk => ⟨hk.1.2, hk.2⟩)), ⟨_, rfl⟩, (by exact lK BK418.out), (by exact lK BK427.out), (by exact IsS69.j HI0.out), (by exact jK HK.out), (by exact jB HB.out)⟩)
         ·skip
          refine goes_ Try.func20 (by kernel_rfl) rfl #[.pointer (some ⟨g, 0, none⟩), .int .i64 4] (by rfl) rfl rfl (by (try simp only [mA, mC, mN]); first | done | rfl | (simp only [ld, lt]; rfl)) ?_
          with_reducible refine (spec_l20Rd_pick.calls k g s0_0 t431 4 t435 t436 w0 _ ?side1 ?side2 A17.out).mono ?_
          (case side1 => exact IsS69.j HI0.out)
          (case side2 => exact jB HB.out)
          rintro e w25 ⟨rfl, hi, hb, hk⟩
          refine ⟨_, rfl, ?_⟩
          replace BK418 := aM (kb hk BK418.out NB418_0.out)
          replace HO421 := aM (IsS69.kp (f1 := t431) (by exact IsS69.j HI0.out) (lR HO421.out) hk)
          replace HO424 := aM (IsS69.kp (f1 := t431) (by exact IsS69.j HI0.out) (lR HO424.out) hk)
          replace BK427 := aM (kb hk BK427.out NB427_0.out)
          replace HK := aM (kt HK.out hk)
          replace HB := aM (hb)
          replace HI0 := aM (hi)
          (try clear hb)
          (try clear hb2)
          (try clear hk)
          (try clear hi)
          refine hK.out _ _ (cz3 BK427.out) (fun hHeld => ?_)
          clear hK K
          refine norm_ (a' := ?_) ?_ ?_
          rotate_left
          ·show Act.put _ (some 17) _ = _
           simp only [Act.put, sA, s0, sS, i64_w, i32_w]
           rfl
          refine one_ (i := 4) (N := some 15) #[true, true, true, true, true, true, true, false, false, false, false] rfl rfl (one_of HT_.out (by kernel_rfl)) (by decide) (fun K hK => ?_)
          refine Kd.R_lit_step (Kd.int .i64) _ 3 ?hg (N := 15) ?hd (xs := ([10000000, (-10000000), 1000, 77] : List Int)) (inner := [.int .i64 10000000, .int .i64 (-10000000), .int .i64 1000, .int .i64 77]) (ok := fun _ => True) (okp := fun _ => True) ?hr ?hp (fun _ hk => hk) trivial (Below.refl _ _) (Nat.le_refl _) (by simp) ?_; (case hd => rfl); (case hg => rfl); (case hr => first | (go_simp; done) | (go_simp; rfl)); (case hp => exact (Reps.one (show Kd.M (Kd.int .i64) _ _ _ 10000000 [.int .i64 10000000] from rfl) (Reps.one (show Kd.M (Kd.int .i64) _ _ _ (-10000000) [.int .i64 (-10000000)] from rfl) (Reps.one (show Kd.M (Kd.int .i64) _ _ _ 1000 [.int .i64 1000] from rfl) (Reps.one (show Kd.M (Kd.int .i64) _ _ _ 77 [.int .i64 77] from rfl) (Reps.none _ _))))))
          intro v433 w26 ho27 hb hg_ hnew_
          clear hg_ hnew_
          (first | rw [← Ny432.out] at ho27 | (simp only [Int.reduceToNat] at ho27; rw [← Ny432.out] at ho27))
          have HO434 := aM (Kd.R_lower (Kd.R_new' (Kd.R_new' ho27 (rl HO421.out)) (rl HO424.out)) (keep_size (w := w) (g := g) (row := none) (by exact jK HK.out)))
          replace HO421 := aM (Kd.R_elder' (by exact lR HO421.out) (Kd.R_base ho27) hb)
          replace HO424 := aM (Kd.R_elder' (by exact lR HO424.out) (Kd.R_base ho27) hb)
          replace HI0 := aM (IsS69.below (by exact IsS69.j HI0.out) hb)
          replace BK418 := aM (bb BK418.out hb)
          replace BK427 := aM (bb BK427.out hb)
          replace HK := aM (kbl HK.out hb)
          replace HB := aM (bj HB.out hb)
          clear hb ho27
          obtain ⟨Ao28, co28, eo28⟩ := Kd.R_slice HO434.out
          subst eo28
          obtain ⟨ado28, fo28, _⟩ := Kd.at_int (Kd.R_reads' HO434.out).2.2 0 (by decide) (by rw [Ny432.out]; simp)
          cases fo28
          refine hK.out _ _ (cz3 BK427.out) (fun hHeld => ?_)
          clear hK K
          refine norm_ (a' := ?_) ?_ ?_
          rotate_left
          ·show Act.put _ (some 15) _ = _
           simp only [Act.put, sA, s0, sS, i64_w, i32_w]
           rfl
          exact norm_ (by simp only [putAll, Act.put, List.setIfInBounds_toArray, List.set_cons_zero, List.set_cons_succ]) (hCont (.slice (some ado28) y432.length co28, ado28) _ ⟨hHeld, (by exact lR HO421.out), (by exact lR HO424.out), (by exact lR <| Kd.R_mono HO434.out (fun _ hk => ⟨hk.1.2, hk.2⟩)), ⟨_, rfl⟩, (by exact lK BK418.out), (by exact lK BK427.out), (by exact IsS69.j HI0.out), (by exact jK HK.out), (by exact jB HB.out)⟩)
        ·skip
         refine Kd.R_lit_step (Kd.int .i64) _ 3 ?hg (N := 15) ?hd (xs := ([10000000, (-10000000), 1000, 77] : List Int)) (inner := [.int .i64 10000000, .int .i64 (-10000000), .int .i64 1000, .int .i64 77]) (ok := fun _ => True) (okp := fun _ => True) ?hr ?hp (fun _ hk => hk) trivial (Below.refl _ _) (Nat.le_refl _) (by simp) ?_; (case hd => rfl); (case hg => rfl); (case hr => first | (go_simp; done) | (go_simp; rfl)); (case hp => exact (Reps.one (show Kd.M (Kd.int .i64) _ _ _ 10000000 [.int .i64 10000000] from rfl) (Reps.one (show Kd.M (Kd.int .i64) _ _ _ (-10000000) [.int .i64 (-10000000)] from rfl) (Reps.one (show Kd.M (Kd.int .i64) _ _ _ 1000 [.int .i64 1000] from rfl) (Reps.one (show Kd.M (Kd.int .i64) _ _ _ 77 [.int .i64 77] from rfl) (Reps.none _ _))))))
         intro v433 w24 ho25 hb hg_ hnew_
         clear hg_ hnew_
         (first | rw [← Ny432.out] at ho25 | (simp only [Int.reduceToNat] at ho25; rw [← Ny432.out] at ho25))
         have HO434 := aM (Kd.R_lower (Kd.R_new' (Kd.R_new' ho25 (rl HO421.out)) (rl HO424.out)) (keep_size (w := w) (g := g) (row := none) (by exact jK HK.out)))
         replace HO421 := aM (Kd.R_elder' (by exact lR HO421.out) (Kd.R_base ho25) hb)
         replace HO424 := aM (Kd.R_elder' (by exact lR HO424.out) (Kd.R_base ho25) hb)
         replace HI0 := aM (IsS69.below (by exact IsS69.j HI0.out) hb)
         replace BK418 := aM (bb BK418.out hb)
         replace BK427 := aM (bb BK427.out hb)
         replace HK := aM (kbl HK.out hb)
         replace HB := aM (bj HB.out hb)
         clear hb ho25
         obtain ⟨Ao26, co26, eo26⟩ := Kd.R_slice HO434.out
         subst eo26
         obtain ⟨ado26, fo26, _⟩ := Kd.at_int (Kd.R_reads' HO434.out).2.2 0 (by decide) (by rw [Ny432.out]; simp)
         cases fo26
         refine hK.out _ _ (cz3 BK427.out) (fun hHeld => ?_)
         clear hK K
         refine norm_ (a' := ?_) ?_ ?_
         rotate_left
         ·show Act.put _ (some 15) _ = _
          simp only [Act.put, sA, s0, sS, i64_w, i32_w]
          rfl
         refine one_ (i := 3) (N := some 14) #[true, true, true, true, true, true, false, false, false, false, false] rfl rfl (one_of HT_.out (by kernel_rfl)) (by decide) (fun K hK => ?_)
         refine goes_ Try.func20 (by kernel_rfl) rfl #[.pointer (some ⟨g, 0, none⟩), .int .i64 3] (by rfl) rfl rfl (by (try simp only [mA, mC, mN]); first | done | rfl | (simp only [ld, lt]; rfl)) ?_
         with_reducible refine (spec_l20Rd_pick.calls k g s0_0 t429 3 t430 t431 w0 _ ?side1 ?side2 A16.out).mono ?_
         (case side1 => exact IsS69.j HI0.out)
         (case side2 => exact jB HB.out)
         rintro e w27 ⟨rfl, hi, hb, hk⟩
         refine ⟨_, rfl, ?_⟩
         replace BK418 := aM (kb hk BK418.out NB418_0.out)
         replace HO421 := aM (IsS69.kp (f1 := t429) (by exact IsS69.j HI0.out) (lR HO421.out) hk)
         replace HO424 := aM (IsS69.kp (f1 := t429) (by exact IsS69.j HI0.out) (lR HO424.out) hk)
         replace BK427 := aM (kb hk BK427.out NB427_0.out)
         replace HO434 := aM (IsS69.kp (f1 := t429) (by exact IsS69.j HI0.out) (lR HO434.out) hk)
         replace HK := aM (kt HK.out hk)
         replace HB := aM (hb)
         replace HI0 := aM (hi)
         (try clear hb)
         (try clear hb2)
         (try clear hk)
         (try clear hi)
         refine hK.out _ _ (cz3 BK427.out) (fun hHeld => ?_)
         clear hK K
         refine norm_ (a' := ?_) ?_ ?_
         rotate_left
         ·show Act.put _ (some 14) _ = _
          simp only [Act.put, sA, s0, sS, i64_w, i32_w]
          rfl
         refine one_ (i := 6) (N := some 17) #[true, true, true, true, true, true, true, false, false, false, false] rfl rfl (one_of HT_.out (by kernel_rfl)) (by decide) (fun K hK => ?_)
         refine goes_ Try.func20 (by kernel_rfl) rfl #[.pointer (some ⟨g, 0, none⟩), .int .i64 4] (by rfl) rfl rfl (by (try simp only [mA, mC, mN]); first | done | rfl | (simp only [ld, lt]; rfl)) ?_
         with_reducible refine (spec_l20Rd_pick.calls k g s0_0 t431 4 t435 t436 w0 _ ?side1 ?side2 A17.out).mono ?_
         (case side1 => exact IsS69.j HI0.out)
         (case side2 => exact jB HB.out)
         rintro e w28 ⟨rfl, hi, hb, hk⟩
         refine ⟨_, rfl, ?_⟩
         replace BK418 := aM (kb hk BK418.out NB418_0.out)
         replace HO421 := aM (IsS69.kp (f1 := t431) (by exact IsS69.j HI0.out) (lR HO421.out) hk)
         replace HO424 := aM (IsS69.kp (f1 := t431) (by exact IsS69.j HI0.out) (lR HO424.out) hk)
         replace BK427 := aM (kb hk BK427.out NB427_0.out)
         replace HO434 := aM (IsS69.kp (f1 := t431) (by exact IsS69.j HI0.out) (lR HO434.out) hk)
         replace HK := aM (kt HK.out hk)
         replace HB := aM (hb)
         replace HI0 := aM (hi)
         (try clear hb)
         (try clear hb2)
         (try clear hk)
         (try clear hi)
         refine hK.out _ _ (cz3 BK427.out) (fun hHeld => ?_)
         clear hK K
         refine norm_ (a' := ?_) ?_ ?_
         rotate_left
         ·show Act.put _ (some 17) _ = _
          simp only [Act.put, sA, s0, sS, i64_w, i32_w]
          rfl
         exact norm_ (by simp only [putAll, Act.put, List.setIfInBounds_toArray, List.set_cons_zero, List.set_cons_succ]) (hCont (.slice (some ado26) y432.length co26, ado26) _ ⟨hHeld, (by exact lR HO421.out), (by exact lR HO424.out), (by exact lR <| Kd.R_mono HO434.out (fun _ hk => ⟨hk.1.2, hk.2⟩)), ⟨_, rfl⟩, (by exact lK BK418.out), (by exact lK BK427.out), (by exact IsS69.j HI0.out), (by exact jK HK.out), (by exact jB HB.out)⟩)
       rintro ⟨v433, adz_v433⟩ w29 ⟨hS_, h0_, h1_, h2_, h3_, h4_, h5_, h6_, h7_, h8_⟩
       replace HO421 : Aside0 (Kd.R (Kd.int .i64) 3 w29 w.heap.size (fun k_ => some k_ ≠ ownBlock (.slice Ao13 t422.length co13) ∧ some k_ ≠ v433.ownBlock) (.slice Ao9 t419.length co9) t419) := ⟨h0_⟩
       replace HO424 : Aside0 (Kd.R (Kd.int .i64) 3 w29 w.heap.size (fun k_ => some k_ ≠ ownBlock (.slice Ao9 t419.length co9) ∧ some k_ ≠ v433.ownBlock) (.slice Ao13 t422.length co13) t422) := ⟨h1_⟩
       have HO434 : Aside0 (Kd.R (Kd.int .i64) 3 w29 w.heap.size (fun k_ => some k_ ≠ ownBlock (.slice Ao9 t419.length co9) ∧ some k_ ≠ ownBlock (.slice Ao13 t422.length co13)) v433 y432) := ⟨h2_⟩
       have HA_HO434 : Aside0 (∃ c_, (v433 : Value) = .slice (some adz_v433) y432.length c_) := ⟨h3_⟩
       replace BK418 : Aside0 (w29.heap[gb418]? = some (.cells #[.slice none 0 0, .slice none 0 0, .int .i64 0] 43 (0, 0))) := ⟨h4_⟩
       replace BK427 : Aside0 (w29.heap[gb427]? = some (.cells #[.slice Ao9 t419.length co9, .slice Ao13 t422.length co13, .int .i64 t425] 43 (0, 0))) := ⟨h5_⟩
       replace HI0 : Aside0 (IsS69 w0 w29 g s0_0 t436) := ⟨h6_⟩
       replace HK : Aside0 (KeepBut w w29 g none) := ⟨h7_⟩
       replace HB : Aside0 (Below w0.heap.size w0 w29) := ⟨h8_⟩
       clear h0_ h1_ h2_ h3_ h4_ h5_ h6_ h7_ h8_
       have hHeld : w29.cell? ⟨gb427, 0, none⟩ = some (.slice Ao9 t419.length co9) ∧ w29.cell? ⟨gb427, 1, none⟩ = some (.slice Ao13 t422.length co13) ∧ w29.cell? ⟨gb427, 2, none⟩ = some (.int .i64 t425) := hS_
       obtain ⟨co30, eo30⟩ := HA_HO434.out
       clear HA_HO434
       subst eo30
       have p22 : 0 ≤ (t430 : Int) := of_decide_eq_true (by first | (with_reducible assumption) | assumption)
       have q22 : (t430 : Int) < ((t419.length : Int) : Int) := of_decide_eq_true (by first | (with_reducible assumption) | assumption)
       obtain ⟨go22, co22, eo22, gb22, gl22, cl22, HG22⟩ := Kd.R_form HO421.out (by omega)
       (first | cases eo22 | (injection eo22 with ea_ en_ ec_; (first | subst ea_ | (injection ea_ with ea_; subst ea_)); subst ec_; clear en_))
       have GB22 := aM gb22
       have IGB22 : Nonempty _ := ⟨GB22.out⟩
       have GG22 := aM HG22
       clear gb22 gl22 HG22
       obtain ⟨hx22_0, hf22_0⟩ := Kd.R_celln 0 HO421.out (t430 : Int) p22 q22
       replace p22 := eq_true p22
       replace q22 := eq_true q22
       have HN0_go22 := aM (show g ≠ go22 from by have h_ := IsS69.own_ne HI0.out HO421.out (by decide); intro e_; exact h_ (by rw [e_]; rfl))
       have IHN0_go22 : Nonempty _ := ⟨HN0_go22.out⟩
       have HP31 := Kd.R_putn HO421.out (t430 : Int) (rd y432 t435)
       rw [← Ny438.out] at HP31
       have HQ31 := aM HP31
       clear HP31
       refine norm_ (a' := ?_) ?_ ?_
       rotate_left
       ·simp only [putAll, Act.put, List.setIfInBounds_toArray, List.set_cons_zero, List.set_cons_succ]
        rfl
       refine pure_ (i := 7) (N := some 18) (v := ?_) (a' := ?_) #[true, true, true, true, true, true, true, true, false, false, false] rfl rfl (any_of HT_.out (by kernel_rfl)) (fun _ _ _ h => h) (Or.inl ⟨by rfl, ?_⟩) ?_ ?_
       rotate_left
       ·intro w'
        go_simp
        with_reducible rfl
       rotate_left
       ·simp only [Act.put, sA, s0, sS, i64_w, i32_w]
        rfl
       refine one_ (i := 8) (N := some 19) #[true, true, true, true, true, true, true, true, true, false, false] rfl rfl (one_of HT_.out (by kernel_rfl)) (by decide) (fun K hK => ?_)
       (have p437 : 0 ≤ (t435 : Int) := of_decide_eq_true (by first | (with_reducible assumption) | assumption); have q437 : t435 < (y432.length : Int) := of_decide_eq_true (by first | (with_reducible assumption) | assumption); obtain ⟨ad437, e437, hx437_0⟩ := Kd.at_int (Kd.R_reads' HO434.out).2.2 t435 p437 q437; obtain rfl : adz_v433 = ad437 := (by injection e437))
       refine value_ (w1 := ?_) (v := ?_) (by rfl) rfl ?_ ?_
       rotate_left 2
       ·go_simp
        constructor
        ·rfl
        ·rfl
       clear hx437_0
       refine hK.out _ _ (cz3 BK427.out) (fun hHeld => ?_)
       clear hK K
       refine norm_ (a' := ?_) ?_ ?_
       rotate_left
       ·show Act.put _ (some 19) _ = _
        simp only [Act.put, sA, s0, sS, i64_w, i32_w]
        rfl
       refine pure_ (i := 9) (N := some 20) (v := ?_) (a' := ?_) #[true, true, true, true, true, true, true, true, true, true, false] rfl rfl (any_of HT_.out (by kernel_rfl)) (fun _ _ _ h => h) (Or.inl ⟨by rfl, ?_⟩) ?_ ?_
       rotate_left
       ·intro w'
        go_simp
        with_reducible rfl
       rotate_left
       ·simp only [Act.put, sA, s0, sS, i64_w, i32_w]
        rfl
       refine last_ (i := 10) (N := none) #[true, true, true, true, true, true, true, true, true, true, true] rfl rfl (one_of HT_.out (by kernel_rfl)) (by decide) (fun K hK => ?_)
       refine skip_ (w1 := ?_) (by rfl) rfl ?_ ?_
       rotate_left
       ·go_simp
        rfl
       refine hK.out _ _ ?_
       clear hK K
       refine done_ (done_of HT_.out (by kernel_rfl)) ?_
       try go_wp2
       go_meet
       case rel => exact ⟨_, (t436), (y438), (t422), (.slice (some ⟨go22, 0, none⟩) t419.length co9), (.slice Ao13 t422.length co13), H', ⟨by first | omega | exact Nat.le_refl _⟩, ⟨by exact lR <| Kd.R_mono HQ31.out (fun _ hk => hk.1)⟩, ⟨by exact lR <| Kd.R_mono (Kd.R_far (p := ⟨go22, (t430 : Int).toNat, none⟩) (Kd.R_mono HO424.out (fun k_ hk => (⟨hk, fun e_ => hk.1 (by rw [e_]; rfl)⟩ : _ ∧ k_ ≠ go22))) (fun _ hk => hk.2) (.int .i64 (rd y432 t435))) (fun _ hk => hk.1.1)⟩, ⟨by (with_reducible repeat first | refine kN ?_ _ | refine kD ?_ | refine kA ?_ _); refine blk_far ?_ (by have h_ := Kd.R_ne HO421.out BK418.out (by decide); intro e_; exact h_ (by rw [e_]; rfl)) _; exact lK <| BK418.out⟩, ⟨by (with_reducible repeat first | refine kN ?_ _ | refine kD ?_ | refine kA ?_ _); refine blk_far ?_ (by have h_ := Kd.R_ne HO421.out BK427.out (by decide); intro e_; exact h_ (by rw [e_]; rfl)) _; exact lK <| BK427.out⟩, ⟨by exact IsS69.j HI0.out⟩, ⟨by exact jK HK.out⟩, ⟨by repeat (first | (with_reducible first | exact HB.out | apply below_alloc | apply pw_below_drewN | apply below_drew1 | refine below_set ?_ (Nat.le_trans HL.out GB22.out) | refine below_set ?_ (IsS69.ge HI0.out) | refine below_set ?_ GE418.out | refine below_set ?_ GE427.out) | exact HB.out)⟩⟩
      ·rw [if_neg c21] at H
       exact absurd H (by simp)
     ·rw [if_neg c20] at H
      exact absurd H (by simp)
    ·rw [if_neg c19] at H
     exact absurd H (by simp)
   ·rw [if_neg c18] at H
    exact absurd H (by simp)
  ·rw [if_neg c15] at H
   have c15b0 := beq_eq_false_iff_ne.mpr c15
   have c15b1 := bne_iff_ne.mpr c15
   (first | rw [c15b0] | (simp only [i64_w, i32_w]; rw [c15b0]) | skip)
   have H' := aM H
   clear H
   go_wp2
   go_meet
   case rel => exact ⟨_, (t429), (t419), (t422), (.slice Ao9 t419.length co9), (.slice Ao13 t422.length co13), H', ⟨by first | omega | exact Nat.le_refl _⟩, ⟨by exact lR <| HO421.out⟩, ⟨by exact lR <| HO424.out⟩, ⟨by exact lK <| BK418.out⟩, ⟨by exact lK <| BK427.out⟩, ⟨by exact IsS69.j HI0.out⟩, ⟨by exact jK HK.out⟩, ⟨by exact jB HB.out⟩⟩
 case rest =>
  clear HC5
  try clear c1
  try clear c2
  try clear p2
  try clear q2
  try clear hx2
  try clear hf2
  try clear p4
  try clear q4
  try clear hx4
  try clear qi4
  try clear c5
  try clear c10
  try clear c11
  try clear c15
  try clear c15b0
  try clear c15b1
  try clear c18
  try clear c18b0
  try clear c19
  try clear c19b0
  try clear c20
  try clear c20b0
  try clear c21
  try clear c21b0
  try clear p22
  try clear q22
  try clear hx22
  try clear hf22
  try clear hcz12_0
  try clear hcz12_1
  try clear hcz12_2
  try clear hfz12_0
  try clear hfz12_1
  try clear hfz12_2
  try clear hx22_0
  try clear hx437_0
  try clear p22
  try clear p437
  try clear q22
  try clear q437
  obtain ⟨kq, x1001_4, x428000_4, x428001_4, u428000, u428001, HA, HJ4, HO_428000, HO_428001, BK418, BK427, HI0, HK, HB⟩ := hcut
  cases kq with
  | zero => exact absurd HA.out (by simp [spec_l20Form.j0])
  | succ kj4 =>
   have H := HA.out
   clear HA
   simp only [spec_l20Form.j0] at H
   obtain ⟨⟨t439, t440⟩, A32, H⟩ := bS H
   try dsimp only at H
   by_cases c33 : t439 > 0
   ·rw [if_pos c33] at H
    have c33b0 := decide_eq_true c33
    clear c33
    simp only [Option.some.injEq, Prod.mk.injEq] at H
    obtain ⟨rfl, rfl, rfl, rfl⟩ := H
    go_wp2_with (first | ((with_reducible refine gate_callee (f := 20) rfl ?_); refine gL (some 23) Try.func20 #[.pointer (some ⟨g, 0, none⟩), .int .i64 a1] ?_; (with_reducible refine (spec_l20Rd_pick.calls kj4 g s0_0 x1001_4 a1 t439 t440 w0 _ ?side1 ?side2 A32.out).mono ?_); (case side1 => exact IsS69.j HI0.out); (case side2 => exact jB HB.out); rintro e w34 ⟨rfl, hi, hb, hk⟩; refine ⟨_, rfl, ?_⟩; replace HO_428000 := aM (IsS69.kp (f1 := x1001_4) (by exact IsS69.j HI0.out) (lR HO_428000.out) hk); replace HO_428001 := aM (IsS69.kp (f1 := x1001_4) (by exact IsS69.j HI0.out) (lR HO_428001.out) hk); replace BK418 := aM (kb hk BK418.out NB418_0.out); replace BK427 := aM (kb hk BK427.out NB427_0.out); replace HK := aM (kt HK.out hk); replace HB := aM (hb); replace HI0 := aM (hi); (try clear hb hk hi); have hnb35 := NB427_418.out; have hnc35 := NB418_427.out; have hnb36 := NB427_0.out; have hnc36 := NB0_427.out; obtain ⟨hcz37_0, hcz37_1, hcz37_2, hfz37_0, hfz37_1, hfz37_2⟩ := cf3 BK427.out; obtain ⟨Ao38, co38, eo38⟩ := Kd.R_slice HO_428000.out; subst eo38; have hnb39 := NB418_0.out; have hnc39 := NB0_418.out; obtain ⟨hcz40_0, hcz40_1, hcz40_2, hfz40_0, hfz40_1, hfz40_2⟩ := cf3 BK418.out; obtain ⟨Ao41, co41, eo41⟩ := Kd.R_slice HO_428001.out; subst eo41))
    refine bodyPost_ret (results_cell_row rfl _ _ gb418 43 #[.slice Ao38 x428000_4.length co38, .slice Ao41 x428001_4.length co41, .int .i64 t425] (0, 0) _ rfl (by exact p3 (lK BK418.out)) Try.underlying43 rfl (by kernel_rfl)) rfl ?_
    exact ⟨_, _, er, by exact lR <| Kd.R_mono (Kd.R_far (p := ⟨gb418, 2, none⟩) (Kd.R_far (p := ⟨gb418, 1, none⟩) (Kd.R_far (p := ⟨gb418, 0, none⟩) (Kd.R_types HO_428000.out BK418.out (by decide)) (fun _ hk => by first | exact hk.2 | exact fun e_ => hk.2 (e_.trans (ob _ _ _ _))) (.slice Ao38 x428000_4.length co38)) (fun _ hk => by first | exact hk.2 | exact fun e_ => hk.2 (e_.trans (ob _ _ _ _))) (.slice Ao41 x428001_4.length co41)) (fun _ hk => by first | exact hk.2 | exact fun e_ => hk.2 (e_.trans (ob _ _ _ _))) (.int .i64 t425)) (fun _ hk => by first | exact hk.1 | exact fun e_ => hk.1 (e_.trans (ob _ _ _ _))), by exact lR <| Kd.R_mono (Kd.R_far (p := ⟨gb418, 2, none⟩) (Kd.R_far (p := ⟨gb418, 1, none⟩) (Kd.R_far (p := ⟨gb418, 0, none⟩) (Kd.R_types HO_428001.out BK418.out (by decide)) (fun _ hk => by first | exact hk.2 | exact fun e_ => hk.2 (e_.trans (ob _ _ _ _))) (.slice Ao38 x428000_4.length co38)) (fun _ hk => by first | exact hk.2 | exact fun e_ => hk.2 (e_.trans (ob _ _ _ _))) (.slice Ao41 x428001_4.length co41)) (fun _ hk => by first | exact hk.2 | exact fun e_ => hk.2 (e_.trans (ob _ _ _ _))) (.int .i64 t425)) (fun _ hk => by first | exact hk.1 | exact fun e_ => hk.1 (e_.trans (ob _ _ _ _))), by exact IsS69.j HI0.out, by exact jB HB.out, by exact jK HK.out⟩
   ·rw [if_neg c33] at H
    have c33b0 := decide_eq_false c33
    clear c33
    obtain ⟨⟨t441, t442⟩, A42, H⟩ := bS H
    try dsimp only at H
    by_cases c43 : t441 = 0
    ·rw [if_pos c43] at H
     have c43b0 := beq_iff_eq.mpr c43
     have c43b1 := bne_eq_false_iff_eq.mpr c43
     clear c43
     by_cases c44 : 2 ≤ (x428000_4.length : Int)
     ·rw [if_pos c44] at H
      have c44b0 := eq_true c44
      have c44b1 := decide_eq_true c44
      clear c44
      obtain ⟨y443, hy443⟩ : ∃ y_ : List Int, y_ = (x428000_4.take (2 : Int).toNat) := ⟨_, rfl⟩
      try rw [← hy443] at H
      try dsimp only [Option.bind_some] at H
      have Ny443 := aM hy443
      clear hy443
      simp only [Option.some.injEq, Prod.mk.injEq] at H
      obtain ⟨rfl, rfl, rfl, rfl⟩ := H
      go_wp2_with (first | ((with_reducible refine gate_callee (f := 20) rfl ?_); refine gL (some 23) Try.func20 #[.pointer (some ⟨g, 0, none⟩), .int .i64 a1] ?_; (with_reducible refine (spec_l20Rd_pick.calls kj4 g s0_0 x1001_4 a1 t439 t440 w0 _ ?side1 ?side2 A32.out).mono ?_); (case side1 => exact IsS69.j HI0.out); (case side2 => exact jB HB.out); rintro e w45 ⟨rfl, hi, hb, hk⟩; refine ⟨_, rfl, ?_⟩; replace HO_428000 := aM (IsS69.kp (f1 := x1001_4) (by exact IsS69.j HI0.out) (lR HO_428000.out) hk); replace HO_428001 := aM (IsS69.kp (f1 := x1001_4) (by exact IsS69.j HI0.out) (lR HO_428001.out) hk); replace BK418 := aM (kb hk BK418.out NB418_0.out); replace BK427 := aM (kb hk BK427.out NB427_0.out); replace HK := aM (kt HK.out hk); replace HB := aM (hb); replace HI0 := aM (hi); (try clear hb hk hi)) | ((with_reducible refine gate_callee (f := 20) rfl ?_); refine gL (some 27) Try.func20 #[.pointer (some ⟨g, 0, none⟩), .int .i64 4] ?_; (with_reducible refine (spec_l20Rd_pick.calls kj4 g s0_0 t440 4 t441 t442 w0 _ ?side1 ?side2 A42.out).mono ?_); (case side1 => exact IsS69.j HI0.out); (case side2 => exact jB HB.out); rintro e w46 ⟨rfl, hi, hb, hk⟩; refine ⟨_, rfl, ?_⟩; replace HO_428000 := aM (IsS69.kp (f1 := t440) (by exact IsS69.j HI0.out) (lR HO_428000.out) hk); replace HO_428001 := aM (IsS69.kp (f1 := t440) (by exact IsS69.j HI0.out) (lR HO_428001.out) hk); replace BK418 := aM (kb hk BK418.out NB418_0.out); replace BK427 := aM (kb hk BK427.out NB427_0.out); replace HK := aM (kt HK.out hk); replace HB := aM (hb); replace HI0 := aM (hi); (try clear hb hk hi); have hnb47 := NB427_418.out; have hnc47 := NB418_427.out; have hnb48 := NB427_0.out; have hnc48 := NB0_427.out; obtain ⟨hcz49_0, hcz49_1, hcz49_2, hfz49_0, hfz49_1, hfz49_2⟩ := cf3 BK427.out; obtain ⟨Ao50, co50, eo50⟩ := Kd.R_slice HO_428000.out; subst eo50; have q51 : (2 : Int) ≤ ((x428000_4.length : Int) : Int) := of_decide_eq_true (by first | (with_reducible assumption) | assumption); obtain ⟨i051, hi051, _, hsz51, _⟩ := info_parts info3; have hcut51 := cut_to (P := Try.prog) 24 3 .i64 Try.underlying24 hi051 Ao50 x428000_4.length co50 2 (by omega) q51 (Kd.R_reads' HO_428000.out).2.1; have hr51 := Kd.R_take (m := (2 : Int).toNat) HO_428000.out (by omega); have hy51 : y443.length = (2 : Int).toNat := (by rw [Ny443.out, List.length_take]; omega); rw [← Ny443.out] at hr51; rw [← hy51] at hr51 hcut51; clear hy51 hi051 hsz51 HO_428000; have HO445 := aM hr51; clear hr51; replace q51 := eq_true q51; have hnb52 := NB418_0.out; have hnc52 := NB0_418.out; obtain ⟨hcz53_0, hcz53_1, hcz53_2, hfz53_0, hfz53_1, hfz53_2⟩ := cf3 BK418.out; obtain ⟨Ao54, co54, eo54⟩ := Kd.R_slice HO_428001.out; subst eo54))
      refine bodyPost_ret (results_cell_row rfl _ _ gb418 43 #[.slice Ao50 y443.length co50, .slice Ao54 x428001_4.length co54, .int .i64 t425] (0, 0) _ rfl (by (with_reducible repeat first | refine kN ?_ _ | refine kD ?_ | refine kA ?_ _); refine blk_put (cs := #[.slice Ao50 y443.length co50, .slice Ao54 x428001_4.length co54, .int .i64 0]) ?_ 2 _ rfl; (with_reducible repeat first | refine kN ?_ _ | refine kD ?_ | refine kA ?_ _); refine blk_put (cs := #[.slice Ao50 y443.length co50, .slice none 0 0, .int .i64 0]) ?_ 1 _ rfl; (with_reducible repeat first | refine kN ?_ _ | refine kD ?_ | refine kA ?_ _); refine blk_put (cs := #[.slice none 0 0, .slice none 0 0, .int .i64 0]) ?_ 0 _ rfl; (with_reducible repeat first | refine kN ?_ _ | refine kD ?_ | refine kA ?_ _); refine blk_far ?_ NB418_427.out _; exact lK BK418.out) Try.underlying43 rfl (by kernel_rfl)) rfl ?_
      exact ⟨_, _, er, by exact lR <| Kd.R_mono (Kd.R_far (p := ⟨gb418, 2, none⟩) (Kd.R_far (p := ⟨gb418, 1, none⟩) (Kd.R_far (p := ⟨gb418, 0, none⟩) (Kd.R_far (p := ⟨gb427, 0, none⟩) (Kd.R_types (Kd.R_types HO445.out BK427.out (by decide)) BK418.out (by decide)) (fun _ hk => by first | exact hk.1.2 | exact fun e_ => hk.1.2 (e_.trans (ob _ _ _ _))) (.slice Ao50 y443.length co50)) (fun _ hk => by first | exact hk.2 | exact fun e_ => hk.2 (e_.trans (ob _ _ _ _))) (.slice Ao50 y443.length co50)) (fun _ hk => by first | exact hk.2 | exact fun e_ => hk.2 (e_.trans (ob _ _ _ _))) (.slice Ao54 x428001_4.length co54)) (fun _ hk => by first | exact hk.2 | exact fun e_ => hk.2 (e_.trans (ob _ _ _ _))) (.int .i64 t425)) (fun _ hk => by first | exact hk.1.1 | exact fun e_ => hk.1.1 (e_.trans (ob _ _ _ _))), by exact lR <| Kd.R_mono (Kd.R_far (p := ⟨gb418, 2, none⟩) (Kd.R_far (p := ⟨gb418, 1, none⟩) (Kd.R_far (p := ⟨gb418, 0, none⟩) (Kd.R_far (p := ⟨gb427, 0, none⟩) (Kd.R_types (Kd.R_types HO_428001.out BK427.out (by decide)) BK418.out (by decide)) (fun _ hk => by first | exact hk.1.2 | exact fun e_ => hk.1.2 (e_.trans (ob _ _ _ _))) (.slice Ao50 y443.length co50)) (fun _ hk => by first | exact hk.2 | exact fun e_ => hk.2 (e_.trans (ob _ _ _ _))) (.slice Ao50 y443.length co50)) (fun _ hk => by first | exact hk.2 | exact fun e_ => hk.2 (e_.trans (ob _ _ _ _))) (.slice Ao54 x428001_4.length co54)) (fun _ hk => by first | exact hk.2 | exact fun e_ => hk.2 (e_.trans (ob _ _ _ _))) (.int .i64 t425)) (fun _ hk => by first | exact hk.1.1 | exact fun e_ => hk.1.1 (e_.trans (ob _ _ _ _))), by exact IsS69.j HI0.out, by exact jB HB.out, by exact jK HK.out⟩
     ·rw [if_neg c44] at H
      exact absurd H (by simp)
    ·rw [if_neg c43] at H
     have c43b0 := beq_eq_false_iff_ne.mpr c43
     have c43b1 := bne_iff_ne.mpr c43
     by_cases c55 : t441 = 1
     ·rw [if_pos c55] at H
      have c55b0 := beq_iff_eq.mpr c55
      have c55b1 := bne_eq_false_iff_eq.mpr c55
      clear c55
      by_cases c56 : x428001_4.length < 17592186044416
      ·rw [if_pos c56] at H
       have LMc56 := aM c56
       clear c56
       obtain ⟨y446, hy446⟩ : ∃ y_ : List Int, y_ = (x428001_4 ++ [0]) := ⟨_, rfl⟩
       try rw [← hy446] at H
       try dsimp only [Option.bind_some] at H
       have Ny446 := aM hy446
       clear hy446
       simp only [Option.some.injEq, Prod.mk.injEq] at H
       obtain ⟨rfl, rfl, rfl, rfl⟩ := H
       go_wp2_with (first | ((with_reducible refine gate_callee (f := 20) rfl ?_); refine gL (some 23) Try.func20 #[.pointer (some ⟨g, 0, none⟩), .int .i64 a1] ?_; (with_reducible refine (spec_l20Rd_pick.calls kj4 g s0_0 x1001_4 a1 t439 t440 w0 _ ?side1 ?side2 A32.out).mono ?_); (case side1 => exact IsS69.j HI0.out); (case side2 => exact jB HB.out); rintro e w57 ⟨rfl, hi, hb, hk⟩; refine ⟨_, rfl, ?_⟩; replace HO_428000 := aM (IsS69.kp (f1 := x1001_4) (by exact IsS69.j HI0.out) (lR HO_428000.out) hk); replace HO_428001 := aM (IsS69.kp (f1 := x1001_4) (by exact IsS69.j HI0.out) (lR HO_428001.out) hk); replace BK418 := aM (kb hk BK418.out NB418_0.out); replace BK427 := aM (kb hk BK427.out NB427_0.out); replace HK := aM (kt HK.out hk); replace HB := aM (hb); replace HI0 := aM (hi); (try clear hb hk hi)) | ((with_reducible refine gate_callee (f := 20) rfl ?_); refine gL (some 27) Try.func20 #[.pointer (some ⟨g, 0, none⟩), .int .i64 4] ?_; (with_reducible refine (spec_l20Rd_pick.calls kj4 g s0_0 t440 4 t441 t442 w0 _ ?side1 ?side2 A42.out).mono ?_); (case side1 => exact IsS69.j HI0.out); (case side2 => exact jB HB.out); rintro e w58 ⟨rfl, hi, hb, hk⟩; refine ⟨_, rfl, ?_⟩; replace HO_428000 := aM (IsS69.kp (f1 := t440) (by exact IsS69.j HI0.out) (lR HO_428000.out) hk); replace HO_428001 := aM (IsS69.kp (f1 := t440) (by exact IsS69.j HI0.out) (lR HO_428001.out) hk); replace BK418 := aM (kb hk BK418.out NB418_0.out); replace BK427 := aM (kb hk BK427.out NB427_0.out); replace HK := aM (kt HK.out hk); replace HB := aM (hb); replace HI0 := aM (hi); (try clear hb hk hi); have hnb59 := NB427_418.out; have hnc59 := NB418_427.out; have hnb60 := NB427_0.out; have hnc60 := NB0_427.out; obtain ⟨hcz61_0, hcz61_1, hcz61_2, hfz61_0, hfz61_1, hfz61_2⟩ := cf3 BK427.out) | ((with_reducible refine gate_builtin (b := .append) (xs := #[.tmp 47, .tmp 48]) rfl ?_); at_builtin; refine Kd.R_append (Kd.int .i64) w.heap.size rfl (.tmp 47) (.tmp 48) 24 3 (.int .i64 0) 8 rfl Try.underlying24 info3 rfl (by decide) (by omega) u428001 x428001_4 0 [.int .i64 0] (fun k_ => some k_ ≠ (u428000 : Value).ownBlock) (fun _ => False) rfl rfl ?aP (fun _ hk => hk.elim) ?aF ?aO (Below.refl _ _) ?aS ?aL ?_; (case aP => exact rfl); (case aF => exact (fun k_ hk => Kd.fresh' (rl HO_428000.out) k_ hk)); (case aO => exact (by exact lR HO_428001.out)); (case aS => exact (keep_size (w := w) (g := g) (row := none) (by exact jK HK.out))); (case aL => have := LMc56.out; omega); intro v447 w62 ho hb hg hat; rw [← Ny446.out] at ho; replace HO_428000 := aM (Kd.R_after (ok := (fun _ => True)) (by exact lR <| Kd.R_mono HO_428000.out (fun _ hk => ⟨trivial, hk⟩)) hg hat); replace BK418 := aM (blk_grown (g := gb418) (o := .cells #[.slice none 0 0, .slice none 0 0, .int .i64 0] 43 (0, 0)) (by exact lK BK418.out) hg (Kd.R_ne HO_428001.out BK418.out (by decide))); replace BK427 := aM (blk_grown (g := gb427) (o := .cells #[u428000, u428001, .int .i64 t425] 43 (0, 0)) (by exact lK BK427.out) hg (Kd.R_ne HO_428001.out BK427.out (by decide))); replace HI0 := aM (IsS69.grown (by exact IsS69.j HI0.out) hg (IsS69.own_ne HI0.out HO_428001.out (by decide))); replace HB := aM (below_weaken (by exact jB HB.out) HL.out hb); replace HK := aM (KeepBut.trans (by exact jK HK.out) (KeepBut.of_grown hg g) (Kd.R_base2 HO_428001.out)); have HO448 := aM (ho); clear HO_428001 ho hb hg hat; obtain ⟨Ao63, co63, eo63⟩ := Kd.R_slice HO448.out; subst eo63; obtain ⟨hcz64_0, hcz64_1, hcz64_2, hfz64_0, hfz64_1, hfz64_2⟩ := cf3 BK427.out; obtain ⟨Ao65, co65, eo65⟩ := Kd.R_slice HO_428000.out; subst eo65; have hnb66 := NB418_0.out; have hnc66 := NB0_418.out; obtain ⟨hcz67_0, hcz67_1, hcz67_2, hfz67_0, hfz67_1, hfz67_2⟩ := cf3 BK418.out))
       refine bodyPost_ret (results_cell_row rfl _ _ gb418 43 #[.slice Ao65 x428000_4.length co65, .slice Ao63 y446.length co63, .int .i64 t425] (0, 0) _ rfl (by (with_reducible repeat first | refine kN ?_ _ | refine kD ?_ | refine kA ?_ _); refine blk_put (cs := #[.slice Ao65 x428000_4.length co65, .slice Ao63 y446.length co63, .int .i64 0]) ?_ 2 _ rfl; (with_reducible repeat first | refine kN ?_ _ | refine kD ?_ | refine kA ?_ _); refine blk_put (cs := #[.slice Ao65 x428000_4.length co65, .slice none 0 0, .int .i64 0]) ?_ 1 _ rfl; (with_reducible repeat first | refine kN ?_ _ | refine kD ?_ | refine kA ?_ _); refine blk_put (cs := #[.slice none 0 0, .slice none 0 0, .int .i64 0]) ?_ 0 _ rfl; (with_reducible repeat first | refine kN ?_ _ | refine kD ?_ | refine kA ?_ _); refine blk_far ?_ NB418_427.out _; exact lK BK418.out) Try.underlying43 rfl (by kernel_rfl)) rfl ?_
       exact ⟨_, _, er, by exact lR <| Kd.R_mono (Kd.R_far (p := ⟨gb418, 2, none⟩) (Kd.R_far (p := ⟨gb418, 1, none⟩) (Kd.R_far (p := ⟨gb418, 0, none⟩) (Kd.R_far (p := ⟨gb427, 1, none⟩) (Kd.R_types (Kd.R_types HO_428000.out BK427.out (by decide)) BK418.out (by decide)) (fun _ hk => by first | exact hk.1.2 | exact fun e_ => hk.1.2 (e_.trans (ob _ _ _ _))) (.slice Ao63 y446.length co63)) (fun _ hk => by first | exact hk.2 | exact fun e_ => hk.2 (e_.trans (ob _ _ _ _))) (.slice Ao65 x428000_4.length co65)) (fun _ hk => by first | exact hk.2 | exact fun e_ => hk.2 (e_.trans (ob _ _ _ _))) (.slice Ao63 y446.length co63)) (fun _ hk => by first | exact hk.2 | exact fun e_ => hk.2 (e_.trans (ob _ _ _ _))) (.int .i64 t425)) (fun _ hk => by first | exact hk.1.1.2 | exact fun e_ => hk.1.1.2 (e_.trans (ob _ _ _ _))), by exact lR <| Kd.R_mono (Kd.R_far (p := ⟨gb418, 2, none⟩) (Kd.R_far (p := ⟨gb418, 1, none⟩) (Kd.R_far (p := ⟨gb418, 0, none⟩) (Kd.R_far (p := ⟨gb427, 1, none⟩) (Kd.R_types (Kd.R_types HO448.out BK427.out (by decide)) BK418.out (by decide)) (fun _ hk => by first | exact hk.1.2 | exact fun e_ => hk.1.2 (e_.trans (ob _ _ _ _))) (.slice Ao63 y446.length co63)) (fun _ hk => by first | exact hk.2 | exact fun e_ => hk.2 (e_.trans (ob _ _ _ _))) (.slice Ao65 x428000_4.length co65)) (fun _ hk => by first | exact hk.2 | exact fun e_ => hk.2 (e_.trans (ob _ _ _ _))) (.slice Ao63 y446.length co63)) (fun _ hk => by first | exact hk.2 | exact fun e_ => hk.2 (e_.trans (ob _ _ _ _))) (.int .i64 t425)) (fun _ hk => by first | exact hk.1.1 | exact fun e_ => hk.1.1 (e_.trans (ob _ _ _ _))), by exact IsS69.j HI0.out, by exact jB HB.out, by exact jK HK.out⟩
      ·rw [if_neg c56] at H
       exact absurd H (by simp)
     ·rw [if_neg c55] at H
      have c55b0 := beq_eq_false_iff_ne.mpr c55
      have c55b1 := bne_iff_ne.mpr c55
      by_cases c68 : t441 = 2
      ·rw [if_pos c68] at H
       have c68b0 := beq_iff_eq.mpr c68
       have c68b1 := bne_eq_false_iff_eq.mpr c68
       clear c68
       obtain ⟨y449, hy449⟩ : ∃ y_ : List Int, y_ = (([10000001, (-10000001), 10000000] : List Int)) := ⟨_, rfl⟩
       try rw [← hy449] at H
       try dsimp only [Option.bind_some] at H
       have Ny449 := aM hy449
       clear hy449
       obtain ⟨⟨t452, t453⟩, A69, H⟩ := bS H
       try dsimp only at H
       by_cases c70 : 0 ≤ t452
       ·rw [if_pos c70] at H
        have c70b0 := decide_eq_true c70
        clear c70
        by_cases c71 : t452 < (y449.length : Int)
        ·rw [if_pos c71] at H
         have c71b0 := decide_eq_true c71
         clear c71
         simp only [Option.some.injEq, Prod.mk.injEq] at H
         obtain ⟨rfl, rfl, rfl, rfl⟩ := H
         go_wp2_with (first | ((with_reducible refine gate_callee (f := 20) rfl ?_); refine gL (some 23) Try.func20 #[.pointer (some ⟨g, 0, none⟩), .int .i64 a1] ?_; (with_reducible refine (spec_l20Rd_pick.calls kj4 g s0_0 x1001_4 a1 t439 t440 w0 _ ?side1 ?side2 A32.out).mono ?_); (case side1 => exact IsS69.j HI0.out); (case side2 => exact jB HB.out); rintro e w72 ⟨rfl, hi, hb, hk⟩; refine ⟨_, rfl, ?_⟩; replace HO_428000 := aM (IsS69.kp (f1 := x1001_4) (by exact IsS69.j HI0.out) (lR HO_428000.out) hk); replace HO_428001 := aM (IsS69.kp (f1 := x1001_4) (by exact IsS69.j HI0.out) (lR HO_428001.out) hk); replace BK418 := aM (kb hk BK418.out NB418_0.out); replace BK427 := aM (kb hk BK427.out NB427_0.out); replace HK := aM (kt HK.out hk); replace HB := aM (hb); replace HI0 := aM (hi); (try clear hb hk hi)) | ((with_reducible refine gate_callee (f := 20) rfl ?_); refine gL (some 27) Try.func20 #[.pointer (some ⟨g, 0, none⟩), .int .i64 4] ?_; (with_reducible refine (spec_l20Rd_pick.calls kj4 g s0_0 t440 4 t441 t442 w0 _ ?side1 ?side2 A42.out).mono ?_); (case side1 => exact IsS69.j HI0.out); (case side2 => exact jB HB.out); rintro e w73 ⟨rfl, hi, hb, hk⟩; refine ⟨_, rfl, ?_⟩; replace HO_428000 := aM (IsS69.kp (f1 := t440) (by exact IsS69.j HI0.out) (lR HO_428000.out) hk); replace HO_428001 := aM (IsS69.kp (f1 := t440) (by exact IsS69.j HI0.out) (lR HO_428001.out) hk); replace BK418 := aM (kb hk BK418.out NB418_0.out); replace BK427 := aM (kb hk BK427.out NB427_0.out); replace HK := aM (kt HK.out hk); replace HB := aM (hb); replace HI0 := aM (hi); (try clear hb hk hi)) | ((with_reducible refine gate_dst (N := 53) rfl ?_); refine Kd.R_lit (Kd.int .i64) _ 3 ?hg (N := 53) ?hd (xs := ([10000001, (-10000001), 10000000] : List Int)) (inner := [.int .i64 10000001, .int .i64 (-10000001), .int .i64 10000000]) (ok := fun _ => True) (okp := fun _ => True) ?hr ?hp (fun _ hk => hk) trivial (Below.refl _ _) (Nat.le_refl _) (by simp) ?_; (case hd => rfl); (case hg => rfl); (case hr => first | (go_simp; done) | (go_simp; rfl)); (case hp => exact (Reps.one (show Kd.M (Kd.int .i64) _ _ _ 10000001 [.int .i64 10000001] from rfl) (Reps.one (show Kd.M (Kd.int .i64) _ _ _ (-10000001) [.int .i64 (-10000001)] from rfl) (Reps.one (show Kd.M (Kd.int .i64) _ _ _ 10000000 [.int .i64 10000000] from rfl) (Reps.none _ _))))); intro v450 w74 ho75 hb hg_ hnew_; clear hg_ hnew_; (first | rw [← Ny449.out] at ho75 | (simp only [Int.reduceToNat] at ho75; rw [← Ny449.out] at ho75)); have HO451 := aM (Kd.R_lower (Kd.R_new' (Kd.R_new' ho75 (rl HO_428000.out)) (rl HO_428001.out)) (keep_size (w := w) (g := g) (row := none) (by exact jK HK.out))); replace HO_428000 := aM (Kd.R_elder' (by exact lR HO_428000.out) (Kd.R_base ho75) hb); replace HO_428001 := aM (Kd.R_elder' (by exact lR HO_428001.out) (Kd.R_base ho75) hb); replace BK418 := aM (bb BK418.out hb); replace BK427 := aM (bb BK427.out hb); replace HI0 := aM (IsS69.below (by exact IsS69.j HI0.out) hb); replace HK := aM (kbl HK.out hb); replace HB := aM (bj HB.out hb); clear hb ho75) | ((with_reducible refine gate_callee (f := 20) rfl ?_); refine gL (some 55) Try.func20 #[.pointer (some ⟨g, 0, none⟩), .int .i64 3] ?_; (with_reducible refine (spec_l20Rd_pick.calls kj4 g s0_0 t442 3 t452 t453 w0 _ ?side1 ?side2 A69.out).mono ?_); (case side1 => exact IsS69.j HI0.out); (case side2 => exact jB HB.out); rintro e w76 ⟨rfl, hi, hb, hk⟩; refine ⟨_, rfl, ?_⟩; replace HO_428000 := aM (IsS69.kp (f1 := t442) (by exact IsS69.j HI0.out) (lR HO_428000.out) hk); replace HO_428001 := aM (IsS69.kp (f1 := t442) (by exact IsS69.j HI0.out) (lR HO_428001.out) hk); replace BK418 := aM (kb hk BK418.out NB418_0.out); replace BK427 := aM (kb hk BK427.out NB427_0.out); replace HO451 := aM (IsS69.kp (f1 := t442) (by exact IsS69.j HI0.out) (lR HO451.out) hk); replace HK := aM (kt HK.out hk); replace HB := aM (hb); replace HI0 := aM (hi); (try clear hb hk hi); obtain ⟨Ao77, co77, eo77⟩ := Kd.R_slice HO451.out; subst eo77; have p454 : 0 ≤ (t452 : Int) := of_decide_eq_true (by first | (with_reducible assumption) | assumption); have q454 : t452 < (y449.length : Int) := of_decide_eq_true (by first | (with_reducible assumption) | assumption); obtain ⟨ad454, e454, hx454_0⟩ := Kd.at_int (Kd.R_reads' HO451.out).2.2 t452 p454 q454; cases e454; replace p454 := eq_true p454; replace q454 := eq_true q454; have hnb78 := NB427_418.out; have hnc78 := NB418_427.out; have hnb79 := NB427_0.out; have hnc79 := NB0_427.out; obtain ⟨hcz80_0, hcz80_1, hcz80_2, hfz80_0, hfz80_1, hfz80_2⟩ := cf3 BK427.out; obtain ⟨Ao81, co81, eo81⟩ := Kd.R_slice HO_428000.out; subst eo81; have hnb82 := NB418_0.out; have hnc82 := NB0_418.out; obtain ⟨hcz83_0, hcz83_1, hcz83_2, hfz83_0, hfz83_1, hfz83_2⟩ := cf3 BK418.out; obtain ⟨Ao84, co84, eo84⟩ := Kd.R_slice HO_428001.out; subst eo84))
         refine bodyPost_ret (results_cell_row rfl _ _ gb418 43 #[.slice Ao81 x428000_4.length co81, .slice Ao84 x428001_4.length co84, .int .i64 (rd y449 t452)] (0, 0) _ rfl (by (with_reducible repeat first | refine kN ?_ _ | refine kD ?_ | refine kA ?_ _); refine blk_put (cs := #[.slice Ao81 x428000_4.length co81, .slice Ao84 x428001_4.length co84, .int .i64 0]) ?_ 2 _ rfl; (with_reducible repeat first | refine kN ?_ _ | refine kD ?_ | refine kA ?_ _); refine blk_put (cs := #[.slice Ao81 x428000_4.length co81, .slice none 0 0, .int .i64 0]) ?_ 1 _ rfl; (with_reducible repeat first | refine kN ?_ _ | refine kD ?_ | refine kA ?_ _); refine blk_put (cs := #[.slice none 0 0, .slice none 0 0, .int .i64 0]) ?_ 0 _ rfl; (with_reducible repeat first | refine kN ?_ _ | refine kD ?_ | refine kA ?_ _); refine blk_far ?_ NB418_427.out _; exact lK BK418.out) Try.underlying43 rfl (by kernel_rfl)) rfl ?_
         exact ⟨_, _, er, by exact lR <| Kd.R_mono (Kd.R_far (p := ⟨gb418, 2, none⟩) (Kd.R_far (p := ⟨gb418, 1, none⟩) (Kd.R_far (p := ⟨gb418, 0, none⟩) (Kd.R_far (p := ⟨gb427, 2, none⟩) (Kd.R_types (Kd.R_types HO_428000.out BK427.out (by decide)) BK418.out (by decide)) (fun _ hk => by first | exact hk.1.2 | exact fun e_ => hk.1.2 (e_.trans (ob _ _ _ _))) (.int .i64 (rd y449 t452))) (fun _ hk => by first | exact hk.2 | exact fun e_ => hk.2 (e_.trans (ob _ _ _ _))) (.slice Ao81 x428000_4.length co81)) (fun _ hk => by first | exact hk.2 | exact fun e_ => hk.2 (e_.trans (ob _ _ _ _))) (.slice Ao84 x428001_4.length co84)) (fun _ hk => by first | exact hk.2 | exact fun e_ => hk.2 (e_.trans (ob _ _ _ _))) (.int .i64 (rd y449 t452))) (fun _ hk => by first | exact hk.1.1.1 | exact fun e_ => hk.1.1.1 (e_.trans (ob _ _ _ _))), by exact lR <| Kd.R_mono (Kd.R_far (p := ⟨gb418, 2, none⟩) (Kd.R_far (p := ⟨gb418, 1, none⟩) (Kd.R_far (p := ⟨gb418, 0, none⟩) (Kd.R_far (p := ⟨gb427, 2, none⟩) (Kd.R_types (Kd.R_types HO_428001.out BK427.out (by decide)) BK418.out (by decide)) (fun _ hk => by first | exact hk.1.2 | exact fun e_ => hk.1.2 (e_.trans (ob _ _ _ _))) (.int .i64 (rd y449 t452))) (fun _ hk => by first | exact hk.2 | exact fun e_ => hk.2 (e_.trans (ob _ _ _ _))) (.slice Ao81 x428000_4.length co81)) (fun _ hk => by first | exact hk.2 | exact fun e_ => hk.2 (e_.trans (ob _ _ _ _))) (.slice Ao84 x428001_4.length co84)) (fun _ hk => by first | exact hk.2 | exact fun e_ => hk.2 (e_.trans (ob _ _ _ _))) (.int .i64 (rd y449 t452))) (fun _ hk => by first | exact hk.1.1.1 | exact fun e_ => hk.1.1.1 (e_.trans (ob _ _ _ _))), by exact IsS69.j HI0.out, by exact jB HB.out, by exact jK HK.out⟩
        ·rw [if_neg c71] at H
         exact absurd H (by simp)
       ·rw [if_neg c70] at H
        exact absurd H (by simp)
      ·rw [if_neg c68] at H
       have c68b0 := beq_eq_false_iff_ne.mpr c68
       have c68b1 := bne_iff_ne.mpr c68
       obtain ⟨⟨t455, t456⟩, A85, H⟩ := bS H
       try dsimp only at H
       obtain ⟨y457, hy457⟩ : ∃ y_ : List Int, y_ = (([10000001, (-10000001)] : List Int)) := ⟨_, rfl⟩
       try rw [← hy457] at H
       try dsimp only [Option.bind_some] at H
       have Ny457 := aM hy457
       clear hy457
       obtain ⟨⟨t460, t461⟩, A86, H⟩ := bS H
       try dsimp only at H
       by_cases c87 : 0 ≤ t460
       ·rw [if_pos c87] at H
        have c87b0 := decide_eq_true c87
        clear c87
        by_cases c88 : t460 < (y457.length : Int)
        ·rw [if_pos c88] at H
         have c88b0 := decide_eq_true c88
         clear c88
         by_cases c89 : 0 ≤ t455
         ·rw [if_pos c89] at H
          have c89b0 := decide_eq_true c89
          clear c89
          by_cases c90 : t455 < (x428000_4.length : Int)
          ·rw [if_pos c90] at H
           have c90b0 := decide_eq_true c90
           clear c90
           obtain ⟨y463, hy463⟩ : ∃ y_ : List Int, y_ = (x428000_4.set (t455 : Int).toNat (rd y457 t460)) := ⟨_, rfl⟩
           try rw [← hy463] at H
           try dsimp only [Option.bind_some] at H
           have Ny463 := aM hy463
           clear hy463
           simp only [Option.some.injEq, Prod.mk.injEq] at H
           obtain ⟨rfl, rfl, rfl, rfl⟩ := H
           try go_wp2_with (first | ((with_reducible refine gate_callee (f := 20) rfl ?_); refine gL (some 23) Try.func20 #[.pointer (some ⟨g, 0, none⟩), .int .i64 a1] ?_; (with_reducible refine (spec_l20Rd_pick.calls kj4 g s0_0 x1001_4 a1 t439 t440 w0 _ ?side1 ?side2 A32.out).mono ?_); (case side1 => exact IsS69.j HI0.out); (case side2 => exact jB HB.out); rintro e w92 ⟨rfl, hi, hb, hk⟩; refine ⟨_, rfl, ?_⟩; replace HO_428000 := aM (IsS69.kp (f1 := x1001_4) (by exact IsS69.j HI0.out) (lR HO_428000.out) hk); replace HO_428001 := aM (IsS69.kp (f1 := x1001_4) (by exact IsS69.j HI0.out) (lR HO_428001.out) hk); replace BK418 := aM (kb hk BK418.out NB418_0.out); replace BK427 := aM (kb hk BK427.out NB427_0.out); replace HK := aM (kt HK.out hk); replace HB := aM (hb); replace HI0 := aM (hi); (try clear hb hk hi)) | ((with_reducible refine gate_callee (f := 20) rfl ?_); refine gL (some 27) Try.func20 #[.pointer (some ⟨g, 0, none⟩), .int .i64 4] ?_; (with_reducible refine (spec_l20Rd_pick.calls kj4 g s0_0 t440 4 t441 t442 w0 _ ?side1 ?side2 A42.out).mono ?_); (case side1 => exact IsS69.j HI0.out); (case side2 => exact jB HB.out); rintro e w93 ⟨rfl, hi, hb, hk⟩; refine ⟨_, rfl, ?_⟩; replace HO_428000 := aM (IsS69.kp (f1 := t440) (by exact IsS69.j HI0.out) (lR HO_428000.out) hk); replace HO_428001 := aM (IsS69.kp (f1 := t440) (by exact IsS69.j HI0.out) (lR HO_428001.out) hk); replace BK418 := aM (kb hk BK418.out NB418_0.out); replace BK427 := aM (kb hk BK427.out NB427_0.out); replace HK := aM (kt HK.out hk); replace HB := aM (hb); replace HI0 := aM (hi); (try clear hb hk hi)))
           have pi462 : (0 ≤ (t460 : Int)) = True := eq_true (of_decide_eq_true (by first | (with_reducible assumption) | assumption))
           have qi462 : (t460 < (y457.length : Int)) = True := eq_true (of_decide_eq_true (by first | (with_reducible assumption) | assumption))
           replace HO_428000 := aM (Kd.R_drew HO_428000.out)
           replace HO_428001 := aM (Kd.R_drew HO_428001.out)
           replace BK418 := aM (blk_drew BK418.out)
           replace BK427 := aM (blk_drew BK427.out)
           replace HI0 := aM (IsS69.drew HI0.out)
           replace HK := aM (keep_drew HK.out)
           replace HB := aM (below_drew1 HB.out)
           refine start_ (n := 11) (S := fun w' => w'.cell? ⟨gb427, 0, none⟩ = some (u428000) ∧ w'.cell? ⟨gb427, 1, none⟩ = some (u428001) ∧ w'.cell? ⟨gb427, 2, none⟩ = some (.int .i64 t425)) (ds := [10]) #[false, false, false, false, false, false, false, false, false, false, false] (by kernel_rfl) rfl rfl (cz3 BK427.out) (fun hHeld => ?_); refine with_tabW spec_l20Form.tab7 spec_l20Form.bits7 (fun HT_ HW_ => ?_)
           generalize w93.drew = w94 at HO_428000 HO_428001 BK418 BK427 HI0 HK HB hHeld ⊢
           refine pure_ (i := 0) (N := some 28) (v := ?_) (a' := ?_) #[true, false, false, false, false, false, false, false, false, false, false] rfl rfl (any_of HT_.out (by kernel_rfl)) (fun _ _ _ h => h) (Or.inl ⟨by rfl, ?_⟩) ?_ ?_
           rotate_left
           ·intro w'
            go_simp
            with_reducible rfl
           rotate_left
           ·simp only [Act.put, sA, s0, sS, i64_w, i32_w]
            rfl
           refine pure_ (i := 2) (N := some 30) (v := ?_) (a' := ?_) #[true, false, true, false, false, false, false, false, false, false, false] rfl rfl (any_of HT_.out (by kernel_rfl)) (fun _ _ _ h => h) (Or.inl ⟨by rfl, ?_⟩) ?_ ?_
           rotate_left
           ·intro w'
            go_simp
            with_reducible rfl
           rotate_left
           ·simp only [Act.put, sA, s0, sS, i64_w, i32_w]
            rfl
           refine pure_ (i := 5) (N := some 33) (v := ?_) (a' := ?_) #[true, false, true, false, false, true, false, false, false, false, false] rfl rfl (any_of HT_.out (by kernel_rfl)) (fun _ _ _ h => h) (Or.inl ⟨by rfl, ?_⟩) ?_ ?_
           rotate_left
           ·intro w'
            go_simp
            with_reducible rfl
           rotate_left
           ·simp only [Act.put, sA, s0, sS, i64_w, i32_w]
            rfl
           refine take_ (i := 1) (N := some 29) (v := ?_) (a' := ?_) #[true, true, true, false, false, true, false, false, false, false, false] rfl rfl (take_ofW HT_.out HW_.out (by kernel_rfl)) (fun _ _ _ h => h) (Or.inl ⟨by rfl, ?_⟩) hHeld ?_ ?_
           rotate_left
           ·rintro w' ⟨s0, s1, s2⟩
            go_simp
            with_reducible rfl
           rotate_left
           ·simp only [Act.put, sA, s0, sS, i64_w, i32_w]
            rfl
           refine join_ (σ := Value × Addr) 4 #[true, true, true, true, true, true, true, false, false, false, false] (fun s_ => [(31, .int .i64 t455), (32, s_.1), (34, .int .i64 t460)]) (fun s_ w' => (w'.cell? ⟨gb427, 0, none⟩ = some (u428000) ∧ w'.cell? ⟨gb427, 1, none⟩ = some (u428001) ∧ w'.cell? ⟨gb427, 2, none⟩ = some (.int .i64 t425)) ∧ (Kd.R (Kd.int .i64) 3 w' w.heap.size (fun k_ => some k_ ≠ (u428000 : Value).ownBlock ∧ some k_ ≠ (u428001 : Value).ownBlock) s_.1 y457) ∧ (Kd.R (Kd.int .i64) 3 w' w.heap.size (fun k_ => some k_ ≠ (s_.1 : Value).ownBlock ∧ some k_ ≠ (u428001 : Value).ownBlock) u428000 x428000_4) ∧ (Kd.R (Kd.int .i64) 3 w' w.heap.size (fun k_ => some k_ ≠ (s_.1 : Value).ownBlock ∧ some k_ ≠ (u428000 : Value).ownBlock) u428001 x428001_4) ∧ (∃ c_, (s_.1 : Value) = .slice (some s_.2) y457.length c_) ∧ (w'.heap[gb418]? = some (.cells #[.slice none 0 0, .slice none 0 0, .int .i64 0] 43 (0, 0))) ∧ (w'.heap[gb427]? = some (.cells #[u428000, u428001, .int .i64 t425] 43 (0, 0))) ∧ (IsS69 w0 w' g s0_0 t461) ∧ (KeepBut w w' g none) ∧ (Below w0.heap.size w0 w')) ?_ ?_
           rotate_left
           ·intro hCont
            refine two_ (i := 3) (j := 4) (Ni := some 31) (Nj := some 32) #[true, true, true, true, false, true, false, false, false, false, false] #[true, true, true, false, true, true, false, false, false, false, false] rfl rfl rfl rfl (two_of HT_.out (by kernel_rfl)) (by decide) (by decide) (fun K hK => ?_) (fun K hK => ?_)
            ·skip
             refine goes_ Try.func20 (by kernel_rfl) rfl #[.pointer (some ⟨g, 0, none⟩), .int .i64 3] (by rfl) rfl rfl (by (try simp only [mA, mC, mN]); first | done | rfl | (simp only [ld, lt]; rfl)) ?_
             with_reducible refine (spec_l20Rd_pick.calls kj4 g s0_0 t442 3 t455 t456 w0 _ ?side1 ?side2 A85.out).mono ?_
             (case side1 => exact IsS69.j HI0.out)
             (case side2 => exact jB HB.out)
             rintro e w95 ⟨rfl, hi, hb, hk⟩
             refine ⟨_, rfl, ?_⟩
             replace HO_428000 := aM (IsS69.kp (f1 := t442) (by exact IsS69.j HI0.out) (lR HO_428000.out) hk)
             replace HO_428001 := aM (IsS69.kp (f1 := t442) (by exact IsS69.j HI0.out) (lR HO_428001.out) hk)
             replace BK418 := aM (kb hk BK418.out NB418_0.out)
             replace BK427 := aM (kb hk BK427.out NB427_0.out)
             replace HK := aM (kt HK.out hk)
             replace HB := aM (hb)
             replace HI0 := aM (hi)
             (try clear hb)
             (try clear hb2)
             (try clear hk)
             (try clear hi)
             refine hK.out _ _ (cz3 BK427.out) (fun hHeld => ?_)
             clear hK K
             refine norm_ (a' := ?_) ?_ ?_
             rotate_left
             ·show Act.put _ (some 31) _ = _
              simp only [Act.put, sA, s0, sS, i64_w, i32_w]
              rfl
             refine two_ (i := 4) (j := 6) (Ni := some 32) (Nj := some 34) #[true, true, true, true, true, true, false, false, false, false, false] #[true, true, true, true, false, true, true, false, false, false, false] rfl rfl rfl rfl (two_of HT_.out (by kernel_rfl)) (by decide) (by decide) (fun K hK => ?_) (fun K hK => ?_)
             ·skip
              refine Kd.R_lit_step (Kd.int .i64) _ 3 ?hg (N := 32) ?hd (xs := ([10000001, (-10000001)] : List Int)) (inner := [.int .i64 10000001, .int .i64 (-10000001)]) (ok := fun _ => True) (okp := fun _ => True) ?hr ?hp (fun _ hk => hk) trivial (Below.refl _ _) (Nat.le_refl _) (by simp) ?_; (case hd => rfl); (case hg => rfl); (case hr => first | (go_simp; done) | (go_simp; rfl)); (case hp => exact (Reps.one (show Kd.M (Kd.int .i64) _ _ _ 10000001 [.int .i64 10000001] from rfl) (Reps.one (show Kd.M (Kd.int .i64) _ _ _ (-10000001) [.int .i64 (-10000001)] from rfl) (Reps.none _ _))))
              intro v458 w96 ho97 hb hg_ hnew_
              clear hg_ hnew_
              (first | rw [← Ny457.out] at ho97 | (simp only [Int.reduceToNat] at ho97; rw [← Ny457.out] at ho97))
              have HO459 := aM (Kd.R_lower (Kd.R_new' (Kd.R_new' ho97 (rl HO_428000.out)) (rl HO_428001.out)) (keep_size (w := w) (g := g) (row := none) (by exact jK HK.out)))
              replace HO_428000 := aM (Kd.R_elder' (by exact lR HO_428000.out) (Kd.R_base ho97) hb)
              replace HO_428001 := aM (Kd.R_elder' (by exact lR HO_428001.out) (Kd.R_base ho97) hb)
              replace BK418 := aM (bb BK418.out hb)
              replace BK427 := aM (bb BK427.out hb)
              replace HI0 := aM (IsS69.below (by exact IsS69.j HI0.out) hb)
              replace HK := aM (kbl HK.out hb)
              replace HB := aM (bj HB.out hb)
              clear hb ho97
              obtain ⟨Ao98, co98, eo98⟩ := Kd.R_slice HO459.out
              subst eo98
              obtain ⟨ado98, fo98, _⟩ := Kd.at_int (Kd.R_reads' HO459.out).2.2 0 (by decide) (by rw [Ny457.out]; simp)
              cases fo98
              refine hK.out _ _ (cz3 BK427.out) (fun hHeld => ?_)
              clear hK K
              refine norm_ (a' := ?_) ?_ ?_
              rotate_left
              ·show Act.put _ (some 32) _ = _
               simp only [Act.put, sA, s0, sS, i64_w, i32_w]
               rfl
              refine one_ (i := 6) (N := some 34) #[true, true, true, true, true, true, true, false, false, false, false] rfl rfl (one_of HT_.out (by kernel_rfl)) (by decide) (fun K hK => ?_)
              refine goes_ Try.func20 (by kernel_rfl) rfl #[.pointer (some ⟨g, 0, none⟩), .int .i64 2] (by rfl) rfl rfl (by (try simp only [mA, mC, mN]); first | done | rfl | (simp only [ld, lt]; rfl)) ?_
              with_reducible refine (spec_l20Rd_pick.calls kj4 g s0_0 t456 2 t460 t461 w0 _ ?side1 ?side2 A86.out).mono ?_
              (case side1 => exact IsS69.j HI0.out)
              (case side2 => exact jB HB.out)
              rintro e w99 ⟨rfl, hi, hb, hk⟩
              refine ⟨_, rfl, ?_⟩
              replace HO_428000 := aM (IsS69.kp (f1 := t456) (by exact IsS69.j HI0.out) (lR HO_428000.out) hk)
              replace HO_428001 := aM (IsS69.kp (f1 := t456) (by exact IsS69.j HI0.out) (lR HO_428001.out) hk)
              replace BK418 := aM (kb hk BK418.out NB418_0.out)
              replace BK427 := aM (kb hk BK427.out NB427_0.out)
              replace HO459 := aM (IsS69.kp (f1 := t456) (by exact IsS69.j HI0.out) (lR HO459.out) hk)
              replace HK := aM (kt HK.out hk)
              replace HB := aM (hb)
              replace HI0 := aM (hi)
              (try clear hb)
              (try clear hb2)
              (try clear hk)
              (try clear hi)
              refine hK.out _ _ (cz3 BK427.out) (fun hHeld => ?_)
              clear hK K
              refine norm_ (a' := ?_) ?_ ?_
              rotate_left
              ·show Act.put _ (some 34) _ = _
               simp only [Act.put, sA, s0, sS, i64_w, i32_w]
               rfl
              exact norm_ (by simp only [putAll, Act.put, List.setIfInBounds_toArray, List.set_cons_zero, List.set_cons_succ]) (hCont (.slice (some ado98) y457.length co98, ado98) _ ⟨hHeld, (by exact lR <| Kd.R_mono HO459.out (fun _ hk => ⟨hk.1.2, hk.2⟩)), (by exact lR <| Kd.R_mono HO_428000.out (fun _ hk => ⟨hk.2, hk.1⟩)), (by exact lR <| Kd.R_mono HO_428001.out (fun _ hk => ⟨hk.2, hk.1⟩)), ⟨_, rfl⟩, (by exact lK BK418.out), (by exact lK BK427.out), (by exact IsS69.j HI0.out), (by exact jK HK.out), (by exact jB HB.out)⟩)
             ·skip
              refine goes_ Try.func20 (by kernel_rfl) rfl #[.pointer (some ⟨g, 0, none⟩), .int .i64 2] (by rfl) rfl rfl (by (try simp only [mA, mC, mN]); first | done | rfl | (simp only [ld, lt]; rfl)) ?_
              with_reducible refine (spec_l20Rd_pick.calls kj4 g s0_0 t456 2 t460 t461 w0 _ ?side1 ?side2 A86.out).mono ?_
              (case side1 => exact IsS69.j HI0.out)
              (case side2 => exact jB HB.out)
              rintro e w96 ⟨rfl, hi, hb, hk⟩
              refine ⟨_, rfl, ?_⟩
              replace HO_428000 := aM (IsS69.kp (f1 := t456) (by exact IsS69.j HI0.out) (lR HO_428000.out) hk)
              replace HO_428001 := aM (IsS69.kp (f1 := t456) (by exact IsS69.j HI0.out) (lR HO_428001.out) hk)
              replace BK418 := aM (kb hk BK418.out NB418_0.out)
              replace BK427 := aM (kb hk BK427.out NB427_0.out)
              replace HK := aM (kt HK.out hk)
              replace HB := aM (hb)
              replace HI0 := aM (hi)
              (try clear hb)
              (try clear hb2)
              (try clear hk)
              (try clear hi)
              refine hK.out _ _ (cz3 BK427.out) (fun hHeld => ?_)
              clear hK K
              refine norm_ (a' := ?_) ?_ ?_
              rotate_left
              ·show Act.put _ (some 34) _ = _
               simp only [Act.put, sA, s0, sS, i64_w, i32_w]
               rfl
              refine one_ (i := 4) (N := some 32) #[true, true, true, true, true, true, true, false, false, false, false] rfl rfl (one_of HT_.out (by kernel_rfl)) (by decide) (fun K hK => ?_)
              refine Kd.R_lit_step (Kd.int .i64) _ 3 ?hg (N := 32) ?hd (xs := ([10000001, (-10000001)] : List Int)) (inner := [.int .i64 10000001, .int .i64 (-10000001)]) (ok := fun _ => True) (okp := fun _ => True) ?hr ?hp (fun _ hk => hk) trivial (Below.refl _ _) (Nat.le_refl _) (by simp) ?_; (case hd => rfl); (case hg => rfl); (case hr => first | (go_simp; done) | (go_simp; rfl)); (case hp => exact (Reps.one (show Kd.M (Kd.int .i64) _ _ _ 10000001 [.int .i64 10000001] from rfl) (Reps.one (show Kd.M (Kd.int .i64) _ _ _ (-10000001) [.int .i64 (-10000001)] from rfl) (Reps.none _ _))))
              intro v458 w97 ho98 hb hg_ hnew_
              clear hg_ hnew_
              (first | rw [← Ny457.out] at ho98 | (simp only [Int.reduceToNat] at ho98; rw [← Ny457.out] at ho98))
              have HO459 := aM (Kd.R_lower (Kd.R_new' (Kd.R_new' ho98 (rl HO_428000.out)) (rl HO_428001.out)) (keep_size (w := w) (g := g) (row := none) (by exact jK HK.out)))
              replace HO_428000 := aM (Kd.R_elder' (by exact lR HO_428000.out) (Kd.R_base ho98) hb)
              replace HO_428001 := aM (Kd.R_elder' (by exact lR HO_428001.out) (Kd.R_base ho98) hb)
              replace BK418 := aM (bb BK418.out hb)
              replace BK427 := aM (bb BK427.out hb)
              replace HI0 := aM (IsS69.below (by exact IsS69.j HI0.out) hb)
              replace HK := aM (kbl HK.out hb)
              replace HB := aM (bj HB.out hb)
              clear hb ho98
              obtain ⟨Ao99, co99, eo99⟩ := Kd.R_slice HO459.out
              subst eo99
              obtain ⟨ado99, fo99, _⟩ := Kd.at_int (Kd.R_reads' HO459.out).2.2 0 (by decide) (by rw [Ny457.out]; simp)
              cases fo99
              refine hK.out _ _ (cz3 BK427.out) (fun hHeld => ?_)
              clear hK K
              refine norm_ (a' := ?_) ?_ ?_
              rotate_left
              ·show Act.put _ (some 32) _ = _
               simp only [Act.put, sA, s0, sS, i64_w, i32_w]
               rfl
              exact norm_ (by simp only [putAll, Act.put, List.setIfInBounds_toArray, List.set_cons_zero, List.set_cons_succ]) (hCont (.slice (some ado99) y457.length co99, ado99) _ ⟨hHeld, (by exact lR <| Kd.R_mono HO459.out (fun _ hk => ⟨hk.1.2, hk.2⟩)), (by exact lR <| Kd.R_mono HO_428000.out (fun _ hk => ⟨hk.2, hk.1⟩)), (by exact lR <| Kd.R_mono HO_428001.out (fun _ hk => ⟨hk.2, hk.1⟩)), ⟨_, rfl⟩, (by exact lK BK418.out), (by exact lK BK427.out), (by exact IsS69.j HI0.out), (by exact jK HK.out), (by exact jB HB.out)⟩)
            ·skip
             refine Kd.R_lit_step (Kd.int .i64) _ 3 ?hg (N := 32) ?hd (xs := ([10000001, (-10000001)] : List Int)) (inner := [.int .i64 10000001, .int .i64 (-10000001)]) (ok := fun _ => True) (okp := fun _ => True) ?hr ?hp (fun _ hk => hk) trivial (Below.refl _ _) (Nat.le_refl _) (by simp) ?_; (case hd => rfl); (case hg => rfl); (case hr => first | (go_simp; done) | (go_simp; rfl)); (case hp => exact (Reps.one (show Kd.M (Kd.int .i64) _ _ _ 10000001 [.int .i64 10000001] from rfl) (Reps.one (show Kd.M (Kd.int .i64) _ _ _ (-10000001) [.int .i64 (-10000001)] from rfl) (Reps.none _ _))))
             intro v458 w95 ho96 hb hg_ hnew_
             clear hg_ hnew_
             (first | rw [← Ny457.out] at ho96 | (simp only [Int.reduceToNat] at ho96; rw [← Ny457.out] at ho96))
             have HO459 := aM (Kd.R_lower (Kd.R_new' (Kd.R_new' ho96 (rl HO_428000.out)) (rl HO_428001.out)) (keep_size (w := w) (g := g) (row := none) (by exact jK HK.out)))
             replace HO_428000 := aM (Kd.R_elder' (by exact lR HO_428000.out) (Kd.R_base ho96) hb)
             replace HO_428001 := aM (Kd.R_elder' (by exact lR HO_428001.out) (Kd.R_base ho96) hb)
             replace BK418 := aM (bb BK418.out hb)
             replace BK427 := aM (bb BK427.out hb)
             replace HI0 := aM (IsS69.below (by exact IsS69.j HI0.out) hb)
             replace HK := aM (kbl HK.out hb)
             replace HB := aM (bj HB.out hb)
             clear hb ho96
             obtain ⟨Ao97, co97, eo97⟩ := Kd.R_slice HO459.out
             subst eo97
             obtain ⟨ado97, fo97, _⟩ := Kd.at_int (Kd.R_reads' HO459.out).2.2 0 (by decide) (by rw [Ny457.out]; simp)
             cases fo97
             refine hK.out _ _ (cz3 BK427.out) (fun hHeld => ?_)
             clear hK K
             refine norm_ (a' := ?_) ?_ ?_
             rotate_left
             ·show Act.put _ (some 32) _ = _
              simp only [Act.put, sA, s0, sS, i64_w, i32_w]
              rfl
             refine one_ (i := 3) (N := some 31) #[true, true, true, true, true, true, false, false, false, false, false] rfl rfl (one_of HT_.out (by kernel_rfl)) (by decide) (fun K hK => ?_)
             refine goes_ Try.func20 (by kernel_rfl) rfl #[.pointer (some ⟨g, 0, none⟩), .int .i64 3] (by rfl) rfl rfl (by (try simp only [mA, mC, mN]); first | done | rfl | (simp only [ld, lt]; rfl)) ?_
             with_reducible refine (spec_l20Rd_pick.calls kj4 g s0_0 t442 3 t455 t456 w0 _ ?side1 ?side2 A85.out).mono ?_
             (case side1 => exact IsS69.j HI0.out)
             (case side2 => exact jB HB.out)
             rintro e w98 ⟨rfl, hi, hb, hk⟩
             refine ⟨_, rfl, ?_⟩
             replace HO_428000 := aM (IsS69.kp (f1 := t442) (by exact IsS69.j HI0.out) (lR HO_428000.out) hk)
             replace HO_428001 := aM (IsS69.kp (f1 := t442) (by exact IsS69.j HI0.out) (lR HO_428001.out) hk)
             replace BK418 := aM (kb hk BK418.out NB418_0.out)
             replace BK427 := aM (kb hk BK427.out NB427_0.out)
             replace HO459 := aM (IsS69.kp (f1 := t442) (by exact IsS69.j HI0.out) (lR HO459.out) hk)
             replace HK := aM (kt HK.out hk)
             replace HB := aM (hb)
             replace HI0 := aM (hi)
             (try clear hb)
             (try clear hb2)
             (try clear hk)
             (try clear hi)
             refine hK.out _ _ (cz3 BK427.out) (fun hHeld => ?_)
             clear hK K
             refine norm_ (a' := ?_) ?_ ?_
             rotate_left
             ·show Act.put _ (some 31) _ = _
              simp only [Act.put, sA, s0, sS, i64_w, i32_w]
              rfl
             refine one_ (i := 6) (N := some 34) #[true, true, true, true, true, true, true, false, false, false, false] rfl rfl (one_of HT_.out (by kernel_rfl)) (by decide) (fun K hK => ?_)
             refine goes_ Try.func20 (by kernel_rfl) rfl #[.pointer (some ⟨g, 0, none⟩), .int .i64 2] (by rfl) rfl rfl (by (try simp only [mA, mC, mN]); first | done | rfl | (simp only [ld, lt]; rfl)) ?_
             with_reducible refine (spec_l20Rd_pick.calls kj4 g s0_0 t456 2 t460 t461 w0 _ ?side1 ?side2 A86.out).mono ?_
             (case side1 => exact IsS69.j HI0.out)
             (case side2 => exact jB HB.out)
             rintro e w99 ⟨rfl, hi, hb, hk⟩
             refine ⟨_, rfl, ?_⟩
             replace HO_428000 := aM (IsS69.kp (f1 := t456) (by exact IsS69.j HI0.out) (lR HO_428000.out) hk)
             replace HO_428001 := aM (IsS69.kp (f1 := t456) (by exact IsS69.j HI0.out) (lR HO_428001.out) hk)
             replace BK418 := aM (kb hk BK418.out NB418_0.out)
             replace BK427 := aM (kb hk BK427.out NB427_0.out)
             replace HO459 := aM (IsS69.kp (f1 := t456) (by exact IsS69.j HI0.out) (lR HO459.out) hk)
             replace HK := aM (kt HK.out hk)
             replace HB := aM (hb)
             replace HI0 := aM (hi)
             (try clear hb)
             (try clear hb2)
             (try clear hk)
             (try clear hi)
             refine hK.out _ _ (cz3 BK427.out) (fun hHeld => ?_)
             clear hK K
             refine norm_ (a' := ?_) ?_ ?_
             rotate_left
             ·show Act.put _ (some 34) _ = _
              simp only [Act.put, sA, s0, sS, i64_w, i32_w]
              rfl
             exact norm_ (by simp only [putAll, Act.put, List.setIfInBounds_toArray, List.set_cons_zero, List.set_cons_succ]) (hCont (.slice (some ado97) y457.length co97, ado97) _ ⟨hHeld, (by exact lR <| Kd.R_mono HO459.out (fun _ hk => ⟨hk.1.2, hk.2⟩)), (by exact lR <| Kd.R_mono HO_428000.out (fun _ hk => ⟨hk.2, hk.1⟩)), (by exact lR <| Kd.R_mono HO_428001.out (fun _ hk => ⟨hk.2, hk.1⟩)), ⟨_, rfl⟩, (by exact lK BK418.out), (by exact lK BK427.out), (by exact IsS69.j HI0.out), (by exact jK HK.out), (by exact jB HB.out)⟩)
           rintro ⟨v458, adz_v458⟩ w100 ⟨hS_, h0_, h1_, h2_, h3_, h4_, h5_, h6_, h7_, h8_⟩
           have HO459 : Aside0 (Kd.R (Kd.int .i64) 3 w100 w.heap.size (fun k_ => some k_ ≠ (u428000 : Value).ownBlock ∧ some k_ ≠ (u428001 : Value).ownBlock) v458 y457) := ⟨h0_⟩
           replace HO_428000 : Aside0 (Kd.R (Kd.int .i64) 3 w100 w.heap.size (fun k_ => some k_ ≠ v458.ownBlock ∧ some k_ ≠ (u428001 : Value).ownBlock) u428000 x428000_4) := ⟨h1_⟩
           replace HO_428001 : Aside0 (Kd.R (Kd.int .i64) 3 w100 w.heap.size (fun k_ => some k_ ≠ v458.ownBlock ∧ some k_ ≠ (u428000 : Value).ownBlock) u428001 x428001_4) := ⟨h2_⟩
           have HA_HO459 : Aside0 (∃ c_, (v458 : Value) = .slice (some adz_v458) y457.length c_) := ⟨h3_⟩
           replace BK418 : Aside0 (w100.heap[gb418]? = some (.cells #[.slice none 0 0, .slice none 0 0, .int .i64 0] 43 (0, 0))) := ⟨h4_⟩
           replace BK427 : Aside0 (w100.heap[gb427]? = some (.cells #[u428000, u428001, .int .i64 t425] 43 (0, 0))) := ⟨h5_⟩
           replace HI0 : Aside0 (IsS69 w0 w100 g s0_0 t461) := ⟨h6_⟩
           replace HK : Aside0 (KeepBut w w100 g none) := ⟨h7_⟩
           replace HB : Aside0 (Below w0.heap.size w0 w100) := ⟨h8_⟩
           clear h0_ h1_ h2_ h3_ h4_ h5_ h6_ h7_ h8_
           have hHeld : w100.cell? ⟨gb427, 0, none⟩ = some (u428000) ∧ w100.cell? ⟨gb427, 1, none⟩ = some (u428001) ∧ w100.cell? ⟨gb427, 2, none⟩ = some (.int .i64 t425) := hS_
           obtain ⟨co101, eo101⟩ := HA_HO459.out
           clear HA_HO459
           subst eo101
           have p91 : 0 ≤ (t455 : Int) := of_decide_eq_true (by first | (with_reducible assumption) | assumption)
           have q91 : (t455 : Int) < ((x428000_4.length : Int) : Int) := of_decide_eq_true (by first | (with_reducible assumption) | assumption)
           obtain ⟨go91, co91, eo91, gb91, gl91, cl91, HG91⟩ := Kd.R_form HO_428000.out (by omega)
           (first | cases eo91 | (injection eo91 with ea_ en_ ec_; (first | subst ea_ | (injection ea_ with ea_; subst ea_)); subst ec_; clear en_))
           have GB91 := aM gb91
           have IGB91 : Nonempty _ := ⟨GB91.out⟩
           have GG91 := aM HG91
           clear gb91 gl91 HG91
           obtain ⟨hx91_0, hf91_0⟩ := Kd.R_celln 0 HO_428000.out (t455 : Int) p91 q91
           replace p91 := eq_true p91
           replace q91 := eq_true q91
           have HN0_go91 := aM (show g ≠ go91 from by have h_ := IsS69.own_ne HI0.out HO_428000.out (by decide); intro e_; exact h_ (by rw [e_]; rfl))
           have IHN0_go91 : Nonempty _ := ⟨HN0_go91.out⟩
           have HP102 := Kd.R_putn HO_428000.out (t455 : Int) (rd y457 t460)
           rw [← Ny463.out] at HP102
           have HQ102 := aM HP102
           clear HP102
           refine norm_ (a' := ?_) ?_ ?_
           rotate_left
           ·simp only [putAll, Act.put, List.setIfInBounds_toArray, List.set_cons_zero, List.set_cons_succ]
            rfl
           refine pure_ (i := 7) (N := some 35) (v := ?_) (a' := ?_) #[true, true, true, true, true, true, true, true, false, false, false] rfl rfl (any_of HT_.out (by kernel_rfl)) (fun _ _ _ h => h) (Or.inl ⟨by rfl, ?_⟩) ?_ ?_
           rotate_left
           ·intro w'
            go_simp
            with_reducible rfl
           rotate_left
           ·simp only [Act.put, sA, s0, sS, i64_w, i32_w]
            rfl
           refine one_ (i := 8) (N := some 36) #[true, true, true, true, true, true, true, true, true, false, false] rfl rfl (one_of HT_.out (by kernel_rfl)) (by decide) (fun K hK => ?_)
           (have p462 : 0 ≤ (t460 : Int) := of_decide_eq_true (by first | (with_reducible assumption) | assumption); have q462 : t460 < (y457.length : Int) := of_decide_eq_true (by first | (with_reducible assumption) | assumption); obtain ⟨ad462, e462, hx462_0⟩ := Kd.at_int (Kd.R_reads' HO459.out).2.2 t460 p462 q462; obtain rfl : adz_v458 = ad462 := (by injection e462))
           refine value_ (w1 := ?_) (v := ?_) (by rfl) rfl ?_ ?_
           rotate_left 2
           ·go_simp
            constructor
            ·rfl
            ·rfl
           clear hx462_0
           refine hK.out _ _ (cz3 BK427.out) (fun hHeld => ?_)
           clear hK K
           refine norm_ (a' := ?_) ?_ ?_
           rotate_left
           ·show Act.put _ (some 36) _ = _
            simp only [Act.put, sA, s0, sS, i64_w, i32_w]
            rfl
           refine pure_ (i := 9) (N := some 37) (v := ?_) (a' := ?_) #[true, true, true, true, true, true, true, true, true, true, false] rfl rfl (any_of HT_.out (by kernel_rfl)) (fun _ _ _ h => h) (Or.inl ⟨by rfl, ?_⟩) ?_ ?_
           rotate_left
           ·intro w'
            go_simp
            with_reducible rfl
           rotate_left
           ·simp only [Act.put, sA, s0, sS, i64_w, i32_w]
            rfl
           refine last_ (i := 10) (N := none) #[true, true, true, true, true, true, true, true, true, true, true] rfl rfl (one_of HT_.out (by kernel_rfl)) (by decide) (fun K hK => ?_)
           refine skip_ (w1 := ?_) (by rfl) rfl ?_ ?_
           rotate_left
           ·go_simp
            rfl
           refine hK.out _ _ ?_
           clear hK K
           refine done_ (done_of HT_.out (by kernel_rfl)) ?_
           have n0_ : Aside0 (Kd.R (Kd.int .i64) 3 (w100.setCell ⟨go91, (t455 : Int).toNat, none⟩ (.int .i64 (rd y457 t460))) w.heap.size (fun k_ => some k_ ≠ (u428001 : Value).ownBlock ∧ some k_ ≠ ownBlock (.slice (some adz_v458) y457.length co101)) (.slice (some ⟨go91, 0, none⟩) x428000_4.length co91) y463) := ⟨by exact lR <| Kd.R_mono HQ102.out (fun _ hk => ⟨hk.2, hk.1⟩)⟩
           have n1_ : Aside0 (Kd.R (Kd.int .i64) 3 (w100.setCell ⟨go91, (t455 : Int).toNat, none⟩ (.int .i64 (rd y457 t460))) w.heap.size (fun k_ => some k_ ≠ ownBlock (.slice (some ⟨go91, 0, none⟩) x428000_4.length co91) ∧ some k_ ≠ ownBlock (.slice (some adz_v458) y457.length co101)) u428001 x428001_4) := ⟨by exact lR <| Kd.R_mono (Kd.R_far (p := ⟨go91, (t455 : Int).toNat, none⟩) (Kd.R_mono HO_428001.out (fun k_ hk => (⟨hk, fun e_ => hk.2 (by rw [e_]; rfl)⟩ : _ ∧ k_ ≠ go91))) (fun _ hk => hk.2) (.int .i64 (rd y457 t460))) (fun _ hk => ⟨hk.1.2, hk.1.1⟩)⟩
           have n2_ : Aside0 (Kd.R (Kd.int .i64) 3 (w100.setCell ⟨go91, (t455 : Int).toNat, none⟩ (.int .i64 (rd y457 t460))) w.heap.size (fun k_ => some k_ ≠ ownBlock (.slice (some ⟨go91, 0, none⟩) x428000_4.length co91) ∧ some k_ ≠ (u428001 : Value).ownBlock) (.slice (some adz_v458) y457.length co101) y457) := ⟨by exact lR <| Kd.R_mono (Kd.R_far (p := ⟨go91, (t455 : Int).toNat, none⟩) (Kd.R_mono HO459.out (fun k_ hk => (⟨hk, fun e_ => hk.1 (by rw [e_]; rfl)⟩ : _ ∧ k_ ≠ go91))) (fun _ hk => hk.2) (.int .i64 (rd y457 t460))) (fun _ hk => ⟨hk.1.1, hk.1.2⟩)⟩
           have n3_ : Aside0 ((w100.setCell ⟨go91, (t455 : Int).toNat, none⟩ (.int .i64 (rd y457 t460))).heap[gb418]? = some (.cells #[.slice none 0 0, .slice none 0 0, .int .i64 0] 43 (0, 0))) := ⟨by (with_reducible repeat first | refine kN ?_ _ | refine kD ?_ | refine kA ?_ _); refine blk_far ?_ (by have h_ := Kd.R_ne HO_428000.out BK418.out (by decide); intro e_; exact h_ (by rw [e_]; rfl)) _; exact lK <| BK418.out⟩
           have n4_ : Aside0 ((w100.setCell ⟨go91, (t455 : Int).toNat, none⟩ (.int .i64 (rd y457 t460))).heap[gb427]? = some (.cells #[.slice (some ⟨go91, 0, none⟩) x428000_4.length co91, u428001, .int .i64 t425] 43 (0, 0))) := ⟨by (with_reducible repeat first | refine kN ?_ _ | refine kD ?_ | refine kA ?_ _); refine blk_far ?_ (by have h_ := Kd.R_ne HO_428000.out BK427.out (by decide); intro e_; exact h_ (by rw [e_]; rfl)) _; exact lK <| BK427.out⟩
           have n5_ : Aside0 (IsS69 w0 (w100.setCell ⟨go91, (t455 : Int).toNat, none⟩ (.int .i64 (rd y457 t460))) g s0_0 t461) := ⟨by exact IsS69.j HI0.out⟩
           have n6_ : Aside0 (KeepBut w (w100.setCell ⟨go91, (t455 : Int).toNat, none⟩ (.int .i64 (rd y457 t460))) g none) := ⟨by exact jK HK.out⟩
           have n7_ : Aside0 (Below w0.heap.size w0 (w100.setCell ⟨go91, (t455 : Int).toNat, none⟩ (.int .i64 (rd y457 t460)))) := ⟨by repeat (first | (with_reducible first | exact HB.out | apply below_alloc | apply pw_below_drewN | apply below_drew1 | refine below_set ?_ (Nat.le_trans HL.out GB91.out) | refine below_set ?_ (IsS69.ge HI0.out) | refine below_set ?_ GE418.out | refine below_set ?_ GE427.out) | exact HB.out)⟩
           (try clear HO_428000)
           (try clear HO_428001)
           (try clear HO459)
           (try clear BK418)
           (try clear BK427)
           (try clear HI0)
           (try clear HK)
           (try clear HB)
           generalize (w100.setCell ⟨go91, (t455 : Int).toNat, none⟩ (.int .i64 (rd y457 t460))) = w103 at n0_ n1_ n2_ n3_ n4_ n5_ n6_ n7_ ⊢
           have HO_428000 := n0_
           have HO_428001 := n1_
           have HO459 := n2_
           have BK418 := n3_
           have BK427 := n4_
           have HI0 := n5_
           have HK := n6_
           have HB := n7_
           clear n0_ n1_ n2_ n3_ n4_ n5_ n6_ n7_
           have hnb104 := NB427_418.out
           have hnc104 := NB418_427.out
           have hnb105 := NB427_0.out
           have hnc105 := NB0_427.out
           obtain ⟨hcz106_0, hcz106_1, hcz106_2, hfz106_0, hfz106_1, hfz106_2⟩ := cf3 BK427.out
           have hnb107 := NB418_0.out
           have hnc107 := NB0_418.out
           obtain ⟨hcz108_0, hcz108_1, hcz108_2, hfz108_0, hfz108_1, hfz108_2⟩ := cf3 BK418.out
           obtain ⟨Ao109, co109, eo109⟩ := Kd.R_slice HO_428001.out
           subst eo109
           try go_wp2
           refine bodyPost_ret (results_cell_row rfl _ _ gb418 43 #[.slice (some ⟨go91, 0, none⟩) x428000_4.length co91, .slice Ao109 x428001_4.length co109, .int .i64 t425] (0, 0) _ rfl (by exact p3 (lK BK418.out)) Try.underlying43 rfl (by kernel_rfl)) rfl ?_
           exact ⟨_, _, er, by exact lR <| Kd.R_mono (Kd.R_far (p := ⟨gb418, 2, none⟩) (Kd.R_far (p := ⟨gb418, 1, none⟩) (Kd.R_far (p := ⟨gb418, 0, none⟩) (Kd.R_types HO_428000.out BK418.out (by decide)) (fun _ hk => by first | exact hk.2 | exact fun e_ => hk.2 (e_.trans (ob _ _ _ _))) (.slice (some ⟨go91, 0, none⟩) x428000_4.length co91)) (fun _ hk => by first | exact hk.2 | exact fun e_ => hk.2 (e_.trans (ob _ _ _ _))) (.slice Ao109 x428001_4.length co109)) (fun _ hk => by first | exact hk.2 | exact fun e_ => hk.2 (e_.trans (ob _ _ _ _))) (.int .i64 t425)) (fun _ hk => by first | exact hk.1.1 | exact fun e_ => hk.1.1 (e_.trans (ob _ _ _ _))), by exact lR <| Kd.R_mono (Kd.R_far (p := ⟨gb418, 2, none⟩) (Kd.R_far (p := ⟨gb418, 1, none⟩) (Kd.R_far (p := ⟨gb418, 0, none⟩) (Kd.R_types HO_428001.out BK418.out (by decide)) (fun _ hk => by first | exact hk.2 | exact fun e_ => hk.2 (e_.trans (ob _ _ _ _))) (.slice (some ⟨go91, 0, none⟩) x428000_4.length co91)) (fun _ hk => by first | exact hk.2 | exact fun e_ => hk.2 (e_.trans (ob _ _ _ _))) (.slice Ao109 x428001_4.length co109)) (fun _ hk => by first | exact hk.2 | exact fun e_ => hk.2 (e_.trans (ob _ _ _ _))) (.int .i64 t425)) (fun _ hk => by first | exact hk.1.1 | exact fun e_ => hk.1.1 (e_.trans (ob _ _ _ _))), by exact IsS69.j HI0.out, by exact jB HB.out, by exact jK HK.out⟩
          ·rw [if_neg c90] at H
           exact absurd H (by simp)
         ·rw [if_neg c89] at H
          exact absurd H (by simp)
        ·rw [if_neg c88] at H
         exact absurd H (by simp)
       ·rw [if_neg c87] at H
        exact absurd H (by simp)

end Go.Proofs.Ytgalnmgkcdmnkaa.QFnPlnHome

-- shorter
