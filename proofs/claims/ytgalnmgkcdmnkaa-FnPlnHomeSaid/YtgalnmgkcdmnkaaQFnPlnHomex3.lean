/- Plain functions, and that the Go code computes them: written by a program of this session over the seat's translation; the conditions stand in each theorem. -/
import Derived.Test.YtgalnmgkcdmnkaaQFnPlnHomex0
import Derived.Test.YtgalnmgkcdmnkaaQFnPlnHomex1
import Derived.Test.YtgalnmgkcdmnkaaQFnPlnHomex2
namespace Go.Proofs.Ytgalnmgkcdmnkaa.QFnPlnHome
open Go.RowKit Go.Proofs.YtgalnmgkcdmnkaaW.PrintWords Go.Proofs.YtgalnmgkcdmnkaaW.PrintLast Go.Proofs.YtgalnmgkcdmnkaaW.PrintMore Go.Proofs.Ytgalnmgkcdmnkaa.HWords
attribute [local go_sem] max2_int min2_int max_two min_two max_three min_three max_four min_four   -- for this text's walks alone
set_option linter.unusedVariables false
set_option linter.unusedSimpArgs false

/-! ### spec_l20Small: function 55 -/
mutual
def spec_l20Small.l0 : Nat → Int → List Int → Int → List Int → List Int → Int → Option (List Int × List Int × Int × Int)
 | 0, _, _, _, _, _, _ => none
 | k + 1, x4, x1000, x1001, x152000, x152001, x152002 => if x4 < 3 then ((some (([0, 0, 0, 1, (-1), 2] : List Int) : List Int)).bind fun y152 => ((spec_l20Rd_pick.f k x1000 x1001 6).bind fun bt155 => (if 0 ≤ bt155.1 then (if bt155.1 < (y152.length : Int) then (if 0 ≤ x4 then (if x4 < (x152000.length : Int) then (spec_l20Small.l0 k (wrap64 (x4 + 1)) x1000 bt155.2 (x152000.set (x4 : Int).toNat (rd y152 bt155.1)) x152001 x152002) else (none)) else (none)) else (none)) else (none)))) else (spec_l20Small.l1 k 0 x1000 x1001 x152000 x152001 x152002)
def spec_l20Small.l1 : Nat → Int → List Int → Int → List Int → List Int → Int → Option (List Int × List Int × Int × Int)
 | 0, _, _, _, _, _, _ => none
 | k + 1, x5, x1000, x1001, x152000, x152001, x152002 => if x5 < 2 then ((some (([0, 0, 1, (-1), 2] : List Int) : List Int)).bind fun y159 => ((spec_l20Rd_pick.f k x1000 x1001 5).bind fun bt162 => (if 0 ≤ bt162.1 then (if bt162.1 < (y159.length : Int) then (if 0 ≤ x5 then (if x5 < (x152001.length : Int) then (spec_l20Small.l1 k (wrap64 (x5 + 1)) x1000 bt162.2 x152000 (x152001.set (x5 : Int).toNat (rd y159 bt162.1)) x152002) else (none)) else (none)) else (none)) else (none)))) else ((some (([0, 0, 1, (-1), 5, (-5), 20, (-20)] : List Int) : List Int)).bind fun y166 => ((spec_l20Rd_pick.f k x1000 x1001 8).bind fun bt169 => (if 0 ≤ bt169.1 then (if bt169.1 < (y166.length : Int) then (some (x152000, x152001, rd y166 bt169.1, bt169.2)) else (none)) else (none))))
end
def spec_l20Small.f (k : Nat) (s0_0 : List Int) (s0_1 : Int) : Option (List Int × List Int × Int × Int) := (spec_FrmZero.f).bind fun bt144 => (spec_l20Small.l0 k 0 s0_0 s0_1 bt144.1 bt144.2.1 bt144.2.2)
theorem spec_l20Small.mono_l : ∀ k, (∀ y0 y1 y2 y3 y4 y5, LeO (spec_l20Small.l0 k y0 y1 y2 y3 y4 y5) (spec_l20Small.l0 (k + 1) y0 y1 y2 y3 y4 y5)) ∧ (∀ y0 y1 y2 y3 y4 y5, LeO (spec_l20Small.l1 k y0 y1 y2 y3 y4 y5) (spec_l20Small.l1 (k + 1) y0 y1 y2 y3 y4 y5))
 | 0 => ⟨fun _ _ _ _ _ _ r h => by simp [spec_l20Small.l0] at h, fun _ _ _ _ _ _ r h => by simp [spec_l20Small.l1] at h⟩
 | k + 1 => by
  obtain ⟨ih0, ih1⟩ := spec_l20Small.mono_l k
  refine ⟨?_, ?_⟩
  ·intro y0 y1 y2 y3 y4 y5
   unfold spec_l20Small.l0
   repeat' first
   | (with_reducible exact ih0 _ _ _ _ _ _)
   | (with_reducible exact ih1 _ _ _ _ _ _)
   | (with_reducible exact spec_l20Rd_pick.mono _ _ _ _)
   | (with_reducible exact LeO.refl _)
   | (with_reducible exact LeO.none _)
   | (with_reducible refine LeO.ite ?_ ?_)
   | (with_reducible refine LeO.bind ?_ (fun _ => ?_))
   | exact LeO.none _
   | refine LeO.ite ?_ ?_
   | refine LeO.bind ?_ (fun _ => ?_)
  ·intro y0 y1 y2 y3 y4 y5
   unfold spec_l20Small.l1
   repeat' first
   | (with_reducible exact ih0 _ _ _ _ _ _)
   | (with_reducible exact ih1 _ _ _ _ _ _)
   | (with_reducible exact spec_l20Rd_pick.mono _ _ _ _)
   | (with_reducible exact LeO.refl _)
   | (with_reducible exact LeO.none _)
   | (with_reducible refine LeO.ite ?_ ?_)
   | (with_reducible refine LeO.bind ?_ (fun _ => ?_))
   | exact LeO.none _
   | refine LeO.ite ?_ ?_
   | refine LeO.bind ?_ (fun _ => ?_)
theorem spec_l20Small.mono : ∀ a0 a1 k, LeO (spec_l20Small.f k a0 a1) (spec_l20Small.f (k + 1) a0 a1) := by
 intro a0 a1 k
 obtain ⟨ih0, ih1⟩ := spec_l20Small.mono_l k
 unfold spec_l20Small.f
 repeat' first
   | (with_reducible exact ih0 _ _ _ _ _ _)
   | (with_reducible exact ih1 _ _ _ _ _ _)
   | (with_reducible exact spec_l20Rd_pick.mono _ _ _ _)
   | (with_reducible exact LeO.refl _)
   | (with_reducible exact LeO.none _)
   | (with_reducible refine LeO.ite ?_ ?_)
   | (with_reducible refine LeO.bind ?_ (fun _ => ?_))
   | exact LeO.none _
   | refine LeO.ite ?_ ?_
   | refine LeO.bind ?_ (fun _ => ?_)
def spec_l20Small.T5 : Bool × List (List Nat × List Nat) := (true, [([], []), ([0], [0]), ([], []), ([], []), ([], []), ([4], [4]), ([3, 5], [3, 5]), ([6], [6]), ([1, 2, 0, 1, 2, 3, 4, 5, 6, 7], [1, 2]), ([8, 7, 5, 0, 1, 2, 3, 4, 5, 6, 7], [7, 8])])
def spec_l20Small.B5 : List Nat := [0, 1, 0, 0, 0, 16, 56, 120, 255, 511]
theorem spec_l20Small.tab5 : rtab .any (opsOf Try.f55 5) = spec_l20Small.T5 := by kernel_rfl
theorem spec_l20Small.bits5 : waitsOk spec_l20Small.T5.2 spec_l20Small.B5 = true := by kernel_rfl
def spec_l20Small.T9 : Bool × List (List Nat × List Nat) := (true, [([], []), ([0], [0]), ([], []), ([], []), ([], []), ([4], [4]), ([3, 5], [3, 5]), ([6], [6]), ([1, 2, 0, 1, 2, 3, 4, 5, 6, 7], [1, 2]), ([8, 7, 5, 0, 1, 2, 3, 4, 5, 6, 7], [7, 8])])
def spec_l20Small.B9 : List Nat := [0, 1, 0, 0, 0, 16, 56, 120, 255, 511]
theorem spec_l20Small.tab9 : rtab .any (opsOf Try.f55 9) = spec_l20Small.T9 := by kernel_rfl
theorem spec_l20Small.bits9 : waitsOk spec_l20Small.T9.2 spec_l20Small.B9 = true := by kernel_rfl
set_option maxHeartbeats 8000000 in
set_option maxRecDepth 100000 in
theorem spec_l20Small.calls (k : Nat) (g : Nat) (s0_0 : List Int) (s0_1 : Int) (r1 : List Int) (r2 : List Int) (r3 : Int) (r4 : Int) (w0 w : World) (hI : IsS69 w0 w g s0_0 s0_1) (hB : Below w0.heap.size w0 w) (h : spec_l20Small.f k s0_0 s0_1 = some (r1, r2, r3, r4)) :
  Calls Try.prog 55 #[.pointer (some ⟨g, 0, none⟩)] w fun e w' => ∃ v0_ v1_ : Value, e = .returned (.agg #[v0_, v1_, .int .i64 r3]) ∧ Kd.R (Kd.int .i64) 3 w' w.heap.size (fun k_ => some k_ ≠ (v1_ : Value).ownBlock) v0_ r1 ∧ Kd.R (Kd.int .i64) 3 w' w.heap.size (fun k_ => some k_ ≠ (v0_ : Value).ownBlock) v1_ r2 ∧ IsS69 w0 w' g s0_0 r4 ∧ Below w0.heap.size w0 w' ∧ KeepBut w w' g none := by
 have hu43 := Try.underlying43
 have HI0 := aM hI
 have IHI0 : Nonempty _ := ⟨IsS69.ge hI⟩
 have HK := aM (KeepBut.refl w g none)
 have HL := aM hB.size
 clear hI
 have HW0 := aM hB.size
 have HB := aM hB
 clear hB
 have H : ((spec_FrmZero.f).bind fun bt144 => (spec_l20Small.l0 k 0 s0_0 s0_1 bt144.1 bt144.2.1 bt144.2.2)) = some (r1, r2, r3, r4) := h
 clear h
 obtain ⟨⟨t144, t147, t150⟩, A2, H⟩ := bS H
 try dsimp only at H
 have H' := aM H
 clear H
 go_enter Try.func55, Try.ntmps55
 go_wp2_with (first | ((with_reducible refine gate_dst (N := 2) rfl ?_); refine bx 2 #[.slice none 0 0, .slice none 0 0, .int .i64 0] 43 ?_; intro gb143 hg w3 hbox hb; replace HB := aM (bj HB.out hb); have BK143 := aM (hbox); have GW143 := aM ((gk hg HK.out)); have IGW143 : Nonempty _ := ⟨GW143.out⟩; have GE143 := aM ((Nat.le_trans HW0.out (gk hg HK.out) : w0.heap.size ≤ gb143)); have IGE143 : Nonempty _ := ⟨GE143.out⟩; replace HK := aM (kbl HK.out hb); have NB0_143 := aM ((by rw [hg]; exact Nat.ne_of_lt (IsS69.lt (show IsS69 w0 _ g s0_0 s0_1 from by exact IsS69.j HI0.out)) : g ≠ gb143)); have INB0_143 : Nonempty _ := ⟨NB0_143.out⟩; have NB143_0 := aM ((by rw [hg]; exact Nat.ne_of_gt (IsS69.lt (show IsS69 w0 _ g s0_0 s0_1 from by exact IsS69.j HI0.out)) : gb143 ≠ g)); replace HI0 := aM (IsS69.below (by exact IsS69.j HI0.out) hb); clear hb hbox hg) | ((with_reducible refine gate_callee (f := 66) rfl ?_); refine gL (some 6) Try.func66 #[] ?_; (with_reducible refine (spec_FrmZero.calls  t144 t147 t150 _ A2.out).mono ?_); rintro e w4 ⟨v145, v148, rfl, ho0, ho1, hb⟩; refine ⟨_, rfl, ?_⟩; have HO146 := aM (lw ho0 HK.out); have HO149 := aM (lw ho1 HK.out); replace HI0 := aM (IsS69.below (by exact IsS69.j HI0.out) hb); replace BK143 := aM (bb BK143.out hb); replace HK := aM (kbl HK.out hb); replace HB := aM (bj HB.out hb); (try clear hb); (try clear ho0); (try clear ho1)) | ((with_reducible refine gate_dst (N := 3) rfl ?_); refine bx 3 #[.slice none 0 0, .slice none 0 0, .int .i64 0] 43 ?_; intro gb151 hg w5 hbox hb; replace HO146 := aM (rb HO146.out hb); replace HO149 := aM (rb HO149.out hb); replace HB := aM (bj HB.out hb); have BK151 := aM (hbox); have GW151 := aM ((gk hg HK.out)); have IGW151 : Nonempty _ := ⟨GW151.out⟩; have GE151 := aM ((Nat.le_trans HW0.out (gk hg HK.out) : w0.heap.size ≤ gb151)); have IGE151 : Nonempty _ := ⟨GE151.out⟩; replace HK := aM (kbl HK.out hb); have NB143_151 := aM ((neL hg (lK BK143.out) : gb143 ≠ gb151)); have NB151_143 := aM ((neG hg (lK BK143.out) : gb151 ≠ gb143)); replace BK143 := aM (bb BK143.out hb); have NB0_151 := aM ((by rw [hg]; exact Nat.ne_of_lt (IsS69.lt (show IsS69 w0 _ g s0_0 s0_1 from by exact IsS69.j HI0.out)) : g ≠ gb151)); have INB0_151 : Nonempty _ := ⟨NB0_151.out⟩; have NB151_0 := aM ((by rw [hg]; exact Nat.ne_of_gt (IsS69.lt (show IsS69 w0 _ g s0_0 s0_1 from by exact IsS69.j HI0.out)) : gb151 ≠ g)); replace HI0 := aM (IsS69.below (by exact IsS69.j HI0.out) hb); clear hb hbox hg; obtain ⟨Ao6, co6, eo6⟩ := Kd.R_slice HO146.out; subst eo6; have hnb7 := NB151_143.out; have hnc7 := NB143_151.out; have hnb8 := NB151_0.out; have hnc8 := NB0_151.out; obtain ⟨hcz9_0, hcz9_1, hcz9_2, hfz9_0, hfz9_1, hfz9_2⟩ := cf3 BK151.out; obtain ⟨Ao10, co10, eo10⟩ := Kd.R_slice HO149.out; subst eo10))
 go_loopg [4] k (fun kq v4 w' => ∃ (x4_1 : Int) (x1001_1 : Int) (x152000_1 : List Int) (x152001_1 : List Int) (u152000 : Value) (u152001 : Value), v4 = .int .i64 x4_1 ∧ Aside0 (spec_l20Small.l0 kq x4_1 s0_0 x1001_1 x152000_1 x152001_1 t150 = some (r1, r2, r3, r4)) ∧ Aside0 (kq ≤ k) ∧ Aside0 (Kd.R (Kd.int .i64) 3 w' w.heap.size (fun k_ => some k_ ≠ (u152001 : Value).ownBlock) u152000 x152000_1) ∧ Aside0 (Kd.R (Kd.int .i64) 3 w' w.heap.size (fun k_ => some k_ ≠ (u152000 : Value).ownBlock) u152001 x152001_1) ∧ Aside0 (w'.heap[gb143]? = some (.cells #[(.slice none 0 0), (.slice none 0 0), .int .i64 0] 43 (0, 0))) ∧ Aside0 (w'.heap[gb151]? = some (.cells #[u152000, u152001, .int .i64 t150] 43 (0, 0))) ∧ Aside0 (IsS69 w0 w' g s0_0 x1001_1) ∧ Aside0 (KeepBut w w' g none) ∧ Aside0 (Below w0.heap.size w0 w'))
 case atStart => exact ⟨(0), (s0_1), (t144), (t147), (.slice Ao6 t144.length co6), (.slice Ao10 t147.length co10), (by first | rfl | (simp; done) | (simp [*]; done)), H', ⟨Nat.le_refl _⟩, ⟨by (with_reducible repeat (first | apply ra | apply rn | apply re)); exact R3 HO146.out BK151.out⟩, ⟨by (with_reducible repeat (first | apply ra | apply rn | apply re)); exact R3 HO149.out BK151.out⟩, ⟨by exact f3 (lK BK143.out) NB143_151.out⟩, ⟨by exact p3 (lK BK151.out)⟩, ⟨by exact IsS69.j HI0.out⟩, ⟨by exact jK HK.out⟩, ⟨by exact jB HB.out⟩⟩
 case round =>
  clear H'
  try clear p2
  try clear c5
  try clear c6
  try clear c7
  try clear c8
  try clear hcz9_0
  try clear hcz9_1
  try clear hcz9_2
  try clear hfz9_0
  try clear hfz9_1
  try clear hfz9_2
  obtain ⟨x4_1, x1001_1, x152000_1, x152001_1, u152000, u152001, rfl, HA, HK1, HO_152000, HO_152001, BK143, BK151, HI0, HK, HB⟩ := hrel
  cases gk with
  | zero => exact absurd HA.out (by simp [spec_l20Small.l0])
  | succ k1 =>
   have H := HA.out
   clear HA
   simp only [spec_l20Small.l0] at H
   by_cases c11 : x4_1 < 3
   ·rw [if_pos c11] at H
    have c11b0 := decide_eq_true c11
    clear c11
    obtain ⟨y152, hy152⟩ : ∃ y_ : List Int, y_ = (([0, 0, 0, 1, (-1), 2] : List Int)) := ⟨_, rfl⟩
    try rw [← hy152] at H
    try dsimp only [Option.bind_some] at H
    have Ny152 := aM hy152
    clear hy152
    obtain ⟨⟨t155, t156⟩, A12, H⟩ := bS H
    try dsimp only at H
    by_cases c13 : 0 ≤ t155
    ·rw [if_pos c13] at H
     have c13b0 := decide_eq_true c13
     clear c13
     by_cases c14 : t155 < (y152.length : Int)
     ·rw [if_pos c14] at H
      have c14b0 := decide_eq_true c14
      clear c14
      by_cases c15 : 0 ≤ x4_1
      ·rw [if_pos c15] at H
       have c15b0 := decide_eq_true c15
       clear c15
       by_cases c16 : x4_1 < (x152000_1.length : Int)
       ·rw [if_pos c16] at H
        have c16b0 := decide_eq_true c16
        clear c16
        obtain ⟨y158, hy158⟩ : ∃ y_ : List Int, y_ = (x152000_1.set (x4_1 : Int).toNat (rd y152 t155)) := ⟨_, rfl⟩
        try rw [← hy158] at H
        try dsimp only [Option.bind_some] at H
        have Ny158 := aM hy158
        clear hy158
        have H' := aM H
        clear H
        try go_wp2
        have pi157 : (0 ≤ (t155 : Int)) = True := eq_true (of_decide_eq_true (by first | (with_reducible assumption) | assumption))
        have qi157 : (t155 < (y152.length : Int)) = True := eq_true (of_decide_eq_true (by first | (with_reducible assumption) | assumption))
        replace HO_152000 := aM (Kd.R_drew HO_152000.out)
        replace HO_152001 := aM (Kd.R_drew HO_152001.out)
        replace BK143 := aM (blk_drew BK143.out)
        replace BK151 := aM (blk_drew BK151.out)
        replace HI0 := aM (IsS69.drew HI0.out)
        replace HK := aM (keep_drew HK.out)
        replace HB := aM (below_drew1 HB.out)
        refine start_ (n := 10) (S := fun w' => w'.cell? ⟨gb151, 0, none⟩ = some (u152000) ∧ w'.cell? ⟨gb151, 1, none⟩ = some (u152001) ∧ w'.cell? ⟨gb151, 2, none⟩ = some (.int .i64 t150)) (ds := [9]) #[false, false, false, false, false, false, false, false, false, false] (by kernel_rfl) rfl rfl (cz3 BK151.out) (fun hHeld => ?_); refine with_tabW spec_l20Small.tab5 spec_l20Small.bits5 (fun HT_ HW_ => ?_)
        generalize wr.drew = w18 at HO_152000 HO_152001 BK143 BK151 HI0 HK HB hHeld ⊢
        refine pure_ (i := 0) (N := some 11) (v := ?_) (a' := ?_) #[true, false, false, false, false, false, false, false, false, false] rfl rfl (any_of HT_.out (by kernel_rfl)) (fun _ _ _ h => h) (Or.inl ⟨by rfl, ?_⟩) ?_ ?_
        rotate_left
        ·intro w'
         go_simp
         with_reducible rfl
        rotate_left
        ·simp only [Act.put, sA, s0, sS, i64_w, i32_w]
         rfl
        refine pure_ (i := 2) (N := some 13) (v := ?_) (a' := ?_) #[true, false, true, false, false, false, false, false, false, false] rfl rfl (any_of HT_.out (by kernel_rfl)) (fun _ _ _ h => h) (Or.inl ⟨by rfl, ?_⟩) ?_ ?_
        rotate_left
        ·intro w'
         go_simp
         with_reducible rfl
        rotate_left
        ·simp only [Act.put, sA, s0, sS, i64_w, i32_w]
         rfl
        refine pure_ (i := 4) (N := some 15) (v := ?_) (a' := ?_) #[true, false, true, false, true, false, false, false, false, false] rfl rfl (any_of HT_.out (by kernel_rfl)) (fun _ _ _ h => h) (Or.inl ⟨by rfl, ?_⟩) ?_ ?_
        rotate_left
        ·intro w'
         go_simp
         with_reducible rfl
        rotate_left
        ·simp only [Act.put, sA, s0, sS, i64_w, i32_w]
         rfl
        refine take_ (i := 1) (N := some 12) (v := ?_) (a' := ?_) #[true, true, true, false, true, false, false, false, false, false] rfl rfl (take_ofW HT_.out HW_.out (by kernel_rfl)) (fun _ _ _ h => h) (Or.inl ⟨by rfl, ?_⟩) hHeld ?_ ?_
        rotate_left
        ·rintro w' ⟨s0, s1, s2⟩
         go_simp
         with_reducible rfl
        rotate_left
        ·simp only [Act.put, sA, s0, sS, i64_w, i32_w]
         rfl
        refine join_ (σ := Value × Addr) 4 #[true, true, true, true, true, true, false, false, false, false] (fun s_ => [(14, s_.1), (16, .int .i64 t155)]) (fun s_ w' => (w'.cell? ⟨gb151, 0, none⟩ = some (u152000) ∧ w'.cell? ⟨gb151, 1, none⟩ = some (u152001) ∧ w'.cell? ⟨gb151, 2, none⟩ = some (.int .i64 t150)) ∧ (Kd.R (Kd.int .i64) 3 w' w.heap.size (fun k_ => some k_ ≠ (u152000 : Value).ownBlock ∧ some k_ ≠ (u152001 : Value).ownBlock) s_.1 y152) ∧ (Kd.R (Kd.int .i64) 3 w' w.heap.size (fun k_ => some k_ ≠ (s_.1 : Value).ownBlock ∧ some k_ ≠ (u152001 : Value).ownBlock) u152000 x152000_1) ∧ (Kd.R (Kd.int .i64) 3 w' w.heap.size (fun k_ => some k_ ≠ (s_.1 : Value).ownBlock ∧ some k_ ≠ (u152000 : Value).ownBlock) u152001 x152001_1) ∧ (∃ c_, (s_.1 : Value) = .slice (some s_.2) y152.length c_) ∧ (w'.heap[gb143]? = some (.cells #[.slice none 0 0, .slice none 0 0, .int .i64 0] 43 (0, 0))) ∧ (w'.heap[gb151]? = some (.cells #[u152000, u152001, .int .i64 t150] 43 (0, 0))) ∧ (IsS69 w0 w' g s0_0 t156) ∧ (KeepBut w w' g none) ∧ (Below w0.heap.size w0 w')) ?_ ?_
        rotate_left
        ·intro hCont
         refine two_ (i := 3) (j := 5) (Ni := some 14) (Nj := some 16) #[true, true, true, true, true, false, false, false, false, false] #[true, true, true, false, true, true, false, false, false, false] rfl rfl rfl rfl (two_of HT_.out (by kernel_rfl)) (by decide) (by decide) (fun K hK => ?_) (fun K hK => ?_)
         ·skip
          refine Kd.R_lit_step (Kd.int .i64) _ 3 ?hg (N := 14) ?hd (xs := ([0, 0, 0, 1, (-1), 2] : List Int)) (inner := [.int .i64 0, .int .i64 0, .int .i64 0, .int .i64 1, .int .i64 (-1), .int .i64 2]) (ok := fun _ => True) (okp := fun _ => True) ?hr ?hp (fun _ hk => hk) trivial (Below.refl _ _) (Nat.le_refl _) (by simp) ?_; (case hd => rfl); (case hg => rfl); (case hr => first | (go_simp; done) | (go_simp; rfl)); (case hp => exact (Reps.one (show Kd.M (Kd.int .i64) _ _ _ 0 [.int .i64 0] from rfl) (Reps.one (show Kd.M (Kd.int .i64) _ _ _ 0 [.int .i64 0] from rfl) (Reps.one (show Kd.M (Kd.int .i64) _ _ _ 0 [.int .i64 0] from rfl) (Reps.one (show Kd.M (Kd.int .i64) _ _ _ 1 [.int .i64 1] from rfl) (Reps.one (show Kd.M (Kd.int .i64) _ _ _ (-1) [.int .i64 (-1)] from rfl) (Reps.one (show Kd.M (Kd.int .i64) _ _ _ 2 [.int .i64 2] from rfl) (Reps.none _ _))))))))
          intro v153 w19 ho20 hb hg_ hnew_
          clear hg_ hnew_
          (first | rw [← Ny152.out] at ho20 | (simp only [Int.reduceToNat] at ho20; rw [← Ny152.out] at ho20))
          have HO154 := aM (Kd.R_lower (Kd.R_new' (Kd.R_new' ho20 (rl HO_152000.out)) (rl HO_152001.out)) (keep_size (w := w) (g := g) (row := none) (by exact jK HK.out)))
          replace HO_152000 := aM (Kd.R_elder' (by exact lR HO_152000.out) (Kd.R_base ho20) hb)
          replace HO_152001 := aM (Kd.R_elder' (by exact lR HO_152001.out) (Kd.R_base ho20) hb)
          replace BK143 := aM (bb BK143.out hb)
          replace BK151 := aM (bb BK151.out hb)
          replace HI0 := aM (IsS69.below (by exact IsS69.j HI0.out) hb)
          replace HK := aM (kbl HK.out hb)
          replace HB := aM (bj HB.out hb)
          clear hb ho20
          obtain ⟨Ao21, co21, eo21⟩ := Kd.R_slice HO154.out
          subst eo21
          obtain ⟨ado21, fo21, _⟩ := Kd.at_int (Kd.R_reads' HO154.out).2.2 0 (by decide) (by rw [Ny152.out]; simp)
          cases fo21
          refine hK.out _ _ (cz3 BK151.out) (fun hHeld => ?_)
          clear hK K
          refine norm_ (a' := ?_) ?_ ?_
          rotate_left
          ·show Act.put _ (some 14) _ = _
           simp only [Act.put, sA, s0, sS, i64_w, i32_w]
           rfl
          refine one_ (i := 5) (N := some 16) #[true, true, true, true, true, true, false, false, false, false] rfl rfl (one_of HT_.out (by kernel_rfl)) (by decide) (fun K hK => ?_)
          refine goes_ Try.func20 (by kernel_rfl) rfl #[.pointer (some ⟨g, 0, none⟩), .int .i64 6] (by rfl) rfl rfl (by (try simp only [mA, mC, mN]); first | done | rfl | (simp only [ld, lt]; rfl)) ?_
          with_reducible refine (spec_l20Rd_pick.calls k1 g s0_0 x1001_1 6 t155 t156 w0 _ ?side1 ?side2 A12.out).mono ?_
          (case side1 => exact IsS69.j HI0.out)
          (case side2 => exact jB HB.out)
          rintro e w22 ⟨rfl, hi, hb, hk⟩
          refine ⟨_, rfl, ?_⟩
          replace HO_152000 := aM (IsS69.kp (f1 := x1001_1) (by exact IsS69.j HI0.out) (lR HO_152000.out) hk)
          replace HO_152001 := aM (IsS69.kp (f1 := x1001_1) (by exact IsS69.j HI0.out) (lR HO_152001.out) hk)
          replace BK143 := aM (kb hk BK143.out NB143_0.out)
          replace BK151 := aM (kb hk BK151.out NB151_0.out)
          replace HO154 := aM (IsS69.kp (f1 := x1001_1) (by exact IsS69.j HI0.out) (lR HO154.out) hk)
          replace HK := aM (kt HK.out hk)
          replace HB := aM (hb)
          replace HI0 := aM (hi)
          (try clear hb)
          (try clear hb2)
          (try clear hk)
          (try clear hi)
          refine hK.out _ _ (cz3 BK151.out) (fun hHeld => ?_)
          clear hK K
          refine norm_ (a' := ?_) ?_ ?_
          rotate_left
          ·show Act.put _ (some 16) _ = _
           simp only [Act.put, sA, s0, sS, i64_w, i32_w]
           rfl
          exact norm_ (by simp only [putAll, Act.put, List.setIfInBounds_toArray, List.set_cons_zero, List.set_cons_succ]) (hCont (.slice (some ado21) y152.length co21, ado21) _ ⟨hHeld, (by exact lR <| Kd.R_mono HO154.out (fun _ hk => ⟨hk.1.2, hk.2⟩)), (by exact lR <| Kd.R_mono HO_152000.out (fun _ hk => ⟨hk.2, hk.1⟩)), (by exact lR <| Kd.R_mono HO_152001.out (fun _ hk => ⟨hk.2, hk.1⟩)), ⟨_, rfl⟩, (by exact lK BK143.out), (by exact lK BK151.out), (by exact IsS69.j HI0.out), (by exact jK HK.out), (by exact jB HB.out)⟩)
         ·skip
          refine goes_ Try.func20 (by kernel_rfl) rfl #[.pointer (some ⟨g, 0, none⟩), .int .i64 6] (by rfl) rfl rfl (by (try simp only [mA, mC, mN]); first | done | rfl | (simp only [ld, lt]; rfl)) ?_
          with_reducible refine (spec_l20Rd_pick.calls k1 g s0_0 x1001_1 6 t155 t156 w0 _ ?side1 ?side2 A12.out).mono ?_
          (case side1 => exact IsS69.j HI0.out)
          (case side2 => exact jB HB.out)
          rintro e w19 ⟨rfl, hi, hb, hk⟩
          refine ⟨_, rfl, ?_⟩
          replace HO_152000 := aM (IsS69.kp (f1 := x1001_1) (by exact IsS69.j HI0.out) (lR HO_152000.out) hk)
          replace HO_152001 := aM (IsS69.kp (f1 := x1001_1) (by exact IsS69.j HI0.out) (lR HO_152001.out) hk)
          replace BK143 := aM (kb hk BK143.out NB143_0.out)
          replace BK151 := aM (kb hk BK151.out NB151_0.out)
          replace HK := aM (kt HK.out hk)
          replace HB := aM (hb)
          replace HI0 := aM (hi)
          (try clear hb)
          (try clear hb2)
          (try clear hk)
          (try clear hi)
          refine hK.out _ _ (cz3 BK151.out) (fun hHeld => ?_)
          clear hK K
          refine norm_ (a' := ?_) ?_ ?_
          rotate_left
          ·show Act.put _ (some 16) _ = _
           simp only [Act.put, sA, s0, sS, i64_w, i32_w]
           rfl
          refine one_ (i := 3) (N := some 14) #[true, true, true, true, true, true, false, false, false, false] rfl rfl (one_of HT_.out (by kernel_rfl)) (by decide) (fun K hK => ?_)
          refine Kd.R_lit_step (Kd.int .i64) _ 3 ?hg (N := 14) ?hd (xs := ([0, 0, 0, 1, (-1), 2] : List Int)) (inner := [.int .i64 0, .int .i64 0, .int .i64 0, .int .i64 1, .int .i64 (-1), .int .i64 2]) (ok := fun _ => True) (okp := fun _ => True) ?hr ?hp (fun _ hk => hk) trivial (Below.refl _ _) (Nat.le_refl _) (by simp) ?_; (case hd => rfl); (case hg => rfl); (case hr => first | (go_simp; done) | (go_simp; rfl)); (case hp => exact (Reps.one (show Kd.M (Kd.int .i64) _ _ _ 0 [.int .i64 0] from rfl) (Reps.one (show Kd.M (Kd.int .i64) _ _ _ 0 [.int .i64 0] from rfl) (Reps.one (show Kd.M (Kd.int .i64) _ _ _ 0 [.int .i64 0] from rfl) (Reps.one (show Kd.M (Kd.int .i64) _ _ _ 1 [.int .i64 1] from rfl) (Reps.one (show Kd.M (Kd.int .i64) _ _ _ (-1) [.int .i64 (-1)] from rfl) (Reps.one (show Kd.M (Kd.int .i64) _ _ _ 2 [.int .i64 2] from rfl) (Reps.none _ _))))))))
          intro v153 w20 ho21 hb hg_ hnew_
          clear hg_ hnew_
          (first | rw [← Ny152.out] at ho21 | (simp only [Int.reduceToNat] at ho21; rw [← Ny152.out] at ho21))
          have HO154 := aM (Kd.R_lower (Kd.R_new' (Kd.R_new' ho21 (rl HO_152000.out)) (rl HO_152001.out)) (keep_size (w := w) (g := g) (row := none) (by exact jK HK.out)))
          replace HO_152000 := aM (Kd.R_elder' (by exact lR HO_152000.out) (Kd.R_base ho21) hb)
          replace HO_152001 := aM (Kd.R_elder' (by exact lR HO_152001.out) (Kd.R_base ho21) hb)
          replace BK143 := aM (bb BK143.out hb)
          replace BK151 := aM (bb BK151.out hb)
          replace HI0 := aM (IsS69.below (by exact IsS69.j HI0.out) hb)
          replace HK := aM (kbl HK.out hb)
          replace HB := aM (bj HB.out hb)
          clear hb ho21
          obtain ⟨Ao22, co22, eo22⟩ := Kd.R_slice HO154.out
          subst eo22
          obtain ⟨ado22, fo22, _⟩ := Kd.at_int (Kd.R_reads' HO154.out).2.2 0 (by decide) (by rw [Ny152.out]; simp)
          cases fo22
          refine hK.out _ _ (cz3 BK151.out) (fun hHeld => ?_)
          clear hK K
          refine norm_ (a' := ?_) ?_ ?_
          rotate_left
          ·show Act.put _ (some 14) _ = _
           simp only [Act.put, sA, s0, sS, i64_w, i32_w]
           rfl
          exact norm_ (by simp only [putAll, Act.put, List.setIfInBounds_toArray, List.set_cons_zero, List.set_cons_succ]) (hCont (.slice (some ado22) y152.length co22, ado22) _ ⟨hHeld, (by exact lR <| Kd.R_mono HO154.out (fun _ hk => ⟨hk.1.2, hk.2⟩)), (by exact lR <| Kd.R_mono HO_152000.out (fun _ hk => ⟨hk.2, hk.1⟩)), (by exact lR <| Kd.R_mono HO_152001.out (fun _ hk => ⟨hk.2, hk.1⟩)), ⟨_, rfl⟩, (by exact lK BK143.out), (by exact lK BK151.out), (by exact IsS69.j HI0.out), (by exact jK HK.out), (by exact jB HB.out)⟩)
        rintro ⟨v153, adz_v153⟩ w23 ⟨hS_, h0_, h1_, h2_, h3_, h4_, h5_, h6_, h7_, h8_⟩
        have HO154 : Aside0 (Kd.R (Kd.int .i64) 3 w23 w.heap.size (fun k_ => some k_ ≠ (u152000 : Value).ownBlock ∧ some k_ ≠ (u152001 : Value).ownBlock) v153 y152) := ⟨h0_⟩
        replace HO_152000 : Aside0 (Kd.R (Kd.int .i64) 3 w23 w.heap.size (fun k_ => some k_ ≠ v153.ownBlock ∧ some k_ ≠ (u152001 : Value).ownBlock) u152000 x152000_1) := ⟨h1_⟩
        replace HO_152001 : Aside0 (Kd.R (Kd.int .i64) 3 w23 w.heap.size (fun k_ => some k_ ≠ v153.ownBlock ∧ some k_ ≠ (u152000 : Value).ownBlock) u152001 x152001_1) := ⟨h2_⟩
        have HA_HO154 : Aside0 (∃ c_, (v153 : Value) = .slice (some adz_v153) y152.length c_) := ⟨h3_⟩
        replace BK143 : Aside0 (w23.heap[gb143]? = some (.cells #[.slice none 0 0, .slice none 0 0, .int .i64 0] 43 (0, 0))) := ⟨h4_⟩
        replace BK151 : Aside0 (w23.heap[gb151]? = some (.cells #[u152000, u152001, .int .i64 t150] 43 (0, 0))) := ⟨h5_⟩
        replace HI0 : Aside0 (IsS69 w0 w23 g s0_0 t156) := ⟨h6_⟩
        replace HK : Aside0 (KeepBut w w23 g none) := ⟨h7_⟩
        replace HB : Aside0 (Below w0.heap.size w0 w23) := ⟨h8_⟩
        clear h0_ h1_ h2_ h3_ h4_ h5_ h6_ h7_ h8_
        have hHeld : w23.cell? ⟨gb151, 0, none⟩ = some (u152000) ∧ w23.cell? ⟨gb151, 1, none⟩ = some (u152001) ∧ w23.cell? ⟨gb151, 2, none⟩ = some (.int .i64 t150) := hS_
        obtain ⟨co24, eo24⟩ := HA_HO154.out
        clear HA_HO154
        subst eo24
        have p17 : 0 ≤ (x4_1 : Int) := of_decide_eq_true (by first | (with_reducible assumption) | assumption)
        have q17 : (x4_1 : Int) < ((x152000_1.length : Int) : Int) := of_decide_eq_true (by first | (with_reducible assumption) | assumption)
        obtain ⟨go17, co17, eo17, gb17, gl17, cl17, HG17⟩ := Kd.R_form HO_152000.out (by omega)
        (first | cases eo17 | (injection eo17 with ea_ en_ ec_; (first | subst ea_ | (injection ea_ with ea_; subst ea_)); subst ec_; clear en_))
        have GB17 := aM gb17
        have IGB17 : Nonempty _ := ⟨GB17.out⟩
        have GG17 := aM HG17
        clear gb17 gl17 HG17
        obtain ⟨hx17_0, hf17_0⟩ := Kd.R_celln 0 HO_152000.out (x4_1 : Int) p17 q17
        replace p17 := eq_true p17
        replace q17 := eq_true q17
        have HN0_go17 := aM (show g ≠ go17 from by have h_ := IsS69.own_ne HI0.out HO_152000.out (by decide); intro e_; exact h_ (by rw [e_]; rfl))
        have IHN0_go17 : Nonempty _ := ⟨HN0_go17.out⟩
        have HP25 := Kd.R_putn HO_152000.out (x4_1 : Int) (rd y152 t155)
        rw [← Ny158.out] at HP25
        have HQ25 := aM HP25
        clear HP25
        refine norm_ (a' := ?_) ?_ ?_
        rotate_left
        ·simp only [putAll, Act.put, List.setIfInBounds_toArray, List.set_cons_zero, List.set_cons_succ]
         rfl
        refine pure_ (i := 6) (N := some 17) (v := ?_) (a' := ?_) #[true, true, true, true, true, true, true, false, false, false] rfl rfl (any_of HT_.out (by kernel_rfl)) (fun _ _ _ h => h) (Or.inl ⟨by rfl, ?_⟩) ?_ ?_
        rotate_left
        ·intro w'
         go_simp
         with_reducible rfl
        rotate_left
        ·simp only [Act.put, sA, s0, sS, i64_w, i32_w]
         rfl
        refine one_ (i := 7) (N := some 18) #[true, true, true, true, true, true, true, true, false, false] rfl rfl (one_of HT_.out (by kernel_rfl)) (by decide) (fun K hK => ?_)
        (have p157 : 0 ≤ (t155 : Int) := of_decide_eq_true (by first | (with_reducible assumption) | assumption); have q157 : t155 < (y152.length : Int) := of_decide_eq_true (by first | (with_reducible assumption) | assumption); obtain ⟨ad157, e157, hx157_0⟩ := Kd.at_int (Kd.R_reads' HO154.out).2.2 t155 p157 q157; obtain rfl : adz_v153 = ad157 := (by injection e157))
        refine value_ (w1 := ?_) (v := ?_) (by rfl) rfl ?_ ?_
        rotate_left 2
        ·go_simp
         constructor
         ·rfl
         ·rfl
        clear hx157_0
        refine hK.out _ _ (cz3 BK151.out) (fun hHeld => ?_)
        clear hK K
        refine norm_ (a' := ?_) ?_ ?_
        rotate_left
        ·show Act.put _ (some 18) _ = _
         simp only [Act.put, sA, s0, sS, i64_w, i32_w]
         rfl
        refine pure_ (i := 8) (N := some 19) (v := ?_) (a' := ?_) #[true, true, true, true, true, true, true, true, true, false] rfl rfl (any_of HT_.out (by kernel_rfl)) (fun _ _ _ h => h) (Or.inl ⟨by rfl, ?_⟩) ?_ ?_
        rotate_left
        ·intro w'
         go_simp
         with_reducible rfl
        rotate_left
        ·simp only [Act.put, sA, s0, sS, i64_w, i32_w]
         rfl
        refine last_ (i := 9) (N := none) #[true, true, true, true, true, true, true, true, true, true] rfl rfl (one_of HT_.out (by kernel_rfl)) (by decide) (fun K hK => ?_)
        refine skip_ (w1 := ?_) (by rfl) rfl ?_ ?_
        rotate_left
        ·go_simp
         rfl
        refine hK.out _ _ ?_
        clear hK K
        refine done_ (done_of HT_.out (by kernel_rfl)) ?_
        try go_wp2
        go_roundg k1
        case measure => have := HK1.out; omega
        case rel => exact ⟨(wrap64 (x4_1 + 1)), (t156), (y158), (x152001_1), (.slice (some ⟨go17, 0, none⟩) x152000_1.length co17), (u152001), (by first | rfl | (simp; done) | (simp [*]; done)), H', ⟨by have := HK1.out; omega⟩, ⟨by exact lR <| Kd.R_mono HQ25.out (fun _ hk => hk.2)⟩, ⟨by exact lR <| Kd.R_mono (Kd.R_far (p := ⟨go17, (x4_1 : Int).toNat, none⟩) (Kd.R_mono HO_152001.out (fun k_ hk => (⟨hk, fun e_ => hk.2 (by rw [e_]; rfl)⟩ : _ ∧ k_ ≠ go17))) (fun _ hk => hk.2) (.int .i64 (rd y152 t155))) (fun _ hk => hk.1.2)⟩, ⟨by (with_reducible repeat first | refine kN ?_ _ | refine kD ?_ | refine kA ?_ _); refine blk_far ?_ (by have h_ := Kd.R_ne HO_152000.out BK143.out (by decide); intro e_; exact h_ (by rw [e_]; rfl)) _; exact lK <| BK143.out⟩, ⟨by (with_reducible repeat first | refine kN ?_ _ | refine kD ?_ | refine kA ?_ _); refine blk_far ?_ (by have h_ := Kd.R_ne HO_152000.out BK151.out (by decide); intro e_; exact h_ (by rw [e_]; rfl)) _; exact lK <| BK151.out⟩, ⟨by exact IsS69.j HI0.out⟩, ⟨by exact jK HK.out⟩, ⟨by repeat (first | (with_reducible first | exact HB.out | apply below_alloc | apply pw_below_drewN | apply below_drew1 | refine below_set ?_ (Nat.le_trans HL.out GB17.out) | refine below_set ?_ (IsS69.ge HI0.out) | refine below_set ?_ GE143.out | refine below_set ?_ GE151.out) | exact HB.out)⟩⟩
       ·rw [if_neg c16] at H
        exact absurd H (by simp)
      ·rw [if_neg c15] at H
       exact absurd H (by simp)
     ·rw [if_neg c14] at H
      exact absurd H (by simp)
    ·rw [if_neg c13] at H
     exact absurd H (by simp)
   ·rw [if_neg c11] at H
    have c11b0 := decide_eq_false c11
    clear c11
    have H' := aM H
    clear H
    go_wp2
    go_loopg [5] k1 (fun kq v5 w' => ∃ (x5_2 : Int) (x1001_2 : Int) (x152000_2 : List Int) (x152001_2 : List Int) (u152000 : Value) (u152001 : Value), v5 = .int .i64 x5_2 ∧ Aside0 (spec_l20Small.l1 kq x5_2 s0_0 x1001_2 x152000_2 x152001_2 t150 = some (r1, r2, r3, r4)) ∧ Aside0 (kq ≤ k1) ∧ Aside0 (Kd.R (Kd.int .i64) 3 w' w.heap.size (fun k_ => some k_ ≠ (u152001 : Value).ownBlock) u152000 x152000_2) ∧ Aside0 (Kd.R (Kd.int .i64) 3 w' w.heap.size (fun k_ => some k_ ≠ (u152000 : Value).ownBlock) u152001 x152001_2) ∧ Aside0 (w'.heap[gb143]? = some (.cells #[(.slice none 0 0), (.slice none 0 0), .int .i64 0] 43 (0, 0))) ∧ Aside0 (w'.heap[gb151]? = some (.cells #[u152000, u152001, .int .i64 t150] 43 (0, 0))) ∧ Aside0 (IsS69 w0 w' g s0_0 x1001_2) ∧ Aside0 (KeepBut w w' g none) ∧ Aside0 (Below w0.heap.size w0 w'))
    case atStart => exact ⟨(0), (x1001_1), (x152000_1), (x152001_1), (u152000), (u152001), (by first | rfl | (simp; done) | (simp [*]; done)), H', ⟨Nat.le_refl _⟩, ⟨by exact lR <| HO_152000.out⟩, ⟨by exact lR <| HO_152001.out⟩, ⟨by exact lK <| BK143.out⟩, ⟨by exact lK <| BK151.out⟩, ⟨by exact IsS69.j HI0.out⟩, ⟨by exact jK HK.out⟩, ⟨by exact jB HB.out⟩⟩
    case round =>
     clear H'
     try clear c1
     try clear p1
     try clear q1
     try clear hx1
     try clear qi1
     try clear hf1
     try clear c2
     try clear p2
     try clear c5
     try clear c6
     try clear p6
     try clear c7
     try clear c8
     try clear c11
     try clear c11b0
     try clear c13
     try clear c13b0
     try clear c14
     try clear c14b0
     try clear c15
     try clear c15b0
     try clear p15
     try clear q15
     try clear hx15
     try clear qi15
     try clear c16
     try clear c16b0
     try clear p17
     try clear q17
     try clear hx17
     try clear hf17
     try clear c20
     try clear hcz9_0
     try clear hcz9_1
     try clear hcz9_2
     try clear hfz9_0
     try clear hfz9_1
     try clear hfz9_2
     try clear hx157_0
     try clear hx17_0
     try clear p157
     try clear p17
     try clear p2
     try clear q157
     try clear q17
     obtain ⟨x5_2, x1001_2, x152000_2, x152001_2, u152000, u152001, rfl, HA, HK2, HO_152000, HO_152001, BK143, BK151, HI0, HK, HB⟩ := hrel
     cases gk with
     | zero => exact absurd HA.out (by simp [spec_l20Small.l1])
     | succ k2 =>
      have H := HA.out
      clear HA
      simp only [spec_l20Small.l1] at H
      by_cases c26 : x5_2 < 2
      ·rw [if_pos c26] at H
       have c26b0 := decide_eq_true c26
       clear c26
       obtain ⟨y159, hy159⟩ : ∃ y_ : List Int, y_ = (([0, 0, 1, (-1), 2] : List Int)) := ⟨_, rfl⟩
       try rw [← hy159] at H
       try dsimp only [Option.bind_some] at H
       have Ny159 := aM hy159
       clear hy159
       obtain ⟨⟨t162, t163⟩, A27, H⟩ := bS H
       try dsimp only at H
       by_cases c28 : 0 ≤ t162
       ·rw [if_pos c28] at H
        have c28b0 := decide_eq_true c28
        clear c28
        by_cases c29 : t162 < (y159.length : Int)
        ·rw [if_pos c29] at H
         have c29b0 := decide_eq_true c29
         clear c29
         by_cases c30 : 0 ≤ x5_2
         ·rw [if_pos c30] at H
          have c30b0 := decide_eq_true c30
          clear c30
          by_cases c31 : x5_2 < (x152001_2.length : Int)
          ·rw [if_pos c31] at H
           have c31b0 := decide_eq_true c31
           clear c31
           obtain ⟨y165, hy165⟩ : ∃ y_ : List Int, y_ = (x152001_2.set (x5_2 : Int).toNat (rd y159 t162)) := ⟨_, rfl⟩
           try rw [← hy165] at H
           try dsimp only [Option.bind_some] at H
           have Ny165 := aM hy165
           clear hy165
           have H' := aM H
           clear H
           try go_wp2
           have pi164 : (0 ≤ (t162 : Int)) = True := eq_true (of_decide_eq_true (by first | (with_reducible assumption) | assumption))
           have qi164 : (t162 < (y159.length : Int)) = True := eq_true (of_decide_eq_true (by first | (with_reducible assumption) | assumption))
           replace HO_152000 := aM (Kd.R_drew HO_152000.out)
           replace HO_152001 := aM (Kd.R_drew HO_152001.out)
           replace BK143 := aM (blk_drew BK143.out)
           replace BK151 := aM (blk_drew BK151.out)
           replace HI0 := aM (IsS69.drew HI0.out)
           replace HK := aM (keep_drew HK.out)
           replace HB := aM (below_drew1 HB.out)
           refine start_ (n := 10) (S := fun w' => w'.cell? ⟨gb151, 0, none⟩ = some (u152000) ∧ w'.cell? ⟨gb151, 1, none⟩ = some (u152001) ∧ w'.cell? ⟨gb151, 2, none⟩ = some (.int .i64 t150)) (ds := [9]) #[false, false, false, false, false, false, false, false, false, false] (by kernel_rfl) rfl rfl (cz3 BK151.out) (fun hHeld => ?_); refine with_tabW spec_l20Small.tab9 spec_l20Small.bits9 (fun HT_ HW_ => ?_)
           generalize wr.drew = w33 at HO_152000 HO_152001 BK143 BK151 HI0 HK HB hHeld ⊢
           refine pure_ (i := 0) (N := some 24) (v := ?_) (a' := ?_) #[true, false, false, false, false, false, false, false, false, false] rfl rfl (any_of HT_.out (by kernel_rfl)) (fun _ _ _ h => h) (Or.inl ⟨by rfl, ?_⟩) ?_ ?_
           rotate_left
           ·intro w'
            go_simp
            with_reducible rfl
           rotate_left
           ·simp only [Act.put, sA, s0, sS, i64_w, i32_w]
            rfl
           refine pure_ (i := 2) (N := some 26) (v := ?_) (a' := ?_) #[true, false, true, false, false, false, false, false, false, false] rfl rfl (any_of HT_.out (by kernel_rfl)) (fun _ _ _ h => h) (Or.inl ⟨by rfl, ?_⟩) ?_ ?_
           rotate_left
           ·intro w'
            go_simp
            with_reducible rfl
           rotate_left
           ·simp only [Act.put, sA, s0, sS, i64_w, i32_w]
            rfl
           refine pure_ (i := 4) (N := some 28) (v := ?_) (a' := ?_) #[true, false, true, false, true, false, false, false, false, false] rfl rfl (any_of HT_.out (by kernel_rfl)) (fun _ _ _ h => h) (Or.inl ⟨by rfl, ?_⟩) ?_ ?_
           rotate_left
           ·intro w'
            go_simp
            with_reducible rfl
           rotate_left
           ·simp only [Act.put, sA, s0, sS, i64_w, i32_w]
            rfl
           refine take_ (i := 1) (N := some 25) (v := ?_) (a' := ?_) #[true, true, true, false, true, false, false, false, false, false] rfl rfl (take_ofW HT_.out HW_.out (by kernel_rfl)) (fun _ _ _ h => h) (Or.inl ⟨by rfl, ?_⟩) hHeld ?_ ?_
           rotate_left
           ·rintro w' ⟨s0, s1, s2⟩
            go_simp
            with_reducible rfl
           rotate_left
           ·simp only [Act.put, sA, s0, sS, i64_w, i32_w]
            rfl
           refine join_ (σ := Value × Addr) 4 #[true, true, true, true, true, true, false, false, false, false] (fun s_ => [(27, s_.1), (29, .int .i64 t162)]) (fun s_ w' => (w'.cell? ⟨gb151, 0, none⟩ = some (u152000) ∧ w'.cell? ⟨gb151, 1, none⟩ = some (u152001) ∧ w'.cell? ⟨gb151, 2, none⟩ = some (.int .i64 t150)) ∧ (Kd.R (Kd.int .i64) 3 w' w.heap.size (fun k_ => some k_ ≠ (u152000 : Value).ownBlock ∧ some k_ ≠ (u152001 : Value).ownBlock) s_.1 y159) ∧ (Kd.R (Kd.int .i64) 3 w' w.heap.size (fun k_ => some k_ ≠ (s_.1 : Value).ownBlock ∧ some k_ ≠ (u152001 : Value).ownBlock) u152000 x152000_2) ∧ (Kd.R (Kd.int .i64) 3 w' w.heap.size (fun k_ => some k_ ≠ (s_.1 : Value).ownBlock ∧ some k_ ≠ (u152000 : Value).ownBlock) u152001 x152001_2) ∧ (∃ c_, (s_.1 : Value) = .slice (some s_.2) y159.length c_) ∧ (w'.heap[gb143]? = some (.cells #[.slice none 0 0, .slice none 0 0, .int .i64 0] 43 (0, 0))) ∧ (w'.heap[gb151]? = some (.cells #[u152000, u152001, .int .i64 t150] 43 (0, 0))) ∧ (IsS69 w0 w' g s0_0 t163) ∧ (KeepBut w w' g none) ∧ (Below w0.heap.size w0 w')) ?_ ?_
           rotate_left
           ·intro hCont
            refine two_ (i := 3) (j := 5) (Ni := some 27) (Nj := some 29) #[true, true, true, true, true, false, false, false, false, false] #[true, true, true, false, true, true, false, false, false, false] rfl rfl rfl rfl (two_of HT_.out (by kernel_rfl)) (by decide) (by decide) (fun K hK => ?_) (fun K hK => ?_)
            ·skip
             refine Kd.R_lit_step (Kd.int .i64) _ 3 ?hg (N := 27) ?hd (xs := ([0, 0, 1, (-1), 2] : List Int)) (inner := [.int .i64 0, .int .i64 0, .int .i64 1, .int .i64 (-1), .int .i64 2]) (ok := fun _ => True) (okp := fun _ => True) ?hr ?hp (fun _ hk => hk) trivial (Below.refl _ _) (Nat.le_refl _) (by simp) ?_; (case hd => rfl); (case hg => rfl); (case hr => first | (go_simp; done) | (go_simp; rfl)); (case hp => exact (Reps.one (show Kd.M (Kd.int .i64) _ _ _ 0 [.int .i64 0] from rfl) (Reps.one (show Kd.M (Kd.int .i64) _ _ _ 0 [.int .i64 0] from rfl) (Reps.one (show Kd.M (Kd.int .i64) _ _ _ 1 [.int .i64 1] from rfl) (Reps.one (show Kd.M (Kd.int .i64) _ _ _ (-1) [.int .i64 (-1)] from rfl) (Reps.one (show Kd.M (Kd.int .i64) _ _ _ 2 [.int .i64 2] from rfl) (Reps.none _ _)))))))
             intro v160 w34 ho35 hb hg_ hnew_
             clear hg_ hnew_
             (first | rw [← Ny159.out] at ho35 | (simp only [Int.reduceToNat] at ho35; rw [← Ny159.out] at ho35))
             have HO161 := aM (Kd.R_lower (Kd.R_new' (Kd.R_new' ho35 (rl HO_152000.out)) (rl HO_152001.out)) (keep_size (w := w) (g := g) (row := none) (by exact jK HK.out)))
             replace HO_152000 := aM (Kd.R_elder' (by exact lR HO_152000.out) (Kd.R_base ho35) hb)
             replace HO_152001 := aM (Kd.R_elder' (by exact lR HO_152001.out) (Kd.R_base ho35) hb)
             replace BK143 := aM (bb BK143.out hb)
             replace BK151 := aM (bb BK151.out hb)
             replace HI0 := aM (IsS69.below (by exact IsS69.j HI0.out) hb)
             replace HK := aM (kbl HK.out hb)
             replace HB := aM (bj HB.out hb)
             clear hb ho35
             obtain ⟨Ao36, co36, eo36⟩ := Kd.R_slice HO161.out
             subst eo36
             obtain ⟨ado36, fo36, _⟩ := Kd.at_int (Kd.R_reads' HO161.out).2.2 0 (by decide) (by rw [Ny159.out]; simp)
             cases fo36
             refine hK.out _ _ (cz3 BK151.out) (fun hHeld => ?_)
             clear hK K
             refine norm_ (a' := ?_) ?_ ?_
             rotate_left
             ·show Act.put _ (some 27) _ = _
              simp only [Act.put, sA, s0, sS, i64_w, i32_w]
              rfl
             refine one_ (i := 5) (N := some 29) #[true, true, true, true, true, true, false, false, false, false] rfl rfl (one_of HT_.out (by kernel_rfl)) (by decide) (fun K hK => ?_)
             refine goes_ Try.func20 (by kernel_rfl) rfl #[.pointer (some ⟨g, 0, none⟩), .int .i64 5] (by rfl) rfl rfl (by (try simp only [mA, mC, mN]); first | done | rfl | (simp only [ld, lt]; rfl)) ?_
             with_reducible refine (spec_l20Rd_pick.calls k2 g s0_0 x1001_2 5 t162 t163 w0 _ ?side1 ?side2 A27.out).mono ?_
             (case side1 => exact IsS69.j HI0.out)
             (case side2 => exact jB HB.out)
             rintro e w37 ⟨rfl, hi, hb, hk⟩
             refine ⟨_, rfl, ?_⟩
             replace HO_152000 := aM (IsS69.kp (f1 := x1001_2) (by exact IsS69.j HI0.out) (lR HO_152000.out) hk)
             replace HO_152001 := aM (IsS69.kp (f1 := x1001_2) (by exact IsS69.j HI0.out) (lR HO_152001.out) hk)
             replace BK143 := aM (kb hk BK143.out NB143_0.out)
             replace BK151 := aM (kb hk BK151.out NB151_0.out)
             replace HO161 := aM (IsS69.kp (f1 := x1001_2) (by exact IsS69.j HI0.out) (lR HO161.out) hk)
             replace HK := aM (kt HK.out hk)
             replace HB := aM (hb)
             replace HI0 := aM (hi)
             (try clear hb)
             (try clear hb2)
             (try clear hk)
             (try clear hi)
             refine hK.out _ _ (cz3 BK151.out) (fun hHeld => ?_)
             clear hK K
             refine norm_ (a' := ?_) ?_ ?_
             rotate_left
             ·show Act.put _ (some 29) _ = _
              simp only [Act.put, sA, s0, sS, i64_w, i32_w]
              rfl
             exact norm_ (by simp only [putAll, Act.put, List.setIfInBounds_toArray, List.set_cons_zero, List.set_cons_succ]) (hCont (.slice (some ado36) y159.length co36, ado36) _ ⟨hHeld, (by exact lR <| Kd.R_mono HO161.out (fun _ hk => ⟨hk.1.2, hk.2⟩)), (by exact lR <| Kd.R_mono HO_152000.out (fun _ hk => ⟨hk.2, hk.1⟩)), (by exact lR <| Kd.R_mono HO_152001.out (fun _ hk => ⟨hk.2, hk.1⟩)), ⟨_, rfl⟩, (by exact lK BK143.out), (by exact lK BK151.out), (by exact IsS69.j HI0.out), (by exact jK HK.out), (by exact jB HB.out)⟩)
            ·skip
             refine goes_ Try.func20 (by kernel_rfl) rfl #[.pointer (some ⟨g, 0, none⟩), .int .i64 5] (by rfl) rfl rfl (by (try simp only [mA, mC, mN]); first | done | rfl | (simp only [ld, lt]; rfl)) ?_
             with_reducible refine (spec_l20Rd_pick.calls k2 g s0_0 x1001_2 5 t162 t163 w0 _ ?side1 ?side2 A27.out).mono ?_
             (case side1 => exact IsS69.j HI0.out)
             (case side2 => exact jB HB.out)
             rintro e w34 ⟨rfl, hi, hb, hk⟩
             refine ⟨_, rfl, ?_⟩
             replace HO_152000 := aM (IsS69.kp (f1 := x1001_2) (by exact IsS69.j HI0.out) (lR HO_152000.out) hk)
             replace HO_152001 := aM (IsS69.kp (f1 := x1001_2) (by exact IsS69.j HI0.out) (lR HO_152001.out) hk)
             replace BK143 := aM (kb hk BK143.out NB143_0.out)
             replace BK151 := aM (kb hk BK151.out NB151_0.out)
             replace HK := aM (kt HK.out hk)
             replace HB := aM (hb)
             replace HI0 := aM (hi)
             (try clear hb)
             (try clear hb2)
             (try clear hk)
             (try clear hi)
             refine hK.out _ _ (cz3 BK151.out) (fun hHeld => ?_)
             clear hK K
             refine norm_ (a' := ?_) ?_ ?_
             rotate_left
             ·show Act.put _ (some 29) _ = _
              simp only [Act.put, sA, s0, sS, i64_w, i32_w]
              rfl
             refine one_ (i := 3) (N := some 27) #[true, true, true, true, true, true, false, false, false, false] rfl rfl (one_of HT_.out (by kernel_rfl)) (by decide) (fun K hK => ?_)
             refine Kd.R_lit_step (Kd.int .i64) _ 3 ?hg (N := 27) ?hd (xs := ([0, 0, 1, (-1), 2] : List Int)) (inner := [.int .i64 0, .int .i64 0, .int .i64 1, .int .i64 (-1), .int .i64 2]) (ok := fun _ => True) (okp := fun _ => True) ?hr ?hp (fun _ hk => hk) trivial (Below.refl _ _) (Nat.le_refl _) (by simp) ?_; (case hd => rfl); (case hg => rfl); (case hr => first | (go_simp; done) | (go_simp; rfl)); (case hp => exact (Reps.one (show Kd.M (Kd.int .i64) _ _ _ 0 [.int .i64 0] from rfl) (Reps.one (show Kd.M (Kd.int .i64) _ _ _ 0 [.int .i64 0] from rfl) (Reps.one (show Kd.M (Kd.int .i64) _ _ _ 1 [.int .i64 1] from rfl) (Reps.one (show Kd.M (Kd.int .i64) _ _ _ (-1) [.int .i64 (-1)] from rfl) (Reps.one (show Kd.M (Kd.int .i64) _ _ _ 2 [.int .i64 2] from rfl) (Reps.none _ _)))))))
             intro v160 w35 ho36 hb hg_ hnew_
             clear hg_ hnew_
             (first | rw [← Ny159.out] at ho36 | (simp only [Int.reduceToNat] at ho36; rw [← Ny159.out] at ho36))
             have HO161 := aM (Kd.R_lower (Kd.R_new' (Kd.R_new' ho36 (rl HO_152000.out)) (rl HO_152001.out)) (keep_size (w := w) (g := g) (row := none) (by exact jK HK.out)))
             replace HO_152000 := aM (Kd.R_elder' (by exact lR HO_152000.out) (Kd.R_base ho36) hb)
             replace HO_152001 := aM (Kd.R_elder' (by exact lR HO_152001.out) (Kd.R_base ho36) hb)
             replace BK143 := aM (bb BK143.out hb)
             replace BK151 := aM (bb BK151.out hb)
             replace HI0 := aM (IsS69.below (by exact IsS69.j HI0.out) hb)
             replace HK := aM (kbl HK.out hb)
             replace HB := aM (bj HB.out hb)
             clear hb ho36
             obtain ⟨Ao37, co37, eo37⟩ := Kd.R_slice HO161.out
             subst eo37
             obtain ⟨ado37, fo37, _⟩ := Kd.at_int (Kd.R_reads' HO161.out).2.2 0 (by decide) (by rw [Ny159.out]; simp)
             cases fo37
             refine hK.out _ _ (cz3 BK151.out) (fun hHeld => ?_)
             clear hK K
             refine norm_ (a' := ?_) ?_ ?_
             rotate_left
             ·show Act.put _ (some 27) _ = _
              simp only [Act.put, sA, s0, sS, i64_w, i32_w]
              rfl
             exact norm_ (by simp only [putAll, Act.put, List.setIfInBounds_toArray, List.set_cons_zero, List.set_cons_succ]) (hCont (.slice (some ado37) y159.length co37, ado37) _ ⟨hHeld, (by exact lR <| Kd.R_mono HO161.out (fun _ hk => ⟨hk.1.2, hk.2⟩)), (by exact lR <| Kd.R_mono HO_152000.out (fun _ hk => ⟨hk.2, hk.1⟩)), (by exact lR <| Kd.R_mono HO_152001.out (fun _ hk => ⟨hk.2, hk.1⟩)), ⟨_, rfl⟩, (by exact lK BK143.out), (by exact lK BK151.out), (by exact IsS69.j HI0.out), (by exact jK HK.out), (by exact jB HB.out)⟩)
           rintro ⟨v160, adz_v160⟩ w38 ⟨hS_, h0_, h1_, h2_, h3_, h4_, h5_, h6_, h7_, h8_⟩
           have HO161 : Aside0 (Kd.R (Kd.int .i64) 3 w38 w.heap.size (fun k_ => some k_ ≠ (u152000 : Value).ownBlock ∧ some k_ ≠ (u152001 : Value).ownBlock) v160 y159) := ⟨h0_⟩
           replace HO_152000 : Aside0 (Kd.R (Kd.int .i64) 3 w38 w.heap.size (fun k_ => some k_ ≠ v160.ownBlock ∧ some k_ ≠ (u152001 : Value).ownBlock) u152000 x152000_2) := ⟨h1_⟩
           replace HO_152001 : Aside0 (Kd.R (Kd.int .i64) 3 w38 w.heap.size (fun k_ => some k_ ≠ v160.ownBlock ∧ some k_ ≠ (u152000 : Value).ownBlock) u152001 x152001_2) := ⟨h2_⟩
           have HA_HO161 : Aside0 (∃ c_, (v160 : Value) = .slice (some adz_v160) y159.length c_) := ⟨h3_⟩
           replace BK143 : Aside0 (w38.heap[gb143]? = some (.cells #[.slice none 0 0, .slice none 0 0, .int .i64 0] 43 (0, 0))) := ⟨h4_⟩
           replace BK151 : Aside0 (w38.heap[gb151]? = some (.cells #[u152000, u152001, .int .i64 t150] 43 (0, 0))) := ⟨h5_⟩
           replace HI0 : Aside0 (IsS69 w0 w38 g s0_0 t163) := ⟨h6_⟩
           replace HK : Aside0 (KeepBut w w38 g none) := ⟨h7_⟩
           replace HB : Aside0 (Below w0.heap.size w0 w38) := ⟨h8_⟩
           clear h0_ h1_ h2_ h3_ h4_ h5_ h6_ h7_ h8_
           have hHeld : w38.cell? ⟨gb151, 0, none⟩ = some (u152000) ∧ w38.cell? ⟨gb151, 1, none⟩ = some (u152001) ∧ w38.cell? ⟨gb151, 2, none⟩ = some (.int .i64 t150) := hS_
           obtain ⟨co39, eo39⟩ := HA_HO161.out
           clear HA_HO161
           subst eo39
           have p32 : 0 ≤ (x5_2 : Int) := of_decide_eq_true (by first | (with_reducible assumption) | assumption)
           have q32 : (x5_2 : Int) < ((x152001_2.length : Int) : Int) := of_decide_eq_true (by first | (with_reducible assumption) | assumption)
           obtain ⟨go32, co32, eo32, gb32, gl32, cl32, HG32⟩ := Kd.R_form HO_152001.out (by omega)
           (first | cases eo32 | (injection eo32 with ea_ en_ ec_; (first | subst ea_ | (injection ea_ with ea_; subst ea_)); subst ec_; clear en_))
           have GB32 := aM gb32
           have IGB32 : Nonempty _ := ⟨GB32.out⟩
           have GG32 := aM HG32
           clear gb32 gl32 HG32
           obtain ⟨hx32_0, hf32_0⟩ := Kd.R_celln 0 HO_152001.out (x5_2 : Int) p32 q32
           replace p32 := eq_true p32
           replace q32 := eq_true q32
           have HN0_go32 := aM (show g ≠ go32 from by have h_ := IsS69.own_ne HI0.out HO_152001.out (by decide); intro e_; exact h_ (by rw [e_]; rfl))
           have IHN0_go32 : Nonempty _ := ⟨HN0_go32.out⟩
           have HP40 := Kd.R_putn HO_152001.out (x5_2 : Int) (rd y159 t162)
           rw [← Ny165.out] at HP40
           have HQ40 := aM HP40
           clear HP40
           refine norm_ (a' := ?_) ?_ ?_
           rotate_left
           ·simp only [putAll, Act.put, List.setIfInBounds_toArray, List.set_cons_zero, List.set_cons_succ]
            rfl
           refine pure_ (i := 6) (N := some 30) (v := ?_) (a' := ?_) #[true, true, true, true, true, true, true, false, false, false] rfl rfl (any_of HT_.out (by kernel_rfl)) (fun _ _ _ h => h) (Or.inl ⟨by rfl, ?_⟩) ?_ ?_
           rotate_left
           ·intro w'
            go_simp
            with_reducible rfl
           rotate_left
           ·simp only [Act.put, sA, s0, sS, i64_w, i32_w]
            rfl
           refine one_ (i := 7) (N := some 31) #[true, true, true, true, true, true, true, true, false, false] rfl rfl (one_of HT_.out (by kernel_rfl)) (by decide) (fun K hK => ?_)
           (have p164 : 0 ≤ (t162 : Int) := of_decide_eq_true (by first | (with_reducible assumption) | assumption); have q164 : t162 < (y159.length : Int) := of_decide_eq_true (by first | (with_reducible assumption) | assumption); obtain ⟨ad164, e164, hx164_0⟩ := Kd.at_int (Kd.R_reads' HO161.out).2.2 t162 p164 q164; obtain rfl : adz_v160 = ad164 := (by injection e164))
           refine value_ (w1 := ?_) (v := ?_) (by rfl) rfl ?_ ?_
           rotate_left 2
           ·go_simp
            constructor
            ·rfl
            ·rfl
           clear hx164_0
           refine hK.out _ _ (cz3 BK151.out) (fun hHeld => ?_)
           clear hK K
           refine norm_ (a' := ?_) ?_ ?_
           rotate_left
           ·show Act.put _ (some 31) _ = _
            simp only [Act.put, sA, s0, sS, i64_w, i32_w]
            rfl
           refine pure_ (i := 8) (N := some 32) (v := ?_) (a' := ?_) #[true, true, true, true, true, true, true, true, true, false] rfl rfl (any_of HT_.out (by kernel_rfl)) (fun _ _ _ h => h) (Or.inl ⟨by rfl, ?_⟩) ?_ ?_
           rotate_left
           ·intro w'
            go_simp
            with_reducible rfl
           rotate_left
           ·simp only [Act.put, sA, s0, sS, i64_w, i32_w]
            rfl
           refine last_ (i := 9) (N := none) #[true, true, true, true, true, true, true, true, true, true] rfl rfl (one_of HT_.out (by kernel_rfl)) (by decide) (fun K hK => ?_)
           refine skip_ (w1 := ?_) (by rfl) rfl ?_ ?_
           rotate_left
           ·go_simp
            rfl
           refine hK.out _ _ ?_
           clear hK K
           refine done_ (done_of HT_.out (by kernel_rfl)) ?_
           try go_wp2
           go_roundg k2
           case measure => have := HK1.out; have := HK2.out; omega
           case rel => exact ⟨(wrap64 (x5_2 + 1)), (t163), (x152000_2), (y165), (u152000), (.slice (some ⟨go32, 0, none⟩) x152001_2.length co32), (by first | rfl | (simp; done) | (simp [*]; done)), H', ⟨by have := HK1.out; have := HK2.out; omega⟩, ⟨by exact lR <| Kd.R_mono (Kd.R_far (p := ⟨go32, (x5_2 : Int).toNat, none⟩) (Kd.R_mono HO_152000.out (fun k_ hk => (⟨hk, fun e_ => hk.2 (by rw [e_]; rfl)⟩ : _ ∧ k_ ≠ go32))) (fun _ hk => hk.2) (.int .i64 (rd y159 t162))) (fun _ hk => hk.1.2)⟩, ⟨by exact lR <| Kd.R_mono HQ40.out (fun _ hk => hk.2)⟩, ⟨by (with_reducible repeat first | refine kN ?_ _ | refine kD ?_ | refine kA ?_ _); refine blk_far ?_ (by have h_ := Kd.R_ne HO_152001.out BK143.out (by decide); intro e_; exact h_ (by rw [e_]; rfl)) _; exact lK <| BK143.out⟩, ⟨by (with_reducible repeat first | refine kN ?_ _ | refine kD ?_ | refine kA ?_ _); refine blk_far ?_ (by have h_ := Kd.R_ne HO_152001.out BK151.out (by decide); intro e_; exact h_ (by rw [e_]; rfl)) _; exact lK <| BK151.out⟩, ⟨by exact IsS69.j HI0.out⟩, ⟨by exact jK HK.out⟩, ⟨by repeat (first | (with_reducible first | exact HB.out | apply below_alloc | apply pw_below_drewN | apply below_drew1 | refine below_set ?_ (Nat.le_trans HL.out GB32.out) | refine below_set ?_ (IsS69.ge HI0.out) | refine below_set ?_ GE143.out | refine below_set ?_ GE151.out) | exact HB.out)⟩⟩
          ·rw [if_neg c31] at H
           exact absurd H (by simp)
         ·rw [if_neg c30] at H
          exact absurd H (by simp)
        ·rw [if_neg c29] at H
         exact absurd H (by simp)
       ·rw [if_neg c28] at H
        exact absurd H (by simp)
      ·rw [if_neg c26] at H
       have c26b0 := decide_eq_false c26
       clear c26
       obtain ⟨y166, hy166⟩ : ∃ y_ : List Int, y_ = (([0, 0, 1, (-1), 5, (-5), 20, (-20)] : List Int)) := ⟨_, rfl⟩
       try rw [← hy166] at H
       try dsimp only [Option.bind_some] at H
       have Ny166 := aM hy166
       clear hy166
       obtain ⟨⟨t169, t170⟩, A41, H⟩ := bS H
       try dsimp only at H
       by_cases c42 : 0 ≤ t169
       ·rw [if_pos c42] at H
        have c42b0 := decide_eq_true c42
        clear c42
        by_cases c43 : t169 < (y166.length : Int)
        ·rw [if_pos c43] at H
         have c43b0 := decide_eq_true c43
         clear c43
         simp only [Option.some.injEq, Prod.mk.injEq] at H
         obtain ⟨rfl, rfl, rfl, rfl⟩ := H
         go_wp2_with (first | ((with_reducible refine gate_dst (N := 33) rfl ?_); refine Kd.R_lit (Kd.int .i64) _ 3 ?hg (N := 33) ?hd (xs := ([0, 0, 1, (-1), 5, (-5), 20, (-20)] : List Int)) (inner := [.int .i64 0, .int .i64 0, .int .i64 1, .int .i64 (-1), .int .i64 5, .int .i64 (-5), .int .i64 20, .int .i64 (-20)]) (ok := fun _ => True) (okp := fun _ => True) ?hr ?hp (fun _ hk => hk) trivial (Below.refl _ _) (Nat.le_refl _) (by simp) ?_; (case hd => rfl); (case hg => rfl); (case hr => first | (go_simp; done) | (go_simp; rfl)); (case hp => exact (Reps.one (show Kd.M (Kd.int .i64) _ _ _ 0 [.int .i64 0] from rfl) (Reps.one (show Kd.M (Kd.int .i64) _ _ _ 0 [.int .i64 0] from rfl) (Reps.one (show Kd.M (Kd.int .i64) _ _ _ 1 [.int .i64 1] from rfl) (Reps.one (show Kd.M (Kd.int .i64) _ _ _ (-1) [.int .i64 (-1)] from rfl) (Reps.one (show Kd.M (Kd.int .i64) _ _ _ 5 [.int .i64 5] from rfl) (Reps.one (show Kd.M (Kd.int .i64) _ _ _ (-5) [.int .i64 (-5)] from rfl) (Reps.one (show Kd.M (Kd.int .i64) _ _ _ 20 [.int .i64 20] from rfl) (Reps.one (show Kd.M (Kd.int .i64) _ _ _ (-20) [.int .i64 (-20)] from rfl) (Reps.none _ _)))))))))); intro v167 w44 ho45 hb hg_ hnew_; clear hg_ hnew_; (first | rw [← Ny166.out] at ho45 | (simp only [Int.reduceToNat] at ho45; rw [← Ny166.out] at ho45)); have HO168 := aM (Kd.R_lower (Kd.R_new' (Kd.R_new' ho45 (rl HO_152000.out)) (rl HO_152001.out)) (keep_size (w := w) (g := g) (row := none) (by exact jK HK.out))); replace HO_152000 := aM (Kd.R_elder' (by exact lR HO_152000.out) (Kd.R_base ho45) hb); replace HO_152001 := aM (Kd.R_elder' (by exact lR HO_152001.out) (Kd.R_base ho45) hb); replace BK143 := aM (bb BK143.out hb); replace BK151 := aM (bb BK151.out hb); replace HI0 := aM (IsS69.below (by exact IsS69.j HI0.out) hb); replace HK := aM (kbl HK.out hb); replace HB := aM (bj HB.out hb); clear hb ho45) | ((with_reducible refine gate_callee (f := 20) rfl ?_); refine gL (some 35) Try.func20 #[.pointer (some ⟨g, 0, none⟩), .int .i64 8] ?_; (with_reducible refine (spec_l20Rd_pick.calls k2 g s0_0 x1001_2 8 t169 t170 w0 _ ?side1 ?side2 A41.out).mono ?_); (case side1 => exact IsS69.j HI0.out); (case side2 => exact jB HB.out); rintro e w46 ⟨rfl, hi, hb, hk⟩; refine ⟨_, rfl, ?_⟩; replace HO_152000 := aM (IsS69.kp (f1 := x1001_2) (by exact IsS69.j HI0.out) (lR HO_152000.out) hk); replace HO_152001 := aM (IsS69.kp (f1 := x1001_2) (by exact IsS69.j HI0.out) (lR HO_152001.out) hk); replace BK143 := aM (kb hk BK143.out NB143_0.out); replace BK151 := aM (kb hk BK151.out NB151_0.out); replace HO168 := aM (IsS69.kp (f1 := x1001_2) (by exact IsS69.j HI0.out) (lR HO168.out) hk); replace HK := aM (kt HK.out hk); replace HB := aM (hb); replace HI0 := aM (hi); (try clear hb hk hi); obtain ⟨Ao47, co47, eo47⟩ := Kd.R_slice HO168.out; subst eo47; have p171 : 0 ≤ (t169 : Int) := of_decide_eq_true (by first | (with_reducible assumption) | assumption); have q171 : t169 < (y166.length : Int) := of_decide_eq_true (by first | (with_reducible assumption) | assumption); obtain ⟨ad171, e171, hx171_0⟩ := Kd.at_int (Kd.R_reads' HO168.out).2.2 t169 p171 q171; cases e171; replace p171 := eq_true p171; replace q171 := eq_true q171; have hnb48 := NB151_143.out; have hnc48 := NB143_151.out; have hnb49 := NB151_0.out; have hnc49 := NB0_151.out; obtain ⟨hcz50_0, hcz50_1, hcz50_2, hfz50_0, hfz50_1, hfz50_2⟩ := cf3 BK151.out; obtain ⟨Ao51, co51, eo51⟩ := Kd.R_slice HO_152000.out; subst eo51; have hnb52 := NB143_0.out; have hnc52 := NB0_143.out; obtain ⟨hcz53_0, hcz53_1, hcz53_2, hfz53_0, hfz53_1, hfz53_2⟩ := cf3 BK143.out; obtain ⟨Ao54, co54, eo54⟩ := Kd.R_slice HO_152001.out; subst eo54))
         refine bodyPost_ret (results_cell_row rfl _ _ gb143 43 #[.slice Ao51 x152000_2.length co51, .slice Ao54 x152001_2.length co54, .int .i64 (rd y166 t169)] (0, 0) _ rfl (by (with_reducible repeat first | refine kN ?_ _ | refine kD ?_ | refine kA ?_ _); refine blk_put (cs := #[.slice Ao51 x152000_2.length co51, .slice Ao54 x152001_2.length co54, .int .i64 0]) ?_ 2 _ rfl; (with_reducible repeat first | refine kN ?_ _ | refine kD ?_ | refine kA ?_ _); refine blk_put (cs := #[.slice Ao51 x152000_2.length co51, .slice none 0 0, .int .i64 0]) ?_ 1 _ rfl; (with_reducible repeat first | refine kN ?_ _ | refine kD ?_ | refine kA ?_ _); refine blk_put (cs := #[.slice none 0 0, .slice none 0 0, .int .i64 0]) ?_ 0 _ rfl; (with_reducible repeat first | refine kN ?_ _ | refine kD ?_ | refine kA ?_ _); refine blk_far ?_ NB143_151.out _; exact lK BK143.out) Try.underlying43 rfl (by kernel_rfl)) rfl ?_
         exact ⟨_, _, er, by exact lR <| Kd.R_mono (Kd.R_far (p := ⟨gb143, 2, none⟩) (Kd.R_far (p := ⟨gb143, 1, none⟩) (Kd.R_far (p := ⟨gb143, 0, none⟩) (Kd.R_far (p := ⟨gb151, 2, none⟩) (Kd.R_types (Kd.R_types HO_152000.out BK151.out (by decide)) BK143.out (by decide)) (fun _ hk => by first | exact hk.1.2 | exact fun e_ => hk.1.2 (e_.trans (ob _ _ _ _))) (.int .i64 (rd y166 t169))) (fun _ hk => by first | exact hk.2 | exact fun e_ => hk.2 (e_.trans (ob _ _ _ _))) (.slice Ao51 x152000_2.length co51)) (fun _ hk => by first | exact hk.2 | exact fun e_ => hk.2 (e_.trans (ob _ _ _ _))) (.slice Ao54 x152001_2.length co54)) (fun _ hk => by first | exact hk.2 | exact fun e_ => hk.2 (e_.trans (ob _ _ _ _))) (.int .i64 (rd y166 t169))) (fun _ hk => by first | exact hk.1.1.1 | exact fun e_ => hk.1.1.1 (e_.trans (ob _ _ _ _))), by exact lR <| Kd.R_mono (Kd.R_far (p := ⟨gb143, 2, none⟩) (Kd.R_far (p := ⟨gb143, 1, none⟩) (Kd.R_far (p := ⟨gb143, 0, none⟩) (Kd.R_far (p := ⟨gb151, 2, none⟩) (Kd.R_types (Kd.R_types HO_152001.out BK151.out (by decide)) BK143.out (by decide)) (fun _ hk => by first | exact hk.1.2 | exact fun e_ => hk.1.2 (e_.trans (ob _ _ _ _))) (.int .i64 (rd y166 t169))) (fun _ hk => by first | exact hk.2 | exact fun e_ => hk.2 (e_.trans (ob _ _ _ _))) (.slice Ao51 x152000_2.length co51)) (fun _ hk => by first | exact hk.2 | exact fun e_ => hk.2 (e_.trans (ob _ _ _ _))) (.slice Ao54 x152001_2.length co54)) (fun _ hk => by first | exact hk.2 | exact fun e_ => hk.2 (e_.trans (ob _ _ _ _))) (.int .i64 (rd y166 t169))) (fun _ hk => by first | exact hk.1.1.1 | exact fun e_ => hk.1.1.1 (e_.trans (ob _ _ _ _))), by exact IsS69.j HI0.out, by exact jB HB.out, by exact jK HK.out⟩
        ·rw [if_neg c43] at H
         exact absurd H (by simp)
       ·rw [if_neg c42] at H
        exact absurd H (by simp)

end Go.Proofs.Ytgalnmgkcdmnkaa.QFnPlnHome

-- shorter
