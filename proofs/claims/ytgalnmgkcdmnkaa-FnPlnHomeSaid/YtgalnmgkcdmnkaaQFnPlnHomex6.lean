/- Plain functions, and that the Go code computes them: written by a program of this session over the seat's translation; the conditions stand in each theorem. -/
import Derived.Test.YtgalnmgkcdmnkaaQFnPlnHomex0
import Derived.Test.YtgalnmgkcdmnkaaQFnPlnHomex1
import Derived.Test.YtgalnmgkcdmnkaaQFnPlnHomex5
namespace Go.Proofs.Ytgalnmgkcdmnkaa.QFnPlnHome
open Go.RowKit Go.Proofs.YtgalnmgkcdmnkaaW.PrintWords Go.Proofs.YtgalnmgkcdmnkaaW.PrintLast Go.Proofs.YtgalnmgkcdmnkaaW.PrintMore Go.Proofs.Ytgalnmgkcdmnkaa.HWords
attribute [local go_sem] max2_int min2_int max_two min_two max_three min_three max_four min_four   -- for this text's walks alone
set_option linter.unusedVariables false
set_option linter.unusedSimpArgs false

/-! ### spec_l20Acts: function 60 -/
def spec_l20Acts.l0 : Nat → List (List (S45)) → Int → List Int → Int → Option ((List (List (S45))) × Int)
 | 0, _, _, _, _ => none
 | k + 1, x3, x4, x1000, x1001 => if x4 > 0 then ((spec_l20Act.f k x1000 x1001).bind fun bt383 => (if x3.length < 5864062014805 then (spec_l20Acts.l0 k (x3 ++ [bt383.1]) (wrap64 (x4 - 1)) x1000 bt383.2) else (none))) else (some (x3, x1001))
def spec_l20Acts.f (k : Nat) (s0_0 : List Int) (s0_1 : Int) : Option ((List (List (S45))) × Int) := (spec_l20Rd_pick.f k s0_0 s0_1 4).bind fun bt381 => (spec_l20Acts.l0 k (([] : List (List (S45)))) (wrap64 (1 + bt381.1)) s0_0 bt381.2)
theorem spec_l20Acts.mono_l : ∀ k, (∀ y0 y1 y2 y3, LeO (spec_l20Acts.l0 k y0 y1 y2 y3) (spec_l20Acts.l0 (k + 1) y0 y1 y2 y3))
 | 0 => fun _ _ _ _ r h => by simp [spec_l20Acts.l0] at h
 | k + 1 => by
  have ih0 := spec_l20Acts.mono_l k
  ·intro y0 y1 y2 y3
   unfold spec_l20Acts.l0
   repeat' first
   | (with_reducible exact ih0 _ _ _ _)
   | (with_reducible exact spec_l20Act.mono _ _ _)
   | (with_reducible exact spec_l20Rd_pick.mono _ _ _ _)
   | (with_reducible exact LeO.refl _)
   | (with_reducible exact LeO.none _)
   | (with_reducible refine LeO.ite ?_ ?_)
   | (with_reducible refine LeO.bind ?_ (fun _ => ?_))
   | exact LeO.none _
   | refine LeO.ite ?_ ?_
   | refine LeO.bind ?_ (fun _ => ?_)
theorem spec_l20Acts.mono : ∀ a0 a1 k, LeO (spec_l20Acts.f k a0 a1) (spec_l20Acts.f (k + 1) a0 a1) := by
 intro a0 a1 k
 have ih0 := spec_l20Acts.mono_l k
 unfold spec_l20Acts.f
 repeat' first
   | (with_reducible exact ih0 _ _ _ _)
   | (with_reducible exact spec_l20Act.mono _ _ _)
   | (with_reducible exact spec_l20Rd_pick.mono _ _ _ _)
   | (with_reducible exact LeO.refl _)
   | (with_reducible exact LeO.none _)
   | (with_reducible refine LeO.ite ?_ ?_)
   | (with_reducible refine LeO.bind ?_ (fun _ => ?_))
   | exact LeO.none _
   | refine LeO.ite ?_ ?_
   | refine LeO.bind ?_ (fun _ => ?_)
set_option maxHeartbeats 8000000 in
set_option maxRecDepth 100000 in
theorem spec_l20Acts.calls (k : Nat) (g : Nat) (s0_0 : List Int) (s0_1 : Int) (r1 : List (List (S45))) (r2 : Int) (w0 w : World) (hI : IsS69 w0 w g s0_0 s0_1) (hB : Below w0.heap.size w0 w) (h : spec_l20Acts.f k s0_0 s0_1 = some (r1, r2)) :
  Calls Try.prog 60 #[.pointer (some ⟨g, 0, none⟩)] w fun e w' => ∃ v0_ : Value, e = .returned (v0_) ∧ Kd.N (Kd.slice 45 k45) 33 w' w.heap.size (fun k_ => (w.heap.size ≤ k_)) v0_ r1 ∧ IsS69 w0 w' g s0_0 r2 ∧ Below w0.heap.size w0 w' ∧ KeepBut w w' g none := by
 have HI0 := aM hI
 have IHI0 : Nonempty _ := ⟨IsS69.ge hI⟩
 have HK := aM (KeepBut.refl w g none)
 have HL := aM hB.size
 clear hI
 have HW0 := aM hB.size
 have HB := aM hB
 clear hB
 have H : ((spec_l20Rd_pick.f k s0_0 s0_1 4).bind fun bt381 => (spec_l20Acts.l0 k (([] : List (List (S45)))) (wrap64 (1 + bt381.1)) s0_0 bt381.2)) = some (r1, r2) := h
 clear h
 obtain ⟨y378, hy378⟩ : ∃ y_ : List (List (S45)), y_ = (([] : List (List (S45)))) := ⟨_, rfl⟩
 replace H : ((spec_l20Rd_pick.f k s0_0 s0_1 4).bind fun bt381 => (spec_l20Acts.l0 k y378 (wrap64 (1 + bt381.1)) s0_0 bt381.2)) = some (r1, r2) := by first | (rw [hy378]; exact H) | exact H
 have Ny378 := aM hy378
 clear hy378
 obtain ⟨⟨t381, t382⟩, A2, H⟩ := bS H
 try dsimp only at H
 have H' := aM H
 clear H
 go_enter Try.func60, Try.ntmps60
 go_wp2_with (first | ((with_reducible refine gate_dst (N := 5) rfl ?_); refine Kd.N_lit (Kd.slice 45 k45) _ 33 ?hg (N' := 5) ?hd (xs := ([] : List (List (S45)))) (inner := []) (ok := (fun k_ => (w.heap.size ≤ k_) ∧ k_ ≠ g)) (okp := (fun k_ => (w.heap.size ≤ k_) ∧ k_ ≠ g)) ?hr ?hp (fun _ hk => hk) ((show ∀ k_, w.heap.size ≤ k_ → (fun k_ => (w.heap.size ≤ k_) ∧ k_ ≠ g) k_ from fun k_ hk => ⟨(Nat.le_trans (keep_size (w := w) (g := g) (row := none) (by exact jK HK.out)) hk), IsS69.fresh (by exact IsS69.j HI0.out) k_ hk⟩) _ (Nat.le_refl _)) (Below.refl _ _) (Nat.le_refl _) (by simp) ?_; (case hd => rfl); (case hg => rfl); (case hr => first | (go_simp; done) | (go_simp; rfl)); (case hp => exact (Reps.none _ _)); intro v379 w3 ho4 hb hg_ hnew_; clear hg_ hnew_; (first | rw [← Ny378.out] at ho4 | (simp only [Int.reduceToNat] at ho4; rw [← Ny378.out] at ho4)); have HO380 := aM (Kd.N_lower ho4 (keep_size (w := w) (g := g) (row := none) (by exact jK HK.out))); replace HI0 := aM (IsS69.below (by exact IsS69.j HI0.out) hb); replace HK := aM (kbl HK.out hb); replace HB := aM (bj HB.out hb); clear hb ho4) | ((with_reducible refine gate_callee (f := 20) rfl ?_); refine gL (some 7) Try.func20 #[.pointer (some ⟨g, 0, none⟩), .int .i64 4] ?_; (with_reducible refine (spec_l20Rd_pick.calls k g s0_0 s0_1 4 t381 t382 w0 _ ?side1 ?side2 A2.out).mono ?_); (case side1 => exact IsS69.j HI0.out); (case side2 => exact jB HB.out); rintro e w5 ⟨rfl, hi, hb, hk⟩; refine ⟨_, rfl, ?_⟩; replace HO380 := aM (Kd.N_mono (Kd.N_keep (Kd.N_mono (ok := fun k_ => (((w.heap.size ≤ k_)) ∧ k_ ≠ g)) (by exact lN <| HO380.out) (fun k_ hk_ => (⟨hk_, hk_.2⟩ : _ ∧ k_ ≠ g))) hk (fun _ h => h.2)) (fun _ h => h.1)); replace HK := aM (kt HK.out hk); replace HB := aM (hb); replace HI0 := aM (hi); (try clear hb hk hi)))
 go_loopg [3, 4] k (fun kq v3 v4 w' => ∃ (x3_1 : List (List (S45))) (x4_1 : Int) (x1001_1 : Int), v4 = .int .i64 x4_1 ∧ Aside0 (spec_l20Acts.l0 kq x3_1 x4_1 s0_0 x1001_1 = some (r1, r2)) ∧ Aside0 (kq ≤ k) ∧ Aside0 (Kd.N (Kd.slice 45 k45) 33 w' w.heap.size (fun k_ => (w.heap.size ≤ k_) ∧ k_ ≠ g) v3 x3_1) ∧ Aside0 (IsS69 w0 w' g s0_0 x1001_1) ∧ Aside0 (KeepBut w w' g none) ∧ Aside0 (Below w0.heap.size w0 w'))
 case atStart => exact ⟨(y378), (wrap64 (1 + t381)), (t382), (by first | rfl | (simp; done) | (simp [*]; done)), H', ⟨Nat.le_refl _⟩, ⟨by exact lN <| HO380.out⟩, ⟨by exact IsS69.j HI0.out⟩, ⟨by exact jK HK.out⟩, ⟨by exact jB HB.out⟩⟩
 case round =>
  clear H'
  try clear c2
  try clear p2
  obtain ⟨x3_1, x4_1, x1001_1, rfl, HA, HK1, HO_3, HI0, HK, HB⟩ := hrel
  cases gk with
  | zero => exact absurd HA.out (by simp [spec_l20Acts.l0])
  | succ k1 =>
   have H := HA.out
   clear HA
   simp only [spec_l20Acts.l0] at H
   by_cases c6 : x4_1 > 0
   ·rw [if_pos c6] at H
    have c6b0 := decide_eq_true c6
    clear c6
    obtain ⟨⟨t383, t386⟩, A7, H⟩ := bS H
    try dsimp only at H
    by_cases c8 : x3_1.length < 5864062014805
    ·rw [if_pos c8] at H
     have LMc8 := aM c8
     clear c8
     obtain ⟨y387, hy387⟩ : ∃ y_ : List (List (S45)), y_ = (x3_1 ++ [t383]) := ⟨_, rfl⟩
     try rw [← hy387] at H
     try dsimp only [Option.bind_some] at H
     have Ny387 := aM hy387
     clear hy387
     have H' := aM H
     clear H
     go_wp2_with (first | ((with_reducible refine gate_callee (f := 53) rfl ?_); refine gL (some 15) Try.func53 #[.pointer (some ⟨g, 0, none⟩)] ?_; (with_reducible refine (spec_l20Act.calls k1 g s0_0 x1001_1 t383 t386 w0 _ ?side1 ?side2 A7.out).mono ?_); (case side1 => exact IsS69.j HI0.out); (case side2 => exact jB HB.out); rintro e w9 ⟨v384, rfl, ho0, hi, hb, hk⟩; refine ⟨_, rfl, ?_⟩; have HO385 := aM (Kd.N_lower (Kd.N_mono (ok' := fun k_ => (w.heap.size ≤ k_) ∧ some k_ ≠ (u3 : Value).ownBlock ∧ k_ ≠ g) ho0 (fun k_ hk_ => ⟨(Nat.le_trans (keep_size (w := w) (g := g) (row := none) (by exact jK HK.out)) hk_), (Kd.fresh' (Kd.N_lt (by exact lN <| HO_3.out)) k_ hk_), (IsS69.fresh (by exact IsS69.j HI0.out) k_ hk_)⟩)) (keep_size (w := w) (g := g) (row := none) (by exact jK HK.out))); replace HO_3 := aM (Kd.N_mono (Kd.N_told (Kd.N_oldK (Kd.N_mono (ok := fun k_ => (((w.heap.size ≤ k_)) ∧ k_ ≠ g)) (by exact lN <| HO_3.out) (fun k_ hk_ => (⟨hk_, hk_.2⟩ : _ ∧ k_ ≠ g))) hk) (Kd.N_base ho0)) (fun _ h_ => h_.1)); replace HK := aM (kt HK.out hk); replace HB := aM (hb); replace HI0 := aM (hi); (try clear hb hk hi); (try clear ho0); obtain ⟨Ao11, co11, eo11⟩ := Kd.N_slice HO385.out; subst eo11) | ((with_reducible refine gate_builtin (b := .append) (xs := #[.tmp 13, .tmp 16]) rfl ?_); at_builtin; refine Kd.N_append (Kd.slice 45 k45) w.heap.size rfl (.tmp 13) (.tmp 16) 23 33 (.slice none 0 0) 24 rfl Try.underlying23 info33 rfl (by decide) (by omega) u3 x3_1 t383 [.slice Ao11 t383.length co11] (fun k_ => (w.heap.size ≤ k_) ∧ k_ ≠ g) (fun k_ => ((fun k_ => (w.heap.size ≤ k_) ∧ k_ ≠ g)) k_ ∧ some k_ ≠ (u3 : Value).ownBlock) rfl rfl ?aP (fun _ hk => hk) ?aF ?aO (Below.refl _ _) ?aS ?aL ?_; (case aP => exact (Kd.FK_slice_mk (Kd.N_reads' (Kd.N_mono (ok' := (fun k_ => ((fun k_ => (w.heap.size ≤ k_) ∧ k_ ≠ g)) k_ ∧ some k_ ≠ (u3 : Value).ownBlock)) (HO385.out) (fun k_ hk => ⟨⟨hk.1, hk.2.2⟩, hk.2.1⟩))).2.1 (Kd.N_F (Kd.N_mono (ok' := (fun k_ => ((fun k_ => (w.heap.size ≤ k_) ∧ k_ ≠ g)) k_ ∧ some k_ ≠ (u3 : Value).ownBlock)) (HO385.out) (fun k_ hk => ⟨⟨hk.1, hk.2.2⟩, hk.2.1⟩))))); (case aF => exact (fun k_ hk => ⟨(Nat.le_trans (keep_size (w := w) (g := g) (row := none) (by exact jK HK.out)) hk), IsS69.fresh (by exact IsS69.j HI0.out) k_ hk⟩)); (case aO => exact (by exact lN <| Kd.N_mono HO_3.out (fun _ hk => ⟨hk.1.1, hk.1.2⟩))); (case aS => exact (keep_size (w := w) (g := g) (row := none) (by exact jK HK.out))); (case aL => have := LMc8.out; omega); intro v388 w10 ho hb hg hat; rw [← Ny387.out] at ho; replace HI0 := aM (IsS69.grown (by exact IsS69.j HI0.out) hg (IsS69.own_neN HI0.out HO_3.out (by decide))); replace HB := aM (below_weaken (by exact jB HB.out) HL.out hb); replace HK := aM (KeepBut.trans (by exact jK HK.out) (KeepBut.of_grown hg g) (Kd.N_base2 HO_3.out)); have HO389 := aM (ho); clear HO_3 HO385 ho hb hg hat))
     go_roundg k1
     case measure => have := HK1.out; omega
     case rel => exact ⟨(y387), (wrap64 (x4_1 - 1)), (t386), (by first | rfl | (simp; done) | (simp [*]; done)), H', ⟨by have := HK1.out; omega⟩, ⟨by exact lN <| HO389.out⟩, ⟨by exact IsS69.j HI0.out⟩, ⟨by exact jK HK.out⟩, ⟨by exact jB HB.out⟩⟩
    ·rw [if_neg c8] at H
     exact absurd H (by simp)
   ·rw [if_neg c6] at H
    have c6b0 := decide_eq_false c6
    clear c6
    simp only [Option.some.injEq, Prod.mk.injEq] at H
    obtain ⟨rfl, rfl⟩ := H
    go_wp2
    go_ret
    exact ⟨_, er, by exact lN <| Kd.N_mono HO_3.out (fun _ hk => hk.1), by exact IsS69.j HI0.out, by exact jB HB.out, by exact jK HK.out⟩

end Go.Proofs.Ytgalnmgkcdmnkaa.QFnPlnHome

-- shorter
