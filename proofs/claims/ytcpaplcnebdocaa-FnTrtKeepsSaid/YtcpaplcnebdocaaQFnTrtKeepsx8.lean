/- Plain functions, and that the Go code computes them: written by a program of this session over the seat's translation; the conditions stand in each theorem. -/
import Derived.Test.YtcpaplcnebdocaaHW4
import Derived.Test.YtcpaplcnebdocaaQFnTrtKeepsx0
import Derived.Test.YtcpaplcnebdocaaQFnTrtKeepsx1
import Derived.Test.YtcpaplcnebdocaaQFnTrtKeepsx5
import Derived.Test.YtcpaplcnebdocaaQFnTrtKeepsx7
namespace Go.Proofs.Ytcpaplcnebdocaa.QFnTrtKeeps
open Go.RowKit Go.Proofs.YtcpaplcnebdocaaW.PrintWords Go.Proofs.YtcpaplcnebdocaaW.PrintLast Go.Proofs.YtcpaplcnebdocaaW.PrintMore Go.Proofs.Ytcpaplcnebdocaa.HWords
open Value (ownBlock)
attribute [local go_sem] max2_int min2_int max_two min_two max_three min_three max_four min_four   -- for this text's walks alone
set_option maxRecDepth 100000
set_option maxHeartbeats 8000000
set_option linter.unusedVariables false
set_option linter.unusedSimpArgs false
/-! ### spec_RowsOf: function 62 -/
def spec_RowsOf.f (k : Nat) (l0 : List (S100)) : Option ((List (S25))) := (spec_ActOk.f k l0).bind fun t350 => (if t350 = true then ((spec_FrmPot.f 0).bind fun bt354 => ((spec_FrmPot.f 1).bind fun bt361 => ((spec_FrmPot.f 2).bind fun bt368 => ((spec_l3Walk.f k l0 0 (([(⟨bt354.1, bt354.2.1, bt354.2.2⟩ : S34), (⟨bt361.1, bt361.2.1, bt361.2.2⟩ : S34), (⟨bt368.1, bt368.2.1, bt368.2.2⟩ : S34)] : List (S34))) (([] : List (S34))) (([] : List (S34)))).bind fun t384 => (some t384))))) else (some (([] : List (S25)))))
theorem spec_RowsOf.calls (k : Nat) (A0 : Option Addr) (c0 : Nat) (l0 : List (S100)) (r : List (S25)) (w : World) (hr0 : Kd.C k100 w A0 l0.length l0) (hc0 : l0.length ≤ c0) (h : spec_RowsOf.f k l0 = some r) :
  Calls Try.prog 62 #[.slice A0 l0.length c0] w fun e w' => ∃ v0_ : Value, e = .returned (v0_) ∧ Kd.N k25 25 w' w.heap.size (fun k_ => (w.heap.size ≤ k_)) v0_ r ∧ Below w.heap.size w w' := by
 have HR0 := aM hr0; have HC0 := aM hc0; clear hr0 hc0; have HB := aM (Below.refl w.heap.size w); have H : ((spec_ActOk.f k l0).bind fun t350 => (if t350 = true then ((spec_FrmPot.f 0).bind fun bt354 => ((spec_FrmPot.f 1).bind fun bt361 => ((spec_FrmPot.f 2).bind fun bt368 => ((spec_l3Walk.f k l0 0 (([(⟨bt354.1, bt354.2.1, bt354.2.2⟩ : S34), (⟨bt361.1, bt361.2.1, bt361.2.2⟩ : S34), (⟨bt368.1, bt368.2.1, bt368.2.2⟩ : S34)] : List (S34))) (([] : List (S34))) (([] : List (S34)))).bind fun t384 => (some t384))))) else (some (([] : List (S25)))))) = some r := h
 clear h; obtain ⟨t350, A2, H⟩ := bS H
 try dsimp only at H
 by_cases c3 : t350 = true
 ·subst c3; rw [if_pos rfl] at H
  try dsimp only at H
  obtain ⟨⟨t354, t357, t360⟩, A4, H⟩ := bS H
  try dsimp only at H
  obtain ⟨⟨t361, t364, t367⟩, A5, H⟩ := bS H
  try dsimp only at H
  obtain ⟨⟨t368, t371, t374⟩, A6, H⟩ := bS H
  try dsimp only at H
  obtain ⟨y375, Ny375⟩ : ∃ y_ : List (S34), Aside0 (y_ = (([(⟨t354, t357, t360⟩ : S34), (⟨t361, t364, t367⟩ : S34), (⟨t368, t371, t374⟩ : S34)] : List (S34)))) := ⟨_, ⟨rfl⟩⟩
  try rw [← Ny375.out] at H
  try dsimp only [Option.bind_some] at H
  obtain ⟨y378, hy378⟩ : ∃ y_ : List (S34), y_ = (([] : List (S34))) := ⟨_, rfl⟩
  replace H : ((spec_l3Walk.f k l0 0 y375 y378 (([] : List (S34)))).bind fun t384 => (some t384)) = some r := by first | (rw [hy378]; exact H) | exact H
  have Ny378 := aM hy378; clear hy378; obtain ⟨y381, hy381⟩ : ∃ y_ : List (S34), y_ = (([] : List (S34))) := ⟨_, rfl⟩
  replace H : ((spec_l3Walk.f k l0 0 y375 y378 y381).bind fun t384 => (some t384)) = some r := by first | (rw [hy381]; exact H) | exact H
  have Ny381 := aM hy381; clear hy381; obtain ⟨t384, A7, H⟩ := bS H
  try dsimp only at H
  obtain rfl := Option.some.inj H
  go_enter Try.func62, Try.ntmps62
  go_wp2_with (first | (refine gL (some 4) Try.func75 #[.slice A0 l0.length c0] ?_; (with_reducible refine (spec_ActOk.calls k _ _ l0 true _ (by exact lC HR0.out) HC0.out A2.out).mono ?_); rintro e w8 ⟨rfl, hb⟩; refine ⟨_, rfl, ?_⟩; replace HB := aM (bj HB.out hb); (try clear hb)) | (refine gL (some 8) Try.func77 #[.int .i64 0] ?_; (with_reducible refine (spec_FrmPot.calls 0 t354 t357 t360 _ A4.out).mono ?_); rintro e w9 ⟨v355, v358, rfl, ho0, ho1, hb⟩; refine ⟨_, rfl, ?_⟩; have HO356 := aM (nB ho0 HB.out); have HO359 := aM (nB ho1 HB.out); replace HB := aM (bj HB.out hb); clear hb ho0 ho1) | (refine gL (some 9) Try.func77 #[.int .i64 1] ?_; (with_reducible refine (spec_FrmPot.calls 1 t361 t364 t367 _ A5.out).mono ?_); rintro e w10 ⟨v362, v365, rfl, ho0, ho1, hb⟩; refine ⟨_, rfl, ?_⟩; have HO363 := aM (nB2 ho0 HB.out (rl HO356.out) (rl HO359.out)); have HO366 := aM (nB2 ho1 HB.out (rl HO356.out) (rl HO359.out)); replace HO356 := aM (o2 HO356.out hb ho0 ho1); replace HO359 := aM (o2 HO359.out hb ho0 ho1); replace HB := aM (bj HB.out hb); clear hb ho0 ho1) | (refine gL (some 10) Try.func77 #[.int .i64 2] ?_; (with_reducible refine (spec_FrmPot.calls 2 t368 t371 t374 _ A6.out).mono ?_); rintro e w11 ⟨v369, v372, rfl, ho0, ho1, hb⟩; refine ⟨_, rfl, ?_⟩; have HO370 := aM (Kd.R_lower (Kd.R_new' (Kd.R_new' (Kd.R_new' (Kd.R_new' (Kd.R_newM (M := fun k_ => (w.heap.size ≤ k_)) ho0 (bz HB.out) (fun k_ h_ => h_)) (rl HO356.out)) (rl HO359.out)) (rl HO363.out)) (rl HO366.out)) (bz HB.out)); have HO373 := aM (Kd.R_lower (Kd.R_new' (Kd.R_new' (Kd.R_new' (Kd.R_new' (Kd.R_newM (M := fun k_ => (w.heap.size ≤ k_)) ho1 (bz HB.out) (fun k_ h_ => h_)) (rl HO356.out)) (rl HO359.out)) (rl HO363.out)) (rl HO366.out)) (bz HB.out)); replace HO356 := aM (o2 HO356.out hb ho0 ho1); replace HO359 := aM (o2 HO359.out hb ho0 ho1); replace HO363 := aM (o2 HO363.out hb ho0 ho1); replace HO366 := aM (o2 HO366.out hb ho0 ho1); replace HB := aM (bj HB.out hb); clear hb ho0 ho1; obtain ⟨Ao12, co12, rfl⟩ := Kd.R_slice HO356.out; obtain ⟨Ao13, co13, rfl⟩ := Kd.R_slice HO359.out; obtain ⟨Ao14, co14, rfl⟩ := Kd.R_slice HO363.out; obtain ⟨Ao15, co15, rfl⟩ := Kd.R_slice HO366.out; obtain ⟨Ao16, co16, rfl⟩ := Kd.R_slice HO370.out; obtain ⟨Ao17, co17, rfl⟩ := Kd.R_slice HO373.out) | ((with_reducible refine gate_dst (N := 11) rfl ?_); refine Kd.N_lit k34 _ 34 ?hg (N' := 11) ?hd (xs := ([(⟨t354, t357, t360⟩ : S34), (⟨t361, t364, t367⟩ : S34), (⟨t368, t371, t374⟩ : S34)] : List (S34))) (inner := [.slice Ao12 t354.length co12, .slice Ao13 t357.length co13, .int .i64 t360, .slice Ao14 t361.length co14, .slice Ao15 t364.length co15, .int .i64 t367, .slice Ao16 t368.length co16, .slice Ao17 t371.length co17, .int .i64 t374]) (ok := (fun k_ => (w.heap.size ≤ k_))) (okp := (fun k_ => (w.heap.size ≤ k_))) ?hr ?hp (fun _ hk => hk) ((show ∀ k_, w11.heap.size ≤ k_ → (fun k_ => (w.heap.size ≤ k_)) k_ from fun k_ hk => (Nat.le_trans (bz HB.out) hk)) _ (Nat.le_refl _)) (Below.refl _ _) (Nat.le_refl _) (by simp) ?_; (case hd => rfl); (case hg => rfl); (case hr => first | (go_simp; done) | (go_simp; rfl)); (case hp => exact (Reps.c3 (k34_mkR _ _ _ (Kd.R_mono (HO356.out) (fun k_ hk => hk.1.1.1.1.1)) (Kd.R_mono (HO359.out) (fun k_ hk => hk.1.1.1.1.1))) (Reps.c3 (k34_mkR _ _ _ (Kd.R_mono (HO363.out) (fun k_ hk => hk.1.1.1.1.1)) (Kd.R_mono (HO366.out) (fun k_ hk => hk.1.1.1.1.1))) (Reps.c3 (k34_mkR _ _ _ (Kd.R_mono (HO370.out) (fun k_ hk => hk.1.1.1.1.1)) (Kd.R_mono (HO373.out) (fun k_ hk => hk.1.1.1.1.1))) (Reps.none _ _))))); intro v376 w18 ho19 hb hg_ hnew_; clear hg_ hnew_; (first | rw [← Ny375.out] at ho19 | (simp only [Int.reduceToNat] at ho19; rw [← Ny375.out] at ho19)); have HO377 := aM (Kd.N_lower ho19 (bz HB.out)); replace HB := aM (bj HB.out hb); clear HO356 HO359 HO363 HO366 HO370 HO373 hb ho19) | ((with_reducible refine gate_dst (N := 12) rfl ?_); refine Kd.N_lit k34 _ 34 ?hg (N' := 12) ?hd (xs := ([] : List (S34))) (inner := []) (ok := (fun k_ => (w.heap.size ≤ k_) ∧ some k_ ≠ v376.ownBlock)) (okp := (fun k_ => (w.heap.size ≤ k_) ∧ some k_ ≠ v376.ownBlock)) ?hr ?hp (fun _ hk => hk) ((show ∀ k_, w18.heap.size ≤ k_ → (fun k_ => (w.heap.size ≤ k_) ∧ some k_ ≠ v376.ownBlock) k_ from fun k_ hk => ⟨(Nat.le_trans (bz HB.out) hk), Kd.fresh' (Kd.N_lt (by exact lN <| HO377.out)) k_ hk⟩) _ (Nat.le_refl _)) (Below.refl _ _) (Nat.le_refl _) (by simp) ?_; (case hd => rfl); (case hg => rfl); (case hr => first | (go_simp; done) | (go_simp; rfl)); (case hp => exact (Reps.none _ _)); intro v379 w20 ho21 hb hg_ hnew_; clear hg_ hnew_; (first | rw [← Ny378.out] at ho21 | (simp only [Int.reduceToNat] at ho21; rw [← Ny378.out] at ho21)); replace HO377 := aM (Kd.N_elder' (by exact lN <| HO377.out) (Kd.N_base ho21) hb); have HO380 := aM (Kd.N_lower ho21 (bz HB.out)); replace HB := aM (bj HB.out hb); clear hb ho21) | ((with_reducible refine gate_dst (N := 13) rfl ?_); refine Kd.N_lit k34 _ 34 ?hg (N' := 13) ?hd (xs := ([] : List (S34))) (inner := []) (ok := (fun k_ => (w.heap.size ≤ k_) ∧ some k_ ≠ v376.ownBlock ∧ some k_ ≠ v379.ownBlock)) (okp := (fun k_ => (w.heap.size ≤ k_) ∧ some k_ ≠ v376.ownBlock ∧ some k_ ≠ v379.ownBlock)) ?hr ?hp (fun _ hk => hk) ((show ∀ k_, w20.heap.size ≤ k_ → (fun k_ => (w.heap.size ≤ k_) ∧ some k_ ≠ v376.ownBlock ∧ some k_ ≠ v379.ownBlock) k_ from fun k_ hk => ⟨(Nat.le_trans (bz HB.out) hk), Kd.fresh' (Kd.N_lt (by exact lN <| HO377.out)) k_ hk, Kd.fresh' (Kd.N_lt (by exact lN <| HO380.out)) k_ hk⟩) _ (Nat.le_refl _)) (Below.refl _ _) (Nat.le_refl _) (by simp) ?_; (case hd => rfl); (case hg => rfl); (case hr => first | (go_simp; done) | (go_simp; rfl)); (case hp => exact (Reps.none _ _)); intro v382 w22 ho23 hb hg_ hnew_; clear hg_ hnew_; (first | rw [← Ny381.out] at ho23 | (simp only [Int.reduceToNat] at ho23; rw [← Ny381.out] at ho23)); replace HO377 := aM (Kd.N_elder' (by exact lN <| HO377.out) (Kd.N_base ho23) hb); replace HO380 := aM (Kd.N_elder' (by exact lN <| HO380.out) (Kd.N_base ho23) hb); have HO383 := aM (Kd.N_lower ho23 (bz HB.out)); replace HB := aM (bj HB.out hb); clear hb ho23; obtain ⟨Ao24, co24, eo24⟩ := Kd.N_slice HO377.out; subst eo24; obtain ⟨Ao25, co25, eo25⟩ := Kd.N_slice HO380.out; subst eo25; obtain ⟨Ao26, co26, eo26⟩ := Kd.N_slice HO383.out; subst eo26) | (refine gL (some 14) Try.func76 #[.slice A0 l0.length c0, .int .i64 0, .slice Ao24 y375.length co24, .slice Ao25 y378.length co25, .slice Ao26 y381.length co26] ?_; (with_reducible refine (spec_l3Walk.calls k _ _ l0 0 (fun k_ => (((w.heap.size ≤ k_) ∧ some k_ ≠ ownBlock (.slice Ao25 y378.length co25)) ∧ some k_ ≠ ownBlock (.slice Ao26 y381.length co26))) _ _ y375 _ _ y378 (fun k_ => ((w.heap.size ≤ k_) ∧ (some k_ ≠ ownBlock (.slice Ao24 y375.length co24) ∧ some k_ ≠ ownBlock (.slice Ao25 y378.length co25)))) _ _ y381 t384 _ (by exact lC <| (Kd.C_below HR0.out HB.out)) HC0.out (by exact Kd.N_V (HO377.out)) (by exact lC <| (Kd.N_reads' HO380.out).2.2) (by exact (Kd.N_reads' HO380.out).2.1) (by exact Kd.N_V (HO383.out)) A7.out).mono ?_); rintro e w27 ⟨v385, rfl, ho0, hb⟩; refine ⟨_, rfl, ?_⟩; replace HO377 := aM (Kd.N_elder' (by exact lN <| HO377.out) (Kd.N_base ho0) hb); replace HO383 := aM (Kd.N_elder' (by exact lN <| HO383.out) (Kd.N_base ho0) hb); have HO386 := aM (Kd.N_lower (Kd.N_mono (ok' := fun k_ => (w.heap.size ≤ k_) ∧ some k_ ≠ ownBlock (.slice Ao25 y378.length co25)) ho0 (fun k_ hk_ => ⟨Or.elim hk_ (fun hs_ => Or.elim hs_ (fun hs_ => hs_.1.1) (fun hs_ => hs_.1)) (fun hn_ => (Nat.le_trans (bz HB.out) hn_)), Or.elim hk_ (fun hs_ => Or.elim hs_ (fun hs_ => hs_.1.2) (fun hs_ => hs_.2.2)) (fun hn_ => (Kd.fresh' (Kd.N_lt (by exact lN <| HO380.out)) k_ hn_))⟩)) (bz HB.out)); replace HO380 := aM (Kd.N_elder' (by exact lN <| HO380.out) (Kd.N_base ho0) hb); replace HB := aM (bj HB.out hb); clear hb ho0))
  go_ret
  exact ⟨_, er, by exact lN <| Kd.N_mono HO386.out (fun _ hk => hk.1), by exact lB HB.out⟩
 ·replace c3 := Bool.eq_false_iff.mpr c3
  subst c3; rw [if_neg nf] at H
  try dsimp only at H
  obtain ⟨y351, hy351⟩ : ∃ y_ : List (S25), y_ = (([] : List (S25))) := ⟨_, rfl⟩
  replace H : (some y351) = some r := by first | (rw [hy351]; exact H) | exact H
  have Ny351 := aM hy351; clear hy351; obtain rfl := Option.some.inj H
  go_enter Try.func62, Try.ntmps62
  go_wp2_with (first | (refine gL (some 4) Try.func75 #[.slice A0 l0.length c0] ?_; (with_reducible refine (spec_ActOk.calls k _ _ l0 false _ (by exact lC HR0.out) HC0.out A2.out).mono ?_); rintro e w28 ⟨rfl, hb⟩; refine ⟨_, rfl, ?_⟩; replace HB := aM (bj HB.out hb); (try clear hb)) | ((with_reducible refine gate_dst (N := 6) rfl ?_); refine Kd.N_lit k25 _ 25 ?hg (N' := 6) ?hd (xs := ([] : List (S25))) (inner := []) (ok := (fun k_ => (w.heap.size ≤ k_))) (okp := (fun k_ => (w.heap.size ≤ k_))) ?hr ?hp (fun _ hk => hk) ((show ∀ k_, w28.heap.size ≤ k_ → (fun k_ => (w.heap.size ≤ k_)) k_ from fun k_ hk => (Nat.le_trans (bz HB.out) hk)) _ (Nat.le_refl _)) (Below.refl _ _) (Nat.le_refl _) (by simp) ?_; (case hd => rfl); (case hg => rfl); (case hr => first | (go_simp; done) | (go_simp; rfl)); (case hp => exact (Reps.none _ _)); intro v352 w29 ho30 hb hg_ hnew_; clear hg_ hnew_; (first | rw [← Ny351.out] at ho30 | (simp only [Int.reduceToNat] at ho30; rw [← Ny351.out] at ho30)); have HO353 := aM (Kd.N_lower ho30 (bz HB.out)); replace HB := aM (bj HB.out hb); clear hb ho30))
  go_ret
  exact ⟨_, er, by exact lN <| HO353.out, by exact lB HB.out⟩
/-! ### spec_l4Reads: function 82 -/
mutual
def spec_l4Reads.l0 : Nat → List (S34) → List Bool → Int → Option (List Bool)
 | 0, _, _, _ => none
 | k + 1, x1, x5, x6 => if x6 < (x1.length : Int) then (spec_l4Reads.l1 k x1 x5 x6 0) else (some x5)
def spec_l4Reads.l1 : Nat → List (S34) → List Bool → Int → Int → Option (List Bool)
 | 0, _, _, _, _ => none
 | k + 1, x1, x5, x6, x7 => if x7 < 3 then (if 0 ≤ x6 then (if x6 < (x1.length : Int) then (if 0 ≤ x7 then (if x7 < (((rd_T34 x1 x6).f0).length : Int) then (if (rd ((rd_T34 x1 x6).f0) x7) = 0 then (spec_l4Reads.l1 k x1 x5 x6 (wrap64 (x7 + 1))) else (if x7 < (x5.length : Int) then (spec_l4Reads.l1 k x1 (x5.set (x7 : Int).toNat true) x6 (wrap64 (x7 + 1))) else (none))) else (none)) else (none)) else (none)) else (none)) else (spec_l4Reads.l0 k x1 x5 (wrap64 (x6 + 1)))
end
def spec_l4Reads.f (k : Nat) (l0 : List Bool) (l1 : List (S34)) : Option (List Bool) := (some (([] : List Bool) : List Bool)).bind fun y387 => (if y387.length + l0.length < 140737488355328 then (spec_l4Reads.l0 k l1 (y387 ++ l0) 0) else (none))
theorem spec_l4Reads.calls (k : Nat) (A0 : Option Addr) (c0 : Nat) (l0 : List Bool) (A1 : Option Addr) (c1 : Nat) (l1 : List (S34)) (r : List Bool) (w : World) (hr0 : Kd.C Kd.bool w A0 l0.length l0) (hc0 : l0.length ≤ c0) (hr1 : Kd.C k34 w A1 l1.length l1) (hc1 : l1.length ≤ c1) (h : spec_l4Reads.f k l0 l1 = some r) :
  Calls Try.prog 82 #[.slice A0 l0.length c0, .slice A1 l1.length c1] w fun e w' => ∃ v0_ : Value, e = .returned (v0_) ∧ Kd.R Kd.bool 4 w' w.heap.size (fun _ => True) v0_ r ∧ Below w.heap.size w w' := by
 have HR0 := aM hr0; have HC0 := aM hc0; clear hr0 hc0; have HR1 := aM hr1; have HC1 := aM hc1; clear hr1 hc1; have HB := aM (Below.refl w.heap.size w); have H : ((some (([] : List Bool) : List Bool)).bind fun y387 => (if y387.length + l0.length < 140737488355328 then (spec_l4Reads.l0 k l1 (y387 ++ l0) 0) else (none))) = some r := h
 clear h; obtain ⟨y387, hy387⟩ : ∃ y_ : List Bool, y_ = (([] : List Bool)) := ⟨_, rfl⟩
 replace H : (if y387.length + l0.length < 140737488355328 then (spec_l4Reads.l0 k l1 (y387 ++ l0) 0) else (none)) = some r := by first | (rw [hy387]; exact H) | exact H
 have Ny387 := aM hy387; clear hy387; obtain ⟨c3, H⟩ := iN H; have LMc3 := aM c3; clear c3; obtain ⟨y390, Ny390⟩ : ∃ y_ : List Bool, Aside0 (y_ = (y387 ++ l0)) := ⟨_, ⟨rfl⟩⟩
 try rw [← Ny390.out] at H
 try dsimp only [Option.bind_some] at H
 have H' := aM H
 clear H; go_enter Try.func82, Try.ntmps82
 go_wp2_with (first | ((with_reducible refine gate_dst (N := 8) rfl ?_); refine Kd.R_lit Kd.bool _ 4 ?hg (N := 8) ?hd (xs := ([] : List Bool)) (inner := []) (ok := fun _ => True) (okp := fun _ => True) ?hr ?hp (fun _ hk => hk) trivial (Below.refl _ _) (Nat.le_refl _) (by simp) ?_; (case hd => rfl); (case hg => rfl); (case hr => first | (go_simp; done) | (go_simp; rfl)); (case hp => exact (Reps.none _ _)); intro v388 w4 ho5 hb hg_ hnew_; clear hg_ hnew_; (first | rw [← Ny387.out] at ho5 | (simp only [Int.reduceToNat] at ho5; rw [← Ny387.out] at ho5)); have HO389 := aM (Kd.R_lower ho5 (bz HB.out)); replace HB := aM (bj HB.out hb); clear hb ho5) | ((with_reducible refine gate_builtin (b := .append) (xs := #[.tmp 8, .tmp 9]) rfl ?_); at_builtin; refine Kd.R_append_rows Kd.bool (w0 := w) w.heap.size rfl (.tmp 8) (.tmp 9) 89 4 (.bool false) 1 rfl Try.underlying89 info4 rfl (by decide) (by omega) v388 y387 l0 _ _ _ (fun _ => True) (fun _ => False) rfl rfl ?aO ?aR (fun _ _ h => h) (fun _ h => h.elim) ?aF ?aB ?aS ?aL ?_; (case aR => exact lC <| (Kd.C_below HR0.out HB.out)); (case aB => exact (by exact lB HB.out)); (case aF => exact (fun _ _ => trivial)); (case aO => exact (by exact lR HO389.out)); (case aS => exact (bz HB.out)); (case aL => have := LMc3.out; omega); intro v391 w6 ho hb hg hat; rw [← Ny390.out] at ho; replace HB := aM (hb); have HO392 := aM (ho); clear HO389 ho hb hg hat))
 go_loopg [6] k (fun kq v6 w' => ∃ (x5_1 : List Bool) (x6_1 : Int), v6 = .int .i64 x6_1 ∧ Aside0 (spec_l4Reads.l0 kq l1 x5_1 x6_1 = some r) ∧ Aside0 (kq ≤ k) ∧ Aside0 (Kd.R Kd.bool 4 w' w.heap.size (fun _ => True) v391 x5_1) ∧ Aside0 (Below w.heap.size w w'))
 case atStart => exact ⟨(y390), (0), sr, H', ⟨Nat.le_refl _⟩, ⟨by exact lR <| HO392.out⟩, ⟨by exact lB HB.out⟩⟩
 case round =>
  clear H'
  (try clear c1); (try clear p2); (try clear c3)
  obtain ⟨x5_1, x6_1, rfl, HA, HK1, HO_5, HB⟩ := hrel
  cases gk with
  | zero => exact absurd HA.out (by simp [spec_l4Reads.l0])
  | succ k1 =>
   have H := HA.out
   clear HA; simp only [spec_l4Reads.l0] at H
   by_cases c7 : x6_1 < (l1.length : Int)
   ·rw [if_pos c7] at H; have c7b0 := decide_eq_true c7
    clear c7; have H' := aM H
    clear H; go_wp2
    go_loopg [7] k1 (fun kq v7 w' => ∃ (x5_2 : List Bool) (x7_2 : Int), v7 = .int .i64 x7_2 ∧ Aside0 (spec_l4Reads.l1 kq l1 x5_2 x6_1 x7_2 = some r) ∧ Aside0 (kq ≤ k1) ∧ Aside0 (Kd.R Kd.bool 4 w' w.heap.size (fun _ => True) v391 x5_2) ∧ Aside0 (Below w.heap.size w w'))
    case atStart => exact ⟨(x5_1), (0), sr, H', ⟨Nat.le_refl _⟩, ⟨by exact lR <| HO_5.out⟩, ⟨by exact lB HB.out⟩⟩
    case round =>
     clear H'
     (try clear c1); (try clear p2); (try clear c3); (try clear c7); (try clear c7b0)
     obtain ⟨x5_2, x7_2, rfl, HA, HK2, HO_5, HB⟩ := hrel
     cases gk with
     | zero => exact absurd HA.out (by simp [spec_l4Reads.l1])
     | succ k2 =>
      have H := HA.out
      clear HA; simp only [spec_l4Reads.l1] at H
      by_cases c8 : x7_2 < 3
      ·rw [if_pos c8] at H; have c8b0 := decide_eq_true c8
       clear c8; obtain ⟨c9, H⟩ := iD H; obtain ⟨c10, H⟩ := iD H; obtain ⟨c11, H⟩ := iD H; obtain ⟨c12, H⟩ := iN H; have c12b0 := decide_eq_true c12
       clear c12
       by_cases c13 : (rd ((rd_T34 l1 x6_1).f0) x7_2) = 0
       ·rw [if_pos c13] at H; have c13b0 := beq_iff_eq.mpr c13
        have c13b1 := bne_eq_false_iff_eq.mpr c13
        clear c13; have H' := aM H
        clear H; have p393 : 0 ≤ (x6_1 : Int) := od; have q393 : x6_1 < (l1.length : Int) := od; obtain ⟨ad393, A393_0, c393_0, A393_1, c393_1, e393, hx393_0, hx393_1, hx393_2, hl393_0, hi393_0, hl393_1, hi393_1⟩ := at_T34 HR1.out x6_1 p393 q393
        cases e393; replace hx393_0 := cl HB.out hx393_0; replace hx393_1 := cl HB.out hx393_1; replace hx393_2 := cl HB.out hx393_2; have HR393_0 := aM hi393_0; have HC393_0 := aM hl393_0; clear hi393_0 hl393_0; have HR393_1 := aM hi393_1; have HC393_1 := aM hl393_1; clear hi393_1 hl393_1; replace p393 := eq_true p393; replace q393 := eq_true q393; have p394 : 0 ≤ (x7_2 : Int) := od; have q394 : x7_2 < (((rd_T34 l1 x6_1).f0).length : Int) := od; obtain ⟨ad394, e394, hx394_0⟩ := Kd.at_int HR393_0.out x7_2 p394 q394
        cases e394; replace hx394_0 := cl HB.out hx394_0; replace p394 := eq_true p394; replace q394 := eq_true q394; go_wp2
        go_roundg k2
        case measure => have := HK1.out; have := HK2.out; omega
        case rel => exact ⟨(x5_2), (wrap64 (x7_2 + 1)), sr, H', ⟨by have := HK1.out; have := HK2.out; omega⟩, ⟨by exact lR <| HO_5.out⟩, ⟨by exact lB HB.out⟩⟩
       ·rw [if_neg c13] at H; have c13b0 := beq_eq_false_iff_ne.mpr c13
        have c13b1 := bne_iff_ne.mpr c13
        obtain ⟨c14, H⟩ := iD H; obtain ⟨y395, Ny395⟩ : ∃ y_ : List Bool, Aside0 (y_ = (x5_2.set (x7_2 : Int).toNat true)) := ⟨_, ⟨rfl⟩⟩
        try rw [← Ny395.out] at H
        try dsimp only [Option.bind_some] at H
        have H' := aM H
        clear H; have p393 : 0 ≤ (x6_1 : Int) := od; have q393 : x6_1 < (l1.length : Int) := od; obtain ⟨ad393, A393_0, c393_0, A393_1, c393_1, e393, hx393_0, hx393_1, hx393_2, hl393_0, hi393_0, hl393_1, hi393_1⟩ := at_T34 HR1.out x6_1 p393 q393
        cases e393; replace hx393_0 := cl HB.out hx393_0; replace hx393_1 := cl HB.out hx393_1; replace hx393_2 := cl HB.out hx393_2; have HR393_0 := aM hi393_0; have HC393_0 := aM hl393_0; clear hi393_0 hl393_0; have HR393_1 := aM hi393_1; have HC393_1 := aM hl393_1; clear hi393_1 hl393_1; replace p393 := eq_true p393; replace q393 := eq_true q393; have p394 : 0 ≤ (x7_2 : Int) := od; have q394 : x7_2 < (((rd_T34 l1 x6_1).f0).length : Int) := od; obtain ⟨ad394, e394, hx394_0⟩ := Kd.at_int HR393_0.out x7_2 p394 q394
        cases e394; replace hx394_0 := cl HB.out hx394_0; replace p394 := eq_true p394; replace q394 := eq_true q394; have p15 : 0 ≤ (x7_2 : Int) := od; have q15 : (x7_2 : Int) < ((x5_2.length : Int) : Int) := od; obtain ⟨go15, co15, eo15, gb15, gl15, cl15, HG15⟩ := Kd.R_form HO_5.out (by omega)
        (first | cases eo15 | (injection eo15 with ea_ en_ ec_; (first | subst ea_ | (injection ea_ with ea_; subst ea_)); subst ec_; clear en_))
        have GB15 := aM gb15; have IGB15 := wn GB15.out
        have GG15 := aM HG15; clear gb15 gl15 HG15; obtain ⟨hx15_0, hf15_0⟩ := Kd.R_celln false HO_5.out (x7_2 : Int) p15 q15
        replace p15 := eq_true p15; replace q15 := eq_true q15; have HP16 := Kd.R_putg HO_5.out (x7_2 : Int) true
        go_wp2_with (first | ((with_reducible refine gate_store (t := 4) (p := 32) rfl ?_); refine store_event (t := 4) (p := 32) (v := ?vo_w17) (w1 := (wr.setCell ⟨go15, (x7_2 : Int).toNat, none⟩ (.bool true))) ?hg ?ho ?hn ?hr ?_; (case ho => rfl); (case hg => rfl); (case hn => rfl); (case hr => first | (go_simp; done) | (go_simp; rfl)); intro w17 hw; have hg : wr.grownBy w17 (some go15) := (by rw [hw]; exact HP16.2); have hp_ : Kd.R Kd.bool 4 w17 w.heap.size (fun _ => True) (.slice (some ⟨go15, 0, none⟩) x5_2.length co15) y395 := (by rw [hw, Ny395.out]; exact HP16.1); clear HP16; replace HO_5 := aM (hp_); replace HB := aM ((by rw [hw]; exact below_set (HB.out) GB15.out : Below w.heap.size w w17)); clear hg hw hp_))
        go_roundg k2
        case measure => have := HK1.out; have := HK2.out; omega
        case rel => exact ⟨(y395), (wrap64 (x7_2 + 1)), sr, H', ⟨by have := HK1.out; have := HK2.out; omega⟩, ⟨by exact lR <| HO_5.out⟩, ⟨by exact lB HB.out⟩⟩
      ·rw [if_neg c8] at H; have c8b0 := decide_eq_false c8
       clear c8; have H' := aM H
       clear H; go_wp2
       go_roundg k2
       case measure => have := HK1.out; have := HK2.out; omega
       case rel => exact ⟨(x5_2), (wrap64 (x6_1 + 1)), sr, H', ⟨by have := HK1.out; have := HK2.out; omega⟩, ⟨by exact lR <| HO_5.out⟩, ⟨by exact lB HB.out⟩⟩
   ·rw [if_neg c7] at H; have c7b0 := decide_eq_false c7
    clear c7; obtain rfl := Option.some.inj H
    go_wp2
    go_ret
    exact ⟨_, er, by exact lR <| HO_5.out, by exact lB HB.out⟩
/-! ### spec_CatPart: function 83 -/
mutual
def spec_CatPart.l0 : Nat → List Int → Int → Int → List Int → List Int → Int → Option (List Int)
 | 0, _, _, _, _, _, _ => none
 | k + 1, x3, x4, x5, x397000, x397001, x397002 => if x5 < (x397000.length : Int) then (if x4 = 0 then (if 0 ≤ x5 then (spec_CatPart.j1 k x3 x4 x5 (decide ((rd x397000 x5) > 0)) x397000 x397001 x397002) else (none)) else (spec_CatPart.j1 k x3 x4 x5 false x397000 x397001 x397002)) else (some x3)
def spec_CatPart.j1 : Nat → List Int → Int → Int → Bool → List Int → List Int → Int → Option (List Int)
 | 0, _, _, _, _, _, _, _ => none
 | k + 1, x3, x4, x5, x23, x397000, x397001, x397002 => if x23 = true then (if 1 = 0 then (if 0 ≤ x5 then (if x5 < (x397000.length : Int) then (if (rd x397000 x5) < 0 then (if x3.length < 17592186044416 then (spec_CatPart.l0 k (x3 ++ [wrap64 (-(rd x397000 x5))]) (-1) (wrap64 (x5 + 1)) x397000 x397001 x397002) else (none)) else (if x3.length < 17592186044416 then (spec_CatPart.l0 k (x3 ++ [wrap64 ((rd x397000 x5))]) 1 (wrap64 (x5 + 1)) x397000 x397001 x397002) else (none))) else (none)) else (none)) else (if 0 ≤ x5 then (if x5 < (x397000.length : Int) then (if x3.length < 17592186044416 then (spec_CatPart.l0 k (x3 ++ [wrap64 ((rd x397000 x5))]) 1 (wrap64 (x5 + 1)) x397000 x397001 x397002) else (none)) else (none)) else (none))) else (if x4 = 0 then (if 0 ≤ x5 then (if x5 < (x397000.length : Int) then (if (rd x397000 x5) < 0 then (if x3.length < 17592186044416 then (spec_CatPart.l0 k (x3 ++ [wrap64 (-(rd x397000 x5))]) (-1) (wrap64 (x5 + 1)) x397000 x397001 x397002) else (none)) else (if x3.length < 17592186044416 then (spec_CatPart.l0 k (x3 ++ [wrap64 (x4 * (rd x397000 x5))]) x4 (wrap64 (x5 + 1)) x397000 x397001 x397002) else (none))) else (none)) else (none)) else (if 0 ≤ x5 then (if x5 < (x397000.length : Int) then (if x3.length < 17592186044416 then (spec_CatPart.l0 k (x3 ++ [wrap64 (x4 * (rd x397000 x5))]) x4 (wrap64 (x5 + 1)) x397000 x397001 x397002) else (none)) else (none)) else (none)))
end
def spec_CatPart.f (k : Nat) (l0_0 : List Int) (l0_1 : List Int) (a0_2 : Int) : Option (List Int) := spec_CatPart.l0 k (([] : List Int)) 0 0 l0_0 l0_1 a0_2
theorem spec_CatPart.calls (k : Nat) (A0_0 : Option Addr) (c0_0 : Nat) (l0_0 : List Int) (A0_1 : Option Addr) (c0_1 : Nat) (l0_1 : List Int) (a0_2 : Int) (r : List Int) (w : World) (hr0_0 : Kd.C (Kd.int .i64) w A0_0 l0_0.length l0_0) (hc0_0 : l0_0.length ≤ c0_0) (hr0_1 : Kd.C (Kd.int .i64) w A0_1 l0_1.length l0_1) (hc0_1 : l0_1.length ≤ c0_1) (h : spec_CatPart.f k l0_0 l0_1 a0_2 = some r) :
  Calls Try.prog 83 #[.agg #[.slice A0_0 l0_0.length c0_0, .slice A0_1 l0_1.length c0_1, .int .i64 a0_2]] w fun e w' => ∃ v0_ : Value, e = .returned (v0_) ∧ Kd.R (Kd.int .i64) 3 w' w.heap.size (fun _ => True) v0_ r ∧ Below w.heap.size w w' := by
 have hu34 := Try.underlying34; have HR0_0 := aM hr0_0; have HC0_0 := aM hc0_0; clear hr0_0 hc0_0; have HR0_1 := aM hr0_1; have HC0_1 := aM hc0_1; clear hr0_1 hc0_1; have HB := aM (Below.refl w.heap.size w); have H : (spec_CatPart.l0 k (([] : List Int)) 0 0 l0_0 l0_1 a0_2) = some r := h
 clear h; obtain ⟨y397, hy397⟩ : ∃ y_ : List Int, y_ = (([] : List Int)) := ⟨_, rfl⟩
 replace H : (spec_CatPart.l0 k y397 0 0 l0_0 l0_1 a0_2) = some r := by first | (rw [hy397]; exact H) | exact H
 have Ny397 := aM hy397; clear hy397; have H' := aM H
 clear H; go_enter Try.func83, Try.ntmps83
 go_wp2_with (first | ((with_reducible refine gate_dst (N := 1) rfl ?_); refine bx 1 #[.slice A0_0 l0_0.length c0_0, .slice A0_1 l0_1.length c0_1, .int .i64 a0_2] 34 ?_; intro gb396 hg w2 hbox hb; have BK396 := aM (hbox); have GW396 := aM (gz hg HB.out); have IGW396 := wn GW396.out; have GE396 := aM (gz hg HB.out); have IGE396 := wn GE396.out; replace HB := aM (bj HB.out hb); clear hb hbox hg) | ((with_reducible refine gate_dst (N := 6) rfl ?_); refine Kd.R_lit (Kd.int .i64) _ 3 ?hg (N := 6) ?hd (xs := ([] : List Int)) (inner := []) (ok := fun _ => True) (okp := fun _ => True) ?hr ?hp (fun _ hk => hk) trivial (Below.refl _ _) (Nat.le_refl _) (by simp) ?_; (case hd => rfl); (case hg => rfl); (case hr => first | (go_simp; done) | (go_simp; rfl)); (case hp => exact (Reps.none _ _)); intro v398 w3 ho4 hb hg_ hnew_; clear hg_ hnew_; (first | rw [← Ny397.out] at ho4 | (simp only [Int.reduceToNat] at ho4; rw [← Ny397.out] at ho4)); have HO399 := aM (Kd.R_lower ho4 (bz HB.out)); replace BK396 := aM (bb BK396.out hb); replace HB := aM (bj HB.out hb); clear hb ho4))
 go_loopg [3, 4, 5] k (fun kq v3 v4 v5 w' => ∃ (x3_1 : List Int) (x4_1 : Int) (x5_1 : Int), v4 = .int .i64 x4_1 ∧ v5 = .int .i64 x5_1 ∧ Aside0 (spec_CatPart.l0 kq x3_1 x4_1 x5_1 l0_0 l0_1 a0_2 = some r) ∧ Aside0 (kq ≤ k) ∧ Aside0 (Kd.R (Kd.int .i64) 3 w' w.heap.size (fun _ => True) v3 x3_1) ∧ Aside0 (w'.heap[gb396]? = some (.cells #[(.slice A0_0 l0_0.length c0_0), (.slice A0_1 l0_1.length c0_1), .int .i64 a0_2] 34 (0, 0))) ∧ Aside0 (Below w.heap.size w w'))
 case atStart => exact ⟨(y397), (0), (0), sr, sr, H', ⟨Nat.le_refl _⟩, ⟨by exact lR <| HO399.out⟩, ⟨by exact lK <| BK396.out⟩, ⟨by exact jB HB.out⟩⟩
 case round =>
  clear H'
  (try clear p2); obtain ⟨x3_1, x4_1, x5_1, rfl, rfl, HA, HK1, HO_3, BK396, HB⟩ := hrel
  cases gk with
  | zero => exact absurd HA.out (by simp [spec_CatPart.l0])
  | succ k1 =>
   have H := HA.out
   clear HA; simp only [spec_CatPart.l0] at H
   by_cases c5 : x5_1 < (l0_0.length : Int)
   ·rw [if_pos c5] at H; replace c5 := decide_eq_true c5; have HC6 := aM H; clear H; obtain ⟨hcz7_0, hcz7_1, hcz7_2, hfz7_0, hfz7_1, hfz7_2⟩ := cf3 BK396.out
    go_upto_region 6 with (fail)
    go_cut [23] (fun v23 wc => ∃ (kq : Nat) (x23_5 : Bool), v23 = .bool x23_5 ∧ Aside0 (spec_CatPart.j1 kq x3_1 x4_1 x5_1 x23_5 l0_0 l0_1 a0_2 = some r) ∧ Aside0 (kq ≤ k1) ∧ Aside0 (Kd.R (Kd.int .i64) 3 wc w.heap.size (fun _ => True) u3 x3_1) ∧ Aside0 (wc.heap[gb396]? = some (.cells #[(.slice A0_0 l0_0.length c0_0), (.slice A0_1 l0_1.length c0_1), .int .i64 a0_2] 34 (0, 0))) ∧ Aside0 (Below w.heap.size w wc))
    case first =>
     have H := HC6.out
     clear HC6
     by_cases c8 : x4_1 = 0
     ·rw [if_pos c8] at H; have c8b0 := beq_iff_eq.mpr c8
      have c8b1 := bne_eq_false_iff_eq.mpr c8
      clear c8
      (first | rw [c8b0] | (simp only [i64_w, i32_w]; rw [c8b0]) | skip)
      obtain ⟨c9, H⟩ := iD H; have H' := aM H
      clear H; obtain ⟨hcz10_0, hcz10_1, hcz10_2, hfz10_0, hfz10_1, hfz10_2⟩ := cf3 BK396.out
      have p400 : 0 ≤ (x5_1 : Int) := od; have q400 : x5_1 < (l0_0.length : Int) := od; obtain ⟨ad400, e400, hx400_0⟩ := Kd.at_int HR0_0.out x5_1 p400 q400
      cases e400; replace hx400_0 := cl HB.out hx400_0; replace p400 := eq_true p400; replace q400 := eq_true q400; go_wp2
      go_meet
      case rel => exact ⟨_, (decide ((rd l0_0 x5_1) > 0)), sr, H', ⟨by have := HK1.out; first | omega | exact Nat.le_refl _⟩, ⟨by exact lR <| HO_3.out⟩, ⟨by exact lK <| BK396.out⟩, ⟨by exact jB HB.out⟩⟩
     ·rw [if_neg c8] at H; have c8b0 := beq_eq_false_iff_ne.mpr c8
      have c8b1 := bne_iff_ne.mpr c8
      (first | rw [c8b0] | (simp only [i64_w, i32_w]; rw [c8b0]) | skip)
      have H' := aM H
      clear H; go_wp2
      go_meet
      case rel => exact ⟨_, (false), sr, H', ⟨by have := HK1.out; first | omega | exact Nat.le_refl _⟩, ⟨by exact lR <| HO_3.out⟩, ⟨by exact lK <| BK396.out⟩, ⟨by exact jB HB.out⟩⟩
    case rest =>
     clear HC6; (try clear p2); (try clear p4); (try clear q4); (try clear hx4); (try clear c5); (try clear c8); (try clear c8b0); (try clear c8b1); (try clear c9); (try clear hcz10_0); (try clear hcz10_1); (try clear hcz10_2); (try clear hcz7_0); (try clear hcz7_1); (try clear hcz7_2); (try clear hfz10_0); (try clear hfz10_1); (try clear hfz10_2); (try clear hfz7_0); (try clear hfz7_1); (try clear hfz7_2); (try clear hx400_0); (try clear p400); (try clear q400)
     obtain ⟨kq, x23_5, rfl, HA, HJ5, HO_3, BK396, HB⟩ := hcut
     cases kq with
     | zero => exact absurd HA.out (by simp [spec_CatPart.j1])
     | succ kj5 =>
      have H := HA.out
      clear HA; simp only [spec_CatPart.j1] at H
      by_cases c11 : x23_5 = true
      ·subst c11; rw [if_pos rfl] at H
       try dsimp only at H
       by_cases c12 : 1 = 0
       ·exact absurd c12 (by decide)
       ·rw [if_neg c12] at H; have c12b0 := beq_eq_false_iff_ne.mpr c12
        have c12b1 := bne_iff_ne.mpr c12
        obtain ⟨c22, H⟩ := iD H; obtain ⟨c23, H⟩ := iD H; obtain ⟨c24, H⟩ := iN H; have LMc24 := aM c24; clear c24; obtain ⟨y411, Ny411⟩ : ∃ y_ : List Int, Aside0 (y_ = (x3_1 ++ [wrap64 ((rd l0_0 x5_1))])) := ⟨_, ⟨rfl⟩⟩
        try rw [← Ny411.out] at H
        try dsimp only [Option.bind_some] at H
        have H' := aM H
        clear H; obtain ⟨hcz25_0, hcz25_1, hcz25_2, hfz25_0, hfz25_1, hfz25_2⟩ := cf3 BK396.out
        have p410 : 0 ≤ (x5_1 : Int) := od; have q410 : x5_1 < (l0_0.length : Int) := od; obtain ⟨ad410, e410, hx410_0⟩ := Kd.at_int HR0_0.out x5_1 p410 q410
        cases e410; replace hx410_0 := cl HB.out hx410_0; replace p410 := eq_true p410; replace q410 := eq_true q410; go_wp2_with (first | ((with_reducible refine gate_builtin (b := .append) (xs := #[.tmp 34, .tmp 42]) rfl ?_); at_builtin; refine Kd.R_append (Kd.int .i64) (w0 := w) w.heap.size rfl (.tmp 34) (.tmp 42) 26 3 (.int .i64 0) 8 rfl Try.underlying26 info3 rfl (by decide) (by omega) u3 x3_1 (wrap64 ((rd l0_0 x5_1))) [.int .i64 (wrap64 ((rd l0_0 x5_1)))] (fun _ => True) (fun _ => False) rfl rfl ?aP (fun _ hk => hk.elim) ?aF ?aO ?aB ?aS ?aL ?_; (case aP => exact rfl); (case aB => exact (by exact jB HB.out)); (case aF => exact (fun _ _ => trivial)); (case aO => exact (by exact lR HO_3.out)); (case aS => exact (bz HB.out)); (case aL => have := LMc24.out; omega); intro v412 w26 ho hb hg hat; rw [← Ny411.out] at ho; replace BK396 := aM (blk_grown (g := gb396) (lK BK396.out) hg (Kd.R_ne HO_3.out BK396.out (by decide))); replace HB := aM (hb); have HO413 := aM (ho); clear HO_3 ho hb hg hat))
        go_roundg kj5
        case measure => have := HK1.out; have := HJ5.out; omega
        case rel => exact ⟨(y411), (1), (wrap64 (x5_1 + 1)), sr, sr, H', ⟨by have := HK1.out; have := HJ5.out; omega⟩, ⟨by exact lR <| HO413.out⟩, ⟨by exact lK <| BK396.out⟩, ⟨by exact jB HB.out⟩⟩
      ·replace c11 := Bool.eq_false_iff.mpr c11
       subst c11; rw [if_neg nf] at H
       try dsimp only at H
       by_cases c27 : x4_1 = 0
       ·rw [if_pos c27] at H; have c27b0 := beq_iff_eq.mpr c27
        have c27b1 := bne_eq_false_iff_eq.mpr c27
        clear c27; obtain ⟨c28, H⟩ := iD H; obtain ⟨c29, H⟩ := iD H
        by_cases c30 : (rd l0_0 x5_1) < 0
        ·rw [if_pos c30] at H; replace c30 := decide_eq_true c30; obtain ⟨c31, H⟩ := iN H; have LMc31 := aM c31; clear c31; obtain ⟨y416, Ny416⟩ : ∃ y_ : List Int, Aside0 (y_ = (x3_1 ++ [wrap64 (-(rd l0_0 x5_1))])) := ⟨_, ⟨rfl⟩⟩
         try rw [← Ny416.out] at H
         try dsimp only [Option.bind_some] at H
         have H' := aM H
         clear H; obtain ⟨hcz32_0, hcz32_1, hcz32_2, hfz32_0, hfz32_1, hfz32_2⟩ := cf3 BK396.out
         have p414 : 0 ≤ (x5_1 : Int) := od; have q414 : x5_1 < (l0_0.length : Int) := od; obtain ⟨ad414, e414, hx414_0⟩ := Kd.at_int HR0_0.out x5_1 p414 q414
         cases e414; replace hx414_0 := cl HB.out hx414_0; replace p414 := eq_true p414; replace q414 := eq_true q414; have p415 : 0 ≤ (x5_1 : Int) := od; have q415 : x5_1 < (l0_0.length : Int) := od; obtain ⟨ad415, e415, hx415_0⟩ := Kd.at_int HR0_0.out x5_1 p415 q415
         obtain rfl : ad414 = ad415 := (by injection e415)
         replace hx415_0 := cl HB.out hx415_0; replace p415 := eq_true p415; replace q415 := eq_true q415; go_wp2_with (first | ((with_reducible refine gate_builtin (b := .append) (xs := #[.tmp 34, .tmp 42]) rfl ?_); at_builtin; refine Kd.R_append (Kd.int .i64) (w0 := w) w.heap.size rfl (.tmp 34) (.tmp 42) 26 3 (.int .i64 0) 8 rfl Try.underlying26 info3 rfl (by decide) (by omega) u3 x3_1 (wrap64 (-(rd l0_0 x5_1))) [.int .i64 (wrap64 (-(rd l0_0 x5_1)))] (fun _ => True) (fun _ => False) rfl rfl ?aP (fun _ hk => hk.elim) ?aF ?aO ?aB ?aS ?aL ?_; (case aP => exact rfl); (case aB => exact (by exact jB HB.out)); (case aF => exact (fun _ _ => trivial)); (case aO => exact (by exact lR HO_3.out)); (case aS => exact (bz HB.out)); (case aL => have := LMc31.out; omega); intro v417 w33 ho hb hg hat; rw [← Ny416.out] at ho; replace BK396 := aM (blk_grown (g := gb396) (lK BK396.out) hg (Kd.R_ne HO_3.out BK396.out (by decide))); replace HB := aM (hb); have HO418 := aM (ho); clear HO_3 ho hb hg hat))
         go_roundg kj5
         case measure => have := HK1.out; have := HJ5.out; omega
         case rel => exact ⟨(y416), ((-1)), (wrap64 (x5_1 + 1)), sr, sr, H', ⟨by have := HK1.out; have := HJ5.out; omega⟩, ⟨by exact lR <| HO418.out⟩, ⟨by exact lK <| BK396.out⟩, ⟨by exact jB HB.out⟩⟩
        ·rw [if_neg c30] at H; replace c30 := decide_eq_false c30; obtain ⟨c34, H⟩ := iN H; have LMc34 := aM c34; clear c34; obtain ⟨y420, hy420⟩ : ∃ y_ : List Int, y_ = (x3_1 ++ [wrap64 (x4_1 * (rd l0_0 x5_1))]) := ⟨_, rfl⟩
         replace H : (spec_CatPart.l0 kj5 y420 x4_1 (wrap64 (x5_1 + 1)) l0_0 l0_1 a0_2) = some r := by first | (rw [hy420]; exact H) | exact H
         have Ny420 := aM hy420; clear hy420; have H' := aM H
         clear H; obtain ⟨hcz35_0, hcz35_1, hcz35_2, hfz35_0, hfz35_1, hfz35_2⟩ := cf3 BK396.out
         have p414 : 0 ≤ (x5_1 : Int) := od; have q414 : x5_1 < (l0_0.length : Int) := od; obtain ⟨ad414, e414, hx414_0⟩ := Kd.at_int HR0_0.out x5_1 p414 q414
         cases e414; replace hx414_0 := cl HB.out hx414_0; replace p414 := eq_true p414; replace q414 := eq_true q414; have p419 : 0 ≤ (x5_1 : Int) := od; have q419 : x5_1 < (l0_0.length : Int) := od; obtain ⟨ad419, e419, hx419_0⟩ := Kd.at_int HR0_0.out x5_1 p419 q419
         obtain rfl : ad414 = ad419 := (by injection e419)
         replace hx419_0 := cl HB.out hx419_0; replace p419 := eq_true p419; replace q419 := eq_true q419; go_wp2_with (first | ((with_reducible refine gate_builtin (b := .append) (xs := #[.tmp 34, .tmp 42]) rfl ?_); at_builtin; refine Kd.R_append (Kd.int .i64) (w0 := w) w.heap.size rfl (.tmp 34) (.tmp 42) 26 3 (.int .i64 0) 8 rfl Try.underlying26 info3 rfl (by decide) (by omega) u3 x3_1 (wrap64 (x4_1 * (rd l0_0 x5_1))) [.int .i64 (wrap64 (x4_1 * (rd l0_0 x5_1)))] (fun _ => True) (fun _ => False) rfl rfl ?aP (fun _ hk => hk.elim) ?aF ?aO ?aB ?aS ?aL ?_; (case aP => exact rfl); (case aB => exact (by exact jB HB.out)); (case aF => exact (fun _ _ => trivial)); (case aO => exact (by exact lR HO_3.out)); (case aS => exact (bz HB.out)); (case aL => have := LMc34.out; omega); intro v421 w36 ho hb hg hat; rw [← Ny420.out] at ho; replace BK396 := aM (blk_grown (g := gb396) (lK BK396.out) hg (Kd.R_ne HO_3.out BK396.out (by decide))); replace HB := aM (hb); have HO422 := aM (ho); clear HO_3 ho hb hg hat))
         go_roundg kj5
         case measure => have := HK1.out; have := HJ5.out; omega
         case rel => exact ⟨(y420), (x4_1), (wrap64 (x5_1 + 1)), sr, sr, H', ⟨by have := HK1.out; have := HJ5.out; omega⟩, ⟨by exact lR <| HO422.out⟩, ⟨by exact lK <| BK396.out⟩, ⟨by exact jB HB.out⟩⟩
       ·rw [if_neg c27] at H; have c27b0 := beq_eq_false_iff_ne.mpr c27
        have c27b1 := bne_iff_ne.mpr c27
        obtain ⟨c37, H⟩ := iD H; obtain ⟨c38, H⟩ := iD H; obtain ⟨c39, H⟩ := iN H; have LMc39 := aM c39; clear c39; obtain ⟨y424, hy424⟩ : ∃ y_ : List Int, y_ = (x3_1 ++ [wrap64 (x4_1 * (rd l0_0 x5_1))]) := ⟨_, rfl⟩
        replace H : (spec_CatPart.l0 kj5 y424 x4_1 (wrap64 (x5_1 + 1)) l0_0 l0_1 a0_2) = some r := by first | (rw [hy424]; exact H) | exact H
        have Ny424 := aM hy424; clear hy424; have H' := aM H
        clear H; obtain ⟨hcz40_0, hcz40_1, hcz40_2, hfz40_0, hfz40_1, hfz40_2⟩ := cf3 BK396.out
        have p423 : 0 ≤ (x5_1 : Int) := od; have q423 : x5_1 < (l0_0.length : Int) := od; obtain ⟨ad423, e423, hx423_0⟩ := Kd.at_int HR0_0.out x5_1 p423 q423
        cases e423; replace hx423_0 := cl HB.out hx423_0; replace p423 := eq_true p423; replace q423 := eq_true q423; go_wp2_with (first | ((with_reducible refine gate_builtin (b := .append) (xs := #[.tmp 34, .tmp 42]) rfl ?_); at_builtin; refine Kd.R_append (Kd.int .i64) (w0 := w) w.heap.size rfl (.tmp 34) (.tmp 42) 26 3 (.int .i64 0) 8 rfl Try.underlying26 info3 rfl (by decide) (by omega) u3 x3_1 (wrap64 (x4_1 * (rd l0_0 x5_1))) [.int .i64 (wrap64 (x4_1 * (rd l0_0 x5_1)))] (fun _ => True) (fun _ => False) rfl rfl ?aP (fun _ hk => hk.elim) ?aF ?aO ?aB ?aS ?aL ?_; (case aP => exact rfl); (case aB => exact (by exact jB HB.out)); (case aF => exact (fun _ _ => trivial)); (case aO => exact (by exact lR HO_3.out)); (case aS => exact (bz HB.out)); (case aL => have := LMc39.out; omega); intro v425 w41 ho hb hg hat; rw [← Ny424.out] at ho; replace BK396 := aM (blk_grown (g := gb396) (lK BK396.out) hg (Kd.R_ne HO_3.out BK396.out (by decide))); replace HB := aM (hb); have HO426 := aM (ho); clear HO_3 ho hb hg hat))
        go_roundg kj5
        case measure => have := HK1.out; have := HJ5.out; omega
        case rel => exact ⟨(y424), (x4_1), (wrap64 (x5_1 + 1)), sr, sr, H', ⟨by have := HK1.out; have := HJ5.out; omega⟩, ⟨by exact lR <| HO426.out⟩, ⟨by exact lK <| BK396.out⟩, ⟨by exact jB HB.out⟩⟩
   ·rw [if_neg c5] at H; replace c5 := decide_eq_false c5; obtain rfl := Option.some.inj H
    obtain ⟨hcz42_0, hcz42_1, hcz42_2, hfz42_0, hfz42_1, hfz42_2⟩ := cf3 BK396.out
    go_wp2
    go_ret
    exact ⟨_, er, by exact lR <| HO_3.out, by exact jB HB.out⟩
/-! ### spec_l4Same: function 85 -/
def spec_l4Same.l0 : Nat → List Int → List Int → Int → Option (Bool)
 | 0, _, _, _ => none
 | k + 1, x0, x1, x5 => if x5 < (x0.length : Int) then (if 0 ≤ x5 then (if x5 < (x1.length : Int) then (if (rd x0 x5) = (rd x1 x5) then (spec_l4Same.l0 k x0 x1 (wrap64 (x5 + 1))) else (some false)) else (none)) else (none)) else (some true)
def spec_l4Same.f (k : Nat) (l0 : List Int) (l1 : List Int) : Option (Bool) := if (l0.length : Int) = (l1.length : Int) then (spec_l4Same.l0 k l0 l1 0) else (some false)
theorem spec_l4Same.calls (k : Nat) (A0 : Option Addr) (c0 : Nat) (l0 : List Int) (A1 : Option Addr) (c1 : Nat) (l1 : List Int) (r : Bool) (w : World) (hr0 : Kd.C (Kd.int .i64) w A0 l0.length l0) (hc0 : l0.length ≤ c0) (hr1 : Kd.C (Kd.int .i64) w A1 l1.length l1) (hc1 : l1.length ≤ c1) (h : spec_l4Same.f k l0 l1 = some r) :
  Calls Try.prog 85 #[.slice A0 l0.length c0, .slice A1 l1.length c1] w fun e w' => e = .returned (.bool r) ∧ Drawn0 w w' := by
 have HR0 := aM hr0; have HC0 := aM hc0; clear hr0 hc0; have HR1 := aM hr1; have HC1 := aM hc1; clear hr1 hc1; have H : (if (l0.length : Int) = (l1.length : Int) then (spec_l4Same.l0 k l0 l1 0) else (some false)) = some r := h
 clear h
 by_cases c3 : (l0.length : Int) = (l1.length : Int)
 ·rw [if_pos c3] at H; have c3b0 := beq_iff_eq.mpr c3
  have c3b1 := bne_eq_false_iff_eq.mpr c3
  have c3b2 : (l0.length == l1.length) = true := by first | simpa using c3 | (simp at c3 ⊢; omega)
  clear c3; have H' := aM H
  clear H; go_enter Try.func85, Try.ntmps85
  go_wp2
  repeat (go_quiet (fail); try go_wp2)
  go_loopg [5] k (fun kq v5 w' => ∃ (x5_1 : Int), v5 = .int .i64 x5_1 ∧ Aside0 (spec_l4Same.l0 kq l0 l1 x5_1 = some r) ∧ Aside0 (kq ≤ k) ∧ Drawn0 w w')
  case atStart => exact ⟨(0), sr, H', ⟨Nat.le_refl _⟩, by repeat (first | exact Drawn0.refl _ | apply Drawn0.step)⟩
  case round =>
   clear H'
   (try clear c1); (try clear p2); (try clear c3); (try clear c3b0); (try clear c3b1); (try clear c3b2)
   obtain ⟨x5_1, rfl, HA, HK1, ⟨m1, rfl⟩⟩ := hrel
   cases gk with
   | zero => exact absurd HA.out (by simp [spec_l4Same.l0])
   | succ k1 =>
    have H := HA.out
    clear HA; simp only [spec_l4Same.l0] at H
    by_cases c4 : x5_1 < (l0.length : Int)
    ·rw [if_pos c4] at H; replace c4 := decide_eq_true c4; obtain ⟨c5, H⟩ := iD H; obtain ⟨c6, H⟩ := iD H
     by_cases c7 : (rd l0 x5_1) = (rd l1 x5_1)
     ·rw [if_pos c7] at H; have c7b0 := beq_iff_eq.mpr c7
      have c7b1 := bne_eq_false_iff_eq.mpr c7
      clear c7; have H' := aM H
      clear H; have p427 : 0 ≤ (x5_1 : Int) := od; have q427 : x5_1 < (l0.length : Int) := od; obtain ⟨ad427, e427, hx427_0⟩ := Kd.at_int HR0.out x5_1 p427 q427
      cases e427; replace p427 := eq_true p427; replace q427 := eq_true q427; have p428 : 0 ≤ (x5_1 : Int) := od; have q428 : x5_1 < (l1.length : Int) := od; obtain ⟨ad428, e428, hx428_0⟩ := Kd.at_int HR1.out x5_1 p428 q428
      cases e428; replace p428 := eq_true p428; replace q428 := eq_true q428; go_wp2
      repeat (go_quiet (fail); try go_wp2)
      go_roundg k1
      case measure => have := HK1.out; omega
      case rel => exact ⟨(wrap64 (x5_1 + 1)), sr, H', ⟨by have := HK1.out; omega⟩, by repeat (first | exact Drawn0.refl _ | apply Drawn0.step)⟩
     ·rw [if_neg c7] at H; have c7b0 := beq_eq_false_iff_ne.mpr c7
      have c7b1 := bne_iff_ne.mpr c7
      obtain rfl := Option.some.inj H
      have p427 : 0 ≤ (x5_1 : Int) := od; have q427 : x5_1 < (l0.length : Int) := od; obtain ⟨ad427, e427, hx427_0⟩ := Kd.at_int HR0.out x5_1 p427 q427
      cases e427; replace p427 := eq_true p427; replace q427 := eq_true q427; have p428 : 0 ≤ (x5_1 : Int) := od; have q428 : x5_1 < (l1.length : Int) := od; obtain ⟨ad428, e428, hx428_0⟩ := Kd.at_int HR1.out x5_1 p428 q428
      cases e428; replace p428 := eq_true p428; replace q428 := eq_true q428; go_wp2
      repeat (go_quiet (fail); try go_wp2)
      go_ret
      exact ⟨by first | rfl | (simp; done) | (simp [*]; done), by repeat (first | exact Drawn0.refl _ | apply Drawn0.step)⟩
    ·rw [if_neg c4] at H; replace c4 := decide_eq_false c4; obtain rfl := Option.some.inj H
     go_wp2
     repeat (go_quiet (fail); try go_wp2)
     go_ret
     exact ⟨by first | rfl | (simp; done) | (simp [*]; done), by repeat (first | exact Drawn0.refl _ | apply Drawn0.step)⟩
 ·rw [if_neg c3] at H; have c3b0 := beq_eq_false_iff_ne.mpr c3
  have c3b1 := bne_iff_ne.mpr c3
  have c3b2 : (l0.length == l1.length) = false := by first | simpa using c3 | (simp at c3 ⊢; omega)
  obtain rfl := Option.some.inj H
  go_enter Try.func85, Try.ntmps85
  go_wp2
  repeat (go_quiet (fail); try go_wp2)
  go_ret
  exact ⟨by first | rfl | (simp; done) | (simp [*]; done), by repeat (first | exact Drawn0.refl _ | apply Drawn0.step)⟩
end Go.Proofs.Ytcpaplcnebdocaa.QFnTrtKeeps
-- shorter
