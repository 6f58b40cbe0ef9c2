/- Plain functions, and that the Go code computes them: written by a program of this session over the seat's translation; the conditions stand in each theorem. -/
import Derived.Test.YtcpaplcnebdocaaHW5
import Derived.Test.YtcpaplcnebdocaaQFnRowDox0
import Derived.Test.YtcpaplcnebdocaaQFnRowDox1
namespace Go.Proofs.Ytcpaplcnebdocaa.QFnRowDo
open Go.RowKit Go.Proofs.YtcpaplcnebdocaaW.PrintWords Go.Proofs.YtcpaplcnebdocaaW.PrintLast Go.Proofs.YtcpaplcnebdocaaW.PrintMore Go.Proofs.Ytcpaplcnebdocaa.HWords
open Value (ownBlock)
attribute [local go_sem] max2_int min2_int max_two min_two max_three min_three max_four min_four   -- for this text's walks alone
set_option linter.unusedVariables false
set_option linter.unusedSimpArgs false
set_option maxRecDepth 100000
set_option maxHeartbeats 8000000
/-! ### impl_FrmZero: function 45 -/
def impl_FrmZero.f  : Option (List Int × List Int × Int) := if 3 ≤ 35184372088832 then (if 2 ≤ 35184372088832 then (some ((List.replicate 3 0), (List.replicate 2 0), 0)) else (none)) else (none)
theorem impl_FrmZero.calls  (r1 : List Int) (r2 : List Int) (r3 : Int) (w : World) (h : impl_FrmZero.f  = some (r1, r2, r3)) :
  Calls Try.prog 45 #[] w fun e w' => ∃ v0_ v1_ : Value, e = .returned (.agg #[v0_, v1_, .int .i64 r3]) ∧ Kd.R (Kd.int .i64) 3 w' w.heap.size (fun k_ => some k_ ≠ (v1_ : Value).ownBlock) v0_ r1 ∧ Kd.R (Kd.int .i64) 3 w' w.heap.size (fun k_ => some k_ ≠ (v0_ : Value).ownBlock) v1_ r2 ∧ Below w.heap.size w w' := by
 have hu34 := Try.underlying34; have HB := aM (Below.refl w.heap.size w); have H : (if 3 ≤ 35184372088832 then (if 2 ≤ 35184372088832 then (some ((List.replicate 3 0), (List.replicate 2 0), 0)) else (none)) else (none)) = some (r1, r2, r3) := h
 clear h; obtain ⟨c1, H⟩ := iN H; have c1b0 := eq_true c1
 have c1b1 := decide_eq_true c1
 clear c1; obtain ⟨y954, Ny954⟩ : ∃ y_ : List Int, Aside0 (y_ = (List.replicate 3 0)) := ⟨_, ⟨rfl⟩⟩
 try rw [← Ny954.out] at H
 try dsimp only [Option.bind_some] at H
 obtain ⟨c2, H⟩ := iN H; have c2b0 := eq_true c2
 have c2b1 := decide_eq_true c2
 clear c2; obtain ⟨y957, Ny957⟩ : ∃ y_ : List Int, Aside0 (y_ = (List.replicate 2 0)) := ⟨_, ⟨rfl⟩⟩
 try rw [← Ny957.out] at H
 try dsimp only [Option.bind_some] at H
 simp only [Option.some.injEq, Prod.mk.injEq] at H
 obtain ⟨rfl, rfl, rfl⟩ := H
 go_enter Try.func45, Try.ntmps45
 try go_wp2_with (first | ((with_reducible refine gate_dst (N := 0) rfl ?_); refine bx 0 #[.slice none 0 0, .slice none 0 0, .int .i64 0] 34 ?_; intro gb953 hg w3 hbox hb; have BK953 := aM (hbox); have GW953 := aM (gz hg HB.out); have IGW953 := wn GW953.out; have GE953 := aM (gz hg HB.out); have IGE953 := wn GE953.out; replace HB := aM (bj HB.out hb); clear hb hbox hg))
 replace BK953 := aM (blk_drew BK953.out); replace HB := aM (below_drew1 HB.out); refine start_ (n := 4) (S := fun w' => True) (ds := []) #[false, false, false, false] (by kernel_rfl) rfl rfl trivial (fun hHeld => ?_)
 generalize w3.drew = w4 at BK953 HB hHeld ⊢
 refine join_ (σ := Value × Value) 2 #[true, true, false, false] (fun s_ => [(1, s_.1), (2, s_.2)]) (fun s_ w' => (Kd.R (Kd.int .i64) 3 w' w.heap.size (fun k_ => some k_ ≠ (s_.2 : Value).ownBlock) s_.1 y954) ∧ (Kd.R (Kd.int .i64) 3 w' w.heap.size (fun k_ => some k_ ≠ (s_.1 : Value).ownBlock) s_.2 y957) ∧ (w'.heap[gb953]? = some (.cells #[.slice none 0 0, .slice none 0 0, .int .i64 0] 34 (0, 0))) ∧ (Below w.heap.size w w')) ?_ ?_
 rotate_left
 ·intro hCont
  refine two_ (i := 0) (j := 1) (Ni := some 1) (Nj := some 2) #[true, false, false, false] #[false, true, false, false] rfl rfl rfl rfl (by kernel_rfl) (by decide) (by decide) (fun K hK => ?_) (fun K hK => ?_)
  ·skip
   refine Kd.R_make_step (Kd.int .i64) _ 3 (by rfl) (N := 1) rfl 26 _ _ rfl 3 rfl rfl Try.underlying26 (.int .i64 0) 8 info3 rfl (by decide) (by omega) 0 (ok := fun _ => True) (okp := fun _ => True) rfl (fun _ hk => hk) trivial (by omega) (by omega) (Below.refl _ _) (Nat.le_refl _) ?_
   intro v955 w5 ho6 hb hg_ hnew_; clear hg_ hnew_
   (first | rw [← Ny954.out] at ho6 | (simp only [Int.reduceToNat] at ho6; rw [← Ny954.out] at ho6))
   have HO956 := aM (Kd.R_lower ho6 (bz HB.out)); replace BK953 := aM (bb BK953.out hb); replace HB := aM (bj HB.out hb); clear hb ho6; refine hK.out _ _ trivial (fun hHeld => ?_); clear hK K; refine nm (some 1) ?_; refine one_ (i := 1) (N := some 2) #[true, true, false, false] rfl rfl (by kernel_rfl) (by decide) (fun K hK => ?_)
   refine Kd.R_make_step (Kd.int .i64) _ 3 (by rfl) (N := 2) rfl 26 _ _ rfl 2 rfl rfl Try.underlying26 (.int .i64 0) 8 info3 rfl (by decide) (by omega) 0 (ok := fun _ => True) (okp := fun _ => True) rfl (fun _ hk => hk) trivial (by omega) (by omega) (Below.refl _ _) (Nat.le_refl _) ?_
   intro v958 w7 ho8 hb hg_ hnew_; clear hg_ hnew_
   (first | rw [← Ny957.out] at ho8 | (simp only [Int.reduceToNat] at ho8; rw [← Ny957.out] at ho8))
   have HO959 := aM (Kd.R_lower (Kd.R_new' ho8 (rl HO956.out)) (bz HB.out)); replace HO956 := aM (Kd.R_elder' (by exact lR HO956.out) (Kd.R_base ho8) hb); replace BK953 := aM (bb BK953.out hb); replace HB := aM (bj HB.out hb); clear hb ho8; obtain ⟨Ao9, co9, eo9⟩ := Kd.R_slice HO959.out
   (first | subst eo9 | (injection eo9 with f1_ f2_ f3_; have f4_ := f1_.symm; have f5_ := f3_.symm; clear f1_ f2_ f3_; subst f4_; subst f5_))
   obtain ⟨Ao10, co10, eo10⟩ := Kd.R_slice HO956.out
   (first | subst eo10 | (injection eo10 with f1_ f2_ f3_; have f4_ := f1_.symm; have f5_ := f3_.symm; clear f1_ f2_ f3_; subst f4_; subst f5_))
   refine hK.out _ _ trivial (fun hHeld => ?_); clear hK K; refine nm (some 2) ?_; exact nj (hCont (.slice Ao10 y954.length co10, .slice Ao9 y957.length co9) _ ⟨(by exact lR <| Kd.R_mono HO956.out (fun _ hk => hk.2)), (by exact lR <| Kd.R_mono HO959.out (fun _ hk => hk.2)), (by exact lK BK953.out), (by exact jB HB.out)⟩)
  ·skip
   refine Kd.R_make_step (Kd.int .i64) _ 3 (by rfl) (N := 2) rfl 26 _ _ rfl 2 rfl rfl Try.underlying26 (.int .i64 0) 8 info3 rfl (by decide) (by omega) 0 (ok := fun _ => True) (okp := fun _ => True) rfl (fun _ hk => hk) trivial (by omega) (by omega) (Below.refl _ _) (Nat.le_refl _) ?_
   intro v958 w5 ho6 hb hg_ hnew_; clear hg_ hnew_
   (first | rw [← Ny957.out] at ho6 | (simp only [Int.reduceToNat] at ho6; rw [← Ny957.out] at ho6))
   have HO959 := aM (Kd.R_lower ho6 (bz HB.out)); replace BK953 := aM (bb BK953.out hb); replace HB := aM (bj HB.out hb); clear hb ho6; refine hK.out _ _ trivial (fun hHeld => ?_); clear hK K; refine nm (some 2) ?_; refine one_ (i := 0) (N := some 1) #[true, true, false, false] rfl rfl (by kernel_rfl) (by decide) (fun K hK => ?_)
   refine Kd.R_make_step (Kd.int .i64) _ 3 (by rfl) (N := 1) rfl 26 _ _ rfl 3 rfl rfl Try.underlying26 (.int .i64 0) 8 info3 rfl (by decide) (by omega) 0 (ok := fun _ => True) (okp := fun _ => True) rfl (fun _ hk => hk) trivial (by omega) (by omega) (Below.refl _ _) (Nat.le_refl _) ?_
   intro v955 w7 ho8 hb hg_ hnew_; clear hg_ hnew_
   (first | rw [← Ny954.out] at ho8 | (simp only [Int.reduceToNat] at ho8; rw [← Ny954.out] at ho8))
   have HO956 := aM (Kd.R_lower (Kd.R_new' ho8 (rl HO959.out)) (bz HB.out)); replace HO959 := aM (Kd.R_elder' (by exact lR HO959.out) (Kd.R_base ho8) hb); replace BK953 := aM (bb BK953.out hb); replace HB := aM (bj HB.out hb); clear hb ho8; obtain ⟨Ao9, co9, eo9⟩ := Kd.R_slice HO959.out
   (first | subst eo9 | (injection eo9 with f1_ f2_ f3_; have f4_ := f1_.symm; have f5_ := f3_.symm; clear f1_ f2_ f3_; subst f4_; subst f5_))
   obtain ⟨Ao10, co10, eo10⟩ := Kd.R_slice HO956.out
   (first | subst eo10 | (injection eo10 with f1_ f2_ f3_; have f4_ := f1_.symm; have f5_ := f3_.symm; clear f1_ f2_ f3_; subst f4_; subst f5_))
   refine hK.out _ _ trivial (fun hHeld => ?_); clear hK K; refine nm (some 1) ?_; exact nj (hCont (.slice Ao10 y954.length co10, .slice Ao9 y957.length co9) _ ⟨(by exact lR <| Kd.R_mono HO956.out (fun _ hk => hk.2)), (by exact lR <| Kd.R_mono HO959.out (fun _ hk => hk.2)), (by exact lK BK953.out), (by exact jB HB.out)⟩)
 rintro ⟨v955, v958⟩ w11 ⟨h0_, h1_, h2_, h3_⟩
 have HO956 : Aside0 (Kd.R (Kd.int .i64) 3 w11 w.heap.size (fun k_ => some k_ ≠ v958.ownBlock) v955 y954) := ⟨h0_⟩
 have HO959 : Aside0 (Kd.R (Kd.int .i64) 3 w11 w.heap.size (fun k_ => some k_ ≠ v955.ownBlock) v958 y957) := ⟨h1_⟩
 replace BK953 : Aside0 (w11.heap[gb953]? = some (.cells #[.slice none 0 0, .slice none 0 0, .int .i64 0] 34 (0, 0))) := ⟨h2_⟩
 replace HB : Aside0 (Below w.heap.size w w11) := ⟨h3_⟩
 clear h0_ h1_ h2_ h3_; have hHeld := trivial
 obtain ⟨Ao12, co12, eo12⟩ := Kd.R_slice HO959.out
 (first | subst eo12 | (injection eo12 with f1_ f2_ f3_; have f4_ := f1_.symm; have f5_ := f3_.symm; clear f1_ f2_ f3_; subst f4_; subst f5_))
 obtain ⟨Ao13, co13, eo13⟩ := Kd.R_slice HO956.out
 (first | subst eo13 | (injection eo13 with f1_ f2_ f3_; have f4_ := f1_.symm; have f5_ := f3_.symm; clear f1_ f2_ f3_; subst f4_; subst f5_))
 refine np ?_; refine pure_ (i := 2) (N := some 3) (v := ?_) (a' := ?_) #[true, true, true, false] rfl rfl (by kernel_rfl) (fun _ _ _ h => h) (Or.inl ⟨by rfl, ?_⟩) ?_ ?_
 rotate_left
 ·intro w'
  go_simp
  with_reducible rfl
 rotate_left
 ·simp only [Act.put, sA, s0, sS, i64_w, i32_w]
  rfl
 refine one_ (i := 3) (N := none) #[true, true, true, true] rfl rfl (by kernel_rfl) (by decide) (fun K hK => ?_)
 have hs14 : w11.cell? ⟨gb953, 0, none⟩ = some (.slice none 0 0) := (blk_cell BK953.out 0).trans rfl
 have hfs14 := blk_frozen BK953.out 0
 have hs15 : w11.cell? ⟨gb953, 1, none⟩ = some (.slice none 0 0) := (blk_cell BK953.out 1).trans rfl
 have hfs15 := blk_frozen BK953.out 1
 have hs16 : w11.cell? ⟨gb953, 2, none⟩ = some (.int .i64 0) := (blk_cell BK953.out 2).trans rfl
 have hfs16 := blk_frozen BK953.out 2
 refine skip_ (w1 := ?_) (by rfl) rfl ?_ ?_
 rotate_left
 ·go_simp
  rfl
 refine hK.out _ _ trivial (fun hHeld => ?_); clear hK K; refine done_ (by kernel_rfl) ?_
 try go_wp2
 refine bodyPost_ret (results_cell_row rfl _ _ gb953 34 #[.slice Ao13 y954.length co13, .slice Ao12 y957.length co12, .int .i64 0] (0, 0) _ rfl (by exact p3 (lK BK953.out)) Try.underlying34 rfl (by kernel_rfl)) rfl ?_
 exact ⟨_, _, er, by exact lR <| Kd.R_mono (Kd.R_far (p := ⟨gb953, 2, none⟩) (Kd.R_far (p := ⟨gb953, 1, none⟩) (Kd.R_far (p := ⟨gb953, 0, none⟩) (Kd.R_types HO956.out BK953.out (by decide)) (fun _ hk => by first | exact hk.2 | exact fun e_ => hk.2 (e_.trans (ob _ _ _ _))) (.slice Ao13 y954.length co13)) (fun _ hk => by first | exact hk.2 | exact fun e_ => hk.2 (e_.trans (ob _ _ _ _))) (.slice Ao12 y957.length co12)) (fun _ hk => by first | exact hk.2 | exact fun e_ => hk.2 (e_.trans (ob _ _ _ _))) (.int .i64 0)) (fun _ hk => by first | exact hk.1 | exact fun e_ => hk.1 (e_.trans (ob _ _ _ _))), by exact lR <| Kd.R_mono (Kd.R_far (p := ⟨gb953, 2, none⟩) (Kd.R_far (p := ⟨gb953, 1, none⟩) (Kd.R_far (p := ⟨gb953, 0, none⟩) (Kd.R_types HO959.out BK953.out (by decide)) (fun _ hk => by first | exact hk.2 | exact fun e_ => hk.2 (e_.trans (ob _ _ _ _))) (.slice Ao13 y954.length co13)) (fun _ hk => by first | exact hk.2 | exact fun e_ => hk.2 (e_.trans (ob _ _ _ _))) (.slice Ao12 y957.length co12)) (fun _ hk => by first | exact hk.2 | exact fun e_ => hk.2 (e_.trans (ob _ _ _ _))) (.int .i64 0)) (fun _ hk => by first | exact hk.1 | exact fun e_ => hk.1 (e_.trans (ob _ _ _ _))), by exact jB HB.out⟩
/-! ### laws_coHolds: function 19 -/
def laws_coHolds.f  : Option (Bool) := (impl_FrmZero.f).bind fun bt960 => ((impl_FrmOk.f bt960.1 bt960.2.1 bt960.2.2).bind fun t967 => (some t967))
theorem laws_coHolds.calls  (r : Bool) (w : World) (h : laws_coHolds.f  = some r) :
  Calls Try.prog 19 #[] w fun e w' => e = .returned (.bool r) ∧ Below w.heap.size w w' := by
 have HB := aM (Below.refl w.heap.size w); have H : ((impl_FrmZero.f).bind fun bt960 => ((impl_FrmOk.f bt960.1 bt960.2.1 bt960.2.2).bind fun t967 => (some t967))) = some r := h
 clear h; obtain ⟨⟨t960, t963, t966⟩, A1, H⟩ := bS H
 try dsimp only at H
 obtain ⟨t967, A2, H⟩ := bS H
 try dsimp only at H
 obtain rfl := Option.some.inj H
 go_enter Try.func19, Try.ntmps19
 go_wp2_with (first | (refine gL (some 1) Try.func45 #[] ?_; (with_reducible refine (impl_FrmZero.calls  t960 t963 t966 _ A1.out).mono ?_); rintro e w3 ⟨v961, v964, rfl, ho0, ho1, hb⟩; refine ⟨_, rfl, ?_⟩; have HO962 := aM (Kd.R_lower ho0 (bz HB.out)); have HO965 := aM (Kd.R_lower ho1 (bz HB.out)); replace HB := aM (bj HB.out hb); clear hb ho0 ho1; obtain ⟨Ao4, co4, rfl⟩ := Kd.R_slice HO962.out; obtain ⟨Ao5, co5, rfl⟩ := Kd.R_slice HO965.out) | (refine gL (some 2) Try.func30 #[.agg #[.slice Ao4 t960.length co4, .slice Ao5 t963.length co5, .int .i64 t966]] ?_; (with_reducible refine (impl_FrmOk.calls _ _ t960 _ _ t963 t966 t967 _ (by exact lC <| (Kd.R_reads' HO962.out).2.2) (by exact (Kd.R_reads' HO962.out).2.1) (by exact lC <| (Kd.R_reads' HO965.out).2.2) (by exact (Kd.R_reads' HO965.out).2.1) A2.out).mono ?_); rintro e w6 ⟨rfl, hb⟩; refine ⟨_, rfl, ?_⟩; replace HO962 := aM (rb HO962.out hb); replace HO965 := aM (rb HO965.out hb); replace HB := aM (bj HB.out hb); (try clear hb)))
 go_ret
 exact ⟨er, by exact lB HB.out⟩
end Go.Proofs.Ytcpaplcnebdocaa.QFnRowDo
-- shorter
