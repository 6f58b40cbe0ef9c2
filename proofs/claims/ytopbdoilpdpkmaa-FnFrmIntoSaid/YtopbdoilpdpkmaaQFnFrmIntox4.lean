/- Plain functions, and that the Go code computes them: written by a program of this session over the seat's translation; the conditions stand in each theorem. -/
import Derived.Test.YtopbdoilpdpkmaaQFnFrmIntox0
import Derived.Test.YtopbdoilpdpkmaaQFnFrmIntox1
import Derived.Test.YtopbdoilpdpkmaaQFnFrmIntox3
namespace Go.Proofs.Ytopbdoilpdpkmaa.QFnFrmInto
open Go.RowKit Go.Proofs.YtopbdoilpdpkmaaW.PrintWords Go.Proofs.YtopbdoilpdpkmaaW.PrintLast Go.Proofs.YtopbdoilpdpkmaaW.PrintMore Go.Proofs.Ytopbdoilpdpkmaa.HWords
attribute [local go_sem] max2_int min2_int max_two min_two max_three min_three max_four min_four   -- for this text's walks alone
set_option linter.unusedVariables false
set_option linter.unusedSimpArgs false

/-! ### spec_DrawFrmInto: function 5 -/
def spec_DrawFrmInto.f (k : Nat) (l0 : List Int) : Option (List Int × List Int × Int × (List (S25))) := (spec_l20Open.f l0).bind fun bt190 => ((spec_l20Form.f k bt190.1 bt190.2 24).bind fun bt193 => ((spec_l20Form.f k bt190.1 bt193.2.2.2 24).bind fun bt201 => ((spec_l20Form.f k bt190.1 bt201.2.2.2 24).bind fun bt209 => ((some (([(⟨bt193.1, bt193.2.1, bt193.2.2.1⟩ : S25), (⟨bt201.1, bt201.2.1, bt201.2.2.1⟩ : S25), (⟨bt209.1, bt209.2.1, bt209.2.2.1⟩ : S25)] : List (S25)) : List (S25))).bind fun y217 => ((spec_l20Rd_pick.f k bt190.1 bt209.2.2.2 12).bind fun bt220 => (if bt220.1 = 0 then (if 2 ≤ (y217.length : Int) then ((spec_l20Form.f k bt190.1 bt220.2 12).bind fun bt225 => (some (bt225.1, bt225.2.1, bt225.2.2.1, (y217.take (2 : Int).toNat)))) else (none)) else ((spec_l20Form.f k bt190.1 bt220.2 12).bind fun bt233 => (some (bt233.1, bt233.2.1, bt233.2.2.1, y217)))))))))
theorem spec_DrawFrmInto.mono : ∀ a0 k, LeO (spec_DrawFrmInto.f k a0) (spec_DrawFrmInto.f (k + 1) a0) := by
 intro a0 k
 unfold spec_DrawFrmInto.f
 repeat' first
   | (with_reducible exact spec_l20Form.mono _ _ _ _)
   | (with_reducible exact spec_l20Rd_pick.mono _ _ _ _)
   | (with_reducible exact LeO.refl _)
   | (with_reducible exact LeO.none _)
   | (with_reducible refine LeO.ite ?_ ?_)
   | (with_reducible refine LeO.bind ?_ (fun _ => ?_))
   | exact spec_l20Form.mono _ _ _ _
   | exact spec_l20Rd_pick.mono _ _ _ _
   | exact LeO.none _
   | refine LeO.ite ?_ ?_
   | refine LeO.bind ?_ (fun _ => ?_)
set_option maxHeartbeats 8000000 in
set_option maxRecDepth 100000 in
theorem spec_DrawFrmInto.calls (k : Nat) (A0 : Option Addr) (c0 : Nat) (l0 : List Int) (r1 : List Int) (r2 : List Int) (r3 : Int) (r4 : List (S25)) (w : World) (hr0 : Kd.C (Kd.int .u8) w A0 l0.length l0) (hc0 : l0.length ≤ c0) (h : spec_DrawFrmInto.f k l0 = some (r1, r2, r3, r4)) :
  Calls Try.prog 5 #[.slice A0 l0.length c0] w fun e w' => ∃ v0_ v1_ v3_ : Value, e = .returned (.tuple #[.agg #[v0_, v1_, .int .i64 r3], v3_]) ∧ Kd.R (Kd.int .i64) 3 w' w.heap.size (fun k_ => (w.heap.size ≤ k_) ∧ some k_ ≠ (v1_ : Value).ownBlock) v0_ r1 ∧ Kd.R (Kd.int .i64) 3 w' w.heap.size (fun k_ => (w.heap.size ≤ k_) ∧ some k_ ≠ (v0_ : Value).ownBlock) v1_ r2 ∧ Kd.N k25 25 w' w.heap.size (fun k_ => (w.heap.size ≤ k_) ∧ some k_ ≠ (v0_ : Value).ownBlock ∧ some k_ ≠ (v1_ : Value).ownBlock) v3_ r4 ∧ Below w.heap.size w w' := by
 have hu25 := Try.underlying25
 have HR0 := Aside0.mk hr0
 have HC0 := Aside0.mk hc0
 clear hr0 hc0
 have HB := Aside0.mk (Below.refl w.heap.size w)
 have H : ((spec_l20Open.f l0).bind fun bt190 => ((spec_l20Form.f k bt190.1 bt190.2 24).bind fun bt193 => ((spec_l20Form.f k bt190.1 bt193.2.2.2 24).bind fun bt201 => ((spec_l20Form.f k bt190.1 bt201.2.2.2 24).bind fun bt209 => ((some (([(⟨bt193.1, bt193.2.1, bt193.2.2.1⟩ : S25), (⟨bt201.1, bt201.2.1, bt201.2.2.1⟩ : S25), (⟨bt209.1, bt209.2.1, bt209.2.2.1⟩ : S25)] : List (S25)) : List (S25))).bind fun y217 => ((spec_l20Rd_pick.f k bt190.1 bt209.2.2.2 12).bind fun bt220 => (if bt220.1 = 0 then (if 2 ≤ (y217.length : Int) then ((spec_l20Form.f k bt190.1 bt220.2 12).bind fun bt225 => (some (bt225.1, bt225.2.1, bt225.2.2.1, (y217.take (2 : Int).toNat)))) else (none)) else ((spec_l20Form.f k bt190.1 bt220.2 12).bind fun bt233 => (some (bt233.1, bt233.2.1, bt233.2.2.1, y217)))))))))) = some (r1, r2, r3, r4) := h
 clear h
 replace H := Option.bind_eq_some_iff.mp H
 obtain ⟨⟨t190, t191⟩, A20, H⟩ := H
 replace H : ((spec_l20Form.f k t190 t191 24).bind fun bt193 => ((spec_l20Form.f k t190 bt193.2.2.2 24).bind fun bt201 => ((spec_l20Form.f k t190 bt201.2.2.2 24).bind fun bt209 => ((some (([(⟨bt193.1, bt193.2.1, bt193.2.2.1⟩ : S25), (⟨bt201.1, bt201.2.1, bt201.2.2.1⟩ : S25), (⟨bt209.1, bt209.2.1, bt209.2.2.1⟩ : S25)] : List (S25)) : List (S25))).bind fun y217 => ((spec_l20Rd_pick.f k t190 bt209.2.2.2 12).bind fun bt220 => (if bt220.1 = 0 then (if 2 ≤ (y217.length : Int) then ((spec_l20Form.f k t190 bt220.2 12).bind fun bt225 => (some (bt225.1, bt225.2.1, bt225.2.2.1, (y217.take (2 : Int).toNat)))) else (none)) else ((spec_l20Form.f k t190 bt220.2 12).bind fun bt233 => (some (bt233.1, bt233.2.1, bt233.2.2.1, y217))))))))) = some (r1, r2, r3, r4) := H
 have A2 := Aside0.mk A20
 clear A20
 replace H := Option.bind_eq_some_iff.mp H
 obtain ⟨⟨t193, t196, t199, t200⟩, A30, H⟩ := H
 replace H : ((spec_l20Form.f k t190 t200 24).bind fun bt201 => ((spec_l20Form.f k t190 bt201.2.2.2 24).bind fun bt209 => ((some (([(⟨t193, t196, t199⟩ : S25), (⟨bt201.1, bt201.2.1, bt201.2.2.1⟩ : S25), (⟨bt209.1, bt209.2.1, bt209.2.2.1⟩ : S25)] : List (S25)) : List (S25))).bind fun y217 => ((spec_l20Rd_pick.f k t190 bt209.2.2.2 12).bind fun bt220 => (if bt220.1 = 0 then (if 2 ≤ (y217.length : Int) then ((spec_l20Form.f k t190 bt220.2 12).bind fun bt225 => (some (bt225.1, bt225.2.1, bt225.2.2.1, (y217.take (2 : Int).toNat)))) else (none)) else ((spec_l20Form.f k t190 bt220.2 12).bind fun bt233 => (some (bt233.1, bt233.2.1, bt233.2.2.1, y217)))))))) = some (r1, r2, r3, r4) := H
 have A3 := Aside0.mk A30
 clear A30
 replace H := Option.bind_eq_some_iff.mp H
 obtain ⟨⟨t201, t204, t207, t208⟩, A40, H⟩ := H
 replace H : ((spec_l20Form.f k t190 t208 24).bind fun bt209 => ((some (([(⟨t193, t196, t199⟩ : S25), (⟨t201, t204, t207⟩ : S25), (⟨bt209.1, bt209.2.1, bt209.2.2.1⟩ : S25)] : List (S25)) : List (S25))).bind fun y217 => ((spec_l20Rd_pick.f k t190 bt209.2.2.2 12).bind fun bt220 => (if bt220.1 = 0 then (if 2 ≤ (y217.length : Int) then ((spec_l20Form.f k t190 bt220.2 12).bind fun bt225 => (some (bt225.1, bt225.2.1, bt225.2.2.1, (y217.take (2 : Int).toNat)))) else (none)) else ((spec_l20Form.f k t190 bt220.2 12).bind fun bt233 => (some (bt233.1, bt233.2.1, bt233.2.2.1, y217))))))) = some (r1, r2, r3, r4) := H
 have A4 := Aside0.mk A40
 clear A40
 replace H := Option.bind_eq_some_iff.mp H
 obtain ⟨⟨t209, t212, t215, t216⟩, A50, H⟩ := H
 replace H : ((some (([(⟨t193, t196, t199⟩ : S25), (⟨t201, t204, t207⟩ : S25), (⟨t209, t212, t215⟩ : S25)] : List (S25)) : List (S25))).bind fun y217 => ((spec_l20Rd_pick.f k t190 t216 12).bind fun bt220 => (if bt220.1 = 0 then (if 2 ≤ (y217.length : Int) then ((spec_l20Form.f k t190 bt220.2 12).bind fun bt225 => (some (bt225.1, bt225.2.1, bt225.2.2.1, (y217.take (2 : Int).toNat)))) else (none)) else ((spec_l20Form.f k t190 bt220.2 12).bind fun bt233 => (some (bt233.1, bt233.2.1, bt233.2.2.1, y217)))))) = some (r1, r2, r3, r4) := H
 have A5 := Aside0.mk A50
 clear A50
 obtain ⟨y217, hy217⟩ : ∃ y_ : List (S25), y_ = (([(⟨t193, t196, t199⟩ : S25), (⟨t201, t204, t207⟩ : S25), (⟨t209, t212, t215⟩ : S25)] : List (S25))) := ⟨_, rfl⟩
 replace H : ((spec_l20Rd_pick.f k t190 t216 12).bind fun bt220 => (if bt220.1 = 0 then (if 2 ≤ (y217.length : Int) then ((spec_l20Form.f k t190 bt220.2 12).bind fun bt225 => (some (bt225.1, bt225.2.1, bt225.2.2.1, (y217.take (2 : Int).toNat)))) else (none)) else ((spec_l20Form.f k t190 bt220.2 12).bind fun bt233 => (some (bt233.1, bt233.2.1, bt233.2.2.1, y217))))) = some (r1, r2, r3, r4) := by first | (rw [hy217]; with_reducible exact H) | (have H2_ := (Option.bind_some _ _).symm.trans H; rw [hy217]; with_reducible exact H2_) | (have H2_ := (Option.bind_some _ _).symm.trans H; with_reducible exact H2_) | with_reducible exact H | (rw [hy217]; exact H) | exact H
 have Ny217 := Aside0.mk hy217
 clear hy217
 replace H := Option.bind_eq_some_iff.mp H
 obtain ⟨⟨t220, t221⟩, A60, H⟩ := H
 replace H : (if t220 = 0 then (if 2 ≤ (y217.length : Int) then ((spec_l20Form.f k t190 t221 12).bind fun bt225 => (some (bt225.1, bt225.2.1, bt225.2.2.1, (y217.take (2 : Int).toNat)))) else (none)) else ((spec_l20Form.f k t190 t221 12).bind fun bt233 => (some (bt233.1, bt233.2.1, bt233.2.2.1, y217)))) = some (r1, r2, r3, r4) := H
 have A6 := Aside0.mk A60
 clear A60
 by_cases c7 : t220 = 0
 ·rw [if_pos c7] at H
  have c7b0 : (t220 == 0) = true := beq_iff_eq.mpr c7
  have c7b1 : (t220 != 0) = false := bne_eq_false_iff_eq.mpr c7
  clear c7
  by_cases c8 : 2 ≤ (y217.length : Int)
  ·rw [if_pos c8] at H
   have c8b0 := eq_true c8
   have c8b1 : decide (2 ≤ (y217.length : Int)) = true := decide_eq_true c8
   clear c8
   obtain ⟨y222, hy222⟩ : ∃ y_ : List (S25), y_ = (y217.take (2 : Int).toNat) := ⟨_, rfl⟩
   replace H : ((spec_l20Form.f k t190 t221 12).bind fun bt225 => (some (bt225.1, bt225.2.1, bt225.2.2.1, y222))) = some (r1, r2, r3, r4) := by first | (rw [hy222]; with_reducible exact H) | (have H2_ := (Option.bind_some _ _).symm.trans H; rw [hy222]; with_reducible exact H2_) | (have H2_ := (Option.bind_some _ _).symm.trans H; with_reducible exact H2_) | with_reducible exact H | (rw [hy222]; exact H) | exact H
   have Ny222 := Aside0.mk hy222
   clear hy222
   replace H := Option.bind_eq_some_iff.mp H
   obtain ⟨⟨t225, t228, t231, t232⟩, A90, H⟩ := H
   replace H : (some (t225, t228, t231, y222)) = some (r1, r2, r3, r4) := H
   have A9 := Aside0.mk A90
   clear A90
   simp only [Option.some.injEq, Prod.mk.injEq] at H
   obtain ⟨rfl, rfl, rfl, rfl⟩ := H
   go_enter Try.func5, Try.ntmps5
   go_wp2_with (first | ((with_reducible refine gate_dst (N := 2) rfl ?_); refine box_event ?hg (N := 2) ?hd (cs := #[.slice none 0 0, .slice none 0 0, .int .i64 0]) (t := 25) ?hr ?_; (case hd => rfl); (case hg => rfl); (case hr => first | (go_simp; done) | (go_simp; rfl)); intro gb189 hg w10 hbox hb; have BK189 := Aside0.mk (hbox); have GW189 := Aside0.mk ((by rw [hg]; exact (below_size (by exact lB HB.out)) : w.heap.size ≤ gb189)); have IGW189 : Nonempty _ := ⟨GW189.out⟩; have GE189 := Aside0.mk ((by rw [hg]; exact (below_size (by exact lB HB.out)) : w.heap.size ≤ gb189)); have IGE189 : Nonempty _ := ⟨GE189.out⟩; replace HB := Aside0.mk (below_step (by exact lB HB.out) hb); clear hb hbox hg) | ((with_reducible refine gate_callee (f := 20) rfl ?_); refine goesL_ (some 7) rfl rfl Try.func20 (by kernel_rfl) rfl #[.slice A0 l0.length c0] rfl (by (try simp only [mA, mC, mN]); first | done | rfl | (simp only [ld, lt]; rfl)) ?_; (with_reducible refine (spec_l20Open.calls _ _ l0 t190 t191 w _ ?side1 ?side2 ?side3 A2.out).mono ?_); (case side1 => exact jB HB.out); (case side2 => exact HR0.out); (case side3 => exact HC0.out); rintro e w11 ⟨g192, rfl, hi, hb, hb2⟩; refine ⟨_, rfl, ?_⟩; replace HB := Aside0.mk (hb); have HI192 := Aside0.mk (hi); have NB192_189 := Aside0.mk (IsS59.ne_blk hi (blk_below (g := gb189) (o := .cells #[.slice none 0 0, .slice none 0 0, .int .i64 0] 25 (0, 0)) (by exact lK BK189.out) hb2) (by decide)); have INB192_189 : Nonempty _ := ⟨NB192_189.out⟩; have NB189_192 := Aside0.mk (Ne.symm (IsS59.ne_blk hi (blk_below (g := gb189) (o := .cells #[.slice none 0 0, .slice none 0 0, .int .i64 0] 25 (0, 0)) (by exact lK BK189.out) hb2) (by decide))); have INB189_192 : Nonempty _ := ⟨NB189_192.out⟩; replace BK189 := Aside0.mk (blk_below (g := gb189) (o := .cells #[.slice none 0 0, .slice none 0 0, .int .i64 0] 25 (0, 0)) (by exact lK BK189.out) hb2); (try clear hb); (try clear hb2); (try clear hk); (try clear hi)) | ((with_reducible refine gate_callee (f := 21) rfl ?_); refine goesL_ (some 9) rfl rfl Try.func21 (by kernel_rfl) rfl #[.pointer (some ⟨g192, 0, none⟩), .int .i64 24] rfl (by (try simp only [mA, mC, mN]); first | done | rfl | (simp only [ld, lt]; rfl)) ?_; (with_reducible refine (spec_l20Form.calls k g192 t190 t191 24 t193 t196 t199 t200 w _ ?side1 ?side2 A3.out).mono ?_); (case side1 => exact IsS59.j HI192.out); (case side2 => exact jB HB.out); rintro e w12 ⟨v194, v197, rfl, ho0, ho1, hi, hb, hk⟩; refine ⟨_, rfl, ?_⟩; replace BK189 := Aside0.mk (kb hk BK189.out NB189_192.out); have HO195 := Aside0.mk (Kd.R_lower (Kd.R_newM (M := fun k_ => (w.heap.size ≤ k_)) ho0 (below_size (by exact jB HB.out)) (fun k_ h_ => h_)) (below_size (by exact jB HB.out))); have HO198 := Aside0.mk (Kd.R_lower (Kd.R_newM (M := fun k_ => (w.heap.size ≤ k_)) ho1 (below_size (by exact jB HB.out)) (fun k_ h_ => h_)) (below_size (by exact jB HB.out))); replace HB := Aside0.mk (hb); replace HI192 := Aside0.mk (hi); (try clear hb); (try clear hb2); (try clear hk); (try clear hi); (try clear ho0); (try clear ho1)) | ((with_reducible refine gate_callee (f := 21) rfl ?_); refine goesL_ (some 11) rfl rfl Try.func21 (by kernel_rfl) rfl #[.pointer (some ⟨g192, 0, none⟩), .int .i64 24] rfl (by (try simp only [mA, mC, mN]); first | done | rfl | (simp only [ld, lt]; rfl)) ?_; (with_reducible refine (spec_l20Form.calls k g192 t190 t200 24 t201 t204 t207 t208 w _ ?side1 ?side2 A4.out).mono ?_); (case side1 => exact IsS59.j HI192.out); (case side2 => exact jB HB.out); rintro e w13 ⟨v202, v205, rfl, ho0, ho1, hi, hb, hk⟩; refine ⟨_, rfl, ?_⟩; replace BK189 := Aside0.mk (kb hk BK189.out NB189_192.out); have HO203 := Aside0.mk (Kd.R_lower (Kd.R_new' (Kd.R_new' (Kd.R_newM (M := fun k_ => (w.heap.size ≤ k_)) ho0 (below_size (by exact jB HB.out)) (fun k_ h_ => h_)) (rl HO195.out)) (rl HO198.out)) (below_size (by exact jB HB.out))); have HO206 := Aside0.mk (Kd.R_lower (Kd.R_new' (Kd.R_new' (Kd.R_newM (M := fun k_ => (w.heap.size ≤ k_)) ho1 (below_size (by exact jB HB.out)) (fun k_ h_ => h_)) (rl HO195.out)) (rl HO198.out)) (below_size (by exact jB HB.out))); replace HO195 := Aside0.mk (Kd.R_mono (Kd.R_told (Kd.R_told (Kd.R_oldK (IsS59.apart (show IsS59 w _ g192 t190 t200 from by exact IsS59.j HI192.out) (by exact lR HO195.out) (by decide)) hk) (Kd.R_base ho0)) (Kd.R_base ho1)) (fun _ h_ => h_.1)); replace HO198 := Aside0.mk (Kd.R_mono (Kd.R_told (Kd.R_told (Kd.R_oldK (IsS59.apart (show IsS59 w _ g192 t190 t200 from by exact IsS59.j HI192.out) (by exact lR HO198.out) (by decide)) hk) (Kd.R_base ho0)) (Kd.R_base ho1)) (fun _ h_ => h_.1)); replace HB := Aside0.mk (hb); replace HI192 := Aside0.mk (hi); (try clear hb); (try clear hb2); (try clear hk); (try clear hi); (try clear ho0); (try clear ho1)) | ((with_reducible refine gate_callee (f := 21) rfl ?_); refine goesL_ (some 13) rfl rfl Try.func21 (by kernel_rfl) rfl #[.pointer (some ⟨g192, 0, none⟩), .int .i64 24] rfl (by (try simp only [mA, mC, mN]); first | done | rfl | (simp only [ld, lt]; rfl)) ?_; (with_reducible refine (spec_l20Form.calls k g192 t190 t208 24 t209 t212 t215 t216 w _ ?side1 ?side2 A5.out).mono ?_); (case side1 => exact IsS59.j HI192.out); (case side2 => exact jB HB.out); rintro e w14 ⟨v210, v213, rfl, ho0, ho1, hi, hb, hk⟩; refine ⟨_, rfl, ?_⟩; replace BK189 := Aside0.mk (kb hk BK189.out NB189_192.out); have HO211 := Aside0.mk (Kd.R_lower (Kd.R_new' (Kd.R_new' (Kd.R_new' (Kd.R_new' (Kd.R_newM (M := fun k_ => (w.heap.size ≤ k_)) ho0 (below_size (by exact jB HB.out)) (fun k_ h_ => h_)) (rl HO195.out)) (rl HO198.out)) (rl HO203.out)) (rl HO206.out)) (below_size (by exact jB HB.out))); have HO214 := Aside0.mk (Kd.R_lower (Kd.R_new' (Kd.R_new' (Kd.R_new' (Kd.R_new' (Kd.R_newM (M := fun k_ => (w.heap.size ≤ k_)) ho1 (below_size (by exact jB HB.out)) (fun k_ h_ => h_)) (rl HO195.out)) (rl HO198.out)) (rl HO203.out)) (rl HO206.out)) (below_size (by exact jB HB.out))); replace HO195 := Aside0.mk (Kd.R_mono (Kd.R_told (Kd.R_told (Kd.R_oldK (IsS59.apart (show IsS59 w _ g192 t190 t208 from by exact IsS59.j HI192.out) (by exact lR HO195.out) (by decide)) hk) (Kd.R_base ho0)) (Kd.R_base ho1)) (fun _ h_ => h_.1)); replace HO198 := Aside0.mk (Kd.R_mono (Kd.R_told (Kd.R_told (Kd.R_oldK (IsS59.apart (show IsS59 w _ g192 t190 t208 from by exact IsS59.j HI192.out) (by exact lR HO198.out) (by decide)) hk) (Kd.R_base ho0)) (Kd.R_base ho1)) (fun _ h_ => h_.1)); replace HO203 := Aside0.mk (Kd.R_mono (Kd.R_told (Kd.R_told (Kd.R_oldK (IsS59.apart (show IsS59 w _ g192 t190 t208 from by exact IsS59.j HI192.out) (by exact lR HO203.out) (by decide)) hk) (Kd.R_base ho0)) (Kd.R_base ho1)) (fun _ h_ => h_.1)); replace HO206 := Aside0.mk (Kd.R_mono (Kd.R_told (Kd.R_told (Kd.R_oldK (IsS59.apart (show IsS59 w _ g192 t190 t208 from by exact IsS59.j HI192.out) (by exact lR HO206.out) (by decide)) hk) (Kd.R_base ho0)) (Kd.R_base ho1)) (fun _ h_ => h_.1)); replace HB := Aside0.mk (hb); replace HI192 := Aside0.mk (hi); (try clear hb); (try clear hb2); (try clear hk); (try clear hi); (try clear ho0); (try clear ho1); obtain ⟨Ao15, co15, eo15⟩ := Kd.R_slice HO195.out; subst eo15; obtain ⟨Ao16, co16, eo16⟩ := Kd.R_slice HO198.out; subst eo16; obtain ⟨Ao17, co17, eo17⟩ := Kd.R_slice HO203.out; subst eo17; obtain ⟨Ao18, co18, eo18⟩ := Kd.R_slice HO206.out; subst eo18; obtain ⟨Ao19, co19, eo19⟩ := Kd.R_slice HO211.out; subst eo19; obtain ⟨Ao20, co20, eo20⟩ := Kd.R_slice HO214.out; subst eo20) | ((with_reducible refine gate_dst (N := 14) rfl ?_); refine Kd.N_lit k25 _ 25 ?hg (N' := 14) ?hd (xs := ([(⟨t193, t196, t199⟩ : S25), (⟨t201, t204, t207⟩ : S25), (⟨t209, t212, t215⟩ : S25)] : List (S25))) (inner := [.slice Ao15 t193.length co15, .slice Ao16 t196.length co16, .int .i64 t199, .slice Ao17 t201.length co17, .slice Ao18 t204.length co18, .int .i64 t207, .slice Ao19 t209.length co19, .slice Ao20 t212.length co20, .int .i64 t215]) (ok := (fun k_ => (w.heap.size ≤ k_) ∧ k_ ≠ gb189 ∧ k_ ≠ g192)) (okp := (fun k_ => (w.heap.size ≤ k_) ∧ k_ ≠ gb189 ∧ k_ ≠ g192)) ?hr ?hp (fun _ hk => hk) ((show ∀ k_, w14.heap.size ≤ k_ → (fun k_ => (w.heap.size ≤ k_) ∧ k_ ≠ gb189 ∧ k_ ≠ g192) k_ from fun k_ hk => ⟨(Nat.le_trans (below_size (by exact jB HB.out)) hk), Kd.freshB (g := gb189) (o := .cells #[.slice none 0 0, .slice none 0 0, .int .i64 0] 25 (0, 0)) (by exact lK BK189.out) k_ hk, IsS59.fresh (by exact IsS59.j HI192.out) k_ hk⟩) _ (Nat.le_refl _)) (Below.refl _ _) (Nat.le_refl _) (by simp) ?_; (case hd => rfl); (case hg => rfl); (case hr => first | (go_simp; done) | (go_simp; rfl)); (case hp => exact (Reps.c3 (show Kd.FK k25 _ _ (⟨t193, t196, t199⟩ : S25) [.slice Ao15 t193.length co15, .slice Ao16 t196.length co16, .int .i64 t199] from (k25_mkF _ _ (⟨t193, t196, t199⟩ : S25) (Kd.R_reads' (Kd.R_mono (ok' := (fun k_ => (w.heap.size ≤ k_) ∧ k_ ≠ gb189 ∧ k_ ≠ g192)) (IsS59.apart HI192.out (Kd.R_types (HO195.out) BK189.out (by decide)) (by decide)) (fun k_ hk => ⟨hk.1.1.1.1.1.1.1, ⟨hk.1.2, hk.2⟩⟩))).2.1 (Kd.R_F (Kd.R_mono (ok' := (fun k_ => (w.heap.size ≤ k_) ∧ k_ ≠ gb189 ∧ k_ ≠ g192)) (IsS59.apart HI192.out (Kd.R_types (HO195.out) BK189.out (by decide)) (by decide)) (fun k_ hk => ⟨hk.1.1.1.1.1.1.1, ⟨hk.1.2, hk.2⟩⟩))) (Kd.R_reads' (Kd.R_mono (ok' := (fun k_ => (w.heap.size ≤ k_) ∧ k_ ≠ gb189 ∧ k_ ≠ g192)) (IsS59.apart HI192.out (Kd.R_types (HO198.out) BK189.out (by decide)) (by decide)) (fun k_ hk => ⟨hk.1.1.1.1.1.1.1, ⟨hk.1.2, hk.2⟩⟩))).2.1 (Kd.R_F (Kd.R_mono (ok' := (fun k_ => (w.heap.size ≤ k_) ∧ k_ ≠ gb189 ∧ k_ ≠ g192)) (IsS59.apart HI192.out (Kd.R_types (HO198.out) BK189.out (by decide)) (by decide)) (fun k_ hk => ⟨hk.1.1.1.1.1.1.1, ⟨hk.1.2, hk.2⟩⟩))))) (Reps.c3 (show Kd.FK k25 _ _ (⟨t201, t204, t207⟩ : S25) [.slice Ao17 t201.length co17, .slice Ao18 t204.length co18, .int .i64 t207] from (k25_mkF _ _ (⟨t201, t204, t207⟩ : S25) (Kd.R_reads' (Kd.R_mono (ok' := (fun k_ => (w.heap.size ≤ k_) ∧ k_ ≠ gb189 ∧ k_ ≠ g192)) (IsS59.apart HI192.out (Kd.R_types (HO203.out) BK189.out (by decide)) (by decide)) (fun k_ hk => ⟨hk.1.1.1.1.1.1.1, ⟨hk.1.2, hk.2⟩⟩))).2.1 (Kd.R_F (Kd.R_mono (ok' := (fun k_ => (w.heap.size ≤ k_) ∧ k_ ≠ gb189 ∧ k_ ≠ g192)) (IsS59.apart HI192.out (Kd.R_types (HO203.out) BK189.out (by decide)) (by decide)) (fun k_ hk => ⟨hk.1.1.1.1.1.1.1, ⟨hk.1.2, hk.2⟩⟩))) (Kd.R_reads' (Kd.R_mono (ok' := (fun k_ => (w.heap.size ≤ k_) ∧ k_ ≠ gb189 ∧ k_ ≠ g192)) (IsS59.apart HI192.out (Kd.R_types (HO206.out) BK189.out (by decide)) (by decide)) (fun k_ hk => ⟨hk.1.1.1.1.1.1.1, ⟨hk.1.2, hk.2⟩⟩))).2.1 (Kd.R_F (Kd.R_mono (ok' := (fun k_ => (w.heap.size ≤ k_) ∧ k_ ≠ gb189 ∧ k_ ≠ g192)) (IsS59.apart HI192.out (Kd.R_types (HO206.out) BK189.out (by decide)) (by decide)) (fun k_ hk => ⟨hk.1.1.1.1.1.1.1, ⟨hk.1.2, hk.2⟩⟩))))) (Reps.c3 (show Kd.FK k25 _ _ (⟨t209, t212, t215⟩ : S25) [.slice Ao19 t209.length co19, .slice Ao20 t212.length co20, .int .i64 t215] from (k25_mkF _ _ (⟨t209, t212, t215⟩ : S25) (Kd.R_reads' (Kd.R_mono (ok' := (fun k_ => (w.heap.size ≤ k_) ∧ k_ ≠ gb189 ∧ k_ ≠ g192)) (IsS59.apart HI192.out (Kd.R_types (HO211.out) BK189.out (by decide)) (by decide)) (fun k_ hk => ⟨hk.1.1.1.1.1.1.1, ⟨hk.1.2, hk.2⟩⟩))).2.1 (Kd.R_F (Kd.R_mono (ok' := (fun k_ => (w.heap.size ≤ k_) ∧ k_ ≠ gb189 ∧ k_ ≠ g192)) (IsS59.apart HI192.out (Kd.R_types (HO211.out) BK189.out (by decide)) (by decide)) (fun k_ hk => ⟨hk.1.1.1.1.1.1.1, ⟨hk.1.2, hk.2⟩⟩))) (Kd.R_reads' (Kd.R_mono (ok' := (fun k_ => (w.heap.size ≤ k_) ∧ k_ ≠ gb189 ∧ k_ ≠ g192)) (IsS59.apart HI192.out (Kd.R_types (HO214.out) BK189.out (by decide)) (by decide)) (fun k_ hk => ⟨hk.1.1.1.1.1.1.1, ⟨hk.1.2, hk.2⟩⟩))).2.1 (Kd.R_F (Kd.R_mono (ok' := (fun k_ => (w.heap.size ≤ k_) ∧ k_ ≠ gb189 ∧ k_ ≠ g192)) (IsS59.apart HI192.out (Kd.R_types (HO214.out) BK189.out (by decide)) (by decide)) (fun k_ hk => ⟨hk.1.1.1.1.1.1.1, ⟨hk.1.2, hk.2⟩⟩))))) (Reps.none _ _))))); intro v218 w21 ho22 hb hg_ hnew_; clear hg_ hnew_; (first | rw [← Ny217.out] at ho22 | (simp only [Int.reduceToNat] at ho22; rw [← Ny217.out] at ho22)); have HO219 := Aside0.mk (Kd.N_lower ho22 (below_size (by exact jB HB.out))); replace BK189 := Aside0.mk (bb BK189.out hb); replace HI192 := Aside0.mk (IsS59.below (by exact IsS59.j HI192.out) hb); replace HB := Aside0.mk (below_step (by exact jB HB.out) hb); clear HO195 HO198 HO203 HO206 HO211 HO214 hb ho22) | ((with_reducible refine gate_callee (f := 22) rfl ?_); refine goesL_ (some 16) rfl rfl Try.func22 (by kernel_rfl) rfl #[.pointer (some ⟨g192, 0, none⟩), .int .i64 12] rfl (by (try simp only [mA, mC, mN]); first | done | rfl | (simp only [ld, lt]; rfl)) ?_; (with_reducible refine (spec_l20Rd_pick.calls k g192 t190 t216 12 t220 t221 w _ ?side1 ?side2 A6.out).mono ?_); (case side1 => exact IsS59.j HI192.out); (case side2 => exact jB HB.out); rintro e w23 ⟨rfl, hi, hb, hk⟩; refine ⟨_, rfl, ?_⟩; replace BK189 := Aside0.mk (kb hk BK189.out NB189_192.out); replace HO219 := Aside0.mk (Kd.N_mono (Kd.N_keep (Kd.N_mono (ok := fun k_ => (((w.heap.size ≤ k_)) ∧ (k_ ≠ gb189 ∧ k_ ≠ g192))) (by (with_reducible repeat (first | apply Kd.N_alloc | apply Kd.N_drewN | apply Kd.N_drew)); exact HO219.out) (fun k_ hk_ => (⟨hk_, hk_.2.2⟩ : _ ∧ k_ ≠ g192))) hk (fun _ h => h.2)) (fun _ h => h.1)); replace HB := Aside0.mk (hb); replace HI192 := Aside0.mk (hi); (try clear hb); (try clear hb2); (try clear hk); (try clear hi); obtain ⟨Ao24, co24, eo24⟩ := Kd.N_slice HO219.out; subst eo24; have q25 : (2 : Int) ≤ ((y217.length : Int) : Int) := of_decide_eq_true (by first | (with_reducible assumption) | assumption); obtain ⟨i025, hi025, _, hsz25, _⟩ := info_parts info25; have hcut25 := cut_to (P := Try.prog) 26 25 .i64 Try.underlying26 hi025 Ao24 y217.length co24 2 (by omega) q25 (Kd.N_reads' HO219.out).2.1; have hr25 := Kd.N_take (m := (2 : Int).toNat) HO219.out (by omega); have hy25 : y222.length = (2 : Int).toNat := (by rw [Ny222.out, List.length_take]; omega); rw [← Ny222.out] at hr25; rw [← hy25] at hr25 hcut25; clear hy25 hi025 hsz25 HO219; have HO224 := Aside0.mk hr25; clear hr25; replace q25 := eq_true q25) | ((with_reducible refine gate_callee (f := 21) rfl ?_); refine goesL_ (some 21) rfl rfl Try.func21 (by kernel_rfl) rfl #[.pointer (some ⟨g192, 0, none⟩), .int .i64 12] rfl (by (try simp only [mA, mC, mN]); first | done | rfl | (simp only [ld, lt]; rfl)) ?_; (with_reducible refine (spec_l20Form.calls k g192 t190 t221 12 t225 t228 t231 t232 w _ ?side1 ?side2 A9.out).mono ?_); (case side1 => exact IsS59.j HI192.out); (case side2 => exact jB HB.out); rintro e w26 ⟨v226, v229, rfl, ho0, ho1, hi, hb, hk⟩; refine ⟨_, rfl, ?_⟩; replace BK189 := Aside0.mk (kb hk BK189.out NB189_192.out); replace HO224 := Aside0.mk (Kd.N_mono (Kd.N_told (Kd.N_told (Kd.N_oldK (Kd.N_mono (ok := fun k_ => (((w.heap.size ≤ k_)) ∧ (k_ ≠ gb189 ∧ k_ ≠ g192))) (by (with_reducible repeat (first | apply Kd.N_alloc | apply Kd.N_drewN | apply Kd.N_drew)); exact HO224.out) (fun k_ hk_ => (⟨hk_, hk_.2.2⟩ : _ ∧ k_ ≠ g192))) hk) (Kd.R_base ho0)) (Kd.R_base ho1)) (fun _ h_ => h_.1)); have HO227 := Aside0.mk (Kd.R_lower (Kd.R_newM (M := fun k_ => (w.heap.size ≤ k_)) ho0 (below_size (by exact jB HB.out)) (fun k_ h_ => h_)) (below_size (by exact jB HB.out))); have HO230 := Aside0.mk (Kd.R_lower (Kd.R_newM (M := fun k_ => (w.heap.size ≤ k_)) ho1 (below_size (by exact jB HB.out)) (fun k_ h_ => h_)) (below_size (by exact jB HB.out))); replace HB := Aside0.mk (hb); replace HI192 := Aside0.mk (hi); (try clear hb); (try clear hb2); (try clear hk); (try clear hi); (try clear ho0); (try clear ho1); obtain ⟨Ao27, co27, eo27⟩ := Kd.R_slice HO227.out; subst eo27; have hnb28 := NB189_192.out; have hnc28 := NB192_189.out; obtain ⟨hcz29_0, hcz29_1, hcz29_2, hfz29_0, hfz29_1, hfz29_2⟩ := cf3 BK189.out; obtain ⟨Ao30, co30, eo30⟩ := Kd.R_slice HO230.out; subst eo30))
   refine bodyPost_ret (results_ct rfl _ _ gb189 25 #[.slice Ao27 t225.length co27, .slice Ao30 t228.length co30, .int .i64 t231] (0, 0) _ rfl (by (with_reducible repeat first | refine kN ?_ _ | refine kD ?_ | refine kA ?_ _); refine blk_put (cs := #[.slice Ao27 t225.length co27, .slice Ao30 t228.length co30, .int .i64 0]) ?_ 2 _ rfl; (with_reducible repeat first | refine kN ?_ _ | refine kD ?_ | refine kA ?_ _); refine blk_put (cs := #[.slice Ao27 t225.length co27, .slice none 0 0, .int .i64 0]) ?_ 1 _ rfl; (with_reducible repeat first | refine kN ?_ _ | refine kD ?_ | refine kA ?_ _); refine blk_put (cs := #[.slice none 0 0, .slice none 0 0, .int .i64 0]) ?_ 0 _ rfl; exact lK BK189.out) Try.underlying25 rfl (by kernel_rfl)) rfl ?_
   exact ⟨_, _, _, by first | rfl | (simp [errW_none, errW_some] <;> rfl) | (simp [*, errW_none, errW_some] <;> rfl), by exact lR <| Kd.R_mono (Kd.R_far (p := ⟨gb189, 2, none⟩) (Kd.R_far (p := ⟨gb189, 1, none⟩) (Kd.R_far (p := ⟨gb189, 0, none⟩) (Kd.R_types HO227.out BK189.out (by decide)) (fun _ hk => by first | exact hk.2 | exact fun e_ => hk.2 (e_.trans (ob _ _ _ _))) (.slice Ao27 t225.length co27)) (fun _ hk => by first | exact hk.2 | exact fun e_ => hk.2 (e_.trans (ob _ _ _ _))) (.slice Ao30 t228.length co30)) (fun _ hk => by first | exact hk.2 | exact fun e_ => hk.2 (e_.trans (ob _ _ _ _))) (.int .i64 t231)) (fun _ hk => ⟨hk.1.1, hk.1.2⟩), by exact lR <| Kd.R_mono (Kd.R_far (p := ⟨gb189, 2, none⟩) (Kd.R_far (p := ⟨gb189, 1, none⟩) (Kd.R_far (p := ⟨gb189, 0, none⟩) (Kd.R_types HO230.out BK189.out (by decide)) (fun _ hk => by first | exact hk.2 | exact fun e_ => hk.2 (e_.trans (ob _ _ _ _))) (.slice Ao27 t225.length co27)) (fun _ hk => by first | exact hk.2 | exact fun e_ => hk.2 (e_.trans (ob _ _ _ _))) (.slice Ao30 t228.length co30)) (fun _ hk => by first | exact hk.2 | exact fun e_ => hk.2 (e_.trans (ob _ _ _ _))) (.int .i64 t231)) (fun _ hk => ⟨hk.1.1, hk.1.2⟩), by (with_reducible repeat (first | apply Kd.N_alloc | apply Kd.N_drewN | apply Kd.N_drew)); exact Kd.N_mono (Kd.N_far (p := ⟨gb189, 2, none⟩) (Kd.N_far (p := ⟨gb189, 1, none⟩) (Kd.N_far (p := ⟨gb189, 0, none⟩) (Kd.N_mono HO224.out (fun k_ hk => (⟨hk, hk.1.1.2.1⟩ : _ ∧ k_ ≠ gb189))) (fun _ hk => by first | exact hk.2 | exact fun e_ => hk.2 (e_.trans (ob _ _ _ _))) (.slice Ao27 t225.length co27)) (fun _ hk => by first | exact hk.2 | exact fun e_ => hk.2 (e_.trans (ob _ _ _ _))) (.slice Ao30 t228.length co30)) (fun _ hk => by first | exact hk.2 | exact fun e_ => hk.2 (e_.trans (ob _ _ _ _))) (.int .i64 t231)) (fun _ hk => ⟨hk.1.1.1.1, ⟨hk.1.1.2, hk.1.2⟩⟩), by exact jB HB.out⟩
  ·rw [if_neg c8] at H
   exact absurd H (by simp)
 ·rw [if_neg c7] at H
  have c7b0 : (t220 == 0) = false := beq_eq_false_iff_ne.mpr c7
  have c7b1 : (t220 != 0) = true := bne_iff_ne.mpr c7
  replace H := Option.bind_eq_some_iff.mp H
  obtain ⟨⟨t233, t236, t239, t240⟩, A310, H⟩ := H
  replace H : (some (t233, t236, t239, y217)) = some (r1, r2, r3, r4) := H
  have A31 := Aside0.mk A310
  clear A310
  simp only [Option.some.injEq, Prod.mk.injEq] at H
  obtain ⟨rfl, rfl, rfl, rfl⟩ := H
  go_enter Try.func5, Try.ntmps5
  go_wp2_with (first | ((with_reducible refine gate_dst (N := 2) rfl ?_); refine box_event ?hg (N := 2) ?hd (cs := #[.slice none 0 0, .slice none 0 0, .int .i64 0]) (t := 25) ?hr ?_; (case hd => rfl); (case hg => rfl); (case hr => first | (go_simp; done) | (go_simp; rfl)); intro gb189 hg w32 hbox hb; have BK189 := Aside0.mk (hbox); have GW189 := Aside0.mk ((by rw [hg]; exact (below_size (by exact lB HB.out)) : w.heap.size ≤ gb189)); have IGW189 : Nonempty _ := ⟨GW189.out⟩; have GE189 := Aside0.mk ((by rw [hg]; exact (below_size (by exact lB HB.out)) : w.heap.size ≤ gb189)); have IGE189 : Nonempty _ := ⟨GE189.out⟩; replace HB := Aside0.mk (below_step (by exact lB HB.out) hb); clear hb hbox hg) | ((with_reducible refine gate_callee (f := 20) rfl ?_); refine goesL_ (some 7) rfl rfl Try.func20 (by kernel_rfl) rfl #[.slice A0 l0.length c0] rfl (by (try simp only [mA, mC, mN]); first | done | rfl | (simp only [ld, lt]; rfl)) ?_; (with_reducible refine (spec_l20Open.calls _ _ l0 t190 t191 w _ ?side1 ?side2 ?side3 A2.out).mono ?_); (case side1 => exact jB HB.out); (case side2 => exact HR0.out); (case side3 => exact HC0.out); rintro e w33 ⟨g192, rfl, hi, hb, hb2⟩; refine ⟨_, rfl, ?_⟩; replace HB := Aside0.mk (hb); have HI192 := Aside0.mk (hi); have NB192_189 := Aside0.mk (IsS59.ne_blk hi (blk_below (g := gb189) (o := .cells #[.slice none 0 0, .slice none 0 0, .int .i64 0] 25 (0, 0)) (by exact lK BK189.out) hb2) (by decide)); have INB192_189 : Nonempty _ := ⟨NB192_189.out⟩; have NB189_192 := Aside0.mk (Ne.symm (IsS59.ne_blk hi (blk_below (g := gb189) (o := .cells #[.slice none 0 0, .slice none 0 0, .int .i64 0] 25 (0, 0)) (by exact lK BK189.out) hb2) (by decide))); have INB189_192 : Nonempty _ := ⟨NB189_192.out⟩; replace BK189 := Aside0.mk (blk_below (g := gb189) (o := .cells #[.slice none 0 0, .slice none 0 0, .int .i64 0] 25 (0, 0)) (by exact lK BK189.out) hb2); (try clear hb); (try clear hb2); (try clear hk); (try clear hi)) | ((with_reducible refine gate_callee (f := 21) rfl ?_); refine goesL_ (some 9) rfl rfl Try.func21 (by kernel_rfl) rfl #[.pointer (some ⟨g192, 0, none⟩), .int .i64 24] rfl (by (try simp only [mA, mC, mN]); first | done | rfl | (simp only [ld, lt]; rfl)) ?_; (with_reducible refine (spec_l20Form.calls k g192 t190 t191 24 t193 t196 t199 t200 w _ ?side1 ?side2 A3.out).mono ?_); (case side1 => exact IsS59.j HI192.out); (case side2 => exact jB HB.out); rintro e w34 ⟨v194, v197, rfl, ho0, ho1, hi, hb, hk⟩; refine ⟨_, rfl, ?_⟩; replace BK189 := Aside0.mk (kb hk BK189.out NB189_192.out); have HO195 := Aside0.mk (Kd.R_lower (Kd.R_newM (M := fun k_ => (w.heap.size ≤ k_)) ho0 (below_size (by exact jB HB.out)) (fun k_ h_ => h_)) (below_size (by exact jB HB.out))); have HO198 := Aside0.mk (Kd.R_lower (Kd.R_newM (M := fun k_ => (w.heap.size ≤ k_)) ho1 (below_size (by exact jB HB.out)) (fun k_ h_ => h_)) (below_size (by exact jB HB.out))); replace HB := Aside0.mk (hb); replace HI192 := Aside0.mk (hi); (try clear hb); (try clear hb2); (try clear hk); (try clear hi); (try clear ho0); (try clear ho1)) | ((with_reducible refine gate_callee (f := 21) rfl ?_); refine goesL_ (some 11) rfl rfl Try.func21 (by kernel_rfl) rfl #[.pointer (some ⟨g192, 0, none⟩), .int .i64 24] rfl (by (try simp only [mA, mC, mN]); first | done | rfl | (simp only [ld, lt]; rfl)) ?_; (with_reducible refine (spec_l20Form.calls k g192 t190 t200 24 t201 t204 t207 t208 w _ ?side1 ?side2 A4.out).mono ?_); (case side1 => exact IsS59.j HI192.out); (case side2 => exact jB HB.out); rintro e w35 ⟨v202, v205, rfl, ho0, ho1, hi, hb, hk⟩; refine ⟨_, rfl, ?_⟩; replace BK189 := Aside0.mk (kb hk BK189.out NB189_192.out); have HO203 := Aside0.mk (Kd.R_lower (Kd.R_new' (Kd.R_new' (Kd.R_newM (M := fun k_ => (w.heap.size ≤ k_)) ho0 (below_size (by exact jB HB.out)) (fun k_ h_ => h_)) (rl HO195.out)) (rl HO198.out)) (below_size (by exact jB HB.out))); have HO206 := Aside0.mk (Kd.R_lower (Kd.R_new' (Kd.R_new' (Kd.R_newM (M := fun k_ => (w.heap.size ≤ k_)) ho1 (below_size (by exact jB HB.out)) (fun k_ h_ => h_)) (rl HO195.out)) (rl HO198.out)) (below_size (by exact jB HB.out))); replace HO195 := Aside0.mk (Kd.R_mono (Kd.R_told (Kd.R_told (Kd.R_oldK (IsS59.apart (show IsS59 w _ g192 t190 t200 from by exact IsS59.j HI192.out) (by exact lR HO195.out) (by decide)) hk) (Kd.R_base ho0)) (Kd.R_base ho1)) (fun _ h_ => h_.1)); replace HO198 := Aside0.mk (Kd.R_mono (Kd.R_told (Kd.R_told (Kd.R_oldK (IsS59.apart (show IsS59 w _ g192 t190 t200 from by exact IsS59.j HI192.out) (by exact lR HO198.out) (by decide)) hk) (Kd.R_base ho0)) (Kd.R_base ho1)) (fun _ h_ => h_.1)); replace HB := Aside0.mk (hb); replace HI192 := Aside0.mk (hi); (try clear hb); (try clear hb2); (try clear hk); (try clear hi); (try clear ho0); (try clear ho1)) | ((with_reducible refine gate_callee (f := 21) rfl ?_); refine goesL_ (some 13) rfl rfl Try.func21 (by kernel_rfl) rfl #[.pointer (some ⟨g192, 0, none⟩), .int .i64 24] rfl (by (try simp only [mA, mC, mN]); first | done | rfl | (simp only [ld, lt]; rfl)) ?_; (with_reducible refine (spec_l20Form.calls k g192 t190 t208 24 t209 t212 t215 t216 w _ ?side1 ?side2 A5.out).mono ?_); (case side1 => exact IsS59.j HI192.out); (case side2 => exact jB HB.out); rintro e w36 ⟨v210, v213, rfl, ho0, ho1, hi, hb, hk⟩; refine ⟨_, rfl, ?_⟩; replace BK189 := Aside0.mk (kb hk BK189.out NB189_192.out); have HO211 := Aside0.mk (Kd.R_lower (Kd.R_new' (Kd.R_new' (Kd.R_new' (Kd.R_new' (Kd.R_newM (M := fun k_ => (w.heap.size ≤ k_)) ho0 (below_size (by exact jB HB.out)) (fun k_ h_ => h_)) (rl HO195.out)) (rl HO198.out)) (rl HO203.out)) (rl HO206.out)) (below_size (by exact jB HB.out))); have HO214 := Aside0.mk (Kd.R_lower (Kd.R_new' (Kd.R_new' (Kd.R_new' (Kd.R_new' (Kd.R_newM (M := fun k_ => (w.heap.size ≤ k_)) ho1 (below_size (by exact jB HB.out)) (fun k_ h_ => h_)) (rl HO195.out)) (rl HO198.out)) (rl HO203.out)) (rl HO206.out)) (below_size (by exact jB HB.out))); replace HO195 := Aside0.mk (Kd.R_mono (Kd.R_told (Kd.R_told (Kd.R_oldK (IsS59.apart (show IsS59 w _ g192 t190 t208 from by exact IsS59.j HI192.out) (by exact lR HO195.out) (by decide)) hk) (Kd.R_base ho0)) (Kd.R_base ho1)) (fun _ h_ => h_.1)); replace HO198 := Aside0.mk (Kd.R_mono (Kd.R_told (Kd.R_told (Kd.R_oldK (IsS59.apart (show IsS59 w _ g192 t190 t208 from by exact IsS59.j HI192.out) (by exact lR HO198.out) (by decide)) hk) (Kd.R_base ho0)) (Kd.R_base ho1)) (fun _ h_ => h_.1)); replace HO203 := Aside0.mk (Kd.R_mono (Kd.R_told (Kd.R_told (Kd.R_oldK (IsS59.apart (show IsS59 w _ g192 t190 t208 from by exact IsS59.j HI192.out) (by exact lR HO203.out) (by decide)) hk) (Kd.R_base ho0)) (Kd.R_base ho1)) (fun _ h_ => h_.1)); replace HO206 := Aside0.mk (Kd.R_mono (Kd.R_told (Kd.R_told (Kd.R_oldK (IsS59.apart (show IsS59 w _ g192 t190 t208 from by exact IsS59.j HI192.out) (by exact lR HO206.out) (by decide)) hk) (Kd.R_base ho0)) (Kd.R_base ho1)) (fun _ h_ => h_.1)); replace HB := Aside0.mk (hb); replace HI192 := Aside0.mk (hi); (try clear hb); (try clear hb2); (try clear hk); (try clear hi); (try clear ho0); (try clear ho1); obtain ⟨Ao37, co37, eo37⟩ := Kd.R_slice HO195.out; subst eo37; obtain ⟨Ao38, co38, eo38⟩ := Kd.R_slice HO198.out; subst eo38; obtain ⟨Ao39, co39, eo39⟩ := Kd.R_slice HO203.out; subst eo39; obtain ⟨Ao40, co40, eo40⟩ := Kd.R_slice HO206.out; subst eo40; obtain ⟨Ao41, co41, eo41⟩ := Kd.R_slice HO211.out; subst eo41; obtain ⟨Ao42, co42, eo42⟩ := Kd.R_slice HO214.out; subst eo42) | ((with_reducible refine gate_dst (N := 14) rfl ?_); refine Kd.N_lit k25 _ 25 ?hg (N' := 14) ?hd (xs := ([(⟨t193, t196, t199⟩ : S25), (⟨t201, t204, t207⟩ : S25), (⟨t209, t212, t215⟩ : S25)] : List (S25))) (inner := [.slice Ao37 t193.length co37, .slice Ao38 t196.length co38, .int .i64 t199, .slice Ao39 t201.length co39, .slice Ao40 t204.length co40, .int .i64 t207, .slice Ao41 t209.length co41, .slice Ao42 t212.length co42, .int .i64 t215]) (ok := (fun k_ => (w.heap.size ≤ k_) ∧ k_ ≠ gb189 ∧ k_ ≠ g192)) (okp := (fun k_ => (w.heap.size ≤ k_) ∧ k_ ≠ gb189 ∧ k_ ≠ g192)) ?hr ?hp (fun _ hk => hk) ((show ∀ k_, w36.heap.size ≤ k_ → (fun k_ => (w.heap.size ≤ k_) ∧ k_ ≠ gb189 ∧ k_ ≠ g192) k_ from fun k_ hk => ⟨(Nat.le_trans (below_size (by exact jB HB.out)) hk), Kd.freshB (g := gb189) (o := .cells #[.slice none 0 0, .slice none 0 0, .int .i64 0] 25 (0, 0)) (by exact lK BK189.out) k_ hk, IsS59.fresh (by exact IsS59.j HI192.out) k_ hk⟩) _ (Nat.le_refl _)) (Below.refl _ _) (Nat.le_refl _) (by simp) ?_; (case hd => rfl); (case hg => rfl); (case hr => first | (go_simp; done) | (go_simp; rfl)); (case hp => exact (Reps.c3 (show Kd.FK k25 _ _ (⟨t193, t196, t199⟩ : S25) [.slice Ao37 t193.length co37, .slice Ao38 t196.length co38, .int .i64 t199] from (k25_mkF _ _ (⟨t193, t196, t199⟩ : S25) (Kd.R_reads' (Kd.R_mono (ok' := (fun k_ => (w.heap.size ≤ k_) ∧ k_ ≠ gb189 ∧ k_ ≠ g192)) (IsS59.apart HI192.out (Kd.R_types (HO195.out) BK189.out (by decide)) (by decide)) (fun k_ hk => ⟨hk.1.1.1.1.1.1.1, ⟨hk.1.2, hk.2⟩⟩))).2.1 (Kd.R_F (Kd.R_mono (ok' := (fun k_ => (w.heap.size ≤ k_) ∧ k_ ≠ gb189 ∧ k_ ≠ g192)) (IsS59.apart HI192.out (Kd.R_types (HO195.out) BK189.out (by decide)) (by decide)) (fun k_ hk => ⟨hk.1.1.1.1.1.1.1, ⟨hk.1.2, hk.2⟩⟩))) (Kd.R_reads' (Kd.R_mono (ok' := (fun k_ => (w.heap.size ≤ k_) ∧ k_ ≠ gb189 ∧ k_ ≠ g192)) (IsS59.apart HI192.out (Kd.R_types (HO198.out) BK189.out (by decide)) (by decide)) (fun k_ hk => ⟨hk.1.1.1.1.1.1.1, ⟨hk.1.2, hk.2⟩⟩))).2.1 (Kd.R_F (Kd.R_mono (ok' := (fun k_ => (w.heap.size ≤ k_) ∧ k_ ≠ gb189 ∧ k_ ≠ g192)) (IsS59.apart HI192.out (Kd.R_types (HO198.out) BK189.out (by decide)) (by decide)) (fun k_ hk => ⟨hk.1.1.1.1.1.1.1, ⟨hk.1.2, hk.2⟩⟩))))) (Reps.c3 (show Kd.FK k25 _ _ (⟨t201, t204, t207⟩ : S25) [.slice Ao39 t201.length co39, .slice Ao40 t204.length co40, .int .i64 t207] from (k25_mkF _ _ (⟨t201, t204, t207⟩ : S25) (Kd.R_reads' (Kd.R_mono (ok' := (fun k_ => (w.heap.size ≤ k_) ∧ k_ ≠ gb189 ∧ k_ ≠ g192)) (IsS59.apart HI192.out (Kd.R_types (HO203.out) BK189.out (by decide)) (by decide)) (fun k_ hk => ⟨hk.1.1.1.1.1.1.1, ⟨hk.1.2, hk.2⟩⟩))).2.1 (Kd.R_F (Kd.R_mono (ok' := (fun k_ => (w.heap.size ≤ k_) ∧ k_ ≠ gb189 ∧ k_ ≠ g192)) (IsS59.apart HI192.out (Kd.R_types (HO203.out) BK189.out (by decide)) (by decide)) (fun k_ hk => ⟨hk.1.1.1.1.1.1.1, ⟨hk.1.2, hk.2⟩⟩))) (Kd.R_reads' (Kd.R_mono (ok' := (fun k_ => (w.heap.size ≤ k_) ∧ k_ ≠ gb189 ∧ k_ ≠ g192)) (IsS59.apart HI192.out (Kd.R_types (HO206.out) BK189.out (by decide)) (by decide)) (fun k_ hk => ⟨hk.1.1.1.1.1.1.1, ⟨hk.1.2, hk.2⟩⟩))).2.1 (Kd.R_F (Kd.R_mono (ok' := (fun k_ => (w.heap.size ≤ k_) ∧ k_ ≠ gb189 ∧ k_ ≠ g192)) (IsS59.apart HI192.out (Kd.R_types (HO206.out) BK189.out (by decide)) (by decide)) (fun k_ hk => ⟨hk.1.1.1.1.1.1.1, ⟨hk.1.2, hk.2⟩⟩))))) (Reps.c3 (show Kd.FK k25 _ _ (⟨t209, t212, t215⟩ : S25) [.slice Ao41 t209.length co41, .slice Ao42 t212.length co42, .int .i64 t215] from (k25_mkF _ _ (⟨t209, t212, t215⟩ : S25) (Kd.R_reads' (Kd.R_mono (ok' := (fun k_ => (w.heap.size ≤ k_) ∧ k_ ≠ gb189 ∧ k_ ≠ g192)) (IsS59.apart HI192.out (Kd.R_types (HO211.out) BK189.out (by decide)) (by decide)) (fun k_ hk => ⟨hk.1.1.1.1.1.1.1, ⟨hk.1.2, hk.2⟩⟩))).2.1 (Kd.R_F (Kd.R_mono (ok' := (fun k_ => (w.heap.size ≤ k_) ∧ k_ ≠ gb189 ∧ k_ ≠ g192)) (IsS59.apart HI192.out (Kd.R_types (HO211.out) BK189.out (by decide)) (by decide)) (fun k_ hk => ⟨hk.1.1.1.1.1.1.1, ⟨hk.1.2, hk.2⟩⟩))) (Kd.R_reads' (Kd.R_mono (ok' := (fun k_ => (w.heap.size ≤ k_) ∧ k_ ≠ gb189 ∧ k_ ≠ g192)) (IsS59.apart HI192.out (Kd.R_types (HO214.out) BK189.out (by decide)) (by decide)) (fun k_ hk => ⟨hk.1.1.1.1.1.1.1, ⟨hk.1.2, hk.2⟩⟩))).2.1 (Kd.R_F (Kd.R_mono (ok' := (fun k_ => (w.heap.size ≤ k_) ∧ k_ ≠ gb189 ∧ k_ ≠ g192)) (IsS59.apart HI192.out (Kd.R_types (HO214.out) BK189.out (by decide)) (by decide)) (fun k_ hk => ⟨hk.1.1.1.1.1.1.1, ⟨hk.1.2, hk.2⟩⟩))))) (Reps.none _ _))))); intro v218 w43 ho44 hb hg_ hnew_; clear hg_ hnew_; (first | rw [← Ny217.out] at ho44 | (simp only [Int.reduceToNat] at ho44; rw [← Ny217.out] at ho44)); have HO219 := Aside0.mk (Kd.N_lower ho44 (below_size (by exact jB HB.out))); replace BK189 := Aside0.mk (bb BK189.out hb); replace HI192 := Aside0.mk (IsS59.below (by exact IsS59.j HI192.out) hb); replace HB := Aside0.mk (below_step (by exact jB HB.out) hb); clear HO195 HO198 HO203 HO206 HO211 HO214 hb ho44) | ((with_reducible refine gate_callee (f := 22) rfl ?_); refine goesL_ (some 16) rfl rfl Try.func22 (by kernel_rfl) rfl #[.pointer (some ⟨g192, 0, none⟩), .int .i64 12] rfl (by (try simp only [mA, mC, mN]); first | done | rfl | (simp only [ld, lt]; rfl)) ?_; (with_reducible refine (spec_l20Rd_pick.calls k g192 t190 t216 12 t220 t221 w _ ?side1 ?side2 A6.out).mono ?_); (case side1 => exact IsS59.j HI192.out); (case side2 => exact jB HB.out); rintro e w45 ⟨rfl, hi, hb, hk⟩; refine ⟨_, rfl, ?_⟩; replace BK189 := Aside0.mk (kb hk BK189.out NB189_192.out); replace HO219 := Aside0.mk (Kd.N_mono (Kd.N_keep (Kd.N_mono (ok := fun k_ => (((w.heap.size ≤ k_)) ∧ (k_ ≠ gb189 ∧ k_ ≠ g192))) (by (with_reducible repeat (first | apply Kd.N_alloc | apply Kd.N_drewN | apply Kd.N_drew)); exact HO219.out) (fun k_ hk_ => (⟨hk_, hk_.2.2⟩ : _ ∧ k_ ≠ g192))) hk (fun _ h => h.2)) (fun _ h => h.1)); replace HB := Aside0.mk (hb); replace HI192 := Aside0.mk (hi); (try clear hb); (try clear hb2); (try clear hk); (try clear hi)) | ((with_reducible refine gate_callee (f := 21) rfl ?_); refine goesL_ (some 21) rfl rfl Try.func21 (by kernel_rfl) rfl #[.pointer (some ⟨g192, 0, none⟩), .int .i64 12] rfl (by (try simp only [mA, mC, mN]); first | done | rfl | (simp only [ld, lt]; rfl)) ?_; (with_reducible refine (spec_l20Form.calls k g192 t190 t221 12 t233 t236 t239 t240 w _ ?side1 ?side2 A31.out).mono ?_); (case side1 => exact IsS59.j HI192.out); (case side2 => exact jB HB.out); rintro e w46 ⟨v234, v237, rfl, ho0, ho1, hi, hb, hk⟩; refine ⟨_, rfl, ?_⟩; replace BK189 := Aside0.mk (kb hk BK189.out NB189_192.out); replace HO219 := Aside0.mk (Kd.N_mono (Kd.N_told (Kd.N_told (Kd.N_oldK (Kd.N_mono (ok := fun k_ => (((w.heap.size ≤ k_)) ∧ (k_ ≠ gb189 ∧ k_ ≠ g192))) (by (with_reducible repeat (first | apply Kd.N_alloc | apply Kd.N_drewN | apply Kd.N_drew)); exact HO219.out) (fun k_ hk_ => (⟨hk_, hk_.2.2⟩ : _ ∧ k_ ≠ g192))) hk) (Kd.R_base ho0)) (Kd.R_base ho1)) (fun _ h_ => h_.1)); have HO235 := Aside0.mk (Kd.R_lower (Kd.R_newM (M := fun k_ => (w.heap.size ≤ k_)) ho0 (below_size (by exact jB HB.out)) (fun k_ h_ => h_)) (below_size (by exact jB HB.out))); have HO238 := Aside0.mk (Kd.R_lower (Kd.R_newM (M := fun k_ => (w.heap.size ≤ k_)) ho1 (below_size (by exact jB HB.out)) (fun k_ h_ => h_)) (below_size (by exact jB HB.out))); replace HB := Aside0.mk (hb); replace HI192 := Aside0.mk (hi); (try clear hb); (try clear hb2); (try clear hk); (try clear hi); (try clear ho0); (try clear ho1); obtain ⟨Ao47, co47, eo47⟩ := Kd.R_slice HO235.out; subst eo47; have hnb48 := NB189_192.out; have hnc48 := NB192_189.out; obtain ⟨hcz49_0, hcz49_1, hcz49_2, hfz49_0, hfz49_1, hfz49_2⟩ := cf3 BK189.out; obtain ⟨Ao50, co50, eo50⟩ := Kd.R_slice HO238.out; subst eo50))
  refine bodyPost_ret (results_ct rfl _ _ gb189 25 #[.slice Ao47 t233.length co47, .slice Ao50 t236.length co50, .int .i64 t239] (0, 0) _ rfl (by (with_reducible repeat first | refine kN ?_ _ | refine kD ?_ | refine kA ?_ _); refine blk_put (cs := #[.slice Ao47 t233.length co47, .slice Ao50 t236.length co50, .int .i64 0]) ?_ 2 _ rfl; (with_reducible repeat first | refine kN ?_ _ | refine kD ?_ | refine kA ?_ _); refine blk_put (cs := #[.slice Ao47 t233.length co47, .slice none 0 0, .int .i64 0]) ?_ 1 _ rfl; (with_reducible repeat first | refine kN ?_ _ | refine kD ?_ | refine kA ?_ _); refine blk_put (cs := #[.slice none 0 0, .slice none 0 0, .int .i64 0]) ?_ 0 _ rfl; exact lK BK189.out) Try.underlying25 rfl (by kernel_rfl)) rfl ?_
  exact ⟨_, _, _, by first | rfl | (simp [errW_none, errW_some] <;> rfl) | (simp [*, errW_none, errW_some] <;> rfl), by exact lR <| Kd.R_mono (Kd.R_far (p := ⟨gb189, 2, none⟩) (Kd.R_far (p := ⟨gb189, 1, none⟩) (Kd.R_far (p := ⟨gb189, 0, none⟩) (Kd.R_types HO235.out BK189.out (by decide)) (fun _ hk => by first | exact hk.2 | exact fun e_ => hk.2 (e_.trans (ob _ _ _ _))) (.slice Ao47 t233.length co47)) (fun _ hk => by first | exact hk.2 | exact fun e_ => hk.2 (e_.trans (ob _ _ _ _))) (.slice Ao50 t236.length co50)) (fun _ hk => by first | exact hk.2 | exact fun e_ => hk.2 (e_.trans (ob _ _ _ _))) (.int .i64 t239)) (fun _ hk => ⟨hk.1.1, hk.1.2⟩), by exact lR <| Kd.R_mono (Kd.R_far (p := ⟨gb189, 2, none⟩) (Kd.R_far (p := ⟨gb189, 1, none⟩) (Kd.R_far (p := ⟨gb189, 0, none⟩) (Kd.R_types HO238.out BK189.out (by decide)) (fun _ hk => by first | exact hk.2 | exact fun e_ => hk.2 (e_.trans (ob _ _ _ _))) (.slice Ao47 t233.length co47)) (fun _ hk => by first | exact hk.2 | exact fun e_ => hk.2 (e_.trans (ob _ _ _ _))) (.slice Ao50 t236.length co50)) (fun _ hk => by first | exact hk.2 | exact fun e_ => hk.2 (e_.trans (ob _ _ _ _))) (.int .i64 t239)) (fun _ hk => ⟨hk.1.1, hk.1.2⟩), by (with_reducible repeat (first | apply Kd.N_alloc | apply Kd.N_drewN | apply Kd.N_drew)); exact Kd.N_mono (Kd.N_far (p := ⟨gb189, 2, none⟩) (Kd.N_far (p := ⟨gb189, 1, none⟩) (Kd.N_far (p := ⟨gb189, 0, none⟩) (Kd.N_mono HO219.out (fun k_ hk => (⟨hk, hk.1.1.2.1⟩ : _ ∧ k_ ≠ gb189))) (fun _ hk => by first | exact hk.2 | exact fun e_ => hk.2 (e_.trans (ob _ _ _ _))) (.slice Ao47 t233.length co47)) (fun _ hk => by first | exact hk.2 | exact fun e_ => hk.2 (e_.trans (ob _ _ _ _))) (.slice Ao50 t236.length co50)) (fun _ hk => by first | exact hk.2 | exact fun e_ => hk.2 (e_.trans (ob _ _ _ _))) (.int .i64 t239)) (fun _ hk => ⟨hk.1.1.1.1, ⟨hk.1.1.2, hk.1.2⟩⟩), by exact jB HB.out⟩

/-! ### spec_l20Vals: function 23 -/
def spec_l20Vals.l0 : Nat → Int → List Int → Int → List Int → Int → Option (List Int × Int)
 | 0, _, _, _, _, _ => none
 | k + 1, x1, x5, x6, x1000, x1001 => if x6 < 3 then ((some (([0, 1, 5, 20, (-3), 60, 10000, (-10000), 9996] : List Int) : List Int)).bind fun y244 => ((spec_l20Rd_pick.f k x1000 x1001 9).bind fun bt247 => (if 0 ≤ bt247.1 then (if bt247.1 < (y244.length : Int) then (if x5.length < 17592186044416 then (spec_l20Vals.l0 k x1 (x5 ++ [rd y244 bt247.1]) (wrap64 (x6 + 1)) x1000 bt247.2) else (none)) else (none)) else (none)))) else ((spec_l20Rd_pick.f k x1000 x1001 x1).bind fun bt253 => (if bt253.1 = 0 then ((spec_l20Rd_pick.f k x1000 bt253.2 3).bind fun bt255 => (if bt255.1 = 0 then (if 2 ≤ (x5.length : Int) then (some ((x5.take (2 : Int).toNat), bt255.2)) else (none)) else (if bt255.1 = 1 then (if x5.length < 17592186044416 then (some ((x5 ++ [0]), bt255.2)) else (none)) else ((spec_l20Rd_pick.f k x1000 bt255.2 3).bind fun bt263 => ((some (([10001, (-10001)] : List Int) : List Int)).bind fun y265 => ((spec_l20Rd_pick.f k x1000 bt263.2 2).bind fun bt268 => (if 0 ≤ bt268.1 then (if bt268.1 < (y265.length : Int) then (if 0 ≤ bt263.1 then (if bt263.1 < (x5.length : Int) then (some ((x5.set (bt263.1 : Int).toNat (rd y265 bt268.1)), bt268.2)) else (none)) else (none)) else (none)) else (none)))))))) else (some (x5, bt253.2))))
def spec_l20Vals.f (k : Nat) (s0_0 : List Int) (s0_1 : Int) (a1 : Int) : Option (List Int × Int) := spec_l20Vals.l0 k a1 (([] : List Int)) 0 s0_0 s0_1
theorem spec_l20Vals.mono_l : ∀ k, (∀ y0 y1 y2 y3 y4, LeO (spec_l20Vals.l0 k y0 y1 y2 y3 y4) (spec_l20Vals.l0 (k + 1) y0 y1 y2 y3 y4))
 | 0 => fun _ _ _ _ _ r h => by simp [spec_l20Vals.l0] at h
 | k + 1 => by
  have ih0 := spec_l20Vals.mono_l k
  ·intro y0 y1 y2 y3 y4
   unfold spec_l20Vals.l0
   repeat' first
   | (with_reducible exact ih0 _ _ _ _ _)
   | (with_reducible exact spec_l20Rd_pick.mono _ _ _ _)
   | (with_reducible exact LeO.refl _)
   | (with_reducible exact LeO.none _)
   | (with_reducible refine LeO.ite ?_ ?_)
   | (with_reducible refine LeO.bind ?_ (fun _ => ?_))
   | exact ih0 _ _ _ _ _
   | exact spec_l20Rd_pick.mono _ _ _ _
   | exact LeO.none _
   | refine LeO.ite ?_ ?_
   | refine LeO.bind ?_ (fun _ => ?_)
theorem spec_l20Vals.mono : ∀ a0 a1 a2 k, LeO (spec_l20Vals.f k a0 a1 a2) (spec_l20Vals.f (k + 1) a0 a1 a2) := by
 intro a0 a1 a2 k
 have ih0 := spec_l20Vals.mono_l k
 unfold spec_l20Vals.f
 repeat' first
   | (with_reducible exact ih0 _ _ _ _ _)
   | (with_reducible exact spec_l20Rd_pick.mono _ _ _ _)
   | (with_reducible exact LeO.refl _)
   | (with_reducible exact LeO.none _)
   | (with_reducible refine LeO.ite ?_ ?_)
   | (with_reducible refine LeO.bind ?_ (fun _ => ?_))
   | exact ih0 _ _ _ _ _
   | exact spec_l20Rd_pick.mono _ _ _ _
   | exact LeO.none _
   | refine LeO.ite ?_ ?_
   | refine LeO.bind ?_ (fun _ => ?_)
set_option maxHeartbeats 8000000 in
set_option maxRecDepth 100000 in
theorem spec_l20Vals.calls (k : Nat) (g : Nat) (s0_0 : List Int) (s0_1 : Int) (a1 : Int) (r1 : List Int) (r2 : Int) (w0 w : World) (hI : IsS59 w0 w g s0_0 s0_1) (hB : Below w0.heap.size w0 w) (h : spec_l20Vals.f k s0_0 s0_1 a1 = some (r1, r2)) :
  Calls Try.prog 23 #[.pointer (some ⟨g, 0, none⟩), .int .i64 a1] w fun e w' => ∃ v0_ : Value, e = .returned (v0_) ∧ Kd.R (Kd.int .i64) 3 w' w.heap.size (fun _ => True) v0_ r1 ∧ IsS59 w0 w' g s0_0 r2 ∧ Below w0.heap.size w0 w' ∧ KeepBut w w' g none := by
 have HI0 := Aside0.mk hI
 have IHI0 : Nonempty _ := ⟨IsS59.ge hI⟩
 have HK := Aside0.mk (KeepBut.refl w g none)
 have HL := Aside0.mk hB.size
 clear hI
 have HW0 := Aside0.mk hB.size
 have HB := Aside0.mk hB
 clear hB
 have H : (spec_l20Vals.l0 k a1 (([] : List Int)) 0 s0_0 s0_1) = some (r1, r2) := h
 clear h
 obtain ⟨y241, hy241⟩ : ∃ y_ : List Int, y_ = (([] : List Int)) := ⟨_, rfl⟩
 replace H : (spec_l20Vals.l0 k a1 y241 0 s0_0 s0_1) = some (r1, r2) := by first | (rw [hy241]; with_reducible exact H) | (have H2_ := (Option.bind_some _ _).symm.trans H; rw [hy241]; with_reducible exact H2_) | (have H2_ := (Option.bind_some _ _).symm.trans H; with_reducible exact H2_) | with_reducible exact H | (rw [hy241]; exact H) | exact H
 have Ny241 := Aside0.mk hy241
 clear hy241
 have H' := Aside0.mk H
 clear H
 go_enter Try.func23, Try.ntmps23
 go_wp2_with (first | ((with_reducible refine gate_dst (N := 7) rfl ?_); refine Kd.R_lit (Kd.int .i64) _ 3 ?hg (N := 7) ?hd (xs := ([] : List Int)) (inner := []) (ok := fun _ => True) (okp := fun _ => True) ?hr ?hp (fun _ hk => hk) trivial (Below.refl _ _) (Nat.le_refl _) (by simp) ?_; (case hd => rfl); (case hg => rfl); (case hr => first | (go_simp; done) | (go_simp; rfl)); (case hp => exact (Reps.none _ _)); intro v242 w3 ho4 hb hg_ hnew_; clear hg_ hnew_; (first | rw [← Ny241.out] at ho4 | (simp only [Int.reduceToNat] at ho4; rw [← Ny241.out] at ho4)); have HO243 := Aside0.mk (Kd.R_lower ho4 (keep_size (w := w) (g := g) (row := none) (by exact jK HK.out))); replace HI0 := Aside0.mk (IsS59.below (by exact IsS59.j HI0.out) hb); replace HK := Aside0.mk (KeepBut.trans (by exact jK HK.out) (KeepBut.of_below hb g none) (.inl rfl)); replace HB := Aside0.mk (below_step (by exact jB HB.out) hb); clear hb ho4))
 go_loopg [5, 6] k (fun kq v5 v6 w' => ∃ (x5_1 : List Int) (x6_1 : Int) (x1001_1 : Int), v6 = .int .i64 x6_1 ∧ Aside0 (spec_l20Vals.l0 kq a1 x5_1 x6_1 s0_0 x1001_1 = some (r1, r2)) ∧ Aside0 (kq ≤ k) ∧ Aside0 (Kd.R (Kd.int .i64) 3 w' w.heap.size (fun _ => True) v5 x5_1) ∧ Aside0 (IsS59 w0 w' g s0_0 x1001_1) ∧ Aside0 (KeepBut w w' g none) ∧ Aside0 (Below w0.heap.size w0 w'))
 case atStart => exact ⟨(y241), (0), (s0_1), (by first | rfl | (simp; done) | (simp [*]; done)), H', ⟨Nat.le_refl _⟩, ⟨by exact lR <| HO243.out⟩, ⟨by exact IsS59.j HI0.out⟩, ⟨by exact jK HK.out⟩, ⟨by exact jB HB.out⟩⟩
 case round =>
  clear H'
  try clear c2
  try clear p2
  obtain ⟨x5_1, x6_1, x1001_1, rfl, HA, HK1, HO_5, HI0, HK, HB⟩ := hrel
  cases gk with
  | zero => exact absurd HA.out (by simp [spec_l20Vals.l0])
  | succ k1 =>
   have H := HA.out
   clear HA
   simp only [spec_l20Vals.l0] at H
   by_cases c5 : x6_1 < 3
   ·rw [if_pos c5] at H
    have c5b0 : decide (x6_1 < 3) = true := decide_eq_true c5
    clear c5
    obtain ⟨y244, hy244⟩ : ∃ y_ : List Int, y_ = (([0, 1, 5, 20, (-3), 60, 10000, (-10000), 9996] : List Int)) := ⟨_, rfl⟩
    replace H : ((spec_l20Rd_pick.f k1 s0_0 x1001_1 9).bind fun bt247 => (if 0 ≤ bt247.1 then (if bt247.1 < (y244.length : Int) then (if x5_1.length < 17592186044416 then (spec_l20Vals.l0 k1 a1 (x5_1 ++ [rd y244 bt247.1]) (wrap64 (x6_1 + 1)) s0_0 bt247.2) else (none)) else (none)) else (none))) = some (r1, r2) := by first | (rw [hy244]; with_reducible exact H) | (have H2_ := (Option.bind_some _ _).symm.trans H; rw [hy244]; with_reducible exact H2_) | (have H2_ := (Option.bind_some _ _).symm.trans H; with_reducible exact H2_) | with_reducible exact H | (rw [hy244]; exact H) | exact H
    have Ny244 := Aside0.mk hy244
    clear hy244
    replace H := Option.bind_eq_some_iff.mp H
    obtain ⟨⟨t247, t248⟩, A60, H⟩ := H
    replace H : (if 0 ≤ t247 then (if t247 < (y244.length : Int) then (if x5_1.length < 17592186044416 then (spec_l20Vals.l0 k1 a1 (x5_1 ++ [rd y244 t247]) (wrap64 (x6_1 + 1)) s0_0 t248) else (none)) else (none)) else (none)) = some (r1, r2) := H
    have A6 := Aside0.mk A60
    clear A60
    by_cases c7 : 0 ≤ t247
    ·rw [if_pos c7] at H
     have c7b0 : decide (0 ≤ t247) = true := decide_eq_true c7
     clear c7
     by_cases c8 : t247 < (y244.length : Int)
     ·rw [if_pos c8] at H
      have c8b0 : decide (t247 < (y244.length : Int)) = true := decide_eq_true c8
      clear c8
      by_cases c9 : x5_1.length < 17592186044416
      ·rw [if_pos c9] at H
       have LMc9 := Aside0.mk c9
       clear c9
       obtain ⟨y250, hy250⟩ : ∃ y_ : List Int, y_ = (x5_1 ++ [rd y244 t247]) := ⟨_, rfl⟩
       replace H : (spec_l20Vals.l0 k1 a1 y250 (wrap64 (x6_1 + 1)) s0_0 t248) = some (r1, r2) := by first | (rw [hy250]; with_reducible exact H) | (have H2_ := (Option.bind_some _ _).symm.trans H; rw [hy250]; with_reducible exact H2_) | (have H2_ := (Option.bind_some _ _).symm.trans H; with_reducible exact H2_) | with_reducible exact H | (rw [hy250]; exact H) | exact H
       have Ny250 := Aside0.mk hy250
       clear hy250
       have H' := Aside0.mk H
       clear H
       go_wp2_with (first | ((with_reducible refine gate_dst (N := 13) rfl ?_); refine Kd.R_lit (Kd.int .i64) _ 3 ?hg (N := 13) ?hd (xs := ([0, 1, 5, 20, (-3), 60, 10000, (-10000), 9996] : List Int)) (inner := [.int .i64 0, .int .i64 1, .int .i64 5, .int .i64 20, .int .i64 (-3), .int .i64 60, .int .i64 10000, .int .i64 (-10000), .int .i64 9996]) (ok := fun _ => True) (okp := fun _ => True) ?hr ?hp (fun _ hk => hk) trivial (Below.refl _ _) (Nat.le_refl _) (by simp) ?_; (case hd => rfl); (case hg => rfl); (case hr => first | (go_simp; done) | (go_simp; rfl)); (case hp => exact (Reps.one (show Kd.M (Kd.int .i64) _ _ _ 0 [.int .i64 0] from rfl) (Reps.one (show Kd.M (Kd.int .i64) _ _ _ 1 [.int .i64 1] from rfl) (Reps.one (show Kd.M (Kd.int .i64) _ _ _ 5 [.int .i64 5] from rfl) (Reps.one (show Kd.M (Kd.int .i64) _ _ _ 20 [.int .i64 20] from rfl) (Reps.one (show Kd.M (Kd.int .i64) _ _ _ (-3) [.int .i64 (-3)] from rfl) (Reps.one (show Kd.M (Kd.int .i64) _ _ _ 60 [.int .i64 60] from rfl) (Reps.one (show Kd.M (Kd.int .i64) _ _ _ 10000 [.int .i64 10000] from rfl) (Reps.one (show Kd.M (Kd.int .i64) _ _ _ (-10000) [.int .i64 (-10000)] from rfl) (Reps.one (show Kd.M (Kd.int .i64) _ _ _ 9996 [.int .i64 9996] from rfl) (Reps.none _ _))))))))))); intro v245 w10 ho11 hb hg_ hnew_; clear hg_ hnew_; (first | rw [← Ny244.out] at ho11 | (simp only [Int.reduceToNat] at ho11; rw [← Ny244.out] at ho11)); have HO246 := Aside0.mk (Kd.R_lower (Kd.R_new' ho11 (rl HO_5.out)) (keep_size (w := w) (g := g) (row := none) (by exact jK HK.out))); replace HO_5 := Aside0.mk (Kd.R_elder' (by exact lR HO_5.out) (Kd.R_base ho11) hb); replace HI0 := Aside0.mk (IsS59.below (by exact IsS59.j HI0.out) hb); replace HK := Aside0.mk (KeepBut.trans (by exact jK HK.out) (KeepBut.of_below hb g none) (.inl rfl)); replace HB := Aside0.mk (below_step (by exact jB HB.out) hb); clear hb ho11) | ((with_reducible refine gate_callee (f := 22) rfl ?_); refine goesL_ (some 15) rfl rfl Try.func22 (by kernel_rfl) rfl #[.pointer (some ⟨g, 0, none⟩), .int .i64 9] rfl (by (try simp only [mA, mC, mN]); first | done | rfl | (simp only [ld, lt]; rfl)) ?_; (with_reducible refine (spec_l20Rd_pick.calls k1 g s0_0 x1001_1 9 t247 t248 w0 _ ?side1 ?side2 A6.out).mono ?_); (case side1 => exact IsS59.j HI0.out); (case side2 => exact jB HB.out); rintro e w12 ⟨rfl, hi, hb, hk⟩; refine ⟨_, rfl, ?_⟩; replace HO_5 := Aside0.mk (IsS59.kp (f1 := x1001_1) (by exact IsS59.j HI0.out) (lR HO_5.out) hk); replace HO246 := Aside0.mk (IsS59.kp (f1 := x1001_1) (by exact IsS59.j HI0.out) (lR HO246.out) hk); replace HK := Aside0.mk (KeepBut.trans (by exact jK HK.out) hk (.inl rfl)); replace HB := Aside0.mk (hb); replace HI0 := Aside0.mk (hi); (try clear hb); (try clear hb2); (try clear hk); (try clear hi); obtain ⟨Ao13, co13, eo13⟩ := Kd.R_slice HO246.out; subst eo13; have p249 : 0 ≤ (t247 : Int) := of_decide_eq_true (by first | (with_reducible assumption) | assumption); have q249 : t247 < (y244.length : Int) := of_decide_eq_true (by first | (with_reducible assumption) | assumption); obtain ⟨ad249, e249, hx249_0⟩ := Kd.at_int (Kd.R_reads' HO246.out).2.2 t247 p249 q249; cases e249; replace p249 := eq_true p249; replace q249 := eq_true q249) | ((with_reducible refine gate_builtin (b := .append) (xs := #[.tmp 12, .tmp 18]) rfl ?_); at_builtin; refine Kd.R_append (Kd.int .i64) w.heap.size rfl (.tmp 12) (.tmp 18) 23 3 (.int .i64 0) 8 rfl Try.underlying23 info3 rfl (by decide) (by omega) u5 x5_1 (rd y244 t247) [.int .i64 (rd y244 t247)] (fun k_ => some k_ ≠ (.slice (some ad249) y244.length co13 : Value).ownBlock) (fun _ => False) rfl rfl ?aP (fun _ hk => hk.elim) ?aF ?aO (Below.refl _ _) ?aS ?aL ?_; (case aP => exact rfl); (case aF => exact (fun k_ hk => Kd.fresh' (rl HO246.out) k_ hk)); (case aO => exact (by exact lR <| Kd.R_mono HO_5.out (fun _ hk => hk.2))); (case aS => exact (keep_size (w := w) (g := g) (row := none) (by exact jK HK.out))); (case aL => have := LMc9.out; omega); intro v251 w14 ho hb hg hat; rw [← Ny250.out] at ho; replace HI0 := Aside0.mk (IsS59.grown (by exact IsS59.j HI0.out) hg (IsS59.own_ne HI0.out HO_5.out (by decide))); replace HO246 := Aside0.mk (Kd.R_after (ok := (fun _ => True)) (by exact lR HO246.out) hg hat); replace HB := Aside0.mk (below_weaken (by exact jB HB.out) HL.out hb); replace HK := Aside0.mk (KeepBut.trans (by exact jK HK.out) (KeepBut.of_grown hg g) (Kd.R_base2 HO_5.out)); have HO252 := Aside0.mk (ho); clear HO_5 ho hb hg hat))
       go_roundg k1
       case measure => have := HK1.out; omega
       case rel => exact ⟨(y250), (wrap64 (x6_1 + 1)), (t248), (by first | rfl | (simp; done) | (simp [*]; done)), H', ⟨by have := HK1.out; omega⟩, ⟨by exact lR <| Kd.R_mono HO252.out (fun _ hk => trivial)⟩, ⟨by exact IsS59.j HI0.out⟩, ⟨by exact jK HK.out⟩, ⟨by exact jB HB.out⟩⟩
      ·rw [if_neg c9] at H
       exact absurd H (by simp)
     ·rw [if_neg c8] at H
      exact absurd H (by simp)
    ·rw [if_neg c7] at H
     exact absurd H (by simp)
   ·rw [if_neg c5] at H
    have c5b0 : decide (x6_1 < 3) = false := decide_eq_false c5
    clear c5
    replace H := Option.bind_eq_some_iff.mp H
    obtain ⟨⟨t253, t254⟩, A150, H⟩ := H
    replace H : (if t253 = 0 then ((spec_l20Rd_pick.f k1 s0_0 t254 3).bind fun bt255 => (if bt255.1 = 0 then (if 2 ≤ (x5_1.length : Int) then (some ((x5_1.take (2 : Int).toNat), bt255.2)) else (none)) else (if bt255.1 = 1 then (if x5_1.length < 17592186044416 then (some ((x5_1 ++ [0]), bt255.2)) else (none)) else ((spec_l20Rd_pick.f k1 s0_0 bt255.2 3).bind fun bt263 => ((some (([10001, (-10001)] : List Int) : List Int)).bind fun y265 => ((spec_l20Rd_pick.f k1 s0_0 bt263.2 2).bind fun bt268 => (if 0 ≤ bt268.1 then (if bt268.1 < (y265.length : Int) then (if 0 ≤ bt263.1 then (if bt263.1 < (x5_1.length : Int) then (some ((x5_1.set (bt263.1 : Int).toNat (rd y265 bt268.1)), bt268.2)) else (none)) else (none)) else (none)) else (none)))))))) else (some (x5_1, t254))) = some (r1, r2) := H
    have A15 := Aside0.mk A150
    clear A150
    by_cases c16 : t253 = 0
    ·rw [if_pos c16] at H
     have c16b0 : (t253 == 0) = true := beq_iff_eq.mpr c16
     have c16b1 : (t253 != 0) = false := bne_eq_false_iff_eq.mpr c16
     clear c16
     replace H := Option.bind_eq_some_iff.mp H
     obtain ⟨⟨t255, t256⟩, A170, H⟩ := H
     replace H : (if t255 = 0 then (if 2 ≤ (x5_1.length : Int) then (some ((x5_1.take (2 : Int).toNat), t256)) else (none)) else (if t255 = 1 then (if x5_1.length < 17592186044416 then (some ((x5_1 ++ [0]), t256)) else (none)) else ((spec_l20Rd_pick.f k1 s0_0 t256 3).bind fun bt263 => ((some (([10001, (-10001)] : List Int) : List Int)).bind fun y265 => ((spec_l20Rd_pick.f k1 s0_0 bt263.2 2).bind fun bt268 => (if 0 ≤ bt268.1 then (if bt268.1 < (y265.length : Int) then (if 0 ≤ bt263.1 then (if bt263.1 < (x5_1.length : Int) then (some ((x5_1.set (bt263.1 : Int).toNat (rd y265 bt268.1)), bt268.2)) else (none)) else (none)) else (none)) else (none))))))) = some (r1, r2) := H
     have A17 := Aside0.mk A170
     clear A170
     by_cases c18 : t255 = 0
     ·rw [if_pos c18] at H
      have c18b0 : (t255 == 0) = true := beq_iff_eq.mpr c18
      have c18b1 : (t255 != 0) = false := bne_eq_false_iff_eq.mpr c18
      clear c18
      by_cases c19 : 2 ≤ (x5_1.length : Int)
      ·rw [if_pos c19] at H
       have c19b0 := eq_true c19
       have c19b1 : decide (2 ≤ (x5_1.length : Int)) = true := decide_eq_true c19
       clear c19
       obtain ⟨y257, hy257⟩ : ∃ y_ : List Int, y_ = (x5_1.take (2 : Int).toNat) := ⟨_, rfl⟩
       replace H : (some (y257, t256)) = some (r1, r2) := by first | (rw [hy257]; with_reducible exact H) | (have H2_ := (Option.bind_some _ _).symm.trans H; rw [hy257]; with_reducible exact H2_) | (have H2_ := (Option.bind_some _ _).symm.trans H; with_reducible exact H2_) | with_reducible exact H | (rw [hy257]; exact H) | exact H
       have Ny257 := Aside0.mk hy257
       clear hy257
       simp only [Option.some.injEq, Prod.mk.injEq] at H
       obtain ⟨rfl, rfl⟩ := H
       go_wp2_with (first | ((with_reducible refine gate_callee (f := 22) rfl ?_); refine goesL_ (some 22) rfl rfl Try.func22 (by kernel_rfl) rfl #[.pointer (some ⟨g, 0, none⟩), .int .i64 a1] rfl (by (try simp only [mA, mC, mN]); first | done | rfl | (simp only [ld, lt]; rfl)) ?_; (with_reducible refine (spec_l20Rd_pick.calls k1 g s0_0 x1001_1 a1 t253 t254 w0 _ ?side1 ?side2 A15.out).mono ?_); (case side1 => exact IsS59.j HI0.out); (case side2 => exact jB HB.out); rintro e w20 ⟨rfl, hi, hb, hk⟩; refine ⟨_, rfl, ?_⟩; replace HO_5 := Aside0.mk (IsS59.kp (f1 := x1001_1) (by exact IsS59.j HI0.out) (lR HO_5.out) hk); replace HK := Aside0.mk (KeepBut.trans (by exact jK HK.out) hk (.inl rfl)); replace HB := Aside0.mk (hb); replace HI0 := Aside0.mk (hi); (try clear hb); (try clear hb2); (try clear hk); (try clear hi)) | ((with_reducible refine gate_callee (f := 22) rfl ?_); refine goesL_ (some 25) rfl rfl Try.func22 (by kernel_rfl) rfl #[.pointer (some ⟨g, 0, none⟩), .int .i64 3] rfl (by (try simp only [mA, mC, mN]); first | done | rfl | (simp only [ld, lt]; rfl)) ?_; (with_reducible refine (spec_l20Rd_pick.calls k1 g s0_0 t254 3 t255 t256 w0 _ ?side1 ?side2 A17.out).mono ?_); (case side1 => exact IsS59.j HI0.out); (case side2 => exact jB HB.out); rintro e w21 ⟨rfl, hi, hb, hk⟩; refine ⟨_, rfl, ?_⟩; replace HO_5 := Aside0.mk (IsS59.kp (f1 := t254) (by exact IsS59.j HI0.out) (lR HO_5.out) hk); replace HK := Aside0.mk (KeepBut.trans (by exact jK HK.out) hk (.inl rfl)); replace HB := Aside0.mk (hb); replace HI0 := Aside0.mk (hi); (try clear hb); (try clear hb2); (try clear hk); (try clear hi); obtain ⟨Ao22, co22, eo22⟩ := Kd.R_slice HO_5.out; subst eo22; have q23 : (2 : Int) ≤ ((x5_1.length : Int) : Int) := of_decide_eq_true (by first | (with_reducible assumption) | assumption); obtain ⟨i023, hi023, _, hsz23, _⟩ := info_parts info3; have hcut23 := cut_to (P := Try.prog) 23 3 .i64 Try.underlying23 hi023 Ao22 x5_1.length co22 2 (by omega) q23 (Kd.R_reads' HO_5.out).2.1; have hr23 := Kd.R_take (m := (2 : Int).toNat) HO_5.out (by omega); have hy23 : y257.length = (2 : Int).toNat := (by rw [Ny257.out, List.length_take]; omega); rw [← Ny257.out] at hr23; rw [← hy23] at hr23 hcut23; clear hy23 hi023 hsz23 HO_5; have HO259 := Aside0.mk hr23; clear hr23; replace q23 := eq_true q23))
       go_ret
       exact ⟨_, by first | rfl | (simp [errW_none, errW_some] <;> rfl) | (simp [*, errW_none, errW_some] <;> rfl), by exact lR <| HO259.out, by exact IsS59.j HI0.out, by exact jB HB.out, by exact jK HK.out⟩
      ·rw [if_neg c19] at H
       exact absurd H (by simp)
     ·rw [if_neg c18] at H
      have c18b0 : (t255 == 0) = false := beq_eq_false_iff_ne.mpr c18
      have c18b1 : (t255 != 0) = true := bne_iff_ne.mpr c18
      by_cases c24 : t255 = 1
      ·rw [if_pos c24] at H
       have c24b0 : (t255 == 1) = true := beq_iff_eq.mpr c24
       have c24b1 : (t255 != 1) = false := bne_eq_false_iff_eq.mpr c24
       clear c24
       by_cases c25 : x5_1.length < 17592186044416
       ·rw [if_pos c25] at H
        have LMc25 := Aside0.mk c25
        clear c25
        obtain ⟨y260, hy260⟩ : ∃ y_ : List Int, y_ = (x5_1 ++ [0]) := ⟨_, rfl⟩
        replace H : (some (y260, t256)) = some (r1, r2) := by first | (rw [hy260]; with_reducible exact H) | (have H2_ := (Option.bind_some _ _).symm.trans H; rw [hy260]; with_reducible exact H2_) | (have H2_ := (Option.bind_some _ _).symm.trans H; with_reducible exact H2_) | with_reducible exact H | (rw [hy260]; exact H) | exact H
        have Ny260 := Aside0.mk hy260
        clear hy260
        simp only [Option.some.injEq, Prod.mk.injEq] at H
        obtain ⟨rfl, rfl⟩ := H
        go_wp2_with (first | ((with_reducible refine gate_callee (f := 22) rfl ?_); refine goesL_ (some 22) rfl rfl Try.func22 (by kernel_rfl) rfl #[.pointer (some ⟨g, 0, none⟩), .int .i64 a1] rfl (by (try simp only [mA, mC, mN]); first | done | rfl | (simp only [ld, lt]; rfl)) ?_; (with_reducible refine (spec_l20Rd_pick.calls k1 g s0_0 x1001_1 a1 t253 t254 w0 _ ?side1 ?side2 A15.out).mono ?_); (case side1 => exact IsS59.j HI0.out); (case side2 => exact jB HB.out); rintro e w26 ⟨rfl, hi, hb, hk⟩; refine ⟨_, rfl, ?_⟩; replace HO_5 := Aside0.mk (IsS59.kp (f1 := x1001_1) (by exact IsS59.j HI0.out) (lR HO_5.out) hk); replace HK := Aside0.mk (KeepBut.trans (by exact jK HK.out) hk (.inl rfl)); replace HB := Aside0.mk (hb); replace HI0 := Aside0.mk (hi); (try clear hb); (try clear hb2); (try clear hk); (try clear hi)) | ((with_reducible refine gate_callee (f := 22) rfl ?_); refine goesL_ (some 25) rfl rfl Try.func22 (by kernel_rfl) rfl #[.pointer (some ⟨g, 0, none⟩), .int .i64 3] rfl (by (try simp only [mA, mC, mN]); first | done | rfl | (simp only [ld, lt]; rfl)) ?_; (with_reducible refine (spec_l20Rd_pick.calls k1 g s0_0 t254 3 t255 t256 w0 _ ?side1 ?side2 A17.out).mono ?_); (case side1 => exact IsS59.j HI0.out); (case side2 => exact jB HB.out); rintro e w27 ⟨rfl, hi, hb, hk⟩; refine ⟨_, rfl, ?_⟩; replace HO_5 := Aside0.mk (IsS59.kp (f1 := t254) (by exact IsS59.j HI0.out) (lR HO_5.out) hk); replace HK := Aside0.mk (KeepBut.trans (by exact jK HK.out) hk (.inl rfl)); replace HB := Aside0.mk (hb); replace HI0 := Aside0.mk (hi); (try clear hb); (try clear hb2); (try clear hk); (try clear hi)) | ((with_reducible refine gate_builtin (b := .append) (xs := #[.tmp 41, .tmp 42]) rfl ?_); at_builtin; refine Kd.R_append (Kd.int .i64) w.heap.size rfl (.tmp 41) (.tmp 42) 23 3 (.int .i64 0) 8 rfl Try.underlying23 info3 rfl (by decide) (by omega) u5 x5_1 0 [.int .i64 0] (fun _ => True) (fun _ => False) rfl rfl ?aP (fun _ hk => hk.elim) ?aF ?aO (Below.refl _ _) ?aS ?aL ?_; (case aP => exact rfl); (case aF => exact (fun _ _ => trivial)); (case aO => exact (by exact lR HO_5.out)); (case aS => exact (keep_size (w := w) (g := g) (row := none) (by exact jK HK.out))); (case aL => have := LMc25.out; omega); intro v261 w28 ho hb hg hat; rw [← Ny260.out] at ho; replace HI0 := Aside0.mk (IsS59.grown (by exact IsS59.j HI0.out) hg (IsS59.own_ne HI0.out HO_5.out (by decide))); replace HB := Aside0.mk (below_weaken (by exact jB HB.out) HL.out hb); replace HK := Aside0.mk (KeepBut.trans (by exact jK HK.out) (KeepBut.of_grown hg g) (Kd.R_base2 HO_5.out)); have HO262 := Aside0.mk (ho); clear HO_5 ho hb hg hat))
        go_ret
        exact ⟨_, by first | rfl | (simp [errW_none, errW_some] <;> rfl) | (simp [*, errW_none, errW_some] <;> rfl), by exact lR <| HO262.out, by exact IsS59.j HI0.out, by exact jB HB.out, by exact jK HK.out⟩
       ·rw [if_neg c25] at H
        exact absurd H (by simp)
      ·rw [if_neg c24] at H
       have c24b0 : (t255 == 1) = false := beq_eq_false_iff_ne.mpr c24
       have c24b1 : (t255 != 1) = true := bne_iff_ne.mpr c24
       replace H := Option.bind_eq_some_iff.mp H
       obtain ⟨⟨t263, t264⟩, A290, H⟩ := H
       replace H : ((some (([10001, (-10001)] : List Int) : List Int)).bind fun y265 => ((spec_l20Rd_pick.f k1 s0_0 t264 2).bind fun bt268 => (if 0 ≤ bt268.1 then (if bt268.1 < (y265.length : Int) then (if 0 ≤ t263 then (if t263 < (x5_1.length : Int) then (some ((x5_1.set (t263 : Int).toNat (rd y265 bt268.1)), bt268.2)) else (none)) else (none)) else (none)) else (none)))) = some (r1, r2) := H
       have A29 := Aside0.mk A290
       clear A290
       obtain ⟨y265, hy265⟩ : ∃ y_ : List Int, y_ = (([10001, (-10001)] : List Int)) := ⟨_, rfl⟩
       replace H : ((spec_l20Rd_pick.f k1 s0_0 t264 2).bind fun bt268 => (if 0 ≤ bt268.1 then (if bt268.1 < (y265.length : Int) then (if 0 ≤ t263 then (if t263 < (x5_1.length : Int) then (some ((x5_1.set (t263 : Int).toNat (rd y265 bt268.1)), bt268.2)) else (none)) else (none)) else (none)) else (none))) = some (r1, r2) := by first | (rw [hy265]; with_reducible exact H) | (have H2_ := (Option.bind_some _ _).symm.trans H; rw [hy265]; with_reducible exact H2_) | (have H2_ := (Option.bind_some _ _).symm.trans H; with_reducible exact H2_) | with_reducible exact H | (rw [hy265]; exact H) | exact H
       have Ny265 := Aside0.mk hy265
       clear hy265
       replace H := Option.bind_eq_some_iff.mp H
       obtain ⟨⟨t268, t269⟩, A300, H⟩ := H
       replace H : (if 0 ≤ t268 then (if t268 < (y265.length : Int) then (if 0 ≤ t263 then (if t263 < (x5_1.length : Int) then (some ((x5_1.set (t263 : Int).toNat (rd y265 t268)), t269)) else (none)) else (none)) else (none)) else (none)) = some (r1, r2) := H
       have A30 := Aside0.mk A300
       clear A300
       by_cases c31 : 0 ≤ t268
       ·rw [if_pos c31] at H
        have c31b0 : decide (0 ≤ t268) = true := decide_eq_true c31
        clear c31
        by_cases c32 : t268 < (y265.length : Int)
        ·rw [if_pos c32] at H
         have c32b0 : decide (t268 < (y265.length : Int)) = true := decide_eq_true c32
         clear c32
         by_cases c33 : 0 ≤ t263
         ·rw [if_pos c33] at H
          have c33b0 : decide (0 ≤ t263) = true := decide_eq_true c33
          clear c33
          by_cases c34 : t263 < (x5_1.length : Int)
          ·rw [if_pos c34] at H
           have c34b0 : decide (t263 < (x5_1.length : Int)) = true := decide_eq_true c34
           clear c34
           obtain ⟨y271, hy271⟩ : ∃ y_ : List Int, y_ = (x5_1.set (t263 : Int).toNat (rd y265 t268)) := ⟨_, rfl⟩
           replace H : (some (y271, t269)) = some (r1, r2) := by first | (rw [hy271]; with_reducible exact H) | (have H2_ := (Option.bind_some _ _).symm.trans H; rw [hy271]; with_reducible exact H2_) | (have H2_ := (Option.bind_some _ _).symm.trans H; with_reducible exact H2_) | with_reducible exact H | (rw [hy271]; exact H) | exact H
           have Ny271 := Aside0.mk hy271
           clear hy271
           simp only [Option.some.injEq, Prod.mk.injEq] at H
           obtain ⟨rfl, rfl⟩ := H
           go_wp2_with (first | ((with_reducible refine gate_callee (f := 22) rfl ?_); refine goesL_ (some 22) rfl rfl Try.func22 (by kernel_rfl) rfl #[.pointer (some ⟨g, 0, none⟩), .int .i64 a1] rfl (by (try simp only [mA, mC, mN]); first | done | rfl | (simp only [ld, lt]; rfl)) ?_; (with_reducible refine (spec_l20Rd_pick.calls k1 g s0_0 x1001_1 a1 t253 t254 w0 _ ?side1 ?side2 A15.out).mono ?_); (case side1 => exact IsS59.j HI0.out); (case side2 => exact jB HB.out); rintro e w36 ⟨rfl, hi, hb, hk⟩; refine ⟨_, rfl, ?_⟩; replace HO_5 := Aside0.mk (IsS59.kp (f1 := x1001_1) (by exact IsS59.j HI0.out) (lR HO_5.out) hk); replace HK := Aside0.mk (KeepBut.trans (by exact jK HK.out) hk (.inl rfl)); replace HB := Aside0.mk (hb); replace HI0 := Aside0.mk (hi); (try clear hb); (try clear hb2); (try clear hk); (try clear hi)) | ((with_reducible refine gate_callee (f := 22) rfl ?_); refine goesL_ (some 25) rfl rfl Try.func22 (by kernel_rfl) rfl #[.pointer (some ⟨g, 0, none⟩), .int .i64 3] rfl (by (try simp only [mA, mC, mN]); first | done | rfl | (simp only [ld, lt]; rfl)) ?_; (with_reducible refine (spec_l20Rd_pick.calls k1 g s0_0 t254 3 t255 t256 w0 _ ?side1 ?side2 A17.out).mono ?_); (case side1 => exact IsS59.j HI0.out); (case side2 => exact jB HB.out); rintro e w37 ⟨rfl, hi, hb, hk⟩; refine ⟨_, rfl, ?_⟩; replace HO_5 := Aside0.mk (IsS59.kp (f1 := t254) (by exact IsS59.j HI0.out) (lR HO_5.out) hk); replace HK := Aside0.mk (KeepBut.trans (by exact jK HK.out) hk (.inl rfl)); replace HB := Aside0.mk (hb); replace HI0 := Aside0.mk (hi); (try clear hb); (try clear hb2); (try clear hk); (try clear hi)) | ((with_reducible refine gate_callee (f := 22) rfl ?_); refine goesL_ (some 28) rfl rfl Try.func22 (by kernel_rfl) rfl #[.pointer (some ⟨g, 0, none⟩), .int .i64 3] rfl (by (try simp only [mA, mC, mN]); first | done | rfl | (simp only [ld, lt]; rfl)) ?_; (with_reducible refine (spec_l20Rd_pick.calls k1 g s0_0 t256 3 t263 t264 w0 _ ?side1 ?side2 A29.out).mono ?_); (case side1 => exact IsS59.j HI0.out); (case side2 => exact jB HB.out); rintro e w38 ⟨rfl, hi, hb, hk⟩; refine ⟨_, rfl, ?_⟩; replace HO_5 := Aside0.mk (IsS59.kp (f1 := t256) (by exact IsS59.j HI0.out) (lR HO_5.out) hk); replace HK := Aside0.mk (KeepBut.trans (by exact jK HK.out) hk (.inl rfl)); replace HB := Aside0.mk (hb); replace HI0 := Aside0.mk (hi); (try clear hb); (try clear hb2); (try clear hk); (try clear hi)) | ((with_reducible refine gate_dst (N := 29) rfl ?_); refine Kd.R_lit (Kd.int .i64) _ 3 ?hg (N := 29) ?hd (xs := ([10001, (-10001)] : List Int)) (inner := [.int .i64 10001, .int .i64 (-10001)]) (ok := fun _ => True) (okp := fun _ => True) ?hr ?hp (fun _ hk => hk) trivial (Below.refl _ _) (Nat.le_refl _) (by simp) ?_; (case hd => rfl); (case hg => rfl); (case hr => first | (go_simp; done) | (go_simp; rfl)); (case hp => exact (Reps.one (show Kd.M (Kd.int .i64) _ _ _ 10001 [.int .i64 10001] from rfl) (Reps.one (show Kd.M (Kd.int .i64) _ _ _ (-10001) [.int .i64 (-10001)] from rfl) (Reps.none _ _)))); intro v266 w39 ho40 hb hg_ hnew_; clear hg_ hnew_; (first | rw [← Ny265.out] at ho40 | (simp only [Int.reduceToNat] at ho40; rw [← Ny265.out] at ho40)); have HO267 := Aside0.mk (Kd.R_lower (Kd.R_new' ho40 (rl HO_5.out)) (keep_size (w := w) (g := g) (row := none) (by exact jK HK.out))); replace HO_5 := Aside0.mk (Kd.R_elder' (by exact lR HO_5.out) (Kd.R_base ho40) hb); replace HI0 := Aside0.mk (IsS59.below (by exact IsS59.j HI0.out) hb); replace HK := Aside0.mk (KeepBut.trans (by exact jK HK.out) (KeepBut.of_below hb g none) (.inl rfl)); replace HB := Aside0.mk (below_step (by exact jB HB.out) hb); clear hb ho40) | ((with_reducible refine gate_callee (f := 22) rfl ?_); refine goesL_ (some 31) rfl rfl Try.func22 (by kernel_rfl) rfl #[.pointer (some ⟨g, 0, none⟩), .int .i64 2] rfl (by (try simp only [mA, mC, mN]); first | done | rfl | (simp only [ld, lt]; rfl)) ?_; (with_reducible refine (spec_l20Rd_pick.calls k1 g s0_0 t264 2 t268 t269 w0 _ ?side1 ?side2 A30.out).mono ?_); (case side1 => exact IsS59.j HI0.out); (case side2 => exact jB HB.out); rintro e w41 ⟨rfl, hi, hb, hk⟩; refine ⟨_, rfl, ?_⟩; replace HO_5 := Aside0.mk (IsS59.kp (f1 := t264) (by exact IsS59.j HI0.out) (lR HO_5.out) hk); replace HO267 := Aside0.mk (IsS59.kp (f1 := t264) (by exact IsS59.j HI0.out) (lR HO267.out) hk); replace HK := Aside0.mk (KeepBut.trans (by exact jK HK.out) hk (.inl rfl)); replace HB := Aside0.mk (hb); replace HI0 := Aside0.mk (hi); (try clear hb); (try clear hb2); (try clear hk); (try clear hi); obtain ⟨Ao42, co42, eo42⟩ := Kd.R_slice HO267.out; subst eo42; have p270 : 0 ≤ (t268 : Int) := of_decide_eq_true (by first | (with_reducible assumption) | assumption); have q270 : t268 < (y265.length : Int) := of_decide_eq_true (by first | (with_reducible assumption) | assumption); obtain ⟨ad270, e270, hx270_0⟩ := Kd.at_int (Kd.R_reads' HO267.out).2.2 t268 p270 q270; cases e270; replace p270 := eq_true p270; replace q270 := eq_true q270; have p35 : 0 ≤ (t263 : Int) := of_decide_eq_true (by first | (with_reducible assumption) | assumption); have q35 : (t263 : Int) < ((x5_1.length : Int) : Int) := of_decide_eq_true (by first | (with_reducible assumption) | assumption); obtain ⟨go35, co35, eo35, gb35, gl35, cl35, HG35⟩ := Kd.R_form HO_5.out (by omega); (first | cases eo35 | (injection eo35 with ea_ en_ ec_; (first | subst ea_ | (injection ea_ with ea_; subst ea_)); subst ec_; clear en_)); have GB35 := Aside0.mk gb35; have IGB35 : Nonempty _ := ⟨GB35.out⟩; have GG35 := Aside0.mk HG35; clear gb35 gl35 HG35; obtain ⟨hx35_0, hf35_0⟩ := Kd.R_celln 0 HO_5.out (t263 : Int) p35 q35; replace p35 := eq_true p35; replace q35 := eq_true q35; have n_ := Aside0.mk (Kd.R_mono (ok' := (fun k_ => some k_ ≠ (.slice (some ad270) y265.length co42 : Value).ownBlock)) HO_5.out (fun k_ hk => hk.2)); clear HO_5; have HO_5 := n_; clear n_; obtain ⟨hy43_, hz43_⟩ := Kd.R_celln 0 HO_5.out (t263 : Int) (of_decide_eq_true (by first | (with_reducible assumption) | assumption)) (of_decide_eq_true (by first | (with_reducible assumption) | assumption)); have HP43 := Kd.R_putg HO_5.out (t263 : Int) (rd y265 t268)) | ((with_reducible refine gate_store (t := 3) (p := 34) rfl ?_); refine store_event (t := 3) (p := 34) (v := ?vo_w44) (w1 := (w41.setCell ⟨go35, (t263 : Int).toNat, none⟩ (.int .i64 (rd y265 t268)))) ?hg ?ho ?hn ?hr ?_; (case ho => rfl); (case hg => rfl); (case hn => rfl); (case hr => first | (go_simp; done) | (go_simp; rfl)); intro w44 hw; have hg : w41.grownBy w44 (some go35) := (by rw [hw]; exact HP43.2); have hp_ : Kd.R (Kd.int .i64) 3 w44 w.heap.size (fun k_ => some k_ ≠ (.slice (some ad270) y265.length co42 : Value).ownBlock) (.slice (some ⟨go35, 0, none⟩) x5_1.length co35) y271 := (by rw [hw, Ny271.out]; exact HP43.1); clear HP43; replace HI0 := Aside0.mk (IsS59.grown (by exact IsS59.j HI0.out) hg (IsS59.own_ne HI0.out HO_5.out (by decide))); replace HO267 := Aside0.mk (Kd.R_after (v := (.slice (some ⟨go35, 0, none⟩) x5_1.length co35)) (v1 := (.slice (some ⟨go35, 0, none⟩) x5_1.length co35)) (ok := (fun _ => True)) (by exact lR HO267.out) hg (.inl rfl)); replace HB := Aside0.mk ((by rw [hw]; exact below_set (HB.out) (Nat.le_trans HL.out GB35.out) : Below w0.heap.size w0 w44)); replace HK := Aside0.mk (KeepBut.trans (by exact jK HK.out) (KeepBut.of_grown hg g) (Kd.R_base2 HO_5.out)); replace HO_5 := Aside0.mk (hp_); clear hg hw hp_))
           go_ret
           exact ⟨_, by first | rfl | (simp [errW_none, errW_some] <;> rfl) | (simp [*, errW_none, errW_some] <;> rfl), by exact lR <| Kd.R_mono HO_5.out (fun _ hk => trivial), by exact IsS59.j HI0.out, by exact jB HB.out, by exact jK HK.out⟩
          ·rw [if_neg c34] at H
           exact absurd H (by simp)
         ·rw [if_neg c33] at H
          exact absurd H (by simp)
        ·rw [if_neg c32] at H
         exact absurd H (by simp)
       ·rw [if_neg c31] at H
        exact absurd H (by simp)
    ·rw [if_neg c16] at H
     have c16b0 : (t253 == 0) = false := beq_eq_false_iff_ne.mpr c16
     have c16b1 : (t253 != 0) = true := bne_iff_ne.mpr c16
     simp only [Option.some.injEq, Prod.mk.injEq] at H
     obtain ⟨rfl, rfl⟩ := H
     go_wp2_with (first | ((with_reducible refine gate_callee (f := 22) rfl ?_); refine goesL_ (some 22) rfl rfl Try.func22 (by kernel_rfl) rfl #[.pointer (some ⟨g, 0, none⟩), .int .i64 a1] rfl (by (try simp only [mA, mC, mN]); first | done | rfl | (simp only [ld, lt]; rfl)) ?_; (with_reducible refine (spec_l20Rd_pick.calls k1 g s0_0 x1001_1 a1 t253 t254 w0 _ ?side1 ?side2 A15.out).mono ?_); (case side1 => exact IsS59.j HI0.out); (case side2 => exact jB HB.out); rintro e w45 ⟨rfl, hi, hb, hk⟩; refine ⟨_, rfl, ?_⟩; replace HO_5 := Aside0.mk (IsS59.kp (f1 := x1001_1) (by exact IsS59.j HI0.out) (lR HO_5.out) hk); replace HK := Aside0.mk (KeepBut.trans (by exact jK HK.out) hk (.inl rfl)); replace HB := Aside0.mk (hb); replace HI0 := Aside0.mk (hi); (try clear hb); (try clear hb2); (try clear hk); (try clear hi)))
     go_ret
     exact ⟨_, by first | rfl | (simp [errW_none, errW_some] <;> rfl) | (simp [*, errW_none, errW_some] <;> rfl), by exact lR <| HO_5.out, by exact IsS59.j HI0.out, by exact jB HB.out, by exact jK HK.out⟩

/-! ### spec_l20Args: function 24 -/
def spec_l20Args.f (k : Nat) (s0_0 : List Int) (s0_1 : Int) (a1 : Int) : Option (List Int × Int) := (spec_l20Rd_pick.f k s0_0 s0_1 19).bind fun bt272 => ((spec_l20Rd_pick.f k s0_0 bt272.2 19).bind fun bt274 => ((some (([wrap64 (bt272.1 - 9), wrap64 (bt274.1 - 9)] : List Int) : List Int)).bind fun y276 => ((spec_l20Rd_pick.f k s0_0 bt274.2 a1).bind fun bt279 => (if bt279.1 = 0 then ((spec_l20Rd_pick.f k s0_0 bt279.2 3).bind fun bt281 => (if bt281.1 = 0 then (if 1 ≤ (y276.length : Int) then (some ((y276.take (1 : Int).toNat), bt281.2)) else (none)) else (if bt281.1 = 1 then (if y276.length < 17592186044416 then (some ((y276 ++ [0]), bt281.2)) else (none)) else ((spec_l20Rd_pick.f k s0_0 bt281.2 2).bind fun bt289 => ((some (([10, (-10)] : List Int) : List Int)).bind fun y291 => ((spec_l20Rd_pick.f k s0_0 bt289.2 2).bind fun bt294 => (if 0 ≤ bt294.1 then (if bt294.1 < (y291.length : Int) then (if 0 ≤ bt289.1 then (if bt289.1 < (y276.length : Int) then (some ((y276.set (bt289.1 : Int).toNat (rd y291 bt294.1)), bt294.2)) else (none)) else (none)) else (none)) else (none)))))))) else (some (y276, bt279.2))))))
theorem spec_l20Args.mono : ∀ a0 a1 a2 k, LeO (spec_l20Args.f k a0 a1 a2) (spec_l20Args.f (k + 1) a0 a1 a2) := by
 intro a0 a1 a2 k
 unfold spec_l20Args.f
 repeat' first
   | (with_reducible exact spec_l20Rd_pick.mono _ _ _ _)
   | (with_reducible exact LeO.refl _)
   | (with_reducible exact LeO.none _)
   | (with_reducible refine LeO.ite ?_ ?_)
   | (with_reducible refine LeO.bind ?_ (fun _ => ?_))
   | exact spec_l20Rd_pick.mono _ _ _ _
   | exact LeO.none _
   | refine LeO.ite ?_ ?_
   | refine LeO.bind ?_ (fun _ => ?_)
set_option maxHeartbeats 8000000 in
set_option maxRecDepth 100000 in
theorem spec_l20Args.calls (k : Nat) (g : Nat) (s0_0 : List Int) (s0_1 : Int) (a1 : Int) (r1 : List Int) (r2 : Int) (w0 w : World) (hI : IsS59 w0 w g s0_0 s0_1) (hB : Below w0.heap.size w0 w) (h : spec_l20Args.f k s0_0 s0_1 a1 = some (r1, r2)) :
  Calls Try.prog 24 #[.pointer (some ⟨g, 0, none⟩), .int .i64 a1] w fun e w' => ∃ v0_ : Value, e = .returned (v0_) ∧ Kd.R (Kd.int .i64) 3 w' w.heap.size (fun _ => True) v0_ r1 ∧ IsS59 w0 w' g s0_0 r2 ∧ Below w0.heap.size w0 w' ∧ KeepBut w w' g none := by
 have HI0 := Aside0.mk hI
 have IHI0 : Nonempty _ := ⟨IsS59.ge hI⟩
 have HK := Aside0.mk (KeepBut.refl w g none)
 have HL := Aside0.mk hB.size
 clear hI
 have HW0 := Aside0.mk hB.size
 have HB := Aside0.mk hB
 clear hB
 have H : ((spec_l20Rd_pick.f k s0_0 s0_1 19).bind fun bt272 => ((spec_l20Rd_pick.f k s0_0 bt272.2 19).bind fun bt274 => ((some (([wrap64 (bt272.1 - 9), wrap64 (bt274.1 - 9)] : List Int) : List Int)).bind fun y276 => ((spec_l20Rd_pick.f k s0_0 bt274.2 a1).bind fun bt279 => (if bt279.1 = 0 then ((spec_l20Rd_pick.f k s0_0 bt279.2 3).bind fun bt281 => (if bt281.1 = 0 then (if 1 ≤ (y276.length : Int) then (some ((y276.take (1 : Int).toNat), bt281.2)) else (none)) else (if bt281.1 = 1 then (if y276.length < 17592186044416 then (some ((y276 ++ [0]), bt281.2)) else (none)) else ((spec_l20Rd_pick.f k s0_0 bt281.2 2).bind fun bt289 => ((some (([10, (-10)] : List Int) : List Int)).bind fun y291 => ((spec_l20Rd_pick.f k s0_0 bt289.2 2).bind fun bt294 => (if 0 ≤ bt294.1 then (if bt294.1 < (y291.length : Int) then (if 0 ≤ bt289.1 then (if bt289.1 < (y276.length : Int) then (some ((y276.set (bt289.1 : Int).toNat (rd y291 bt294.1)), bt294.2)) else (none)) else (none)) else (none)) else (none)))))))) else (some (y276, bt279.2))))))) = some (r1, r2) := h
 clear h
 replace H := Option.bind_eq_some_iff.mp H
 obtain ⟨⟨t272, t273⟩, A30, H⟩ := H
 replace H : ((spec_l20Rd_pick.f k s0_0 t273 19).bind fun bt274 => ((some (([wrap64 (t272 - 9), wrap64 (bt274.1 - 9)] : List Int) : List Int)).bind fun y276 => ((spec_l20Rd_pick.f k s0_0 bt274.2 a1).bind fun bt279 => (if bt279.1 = 0 then ((spec_l20Rd_pick.f k s0_0 bt279.2 3).bind fun bt281 => (if bt281.1 = 0 then (if 1 ≤ (y276.length : Int) then (some ((y276.take (1 : Int).toNat), bt281.2)) else (none)) else (if bt281.1 = 1 then (if y276.length < 17592186044416 then (some ((y276 ++ [0]), bt281.2)) else (none)) else ((spec_l20Rd_pick.f k s0_0 bt281.2 2).bind fun bt289 => ((some (([10, (-10)] : List Int) : List Int)).bind fun y291 => ((spec_l20Rd_pick.f k s0_0 bt289.2 2).bind fun bt294 => (if 0 ≤ bt294.1 then (if bt294.1 < (y291.length : Int) then (if 0 ≤ bt289.1 then (if bt289.1 < (y276.length : Int) then (some ((y276.set (bt289.1 : Int).toNat (rd y291 bt294.1)), bt294.2)) else (none)) else (none)) else (none)) else (none)))))))) else (some (y276, bt279.2)))))) = some (r1, r2) := H
 have A3 := Aside0.mk A30
 clear A30
 replace H := Option.bind_eq_some_iff.mp H
 obtain ⟨⟨t274, t275⟩, A40, H⟩ := H
 replace H : ((some (([wrap64 (t272 - 9), wrap64 (t274 - 9)] : List Int) : List Int)).bind fun y276 => ((spec_l20Rd_pick.f k s0_0 t275 a1).bind fun bt279 => (if bt279.1 = 0 then ((spec_l20Rd_pick.f k s0_0 bt279.2 3).bind fun bt281 => (if bt281.1 = 0 then (if 1 ≤ (y276.length : Int) then (some ((y276.take (1 : Int).toNat), bt281.2)) else (none)) else (if bt281.1 = 1 then (if y276.length < 17592186044416 then (some ((y276 ++ [0]), bt281.2)) else (none)) else ((spec_l20Rd_pick.f k s0_0 bt281.2 2).bind fun bt289 => ((some (([10, (-10)] : List Int) : List Int)).bind fun y291 => ((spec_l20Rd_pick.f k s0_0 bt289.2 2).bind fun bt294 => (if 0 ≤ bt294.1 then (if bt294.1 < (y291.length : Int) then (if 0 ≤ bt289.1 then (if bt289.1 < (y276.length : Int) then (some ((y276.set (bt289.1 : Int).toNat (rd y291 bt294.1)), bt294.2)) else (none)) else (none)) else (none)) else (none)))))))) else (some (y276, bt279.2))))) = some (r1, r2) := H
 have A4 := Aside0.mk A40
 clear A40
 obtain ⟨y276, hy276⟩ : ∃ y_ : List Int, y_ = (([wrap64 (t272 - 9), wrap64 (t274 - 9)] : List Int)) := ⟨_, rfl⟩
 replace H : ((spec_l20Rd_pick.f k s0_0 t275 a1).bind fun bt279 => (if bt279.1 = 0 then ((spec_l20Rd_pick.f k s0_0 bt279.2 3).bind fun bt281 => (if bt281.1 = 0 then (if 1 ≤ (y276.length : Int) then (some ((y276.take (1 : Int).toNat), bt281.2)) else (none)) else (if bt281.1 = 1 then (if y276.length < 17592186044416 then (some ((y276 ++ [0]), bt281.2)) else (none)) else ((spec_l20Rd_pick.f k s0_0 bt281.2 2).bind fun bt289 => ((some (([10, (-10)] : List Int) : List Int)).bind fun y291 => ((spec_l20Rd_pick.f k s0_0 bt289.2 2).bind fun bt294 => (if 0 ≤ bt294.1 then (if bt294.1 < (y291.length : Int) then (if 0 ≤ bt289.1 then (if bt289.1 < (y276.length : Int) then (some ((y276.set (bt289.1 : Int).toNat (rd y291 bt294.1)), bt294.2)) else (none)) else (none)) else (none)) else (none)))))))) else (some (y276, bt279.2)))) = some (r1, r2) := by first | (rw [hy276]; with_reducible exact H) | (have H2_ := (Option.bind_some _ _).symm.trans H; rw [hy276]; with_reducible exact H2_) | (have H2_ := (Option.bind_some _ _).symm.trans H; with_reducible exact H2_) | with_reducible exact H | (rw [hy276]; exact H) | exact H
 have Ny276 := Aside0.mk hy276
 clear hy276
 replace H := Option.bind_eq_some_iff.mp H
 obtain ⟨⟨t279, t280⟩, A50, H⟩ := H
 replace H : (if t279 = 0 then ((spec_l20Rd_pick.f k s0_0 t280 3).bind fun bt281 => (if bt281.1 = 0 then (if 1 ≤ (y276.length : Int) then (some ((y276.take (1 : Int).toNat), bt281.2)) else (none)) else (if bt281.1 = 1 then (if y276.length < 17592186044416 then (some ((y276 ++ [0]), bt281.2)) else (none)) else ((spec_l20Rd_pick.f k s0_0 bt281.2 2).bind fun bt289 => ((some (([10, (-10)] : List Int) : List Int)).bind fun y291 => ((spec_l20Rd_pick.f k s0_0 bt289.2 2).bind fun bt294 => (if 0 ≤ bt294.1 then (if bt294.1 < (y291.length : Int) then (if 0 ≤ bt289.1 then (if bt289.1 < (y276.length : Int) then (some ((y276.set (bt289.1 : Int).toNat (rd y291 bt294.1)), bt294.2)) else (none)) else (none)) else (none)) else (none)))))))) else (some (y276, t280))) = some (r1, r2) := H
 have A5 := Aside0.mk A50
 clear A50
 by_cases c6 : t279 = 0
 ·rw [if_pos c6] at H
  have c6b0 : (t279 == 0) = true := beq_iff_eq.mpr c6
  have c6b1 : (t279 != 0) = false := bne_eq_false_iff_eq.mpr c6
  clear c6
  replace H := Option.bind_eq_some_iff.mp H
  obtain ⟨⟨t281, t282⟩, A70, H⟩ := H
  replace H : (if t281 = 0 then (if 1 ≤ (y276.length : Int) then (some ((y276.take (1 : Int).toNat), t282)) else (none)) else (if t281 = 1 then (if y276.length < 17592186044416 then (some ((y276 ++ [0]), t282)) else (none)) else ((spec_l20Rd_pick.f k s0_0 t282 2).bind fun bt289 => ((some (([10, (-10)] : List Int) : List Int)).bind fun y291 => ((spec_l20Rd_pick.f k s0_0 bt289.2 2).bind fun bt294 => (if 0 ≤ bt294.1 then (if bt294.1 < (y291.length : Int) then (if 0 ≤ bt289.1 then (if bt289.1 < (y276.length : Int) then (some ((y276.set (bt289.1 : Int).toNat (rd y291 bt294.1)), bt294.2)) else (none)) else (none)) else (none)) else (none))))))) = some (r1, r2) := H
  have A7 := Aside0.mk A70
  clear A70
  by_cases c8 : t281 = 0
  ·rw [if_pos c8] at H
   have c8b0 : (t281 == 0) = true := beq_iff_eq.mpr c8
   have c8b1 : (t281 != 0) = false := bne_eq_false_iff_eq.mpr c8
   clear c8
   by_cases c9 : 1 ≤ (y276.length : Int)
   ·rw [if_pos c9] at H
    have c9b0 := eq_true c9
    have c9b1 : decide (1 ≤ (y276.length : Int)) = true := decide_eq_true c9
    clear c9
    obtain ⟨y283, hy283⟩ : ∃ y_ : List Int, y_ = (y276.take (1 : Int).toNat) := ⟨_, rfl⟩
    replace H : (some (y283, t282)) = some (r1, r2) := by first | (rw [hy283]; with_reducible exact H) | (have H2_ := (Option.bind_some _ _).symm.trans H; rw [hy283]; with_reducible exact H2_) | (have H2_ := (Option.bind_some _ _).symm.trans H; with_reducible exact H2_) | with_reducible exact H | (rw [hy283]; exact H) | exact H
    have Ny283 := Aside0.mk hy283
    clear hy283
    simp only [Option.some.injEq, Prod.mk.injEq] at H
    obtain ⟨rfl, rfl⟩ := H
    go_enter Try.func24, Try.ntmps24
    go_wp2_with (first | ((with_reducible refine gate_callee (f := 22) rfl ?_); refine goesL_ (some 7) rfl rfl Try.func22 (by kernel_rfl) rfl #[.pointer (some ⟨g, 0, none⟩), .int .i64 19] rfl (by (try simp only [mA, mC, mN]); first | done | rfl | (simp only [ld, lt]; rfl)) ?_; (with_reducible refine (spec_l20Rd_pick.calls k g s0_0 s0_1 19 t272 t273 w0 _ ?side1 ?side2 A3.out).mono ?_); (case side1 => exact IsS59.j HI0.out); (case side2 => exact jB HB.out); rintro e w10 ⟨rfl, hi, hb, hk⟩; refine ⟨_, rfl, ?_⟩; replace HK := Aside0.mk (KeepBut.trans (by exact jK HK.out) hk (.inl rfl)); replace HB := Aside0.mk (hb); replace HI0 := Aside0.mk (hi); (try clear hb); (try clear hb2); (try clear hk); (try clear hi)) | ((with_reducible refine gate_callee (f := 22) rfl ?_); refine goesL_ (some 10) rfl rfl Try.func22 (by kernel_rfl) rfl #[.pointer (some ⟨g, 0, none⟩), .int .i64 19] rfl (by (try simp only [mA, mC, mN]); first | done | rfl | (simp only [ld, lt]; rfl)) ?_; (with_reducible refine (spec_l20Rd_pick.calls k g s0_0 t273 19 t274 t275 w0 _ ?side1 ?side2 A4.out).mono ?_); (case side1 => exact IsS59.j HI0.out); (case side2 => exact jB HB.out); rintro e w11 ⟨rfl, hi, hb, hk⟩; refine ⟨_, rfl, ?_⟩; replace HK := Aside0.mk (KeepBut.trans (by exact jK HK.out) hk (.inl rfl)); replace HB := Aside0.mk (hb); replace HI0 := Aside0.mk (hi); (try clear hb); (try clear hb2); (try clear hk); (try clear hi)) | ((with_reducible refine gate_dst (N := 12) rfl ?_); refine Kd.R_lit (Kd.int .i64) _ 3 ?hg (N := 12) ?hd (xs := ([wrap64 (t272 - 9), wrap64 (t274 - 9)] : List Int)) (inner := [.int .i64 (wrap64 (t272 - 9)), .int .i64 (wrap64 (t274 - 9))]) (ok := fun _ => True) (okp := fun _ => True) ?hr ?hp (fun _ hk => hk) trivial (Below.refl _ _) (Nat.le_refl _) (by simp) ?_; (case hd => rfl); (case hg => rfl); (case hr => first | (go_simp; done) | (go_simp; rfl)); (case hp => exact (Reps.one (show Kd.M (Kd.int .i64) _ _ _ (wrap64 (t272 - 9)) [.int .i64 (wrap64 (t272 - 9))] from rfl) (Reps.one (show Kd.M (Kd.int .i64) _ _ _ (wrap64 (t274 - 9)) [.int .i64 (wrap64 (t274 - 9))] from rfl) (Reps.none _ _)))); intro v277 w12 ho13 hb hg_ hnew_; clear hg_ hnew_; (first | rw [← Ny276.out] at ho13 | (simp only [Int.reduceToNat] at ho13; rw [← Ny276.out] at ho13)); have HO278 := Aside0.mk (Kd.R_lower ho13 (keep_size (w := w) (g := g) (row := none) (by exact jK HK.out))); replace HI0 := Aside0.mk (IsS59.below (by exact IsS59.j HI0.out) hb); replace HK := Aside0.mk (KeepBut.trans (by exact jK HK.out) (KeepBut.of_below hb g none) (.inl rfl)); replace HB := Aside0.mk (below_step (by exact jB HB.out) hb); clear hb ho13) | ((with_reducible refine gate_callee (f := 22) rfl ?_); refine goesL_ (some 15) rfl rfl Try.func22 (by kernel_rfl) rfl #[.pointer (some ⟨g, 0, none⟩), .int .i64 a1] rfl (by (try simp only [mA, mC, mN]); first | done | rfl | (simp only [ld, lt]; rfl)) ?_; (with_reducible refine (spec_l20Rd_pick.calls k g s0_0 t275 a1 t279 t280 w0 _ ?side1 ?side2 A5.out).mono ?_); (case side1 => exact IsS59.j HI0.out); (case side2 => exact jB HB.out); rintro e w14 ⟨rfl, hi, hb, hk⟩; refine ⟨_, rfl, ?_⟩; replace HO278 := Aside0.mk (IsS59.kp (f1 := t275) (by exact IsS59.j HI0.out) (lR HO278.out) hk); replace HK := Aside0.mk (KeepBut.trans (by exact jK HK.out) hk (.inl rfl)); replace HB := Aside0.mk (hb); replace HI0 := Aside0.mk (hi); (try clear hb); (try clear hb2); (try clear hk); (try clear hi)) | ((with_reducible refine gate_callee (f := 22) rfl ?_); refine goesL_ (some 18) rfl rfl Try.func22 (by kernel_rfl) rfl #[.pointer (some ⟨g, 0, none⟩), .int .i64 3] rfl (by (try simp only [mA, mC, mN]); first | done | rfl | (simp only [ld, lt]; rfl)) ?_; (with_reducible refine (spec_l20Rd_pick.calls k g s0_0 t280 3 t281 t282 w0 _ ?side1 ?side2 A7.out).mono ?_); (case side1 => exact IsS59.j HI0.out); (case side2 => exact jB HB.out); rintro e w15 ⟨rfl, hi, hb, hk⟩; refine ⟨_, rfl, ?_⟩; replace HO278 := Aside0.mk (IsS59.kp (f1 := t280) (by exact IsS59.j HI0.out) (lR HO278.out) hk); replace HK := Aside0.mk (KeepBut.trans (by exact jK HK.out) hk (.inl rfl)); replace HB := Aside0.mk (hb); replace HI0 := Aside0.mk (hi); (try clear hb); (try clear hb2); (try clear hk); (try clear hi); obtain ⟨Ao16, co16, eo16⟩ := Kd.R_slice HO278.out; subst eo16; have q17 : (1 : Int) ≤ ((y276.length : Int) : Int) := of_decide_eq_true (by first | (with_reducible assumption) | assumption); obtain ⟨i017, hi017, _, hsz17, _⟩ := info_parts info3; have hcut17 := cut_to (P := Try.prog) 23 3 .i64 Try.underlying23 hi017 Ao16 y276.length co16 1 (by omega) q17 (Kd.R_reads' HO278.out).2.1; have hr17 := Kd.R_take (m := (1 : Int).toNat) HO278.out (by omega); have hy17 : y283.length = (1 : Int).toNat := (by rw [Ny283.out, List.length_take]; omega); rw [← Ny283.out] at hr17; rw [← hy17] at hr17 hcut17; clear hy17 hi017 hsz17 HO278; have HO285 := Aside0.mk hr17; clear hr17; replace q17 := eq_true q17))
    go_ret
    exact ⟨_, by first | rfl | (simp [errW_none, errW_some] <;> rfl) | (simp [*, errW_none, errW_some] <;> rfl), by exact lR <| HO285.out, by exact IsS59.j HI0.out, by exact jB HB.out, by exact jK HK.out⟩
   ·rw [if_neg c9] at H
    exact absurd H (by simp)
  ·rw [if_neg c8] at H
   have c8b0 : (t281 == 0) = false := beq_eq_false_iff_ne.mpr c8
   have c8b1 : (t281 != 0) = true := bne_iff_ne.mpr c8
   by_cases c18 : t281 = 1
   ·rw [if_pos c18] at H
    have c18b0 : (t281 == 1) = true := beq_iff_eq.mpr c18
    have c18b1 : (t281 != 1) = false := bne_eq_false_iff_eq.mpr c18
    clear c18
    by_cases c19 : y276.length < 17592186044416
    ·rw [if_pos c19] at H
     have LMc19 := Aside0.mk c19
     clear c19
     obtain ⟨y286, hy286⟩ : ∃ y_ : List Int, y_ = (y276 ++ [0]) := ⟨_, rfl⟩
     replace H : (some (y286, t282)) = some (r1, r2) := by first | (rw [hy286]; with_reducible exact H) | (have H2_ := (Option.bind_some _ _).symm.trans H; rw [hy286]; with_reducible exact H2_) | (have H2_ := (Option.bind_some _ _).symm.trans H; with_reducible exact H2_) | with_reducible exact H | (rw [hy286]; exact H) | exact H
     have Ny286 := Aside0.mk hy286
     clear hy286
     simp only [Option.some.injEq, Prod.mk.injEq] at H
     obtain ⟨rfl, rfl⟩ := H
     go_enter Try.func24, Try.ntmps24
     go_wp2_with (first | ((with_reducible refine gate_callee (f := 22) rfl ?_); refine goesL_ (some 7) rfl rfl Try.func22 (by kernel_rfl) rfl #[.pointer (some ⟨g, 0, none⟩), .int .i64 19] rfl (by (try simp only [mA, mC, mN]); first | done | rfl | (simp only [ld, lt]; rfl)) ?_; (with_reducible refine (spec_l20Rd_pick.calls k g s0_0 s0_1 19 t272 t273 w0 _ ?side1 ?side2 A3.out).mono ?_); (case side1 => exact IsS59.j HI0.out); (case side2 => exact jB HB.out); rintro e w20 ⟨rfl, hi, hb, hk⟩; refine ⟨_, rfl, ?_⟩; replace HK := Aside0.mk (KeepBut.trans (by exact jK HK.out) hk (.inl rfl)); replace HB := Aside0.mk (hb); replace HI0 := Aside0.mk (hi); (try clear hb); (try clear hb2); (try clear hk); (try clear hi)) | ((with_reducible refine gate_callee (f := 22) rfl ?_); refine goesL_ (some 10) rfl rfl Try.func22 (by kernel_rfl) rfl #[.pointer (some ⟨g, 0, none⟩), .int .i64 19] rfl (by (try simp only [mA, mC, mN]); first | done | rfl | (simp only [ld, lt]; rfl)) ?_; (with_reducible refine (spec_l20Rd_pick.calls k g s0_0 t273 19 t274 t275 w0 _ ?side1 ?side2 A4.out).mono ?_); (case side1 => exact IsS59.j HI0.out); (case side2 => exact jB HB.out); rintro e w21 ⟨rfl, hi, hb, hk⟩; refine ⟨_, rfl, ?_⟩; replace HK := Aside0.mk (KeepBut.trans (by exact jK HK.out) hk (.inl rfl)); replace HB := Aside0.mk (hb); replace HI0 := Aside0.mk (hi); (try clear hb); (try clear hb2); (try clear hk); (try clear hi)) | ((with_reducible refine gate_dst (N := 12) rfl ?_); refine Kd.R_lit (Kd.int .i64) _ 3 ?hg (N := 12) ?hd (xs := ([wrap64 (t272 - 9), wrap64 (t274 - 9)] : List Int)) (inner := [.int .i64 (wrap64 (t272 - 9)), .int .i64 (wrap64 (t274 - 9))]) (ok := fun _ => True) (okp := fun _ => True) ?hr ?hp (fun _ hk => hk) trivial (Below.refl _ _) (Nat.le_refl _) (by simp) ?_; (case hd => rfl); (case hg => rfl); (case hr => first | (go_simp; done) | (go_simp; rfl)); (case hp => exact (Reps.one (show Kd.M (Kd.int .i64) _ _ _ (wrap64 (t272 - 9)) [.int .i64 (wrap64 (t272 - 9))] from rfl) (Reps.one (show Kd.M (Kd.int .i64) _ _ _ (wrap64 (t274 - 9)) [.int .i64 (wrap64 (t274 - 9))] from rfl) (Reps.none _ _)))); intro v277 w22 ho23 hb hg_ hnew_; clear hg_ hnew_; (first | rw [← Ny276.out] at ho23 | (simp only [Int.reduceToNat] at ho23; rw [← Ny276.out] at ho23)); have HO278 := Aside0.mk (Kd.R_lower ho23 (keep_size (w := w) (g := g) (row := none) (by exact jK HK.out))); replace HI0 := Aside0.mk (IsS59.below (by exact IsS59.j HI0.out) hb); replace HK := Aside0.mk (KeepBut.trans (by exact jK HK.out) (KeepBut.of_below hb g none) (.inl rfl)); replace HB := Aside0.mk (below_step (by exact jB HB.out) hb); clear hb ho23) | ((with_reducible refine gate_callee (f := 22) rfl ?_); refine goesL_ (some 15) rfl rfl Try.func22 (by kernel_rfl) rfl #[.pointer (some ⟨g, 0, none⟩), .int .i64 a1] rfl (by (try simp only [mA, mC, mN]); first | done | rfl | (simp only [ld, lt]; rfl)) ?_; (with_reducible refine (spec_l20Rd_pick.calls k g s0_0 t275 a1 t279 t280 w0 _ ?side1 ?side2 A5.out).mono ?_); (case side1 => exact IsS59.j HI0.out); (case side2 => exact jB HB.out); rintro e w24 ⟨rfl, hi, hb, hk⟩; refine ⟨_, rfl, ?_⟩; replace HO278 := Aside0.mk (IsS59.kp (f1 := t275) (by exact IsS59.j HI0.out) (lR HO278.out) hk); replace HK := Aside0.mk (KeepBut.trans (by exact jK HK.out) hk (.inl rfl)); replace HB := Aside0.mk (hb); replace HI0 := Aside0.mk (hi); (try clear hb); (try clear hb2); (try clear hk); (try clear hi)) | ((with_reducible refine gate_callee (f := 22) rfl ?_); refine goesL_ (some 18) rfl rfl Try.func22 (by kernel_rfl) rfl #[.pointer (some ⟨g, 0, none⟩), .int .i64 3] rfl (by (try simp only [mA, mC, mN]); first | done | rfl | (simp only [ld, lt]; rfl)) ?_; (with_reducible refine (spec_l20Rd_pick.calls k g s0_0 t280 3 t281 t282 w0 _ ?side1 ?side2 A7.out).mono ?_); (case side1 => exact IsS59.j HI0.out); (case side2 => exact jB HB.out); rintro e w25 ⟨rfl, hi, hb, hk⟩; refine ⟨_, rfl, ?_⟩; replace HO278 := Aside0.mk (IsS59.kp (f1 := t280) (by exact IsS59.j HI0.out) (lR HO278.out) hk); replace HK := Aside0.mk (KeepBut.trans (by exact jK HK.out) hk (.inl rfl)); replace HB := Aside0.mk (hb); replace HI0 := Aside0.mk (hi); (try clear hb); (try clear hb2); (try clear hk); (try clear hi)) | ((with_reducible refine gate_builtin (b := .append) (xs := #[.tmp 34, .tmp 35]) rfl ?_); at_builtin; refine Kd.R_append (Kd.int .i64) w.heap.size rfl (.tmp 34) (.tmp 35) 23 3 (.int .i64 0) 8 rfl Try.underlying23 info3 rfl (by decide) (by omega) v277 y276 0 [.int .i64 0] (fun _ => True) (fun _ => False) rfl rfl ?aP (fun _ hk => hk.elim) ?aF ?aO (Below.refl _ _) ?aS ?aL ?_; (case aP => exact rfl); (case aF => exact (fun _ _ => trivial)); (case aO => exact (by exact lR HO278.out)); (case aS => exact (keep_size (w := w) (g := g) (row := none) (by exact jK HK.out))); (case aL => have := LMc19.out; omega); intro v287 w26 ho hb hg hat; rw [← Ny286.out] at ho; replace HI0 := Aside0.mk (IsS59.grown (by exact IsS59.j HI0.out) hg (IsS59.own_ne HI0.out HO278.out (by decide))); replace HB := Aside0.mk (below_weaken (by exact jB HB.out) HL.out hb); replace HK := Aside0.mk (KeepBut.trans (by exact jK HK.out) (KeepBut.of_grown hg g) (Kd.R_base2 HO278.out)); have HO288 := Aside0.mk (ho); clear HO278 ho hb hg hat))
     go_ret
     exact ⟨_, by first | rfl | (simp [errW_none, errW_some] <;> rfl) | (simp [*, errW_none, errW_some] <;> rfl), by exact lR <| HO288.out, by exact IsS59.j HI0.out, by exact jB HB.out, by exact jK HK.out⟩
    ·rw [if_neg c19] at H
     exact absurd H (by simp)
   ·rw [if_neg c18] at H
    have c18b0 : (t281 == 1) = false := beq_eq_false_iff_ne.mpr c18
    have c18b1 : (t281 != 1) = true := bne_iff_ne.mpr c18
    replace H := Option.bind_eq_some_iff.mp H
    obtain ⟨⟨t289, t290⟩, A270, H⟩ := H
    replace H : ((some (([10, (-10)] : List Int) : List Int)).bind fun y291 => ((spec_l20Rd_pick.f k s0_0 t290 2).bind fun bt294 => (if 0 ≤ bt294.1 then (if bt294.1 < (y291.length : Int) then (if 0 ≤ t289 then (if t289 < (y276.length : Int) then (some ((y276.set (t289 : Int).toNat (rd y291 bt294.1)), bt294.2)) else (none)) else (none)) else (none)) else (none)))) = some (r1, r2) := H
    have A27 := Aside0.mk A270
    clear A270
    obtain ⟨y291, hy291⟩ : ∃ y_ : List Int, y_ = (([10, (-10)] : List Int)) := ⟨_, rfl⟩
    replace H : ((spec_l20Rd_pick.f k s0_0 t290 2).bind fun bt294 => (if 0 ≤ bt294.1 then (if bt294.1 < (y291.length : Int) then (if 0 ≤ t289 then (if t289 < (y276.length : Int) then (some ((y276.set (t289 : Int).toNat (rd y291 bt294.1)), bt294.2)) else (none)) else (none)) else (none)) else (none))) = some (r1, r2) := by first | (rw [hy291]; with_reducible exact H) | (have H2_ := (Option.bind_some _ _).symm.trans H; rw [hy291]; with_reducible exact H2_) | (have H2_ := (Option.bind_some _ _).symm.trans H; with_reducible exact H2_) | with_reducible exact H | (rw [hy291]; exact H) | exact H
    have Ny291 := Aside0.mk hy291
    clear hy291
    replace H := Option.bind_eq_some_iff.mp H
    obtain ⟨⟨t294, t295⟩, A280, H⟩ := H
    replace H : (if 0 ≤ t294 then (if t294 < (y291.length : Int) then (if 0 ≤ t289 then (if t289 < (y276.length : Int) then (some ((y276.set (t289 : Int).toNat (rd y291 t294)), t295)) else (none)) else (none)) else (none)) else (none)) = some (r1, r2) := H
    have A28 := Aside0.mk A280
    clear A280
    by_cases c29 : 0 ≤ t294
    ·rw [if_pos c29] at H
     have c29b0 : decide (0 ≤ t294) = true := decide_eq_true c29
     clear c29
     by_cases c30 : t294 < (y291.length : Int)
     ·rw [if_pos c30] at H
      have c30b0 : decide (t294 < (y291.length : Int)) = true := decide_eq_true c30
      clear c30
      by_cases c31 : 0 ≤ t289
      ·rw [if_pos c31] at H
       have c31b0 : decide (0 ≤ t289) = true := decide_eq_true c31
       clear c31
       by_cases c32 : t289 < (y276.length : Int)
       ·rw [if_pos c32] at H
        have c32b0 : decide (t289 < (y276.length : Int)) = true := decide_eq_true c32
        clear c32
        obtain ⟨y297, hy297⟩ : ∃ y_ : List Int, y_ = (y276.set (t289 : Int).toNat (rd y291 t294)) := ⟨_, rfl⟩
        replace H : (some (y297, t295)) = some (r1, r2) := by first | (rw [hy297]; with_reducible exact H) | (have H2_ := (Option.bind_some _ _).symm.trans H; rw [hy297]; with_reducible exact H2_) | (have H2_ := (Option.bind_some _ _).symm.trans H; with_reducible exact H2_) | with_reducible exact H | (rw [hy297]; exact H) | exact H
        have Ny297 := Aside0.mk hy297
        clear hy297
        simp only [Option.some.injEq, Prod.mk.injEq] at H
        obtain ⟨rfl, rfl⟩ := H
        go_enter Try.func24, Try.ntmps24
        go_wp2_with (first | ((with_reducible refine gate_callee (f := 22) rfl ?_); refine goesL_ (some 7) rfl rfl Try.func22 (by kernel_rfl) rfl #[.pointer (some ⟨g, 0, none⟩), .int .i64 19] rfl (by (try simp only [mA, mC, mN]); first | done | rfl | (simp only [ld, lt]; rfl)) ?_; (with_reducible refine (spec_l20Rd_pick.calls k g s0_0 s0_1 19 t272 t273 w0 _ ?side1 ?side2 A3.out).mono ?_); (case side1 => exact IsS59.j HI0.out); (case side2 => exact jB HB.out); rintro e w34 ⟨rfl, hi, hb, hk⟩; refine ⟨_, rfl, ?_⟩; replace HK := Aside0.mk (KeepBut.trans (by exact jK HK.out) hk (.inl rfl)); replace HB := Aside0.mk (hb); replace HI0 := Aside0.mk (hi); (try clear hb); (try clear hb2); (try clear hk); (try clear hi)) | ((with_reducible refine gate_callee (f := 22) rfl ?_); refine goesL_ (some 10) rfl rfl Try.func22 (by kernel_rfl) rfl #[.pointer (some ⟨g, 0, none⟩), .int .i64 19] rfl (by (try simp only [mA, mC, mN]); first | done | rfl | (simp only [ld, lt]; rfl)) ?_; (with_reducible refine (spec_l20Rd_pick.calls k g s0_0 t273 19 t274 t275 w0 _ ?side1 ?side2 A4.out).mono ?_); (case side1 => exact IsS59.j HI0.out); (case side2 => exact jB HB.out); rintro e w35 ⟨rfl, hi, hb, hk⟩; refine ⟨_, rfl, ?_⟩; replace HK := Aside0.mk (KeepBut.trans (by exact jK HK.out) hk (.inl rfl)); replace HB := Aside0.mk (hb); replace HI0 := Aside0.mk (hi); (try clear hb); (try clear hb2); (try clear hk); (try clear hi)) | ((with_reducible refine gate_dst (N := 12) rfl ?_); refine Kd.R_lit (Kd.int .i64) _ 3 ?hg (N := 12) ?hd (xs := ([wrap64 (t272 - 9), wrap64 (t274 - 9)] : List Int)) (inner := [.int .i64 (wrap64 (t272 - 9)), .int .i64 (wrap64 (t274 - 9))]) (ok := fun _ => True) (okp := fun _ => True) ?hr ?hp (fun _ hk => hk) trivial (Below.refl _ _) (Nat.le_refl _) (by simp) ?_; (case hd => rfl); (case hg => rfl); (case hr => first | (go_simp; done) | (go_simp; rfl)); (case hp => exact (Reps.one (show Kd.M (Kd.int .i64) _ _ _ (wrap64 (t272 - 9)) [.int .i64 (wrap64 (t272 - 9))] from rfl) (Reps.one (show Kd.M (Kd.int .i64) _ _ _ (wrap64 (t274 - 9)) [.int .i64 (wrap64 (t274 - 9))] from rfl) (Reps.none _ _)))); intro v277 w36 ho37 hb hg_ hnew_; clear hg_ hnew_; (first | rw [← Ny276.out] at ho37 | (simp only [Int.reduceToNat] at ho37; rw [← Ny276.out] at ho37)); have HO278 := Aside0.mk (Kd.R_lower ho37 (keep_size (w := w) (g := g) (row := none) (by exact jK HK.out))); replace HI0 := Aside0.mk (IsS59.below (by exact IsS59.j HI0.out) hb); replace HK := Aside0.mk (KeepBut.trans (by exact jK HK.out) (KeepBut.of_below hb g none) (.inl rfl)); replace HB := Aside0.mk (below_step (by exact jB HB.out) hb); clear hb ho37) | ((with_reducible refine gate_callee (f := 22) rfl ?_); refine goesL_ (some 15) rfl rfl Try.func22 (by kernel_rfl) rfl #[.pointer (some ⟨g, 0, none⟩), .int .i64 a1] rfl (by (try simp only [mA, mC, mN]); first | done | rfl | (simp only [ld, lt]; rfl)) ?_; (with_reducible refine (spec_l20Rd_pick.calls k g s0_0 t275 a1 t279 t280 w0 _ ?side1 ?side2 A5.out).mono ?_); (case side1 => exact IsS59.j HI0.out); (case side2 => exact jB HB.out); rintro e w38 ⟨rfl, hi, hb, hk⟩; refine ⟨_, rfl, ?_⟩; replace HO278 := Aside0.mk (IsS59.kp (f1 := t275) (by exact IsS59.j HI0.out) (lR HO278.out) hk); replace HK := Aside0.mk (KeepBut.trans (by exact jK HK.out) hk (.inl rfl)); replace HB := Aside0.mk (hb); replace HI0 := Aside0.mk (hi); (try clear hb); (try clear hb2); (try clear hk); (try clear hi)) | ((with_reducible refine gate_callee (f := 22) rfl ?_); refine goesL_ (some 18) rfl rfl Try.func22 (by kernel_rfl) rfl #[.pointer (some ⟨g, 0, none⟩), .int .i64 3] rfl (by (try simp only [mA, mC, mN]); first | done | rfl | (simp only [ld, lt]; rfl)) ?_; (with_reducible refine (spec_l20Rd_pick.calls k g s0_0 t280 3 t281 t282 w0 _ ?side1 ?side2 A7.out).mono ?_); (case side1 => exact IsS59.j HI0.out); (case side2 => exact jB HB.out); rintro e w39 ⟨rfl, hi, hb, hk⟩; refine ⟨_, rfl, ?_⟩; replace HO278 := Aside0.mk (IsS59.kp (f1 := t280) (by exact IsS59.j HI0.out) (lR HO278.out) hk); replace HK := Aside0.mk (KeepBut.trans (by exact jK HK.out) hk (.inl rfl)); replace HB := Aside0.mk (hb); replace HI0 := Aside0.mk (hi); (try clear hb); (try clear hb2); (try clear hk); (try clear hi)) | ((with_reducible refine gate_callee (f := 22) rfl ?_); refine goesL_ (some 21) rfl rfl Try.func22 (by kernel_rfl) rfl #[.pointer (some ⟨g, 0, none⟩), .int .i64 2] rfl (by (try simp only [mA, mC, mN]); first | done | rfl | (simp only [ld, lt]; rfl)) ?_; (with_reducible refine (spec_l20Rd_pick.calls k g s0_0 t282 2 t289 t290 w0 _ ?side1 ?side2 A27.out).mono ?_); (case side1 => exact IsS59.j HI0.out); (case side2 => exact jB HB.out); rintro e w40 ⟨rfl, hi, hb, hk⟩; refine ⟨_, rfl, ?_⟩; replace HO278 := Aside0.mk (IsS59.kp (f1 := t282) (by exact IsS59.j HI0.out) (lR HO278.out) hk); replace HK := Aside0.mk (KeepBut.trans (by exact jK HK.out) hk (.inl rfl)); replace HB := Aside0.mk (hb); replace HI0 := Aside0.mk (hi); (try clear hb); (try clear hb2); (try clear hk); (try clear hi)) | ((with_reducible refine gate_dst (N := 22) rfl ?_); refine Kd.R_lit (Kd.int .i64) _ 3 ?hg (N := 22) ?hd (xs := ([10, (-10)] : List Int)) (inner := [.int .i64 10, .int .i64 (-10)]) (ok := fun _ => True) (okp := fun _ => True) ?hr ?hp (fun _ hk => hk) trivial (Below.refl _ _) (Nat.le_refl _) (by simp) ?_; (case hd => rfl); (case hg => rfl); (case hr => first | (go_simp; done) | (go_simp; rfl)); (case hp => exact (Reps.one (show Kd.M (Kd.int .i64) _ _ _ 10 [.int .i64 10] from rfl) (Reps.one (show Kd.M (Kd.int .i64) _ _ _ (-10) [.int .i64 (-10)] from rfl) (Reps.none _ _)))); intro v292 w41 ho42 hb hg_ hnew_; clear hg_ hnew_; (first | rw [← Ny291.out] at ho42 | (simp only [Int.reduceToNat] at ho42; rw [← Ny291.out] at ho42)); have HO293 := Aside0.mk (Kd.R_lower (Kd.R_new' ho42 (rl HO278.out)) (keep_size (w := w) (g := g) (row := none) (by exact jK HK.out))); replace HO278 := Aside0.mk (Kd.R_elder' (by exact lR HO278.out) (Kd.R_base ho42) hb); replace HI0 := Aside0.mk (IsS59.below (by exact IsS59.j HI0.out) hb); replace HK := Aside0.mk (KeepBut.trans (by exact jK HK.out) (KeepBut.of_below hb g none) (.inl rfl)); replace HB := Aside0.mk (below_step (by exact jB HB.out) hb); clear hb ho42) | ((with_reducible refine gate_callee (f := 22) rfl ?_); refine goesL_ (some 24) rfl rfl Try.func22 (by kernel_rfl) rfl #[.pointer (some ⟨g, 0, none⟩), .int .i64 2] rfl (by (try simp only [mA, mC, mN]); first | done | rfl | (simp only [ld, lt]; rfl)) ?_; (with_reducible refine (spec_l20Rd_pick.calls k g s0_0 t290 2 t294 t295 w0 _ ?side1 ?side2 A28.out).mono ?_); (case side1 => exact IsS59.j HI0.out); (case side2 => exact jB HB.out); rintro e w43 ⟨rfl, hi, hb, hk⟩; refine ⟨_, rfl, ?_⟩; replace HO278 := Aside0.mk (IsS59.kp (f1 := t290) (by exact IsS59.j HI0.out) (lR HO278.out) hk); replace HO293 := Aside0.mk (IsS59.kp (f1 := t290) (by exact IsS59.j HI0.out) (lR HO293.out) hk); replace HK := Aside0.mk (KeepBut.trans (by exact jK HK.out) hk (.inl rfl)); replace HB := Aside0.mk (hb); replace HI0 := Aside0.mk (hi); (try clear hb); (try clear hb2); (try clear hk); (try clear hi); obtain ⟨Ao44, co44, eo44⟩ := Kd.R_slice HO293.out; subst eo44; have p296 : 0 ≤ (t294 : Int) := of_decide_eq_true (by first | (with_reducible assumption) | assumption); have q296 : t294 < (y291.length : Int) := of_decide_eq_true (by first | (with_reducible assumption) | assumption); obtain ⟨ad296, e296, hx296_0⟩ := Kd.at_int (Kd.R_reads' HO293.out).2.2 t294 p296 q296; cases e296; replace p296 := eq_true p296; replace q296 := eq_true q296; have p33 : 0 ≤ (t289 : Int) := of_decide_eq_true (by first | (with_reducible assumption) | assumption); have q33 : (t289 : Int) < ((y276.length : Int) : Int) := of_decide_eq_true (by first | (with_reducible assumption) | assumption); obtain ⟨go33, co33, eo33, gb33, gl33, cl33, HG33⟩ := Kd.R_form HO278.out (by omega); (first | cases eo33 | (injection eo33 with ea_ en_ ec_; (first | subst ea_ | (injection ea_ with ea_; subst ea_)); subst ec_; clear en_)); have GB33 := Aside0.mk gb33; have IGB33 : Nonempty _ := ⟨GB33.out⟩; have GG33 := Aside0.mk HG33; clear gb33 gl33 HG33; obtain ⟨hx33_0, hf33_0⟩ := Kd.R_celln 0 HO278.out (t289 : Int) p33 q33; replace p33 := eq_true p33; replace q33 := eq_true q33; have n_ := Aside0.mk (Kd.R_mono (ok' := (fun k_ => some k_ ≠ (.slice (some ad296) y291.length co44 : Value).ownBlock)) HO278.out (fun k_ hk => hk.2)); clear HO278; have HO278 := n_; clear n_; obtain ⟨hy45_, hz45_⟩ := Kd.R_celln 0 HO278.out (t289 : Int) (of_decide_eq_true (by first | (with_reducible assumption) | assumption)) (of_decide_eq_true (by first | (with_reducible assumption) | assumption)); have HP45 := Kd.R_putg HO278.out (t289 : Int) (rd y291 t294)) | ((with_reducible refine gate_store (t := 3) (p := 27) rfl ?_); refine store_event (t := 3) (p := 27) (v := ?vo_w46) (w1 := (w43.setCell ⟨go33, (t289 : Int).toNat, none⟩ (.int .i64 (rd y291 t294)))) ?hg ?ho ?hn ?hr ?_; (case ho => rfl); (case hg => rfl); (case hn => rfl); (case hr => first | (go_simp; done) | (go_simp; rfl)); intro w46 hw; have hg : w43.grownBy w46 (some go33) := (by rw [hw]; exact HP45.2); have hp_ : Kd.R (Kd.int .i64) 3 w46 w.heap.size (fun k_ => some k_ ≠ (.slice (some ad296) y291.length co44 : Value).ownBlock) (.slice (some ⟨go33, 0, none⟩) y276.length co33) y297 := (by rw [hw, Ny297.out]; exact HP45.1); clear HP45; replace HI0 := Aside0.mk (IsS59.grown (by exact IsS59.j HI0.out) hg (IsS59.own_ne HI0.out HO278.out (by decide))); replace HO293 := Aside0.mk (Kd.R_after (v := (.slice (some ⟨go33, 0, none⟩) y276.length co33)) (v1 := (.slice (some ⟨go33, 0, none⟩) y276.length co33)) (ok := (fun _ => True)) (by exact lR HO293.out) hg (.inl rfl)); replace HB := Aside0.mk ((by rw [hw]; exact below_set (HB.out) (Nat.le_trans HL.out GB33.out) : Below w0.heap.size w0 w46)); replace HK := Aside0.mk (KeepBut.trans (by exact jK HK.out) (KeepBut.of_grown hg g) (Kd.R_base2 HO278.out)); replace HO278 := Aside0.mk (hp_); clear hg hw hp_))
        go_ret
        exact ⟨_, by first | rfl | (simp [errW_none, errW_some] <;> rfl) | (simp [*, errW_none, errW_some] <;> rfl), by exact lR <| Kd.R_mono HO278.out (fun _ hk => trivial), by exact IsS59.j HI0.out, by exact jB HB.out, by exact jK HK.out⟩
       ·rw [if_neg c32] at H
        exact absurd H (by simp)
      ·rw [if_neg c31] at H
       exact absurd H (by simp)
     ·rw [if_neg c30] at H
      exact absurd H (by simp)
    ·rw [if_neg c29] at H
     exact absurd H (by simp)
 ·rw [if_neg c6] at H
  have c6b0 : (t279 == 0) = false := beq_eq_false_iff_ne.mpr c6
  have c6b1 : (t279 != 0) = true := bne_iff_ne.mpr c6
  simp only [Option.some.injEq, Prod.mk.injEq] at H
  obtain ⟨rfl, rfl⟩ := H
  go_enter Try.func24, Try.ntmps24
  go_wp2_with (first | ((with_reducible refine gate_callee (f := 22) rfl ?_); refine goesL_ (some 7) rfl rfl Try.func22 (by kernel_rfl) rfl #[.pointer (some ⟨g, 0, none⟩), .int .i64 19] rfl (by (try simp only [mA, mC, mN]); first | done | rfl | (simp only [ld, lt]; rfl)) ?_; (with_reducible refine (spec_l20Rd_pick.calls k g s0_0 s0_1 19 t272 t273 w0 _ ?side1 ?side2 A3.out).mono ?_); (case side1 => exact IsS59.j HI0.out); (case side2 => exact jB HB.out); rintro e w47 ⟨rfl, hi, hb, hk⟩; refine ⟨_, rfl, ?_⟩; replace HK := Aside0.mk (KeepBut.trans (by exact jK HK.out) hk (.inl rfl)); replace HB := Aside0.mk (hb); replace HI0 := Aside0.mk (hi); (try clear hb); (try clear hb2); (try clear hk); (try clear hi)) | ((with_reducible refine gate_callee (f := 22) rfl ?_); refine goesL_ (some 10) rfl rfl Try.func22 (by kernel_rfl) rfl #[.pointer (some ⟨g, 0, none⟩), .int .i64 19] rfl (by (try simp only [mA, mC, mN]); first | done | rfl | (simp only [ld, lt]; rfl)) ?_; (with_reducible refine (spec_l20Rd_pick.calls k g s0_0 t273 19 t274 t275 w0 _ ?side1 ?side2 A4.out).mono ?_); (case side1 => exact IsS59.j HI0.out); (case side2 => exact jB HB.out); rintro e w48 ⟨rfl, hi, hb, hk⟩; refine ⟨_, rfl, ?_⟩; replace HK := Aside0.mk (KeepBut.trans (by exact jK HK.out) hk (.inl rfl)); replace HB := Aside0.mk (hb); replace HI0 := Aside0.mk (hi); (try clear hb); (try clear hb2); (try clear hk); (try clear hi)) | ((with_reducible refine gate_dst (N := 12) rfl ?_); refine Kd.R_lit (Kd.int .i64) _ 3 ?hg (N := 12) ?hd (xs := ([wrap64 (t272 - 9), wrap64 (t274 - 9)] : List Int)) (inner := [.int .i64 (wrap64 (t272 - 9)), .int .i64 (wrap64 (t274 - 9))]) (ok := fun _ => True) (okp := fun _ => True) ?hr ?hp (fun _ hk => hk) trivial (Below.refl _ _) (Nat.le_refl _) (by simp) ?_; (case hd => rfl); (case hg => rfl); (case hr => first | (go_simp; done) | (go_simp; rfl)); (case hp => exact (Reps.one (show Kd.M (Kd.int .i64) _ _ _ (wrap64 (t272 - 9)) [.int .i64 (wrap64 (t272 - 9))] from rfl) (Reps.one (show Kd.M (Kd.int .i64) _ _ _ (wrap64 (t274 - 9)) [.int .i64 (wrap64 (t274 - 9))] from rfl) (Reps.none _ _)))); intro v277 w49 ho50 hb hg_ hnew_; clear hg_ hnew_; (first | rw [← Ny276.out] at ho50 | (simp only [Int.reduceToNat] at ho50; rw [← Ny276.out] at ho50)); have HO278 := Aside0.mk (Kd.R_lower ho50 (keep_size (w := w) (g := g) (row := none) (by exact jK HK.out))); replace HI0 := Aside0.mk (IsS59.below (by exact IsS59.j HI0.out) hb); replace HK := Aside0.mk (KeepBut.trans (by exact jK HK.out) (KeepBut.of_below hb g none) (.inl rfl)); replace HB := Aside0.mk (below_step (by exact jB HB.out) hb); clear hb ho50) | ((with_reducible refine gate_callee (f := 22) rfl ?_); refine goesL_ (some 15) rfl rfl Try.func22 (by kernel_rfl) rfl #[.pointer (some ⟨g, 0, none⟩), .int .i64 a1] rfl (by (try simp only [mA, mC, mN]); first | done | rfl | (simp only [ld, lt]; rfl)) ?_; (with_reducible refine (spec_l20Rd_pick.calls k g s0_0 t275 a1 t279 t280 w0 _ ?side1 ?side2 A5.out).mono ?_); (case side1 => exact IsS59.j HI0.out); (case side2 => exact jB HB.out); rintro e w51 ⟨rfl, hi, hb, hk⟩; refine ⟨_, rfl, ?_⟩; replace HO278 := Aside0.mk (IsS59.kp (f1 := t275) (by exact IsS59.j HI0.out) (lR HO278.out) hk); replace HK := Aside0.mk (KeepBut.trans (by exact jK HK.out) hk (.inl rfl)); replace HB := Aside0.mk (hb); replace HI0 := Aside0.mk (hi); (try clear hb); (try clear hb2); (try clear hk); (try clear hi)))
  go_ret
  exact ⟨_, by first | rfl | (simp [errW_none, errW_some] <;> rfl) | (simp [*, errW_none, errW_some] <;> rfl), by exact lR <| HO278.out, by exact IsS59.j HI0.out, by exact jB HB.out, by exact jK HK.out⟩

/-! ### spec_DrawFrmAt: function 6 -/
def spec_DrawFrmAt.f (k : Nat) (l0 : List Int) : Option (List Int × List Int × Int × List Int × List Int) := (spec_l20Open.f l0).bind fun bt299 => ((spec_l20Form.f k bt299.1 bt299.2 12).bind fun bt302 => ((spec_l20Vals.f k bt299.1 bt302.2.2.2 12).bind fun bt310 => ((spec_l20Args.f k bt299.1 bt310.2 12).bind fun bt314 => (some (bt302.1, bt302.2.1, bt302.2.2.1, bt310.1, bt314.1)))))
theorem spec_DrawFrmAt.mono : ∀ a0 k, LeO (spec_DrawFrmAt.f k a0) (spec_DrawFrmAt.f (k + 1) a0) := by
 intro a0 k
 unfold spec_DrawFrmAt.f
 repeat' first
   | (with_reducible exact spec_l20Args.mono _ _ _ _)
   | (with_reducible exact spec_l20Form.mono _ _ _ _)
   | (with_reducible exact spec_l20Vals.mono _ _ _ _)
   | (with_reducible exact LeO.refl _)
   | (with_reducible exact LeO.none _)
   | (with_reducible refine LeO.ite ?_ ?_)
   | (with_reducible refine LeO.bind ?_ (fun _ => ?_))
   | exact spec_l20Args.mono _ _ _ _
   | exact spec_l20Form.mono _ _ _ _
   | exact spec_l20Vals.mono _ _ _ _
   | exact LeO.none _
   | refine LeO.ite ?_ ?_
   | refine LeO.bind ?_ (fun _ => ?_)
set_option maxHeartbeats 8000000 in
set_option maxRecDepth 100000 in
theorem spec_DrawFrmAt.calls (k : Nat) (A0 : Option Addr) (c0 : Nat) (l0 : List Int) (r1 : List Int) (r2 : List Int) (r3 : Int) (r4 : List Int) (r5 : List Int) (w : World) (hr0 : Kd.C (Kd.int .u8) w A0 l0.length l0) (hc0 : l0.length ≤ c0) (h : spec_DrawFrmAt.f k l0 = some (r1, r2, r3, r4, r5)) :
  Calls Try.prog 6 #[.slice A0 l0.length c0] w fun e w' => ∃ v0_ v1_ v3_ v4_ : Value, e = .returned (.tuple #[.agg #[v0_, v1_, .int .i64 r3], v3_, v4_]) ∧ Kd.R (Kd.int .i64) 3 w' w.heap.size (fun k_ => some k_ ≠ (v1_ : Value).ownBlock ∧ some k_ ≠ (v3_ : Value).ownBlock ∧ some k_ ≠ (v4_ : Value).ownBlock) v0_ r1 ∧ Kd.R (Kd.int .i64) 3 w' w.heap.size (fun k_ => some k_ ≠ (v0_ : Value).ownBlock ∧ some k_ ≠ (v3_ : Value).ownBlock ∧ some k_ ≠ (v4_ : Value).ownBlock) v1_ r2 ∧ Kd.R (Kd.int .i64) 3 w' w.heap.size (fun k_ => some k_ ≠ (v0_ : Value).ownBlock ∧ some k_ ≠ (v1_ : Value).ownBlock ∧ some k_ ≠ (v4_ : Value).ownBlock) v3_ r4 ∧ Kd.R (Kd.int .i64) 3 w' w.heap.size (fun k_ => some k_ ≠ (v0_ : Value).ownBlock ∧ some k_ ≠ (v1_ : Value).ownBlock ∧ some k_ ≠ (v3_ : Value).ownBlock) v4_ r5 ∧ Below w.heap.size w w' := by
 have hu25 := Try.underlying25
 have HR0 := Aside0.mk hr0
 have HC0 := Aside0.mk hc0
 clear hr0 hc0
 have HB := Aside0.mk (Below.refl w.heap.size w)
 have H : ((spec_l20Open.f l0).bind fun bt299 => ((spec_l20Form.f k bt299.1 bt299.2 12).bind fun bt302 => ((spec_l20Vals.f k bt299.1 bt302.2.2.2 12).bind fun bt310 => ((spec_l20Args.f k bt299.1 bt310.2 12).bind fun bt314 => (some (bt302.1, bt302.2.1, bt302.2.2.1, bt310.1, bt314.1)))))) = some (r1, r2, r3, r4, r5) := h
 clear h
 replace H := Option.bind_eq_some_iff.mp H
 obtain ⟨⟨t299, t300⟩, A20, H⟩ := H
 replace H : ((spec_l20Form.f k t299 t300 12).bind fun bt302 => ((spec_l20Vals.f k t299 bt302.2.2.2 12).bind fun bt310 => ((spec_l20Args.f k t299 bt310.2 12).bind fun bt314 => (some (bt302.1, bt302.2.1, bt302.2.2.1, bt310.1, bt314.1))))) = some (r1, r2, r3, r4, r5) := H
 have A2 := Aside0.mk A20
 clear A20
 replace H := Option.bind_eq_some_iff.mp H
 obtain ⟨⟨t302, t305, t308, t309⟩, A30, H⟩ := H
 replace H : ((spec_l20Vals.f k t299 t309 12).bind fun bt310 => ((spec_l20Args.f k t299 bt310.2 12).bind fun bt314 => (some (t302, t305, t308, bt310.1, bt314.1)))) = some (r1, r2, r3, r4, r5) := H
 have A3 := Aside0.mk A30
 clear A30
 replace H := Option.bind_eq_some_iff.mp H
 obtain ⟨⟨t310, t313⟩, A40, H⟩ := H
 replace H : ((spec_l20Args.f k t299 t313 12).bind fun bt314 => (some (t302, t305, t308, t310, bt314.1))) = some (r1, r2, r3, r4, r5) := H
 have A4 := Aside0.mk A40
 clear A40
 replace H := Option.bind_eq_some_iff.mp H
 obtain ⟨⟨t314, t317⟩, A50, H⟩ := H
 replace H : (some (t302, t305, t308, t310, t314)) = some (r1, r2, r3, r4, r5) := H
 have A5 := Aside0.mk A50
 clear A50
 simp only [Option.some.injEq, Prod.mk.injEq] at H
 obtain ⟨rfl, rfl, rfl, rfl, rfl⟩ := H
 go_enter Try.func6, Try.ntmps6
 go_wp2_with (first | ((with_reducible refine gate_dst (N := 2) rfl ?_); refine box_event ?hg (N := 2) ?hd (cs := #[.slice none 0 0, .slice none 0 0, .int .i64 0]) (t := 25) ?hr ?_; (case hd => rfl); (case hg => rfl); (case hr => first | (go_simp; done) | (go_simp; rfl)); intro gb298 hg w6 hbox hb; have BK298 := Aside0.mk (hbox); have GW298 := Aside0.mk ((by rw [hg]; exact (below_size (by exact lB HB.out)) : w.heap.size ≤ gb298)); have IGW298 : Nonempty _ := ⟨GW298.out⟩; have GE298 := Aside0.mk ((by rw [hg]; exact (below_size (by exact lB HB.out)) : w.heap.size ≤ gb298)); have IGE298 : Nonempty _ := ⟨GE298.out⟩; replace HB := Aside0.mk (below_step (by exact lB HB.out) hb); clear hb hbox hg) | ((with_reducible refine gate_callee (f := 20) rfl ?_); refine goesL_ (some 7) rfl rfl Try.func20 (by kernel_rfl) rfl #[.slice A0 l0.length c0] rfl (by (try simp only [mA, mC, mN]); first | done | rfl | (simp only [ld, lt]; rfl)) ?_; (with_reducible refine (spec_l20Open.calls _ _ l0 t299 t300 w _ ?side1 ?side2 ?side3 A2.out).mono ?_); (case side1 => exact jB HB.out); (case side2 => exact HR0.out); (case side3 => exact HC0.out); rintro e w7 ⟨g301, rfl, hi, hb, hb2⟩; refine ⟨_, rfl, ?_⟩; replace HB := Aside0.mk (hb); have HI301 := Aside0.mk (hi); have NB301_298 := Aside0.mk (IsS59.ne_blk hi (blk_below (g := gb298) (o := .cells #[.slice none 0 0, .slice none 0 0, .int .i64 0] 25 (0, 0)) (by exact lK BK298.out) hb2) (by decide)); have INB301_298 : Nonempty _ := ⟨NB301_298.out⟩; have NB298_301 := Aside0.mk (Ne.symm (IsS59.ne_blk hi (blk_below (g := gb298) (o := .cells #[.slice none 0 0, .slice none 0 0, .int .i64 0] 25 (0, 0)) (by exact lK BK298.out) hb2) (by decide))); have INB298_301 : Nonempty _ := ⟨NB298_301.out⟩; replace BK298 := Aside0.mk (blk_below (g := gb298) (o := .cells #[.slice none 0 0, .slice none 0 0, .int .i64 0] 25 (0, 0)) (by exact lK BK298.out) hb2); (try clear hb); (try clear hb2); (try clear hk); (try clear hi)) | ((with_reducible refine gate_callee (f := 21) rfl ?_); refine goesL_ (some 9) rfl rfl Try.func21 (by kernel_rfl) rfl #[.pointer (some ⟨g301, 0, none⟩), .int .i64 12] rfl (by (try simp only [mA, mC, mN]); first | done | rfl | (simp only [ld, lt]; rfl)) ?_; (with_reducible refine (spec_l20Form.calls k g301 t299 t300 12 t302 t305 t308 t309 w _ ?side1 ?side2 A3.out).mono ?_); (case side1 => exact IsS59.j HI301.out); (case side2 => exact jB HB.out); rintro e w8 ⟨v303, v306, rfl, ho0, ho1, hi, hb, hk⟩; refine ⟨_, rfl, ?_⟩; replace BK298 := Aside0.mk (kb hk BK298.out NB298_301.out); have HO304 := Aside0.mk (Kd.R_lower ho0 (below_size (by exact jB HB.out))); have HO307 := Aside0.mk (Kd.R_lower ho1 (below_size (by exact jB HB.out))); replace HB := Aside0.mk (hb); replace HI301 := Aside0.mk (hi); (try clear hb); (try clear hb2); (try clear hk); (try clear hi); (try clear ho0); (try clear ho1)) | ((with_reducible refine gate_callee (f := 23) rfl ?_); refine goesL_ (some 11) rfl rfl Try.func23 (by kernel_rfl) rfl #[.pointer (some ⟨g301, 0, none⟩), .int .i64 12] rfl (by (try simp only [mA, mC, mN]); first | done | rfl | (simp only [ld, lt]; rfl)) ?_; (with_reducible refine (spec_l20Vals.calls k g301 t299 t309 12 t310 t313 w _ ?side1 ?side2 A4.out).mono ?_); (case side1 => exact IsS59.j HI301.out); (case side2 => exact jB HB.out); rintro e w9 ⟨v311, rfl, ho0, hi, hb, hk⟩; refine ⟨_, rfl, ?_⟩; replace BK298 := Aside0.mk (kb hk BK298.out NB298_301.out); have HO312 := Aside0.mk (Kd.R_lower (Kd.R_new' (Kd.R_new' ho0 (rl HO304.out)) (rl HO307.out)) (below_size (by exact jB HB.out))); replace HO304 := Aside0.mk (Kd.R_mono (Kd.R_told (Kd.R_oldK (IsS59.apart (show IsS59 w _ g301 t299 t309 from by exact IsS59.j HI301.out) (by exact lR HO304.out) (by decide)) hk) (Kd.R_base ho0)) (fun _ h_ => h_.1)); replace HO307 := Aside0.mk (Kd.R_mono (Kd.R_told (Kd.R_oldK (IsS59.apart (show IsS59 w _ g301 t299 t309 from by exact IsS59.j HI301.out) (by exact lR HO307.out) (by decide)) hk) (Kd.R_base ho0)) (fun _ h_ => h_.1)); replace HB := Aside0.mk (hb); replace HI301 := Aside0.mk (hi); (try clear hb); (try clear hb2); (try clear hk); (try clear hi); (try clear ho0)) | ((with_reducible refine gate_callee (f := 24) rfl ?_); refine goesL_ (some 13) rfl rfl Try.func24 (by kernel_rfl) rfl #[.pointer (some ⟨g301, 0, none⟩), .int .i64 12] rfl (by (try simp only [mA, mC, mN]); first | done | rfl | (simp only [ld, lt]; rfl)) ?_; (with_reducible refine (spec_l20Args.calls k g301 t299 t313 12 t314 t317 w _ ?side1 ?side2 A5.out).mono ?_); (case side1 => exact IsS59.j HI301.out); (case side2 => exact jB HB.out); rintro e w10 ⟨v315, rfl, ho0, hi, hb, hk⟩; refine ⟨_, rfl, ?_⟩; replace BK298 := Aside0.mk (kb hk BK298.out NB298_301.out); have HO316 := Aside0.mk (Kd.R_lower (Kd.R_new' (Kd.R_new' (Kd.R_new' ho0 (rl HO304.out)) (rl HO307.out)) (rl HO312.out)) (below_size (by exact jB HB.out))); replace HO304 := Aside0.mk (Kd.R_mono (Kd.R_told (Kd.R_oldK (IsS59.apart (show IsS59 w _ g301 t299 t313 from by exact IsS59.j HI301.out) (by exact lR HO304.out) (by decide)) hk) (Kd.R_base ho0)) (fun _ h_ => h_.1)); replace HO307 := Aside0.mk (Kd.R_mono (Kd.R_told (Kd.R_oldK (IsS59.apart (show IsS59 w _ g301 t299 t313 from by exact IsS59.j HI301.out) (by exact lR HO307.out) (by decide)) hk) (Kd.R_base ho0)) (fun _ h_ => h_.1)); replace HO312 := Aside0.mk (Kd.R_mono (Kd.R_told (Kd.R_oldK (IsS59.apart (show IsS59 w _ g301 t299 t313 from by exact IsS59.j HI301.out) (by exact lR HO312.out) (by decide)) hk) (Kd.R_base ho0)) (fun _ h_ => h_.1)); replace HB := Aside0.mk (hb); replace HI301 := Aside0.mk (hi); (try clear hb); (try clear hb2); (try clear hk); (try clear hi); (try clear ho0); obtain ⟨Ao11, co11, eo11⟩ := Kd.R_slice HO304.out; subst eo11; have hnb12 := NB298_301.out; have hnc12 := NB301_298.out; obtain ⟨hcz13_0, hcz13_1, hcz13_2, hfz13_0, hfz13_1, hfz13_2⟩ := cf3 BK298.out; obtain ⟨Ao14, co14, eo14⟩ := Kd.R_slice HO307.out; subst eo14))
 refine bodyPost_ret (results_ctt rfl _ _ gb298 25 #[.slice Ao11 t302.length co11, .slice Ao14 t305.length co14, .int .i64 t308] (0, 0) _ rfl (by (with_reducible repeat first | refine kN ?_ _ | refine kD ?_ | refine kA ?_ _); refine blk_put (cs := #[.slice Ao11 t302.length co11, .slice Ao14 t305.length co14, .int .i64 0]) ?_ 2 _ rfl; (with_reducible repeat first | refine kN ?_ _ | refine kD ?_ | refine kA ?_ _); refine blk_put (cs := #[.slice Ao11 t302.length co11, .slice none 0 0, .int .i64 0]) ?_ 1 _ rfl; (with_reducible repeat first | refine kN ?_ _ | refine kD ?_ | refine kA ?_ _); refine blk_put (cs := #[.slice none 0 0, .slice none 0 0, .int .i64 0]) ?_ 0 _ rfl; exact lK BK298.out) Try.underlying25 rfl (by kernel_rfl)) rfl ?_
 exact ⟨_, _, _, _, by first | rfl | (simp [errW_none, errW_some] <;> rfl) | (simp [*, errW_none, errW_some] <;> rfl), by exact lR <| Kd.R_mono (Kd.R_far (p := ⟨gb298, 2, none⟩) (Kd.R_far (p := ⟨gb298, 1, none⟩) (Kd.R_far (p := ⟨gb298, 0, none⟩) (Kd.R_types HO304.out BK298.out (by decide)) (fun _ hk => by first | exact hk.2 | exact fun e_ => hk.2 (e_.trans (ob _ _ _ _))) (.slice Ao11 t302.length co11)) (fun _ hk => by first | exact hk.2 | exact fun e_ => hk.2 (e_.trans (ob _ _ _ _))) (.slice Ao14 t305.length co14)) (fun _ hk => by first | exact hk.2 | exact fun e_ => hk.2 (e_.trans (ob _ _ _ _))) (.int .i64 t308)) (fun _ hk => ⟨hk.1.1.1, ⟨hk.1.1.2, hk.1.2⟩⟩), by exact lR <| Kd.R_mono (Kd.R_far (p := ⟨gb298, 2, none⟩) (Kd.R_far (p := ⟨gb298, 1, none⟩) (Kd.R_far (p := ⟨gb298, 0, none⟩) (Kd.R_types HO307.out BK298.out (by decide)) (fun _ hk => by first | exact hk.2 | exact fun e_ => hk.2 (e_.trans (ob _ _ _ _))) (.slice Ao11 t302.length co11)) (fun _ hk => by first | exact hk.2 | exact fun e_ => hk.2 (e_.trans (ob _ _ _ _))) (.slice Ao14 t305.length co14)) (fun _ hk => by first | exact hk.2 | exact fun e_ => hk.2 (e_.trans (ob _ _ _ _))) (.int .i64 t308)) (fun _ hk => ⟨hk.1.1.1, ⟨hk.1.1.2, hk.1.2⟩⟩), by exact lR <| Kd.R_mono (Kd.R_far (p := ⟨gb298, 2, none⟩) (Kd.R_far (p := ⟨gb298, 1, none⟩) (Kd.R_far (p := ⟨gb298, 0, none⟩) (Kd.R_types HO312.out BK298.out (by decide)) (fun _ hk => by first | exact hk.2 | exact fun e_ => hk.2 (e_.trans (ob _ _ _ _))) (.slice Ao11 t302.length co11)) (fun _ hk => by first | exact hk.2 | exact fun e_ => hk.2 (e_.trans (ob _ _ _ _))) (.slice Ao14 t305.length co14)) (fun _ hk => by first | exact hk.2 | exact fun e_ => hk.2 (e_.trans (ob _ _ _ _))) (.int .i64 t308)) (fun _ hk => ⟨hk.1.1.1.2, ⟨hk.1.1.2, hk.1.2⟩⟩), by exact lR <| Kd.R_mono (Kd.R_far (p := ⟨gb298, 2, none⟩) (Kd.R_far (p := ⟨gb298, 1, none⟩) (Kd.R_far (p := ⟨gb298, 0, none⟩) (Kd.R_types HO316.out BK298.out (by decide)) (fun _ hk => by first | exact hk.2 | exact fun e_ => hk.2 (e_.trans (ob _ _ _ _))) (.slice Ao11 t302.length co11)) (fun _ hk => by first | exact hk.2 | exact fun e_ => hk.2 (e_.trans (ob _ _ _ _))) (.slice Ao14 t305.length co14)) (fun _ hk => by first | exact hk.2 | exact fun e_ => hk.2 (e_.trans (ob _ _ _ _))) (.int .i64 t308)) (fun _ hk => ⟨hk.1.1.1.2, ⟨hk.1.1.2, hk.1.2⟩⟩), by exact jB HB.out⟩

/-! ### impl_in: function 31 -/
def impl_in.f (a0 : Int) (a1 : Int) (a2 : Int) : Option (Bool) := if a0 ≥ a1 then (some (decide (a0 ≤ a2))) else (some false)
set_option maxHeartbeats 8000000 in
set_option maxRecDepth 100000 in
theorem impl_in.calls (a0 : Int) (a1 : Int) (a2 : Int) (r : Bool) (w : World) (h : impl_in.f a0 a1 a2 = some r) :
  Calls Try.prog 31 #[.int .i64 a0, .int .i64 a1, .int .i64 a2] w fun e w' => e = .returned (.bool r) ∧ Drawn0 w w' := by
 have H : (if a0 ≥ a1 then (some (decide (a0 ≤ a2))) else (some false)) = some r := h
 clear h
 by_cases c4 : a0 ≥ a1
 ·rw [if_pos c4] at H
  have c4b0 : decide (a1 ≤ a0) = true := decide_eq_true c4
  clear c4
  obtain rfl := Option.some.inj H
  go_enter Try.func31, Try.ntmps31
  go_wp2
  go_ret
  exact ⟨by first | rfl | (simp; done) | (simp [*]; done), by repeat (first | exact Drawn0.refl _ | apply Drawn0.step)⟩
 ·rw [if_neg c4] at H
  have c4b0 : decide (a1 ≤ a0) = false := decide_eq_false c4
  clear c4
  obtain rfl := Option.some.inj H
  go_enter Try.func31, Try.ntmps31
  go_wp2
  go_ret
  exact ⟨by first | rfl | (simp; done) | (simp [*]; done), by repeat (first | exact Drawn0.refl _ | apply Drawn0.step)⟩

-- NOT PRINTED: function 44 (slices_IndexFunc_int_int)

-- NOT PRINTED: function 41 (slices_ContainsFunc_int_int)

-- NOT PRINTED: function 42 (impl_within_1)

/-! ### impl_within: function 32, by hand -/
set_option maxHeartbeats 1000000 in
theorem idx_ints (q : Int → Bool) (g : Nat) (lb : Array Value) (eg : ∀ args w, (callFunc g args).run Try.prog w = .ok (.enter g args) w) (A0 : Option Addr) (c0 : Nat) (xs : List Int) (w : World)
  (hr : Kd.C (Kd.int .i64) w A0 xs.length xs) (hp : ∀ x, x ∈ xs → ∀ W : World, Below w.heap.size w W → Calls Try.prog g (#[.int .i64 x] ++ lb) W fun e w' => e = .returned (.bool (q x)) ∧ Below W.heap.size W w') :
  Calls Try.prog 44 #[.slice A0 xs.length c0, .func (.func g) #[] lb] w fun e w' => e = .returned (.int .i64 (idxOf q xs)) ∧ Below w.heap.size w w' := by
 have hm := Kd.C_max hr
 have HR := Aside0.mk hr
 have HP := Aside0.mk hp
 clear hr hp
 go_enter Try.func44, Try.ntmps44
 go_wp2
 go_loopg [5, 8] xs.length (fun gg _ s8 wr => ∃ x : Int, s8 = .int .i64 x ∧ Aside0 (0 ≤ x ∧ x ≤ xs.length ∧ (xs.length : Int) - x ≤ gg) ∧ Aside0 (Below w.heap.size w wr) ∧ Aside0 (∀ j : Int, 0 ≤ j → j < x → q (xs.getD j.toNat 0) = false))
 case atStart => exact ⟨0, rfl, ⟨by omega, by omega, by omega⟩, ⟨Below.refl _ _⟩, ⟨fun j h0 h1 => by omega⟩⟩
 case round =>
  obtain ⟨x, rfl, HX, HB, HN⟩ := hrel
  have p1 := HX.out.1
  by_cases hlt : x < (xs.length : Int)
  ·obtain ⟨ad, e1, hx⟩ := Kd.at_int (Kd.C_below HR.out HB.out) x p1 hlt
   cases e1
   have hcall := HP.out (rd xs x) (mem_rd 0 xs x p1 hlt) _ HB.out
   cases hq : q (rd xs x) with
   | true =>
    rw [hq] at hcall
    have HQ := Aside0.mk hq
    clear hq
    have HC := Aside0.mk hcall
    clear hcall
    go_wp2_with (go_at_fn g; refine HC.out.mono ?_; rintro e w' ⟨rfl, hb⟩)
    go_ret
    refine ⟨?_, below_then HB.out HB.out.size hb⟩
    rw [idxOf_hit 0 x p1 hlt HQ.out HN.out]
    rfl
   | false =>
    rw [hq] at hcall
    have HQ := Aside0.mk hq
    clear hq
    have HC := Aside0.mk hcall
    clear hcall
    go_wp2_with (go_at_fn g; refine HC.out.mono ?_; rintro e w' ⟨rfl, hb⟩)
    go_roundg (xs.length - (x.toNat + 1))
    case measure => have := HX.out; omega
    case rel =>
     refine ⟨x + 1, by go_num, ⟨by have := HX.out; omega, by have := HX.out; omega, by have := HX.out; omega⟩, ⟨below_then HB.out HB.out.size hb⟩, ⟨fun j h0 h1 => ?_⟩⟩
     by_cases e : j = x
     ·subst e; exact HQ.out
     ·exact HN.out j h0 (by omega)
  ·go_wp2
   go_ret
   refine ⟨?_, HB.out⟩
   rw [idxOf_miss 0 (fun j h0 h1 => HN.out j h0 (by have := HX.out; omega))]
   rfl
set_option maxHeartbeats 1000000 in
theorem has_ints (q : Int → Bool) (g : Nat) (lb : Array Value) (eg : ∀ args w, (callFunc g args).run Try.prog w = .ok (.enter g args) w) (A0 : Option Addr) (c0 : Nat) (xs : List Int) (w : World)
  (hr : Kd.C (Kd.int .i64) w A0 xs.length xs) (hp : ∀ x, x ∈ xs → ∀ W : World, Below w.heap.size w W → Calls Try.prog g (#[.int .i64 x] ++ lb) W fun e w' => e = .returned (.bool (q x)) ∧ Below W.heap.size W w') :
  Calls Try.prog 41 #[.slice A0 xs.length c0, .func (.func g) #[] lb] w fun e w' => e = .returned (.bool (xs.any q)) ∧ Below w.heap.size w w' := by
 have HC := Aside0.mk (idx_ints q g lb eg A0 c0 xs w hr hp)
 rw [← idxOf_any q xs]
 generalize idxOf q xs = n at HC
 clear hr hp
 go_enter Try.func41, Try.ntmps41
 go_wp2_with (go_at_call 44; refine HC.out.mono ?_; rintro e w' ⟨rfl, hb⟩)
 go_ret
 exact ⟨rfl, hb⟩
def inB (n lo hi : Int) : Bool := decide (lo ≤ n) && decide (n ≤ hi)
theorem in_inB (n lo hi : Int) : impl_in.f n lo hi = some (inB n lo hi) := by
 unfold impl_in.f inB
 by_cases h : n ≥ lo
 ·rw [if_pos h]; simp [h]
 ·rw [if_neg h]; simp [h]
set_option maxHeartbeats 1000000 in
theorem within_pred (most : Int) (B : Nat) (W : World) (x : Int) (hc : W.cell? ⟨B, 0, none⟩ = some (.int .i64 most)) :
  Calls Try.prog 42 (#[.int .i64 x] ++ #[.pointer (some ⟨B, 0, none⟩)]) W fun e w' => e = .returned (.bool (!inB x (wrap64 (-most)) most)) ∧ Below W.heap.size W w' := by
 show Calls Try.prog 42 #[.int .i64 x, .pointer (some ⟨B, 0, none⟩)] W _
 have HI := Aside0.mk (impl_in.calls x (wrap64 (-most)) most (inB x (wrap64 (-most)) most) W (in_inB _ _ _))
 go_enter Try.func42, Try.ntmps42
 go_wp2_with (go_at_call 31; refine HI.out.mono ?_; rintro e w' ⟨rfl, hd⟩)
 go_ret
 exact ⟨rfl, hd.below⟩
def impl_within.f (l0 : List Int) (a1 : Int) (a2 : Int) : Option (Bool) := some (decide ((l0.length : Int) = a1) && !(l0.any fun x => !inB x (wrap64 (-a2)) a2))
set_option maxHeartbeats 8000000 in
set_option maxRecDepth 100000 in
theorem impl_within.calls (A0 : Option Addr) (c0 : Nat) (l0 : List Int) (a1 : Int) (a2 : Int) (r : Bool) (w : World) (hr0 : Kd.C (Kd.int .i64) w A0 l0.length l0) (hc0 : l0.length ≤ c0) (h : impl_within.f l0 a1 a2 = some r) :
  Calls Try.prog 32 #[.slice A0 l0.length c0, .int .i64 a1, .int .i64 a2] w fun e w' => e = .returned (.bool r) ∧ Below w.heap.size w w' := by
 obtain rfl := Option.some.inj h
 clear h
 have eg : ∀ args w, (callFunc 42 args).run Try.prog w = .ok (.enter 42 args) w := enters_of Try.func42 (by kernel_rfl) rfl
 have HC := Aside0.mk (has_ints (fun x => !inB x (wrap64 (-a2)) a2) 42 #[.pointer (some ⟨w.heap.size, 0, none⟩)] eg A0 c0 l0 (w.alloc (.cells #[.int .i64 a2] 3)) (Kd.C_alloc hr0 _)
  (fun x _ W hb => within_pred a2 w.heap.size W x ((hb.cell (p := ⟨w.heap.size, 0, none⟩) (by simp)).trans (by simp))))
 clear hr0
 by_cases hn : (l0.length : Int) = a1
 ·have hb1 : ((l0.length : Int) == a1) = true := beq_iff_eq.mpr hn
  have hd : decide ((l0.length : Int) = a1) = true := decide_eq_true hn
  rw [hd]
  clear hn hd
  generalize l0.any (fun x => !inB x (wrap64 (-a2)) a2) = b at HC
  go_enter Try.func32, Try.ntmps32
  go_wp2_with (go_at_call 41; refine HC.out.mono ?_; rintro e w' ⟨rfl, hb⟩)
  go_ret
  exact ⟨by simp, below_then (below_alloc (Below.refl _ _) _) (by simp) hb⟩
 ·have hb1 : ((l0.length : Int) == a1) = false := beq_eq_false_iff_ne.mpr hn
  have hd : decide ((l0.length : Int) = a1) = false := decide_eq_false hn
  rw [hd]
  clear hn hd HC
  go_enter Try.func32, Try.ntmps32
  go_wp2
  go_ret
  exact ⟨by simp, below_alloc (Below.refl _ _) _⟩

/-! ### impl_FrmOk: function 11 -/
def impl_FrmOk.f (l0_0 : List Int) (l0_1 : List Int) (a0_2 : Int) : Option (Bool) := (impl_within.f l0_0 3 10000000).bind fun t319 => (if t319 = true then ((impl_within.f l0_1 2 10000000).bind fun t320 => (if t320 = true then ((impl_in.f a0_2 (-10000000) 10000000).bind fun t321 => (some t321)) else (some false))) else (some false))
set_option maxHeartbeats 8000000 in
set_option maxRecDepth 100000 in
theorem impl_FrmOk.calls (A0_0 : Option Addr) (c0_0 : Nat) (l0_0 : List Int) (A0_1 : Option Addr) (c0_1 : Nat) (l0_1 : List Int) (a0_2 : Int) (r : Bool) (w : World) (hr0_0 : Kd.C (Kd.int .i64) w A0_0 l0_0.length l0_0) (hc0_0 : l0_0.length ≤ c0_0) (hr0_1 : Kd.C (Kd.int .i64) w A0_1 l0_1.length l0_1) (hc0_1 : l0_1.length ≤ c0_1) (h : impl_FrmOk.f l0_0 l0_1 a0_2 = some r) :
  Calls Try.prog 11 #[.agg #[.slice A0_0 l0_0.length c0_0, .slice A0_1 l0_1.length c0_1, .int .i64 a0_2]] w fun e w' => e = .returned (.bool r) ∧ Below w.heap.size w w' := by
 have hu25 := Try.underlying25
 have HR0_0 := Aside0.mk hr0_0
 have HC0_0 := Aside0.mk hc0_0
 clear hr0_0 hc0_0
 have HR0_1 := Aside0.mk hr0_1
 have HC0_1 := Aside0.mk hc0_1
 clear hr0_1 hc0_1
 have HB := Aside0.mk (Below.refl w.heap.size w)
 have H : ((impl_within.f l0_0 3 10000000).bind fun t319 => (if t319 = true then ((impl_within.f l0_1 2 10000000).bind fun t320 => (if t320 = true then ((impl_in.f a0_2 (-10000000) 10000000).bind fun t321 => (some t321)) else (some false))) else (some false))) = some r := h
 clear h
 replace H := Option.bind_eq_some_iff.mp H
 obtain ⟨t319, A20, H⟩ := H
 replace H : (if t319 = true then ((impl_within.f l0_1 2 10000000).bind fun t320 => (if t320 = true then ((impl_in.f a0_2 (-10000000) 10000000).bind fun t321 => (some t321)) else (some false))) else (some false)) = some r := H
 have A2 := Aside0.mk A20
 clear A20
 by_cases c3 : t319 = true
 ·subst c3
  have H1 : ((impl_within.f l0_1 2 10000000).bind fun t320 => (if t320 = true then ((impl_in.f a0_2 (-10000000) 10000000).bind fun t321 => (some t321)) else (some false))) = some r := by rw [if_pos rfl] at H; exact H
  clear H
  have H := H1
  clear H1
  replace H := Option.bind_eq_some_iff.mp H
  obtain ⟨t320, A40, H⟩ := H
  replace H : (if t320 = true then ((impl_in.f a0_2 (-10000000) 10000000).bind fun t321 => (some t321)) else (some false)) = some r := H
  have A4 := Aside0.mk A40
  clear A40
  by_cases c5 : t320 = true
  ·subst c5
   have H1 : ((impl_in.f a0_2 (-10000000) 10000000).bind fun t321 => (some t321)) = some r := by rw [if_pos rfl] at H; exact H
   clear H
   have H := H1
   clear H1
   replace H := Option.bind_eq_some_iff.mp H
   obtain ⟨t321, A60, H⟩ := H
   replace H : (some t321) = some r := H
   have A6 := Aside0.mk A60
   clear A60
   obtain rfl := Option.some.inj H
   go_enter Try.func11, Try.ntmps11
   go_wp2_with (first | ((with_reducible refine gate_dst (N := 1) rfl ?_); refine box_event ?hg (N := 1) ?hd (cs := #[.slice A0_0 l0_0.length c0_0, .slice A0_1 l0_1.length c0_1, .int .i64 a0_2]) (t := 25) ?hr ?_; (case hd => rfl); (case hg => rfl); (case hr => first | (go_simp; done) | (go_simp; rfl)); intro gb318 hg w7 hbox hb; have BK318 := Aside0.mk (hbox); have GW318 := Aside0.mk ((by rw [hg]; exact (below_size (by exact lB HB.out)) : w.heap.size ≤ gb318)); have IGW318 : Nonempty _ := ⟨GW318.out⟩; have GE318 := Aside0.mk ((by rw [hg]; exact (below_size (by exact lB HB.out)) : w.heap.size ≤ gb318)); have IGE318 : Nonempty _ := ⟨GE318.out⟩; replace HB := Aside0.mk (below_step (by exact lB HB.out) hb); clear hb hbox hg; obtain ⟨hcz8_0, hcz8_1, hcz8_2, hfz8_0, hfz8_1, hfz8_2⟩ := cf3 BK318.out) | ((with_reducible refine gate_callee (f := 32) rfl ?_); refine goesL_ (some 5) rfl rfl Try.func32 (by kernel_rfl) rfl #[.slice A0_0 l0_0.length c0_0, .int .i64 3, .int .i64 10000000] rfl (by (try simp only [mA, mC, mN]); first | done | rfl | (simp only [ld, lt]; rfl)) ?_; (with_reducible refine (impl_within.calls _ _ l0_0 3 10000000 true _ ?side1 ?side2 A2.out).mono ?_); (case side1 => exact lC <| (Kd.C_below HR0_0.out HB.out)); (case side2 => exact HC0_0.out); rintro e w9 ⟨rfl, hb⟩; refine ⟨_, rfl, ?_⟩; replace BK318 := Aside0.mk (bb BK318.out hb); replace HB := Aside0.mk (below_step (by exact jB HB.out) hb); (try clear hb); (try clear hb2); (try clear hk); (try clear hi); obtain ⟨hcz10_0, hcz10_1, hcz10_2, hfz10_0, hfz10_1, hfz10_2⟩ := cf3 BK318.out) | (go_at_call 32; (with_reducible refine (impl_within.calls _ _ l0_1 2 10000000 true _ ?side1 ?side2 A4.out).mono ?_); (case side1 => exact lC <| (Kd.C_below HR0_1.out HB.out)); (case side2 => exact HC0_1.out); rintro e w11 ⟨rfl, hb⟩; replace BK318 := Aside0.mk (bb BK318.out hb); replace HB := Aside0.mk (below_step (by exact jB HB.out) hb); (try clear hb); (try clear hb2); (try clear hk); (try clear hi); obtain ⟨hcz12_0, hcz12_1, hcz12_2, hfz12_0, hfz12_1, hfz12_2⟩ := cf3 BK318.out) | (go_at_call 31; (with_reducible refine (impl_in.calls a0_2 (-10000000) 10000000 t321 _ A6.out).mono ?_); rintro e w' ⟨rfl, ⟨nd, rfl⟩⟩))
   go_ret
   exact ⟨by first | rfl | (simp [errW_none, errW_some] <;> rfl) | (simp [*, errW_none, errW_some] <;> rfl), by exact jB HB.out⟩
  ·replace c5 := Bool.eq_false_iff.mpr c5
   subst c5
   have H1 : (some false) = some r := by rw [if_neg (show ¬ (false = true) by decide)] at H; exact H
   clear H
   have H := H1
   clear H1
   obtain rfl := Option.some.inj H
   go_enter Try.func11, Try.ntmps11
   go_wp2_with (first | ((with_reducible refine gate_dst (N := 1) rfl ?_); refine box_event ?hg (N := 1) ?hd (cs := #[.slice A0_0 l0_0.length c0_0, .slice A0_1 l0_1.length c0_1, .int .i64 a0_2]) (t := 25) ?hr ?_; (case hd => rfl); (case hg => rfl); (case hr => first | (go_simp; done) | (go_simp; rfl)); intro gb318 hg w13 hbox hb; have BK318 := Aside0.mk (hbox); have GW318 := Aside0.mk ((by rw [hg]; exact (below_size (by exact lB HB.out)) : w.heap.size ≤ gb318)); have IGW318 : Nonempty _ := ⟨GW318.out⟩; have GE318 := Aside0.mk ((by rw [hg]; exact (below_size (by exact lB HB.out)) : w.heap.size ≤ gb318)); have IGE318 : Nonempty _ := ⟨GE318.out⟩; replace HB := Aside0.mk (below_step (by exact lB HB.out) hb); clear hb hbox hg; obtain ⟨hcz14_0, hcz14_1, hcz14_2, hfz14_0, hfz14_1, hfz14_2⟩ := cf3 BK318.out) | ((with_reducible refine gate_callee (f := 32) rfl ?_); refine goesL_ (some 5) rfl rfl Try.func32 (by kernel_rfl) rfl #[.slice A0_0 l0_0.length c0_0, .int .i64 3, .int .i64 10000000] rfl (by (try simp only [mA, mC, mN]); first | done | rfl | (simp only [ld, lt]; rfl)) ?_; (with_reducible refine (impl_within.calls _ _ l0_0 3 10000000 true _ ?side1 ?side2 A2.out).mono ?_); (case side1 => exact lC <| (Kd.C_below HR0_0.out HB.out)); (case side2 => exact HC0_0.out); rintro e w15 ⟨rfl, hb⟩; refine ⟨_, rfl, ?_⟩; replace BK318 := Aside0.mk (bb BK318.out hb); replace HB := Aside0.mk (below_step (by exact jB HB.out) hb); (try clear hb); (try clear hb2); (try clear hk); (try clear hi); obtain ⟨hcz16_0, hcz16_1, hcz16_2, hfz16_0, hfz16_1, hfz16_2⟩ := cf3 BK318.out) | (go_at_call 32; (with_reducible refine (impl_within.calls _ _ l0_1 2 10000000 false _ ?side1 ?side2 A4.out).mono ?_); (case side1 => exact lC <| (Kd.C_below HR0_1.out HB.out)); (case side2 => exact HC0_1.out); rintro e w17 ⟨rfl, hb⟩; replace BK318 := Aside0.mk (bb BK318.out hb); replace HB := Aside0.mk (below_step (by exact jB HB.out) hb); (try clear hb); (try clear hb2); (try clear hk); (try clear hi)))
   go_ret
   exact ⟨by first | rfl | (simp [errW_none, errW_some] <;> rfl) | (simp [*, errW_none, errW_some] <;> rfl), by exact jB HB.out⟩
 ·replace c3 := Bool.eq_false_iff.mpr c3
  subst c3
  have H1 : (some false) = some r := by rw [if_neg (show ¬ (false = true) by decide)] at H; exact H
  clear H
  have H := H1
  clear H1
  obtain rfl := Option.some.inj H
  go_enter Try.func11, Try.ntmps11
  go_wp2_with (first | ((with_reducible refine gate_dst (N := 1) rfl ?_); refine box_event ?hg (N := 1) ?hd (cs := #[.slice A0_0 l0_0.length c0_0, .slice A0_1 l0_1.length c0_1, .int .i64 a0_2]) (t := 25) ?hr ?_; (case hd => rfl); (case hg => rfl); (case hr => first | (go_simp; done) | (go_simp; rfl)); intro gb318 hg w18 hbox hb; have BK318 := Aside0.mk (hbox); have GW318 := Aside0.mk ((by rw [hg]; exact (below_size (by exact lB HB.out)) : w.heap.size ≤ gb318)); have IGW318 : Nonempty _ := ⟨GW318.out⟩; have GE318 := Aside0.mk ((by rw [hg]; exact (below_size (by exact lB HB.out)) : w.heap.size ≤ gb318)); have IGE318 : Nonempty _ := ⟨GE318.out⟩; replace HB := Aside0.mk (below_step (by exact lB HB.out) hb); clear hb hbox hg; obtain ⟨hcz19_0, hcz19_1, hcz19_2, hfz19_0, hfz19_1, hfz19_2⟩ := cf3 BK318.out) | ((with_reducible refine gate_callee (f := 32) rfl ?_); refine goesL_ (some 5) rfl rfl Try.func32 (by kernel_rfl) rfl #[.slice A0_0 l0_0.length c0_0, .int .i64 3, .int .i64 10000000] rfl (by (try simp only [mA, mC, mN]); first | done | rfl | (simp only [ld, lt]; rfl)) ?_; (with_reducible refine (impl_within.calls _ _ l0_0 3 10000000 false _ ?side1 ?side2 A2.out).mono ?_); (case side1 => exact lC <| (Kd.C_below HR0_0.out HB.out)); (case side2 => exact HC0_0.out); rintro e w20 ⟨rfl, hb⟩; refine ⟨_, rfl, ?_⟩; replace BK318 := Aside0.mk (bb BK318.out hb); replace HB := Aside0.mk (below_step (by exact jB HB.out) hb); (try clear hb); (try clear hb2); (try clear hk); (try clear hi)))
  go_ret
  exact ⟨by first | rfl | (simp [errW_none, errW_some] <;> rfl) | (simp [*, errW_none, errW_some] <;> rfl), by exact jB HB.out⟩

end Go.Proofs.Ytopbdoilpdpkmaa.QFnFrmInto

-- shorter
