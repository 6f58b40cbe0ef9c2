/- Plain functions, and that the Go code computes them: written by a program of this session over the seat's translation; the conditions stand in each theorem. -/
import Derived.Test.YtcpaplcnebdocaaHW4
import Derived.Test.YtcpaplcnebdocaaQFnTrtKeepsx0
import Derived.Test.YtcpaplcnebdocaaQFnTrtKeepsx1
import Derived.Test.YtcpaplcnebdocaaQFnTrtKeepsx2
namespace Go.Proofs.Ytcpaplcnebdocaa.QFnTrtKeeps
open Go.RowKit Go.Proofs.YtcpaplcnebdocaaW.PrintWords Go.Proofs.YtcpaplcnebdocaaW.PrintLast Go.Proofs.YtcpaplcnebdocaaW.PrintMore Go.Proofs.Ytcpaplcnebdocaa.HWords
open Value (ownBlock)
attribute [local go_sem] max2_int min2_int max_two min_two max_three min_three max_four min_four   -- for this text's walks alone
set_option maxRecDepth 100000
set_option maxHeartbeats 8000000
set_option linter.unusedVariables false
set_option linter.unusedSimpArgs false
/-! ### spec_l3Copy: function 89 -/
def spec_l3Copy.l0 : Nat → List (S34) → List (S34) → Int → Option ((List (S34)))
 | 0, _, _, _ => none
 | k + 1, x0, x3, x4 => if x4 < (x0.length : Int) then ((spec_FrmZero.f).bind fun bt149 => (if 0 ≤ x4 then ((spec_l1Sum.f k bt149.1 bt149.2.1 bt149.2.2 ((rd_T34 x0 x4).f0) ((rd_T34 x0 x4).f1) ((rd_T34 x0 x4).f2) 1).bind fun bt157 => (if x3.length < 2513169434916 then (spec_l3Copy.l0 k x0 (x3 ++ [(⟨bt157.1, bt157.2.1, bt157.2.2⟩ : S34)]) (wrap64 (x4 + 1))) else (none))) else (none))) else (some x3)
def spec_l3Copy.f (k : Nat) (l0 : List (S34)) : Option ((List (S34))) := spec_l3Copy.l0 k l0 (([] : List (S34))) 0
def spec_l3Copy.T5 : Bool × List (List Nat × List Nat) := (true, [([], []), ([], []), ([], []), ([], []), ([2, 3], [2, 3]), ([4], [4]), ([1, 5, 1], [1, 5]), ([6], [6]), ([0, 7, 6], [0, 7]), ([8, 8, 0, 1, 2, 3, 4, 5, 6, 7, 8], [0, 8])])
def spec_l3Copy.B5 : List Nat := [0, 0, 0, 0, 12, 28, 62, 126, 255, 511]
theorem spec_l3Copy.tab5 : rtab .any (opsOf Try.f89 5) = spec_l3Copy.T5 := by kernel_rfl
theorem spec_l3Copy.bits5 : waitsOk spec_l3Copy.T5.2 spec_l3Copy.B5 = true := by kernel_rfl
theorem spec_l3Copy.calls (k : Nat) (A0 : Option Addr) (c0 : Nat) (l0 : List (S34)) (r : List (S34)) (w : World) (hr0 : Kd.C k34 w A0 l0.length l0) (hc0 : l0.length ≤ c0) (h : spec_l3Copy.f k l0 = some r) :
  Calls Try.prog 89 #[.slice A0 l0.length c0] w fun e w' => ∃ v0_ : Value, e = .returned (v0_) ∧ Kd.S k34 34 w' w.heap.size (fun _ => True) v0_ r ∧ Below w.heap.size w w' := by
 have hu34 := Try.underlying34; have HR0 := aM hr0; have HC0 := aM hc0; clear hr0 hc0; have HB := aM (Below.refl w.heap.size w); have H : (spec_l3Copy.l0 k l0 (([] : List (S34))) 0) = some r := h
 clear h; obtain ⟨y146, hy146⟩ : ∃ y_ : List (S34), y_ = (([] : List (S34))) := ⟨_, rfl⟩
 replace H : (spec_l3Copy.l0 k l0 y146 0) = some r := by first | (rw [hy146]; exact H) | exact H
 have Ny146 := aM hy146; clear hy146; have H' := aM H
 clear H; go_enter Try.func89, Try.ntmps89
 go_wp2_with (first | ((with_reducible refine gate_dst (N := 5) rfl ?_); refine Kd.S_lit k34 _ 34 ?hg (N := 5) ?hd (xs := ([] : List (S34))) (inner := []) (ok := fun _ => True) (okp := fun _ => True) ?hr ?hp (fun _ hk => hk) trivial (Below.refl _ _) (Nat.le_refl _) (by simp) ?_; (case hd => rfl); (case hg => rfl); (case hr => first | (go_simp; done) | (go_simp; rfl)); (case hp => exact (Reps.none _ _)); intro v147 w2 ho3 hb hg_ hnew_; clear hg_ hnew_; (first | rw [← Ny146.out] at ho3 | (simp only [Int.reduceToNat] at ho3; rw [← Ny146.out] at ho3)); have HO148 := aM (Kd.S_lower ho3 (bz HB.out)); replace HB := aM (bj HB.out hb); clear hb ho3))
 go_loopg [3, 4] k (fun kq v3 v4 w' => ∃ (x3_1 : List (S34)) (x4_1 : Int), v4 = .int .i64 x4_1 ∧ Aside0 (spec_l3Copy.l0 kq l0 x3_1 x4_1 = some r) ∧ Aside0 (kq ≤ k) ∧ Aside0 (Kd.S k34 34 w' w.heap.size (fun _ => True) v3 x3_1) ∧ Aside0 (Below w.heap.size w w'))
 case atStart => exact ⟨(y146), (0), sr, H', ⟨Nat.le_refl _⟩, ⟨by exact lS <| HO148.out⟩, ⟨by exact lB HB.out⟩⟩
 case round =>
  clear H'
  (try clear p2); obtain ⟨x3_1, x4_1, rfl, HA, HK1, HO_3, HB⟩ := hrel
  cases gk with
  | zero => exact absurd HA.out (by simp [spec_l3Copy.l0])
  | succ k1 =>
   have H := HA.out
   clear HA; simp only [spec_l3Copy.l0] at H
   by_cases c4 : x4_1 < (l0.length : Int)
   ·rw [if_pos c4] at H; replace c4 := decide_eq_true c4; obtain ⟨⟨t149, t152, t155⟩, A5, H⟩ := bS H
    try dsimp only at H
    obtain ⟨c6, H⟩ := iD H; obtain ⟨⟨t157, t160, t163⟩, A7, H⟩ := bS H
    try dsimp only at H
    obtain ⟨c8, H⟩ := iN H; have LMc8 := aM c8; clear c8; obtain ⟨y164, Ny164⟩ : ∃ y_ : List (S34), Aside0 (y_ = (x3_1 ++ [(⟨t157, t160, t163⟩ : S34)])) := ⟨_, ⟨rfl⟩⟩
    try rw [← Ny164.out] at H
    try dsimp only [Option.bind_some] at H
    have H' := aM H
    clear H
    try go_wp2
    replace HO_3 := aM (Kd.S_drew HO_3.out); replace HB := aM (below_drew1 HB.out); have p156 : 0 ≤ (x4_1 : Int) := od; have q156 : x4_1 < (l0.length : Int) := od; obtain ⟨ad156, A156_0, c156_0, A156_1, c156_1, e156, hx156_0, hx156_1, hx156_2, hl156_0, hi156_0, hl156_1, hi156_1⟩ := at_T34 HR0.out x4_1 p156 q156
    have hw156_2 := hx156_2
    have hw156_1 := hx156_1
    have hw156_0 := hx156_0
    cases e156; replace hx156_0 := cl HB.out hx156_0; replace hx156_1 := cl HB.out hx156_1; replace hx156_2 := cl HB.out hx156_2; have HR156_0 := aM hi156_0; have HC156_0 := aM hl156_0; clear hi156_0 hl156_0; have HR156_1 := aM hi156_1; have HC156_1 := aM hl156_1; clear hi156_1 hl156_1; replace p156 := eq_true p156; replace q156 := eq_true q156; refine start_ (n := 10) (S := fun w' => w'.cell? (ad156.add ((x4_1).toNat * 3)) = some (.slice A156_0 ((rd_T34 l0 x4_1).f0).length c156_0) ∧ w'.cell? ⟨(ad156.add ((x4_1).toNat * 3)).block, (ad156.add ((x4_1).toNat * 3)).off + 1, none⟩ = some (.slice A156_1 ((rd_T34 l0 x4_1).f1).length c156_1) ∧ w'.cell? ⟨(ad156.add ((x4_1).toNat * 3)).block, (ad156.add ((x4_1).toNat * 3)).off + 2, none⟩ = some (.int .i64 ((rd_T34 l0 x4_1).f2))) (ds := []) #[false, false, false, false, false, false, false, false, false, false] (by kernel_rfl) rfl rfl ⟨(cl HB.out hw156_0), (cl HB.out hw156_1), (cl HB.out hw156_2)⟩ (fun hHeld => ?_); refine with_tabW spec_l3Copy.tab5 spec_l3Copy.bits5 (fun HT_ HW_ => ?_)
    generalize wr.drew = w9 at HO_3 HB HR156_0 HR156_1 hx156_0 hx156_1 hx156_2 hHeld ⊢
    refine pu 0 (some 12) HT_.out ?_; refine pu 2 (some 14) HT_.out ?_; refine pu 3 (some 15) HT_.out ?_; refine pu 4 (some 16) HT_.out ?_; refine tk 5 (some 17) HT_.out HW_.out hHeld ?_; refine oN 1 (some 13) HT_.out (fun K hK => ?_); refine gO Try.func86 #[] ?_; with_reducible refine (spec_FrmZero.calls  t149 t152 t155 _ A5.out).mono ?_
    rintro e w10 ⟨v150, v153, rfl, ho0, ho1, hb⟩; refine ⟨_, rfl, ?_⟩; replace HO_3 := aM (Kd.S_mono (Kd.S_told (Kd.S_told (Kd.S_old (by exact lS HO_3.out) hb) (Kd.R_base ho0)) (Kd.R_base ho1)) (fun _ h_ => h_.1)); have HO151 := aM (Kd.R_lower ho0 (bz HB.out)); have HO154 := aM (Kd.R_lower ho1 (bz HB.out)); replace HB := aM (bj HB.out hb); clear hb ho0; (try clear ho1); obtain ⟨Ao11, co11, eo11⟩ := Kd.R_slice HO151.out
    (first | subst eo11 | (injection eo11 with f1_ f2_ f3_; have f4_ := f1_.symm; have f5_ := f3_.symm; clear f1_ f2_ f3_; subst f4_; subst f5_))
    obtain ⟨Ao12, co12, eo12⟩ := Kd.R_slice HO154.out
    (first | subst eo12 | (injection eo12 with f1_ f2_ f3_; have f4_ := f1_.symm; have f5_ := f3_.symm; clear f1_ f2_ f3_; subst f4_; subst f5_))
    refine hK.out _ _ ⟨(cl HB.out hw156_0), (cl HB.out hw156_1), (cl HB.out hw156_2)⟩ (fun hHeld => ?_); clear hK K; refine nm (some 13) ?_; refine oN 6 (some 18) HT_.out (fun K hK => ?_); refine gO Try.func92 #[.agg #[.slice Ao11 t149.length co11, .slice Ao12 t152.length co12, .int .i64 t155], .agg #[.slice A156_0 ((rd_T34 l0 x4_1).f0).length c156_0, .slice A156_1 ((rd_T34 l0 x4_1).f1).length c156_1, .int .i64 ((rd_T34 l0 x4_1).f2)], .int .i64 1] ?_; with_reducible refine (spec_l1Sum.calls k1 _ _ t149 _ _ t152 t155 _ _ ((rd_T34 l0 x4_1).f0) _ _ ((rd_T34 l0 x4_1).f1) ((rd_T34 l0 x4_1).f2) 1 t157 t160 t163 _ (by exact lC <| (Kd.R_reads' HO151.out).2.2) (by exact (Kd.R_reads' HO151.out).2.1) (by exact lC <| (Kd.R_reads' HO154.out).2.2) (by exact (Kd.R_reads' HO154.out).2.1) (by exact lC <| (Kd.C_below HR156_0.out HB.out)) HC156_0.out (by exact lC <| (Kd.C_below HR156_1.out HB.out)) HC156_1.out A7.out).mono ?_
    rintro e w13 ⟨v158, v161, rfl, ho0, ho1, hb⟩; refine ⟨_, rfl, ?_⟩; replace HO_3 := aM (Kd.S_mono (Kd.S_told (Kd.S_told (Kd.S_old (by exact lS HO_3.out) hb) (Kd.R_base ho0)) (Kd.R_base ho1)) (fun _ h_ => h_.1)); have HO159 := aM (Kd.R_lower (Kd.R_new' (Kd.R_new' ho0 (rl HO151.out)) (rl HO154.out)) (bz HB.out)); have HO162 := aM (Kd.R_lower (Kd.R_new' (Kd.R_new' ho1 (rl HO151.out)) (rl HO154.out)) (bz HB.out)); replace HO151 := aM (o2 HO151.out hb ho0 ho1); replace HO154 := aM (o2 HO154.out hb ho0 ho1); replace HB := aM (bj HB.out hb); clear hb ho0; (try clear ho1); obtain ⟨Ao15, co15, eo15⟩ := Kd.R_slice HO159.out
    (first | subst eo15 | (injection eo15 with f1_ f2_ f3_; have f4_ := f1_.symm; have f5_ := f3_.symm; clear f1_ f2_ f3_; subst f4_; subst f5_))
    obtain ⟨Ao16, co16, eo16⟩ := Kd.R_slice HO162.out
    (first | subst eo16 | (injection eo16 with f1_ f2_ f3_; have f4_ := f1_.symm; have f5_ := f3_.symm; clear f1_ f2_ f3_; subst f4_; subst f5_))
    refine hK.out _ _ ⟨(cl HB.out hw156_0), (cl HB.out hw156_1), (cl HB.out hw156_2)⟩ (fun hHeld => ?_); clear hK K; refine nm (some 18) ?_; refine oN 7 (some 19) HT_.out (fun K hK => ?_); refine value_ (w1 := ?_) (v := ?_) (by rfl) rfl ?_ ?_
    rotate_left 2
    ·go_simp
     constructor
     ·rfl
     ·rfl
    refine hK.out _ _ ⟨(World.cell?_alloc_lt _ _ _ (World.block_lt_of_cell? _ _ ((cl HB.out hw156_0)))).trans ((cl HB.out hw156_0)), (World.cell?_alloc_lt _ _ _ (World.block_lt_of_cell? _ _ ((cl HB.out hw156_1)))).trans ((cl HB.out hw156_1)), (World.cell?_alloc_lt _ _ _ (World.block_lt_of_cell? _ _ ((cl HB.out hw156_2)))).trans ((cl HB.out hw156_2))⟩ (fun hHeld => ?_); clear hK K; refine nm (some 19) ?_; refine oN 8 (some 20) HT_.out (fun K hK => ?_); refine Kd.S_append_step k34 (w0 := w) w.heap.size (by rfl) (.tmp 12) (.tmp 19) 23 34 (.agg #[(.slice none 0 0), (.slice none 0 0), (.int .i64 0)]) 56 rfl Try.underlying23 info34 rfl (by decide) (by omega) u3 x3_1 (⟨t157, t160, t163⟩ : S34) [.slice Ao15 t157.length co15, .slice Ao16 t160.length co16, .int .i64 t163] (fun k_ => some k_ ≠ ownBlock (.slice Ao11 t149.length co11) ∧ some k_ ≠ ownBlock (.slice Ao12 t152.length co12)) (fun k_ => some k_ = (.slice Ao15 t157.length co15 : Value).ownBlock ∨ some k_ = (.slice Ao16 t160.length co16 : Value).ownBlock) rfl rfl ?aP (fun k_ hk_ => hk_.elim (fun h_ => ((Kd.R_mono (ok' := fun k_ => ((fun k_ => some k_ ≠ ownBlock (.slice Ao11 t149.length co11) ∧ some k_ ≠ ownBlock (.slice Ao12 t152.length co12))) k_ ∧ some k_ ≠ (u3 : Value).ownBlock) (Kd.R_apart' (HO159.out) (Kd.S_typed HO_3.out) (by decide)) (fun k_ hk => ⟨⟨hk.1.1.2, hk.1.2⟩, hk.2⟩))).1 k_ h_.symm) (fun h_ => ((Kd.R_mono (ok' := fun k_ => ((fun k_ => some k_ ≠ ownBlock (.slice Ao11 t149.length co11) ∧ some k_ ≠ ownBlock (.slice Ao12 t152.length co12))) k_ ∧ some k_ ≠ (u3 : Value).ownBlock) (Kd.R_apart' (HO162.out) (Kd.S_typed HO_3.out) (by decide)) (fun k_ hk => ⟨⟨hk.1.1.2, hk.1.2⟩, hk.2⟩))).1 k_ h_.symm)) ?aF ?aO ?aB ?aS ?aL ?_
    (case aP => exact k34_mkM _ _ _ (⟨t157, t160, t163⟩ : S34) (Kd.R_mono (Kd.R_tight rfl (Kd.R_mono (ok' := fun k_ => ((fun k_ => some k_ ≠ ownBlock (.slice Ao11 t149.length co11) ∧ some k_ ≠ ownBlock (.slice Ao12 t152.length co12))) k_ ∧ some k_ ≠ (u3 : Value).ownBlock) (Kd.R_apart' (HO159.out) (Kd.S_typed HO_3.out) (by decide)) (fun k_ hk => ⟨⟨hk.1.1.2, hk.1.2⟩, hk.2⟩))) (fun _ h_ => Or.inl h_)) (Kd.R_mono (Kd.R_tight rfl (Kd.R_mono (ok' := fun k_ => ((fun k_ => some k_ ≠ ownBlock (.slice Ao11 t149.length co11) ∧ some k_ ≠ ownBlock (.slice Ao12 t152.length co12))) k_ ∧ some k_ ≠ (u3 : Value).ownBlock) (Kd.R_apart' (HO162.out) (Kd.S_typed HO_3.out) (by decide)) (fun k_ hk => ⟨⟨hk.1.1.2, hk.1.2⟩, hk.2⟩))) (fun _ h_ => Or.inr (h_))))
    (case aB => exact (by exact lB HB.out))
    (case aF => exact (fun k_ hk => ⟨Kd.fresh' (rl HO151.out) k_ hk, Kd.fresh' (rl HO154.out) k_ hk⟩))
    (case aO => exact (by exact lS <| Kd.S_mono HO_3.out (fun k_ hk => ⟨⟨hk.1.1.1.2, hk.1.1.2⟩, fun e_ => e_.elim (fun h_ => hk.1.2 h_) (fun h_ => hk.2 h_)⟩)))
    (case aS => exact (bz HB.out))
    (case aL => have := LMc8.out; omega)
    intro v165 w14 ho hb hg hat; rw [← Ny164.out] at ho
    replace HO151 := aM (Kd.R_over' (by exact lR HO151.out) (Kd.S_typed (by exact lS HO_3.out)) (by decide) hg); replace HO154 := aM (Kd.R_over' (by exact lR HO154.out) (Kd.S_typed (by exact lS HO_3.out)) (by decide) hg); replace HB := aM (hb); have HO166 := aM (ho); clear HO_3 HO159 HO162 ho hb hg hat; refine hK.out _ _ ⟨(cl HB.out hw156_0), (cl HB.out hw156_1), (cl HB.out hw156_2)⟩ (fun hHeld => ?_); clear hK K; refine nm (some 20) ?_; refine pu 9 (some 3) HT_.out ?_; refine done_ (done_of HT_.out (by kernel_rfl)) ?_
    try go_wp2
    go_roundg k1
    case measure => have := HK1.out; omega
    case rel => exact ⟨(y164), (wrap64 (x4_1 + 1)), sr, H', ⟨by have := HK1.out; omega⟩, ⟨by exact lS <| Kd.S_mono HO166.out (fun _ hk => trivial)⟩, ⟨by exact lB HB.out⟩⟩
   ·rw [if_neg c4] at H; replace c4 := decide_eq_false c4; obtain rfl := Option.some.inj H
    go_wp2
    go_ret
    exact ⟨_, er, by exact lS <| HO_3.out, by exact lB HB.out⟩
/-! ### spec_FrmOk: function 68 -/
def spec_FrmOk.f (k : Nat) (l0_0 : List Int) (l0_1 : List Int) (a0_2 : Int) : Option (Bool) := (spec_l1All.f k l0_0 3 10000000).bind fun t168 => (if t168 = true then ((spec_l1All.f k l0_1 2 10000000).bind fun t169 => (if t169 = true then ((spec_l1In.f a0_2 (-10000000) 10000000).bind fun t170 => (some t170)) else (some false))) else (some false))
theorem spec_FrmOk.calls (k : Nat) (A0_0 : Option Addr) (c0_0 : Nat) (l0_0 : List Int) (A0_1 : Option Addr) (c0_1 : Nat) (l0_1 : List Int) (a0_2 : Int) (r : Bool) (w : World) (hr0_0 : Kd.C (Kd.int .i64) w A0_0 l0_0.length l0_0) (hc0_0 : l0_0.length ≤ c0_0) (hr0_1 : Kd.C (Kd.int .i64) w A0_1 l0_1.length l0_1) (hc0_1 : l0_1.length ≤ c0_1) (h : spec_FrmOk.f k l0_0 l0_1 a0_2 = some r) :
  Calls Try.prog 68 #[.agg #[.slice A0_0 l0_0.length c0_0, .slice A0_1 l0_1.length c0_1, .int .i64 a0_2]] w fun e w' => e = .returned (.bool r) ∧ Below w.heap.size w w' := by
 have hu34 := Try.underlying34; have HR0_0 := aM hr0_0; have HC0_0 := aM hc0_0; clear hr0_0 hc0_0; have HR0_1 := aM hr0_1; have HC0_1 := aM hc0_1; clear hr0_1 hc0_1; have HB := aM (Below.refl w.heap.size w); have H : ((spec_l1All.f k l0_0 3 10000000).bind fun t168 => (if t168 = true then ((spec_l1All.f k l0_1 2 10000000).bind fun t169 => (if t169 = true then ((spec_l1In.f a0_2 (-10000000) 10000000).bind fun t170 => (some t170)) else (some false))) else (some false))) = some r := h
 clear h; obtain ⟨t168, A2, H⟩ := bS H
 try dsimp only at H
 by_cases c3 : t168 = true
 ·subst c3; rw [if_pos rfl] at H
  try dsimp only at H
  obtain ⟨t169, A4, H⟩ := bS H
  try dsimp only at H
  by_cases c5 : t169 = true
  ·subst c5; rw [if_pos rfl] at H
   try dsimp only at H
   obtain ⟨t170, A6, H⟩ := bS H
   try dsimp only at H
   obtain rfl := Option.some.inj H
   go_enter Try.func68, Try.ntmps68
   go_wp2_with (first | ((with_reducible refine gate_dst (N := 1) rfl ?_); refine bx 1 #[.slice A0_0 l0_0.length c0_0, .slice A0_1 l0_1.length c0_1, .int .i64 a0_2] 34 ?_; intro gb167 hg w7 hbox hb; have BK167 := aM (hbox); have GW167 := aM (gz hg HB.out); have IGW167 := wn GW167.out; have GE167 := aM (gz hg HB.out); have IGE167 := wn GE167.out; replace HB := aM (bj HB.out hb); clear hb hbox hg; obtain ⟨hcz8_0, hcz8_1, hcz8_2, hfz8_0, hfz8_1, hfz8_2⟩ := cf3 BK167.out) | (refine gL (some 5) Try.func58 #[.slice A0_0 l0_0.length c0_0, .int .i64 3, .int .i64 10000000] ?_; (with_reducible refine (spec_l1All.calls k _ _ l0_0 3 10000000 true _ (by exact lC <| (Kd.C_below HR0_0.out HB.out)) HC0_0.out A2.out).mono ?_); rintro e w' ⟨rfl, ⟨nd, rfl⟩⟩; refine ⟨_, rfl, ?_⟩) | (go_at_call 58; (with_reducible refine (spec_l1All.calls k _ _ l0_1 2 10000000 true _ ?side1 ?side2 A4.out).mono ?_); (case side1 => repeat (first | exact (Kd.C_below HR0_1.out (by exact jB HB.out)) | (with_reducible refine Kd.C_alloc ?_ _) | (with_reducible refine Kd.C_drewN ?_ _) | (with_reducible refine Kd.C_drew ?_))); (case side2 => exact HC0_1.out); rintro e w' ⟨rfl, ⟨nd, rfl⟩⟩) | (go_at_call 57; (with_reducible refine (spec_l1In.calls a0_2 (-10000000) 10000000 t170 _ A6.out).mono ?_); rintro e w' ⟨rfl, ⟨nd, rfl⟩⟩))
   go_ret
   exact ⟨er, by exact jB HB.out⟩
  ·replace c5 := Bool.eq_false_iff.mpr c5
   subst c5; rw [if_neg nf] at H
   try dsimp only at H
   obtain rfl := Option.some.inj H
   go_enter Try.func68, Try.ntmps68
   go_wp2_with (first | ((with_reducible refine gate_dst (N := 1) rfl ?_); refine bx 1 #[.slice A0_0 l0_0.length c0_0, .slice A0_1 l0_1.length c0_1, .int .i64 a0_2] 34 ?_; intro gb167 hg w9 hbox hb; have BK167 := aM (hbox); have GW167 := aM (gz hg HB.out); have IGW167 := wn GW167.out; have GE167 := aM (gz hg HB.out); have IGE167 := wn GE167.out; replace HB := aM (bj HB.out hb); clear hb hbox hg; obtain ⟨hcz10_0, hcz10_1, hcz10_2, hfz10_0, hfz10_1, hfz10_2⟩ := cf3 BK167.out) | (refine gL (some 5) Try.func58 #[.slice A0_0 l0_0.length c0_0, .int .i64 3, .int .i64 10000000] ?_; (with_reducible refine (spec_l1All.calls k _ _ l0_0 3 10000000 true _ (by exact lC <| (Kd.C_below HR0_0.out HB.out)) HC0_0.out A2.out).mono ?_); rintro e w' ⟨rfl, ⟨nd, rfl⟩⟩; refine ⟨_, rfl, ?_⟩) | (go_at_call 58; (with_reducible refine (spec_l1All.calls k _ _ l0_1 2 10000000 false _ ?side1 ?side2 A4.out).mono ?_); (case side1 => repeat (first | exact (Kd.C_below HR0_1.out (by exact jB HB.out)) | (with_reducible refine Kd.C_alloc ?_ _) | (with_reducible refine Kd.C_drewN ?_ _) | (with_reducible refine Kd.C_drew ?_))); (case side2 => exact HC0_1.out); rintro e w' ⟨rfl, ⟨nd, rfl⟩⟩))
   go_ret
   exact ⟨er, by exact jB HB.out⟩
 ·replace c3 := Bool.eq_false_iff.mpr c3
  subst c3; rw [if_neg nf] at H
  try dsimp only at H
  obtain rfl := Option.some.inj H
  go_enter Try.func68, Try.ntmps68
  go_wp2_with (first | ((with_reducible refine gate_dst (N := 1) rfl ?_); refine bx 1 #[.slice A0_0 l0_0.length c0_0, .slice A0_1 l0_1.length c0_1, .int .i64 a0_2] 34 ?_; intro gb167 hg w11 hbox hb; have BK167 := aM (hbox); have GW167 := aM (gz hg HB.out); have IGW167 := wn GW167.out; have GE167 := aM (gz hg HB.out); have IGE167 := wn GE167.out; replace HB := aM (bj HB.out hb); clear hb hbox hg; obtain ⟨hcz12_0, hcz12_1, hcz12_2, hfz12_0, hfz12_1, hfz12_2⟩ := cf3 BK167.out) | (refine gL (some 5) Try.func58 #[.slice A0_0 l0_0.length c0_0, .int .i64 3, .int .i64 10000000] ?_; (with_reducible refine (spec_l1All.calls k _ _ l0_0 3 10000000 false _ (by exact lC <| (Kd.C_below HR0_0.out HB.out)) HC0_0.out A2.out).mono ?_); rintro e w' ⟨rfl, ⟨nd, rfl⟩⟩; refine ⟨_, rfl, ?_⟩))
  go_ret
  exact ⟨er, by exact jB HB.out⟩
end Go.Proofs.Ytcpaplcnebdocaa.QFnTrtKeeps
-- shorter
