/- Plain functions, and that the Go code computes them: written by a program of this session over the seat's translation; the conditions stand in each theorem. -/
import Derived.Test.YtgalnmgkcdmnkaaQFnPlnHomex0
import Derived.Test.YtgalnmgkcdmnkaaQFnPlnHomex1
import Derived.Test.YtgalnmgkcdmnkaaQFnPlnHomex6
import Derived.Test.YtgalnmgkcdmnkaaQFnPlnHomex9
namespace Go.Proofs.Ytgalnmgkcdmnkaa.QFnPlnHome
open Go.RowKit Go.Proofs.YtgalnmgkcdmnkaaW.PrintWords Go.Proofs.YtgalnmgkcdmnkaaW.PrintLast Go.Proofs.YtgalnmgkcdmnkaaW.PrintMore Go.Proofs.Ytgalnmgkcdmnkaa.HWords
open Value (ownBlock)
attribute [local go_sem] max2_int min2_int max_two min_two max_three min_three max_four min_four   -- for this text's walks alone
set_option linter.unusedVariables false
set_option linter.unusedSimpArgs false

/-! ### spec_l20AnyActs: function 47 -/
def spec_l20AnyActs.l0 : Nat → List (List (S45)) → List Int → Int → Option ((List (List (S45))) × Int)
 | 0, _, _, _ => none
 | k + 1, x5, x1000, x1001 => if (x5.length : Int) ≤ 4 then (if 0 < (x5.length : Int) then (if x5.length < 5864062014805 then (spec_l20AnyActs.l0 k (x5 ++ [rd_L5 x5 0]) x1000 x1001) else (none)) else (none)) else (some (x5, x1001))
def spec_l20AnyActs.f (k : Nat) (s0_0 : List Int) (s0_1 : Int) (a1 : Int) : Option ((List (List (S45))) × Int) := (spec_l20Acts.f k s0_0 s0_1).bind fun bt530 => ((spec_l20Rd_pick.f k s0_0 bt530.2 a1).bind fun bt534 => (if bt534.1 > 0 then (some (bt530.1, bt534.2)) else ((spec_l20Rd_pick.f k s0_0 bt534.2 3).bind fun bt536 => (if bt536.1 = 0 then ((spec_l20AnyAct.f k s0_0 bt536.2 1).bind fun bt538 => (if 0 < (bt530.1.length : Int) then (some ((bt530.1.set (0 : Int).toNat bt538.1), bt538.2)) else (none))) else (if bt536.1 = 1 then (some ((([] : List (List (S45)))), bt536.2)) else (spec_l20AnyActs.l0 k bt530.1 s0_0 bt536.2))))))
theorem spec_l20AnyActs.mono_l : ∀ k, (∀ y0 y1 y2, LeO (spec_l20AnyActs.l0 k y0 y1 y2) (spec_l20AnyActs.l0 (k + 1) y0 y1 y2))
 | 0 => fun _ _ _ r h => by simp [spec_l20AnyActs.l0] at h
 | k + 1 => by
  have ih0 := spec_l20AnyActs.mono_l k
  ·intro y0 y1 y2
   unfold spec_l20AnyActs.l0
   repeat' first
   | (with_reducible exact ih0 _ _ _)
   | (with_reducible exact spec_l20Acts.mono _ _ _)
   | (with_reducible exact spec_l20AnyAct.mono _ _ _ _)
   | (with_reducible exact spec_l20Rd_pick.mono _ _ _ _)
   | (with_reducible exact LeO.refl _)
   | (with_reducible exact LeO.none _)
   | (with_reducible refine LeO.ite ?_ ?_)
   | (with_reducible refine LeO.bind ?_ (fun _ => ?_))
   | exact LeO.none _
   | refine LeO.ite ?_ ?_
   | refine LeO.bind ?_ (fun _ => ?_)
theorem spec_l20AnyActs.mono : ∀ a0 a1 a2 k, LeO (spec_l20AnyActs.f k a0 a1 a2) (spec_l20AnyActs.f (k + 1) a0 a1 a2) := by
 intro a0 a1 a2 k
 have ih0 := spec_l20AnyActs.mono_l k
 unfold spec_l20AnyActs.f
 repeat' first
   | (with_reducible exact ih0 _ _ _)
   | (with_reducible exact spec_l20Acts.mono _ _ _)
   | (with_reducible exact spec_l20AnyAct.mono _ _ _ _)
   | (with_reducible exact spec_l20Rd_pick.mono _ _ _ _)
   | (with_reducible exact LeO.refl _)
   | (with_reducible exact LeO.none _)
   | (with_reducible refine LeO.ite ?_ ?_)
   | (with_reducible refine LeO.bind ?_ (fun _ => ?_))
   | exact LeO.none _
   | refine LeO.ite ?_ ?_
   | refine LeO.bind ?_ (fun _ => ?_)
set_option maxHeartbeats 8000000 in
set_option maxRecDepth 100000 in
theorem spec_l20AnyActs.calls (k : Nat) (g : Nat) (s0_0 : List Int) (s0_1 : Int) (a1 : Int) (r1 : List (List (S45))) (r2 : Int) (w0 w : World) (hI : IsS69 w0 w g s0_0 s0_1) (hB : Below w0.heap.size w0 w) (h : spec_l20AnyActs.f k s0_0 s0_1 a1 = some (r1, r2)) :
  Calls Try.prog 47 #[.pointer (some ⟨g, 0, none⟩), .int .i64 a1] w fun e w' => ∃ v0_ : Value, e = .returned (v0_) ∧ Kd.N (Kd.slice 45 k45) 33 w' w.heap.size (fun k_ => (w.heap.size ≤ k_)) v0_ r1 ∧ IsS69 w0 w' g s0_0 r2 ∧ Below w0.heap.size w0 w' ∧ KeepBut w w' g none := by
 have HI0 := aM hI
 have IHI0 : Nonempty _ := ⟨IsS69.ge hI⟩
 have HK := aM (KeepBut.refl w g none)
 have HL := aM hB.size
 clear hI
 have HW0 := aM hB.size
 have HB := aM hB
 clear hB
 have H : ((spec_l20Acts.f k s0_0 s0_1).bind fun bt530 => ((spec_l20Rd_pick.f k s0_0 bt530.2 a1).bind fun bt534 => (if bt534.1 > 0 then (some (bt530.1, bt534.2)) else ((spec_l20Rd_pick.f k s0_0 bt534.2 3).bind fun bt536 => (if bt536.1 = 0 then ((spec_l20AnyAct.f k s0_0 bt536.2 1).bind fun bt538 => (if 0 < (bt530.1.length : Int) then (some ((bt530.1.set (0 : Int).toNat bt538.1), bt538.2)) else (none))) else (if bt536.1 = 1 then (some ((([] : List (List (S45)))), bt536.2)) else (spec_l20AnyActs.l0 k bt530.1 s0_0 bt536.2))))))) = some (r1, r2) := h
 clear h
 obtain ⟨⟨t530, t533⟩, A3, H⟩ := bS H
 try dsimp only at H
 obtain ⟨⟨t534, t535⟩, A4, H⟩ := bS H
 try dsimp only at H
 by_cases c5 : t534 > 0
 ·rw [if_pos c5] at H
  have c5b0 := decide_eq_true c5
  clear c5
  simp only [Option.some.injEq, Prod.mk.injEq] at H
  obtain ⟨rfl, rfl⟩ := H
  go_enter Try.func47, Try.ntmps47
  go_wp2_with (first | ((with_reducible refine gate_callee (f := 60) rfl ?_); refine gL (some 7) Try.func60 #[.pointer (some ⟨g, 0, none⟩)] ?_; (with_reducible refine (spec_l20Acts.calls k g s0_0 s0_1 t530 t533 w0 _ ?side1 ?side2 A3.out).mono ?_); (case side1 => exact IsS69.j HI0.out); (case side2 => exact jB HB.out); rintro e w6 ⟨v531, rfl, ho0, hi, hb, hk⟩; refine ⟨_, rfl, ?_⟩; have HO532 := aM (Kd.N_lower (Kd.N_mono (ok' := fun k_ => (w.heap.size ≤ k_) ∧ k_ ≠ g) ho0 (fun k_ hk_ => ⟨(Nat.le_trans (keep_size (w := w) (g := g) (row := none) (by exact jK HK.out)) hk_), (IsS69.fresh (by exact IsS69.j HI0.out) k_ hk_)⟩)) (keep_size (w := w) (g := g) (row := none) (by exact jK HK.out))); replace HK := aM (kt HK.out hk); replace HB := aM (hb); replace HI0 := aM (hi); (try clear hb hk hi); (try clear ho0)) | ((with_reducible refine gate_callee (f := 20) rfl ?_); refine gL (some 10) Try.func20 #[.pointer (some ⟨g, 0, none⟩), .int .i64 a1] ?_; (with_reducible refine (spec_l20Rd_pick.calls k g s0_0 t533 a1 t534 t535 w0 _ ?side1 ?side2 A4.out).mono ?_); (case side1 => exact IsS69.j HI0.out); (case side2 => exact jB HB.out); rintro e w7 ⟨rfl, hi, hb, hk⟩; refine ⟨_, rfl, ?_⟩; replace HO532 := aM (Kd.N_mono (Kd.N_keep (Kd.N_mono (ok := fun k_ => (((w.heap.size ≤ k_)) ∧ k_ ≠ g)) (by exact lN <| HO532.out) (fun k_ hk_ => (⟨hk_, hk_.2⟩ : _ ∧ k_ ≠ g))) hk (fun _ h => h.2)) (fun _ h => h.1)); replace HK := aM (kt HK.out hk); replace HB := aM (hb); replace HI0 := aM (hi); (try clear hb hk hi)))
  go_ret
  exact ⟨_, er, by exact lN <| Kd.N_mono HO532.out (fun _ hk => hk.1), by exact IsS69.j HI0.out, by exact jB HB.out, by exact jK HK.out⟩
 ·rw [if_neg c5] at H
  have c5b0 := decide_eq_false c5
  clear c5
  obtain ⟨⟨t536, t537⟩, A8, H⟩ := bS H
  try dsimp only at H
  by_cases c9 : t536 = 0
  ·rw [if_pos c9] at H
   have c9b0 := beq_iff_eq.mpr c9
   have c9b1 := bne_eq_false_iff_eq.mpr c9
   clear c9
   obtain ⟨⟨t538, t541⟩, A10, H⟩ := bS H
   try dsimp only at H
   by_cases c11 : 0 < (t530.length : Int)
   ·rw [if_pos c11] at H
    have c11b0 := decide_eq_true c11
    have c11b1 : decide (0 < t530.length) = true := decide_eq_true (by omega)
    clear c11
    obtain ⟨y542, hy542⟩ : ∃ y_ : List (List (S45)), y_ = (t530.set (0 : Int).toNat t538) := ⟨_, rfl⟩
    try rw [← hy542] at H
    try dsimp only [Option.bind_some] at H
    have Ny542 := aM hy542
    clear hy542
    simp only [Option.some.injEq, Prod.mk.injEq] at H
    obtain ⟨rfl, rfl⟩ := H
    go_enter Try.func47, Try.ntmps47
    go_wp2_with (first | ((with_reducible refine gate_callee (f := 60) rfl ?_); refine gL (some 7) Try.func60 #[.pointer (some ⟨g, 0, none⟩)] ?_; (with_reducible refine (spec_l20Acts.calls k g s0_0 s0_1 t530 t533 w0 _ ?side1 ?side2 A3.out).mono ?_); (case side1 => exact IsS69.j HI0.out); (case side2 => exact jB HB.out); rintro e w13 ⟨v531, rfl, ho0, hi, hb, hk⟩; refine ⟨_, rfl, ?_⟩; have HO532 := aM (Kd.N_lower (Kd.N_mono (ok' := fun k_ => (w.heap.size ≤ k_) ∧ k_ ≠ g) ho0 (fun k_ hk_ => ⟨(Nat.le_trans (keep_size (w := w) (g := g) (row := none) (by exact jK HK.out)) hk_), (IsS69.fresh (by exact IsS69.j HI0.out) k_ hk_)⟩)) (keep_size (w := w) (g := g) (row := none) (by exact jK HK.out))); replace HK := aM (kt HK.out hk); replace HB := aM (hb); replace HI0 := aM (hi); (try clear hb hk hi); (try clear ho0)) | ((with_reducible refine gate_callee (f := 20) rfl ?_); refine gL (some 10) Try.func20 #[.pointer (some ⟨g, 0, none⟩), .int .i64 a1] ?_; (with_reducible refine (spec_l20Rd_pick.calls k g s0_0 t533 a1 t534 t535 w0 _ ?side1 ?side2 A4.out).mono ?_); (case side1 => exact IsS69.j HI0.out); (case side2 => exact jB HB.out); rintro e w14 ⟨rfl, hi, hb, hk⟩; refine ⟨_, rfl, ?_⟩; replace HO532 := aM (Kd.N_mono (Kd.N_keep (Kd.N_mono (ok := fun k_ => (((w.heap.size ≤ k_)) ∧ k_ ≠ g)) (by exact lN <| HO532.out) (fun k_ hk_ => (⟨hk_, hk_.2⟩ : _ ∧ k_ ≠ g))) hk (fun _ h => h.2)) (fun _ h => h.1)); replace HK := aM (kt HK.out hk); replace HB := aM (hb); replace HI0 := aM (hi); (try clear hb hk hi)) | ((with_reducible refine gate_callee (f := 20) rfl ?_); refine gL (some 14) Try.func20 #[.pointer (some ⟨g, 0, none⟩), .int .i64 3] ?_; (with_reducible refine (spec_l20Rd_pick.calls k g s0_0 t535 3 t536 t537 w0 _ ?side1 ?side2 A8.out).mono ?_); (case side1 => exact IsS69.j HI0.out); (case side2 => exact jB HB.out); rintro e w15 ⟨rfl, hi, hb, hk⟩; refine ⟨_, rfl, ?_⟩; replace HO532 := aM (Kd.N_mono (Kd.N_keep (Kd.N_mono (ok := fun k_ => (((w.heap.size ≤ k_)) ∧ k_ ≠ g)) (by exact lN <| HO532.out) (fun k_ hk_ => (⟨hk_, hk_.2⟩ : _ ∧ k_ ≠ g))) hk (fun _ h => h.2)) (fun _ h => h.1)); replace HK := aM (kt HK.out hk); replace HB := aM (hb); replace HI0 := aM (hi); (try clear hb hk hi)) | ((with_reducible refine gate_callee (f := 33) rfl ?_); refine gL (some 28) Try.func33 #[.pointer (some ⟨g, 0, none⟩), .int .i64 1] ?_; (with_reducible refine (spec_l20AnyAct.calls k g s0_0 t537 1 t538 t541 w0 _ ?side1 ?side2 A10.out).mono ?_); (case side1 => exact IsS69.j HI0.out); (case side2 => exact jB HB.out); rintro e w16 ⟨v539, rfl, ho0, hi, hb, hk⟩; refine ⟨_, rfl, ?_⟩; have HO540 := aM (Kd.N_lower (Kd.N_mono (ok' := fun k_ => (w.heap.size ≤ k_) ∧ some k_ ≠ v531.ownBlock ∧ k_ ≠ g) ho0 (fun k_ hk_ => ⟨(Nat.le_trans (keep_size (w := w) (g := g) (row := none) (by exact jK HK.out)) hk_), (Kd.fresh' (Kd.N_lt (by exact lN <| HO532.out)) k_ hk_), (IsS69.fresh (by exact IsS69.j HI0.out) k_ hk_)⟩)) (keep_size (w := w) (g := g) (row := none) (by exact jK HK.out))); replace HO532 := aM (Kd.N_mono (Kd.N_told (Kd.N_oldK (Kd.N_mono (ok := fun k_ => (((w.heap.size ≤ k_)) ∧ k_ ≠ g)) (by exact lN <| HO532.out) (fun k_ hk_ => (⟨hk_, hk_.2⟩ : _ ∧ k_ ≠ g))) hk) (Kd.N_base ho0)) (fun _ h_ => h_.1)); replace HK := aM (kt HK.out hk); replace HB := aM (hb); replace HI0 := aM (hi); (try clear hb hk hi); (try clear ho0); have p12 : 0 ≤ (0 : Int) := (by omega); have q12 : (0 : Int) < ((t530.length : Int) : Int) := of_decide_eq_true (by first | (with_reducible assumption) | assumption); have qi12 : (0 < t530.length) = True := eq_true (by omega); obtain ⟨go12, co12, eo12, gb12, gl12, cl12, HG12⟩ := Kd.N_form HO532.out (by omega); (first | cases eo12 | (injection eo12 with ea_ en_ ec_; (first | subst ea_ | (injection ea_ with ea_; subst ea_)); subst ec_; clear en_)); have GB12 := aM gb12; have IGB12 : Nonempty _ := ⟨GB12.out⟩; have GG12 := aM HG12; clear gb12 gl12 HG12; obtain ⟨ce12, hcl12, hM12, hcc12, hfr12⟩ := Kd.N_elem HO532.out [] (0 : Int) p12 q12; obtain ⟨ua12_0, uc12_0, rfl, ul12_0, ge12_0⟩ := Kd.FK_slice_open hM12; have hx12_0 := hcc12 0 _ rfl; have hf12_0 := hfr12 0; (try simp only [show ((Kd.slice 45 k45)).sz = 1 from rfl, Nat.mul_one, Nat.add_zero] at hx12_0); (try simp only [show ((Kd.slice 45 k45)).sz = 1 from rfl, Nat.mul_one, Nat.add_zero] at hf12_0); clear hcl12 hcc12 hfr12; (try clear hM12); (try rw [show ((0 : Int)).toNat = 0 from rfl] at hx12_0); (try simp only [Nat.reduceMul, Nat.zero_mul, Nat.zero_add, Nat.reduceAdd] at hx12_0); (try rw [show ((0 : Int)).toNat = 0 from rfl] at hf12_0); (try simp only [Nat.reduceMul, Nat.zero_mul, Nat.zero_add, Nat.reduceAdd] at hf12_0); replace p12 := eq_true p12; replace q12 := eq_true q12; obtain ⟨Ao19, co19, eo19⟩ := Kd.N_slice HO540.out; subst eo19; replace HO532 := aM (Kd.N_mono (ok' := (fun k_ => (w.heap.size ≤ k_) ∧ some k_ ≠ ownBlock (.slice Ao19 t538.length co19))) HO532.out (fun k_ hk => ⟨hk.1.1, hk.2⟩)); have HX17 := aM (show Kd.N (Kd.slice 45 k45) 33 w16 w.heap.size (fun k_ => (w.heap.size ≤ k_)) (.slice (some ⟨go12, 0, none⟩) t530.length co12) t530 from (by exact lN <| Kd.N_mono HO532.out (fun _ hk => hk.1))); obtain ⟨ce17, hcl17, hM17, hcc17, hfr17⟩ := Kd.N_elem HX17.out [] (0 : Int) (by omega) (by have h_ : (0 : Int) < ((t530.length : Int) : Int) := of_decide_eq_true (by first | (with_reducible assumption) | assumption); first | exact h_ | (have e_ := (Kd.N_reads' HO532.out).1; omega) | simpa using h_); obtain ⟨ua17_0, uc17_0, rfl, ul17_0, ge17_0⟩ := Kd.FK_slice_open hM17; have HP17 := Kd.N_seg HX17.out (0 : Int) (by omega) (by have h_ : (0 : Int) < ((t530.length : Int) : Int) := of_decide_eq_true (by first | (with_reducible assumption) | assumption); first | exact h_ | (have e_ := (Kd.N_reads' HO532.out).1; omega) | simpa using h_) (seg := [.slice Ao19 t538.length co19]) (j := 0) hcl17 hcc17 (show 1 ≤ 1 from by decide) (x' := t538) (Kd.FK_slice_mk (Kd.N_reads' (Kd.N_mono (ok' := (fun k_ => ((fun k_ => (w.heap.size ≤ k_))) k_ ∧ k_ ≠ go12)) (HO540.out) (fun k_ hk => ⟨hk.1, fun e_ => (hk.2.1) (by rw [e_]; rfl)⟩))).2.1 (Kd.N_F (Kd.N_mono (ok' := (fun k_ => ((fun k_ => (w.heap.size ≤ k_))) k_ ∧ k_ ≠ go12)) (HO540.out) (fun k_ hk => ⟨hk.1, fun e_ => (hk.2.1) (by rw [e_]; rfl)⟩)))) (fun _ hk => hk); have hx17_0 := hcc17 0 _ rfl; (try simp only [show ((Kd.slice 45 k45)).sz = 1 from rfl, Nat.mul_one, Nat.add_zero] at hx17_0); (try rw [show ((0 : Int)).toNat = 0 from rfl] at hx17_0); (try simp only [Nat.reduceMul, Nat.zero_mul, Nat.zero_add, Nat.reduceAdd] at hx17_0); have hf17_0 := hfr17 0; (try simp only [show ((Kd.slice 45 k45)).sz = 1 from rfl, Nat.mul_one, Nat.add_zero] at hf17_0); (try rw [show ((0 : Int)).toNat = 0 from rfl] at hf17_0); (try simp only [Nat.reduceMul, Nat.zero_mul, Nat.zero_add, Nat.reduceAdd] at hf17_0); clear hcl17 hcc17 hfr17; (try clear hM17); (try simp only [show ((Kd.slice 45 k45)).sz = 1 from rfl, Nat.mul_one, Nat.add_zero] at HP17); (try simp only [show ((Kd.slice 45 k45)).sz = 1 from rfl, Nat.mul_one, Nat.add_zero] at HP17)) | ((with_reducible refine gate_store (t := 33) (p := 29) rfl ?_); refine store_event (t := 33) (p := 29) (v := ?vo_w18) (w1 := (w16.setCell ⟨go12, 0, none⟩ (.slice Ao19 t538.length co19))) ?hg ?ho ?hn ?hr ?_; (case ho => rfl); (case hg => rfl); (case hn => rfl); (case hr => first | (go_simp; done) | (go_simp; rfl)); intro w18 hw; have hg : w16.grownBy w18 (some go12) := (by rw [hw]; exact HP17.2); have hp_ : Kd.N (Kd.slice 45 k45) 33 w18 w.heap.size (fun k_ => (w.heap.size ≤ k_)) (.slice (some ⟨go12, 0, none⟩) t530.length co12) y542 := (by rw [hw, Ny542.out]; exact HP17.1); clear HP17; replace HI0 := aM (IsS69.grown (by exact IsS69.j HI0.out) hg (IsS69.own_neN HI0.out HO532.out (by decide))); replace HB := aM ((by rw [hw]; exact below_set (HB.out) (Nat.le_trans HL.out GB12.out) : Below w0.heap.size w0 w18)); replace HK := aM (KeepBut.trans (by exact jK HK.out) (KeepBut.of_grown hg g) (Kd.N_base2 HO532.out)); replace HO532 := aM (hp_); clear HO540 hg hw hp_))
    go_ret
    exact ⟨_, er, by exact lN <| HO532.out, by exact IsS69.j HI0.out, by exact jB HB.out, by exact jK HK.out⟩
   ·rw [if_neg c11] at H
    exact absurd H (by simp)
  ·rw [if_neg c9] at H
   have c9b0 := beq_eq_false_iff_ne.mpr c9
   have c9b1 := bne_iff_ne.mpr c9
   by_cases c20 : t536 = 1
   ·rw [if_pos c20] at H
    have c20b0 := beq_iff_eq.mpr c20
    have c20b1 := bne_eq_false_iff_eq.mpr c20
    clear c20
    obtain ⟨y543, hy543⟩ : ∃ y_ : List (List (S45)), y_ = (([] : List (List (S45)))) := ⟨_, rfl⟩
    replace H : (some (y543, t537)) = some (r1, r2) := by first | (rw [hy543]; exact H) | exact H
    have Ny543 := aM hy543
    clear hy543
    simp only [Option.some.injEq, Prod.mk.injEq] at H
    obtain ⟨rfl, rfl⟩ := H
    go_enter Try.func47, Try.ntmps47
    go_wp2_with (first | ((with_reducible refine gate_callee (f := 60) rfl ?_); refine gL (some 7) Try.func60 #[.pointer (some ⟨g, 0, none⟩)] ?_; (with_reducible refine (spec_l20Acts.calls k g s0_0 s0_1 t530 t533 w0 _ ?side1 ?side2 A3.out).mono ?_); (case side1 => exact IsS69.j HI0.out); (case side2 => exact jB HB.out); rintro e w21 ⟨v531, rfl, ho0, hi, hb, hk⟩; refine ⟨_, rfl, ?_⟩; have HO532 := aM (Kd.N_lower (Kd.N_mono (ok' := fun k_ => (w.heap.size ≤ k_) ∧ k_ ≠ g) ho0 (fun k_ hk_ => ⟨(Nat.le_trans (keep_size (w := w) (g := g) (row := none) (by exact jK HK.out)) hk_), (IsS69.fresh (by exact IsS69.j HI0.out) k_ hk_)⟩)) (keep_size (w := w) (g := g) (row := none) (by exact jK HK.out))); replace HK := aM (kt HK.out hk); replace HB := aM (hb); replace HI0 := aM (hi); (try clear hb hk hi); (try clear ho0)) | ((with_reducible refine gate_callee (f := 20) rfl ?_); refine gL (some 10) Try.func20 #[.pointer (some ⟨g, 0, none⟩), .int .i64 a1] ?_; (with_reducible refine (spec_l20Rd_pick.calls k g s0_0 t533 a1 t534 t535 w0 _ ?side1 ?side2 A4.out).mono ?_); (case side1 => exact IsS69.j HI0.out); (case side2 => exact jB HB.out); rintro e w22 ⟨rfl, hi, hb, hk⟩; refine ⟨_, rfl, ?_⟩; replace HO532 := aM (Kd.N_mono (Kd.N_keep (Kd.N_mono (ok := fun k_ => (((w.heap.size ≤ k_)) ∧ k_ ≠ g)) (by exact lN <| HO532.out) (fun k_ hk_ => (⟨hk_, hk_.2⟩ : _ ∧ k_ ≠ g))) hk (fun _ h => h.2)) (fun _ h => h.1)); replace HK := aM (kt HK.out hk); replace HB := aM (hb); replace HI0 := aM (hi); (try clear hb hk hi)) | ((with_reducible refine gate_callee (f := 20) rfl ?_); refine gL (some 14) Try.func20 #[.pointer (some ⟨g, 0, none⟩), .int .i64 3] ?_; (with_reducible refine (spec_l20Rd_pick.calls k g s0_0 t535 3 t536 t537 w0 _ ?side1 ?side2 A8.out).mono ?_); (case side1 => exact IsS69.j HI0.out); (case side2 => exact jB HB.out); rintro e w23 ⟨rfl, hi, hb, hk⟩; refine ⟨_, rfl, ?_⟩; replace HO532 := aM (Kd.N_mono (Kd.N_keep (Kd.N_mono (ok := fun k_ => (((w.heap.size ≤ k_)) ∧ k_ ≠ g)) (by exact lN <| HO532.out) (fun k_ hk_ => (⟨hk_, hk_.2⟩ : _ ∧ k_ ≠ g))) hk (fun _ h => h.2)) (fun _ h => h.1)); replace HK := aM (kt HK.out hk); replace HB := aM (hb); replace HI0 := aM (hi); (try clear hb hk hi)) | ((with_reducible refine gate_dst (N := 32) rfl ?_); refine Kd.N_lit (Kd.slice 45 k45) _ 33 ?hg (N' := 32) ?hd (xs := ([] : List (List (S45)))) (inner := []) (ok := (fun k_ => (w.heap.size ≤ k_) ∧ some k_ ≠ v531.ownBlock ∧ k_ ≠ g)) (okp := (fun k_ => (w.heap.size ≤ k_) ∧ some k_ ≠ v531.ownBlock ∧ k_ ≠ g)) ?hr ?hp (fun _ hk => hk) ((show ∀ k_, w23.heap.size ≤ k_ → (fun k_ => (w.heap.size ≤ k_) ∧ some k_ ≠ v531.ownBlock ∧ k_ ≠ g) k_ from fun k_ hk => ⟨(Nat.le_trans (keep_size (w := w) (g := g) (row := none) (by exact jK HK.out)) hk), Kd.fresh' (Kd.N_lt (by exact lN <| HO532.out)) k_ hk, IsS69.fresh (by exact IsS69.j HI0.out) k_ hk⟩) _ (Nat.le_refl _)) (Below.refl _ _) (Nat.le_refl _) (by simp) ?_; (case hd => rfl); (case hg => rfl); (case hr => first | (go_simp; done) | (go_simp; rfl)); (case hp => exact (Reps.none _ _)); intro v544 w24 ho25 hb hg_ hnew_; clear hg_ hnew_; (first | rw [← Ny543.out] at ho25 | (simp only [Int.reduceToNat] at ho25; rw [← Ny543.out] at ho25)); replace HO532 := aM (Kd.N_elder' (by exact lN <| HO532.out) (Kd.N_base ho25) hb); have HO545 := aM (Kd.N_lower ho25 (keep_size (w := w) (g := g) (row := none) (by exact jK HK.out))); replace HI0 := aM (IsS69.below (by exact IsS69.j HI0.out) hb); replace HK := aM (kbl HK.out hb); replace HB := aM (bj HB.out hb); clear hb ho25))
    go_ret
    exact ⟨_, er, by exact lN <| Kd.N_mono HO545.out (fun _ hk => hk.1), by exact IsS69.j HI0.out, by exact jB HB.out, by exact jK HK.out⟩
   ·rw [if_neg c20] at H
    have c20b0 := beq_eq_false_iff_ne.mpr c20
    have c20b1 := bne_iff_ne.mpr c20
    have H' := aM H
    clear H
    go_enter Try.func47, Try.ntmps47
    go_wp2_with (first | ((with_reducible refine gate_callee (f := 60) rfl ?_); refine gL (some 7) Try.func60 #[.pointer (some ⟨g, 0, none⟩)] ?_; (with_reducible refine (spec_l20Acts.calls k g s0_0 s0_1 t530 t533 w0 _ ?side1 ?side2 A3.out).mono ?_); (case side1 => exact IsS69.j HI0.out); (case side2 => exact jB HB.out); rintro e w26 ⟨v531, rfl, ho0, hi, hb, hk⟩; refine ⟨_, rfl, ?_⟩; have HO532 := aM (Kd.N_lower (Kd.N_mono (ok' := fun k_ => (w.heap.size ≤ k_) ∧ k_ ≠ g) ho0 (fun k_ hk_ => ⟨(Nat.le_trans (keep_size (w := w) (g := g) (row := none) (by exact jK HK.out)) hk_), (IsS69.fresh (by exact IsS69.j HI0.out) k_ hk_)⟩)) (keep_size (w := w) (g := g) (row := none) (by exact jK HK.out))); replace HK := aM (kt HK.out hk); replace HB := aM (hb); replace HI0 := aM (hi); (try clear hb hk hi); (try clear ho0)) | ((with_reducible refine gate_callee (f := 20) rfl ?_); refine gL (some 10) Try.func20 #[.pointer (some ⟨g, 0, none⟩), .int .i64 a1] ?_; (with_reducible refine (spec_l20Rd_pick.calls k g s0_0 t533 a1 t534 t535 w0 _ ?side1 ?side2 A4.out).mono ?_); (case side1 => exact IsS69.j HI0.out); (case side2 => exact jB HB.out); rintro e w27 ⟨rfl, hi, hb, hk⟩; refine ⟨_, rfl, ?_⟩; replace HO532 := aM (Kd.N_mono (Kd.N_keep (Kd.N_mono (ok := fun k_ => (((w.heap.size ≤ k_)) ∧ k_ ≠ g)) (by exact lN <| HO532.out) (fun k_ hk_ => (⟨hk_, hk_.2⟩ : _ ∧ k_ ≠ g))) hk (fun _ h => h.2)) (fun _ h => h.1)); replace HK := aM (kt HK.out hk); replace HB := aM (hb); replace HI0 := aM (hi); (try clear hb hk hi)) | ((with_reducible refine gate_callee (f := 20) rfl ?_); refine gL (some 14) Try.func20 #[.pointer (some ⟨g, 0, none⟩), .int .i64 3] ?_; (with_reducible refine (spec_l20Rd_pick.calls k g s0_0 t535 3 t536 t537 w0 _ ?side1 ?side2 A8.out).mono ?_); (case side1 => exact IsS69.j HI0.out); (case side2 => exact jB HB.out); rintro e w28 ⟨rfl, hi, hb, hk⟩; refine ⟨_, rfl, ?_⟩; replace HO532 := aM (Kd.N_mono (Kd.N_keep (Kd.N_mono (ok := fun k_ => (((w.heap.size ≤ k_)) ∧ k_ ≠ g)) (by exact lN <| HO532.out) (fun k_ hk_ => (⟨hk_, hk_.2⟩ : _ ∧ k_ ≠ g))) hk (fun _ h => h.2)) (fun _ h => h.1)); replace HK := aM (kt HK.out hk); replace HB := aM (hb); replace HI0 := aM (hi); (try clear hb hk hi)))
    go_loopg [5] k (fun kq v5 w' => ∃ (x5_1 : List (List (S45))), Aside0 (spec_l20AnyActs.l0 kq x5_1 s0_0 t537 = some (r1, r2)) ∧ Aside0 (kq ≤ k) ∧ Aside0 (Kd.N (Kd.slice 45 k45) 33 w' w.heap.size (fun k_ => (w.heap.size ≤ k_) ∧ k_ ≠ g) v5 x5_1) ∧ Aside0 (IsS69 w0 w' g s0_0 t537) ∧ Aside0 (KeepBut w w' g none) ∧ Aside0 (Below w0.heap.size w0 w'))
    case atStart => exact ⟨(t530), H', ⟨Nat.le_refl _⟩, ⟨by exact lN <| HO532.out⟩, ⟨by exact IsS69.j HI0.out⟩, ⟨by exact jK HK.out⟩, ⟨by exact jB HB.out⟩⟩
    case round =>
     clear H'
     try clear c1
     try clear p1
     try clear q1
     try clear hx1
     try clear qi1
     try clear c2
     try clear p2
     try clear c3
     try clear c4
     try clear c5
     try clear c5b0
     try clear c6
     try clear c9
     try clear c9b0
     try clear c9b1
     try clear c11
     try clear c11b0
     try clear c11b1
     try clear c12
     try clear p12
     try clear q12
     try clear hx12
     try clear qi12
     try clear hf12
     try clear c17
     try clear hx17
     try clear hf17
     try clear c20
     try clear c20b0
     try clear c20b1
     try clear hx12_0
     try clear hx17_0
     try clear p12
     try clear q12
     obtain ⟨x5_1, HA, HK1, HO_5, HI0, HK, HB⟩ := hrel
     cases gk with
     | zero => exact absurd HA.out (by simp [spec_l20AnyActs.l0])
     | succ k1 =>
      have H := HA.out
      clear HA
      simp only [spec_l20AnyActs.l0] at H
      by_cases c29 : (x5_1.length : Int) ≤ 4
      ·rw [if_pos c29] at H
       have c29b0 := decide_eq_true c29
       have c29b1 : decide (x5_1.length ≤ 4) = true := decide_eq_true (by omega)
       clear c29
       by_cases c30 : 0 < (x5_1.length : Int)
       ·rw [if_pos c30] at H
        have c30b0 := decide_eq_true c30
        have c30b1 : decide (0 < x5_1.length) = true := decide_eq_true (by omega)
        clear c30
        by_cases c31 : x5_1.length < 5864062014805
        ·rw [if_pos c31] at H
         have LMc31 := aM c31
         clear c31
         obtain ⟨y547, hy547⟩ : ∃ y_ : List (List (S45)), y_ = (x5_1 ++ [rd_L5 x5_1 0]) := ⟨_, rfl⟩
         try rw [← hy547] at H
         try dsimp only [Option.bind_some] at H
         have Ny547 := aM hy547
         clear hy547
         have H' := aM H
         clear H
         obtain ⟨Ao32, co32, eo32⟩ := Kd.N_slice HO_5.out
         subst eo32
         have p546 : 0 ≤ (0 : Int) := (by omega)
         have q546 : 0 < (x5_1.length : Int) := of_decide_eq_true (by first | (with_reducible assumption) | assumption)
         obtain ⟨ad546, A546_0, c546_0, e546, hx546_0, hl546_0, hi546_0⟩ := at_L5 (Kd.N_reads' HO_5.out).2.2 0 p546 q546
         cases e546
         obtain ⟨ce546, hce546, hMe546, hcc546⟩ := Kd.N_get HO_5.out [] 0 p546 (by first | exact q546 | exact of_decide_eq_true (by first | (with_reducible assumption) | assumption) | (have e_ := (Kd.N_reads' HO_5.out).1; omega))
         obtain ⟨ua546_0, uc546_0, rfl, ul546_0, ge546_0⟩ := Kd.FK_slice_open hMe546
         have hv546_0 := hcc546 0 _ rfl
         rw [Nat.add_zero, show ((Kd.slice 45 k45)).sz = 1 from rfl, Nat.mul_one] at hv546_0
         replace hv546_0 := Option.some.inj (hv546_0.symm.trans hx546_0)
         injection hv546_0 with hva_ hvn_ hvc_
         rw [hva_] at ge546_0
         rw [hvc_] at ul546_0
         have HL546_0 := aM (show Kd.V k45 45 _ w.heap.size _ _ (rd_L5 x5_1 0) from Kd.V_mk ul546_0 ge546_0)
         clear hva_ hvn_ hvc_ ge546_0 ul546_0 hcc546 hce546
         have qi546 : (0 < x5_1.length) = True := eq_true (by omega)
         (try rw [show ((0 : Int)).toNat = 0 from rfl] at hx546_0)
         (try rw [Addr.add_zero'] at hx546_0)
         have HR546_0 := aM hi546_0
         have HC546_0 := aM hl546_0
         clear hi546_0 hl546_0
         replace p546 := eq_true p546
         replace q546 := eq_true q546
         go_wp2_with (first | ((with_reducible refine gate_builtin (b := .append) (xs := #[.tmp 18, .tmp 22]) rfl ?_); at_builtin; refine Kd.N_append (Kd.slice 45 k45) w.heap.size rfl (.tmp 18) (.tmp 22) 23 33 (.slice none 0 0) 24 rfl Try.underlying23 info33 rfl (by decide) (by omega) (.slice (some ad546) x5_1.length co32) x5_1 (rd_L5 x5_1 0) [.slice A546_0 (rd_L5 x5_1 0).length c546_0] (fun k_ => (w.heap.size ≤ k_) ∧ k_ ≠ g) (fun k_ => ((fun k_ => (w.heap.size ≤ k_) ∧ k_ ≠ g)) k_ ∧ some k_ ≠ ownBlock (.slice (some ad546) x5_1.length co32)) rfl rfl ?aP (fun _ hk => hk) ?aF ?aO (Below.refl _ _) ?aS ?aL ?_; (case aP => exact (Kd.FK_slice_mk (Kd.V_reads' (Kd.V_mono (ok' := (fun k_ => ((fun k_ => (w.heap.size ≤ k_) ∧ k_ ≠ g)) k_ ∧ some k_ ≠ ownBlock (.slice (some ad546) x5_1.length co32))) (HL546_0.out) (fun k_ hk => ⟨⟨hk.1.1, hk.1.2⟩, hk.2⟩))).2.1 (Kd.V_F (Kd.V_mono (ok' := (fun k_ => ((fun k_ => (w.heap.size ≤ k_) ∧ k_ ≠ g)) k_ ∧ some k_ ≠ ownBlock (.slice (some ad546) x5_1.length co32))) (HL546_0.out) (fun k_ hk => ⟨⟨hk.1.1, hk.1.2⟩, hk.2⟩))))); (case aF => exact (fun k_ hk => ⟨(Nat.le_trans (keep_size (w := w) (g := g) (row := none) (by exact jK HK.out)) hk), IsS69.fresh (by exact IsS69.j HI0.out) k_ hk⟩)); (case aO => exact (by exact lN <| HO_5.out)); (case aS => exact (keep_size (w := w) (g := g) (row := none) (by exact jK HK.out))); (case aL => have := LMc31.out; omega); intro v548 w33 ho hb hg hat; rw [← Ny547.out] at ho; replace HI0 := aM (IsS69.grown (by exact IsS69.j HI0.out) hg (IsS69.own_neN HI0.out HO_5.out (by decide))); replace HL546_0 := aM (Kd.V_afterv (ok := (fun k_ => (w.heap.size ≤ k_) ∧ k_ ≠ g)) (by (with_reducible repeat (first | apply Kd.V_alloc | apply Kd.V_drewN | apply Kd.V_drew)); exact HL546_0.out) hg hat); replace HB := aM (below_weaken (by exact jB HB.out) HL.out hb); replace HK := aM (KeepBut.trans (by exact jK HK.out) (KeepBut.of_grown hg g) (Kd.N_base2 HO_5.out)); have HO549 := aM (ho); clear HO_5 ho hb hg hat))
         go_roundg k1
         case measure => have := HK1.out; omega
         case rel => exact ⟨(y547), H', ⟨by have := HK1.out; omega⟩, ⟨by exact lN <| HO549.out⟩, ⟨by exact IsS69.j HI0.out⟩, ⟨by exact jK HK.out⟩, ⟨by exact jB HB.out⟩⟩
        ·rw [if_neg c31] at H
         exact absurd H (by simp)
       ·rw [if_neg c30] at H
        exact absurd H (by simp)
      ·rw [if_neg c29] at H
       have c29b0 := decide_eq_false c29
       have c29b1 : decide (x5_1.length ≤ 4) = false := decide_eq_false (by omega)
       clear c29
       simp only [Option.some.injEq, Prod.mk.injEq] at H
       obtain ⟨rfl, rfl⟩ := H
       obtain ⟨Ao34, co34, eo34⟩ := Kd.N_slice HO_5.out
       subst eo34
       go_wp2
       go_ret
       exact ⟨_, er, by exact lN <| Kd.N_mono HO_5.out (fun _ hk => hk.1), by exact IsS69.j HI0.out, by exact jB HB.out, by exact jK HK.out⟩

end Go.Proofs.Ytgalnmgkcdmnkaa.QFnPlnHome

-- shorter
