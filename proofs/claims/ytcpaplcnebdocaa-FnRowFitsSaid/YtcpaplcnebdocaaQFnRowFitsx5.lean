/- Plain functions, and that the Go code computes them: written by a program of this session over the seat's translation; the conditions stand in each theorem. -/
import Derived.Test.YtcpaplcnebdocaaHW4
import Derived.Test.YtcpaplcnebdocaaQFnRowFitsx0
import Derived.Test.YtcpaplcnebdocaaQFnRowFitsx2
import Derived.Test.YtcpaplcnebdocaaQFnRowFitsx3
import Derived.Test.YtcpaplcnebdocaaQFnRowFitsx4
namespace Go.Proofs.Ytcpaplcnebdocaa.QFnRowFits
open Go.RowKit Go.Proofs.YtcpaplcnebdocaaW.PrintWords Go.Proofs.YtcpaplcnebdocaaW.PrintLast Go.Proofs.YtcpaplcnebdocaaW.PrintMore Go.Proofs.Ytcpaplcnebdocaa.HWords
open Value (ownBlock)
attribute [local go_sem] max2_int min2_int max_two min_two max_three min_three max_four min_four   -- for this text's walks alone
set_option linter.unusedVariables false
set_option linter.unusedSimpArgs false
set_option maxRecDepth 100000
set_option maxHeartbeats 8000000
/-! ### spec_l3Walk: function 76 -/
mutual
def spec_l3Walk.l0 : Nat → List (S100) → List (S34) → List (S34) → List (S34) → Int → Option ((List (S25)))
 | 0, _, _, _, _, _ => none
 | k + 1, x0, x2, x3, x4, x11 => if x11 < (x0.length : Int) then (if 0 ≤ x11 then (if ((rd_T100 x0 x11).f0) = 4 then ((spec_l3Copy.f k x3).bind fun t269 => (some (([(⟨t269, ([] : List (S34)), ([] : List (S34)), true⟩ : S25)] : List (S25))))) else ((spec_FrmInto.f k ((rd_T100 x0 x11).f3.f0) ((rd_T100 x0 x11).f3.f1) ((rd_T100 x0 x11).f3.f2) x2).bind fun bt275 => (if ((rd_T100 x0 x11).f0) = 1 then ((spec_l3Copy.f k x2).bind fun t283 => ((spec_l3Copy.f k x3).bind fun t286 => ((some (([(⟨bt275.1, bt275.2.1, bt275.2.2⟩ : S34)] : List (S34)) : List (S34))).bind fun y289 => (if t286.length + y289.length < 2513169434916 then ((spec_l3Copy.f k x4).bind fun t295 => ((spec_l3Walk.f k x0 (wrap64 (x11 + 1)) t283 (t286 ++ y289) t295).bind fun t298 => ((spec_l3Copy.f k x2).bind fun t301 => ((spec_l3Copy.f k x3).bind fun t304 => ((spec_l3Minus.f k bt275.1 bt275.2.1 bt275.2.2).bind fun bt307 => ((some (([(⟨bt307.1, bt307.2.1, bt307.2.2⟩ : S34)] : List (S34)) : List (S34))).bind fun y314 => (if t304.length + y314.length < 2513169434916 then ((spec_l3Copy.f k x4).bind fun t320 => ((spec_l3Walk.f k x0 (wrap64 ((wrap64 (x11 + 1)) + ((rd_T100 x0 x11).f2))) t301 (t304 ++ y314) t320).bind fun t323 => (if t298.length + t323.length < 1759218604441 then (some (t298 ++ t323)) else (none)))) else (none)))))))) else (none))))) else (if ((rd_T100 x0 x11).f0) = 2 then ((spec_l3Copy.f k x2).bind fun t329 => (if 0 ≤ ((rd_T100 x0 x11).f1) then (if ((rd_T100 x0 x11).f1) < (t329.length : Int) then ((spec_l1Sum.f k ((rd_T34 t329 ((rd_T100 x0 x11).f1)).f0) ((rd_T34 t329 ((rd_T100 x0 x11).f1)).f1) ((rd_T34 t329 ((rd_T100 x0 x11).f1)).f2) bt275.1 bt275.2.1 bt275.2.2 1).bind fun bt333 => (spec_l3Walk.l0 k x0 (t329.set (((rd_T100 x0 x11).f1) : Int).toNat (⟨bt333.1, bt333.2.1, bt333.2.2⟩ : S34)) x3 x4 (wrap64 (x11 + 1)))) else (none)) else (none))) else ((spec_l3Copy.f k x4).bind fun t341 => ((some (([(⟨bt275.1, bt275.2.1, bt275.2.2⟩ : S34)] : List (S34)) : List (S34))).bind fun y344 => (if t341.length + y344.length < 2513169434916 then (spec_l3Walk.l0 k x0 x2 x3 (t341 ++ y344) (wrap64 (x11 + 1))) else (none)))))))) else (none)) else ((spec_l3Row.f k x2 x3 x4).bind fun bt254 => (some (([(⟨bt254.1, bt254.2.1, bt254.2.2.1, bt254.2.2.2⟩ : S25)] : List (S25)))))
def spec_l3Walk.f : Nat → List (S100) → Int → List (S34) → List (S34) → List (S34) → Option ((List (S25)))
 | 0, _, _, _, _, _ => none
 | k + 1, l0, a1, l2, l3, l4 => spec_l3Walk.l0 k l0 l2 l3 l4 a1
end
theorem spec_l3Walk.mono_l : ∀ k, (∀ y0 y1 y2 y3 y4, LeO (spec_l3Walk.f k y0 y1 y2 y3 y4) (spec_l3Walk.f (k + 1) y0 y1 y2 y3 y4)) ∧ (∀ y0 y1 y2 y3 y4, LeO (spec_l3Walk.l0 k y0 y1 y2 y3 y4) (spec_l3Walk.l0 (k + 1) y0 y1 y2 y3 y4))
 | 0 => ⟨fun _ _ _ _ _ r h => by simp [spec_l3Walk.f] at h, fun _ _ _ _ _ r h => by simp [spec_l3Walk.l0] at h⟩
 | k + 1 => by
  obtain ⟨ih0, ih1⟩ := spec_l3Walk.mono_l k
  refine ⟨?_, ?_⟩
  ·intro y0 y1 y2 y3 y4
   unfold spec_l3Walk.f
   have := @spec_FrmInto.mono
   have := @spec_l1Sum.mono
   have := @spec_l3Copy.mono
   have := @spec_l3Minus.mono
   have := @spec_l3Row.mono
   exact mo
  ·intro y0 y1 y2 y3 y4
   unfold spec_l3Walk.l0
   have := @spec_FrmInto.mono
   have := @spec_l1Sum.mono
   have := @spec_l3Copy.mono
   have := @spec_l3Minus.mono
   have := @spec_l3Row.mono
   exact mo
theorem spec_l3Walk.mono : ∀ a0 a1 a2 a3 a4 k, LeO (spec_l3Walk.f k a0 a1 a2 a3 a4) (spec_l3Walk.f (k + 1) a0 a1 a2 a3 a4) := by
 intro a0 a1 a2 a3 a4 k
 obtain ⟨ih0, ih1⟩ := spec_l3Walk.mono_l k
 exact ih0 a0 a1 a2 a3 a4
def spec_l3Walk.T11 : Bool × List (List Nat × List Nat) := (true, [([], []), ([], []), ([1], [1]), ([], []), ([3], [3]), ([], []), ([5, 4], [5]), ([], []), ([7], [7]), ([6, 8, 6], [6, 8]), ([], []), ([10, 9], [10]), ([0, 2, 4, 9, 11, 11], [0, 2, 4, 9, 11]), ([12, 12, 0, 1, 2, 3, 4, 5, 6, 7, 8, 9, 10, 11, 12], [12])])
def spec_l3Walk.B11 : List Nat := [0, 0, 2, 0, 8, 0, 56, 0, 128, 504, 0, 2040, 4095, 8191]
theorem spec_l3Walk.tab11 : rtab .any (opsOf Try.f76 11) = spec_l3Walk.T11 := by kernel_rfl
theorem spec_l3Walk.bits11 : waitsOk spec_l3Walk.T11.2 spec_l3Walk.B11 = true := by kernel_rfl
def spec_l3Walk.T12 : Bool × List (List Nat × List Nat) := (true, [([], []), ([], []), ([1], [1]), ([], []), ([3], [3]), ([2, 4], [2, 4]), ([], []), ([6], [6]), ([], []), ([8, 7], [8]), ([], []), ([10, 9], [10]), ([11], [11]), ([9, 12, 11], [9, 12]), ([], []), ([14, 13], [14]), ([0, 5, 7, 13, 15, 15], [0, 5, 7, 13, 15]), ([16, 16, 0, 1, 2, 3, 4, 5, 6, 7, 8, 9, 10, 11, 12, 13, 14, 15, 16], [16])])
def spec_l3Walk.B12 : List Nat := [0, 0, 2, 0, 8, 30, 0, 64, 0, 448, 0, 1984, 4032, 8128, 0, 32704, 65535, 131071]
theorem spec_l3Walk.tab12 : rtab .any (opsOf Try.f76 12) = spec_l3Walk.T12 := by kernel_rfl
theorem spec_l3Walk.bits12 : waitsOk spec_l3Walk.T12.2 spec_l3Walk.B12 = true := by kernel_rfl
def spec_l3Walk.T16 : Bool × List (List Nat × List Nat) := (true, [([], []), ([], []), ([1], [1]), ([], []), ([], []), ([4], [4]), ([3, 5], [3, 5]), ([6], [6]), ([], []), ([7, 8], [7, 8]), ([0, 2, 0, 1, 2, 3, 4, 5, 6, 7, 8, 9], [0, 2]), ([10, 9, 9, 0, 1, 2, 3, 4, 5, 6, 7, 8, 9], [9, 10])])
def spec_l3Walk.B16 : List Nat := [0, 0, 2, 0, 0, 16, 56, 120, 0, 504, 1023, 2047]
theorem spec_l3Walk.tab16 : rtab .any (opsOf Try.f76 16) = spec_l3Walk.T16 := by kernel_rfl
theorem spec_l3Walk.bits16 : waitsOk spec_l3Walk.T16.2 spec_l3Walk.B16 = true := by kernel_rfl
theorem k34_mkR' (W : World) (ok : Nat → Prop) (x : S34) {v0 v1 : Value} {e0 b0 e1 b1 : Nat} (h0 : Kd.R (Kd.int .i64) e0 W b0 ok v0 x.f0) (h1 : Kd.R (Kd.int .i64) e1 W b1 ok v1 x.f1) : Kd.FK k34 W ok x [v0, v1, .int .i64 x.f2] := by
 obtain ⟨A0, c0, rfl⟩ := Kd.R_slice h0
 obtain ⟨A1, c1, rfl⟩ := Kd.R_slice h1
 exact k34_mkR W ok x h0 h1
def PM25 (w : World) (base : Nat) (ok : Nat → Prop) (x : S25) (cs : List Value) : Prop := ∃ v0 v1 v2, cs = [v0, v1, v2, .bool x.f3] ∧ Kd.S k34 34 w base (fun k => ok k ∧ some k ≠ v1.ownBlock ∧ some k ≠ v2.ownBlock) v0 x.f0 ∧ Kd.S k34 34 w base (fun k => ok k ∧ some k ≠ v0.ownBlock ∧ some k ≠ v2.ownBlock) v1 x.f1 ∧ Kd.S k34 34 w base (fun k => ok k ∧ some k ≠ v0.ownBlock ∧ some k ≠ v1.ownBlock) v2 x.f2
theorem S_moveOk {w w1 : World} {base : Nat} {ok : Nat → Prop} {v : Value} {xs : List S34} (h : Kd.S k34 34 w base ok v xs) (hm : ∀ k, ok k → w1.heap[k]? = w.heap[k]?) : Kd.S k34 34 w1 base ok v xs := by
 obtain ⟨f, h⟩ := h
 exact ⟨f, Kd.R_move h hm⟩
theorem S_bd {w : World} {base : Nat} {ok p q : Nat → Prop} {v : Value} {xs : List S34} (h : Kd.S k34 34 w base (fun k => ok k ∧ p k ∧ q k) v xs) : Kd.S k34 34 w base (fun k => (ok k ∧ base ≤ k ∧ k < w.heap.size ∧ ∃ q, q ∈ k25.E ∧ ∃ cells, w.heap[k]? = some (.cells cells q (0, 0))) ∧ p k ∧ q k) v xs :=
 Kd.S_mono (Kd.S_bound h) (fun k hk => by
  obtain ⟨⟨h1, h2⟩, h3, h4, t, ht, hc⟩ := hk
  exact ⟨⟨h1, h3, h4, t, List.mem_append_left _ ht, hc⟩, h2⟩)
def k25s : Kd S25 :=
 { k25 with
   M := PM25
   K_of_M := by
    rintro w base ok x cs ⟨v0, v1, v2, rfl, h0, h1, h2⟩
    obtain ⟨A0, c0, rfl⟩ := Kd.S_slice h0
    obtain ⟨A1, c1, rfl⟩ := Kd.S_slice h1
    obtain ⟨A2, c2, rfl⟩ := Kd.S_slice h2
    exact k25_mk w x (Kd.S_reads' h0).2.1 (Kd.S_reads' h0).2.2 (Kd.S_reads' h1).2.1 (Kd.S_reads' h1).2.2 (Kd.S_reads' h2).2.1 (Kd.S_reads' h2).2.2
   M_mono := by
    rintro w base ok ok' x cs hok ⟨v0, v1, v2, rfl, h0, h1, h2⟩
    exact ⟨v0, v1, v2, rfl, Kd.S_mono h0 (fun k hk => ⟨hok k hk.1, hk.2⟩), Kd.S_mono h1 (fun k hk => ⟨hok k hk.1, hk.2⟩), Kd.S_mono h2 (fun k hk => ⟨hok k hk.1, hk.2⟩)⟩
   M_bound := by
    rintro w base ok x cs ⟨v0, v1, v2, rfl, h0, h1, h2⟩
    exact ⟨v0, v1, v2, rfl, S_bd h0, S_bd h1, S_bd h2⟩
   M_move := by
    rintro w w1 base ok x cs hm ⟨v0, v1, v2, rfl, h0, h1, h2⟩
    exact ⟨v0, v1, v2, rfl, S_moveOk h0 (fun k hk => hm k hk.1), S_moveOk h1 (fun k hk => hm k hk.1), S_moveOk h2 (fun k hk => hm k hk.1)⟩
   M_lower := by
    rintro w base base' ok x cs hb ⟨v0, v1, v2, rfl, h0, h1, h2⟩
    exact ⟨v0, v1, v2, rfl, Kd.S_lower h0 hb, Kd.S_lower h1 hb, Kd.S_lower h2 hb⟩ }
theorem R_M25 {w : World} {base : Nat} {ok : Nat → Prop} {A : Option Addr} {n c : Nat} {xs : List S25} (h : k25s.R 25 w base ok (.slice A n c) xs) : ReadsRow (k25s.M w base ok) 4 w A n xs := by
 obtain ⟨A', c', he, hl, hr⟩ := OwnRow.reads h.2
 injection he with ha hn hc
 subst ha; subst hn; subst hc
 exact hr.imp_ (Below.refl _ _) (fun _ _ hp => k25s.M_mono (fun _ hk => hk.1) hp)
theorem pm25 {w : World} {base : Nat} {ok : Nat → Prop} {x : S25} {v0 v1 v2 : Value} (h0 : Kd.S k34 34 w base (fun k => ok k ∧ some k ≠ v1.ownBlock ∧ some k ≠ v2.ownBlock) v0 x.f0) (h1 : Kd.S k34 34 w base (fun k => ok k ∧ some k ≠ v0.ownBlock ∧ some k ≠ v2.ownBlock) v1 x.f1) (h2 : Kd.S k34 34 w base (fun k => ok k ∧ some k ≠ v0.ownBlock ∧ some k ≠ v1.ownBlock) v2 x.f2) : k25s.M w base ok x [v0, v1, v2, .bool x.f3] := ⟨v0, v1, v2, rfl, h0, h1, h2⟩
set_option maxHeartbeats 8000000 in
set_option maxRecDepth 100000 in
theorem spec_l3Walk.callsC (k : Nat) : ∀ (A0 : Option Addr) (c0 : Nat) (l0 : List (S100)) (a1 : Int) (A2 : Option Addr) (c2 : Nat) (l2 : List (S34)) (A3 : Option Addr) (c3 : Nat) (l3 : List (S34)) (A4 : Option Addr) (c4 : Nat) (l4 : List (S34)) (r : List (S25)) (w : World) (hr0 : Kd.C k100 w A0 l0.length l0) (hc0 : l0.length ≤ c0) (hs2 : Kd.V k34 34 w w.heap.size (fun _ => True) (.slice A2 l2.length c2) l2) (hr3 : Kd.C k34 w A3 l3.length l3) (hc3 : l3.length ≤ c3) (hs4 : Kd.V k34 34 w w.heap.size (fun _ => True) (.slice A4 l4.length c4) l4) (h : spec_l3Walk.f k l0 a1 l2 l3 l4 = some r),
  Calls Try.prog 76 #[.slice A0 l0.length c0, .int .i64 a1, .slice A2 l2.length c2, .slice A3 l3.length c3, .slice A4 l4.length c4] w fun e w' => ∃ v0_ : Value, e = .returned (v0_) ∧ Kd.R k25s 25 w' w.heap.size (fun k_ => w.heap.size ≤ k_) v0_ r ∧ Below w.heap.size w w' := by
 induction k using Nat.strongRecOn with
 | _ k ih =>
 intro A0 c0 l0 a1 A2 c2 l2 A3 c3 l3 A4 c4 l4 r w hr0 hc0 hs2 hr3 hc3 hs4 h
 cases k with
 | zero => exact absurd h (by simp [spec_l3Walk.f])
 | succ k =>
 simp only [spec_l3Walk.f] at h
 have hu100 := Try.underlying100
 have hu25 := Try.underlying25
 have hu34 := Try.underlying34
 have HR0 := aM hr0; have HC0 := aM hc0; have HR3 := aM hr3; have HC3 := aM hc3; have HB := aM (Below.refl w.heap.size w)
 have HV2 := aM hs2; have HV4 := aM hs4; clear hr0 hc0 hr3 hc3 hs2 hs4
 have H' : Aside0 (spec_l3Walk.l0 k l0 l2 l3 l4 a1 = some r) := ⟨h⟩
 clear h
 go_enter Try.func76, Try.ntmps76
 go_wp2
 go_loopg [2, 4, 11] k (fun kq v2 v4 v11 w' => ∃ (x2_1 : List (S34)) (x4_1 : List (S34)) (x11_1 : Int), v11 = .int .i64 x11_1 ∧ Aside0 (spec_l3Walk.l0 kq l0 x2_1 l3 x4_1 x11_1 = some r) ∧ Aside0 (kq ≤ k) ∧ Aside0 (Kd.V k34 34 w' w.heap.size (fun _ => True) v2 x2_1) ∧ Aside0 (Kd.V k34 34 w' w.heap.size (fun _ => True) v4 x4_1) ∧ Aside0 (Below w.heap.size w w'))
 case atStart => exact ⟨(l2), (l4), (a1), sr, H', ⟨Nat.le_refl _⟩, ⟨by exact lV HV2.out⟩, ⟨by exact lV HV4.out⟩, ⟨by exact lB HB.out⟩⟩
 case round =>
  clear H' HV2 HV4
  (try clear c2); (try clear p2); (try clear c3); (try clear c4)
  obtain ⟨x2_1, x4_1, x11_1, rfl, HA, HK1, HV2, HV4, HB⟩ := hrel
  cases gk with
  | zero => exact absurd HA.out (by simp [spec_l3Walk.l0])
  | succ k1 =>
   have H := HA.out
   clear HA; simp only [spec_l3Walk.l0] at H
   have HS := aM (below_size HB.out); have HW := aM (Below.refl wr.heap.size wr)
   obtain ⟨A2, c2, rfl⟩ := Kd.V_slice HV2.out; obtain ⟨A4, c4, rfl⟩ := Kd.V_slice HV4.out
   have HP2 := aM (Kd.V_reads' HV2.out).2.2; have HL2 := aM (Kd.V_reads' HV2.out).2.1; have HP4 := aM (Kd.V_reads' HV4.out).2.2; have HL4 := aM (Kd.V_reads' HV4.out).2.1
   by_cases c6 : x11_1 < (l0.length : Int)
   ·rw [if_pos c6] at H; replace c6 := decide_eq_true c6; obtain ⟨c7, H⟩ := iD H
    by_cases c8 : ((rd_T100 l0 x11_1).f0) = 4
    ·rw [if_pos c8] at H
     have c8b0 := beq_iff_eq.mpr c8
     have c8b1 := bne_eq_false_iff_eq.mpr c8
     clear c8
     obtain ⟨t269, A9, H⟩ := bS H
     try dsimp only at H
     obtain ⟨y272, Ny272⟩ : ∃ y_ : List (S25), Aside0 (y_ = ([(⟨t269, ([] : List (S34)), ([] : List (S34)), true⟩ : S25)] : List (S25))) := ⟨_, ⟨rfl⟩⟩
     try rw [← Ny272.out] at H
     try dsimp only [Option.bind_some] at H
     obtain rfl := Option.some.inj H
     have p267 : 0 ≤ (x11_1 : Int) := od; have q267 : x11_1 < (l0.length : Int) := od; obtain ⟨ad267, A267_3, c267_3, A267_4, c267_4, e267, hx267_0, hx267_1, hx267_2, hx267_3, hx267_4, hx267_5, hl267_3, hi267_3, hl267_4, hi267_4⟩ := at_T100 HR0.out x11_1 p267 q267
     cases e267; replace hx267_0 := cl HB.out hx267_0; replace hx267_1 := cl HB.out hx267_1; replace hx267_2 := cl HB.out hx267_2; replace hx267_3 := cl HB.out hx267_3; replace hx267_4 := cl HB.out hx267_4; replace hx267_5 := cl HB.out hx267_5; have HR267_3 := aM hi267_3; have HC267_3 := aM hl267_3; have HR267_4 := aM hi267_4; have HC267_4 := aM hl267_4; clear hi267_3 hl267_3 hi267_4 hl267_4; replace p267 := eq_true p267; replace q267 := eq_true q267
     go_wp2_with (first | ((with_reducible refine gate_dst (N := 12) rfl ?_); refine bx 12 #[.int .i64 0, .int .i64 0, .int .i64 0, .slice none 0 0, .slice none 0 0, .int .i64 0] 100 ?_; intro gb268 hg w30 hbox hb; have BK268 := aM hbox; have IG1 := wn (gz hg HB.out); have IG2 := wn (gz hg HW.out); replace HB := aM (bj HB.out hb); replace HW := aM (bj HW.out hb); clear hb hbox hg; obtain ⟨hcz31_0, hcz31_1, hcz31_2, hcz31_3, hcz31_4, hcz31_5, hfz31_0, hfz31_1, hfz31_2, hfz31_3, hfz31_4, hfz31_5⟩ := cf6 BK268.out) | (refine gL (some 31) Try.func89 #[.slice A3 l3.length c3] ?_; (with_reducible refine (spec_l3Copy.calls k1 _ _ l3 t269 _ (by exact Kd.C_below HR3.out (by exact jB HB.out)) HC3.out A9.out).mono ?_); rintro e w12 ⟨v270, rfl, ho0, hb⟩; refine ⟨_, rfl, ?_⟩; have HO271 := aM (Kd.S_mono (ok' := fun k_ => w.heap.size ≤ k_ ∧ some k_ ≠ (Value.slice none 0 0).ownBlock ∧ some k_ ≠ (Value.slice none 0 0).ownBlock) (Kd.S_lower (Kd.S_bound ho0) (bz HB.out)) (fun k hk => ⟨Nat.le_trans (bz HB.out) hk.2.1, (by simp [Value.ownBlock]), (by simp [Value.ownBlock])⟩)); replace HB := aM (bj HB.out hb); clear hb ho0; obtain ⟨Ao13, co13, rfl⟩ := Kd.S_slice HO271.out) | ((with_reducible refine gate_dst (N := 33) rfl ?_); refine Kd.R_lit k25s (w0 := w) w.heap.size 25 ?hg (N := 33) ?hd (xs := ([(⟨t269, ([] : List (S34)), ([] : List (S34)), true⟩ : S25)] : List (S25))) (inner := [.slice Ao13 t269.length co13, .slice none 0 0, .slice none 0 0, .bool true]) (ok := fun k_ => w.heap.size ≤ k_) (okp := fun k_ => w.heap.size ≤ k_) ?hr ?hp (fun _ hk => hk) ((show ∀ k_, w12.heap.size ≤ k_ → (fun k_ => w.heap.size ≤ k_) k_ from fun k_ hk => Nat.le_trans (bz HB.out) hk) _ (Nat.le_refl _)) (by exact jB HB.out) (bz HB.out) (by simp) ?_; (case hd => rfl); (case hg => rfl); (case hr => first | (go_simp; done) | (go_simp; rfl)); (case hp => exact (Reps.c4 (pm25 (x := (⟨t269, ([] : List (S34)), ([] : List (S34)), true⟩ : S25)) HO271.out (Kd.S_nil _ _ _ _ _) (Kd.S_nil _ _ _ _ _)) (Reps.none _ _))); intro v273 w14 ho3 hb hg_ hnew_; clear hg_ hnew_; rw [← Ny272.out] at ho3; have HO274 := aM ho3; replace HB := aM hb; clear HO271 hb ho3))
     go_ret
     exact ⟨_, er, by exact lR HO274.out, by exact jB HB.out⟩
    ·rw [if_neg c8] at H
     have c8b0 := beq_eq_false_iff_ne.mpr c8
     have c8b1 := bne_iff_ne.mpr c8
     obtain ⟨⟨t275, t278, t281⟩, A16, H⟩ := bS H
     try dsimp only at H
     by_cases c17 : ((rd_T100 l0 x11_1).f0) = 1
     ·rw [if_pos c17] at H
      have c17b0 := beq_iff_eq.mpr c17
      have c17b1 := bne_eq_false_iff_eq.mpr c17
      clear c17
      obtain ⟨t283, A18, H⟩ := bS H
      try dsimp only at H
      obtain ⟨t286, A19, H⟩ := bS H
      try dsimp only at H
      obtain ⟨y289, hy289⟩ : ∃ y_ : List (S34), y_ = (([(⟨t275, t278, t281⟩ : S34)] : List (S34))) := ⟨_, rfl⟩
      replace H : (if t286.length + y289.length < 2513169434916 then ((spec_l3Copy.f k1 x4_1).bind fun t295 => ((spec_l3Walk.f k1 l0 (wrap64 (x11_1 + 1)) t283 (t286 ++ y289) t295).bind fun t298 => ((spec_l3Copy.f k1 x2_1).bind fun t301 => ((spec_l3Copy.f k1 l3).bind fun t304 => ((spec_l3Minus.f k1 t275 t278 t281).bind fun bt307 => ((some (([(⟨bt307.1, bt307.2.1, bt307.2.2⟩ : S34)] : List (S34)) : List (S34))).bind fun y314 => (if t304.length + y314.length < 2513169434916 then ((spec_l3Copy.f k1 x4_1).bind fun t320 => ((spec_l3Walk.f k1 l0 (wrap64 ((wrap64 (x11_1 + 1)) + ((rd_T100 l0 x11_1).f2))) t301 (t304 ++ y314) t320).bind fun t323 => (if t298.length + t323.length < 1759218604441 then (some (t298 ++ t323)) else (none)))) else (none)))))))) else (none)) = some r := by first | (rw [hy289]; exact H) | exact H
      have Ny289 := aM hy289; clear hy289; obtain ⟨c20, H⟩ := iN H; have LMc20 := aM c20; clear c20; obtain ⟨y292, Ny292⟩ : ∃ y_ : List (S34), Aside0 (y_ = (t286 ++ y289)) := ⟨_, ⟨rfl⟩⟩
      try rw [← Ny292.out] at H
      try dsimp only [Option.bind_some] at H
      obtain ⟨t295, A21, H⟩ := bS H
      try dsimp only at H
      obtain ⟨t298, A22, H⟩ := bS H
      try dsimp only at H
      obtain ⟨t301, A23, H⟩ := bS H
      try dsimp only at H
      obtain ⟨t304, A24, H⟩ := bS H
      try dsimp only at H
      obtain ⟨⟨t307, t310, t313⟩, A25, H⟩ := bS H
      try dsimp only at H
      obtain ⟨y314, Ny314⟩ : ∃ y_ : List (S34), Aside0 (y_ = (([(⟨t307, t310, t313⟩ : S34)] : List (S34)))) := ⟨_, ⟨rfl⟩⟩
      try rw [← Ny314.out] at H
      try dsimp only [Option.bind_some] at H
      obtain ⟨c26, H⟩ := iN H; have LMc26 := aM c26; clear c26; obtain ⟨y317, Ny317⟩ : ∃ y_ : List (S34), Aside0 (y_ = (t304 ++ y314)) := ⟨_, ⟨rfl⟩⟩
      try rw [← Ny317.out] at H
      try dsimp only [Option.bind_some] at H
      obtain ⟨t320, A27, H⟩ := bS H
      try dsimp only at H
      obtain ⟨t323, A28, H⟩ := bS H
      try dsimp only at H
      obtain ⟨c29, H⟩ := iN H; have LMc29 := aM c29; clear c29; obtain ⟨y326, Ny326⟩ : ∃ y_ : List (S25), Aside0 (y_ = (t298 ++ t323)) := ⟨_, ⟨rfl⟩⟩
      try rw [← Ny326.out] at H
      try dsimp only [Option.bind_some] at H
      obtain rfl := Option.some.inj H
      have p267 : 0 ≤ (x11_1 : Int) := od; have q267 : x11_1 < (l0.length : Int) := od; obtain ⟨ad267, A267_3, c267_3, A267_4, c267_4, e267, hx267_0, hx267_1, hx267_2, hx267_3, hx267_4, hx267_5, hl267_3, hi267_3, hl267_4, hi267_4⟩ := at_T100 HR0.out x11_1 p267 q267
      cases e267; replace hx267_0 := cl HB.out hx267_0; replace hx267_1 := cl HB.out hx267_1; replace hx267_2 := cl HB.out hx267_2; replace hx267_3 := cl HB.out hx267_3; replace hx267_4 := cl HB.out hx267_4; replace hx267_5 := cl HB.out hx267_5; have HR267_3 := aM hi267_3; have HC267_3 := aM hl267_3; have HR267_4 := aM hi267_4; have HC267_4 := aM hl267_4; clear hi267_3 hl267_3 hi267_4 hl267_4; replace p267 := eq_true p267; replace q267 := eq_true q267
      try go_wp2_with (first | ((with_reducible refine gate_dst (N := 12) rfl ?_); refine bx 12 #[.int .i64 0, .int .i64 0, .int .i64 0, .slice none 0 0, .slice none 0 0, .int .i64 0] 100 ?_; intro gb268 hg w30 hbox hb; have BK268 := aM hbox; have IG1 := wn (gz hg HB.out); have IG2 := wn (gz hg HW.out); replace HB := aM (bj HB.out hb); replace HW := aM (bj HW.out hb); clear hb hbox hg; obtain ⟨hcz31_0, hcz31_1, hcz31_2, hcz31_3, hcz31_4, hcz31_5, hfz31_0, hfz31_1, hfz31_2, hfz31_3, hfz31_4, hfz31_5⟩ := cf6 BK268.out) | (refine gL (some 37) Try.func90 #[.agg #[.slice A267_3 ((rd_T100 l0 x11_1).f3.f0).length c267_3, .slice A267_4 ((rd_T100 l0 x11_1).f3.f1).length c267_4, .int .i64 ((rd_T100 l0 x11_1).f3.f2)], .slice A2 x2_1.length c2] ?_; (with_reducible refine (spec_FrmInto.calls k1 _ _ ((rd_T100 l0 x11_1).f3.f0) _ _ ((rd_T100 l0 x11_1).f3.f1) ((rd_T100 l0 x11_1).f3.f2) _ _ x2_1 t275 t278 t281 _ (by exact Kd.C_below HR267_3.out (by exact jB HB.out)) HC267_3.out (by exact Kd.C_below HR267_4.out (by exact jB HB.out)) HC267_4.out (by exact Kd.C_below HP2.out (by exact jB HW.out)) HL2.out A16.out).mono ?_); rintro e w33 ⟨v276, v279, rfl, ho0, ho1, hb⟩; refine ⟨_, rfl, ?_⟩; have HO277 := aM (Kd.R_mono (ok' := fun _ => True) ho0 (fun _ _ => trivial)); have HO280 := aM (Kd.R_mono (ok' := fun _ => True) ho1 (fun _ _ => trivial)); replace BK268 := aM (blk_below (g := gb268) (o := .cells #[.int .i64 ((rd_T100 l0 x11_1).f0), .int .i64 ((rd_T100 l0 x11_1).f1), .int .i64 ((rd_T100 l0 x11_1).f2), .slice A267_3 ((rd_T100 l0 x11_1).f3.f0).length c267_3, .slice A267_4 ((rd_T100 l0 x11_1).f3.f1).length c267_4, .int .i64 ((rd_T100 l0 x11_1).f3.f2)] 100 (0, 0)) (by exact p6 (lK BK268.out)) hb); replace HB := aM (bj HB.out hb); replace HW := aM (bj HW.out hb); clear hb ho0 ho1) | ((with_reducible refine gate_dst (N := 13) rfl ?_); refine bx 13 #[.slice none 0 0, .slice none 0 0, .int .i64 0] 34 ?_; intro gb282 hg w34 hbox hb; replace HO277 := aM (rb HO277.out hb); replace HO280 := aM (rb HO280.out hb); have BK282 := aM hbox; have IG3 := wn (gz hg HB.out); have IG4 := wn (gz hg HW.out); replace HB := aM (bj HB.out hb); replace HW := aM (bj HW.out hb); have NB1 := aM ((neL hg (lK BK268.out) : gb268 ≠ gb282)); have NB2 := aM ((neG hg (lK BK268.out) : gb282 ≠ gb268)); replace BK268 := aM (bb BK268.out hb); clear hb hbox hg; obtain ⟨Ao35, co35, rfl⟩ := Kd.R_slice HO277.out; have hnb36 := NB2.out; have hnc36 := NB1.out; obtain ⟨hcz37_0, hcz37_1, hcz37_2, hfz37_0, hfz37_1, hfz37_2⟩ := cf3 BK282.out; obtain ⟨Ao38, co38, rfl⟩ := Kd.R_slice HO280.out; obtain ⟨hcz39_0, hcz39_1, hcz39_2, hcz39_3, hcz39_4, hcz39_5, hfz39_0, hfz39_1, hfz39_2, hfz39_3, hfz39_4, hfz39_5⟩ := cf6 BK268.out))
      have n2_ := aM (R3 (w := w34) (x := (.slice Ao35 t275.length co35)) (y := (.slice Ao38 t278.length co38)) (z := (.int .i64 t281)) (lR HO277.out) (lK BK282.out)); have n3_ := aM (R3 (w := w34) (x := (.slice Ao35 t275.length co35)) (y := (.slice Ao38 t278.length co38)) (z := (.int .i64 t281)) (lR HO280.out) (lK BK282.out)); have n4_ := aM (f3 (w := w34) (x := (.slice Ao35 t275.length co35)) (y := (.slice Ao38 t278.length co38)) (z := (.int .i64 t281)) (lK BK268.out) NB1.out); have n5_ := aM (p3 (w := w34) (x := (.slice Ao35 t275.length co35)) (y := (.slice Ao38 t278.length co38)) (z := (.int .i64 t281)) (lK BK282.out)); have n6_ : Aside0 (Below w.heap.size w (((w34.setCell ⟨gb282, 0, none⟩ (.slice Ao35 t275.length co35)).setCell ⟨gb282, 1, none⟩ (.slice Ao38 t278.length co38)).setCell ⟨gb282, 2, none⟩ (.int .i64 t281))) := ⟨by exact jB HB.out⟩
      have n7_ : Aside0 (Below wr.heap.size wr (((w34.setCell ⟨gb282, 0, none⟩ (.slice Ao35 t275.length co35)).setCell ⟨gb282, 1, none⟩ (.slice Ao38 t278.length co38)).setCell ⟨gb282, 2, none⟩ (.int .i64 t281))) := ⟨by exact jB HW.out⟩
      clear HO277 HO280 BK268 BK282 HB HW; generalize (((w34.setCell ⟨gb282, 0, none⟩ (.slice Ao35 t275.length co35)).setCell ⟨gb282, 1, none⟩ (.slice Ao38 t278.length co38)).setCell ⟨gb282, 2, none⟩ (.int .i64 t281)) = w41 at n2_ n3_ n4_ n5_ n6_ n7_ ⊢
      have HO277 := n2_; have HO280 := n3_; have BK268 := n4_; have BK282 := n5_; have HB := n6_; replace HR0 := aM (Kd.C_below HR0.out n6_.out); replace HR3 := aM (Kd.C_below HR3.out n6_.out); replace HP2 := aM (Kd.C_below HP2.out n7_.out); replace HP4 := aM (Kd.C_below HP4.out n7_.out); replace HV2 := aM (Kd.V_below HV2.out n7_.out); replace HV4 := aM (Kd.V_below HV4.out n7_.out); clear n2_ n3_ n4_ n5_ n6_ n7_
      refine start_ (n := 14) (S := fun w' => w'.cell? ⟨gb282, 0, none⟩ = some (.slice Ao35 t275.length co35) ∧ w'.cell? ⟨gb282, 1, none⟩ = some (.slice Ao38 t278.length co38) ∧ w'.cell? ⟨gb282, 2, none⟩ = some (.int .i64 t281)) (ds := []) #[false, false, false, false, false, false, false, false, false, false, false, false, false, false] (by kernel_rfl) rfl rfl (cz3 (kD BK282.out)) (fun hHeld => ?_); refine with_tabW spec_l3Walk.tab11 spec_l3Walk.bits11 (fun HT_ HW_ => ?_)
      have HF : Aside0 (Below w41.heap.size w41 w41.drew) := ⟨xd (xr _)⟩
      generalize w41.drew = w42 at HF hHeld ⊢
      refine pu 0 (some 47) HT_.out ?_; refine pu 1 (some 48) HT_.out ?_; refine pu 2 (some 49) HT_.out ?_; refine pu 3 (some 50) HT_.out ?_; refine pu 5 (some 52) HT_.out ?_; refine pu 10 (some 57) HT_.out ?_; refine tk 7 (some 54) HT_.out HW_.out hHeld ?_
      refine join_ (σ := Value × Value × Value) 4 #[true, true, true, true, true, true, true, true, true, false, true, false, false, false] (fun s_ => [(51, s_.1), (53, s_.2.1), (55, s_.2.2)]) (fun s_ w' => (w'.cell? ⟨gb282, 0, none⟩ = some (.slice Ao35 t275.length co35) ∧ w'.cell? ⟨gb282, 1, none⟩ = some (.slice Ao38 t278.length co38) ∧ w'.cell? ⟨gb282, 2, none⟩ = some (.int .i64 t281)) ∧ Kd.V k34 34 w' w41.heap.size (fun k_ => some k_ ≠ s_.2.1.ownBlock) s_.1 t283 ∧ Kd.N k34 34 w' w41.heap.size (fun _ => True) s_.2.1 t286 ∧ Kd.N k34 34 w' w41.heap.size (fun k_ => some k_ ≠ s_.2.1.ownBlock) s_.2.2 y289 ∧ Below w41.heap.size w41 w') ?_ ?_
      rotate_left
      ·intro hCont
       refine tW 4 8 (some 51) (some 55) HT_.out (fun K hK => ?_) (fun K hK => ?_)
       ·skip
        refine gO Try.func89 #[.slice A2 x2_1.length c2] ?_; with_reducible refine (spec_l3Copy.calls k1 _ _ x2_1 t283 _ (by exact Kd.C_below HP2.out HF.out) HL2.out A18.out).mono ?_
        rintro e w43 ⟨v284, rfl, ho0, hb⟩; refine ⟨_, rfl, ?_⟩; have HO285 := aM (Kd.S_V ho0 (base' := w41.heap.size)); replace HF := aM (below_step HF.out hb); clear ho0 hb; refine hK.out _ _ (cz3 (blk_below BK282.out HF.out)) (fun hHeld => ?_); clear hK K; refine nm (some 51) ?_; refine tW 6 8 (some 53) (some 55) HT_.out (fun K hK => ?_) (fun K hK => ?_)
        ·skip
         refine gO Try.func89 #[.slice A3 l3.length c3] ?_; with_reducible refine (spec_l3Copy.calls k1 _ _ l3 t286 _ (by exact Kd.C_below HR3.out HF.out) HC3.out A19.out).mono ?_
         rintro e w44 ⟨v287, rfl, ho0, hb⟩; refine ⟨_, rfl, ?_⟩; replace HO285 := aM (Kd.V_mono (Kd.V_elder' HO285.out (Kd.N_base (Kd.S_N ho0)) hb) (fun _ hk => hk.2)); have HO288 := aM (Kd.N_lower (Kd.S_N ho0) (bz HF.out)); replace HF := aM (below_step HF.out hb); clear ho0 hb; refine hK.out _ _ (cz3 (blk_below BK282.out HF.out)) (fun hHeld => ?_); clear hK K; refine nm (some 53) ?_; refine oN 8 (some 55) HT_.out (fun K hK => ?_); refine Kd.N_lit_step k34 _ 34 ?hg (N' := 55) ?hd (xs := ([(⟨t275, t278, t281⟩ : S34)] : List (S34))) (inner := [.slice Ao35 t275.length co35, .slice Ao38 t278.length co38, .int .i64 t281]) (ok := (fun k_ => some k_ ≠ v287.ownBlock)) (okp := (fun k_ => some k_ ≠ v287.ownBlock)) ?hr ?hp (fun _ hk => hk) ((show ∀ k_, w44.heap.size ≤ k_ → (fun k_ => some k_ ≠ v287.ownBlock) k_ from fun k_ hk => Kd.fresh' (Kd.N_lt HO288.out) k_ hk) _ (Nat.le_refl _)) (Below.refl _ _) (Nat.le_refl _) (by simp) ?_; (case hd => rfl); (case hg => rfl); (case hr => first | (go_simp; done) | (go_simp; rfl)); (case hp => exact Reps.c3 (k34_mkR' _ _ _ (Kd.R_mono (Kd.R_apart' (Kd.R_below HO277.out HF.out) (Kd.N_typed HO288.out) (by decide)) (fun _ hk => hk.2)) (Kd.R_mono (Kd.R_apart' (Kd.R_below HO280.out HF.out) (Kd.N_typed HO288.out) (by decide)) (fun _ hk => hk.2))) (Reps.none _ _))
         intro v290 w45 ho3 hb hg_ hnew_; clear hg_ hnew_; rw [← Ny289.out] at ho3; have HO291 := aM (Kd.N_lower ho3 (bz HF.out)); replace HO285 := aM (Kd.V_below HO285.out hb); replace HO288 := aM (Kd.N_below HO288.out hb); replace HF := aM (below_step HF.out hb); clear ho3 hb; refine hK.out _ _ (cz3 (blk_below BK282.out HF.out)) (fun hHeld => ?_); clear hK K; refine nm (some 55) ?_; exact nj (hCont (v284, v287, v290) _ ⟨hHeld, HO285.out, HO288.out, HO291.out, HF.out⟩)
        ·skip
         refine Kd.N_lit_step k34 _ 34 ?hg (N' := 55) ?hd (xs := ([(⟨t275, t278, t281⟩ : S34)] : List (S34))) (inner := [.slice Ao35 t275.length co35, .slice Ao38 t278.length co38, .int .i64 t281]) (ok := (fun _ => True)) (okp := (fun _ => True)) ?hr ?hp (fun _ hk => hk) ((show ∀ k_, w43.heap.size ≤ k_ → (fun _ => True) k_ from fun _ _ => trivial) _ (Nat.le_refl _)) (Below.refl _ _) (Nat.le_refl _) (by simp) ?_; (case hd => rfl); (case hg => rfl); (case hr => first | (go_simp; done) | (go_simp; rfl)); (case hp => exact Reps.c3 (k34_mkR' _ _ _ (Kd.R_below HO277.out HF.out) (Kd.R_below HO280.out HF.out)) (Reps.none _ _))
         intro v290 w45 ho3 hb hg_ hnew_; clear hg_ hnew_; rw [← Ny289.out] at ho3; have HO291 := aM (Kd.N_lower ho3 (bz HF.out)); replace HO285 := aM (Kd.V_below HO285.out hb); replace HF := aM (below_step HF.out hb); clear ho3 hb; refine hK.out _ _ (cz3 (blk_below BK282.out HF.out)) (fun hHeld => ?_); clear hK K; refine nm (some 55) ?_; refine oN 6 (some 53) HT_.out (fun K hK => ?_); refine gO Try.func89 #[.slice A3 l3.length c3] ?_; with_reducible refine (spec_l3Copy.calls k1 _ _ l3 t286 _ (by exact Kd.C_below HR3.out HF.out) HC3.out A19.out).mono ?_
         rintro e w44 ⟨v287, rfl, ho0, hb⟩; refine ⟨_, rfl, ?_⟩; replace HO285 := aM (Kd.V_mono (Kd.V_elder' HO285.out (Kd.N_base (Kd.S_N ho0)) hb) (fun _ hk => hk.2)); replace HO291 := aM (Kd.N_mono (Kd.N_elder' HO291.out (Kd.N_base (Kd.S_N ho0)) hb) (fun _ hk => hk.2)); have HO288 := aM (Kd.N_lower (Kd.S_N ho0) (bz HF.out)); replace HF := aM (below_step HF.out hb); clear ho0 hb; refine hK.out _ _ (cz3 (blk_below BK282.out HF.out)) (fun hHeld => ?_); clear hK K; refine nm (some 53) ?_; exact nj (hCont (v284, v287, v290) _ ⟨hHeld, HO285.out, HO288.out, HO291.out, HF.out⟩)
       ·skip
        refine Kd.N_lit_step k34 _ 34 ?hg (N' := 55) ?hd (xs := ([(⟨t275, t278, t281⟩ : S34)] : List (S34))) (inner := [.slice Ao35 t275.length co35, .slice Ao38 t278.length co38, .int .i64 t281]) (ok := (fun _ => True)) (okp := (fun _ => True)) ?hr ?hp (fun _ hk => hk) ((show ∀ k_, w42.heap.size ≤ k_ → (fun _ => True) k_ from fun _ _ => trivial) _ (Nat.le_refl _)) (Below.refl _ _) (Nat.le_refl _) (by simp) ?_; (case hd => rfl); (case hg => rfl); (case hr => first | (go_simp; done) | (go_simp; rfl)); (case hp => exact Reps.c3 (k34_mkR' _ _ _ (Kd.R_below HO277.out HF.out) (Kd.R_below HO280.out HF.out)) (Reps.none _ _))
        intro v290 w45 ho3 hb hg_ hnew_; clear hg_ hnew_; rw [← Ny289.out] at ho3; have HO291 := aM (Kd.N_lower ho3 (bz HF.out)); replace HF := aM (below_step HF.out hb); clear ho3 hb; refine hK.out _ _ (cz3 (blk_below BK282.out HF.out)) (fun hHeld => ?_); clear hK K; refine nm (some 55) ?_; refine oN 4 (some 51) HT_.out (fun K hK => ?_); refine gO Try.func89 #[.slice A2 x2_1.length c2] ?_; with_reducible refine (spec_l3Copy.calls k1 _ _ x2_1 t283 _ (by exact Kd.C_below HP2.out HF.out) HL2.out A18.out).mono ?_
        rintro e w43 ⟨v284, rfl, ho0, hb⟩; refine ⟨_, rfl, ?_⟩; replace HO291 := aM (Kd.N_below HO291.out hb); have HO285 := aM (Kd.S_V ho0 (base' := w41.heap.size)); replace HF := aM (below_step HF.out hb); clear ho0 hb; refine hK.out _ _ (cz3 (blk_below BK282.out HF.out)) (fun hHeld => ?_); clear hK K; refine nm (some 51) ?_; refine oN 6 (some 53) HT_.out (fun K hK => ?_); refine gO Try.func89 #[.slice A3 l3.length c3] ?_; with_reducible refine (spec_l3Copy.calls k1 _ _ l3 t286 _ (by exact Kd.C_below HR3.out HF.out) HC3.out A19.out).mono ?_
        rintro e w44 ⟨v287, rfl, ho0, hb⟩; refine ⟨_, rfl, ?_⟩; replace HO285 := aM (Kd.V_mono (Kd.V_elder' HO285.out (Kd.N_base (Kd.S_N ho0)) hb) (fun _ hk => hk.2)); replace HO291 := aM (Kd.N_mono (Kd.N_elder' HO291.out (Kd.N_base (Kd.S_N ho0)) hb) (fun _ hk => hk.2)); have HO288 := aM (Kd.N_lower (Kd.S_N ho0) (bz HF.out)); replace HF := aM (below_step HF.out hb); clear ho0 hb; refine hK.out _ _ (cz3 (blk_below BK282.out HF.out)) (fun hHeld => ?_); clear hK K; refine nm (some 53) ?_; exact nj (hCont (v284, v287, v290) _ ⟨hHeld, HO285.out, HO288.out, HO291.out, HF.out⟩)
      rintro ⟨v284, v287, v290⟩ w47 ⟨hHeld, h0_, h1_, h2_, h3_⟩
      have HO285 := aM h0_; have HO288 := aM h1_; have HO291 := aM h2_; replace HF := aM h3_; clear h0_ h1_ h2_ h3_; obtain ⟨Ao49, co49, rfl⟩ := Kd.N_slice HO291.out
      refine np ?_; refine oN 9 (some 56) HT_.out (fun K hK => ?_); refine Kd.N_append_rows_step k34 (w0 := w41) w41.heap.size (by rfl) (.tmp 53) (.tmp 55) 23 34 (.agg #[(.slice none 0 0), (.slice none 0 0), (.int .i64 0)]) 56 rfl Try.underlying23 info34 rfl (by decide) (by omega) v287 t286 y289 _ _ _ (fun _ => True) (fun k_ => (fun _ => True) k_ ∧ some k_ ≠ v287.ownBlock) rfl rfl ?aO ?aR (fun _ hk => hk) ?aF ?aB ?aS ?aL ?_
      (case aR => exact Kd.N_F (Kd.N_mono HO291.out (fun _ hk => ⟨trivial, hk⟩)))
      (case aB => exact HF.out)
      (case aF => exact (fun _ _ => trivial))
      (case aO => exact HO288.out)
      (case aS => exact (bz HF.out))
      (case aL => have := LMc20.out; omega)
      intro v293 w48 ho3 hb hg hat; rw [← Ny292.out] at ho3
      replace HO285 := aM (Kd.V_grown HO285.out hg (fun _ hk => hk)); have HO294 := aM (Kd.N_V ho3 (base' := w41.heap.size)); replace HF := aM hb; clear HO288 HO291 ho3 hb hg hat; refine hK.out _ _ (cz3 (blk_below BK282.out HF.out)) (fun hHeld => ?_); clear hK K; refine nm (some 56) ?_; refine oN 11 (some 58) HT_.out (fun K hK => ?_); refine gO Try.func89 #[.slice A4 x4_1.length c4] ?_; with_reducible refine (spec_l3Copy.calls k1 _ _ x4_1 t295 _ (by exact Kd.C_below HP4.out HF.out) HL4.out A21.out).mono ?_
      rintro e w50 ⟨v296, rfl, ho0, hb⟩; refine ⟨_, rfl, ?_⟩; replace HO285 := aM (Kd.V_below HO285.out hb); replace HO294 := aM (Kd.V_below HO294.out hb); have HO297 := aM (Kd.S_V ho0 (base' := w41.heap.size)); replace HF := aM (below_step HF.out hb); clear ho0 hb; refine hK.out _ _ (cz3 (blk_below BK282.out HF.out)) (fun hHeld => ?_); clear hK K; refine nm (some 58) ?_; obtain ⟨Ao51, co51, rfl⟩ := Kd.V_slice HO285.out; obtain ⟨Ao52, co52, rfl⟩ := Kd.V_slice HO294.out; obtain ⟨Ao53, co53, rfl⟩ := Kd.V_slice HO297.out; refine oN 12 (some 59) HT_.out (fun K hK => ?_); refine gO Try.func76 #[.slice (some ad267) l0.length c0, .int .i64 (wrap64 (x11_1 + 1)), .slice Ao51 t283.length co51, .slice Ao52 y292.length co52, .slice Ao53 t295.length co53] ?_; with_reducible refine (ih k1 (by have := HK1.out; omega) _ _ l0 (wrap64 (x11_1 + 1)) _ _ t283 _ _ y292 _ _ t295 t298 _ ?s1 HC0.out ?s2 ?s3 ?s4 ?s5 A22.out).mono ?_
      (case s1 => exact Kd.C_below HR0.out HF.out)
      (case s2 => exact Kd.V_mono HO285.out (fun _ _ => trivial))
      (case s3 => exact (Kd.V_reads' HO294.out).2.2)
      (case s4 => exact (Kd.V_reads' HO294.out).2.1)
      (case s5 => exact Kd.V_mono HO297.out (fun _ _ => trivial))
      rintro e w54 ⟨v299, rfl, ho3, hb⟩; refine ⟨_, rfl, ?_⟩; have HO300 := aM (Kd.R_mono (ok' := fun k_ => w41.heap.size ≤ k_) (Kd.R_lower ho3 (bz HF.out)) (fun _ hk => Nat.le_trans (bz HF.out) hk)); replace HF := aM (below_step HF.out hb); clear ho3 hb; refine hK.out _ _ (cz3 (blk_below BK282.out HF.out)) (fun hHeld => ?_); clear hK K; refine nm (some 59) ?_; refine pu 13 (some 14) HT_.out ?_; refine done_ (done_of HT_.out (by kernel_rfl)) ?_
      try go_wp2
      clear hHeld HT_ HW_; replace HR0 := aM (Kd.C_below HR0.out HF.out); replace HR3 := aM (Kd.C_below HR3.out HF.out); replace HP2 := aM (Kd.C_below HP2.out HF.out); replace HP4 := aM (Kd.C_below HP4.out HF.out); replace HO277 := aM (Kd.R_below HO277.out HF.out); replace HO280 := aM (Kd.R_below HO280.out HF.out); replace BK268 := aM (blk_below BK268.out HF.out); replace BK282 := aM (blk_below BK282.out HF.out); replace HO300 := aM (Kd.R_mono (ok' := fun k_ => w.heap.size ≤ k_) (Kd.R_lower HO300.out (below_size HB.out)) (fun _ hk => Nat.le_trans (below_size HB.out) hk)); replace HB := aM (below_step HB.out HF.out); clear HF HO285 HO294 HO297
      refine start_ (n := 18) (S := fun w' => w'.cell? ⟨gb268, 0, none⟩ = some (.int .i64 ((rd_T100 l0 x11_1).f0)) ∧ w'.cell? ⟨gb268, 1, none⟩ = some (.int .i64 ((rd_T100 l0 x11_1).f1)) ∧ w'.cell? ⟨gb268, 2, none⟩ = some (.int .i64 ((rd_T100 l0 x11_1).f2)) ∧ w'.cell? ⟨gb268, 3, none⟩ = some (.slice A267_3 ((rd_T100 l0 x11_1).f3.f0).length c267_3) ∧ w'.cell? ⟨gb268, 4, none⟩ = some (.slice A267_4 ((rd_T100 l0 x11_1).f3.f1).length c267_4) ∧ w'.cell? ⟨gb268, 5, none⟩ = some (.int .i64 ((rd_T100 l0 x11_1).f3.f2)) ∧ w'.cell? ⟨gb282, 0, none⟩ = some (.slice Ao35 t275.length co35) ∧ w'.cell? ⟨gb282, 1, none⟩ = some (.slice Ao38 t278.length co38) ∧ w'.cell? ⟨gb282, 2, none⟩ = some (.int .i64 t281)) (ds := []) #[false, false, false, false, false, false, false, false, false, false, false, false, false, false, false, false, false, false] (by kernel_rfl) rfl rfl ⟨(blk_cell (kD BK268.out) 0).trans rfl, (blk_cell (kD BK268.out) 1).trans rfl, (blk_cell (kD BK268.out) 2).trans rfl, (blk_cell (kD BK268.out) 3).trans rfl, (blk_cell (kD BK268.out) 4).trans rfl, (blk_cell (kD BK268.out) 5).trans rfl, (blk_cell (kD BK282.out) 0).trans rfl, (blk_cell (kD BK282.out) 1).trans rfl, (blk_cell (kD BK282.out) 2).trans rfl⟩ (fun hHeld => ?_); refine with_tabW spec_l3Walk.tab12 spec_l3Walk.bits12 (fun HT_ HW_ => ?_)
      have HF : Aside0 (Below w54.heap.size w54 w54.drew) := ⟨xd (xr _)⟩
      generalize w54.drew = w55 at HF hHeld ⊢
      refine pu 0 (some 60) HT_.out ?_; refine pu 1 (some 61) HT_.out ?_; refine pu 2 (some 62) HT_.out ?_; refine pu 3 (some 63) HT_.out ?_; refine pu 6 (some 66) HT_.out ?_; refine pu 8 (some 68) HT_.out ?_; refine pu 14 (some 74) HT_.out ?_; refine tk 4 (some 64) HT_.out HW_.out hHeld ?_; refine pu 5 (some 65) HT_.out ?_; refine tk 10 (some 70) HT_.out HW_.out hHeld ?_; refine oN 7 (some 67) HT_.out (fun K hK => ?_); refine gO Try.func89 #[.slice A2 x2_1.length c2] ?_; with_reducible refine (spec_l3Copy.calls k1 _ _ x2_1 t301 _ (by exact Kd.C_below HP2.out HF.out) HL2.out A23.out).mono ?_
      rintro e w56 ⟨v302, rfl, ho0, hb⟩; refine ⟨_, rfl, ?_⟩; have HO303 := aM (Kd.S_V ho0 (base' := w41.heap.size)); replace HF := aM (below_step HF.out hb); clear ho0 hb; refine hK.out _ _ ⟨(blk_cell (blk_below BK268.out HF.out) 0).trans rfl, (blk_cell (blk_below BK268.out HF.out) 1).trans rfl, (blk_cell (blk_below BK268.out HF.out) 2).trans rfl, (blk_cell (blk_below BK268.out HF.out) 3).trans rfl, (blk_cell (blk_below BK268.out HF.out) 4).trans rfl, (blk_cell (blk_below BK268.out HF.out) 5).trans rfl, (blk_cell (blk_below BK282.out HF.out) 0).trans rfl, (blk_cell (blk_below BK282.out HF.out) 1).trans rfl, (blk_cell (blk_below BK282.out HF.out) 2).trans rfl⟩ (fun hHeld => ?_); clear hK K; refine nm (some 67) ?_; refine oN 9 (some 69) HT_.out (fun K hK => ?_); refine gO Try.func89 #[.slice A3 l3.length c3] ?_; with_reducible refine (spec_l3Copy.calls k1 _ _ l3 t304 _ (by exact Kd.C_below HR3.out HF.out) HC3.out A24.out).mono ?_
      rintro e w57 ⟨v305, rfl, ho0, hb⟩; refine ⟨_, rfl, ?_⟩; replace HO303 := aM (Kd.V_mono (Kd.V_elder' HO303.out (Kd.N_base (Kd.S_N ho0)) hb) (fun _ hk => hk.2)); have HO306 := aM (Kd.N_lower (Kd.S_N ho0) (bz HF.out)); replace HF := aM (below_step HF.out hb); clear ho0 hb; refine hK.out _ _ ⟨(blk_cell (blk_below BK268.out HF.out) 0).trans rfl, (blk_cell (blk_below BK268.out HF.out) 1).trans rfl, (blk_cell (blk_below BK268.out HF.out) 2).trans rfl, (blk_cell (blk_below BK268.out HF.out) 3).trans rfl, (blk_cell (blk_below BK268.out HF.out) 4).trans rfl, (blk_cell (blk_below BK268.out HF.out) 5).trans rfl, (blk_cell (blk_below BK282.out HF.out) 0).trans rfl, (blk_cell (blk_below BK282.out HF.out) 1).trans rfl, (blk_cell (blk_below BK282.out HF.out) 2).trans rfl⟩ (fun hHeld => ?_); clear hK K; refine nm (some 69) ?_; refine oN 11 (some 71) HT_.out (fun K hK => ?_); refine gO Try.func91 #[.agg #[.slice Ao35 t275.length co35, .slice Ao38 t278.length co38, .int .i64 t281]] ?_; with_reducible refine (spec_l3Minus.calls k1 _ _ t275 _ _ t278 t281 t307 t310 t313 _ (by exact (Kd.R_reads' (Kd.R_below HO277.out HF.out)).2.2) (by exact (Kd.R_reads' HO277.out).2.1) (by exact (Kd.R_reads' (Kd.R_below HO280.out HF.out)).2.2) (by exact (Kd.R_reads' HO280.out).2.1) A25.out).mono ?_
      rintro e w58 ⟨v308, v311, rfl, ho0, ho1, hb⟩; refine ⟨_, rfl, ?_⟩; replace HO303 := aM (Kd.V_below HO303.out hb); replace HO306 := aM (Kd.N_below HO306.out hb); have HO309 := aM (Kd.R_mono (Kd.R_apart' ho0 (Kd.N_typed HO306.out) (by decide)) (ok' := fun k_ => some k_ ≠ v305.ownBlock) (fun _ hk => hk.2)); have HO312 := aM (Kd.R_mono (Kd.R_apart' ho1 (Kd.N_typed HO306.out) (by decide)) (ok' := fun k_ => some k_ ≠ v305.ownBlock) (fun _ hk => hk.2)); replace HF := aM (below_step HF.out hb); clear ho0 ho1 hb; obtain ⟨Ao59, co59, rfl⟩ := Kd.R_slice HO309.out; obtain ⟨Ao60, co60, rfl⟩ := Kd.R_slice HO312.out; refine hK.out _ _ ⟨(blk_cell (blk_below BK268.out HF.out) 0).trans rfl, (blk_cell (blk_below BK268.out HF.out) 1).trans rfl, (blk_cell (blk_below BK268.out HF.out) 2).trans rfl, (blk_cell (blk_below BK268.out HF.out) 3).trans rfl, (blk_cell (blk_below BK268.out HF.out) 4).trans rfl, (blk_cell (blk_below BK268.out HF.out) 5).trans rfl, (blk_cell (blk_below BK282.out HF.out) 0).trans rfl, (blk_cell (blk_below BK282.out HF.out) 1).trans rfl, (blk_cell (blk_below BK282.out HF.out) 2).trans rfl⟩ (fun hHeld => ?_); clear hK K; refine nm (some 71) ?_; refine oN 12 (some 72) HT_.out (fun K hK => ?_); refine Kd.N_lit_step k34 _ 34 ?hg (N' := 72) ?hd (xs := ([(⟨t307, t310, t313⟩ : S34)] : List (S34))) (inner := [.slice Ao59 t307.length co59, .slice Ao60 t310.length co60, .int .i64 t313]) (ok := (fun k_ => some k_ ≠ v305.ownBlock)) (okp := (fun k_ => some k_ ≠ v305.ownBlock)) ?hr ?hp (fun _ hk => hk) ((show ∀ k_, w58.heap.size ≤ k_ → (fun k_ => some k_ ≠ v305.ownBlock) k_ from fun k_ hk => Kd.fresh' (Kd.N_lt HO306.out) k_ hk) _ (Nat.le_refl _)) (Below.refl _ _) (Nat.le_refl _) (by simp) ?_; (case hd => rfl); (case hg => rfl); (case hr => first | (go_simp; done) | (go_simp; rfl)); (case hp => exact Reps.c3 (k34_mkR' _ _ _ (HO309.out) (HO312.out)) (Reps.none _ _))
      intro v315 w61 ho3 hb hg_ hnew_; clear hg_ hnew_; rw [← Ny314.out] at ho3; have HO316 := aM (Kd.N_lower ho3 (bz HF.out)); replace HO303 := aM (Kd.V_below HO303.out hb); replace HO306 := aM (Kd.N_below HO306.out hb); replace HF := aM (below_step HF.out hb); clear ho3 hb HO309 HO312; refine hK.out _ _ ⟨(blk_cell (blk_below BK268.out HF.out) 0).trans rfl, (blk_cell (blk_below BK268.out HF.out) 1).trans rfl, (blk_cell (blk_below BK268.out HF.out) 2).trans rfl, (blk_cell (blk_below BK268.out HF.out) 3).trans rfl, (blk_cell (blk_below BK268.out HF.out) 4).trans rfl, (blk_cell (blk_below BK268.out HF.out) 5).trans rfl, (blk_cell (blk_below BK282.out HF.out) 0).trans rfl, (blk_cell (blk_below BK282.out HF.out) 1).trans rfl, (blk_cell (blk_below BK282.out HF.out) 2).trans rfl⟩ (fun hHeld => ?_); clear hK K; refine nm (some 72) ?_; obtain ⟨Ao64, co64, rfl⟩ := Kd.N_slice HO316.out; refine oN 13 (some 73) HT_.out (fun K hK => ?_); refine Kd.N_append_rows_step k34 (w0 := w54) w54.heap.size (by rfl) (.tmp 69) (.tmp 72) 23 34 (.agg #[(.slice none 0 0), (.slice none 0 0), (.int .i64 0)]) 56 rfl Try.underlying23 info34 rfl (by decide) (by omega) v305 t304 y314 _ _ _ (fun _ => True) (fun k_ => (fun _ => True) k_ ∧ some k_ ≠ v305.ownBlock) rfl rfl ?aO ?aR (fun _ hk => hk) ?aF ?aB ?aS ?aL ?_
      (case aR => exact Kd.N_F (Kd.N_mono HO316.out (fun _ hk => ⟨trivial, hk⟩)))
      (case aB => exact HF.out)
      (case aF => exact (fun _ _ => trivial))
      (case aO => exact HO306.out)
      (case aS => exact (bz HF.out))
      (case aL => have := LMc26.out; omega)
      intro v318 w63 ho3 hb hg hat; rw [← Ny317.out] at ho3
      replace HO303 := aM (Kd.V_grown HO303.out hg (fun _ hk => hk)); have HO319 := aM (Kd.N_V ho3 (base' := w41.heap.size)); replace HF := aM hb; clear HO306 HO316 ho3 hb hg hat; refine hK.out _ _ ⟨(blk_cell (blk_below BK268.out HF.out) 0).trans rfl, (blk_cell (blk_below BK268.out HF.out) 1).trans rfl, (blk_cell (blk_below BK268.out HF.out) 2).trans rfl, (blk_cell (blk_below BK268.out HF.out) 3).trans rfl, (blk_cell (blk_below BK268.out HF.out) 4).trans rfl, (blk_cell (blk_below BK268.out HF.out) 5).trans rfl, (blk_cell (blk_below BK282.out HF.out) 0).trans rfl, (blk_cell (blk_below BK282.out HF.out) 1).trans rfl, (blk_cell (blk_below BK282.out HF.out) 2).trans rfl⟩ (fun hHeld => ?_); clear hK K; refine nm (some 73) ?_; refine oN 15 (some 75) HT_.out (fun K hK => ?_); refine gO Try.func89 #[.slice A4 x4_1.length c4] ?_; with_reducible refine (spec_l3Copy.calls k1 _ _ x4_1 t320 _ (by exact Kd.C_below HP4.out HF.out) HL4.out A27.out).mono ?_
      rintro e w65 ⟨v321, rfl, ho0, hb⟩; refine ⟨_, rfl, ?_⟩; replace HO303 := aM (Kd.V_below HO303.out hb); replace HO319 := aM (Kd.V_below HO319.out hb); have HO322 := aM (Kd.S_V ho0 (base' := w41.heap.size)); replace HF := aM (below_step HF.out hb); clear ho0 hb; refine hK.out _ _ ⟨(blk_cell (blk_below BK268.out HF.out) 0).trans rfl, (blk_cell (blk_below BK268.out HF.out) 1).trans rfl, (blk_cell (blk_below BK268.out HF.out) 2).trans rfl, (blk_cell (blk_below BK268.out HF.out) 3).trans rfl, (blk_cell (blk_below BK268.out HF.out) 4).trans rfl, (blk_cell (blk_below BK268.out HF.out) 5).trans rfl, (blk_cell (blk_below BK282.out HF.out) 0).trans rfl, (blk_cell (blk_below BK282.out HF.out) 1).trans rfl, (blk_cell (blk_below BK282.out HF.out) 2).trans rfl⟩ (fun hHeld => ?_); clear hK K; refine nm (some 75) ?_; obtain ⟨Ao66, co66, rfl⟩ := Kd.V_slice HO303.out; obtain ⟨Ao67, co67, rfl⟩ := Kd.V_slice HO319.out; obtain ⟨Ao68, co68, rfl⟩ := Kd.V_slice HO322.out; refine oN 16 (some 76) HT_.out (fun K hK => ?_); refine gO Try.func76 #[.slice (some ad267) l0.length c0, .int .i64 (wrap64 ((wrap64 (x11_1 + 1)) + ((rd_T100 l0 x11_1).f2))), .slice Ao66 t301.length co66, .slice Ao67 y317.length co67, .slice Ao68 t320.length co68] ?_; with_reducible refine (ih k1 (by have := HK1.out; omega) _ _ l0 (wrap64 ((wrap64 (x11_1 + 1)) + ((rd_T100 l0 x11_1).f2))) _ _ t301 _ _ y317 _ _ t320 t323 _ ?s1 HC0.out ?s2 ?s3 ?s4 ?s5 A28.out).mono ?_
      (case s1 => exact Kd.C_below HR0.out HF.out)
      (case s2 => exact Kd.V_mono HO303.out (fun _ _ => trivial))
      (case s3 => exact (Kd.V_reads' HO319.out).2.2)
      (case s4 => exact (Kd.V_reads' HO319.out).2.1)
      (case s5 => exact Kd.V_mono HO322.out (fun _ _ => trivial))
      rintro e w69 ⟨v324, rfl, ho3, hb⟩; refine ⟨_, rfl, ?_⟩; have HO325 := aM (Kd.R_mono (ok' := fun k_ => w.heap.size ≤ k_ ∧ some k_ ≠ v299.ownBlock) (Kd.R_lower ho3 (Nat.le_trans (below_size HB.out) (bz HF.out))) (fun k_ hk => ⟨Nat.le_trans (Nat.le_trans (below_size HB.out) (bz HF.out)) hk, Kd.fresh' (Kd.R_lt (Kd.R_below HO300.out HF.out)) k_ hk⟩)); replace HF := aM (below_step HF.out hb); clear ho3 hb; refine hK.out _ _ ⟨(blk_cell (blk_below BK268.out HF.out) 0).trans rfl, (blk_cell (blk_below BK268.out HF.out) 1).trans rfl, (blk_cell (blk_below BK268.out HF.out) 2).trans rfl, (blk_cell (blk_below BK268.out HF.out) 3).trans rfl, (blk_cell (blk_below BK268.out HF.out) 4).trans rfl, (blk_cell (blk_below BK268.out HF.out) 5).trans rfl, (blk_cell (blk_below BK282.out HF.out) 0).trans rfl, (blk_cell (blk_below BK282.out HF.out) 1).trans rfl, (blk_cell (blk_below BK282.out HF.out) 2).trans rfl⟩ (fun hHeld => ?_); clear hK K; refine nm (some 76) ?_; refine pu 17 (some 15) HT_.out ?_; refine done_ (done_of HT_.out (by kernel_rfl)) ?_
      replace HO300 := aM (Kd.R_below HO300.out HF.out); replace HB := aM (below_step HB.out HF.out); obtain ⟨Ao71, co71, rfl⟩ := Kd.R_slice HO325.out
      go_wp2_with (first | ((with_reducible refine gate_builtin (b := .append) (xs := #[.tmp 77, .tmp 78]) rfl ?_); at_builtin; refine Kd.R_append_rows k25s (Rr := k25s.M _ w.heap.size (fun k_ => w.heap.size ≤ k_ ∧ some k_ ≠ v299.ownBlock)) (w0 := w) w.heap.size rfl (.tmp 77) (.tmp 78) 80 25 (.agg #[(.slice none 0 0), (.slice none 0 0), (.slice none 0 0), (.bool false)]) 80 rfl Try.underlying80 info25 rfl (by decide) (by omega) v299 t298 t323 _ _ _ (fun k_ => w.heap.size ≤ k_) (fun k_ => (fun k_ => w.heap.size ≤ k_) k_ ∧ some k_ ≠ v299.ownBlock) rfl rfl ?aO ?aR (fun _ _ h_ => h_) (fun _ hk => hk) ?aF ?aB ?aS ?aL ?_; (case aR => exact R_M25 (by exact lR HO325.out)); (case aB => exact (by exact jB HB.out)); (case aF => exact (fun k_ hk => Nat.le_trans (bz HB.out) hk)); (case aO => exact (by exact lR HO300.out)); (case aS => exact (bz HB.out)); (case aL => have := LMc29.out; omega); intro v327 w71 ho3 hb hg hat; rw [← Ny326.out] at ho3; have HO328 := aM ho3; replace HB := aM hb; clear ho3 hb hg hat))
      go_ret
      exact ⟨_, er, by exact lR HO328.out, by exact jB HB.out⟩
     ·rw [if_neg c17] at H
      have c17b0 := beq_eq_false_iff_ne.mpr c17
      have c17b1 := bne_iff_ne.mpr c17
      by_cases c72 : ((rd_T100 l0 x11_1).f0) = 2
      ·rw [if_pos c72] at H
       have c72b0 := beq_iff_eq.mpr c72
       have c72b1 := bne_eq_false_iff_eq.mpr c72
       clear c72
       obtain ⟨t329, A73, H⟩ := bS H
       try dsimp only at H
       obtain ⟨c74, H⟩ := iD H; obtain ⟨c75, H⟩ := iD H; obtain ⟨⟨t333, t336, t339⟩, A76, H⟩ := bS H
       try dsimp only at H
       obtain ⟨y340, Ny340⟩ : ∃ y_ : List (S34), Aside0 (y_ = (t329.set (((rd_T100 l0 x11_1).f1) : Int).toNat (⟨t333, t336, t339⟩ : S34))) := ⟨_, ⟨rfl⟩⟩
       try rw [← Ny340.out] at H
       try dsimp only [Option.bind_some] at H
       have H' := aM H
       clear H;
       have p267 : 0 ≤ (x11_1 : Int) := od; have q267 : x11_1 < (l0.length : Int) := od; obtain ⟨ad267, A267_3, c267_3, A267_4, c267_4, e267, hx267_0, hx267_1, hx267_2, hx267_3, hx267_4, hx267_5, hl267_3, hi267_3, hl267_4, hi267_4⟩ := at_T100 HR0.out x11_1 p267 q267
       cases e267; replace hx267_0 := cl HB.out hx267_0; replace hx267_1 := cl HB.out hx267_1; replace hx267_2 := cl HB.out hx267_2; replace hx267_3 := cl HB.out hx267_3; replace hx267_4 := cl HB.out hx267_4; replace hx267_5 := cl HB.out hx267_5; have HR267_3 := aM hi267_3; have HC267_3 := aM hl267_3; have HR267_4 := aM hi267_4; have HC267_4 := aM hl267_4; clear hi267_3 hl267_3 hi267_4 hl267_4; replace p267 := eq_true p267; replace q267 := eq_true q267
       try go_wp2_with (first | ((with_reducible refine gate_dst (N := 12) rfl ?_); refine bx 12 #[.int .i64 0, .int .i64 0, .int .i64 0, .slice none 0 0, .slice none 0 0, .int .i64 0] 100 ?_; intro gb268 hg w30 hbox hb; have BK268 := aM hbox; have IG1 := wn (gz hg HB.out); have IG2 := wn (gz hg HW.out); replace HB := aM (bj HB.out hb); replace HW := aM (bj HW.out hb); clear hb hbox hg; obtain ⟨hcz31_0, hcz31_1, hcz31_2, hcz31_3, hcz31_4, hcz31_5, hfz31_0, hfz31_1, hfz31_2, hfz31_3, hfz31_4, hfz31_5⟩ := cf6 BK268.out) | (refine gL (some 37) Try.func90 #[.agg #[.slice A267_3 ((rd_T100 l0 x11_1).f3.f0).length c267_3, .slice A267_4 ((rd_T100 l0 x11_1).f3.f1).length c267_4, .int .i64 ((rd_T100 l0 x11_1).f3.f2)], .slice A2 x2_1.length c2] ?_; (with_reducible refine (spec_FrmInto.calls k1 _ _ ((rd_T100 l0 x11_1).f3.f0) _ _ ((rd_T100 l0 x11_1).f3.f1) ((rd_T100 l0 x11_1).f3.f2) _ _ x2_1 t275 t278 t281 _ (by exact Kd.C_below HR267_3.out (by exact jB HB.out)) HC267_3.out (by exact Kd.C_below HR267_4.out (by exact jB HB.out)) HC267_4.out (by exact Kd.C_below HP2.out (by exact jB HW.out)) HL2.out A16.out).mono ?_); rintro e w33 ⟨v276, v279, rfl, ho0, ho1, hb⟩; refine ⟨_, rfl, ?_⟩; have HO277 := aM (Kd.R_mono (ok' := fun _ => True) ho0 (fun _ _ => trivial)); have HO280 := aM (Kd.R_mono (ok' := fun _ => True) ho1 (fun _ _ => trivial)); replace BK268 := aM (blk_below (g := gb268) (o := .cells #[.int .i64 ((rd_T100 l0 x11_1).f0), .int .i64 ((rd_T100 l0 x11_1).f1), .int .i64 ((rd_T100 l0 x11_1).f2), .slice A267_3 ((rd_T100 l0 x11_1).f3.f0).length c267_3, .slice A267_4 ((rd_T100 l0 x11_1).f3.f1).length c267_4, .int .i64 ((rd_T100 l0 x11_1).f3.f2)] 100 (0, 0)) (by exact p6 (lK BK268.out)) hb); replace HB := aM (bj HB.out hb); replace HW := aM (bj HW.out hb); clear hb ho0 ho1) | ((with_reducible refine gate_dst (N := 13) rfl ?_); refine bx 13 #[.slice none 0 0, .slice none 0 0, .int .i64 0] 34 ?_; intro gb282 hg w34 hbox hb; replace HO277 := aM (rb HO277.out hb); replace HO280 := aM (rb HO280.out hb); have BK282 := aM hbox; have IG3 := wn (gz hg HB.out); have IG4 := wn (gz hg HW.out); replace HB := aM (bj HB.out hb); replace HW := aM (bj HW.out hb); have NB1 := aM ((neL hg (lK BK268.out) : gb268 ≠ gb282)); have NB2 := aM ((neG hg (lK BK268.out) : gb282 ≠ gb268)); replace BK268 := aM (bb BK268.out hb); clear hb hbox hg; obtain ⟨Ao35, co35, rfl⟩ := Kd.R_slice HO277.out; have hnb36 := NB2.out; have hnc36 := NB1.out; obtain ⟨hcz37_0, hcz37_1, hcz37_2, hfz37_0, hfz37_1, hfz37_2⟩ := cf3 BK282.out; obtain ⟨Ao38, co38, rfl⟩ := Kd.R_slice HO280.out; obtain ⟨hcz39_0, hcz39_1, hcz39_2, hcz39_3, hcz39_4, hcz39_5, hfz39_0, hfz39_1, hfz39_2, hfz39_3, hfz39_4, hfz39_5⟩ := cf6 BK268.out) | (refine gL (some 83) Try.func89 #[.slice A2 x2_1.length c2] ?_; (with_reducible refine (spec_l3Copy.calls k1 _ _ x2_1 t329 _ (by exact Kd.C_below HP2.out (by exact jB HW.out)) HL2.out A73.out).mono ?_); rintro e w88 ⟨v330, rfl, ho0, hb⟩; refine ⟨_, rfl, ?_⟩; have HO331 := aM (Kd.N_lower (Kd.S_N ho0) (bz HW.out)); have n2_ := aM (R3 (w := w34) (x := (.slice Ao35 t275.length co35)) (y := (.slice Ao38 t278.length co38)) (z := (.int .i64 t281)) (lR HO277.out) (lK BK282.out)); have n3_ := aM (R3 (w := w34) (x := (.slice Ao35 t275.length co35)) (y := (.slice Ao38 t278.length co38)) (z := (.int .i64 t281)) (lR HO280.out) (lK BK282.out)); replace HO277 := aM (rb n2_.out hb); replace HO280 := aM (rb n3_.out hb); replace BK268 := aM (bb (f3 (w := w34) (x := (.slice Ao35 t275.length co35)) (y := (.slice Ao38 t278.length co38)) (z := (.int .i64 t281)) (lK BK268.out) NB1.out) hb); replace BK282 := aM (bb (p3 (w := w34) (x := (.slice Ao35 t275.length co35)) (y := (.slice Ao38 t278.length co38)) (z := (.int .i64 t281)) (lK BK282.out)) hb); replace HB := aM (bj HB.out hb); replace HW := aM (bj HW.out hb); clear ho0 hb n2_ n3_))
       replace HO277 := aM (Kd.R_drew HO277.out); replace HO280 := aM (Kd.R_drew HO280.out); replace HO331 := aM (Kd.N_drew HO331.out); replace BK268 := aM (kD BK268.out); replace BK282 := aM (kD BK282.out); replace HB := aM (below_drew1 HB.out); replace HW := aM (below_drew1 HW.out); obtain ⟨Ao90, co90, rfl⟩ := Kd.N_slice HO331.out
       have p332 : 0 ≤ (((rd_T100 l0 x11_1).f1) : Int) := od; have q332 : ((rd_T100 l0 x11_1).f1) < (t329.length : Int) := od; obtain ⟨ad332, A332_0, c332_0, A332_1, c332_1, e332, hx332_0, hx332_1, hx332_2, hl332_0, hi332_0, hl332_1, hi332_1⟩ := at_T34 (Kd.N_reads' HO331.out).2.2 ((rd_T100 l0 x11_1).f1) p332 q332
       cases e332; have HR332_0 := aM hi332_0; have HC332_0 := aM hl332_0; have HR332_1 := aM hi332_1; have HC332_1 := aM hl332_1; clear hi332_0 hl332_0 hi332_1 hl332_1; replace p332 := eq_true p332; replace q332 := eq_true q332; refine start_ (n := 12) (S := fun w' => w'.cell? ⟨gb268, 0, none⟩ = some (.int .i64 ((rd_T100 l0 x11_1).f0)) ∧ w'.cell? ⟨gb268, 1, none⟩ = some (.int .i64 ((rd_T100 l0 x11_1).f1)) ∧ w'.cell? ⟨gb268, 2, none⟩ = some (.int .i64 ((rd_T100 l0 x11_1).f2)) ∧ w'.cell? ⟨gb268, 3, none⟩ = some (.slice A267_3 ((rd_T100 l0 x11_1).f3.f0).length c267_3) ∧ w'.cell? ⟨gb268, 4, none⟩ = some (.slice A267_4 ((rd_T100 l0 x11_1).f3.f1).length c267_4) ∧ w'.cell? ⟨gb268, 5, none⟩ = some (.int .i64 ((rd_T100 l0 x11_1).f3.f2)) ∧ w'.cell? ⟨gb282, 0, none⟩ = some (.slice Ao35 t275.length co35) ∧ w'.cell? ⟨gb282, 1, none⟩ = some (.slice Ao38 t278.length co38) ∧ w'.cell? ⟨gb282, 2, none⟩ = some (.int .i64 t281) ∧ w'.cell? (ad332.add (((((rd_T100 l0 x11_1).f1))).toNat * 3)) = some (.slice A332_0 ((rd_T34 t329 ((rd_T100 l0 x11_1).f1)).f0).length c332_0) ∧ w'.cell? ⟨(ad332.add (((((rd_T100 l0 x11_1).f1))).toNat * 3)).block, (ad332.add (((((rd_T100 l0 x11_1).f1))).toNat * 3)).off + 1, none⟩ = some (.slice A332_1 ((rd_T34 t329 ((rd_T100 l0 x11_1).f1)).f1).length c332_1) ∧ w'.cell? ⟨(ad332.add (((((rd_T100 l0 x11_1).f1))).toNat * 3)).block, (ad332.add (((((rd_T100 l0 x11_1).f1))).toNat * 3)).off + 2, none⟩ = some (.int .i64 ((rd_T34 t329 ((rd_T100 l0 x11_1).f1)).f2))) (ds := [11]) #[false, false, false, false, false, false, false, false, false, false, false, false] (by kernel_rfl) rfl rfl ⟨(blk_cell (BK268.out) 0).trans rfl, (blk_cell (BK268.out) 1).trans rfl, (blk_cell (BK268.out) 2).trans rfl, (blk_cell (BK268.out) 3).trans rfl, (blk_cell (BK268.out) 4).trans rfl, (blk_cell (BK268.out) 5).trans rfl, (blk_cell (BK282.out) 0).trans rfl, (blk_cell (BK282.out) 1).trans rfl, (blk_cell (BK282.out) 2).trans rfl, hx332_0, hx332_1, hx332_2⟩ (fun hHeld => ?_); refine with_tabW spec_l3Walk.tab16 spec_l3Walk.bits16 (fun HT_ HW_ => ?_)
       generalize w88.drew = w89 at HO277 HO280 HO331 BK268 BK282 HB HW HR332_0 HR332_1 hx332_0 hx332_1 hx332_2 hHeld ⊢
       refine pu 0 (some 84) HT_.out ?_; refine pu 1 (some 85) HT_.out ?_; refine pu 3 (some 87) HT_.out ?_; refine pu 4 (some 88) HT_.out ?_; refine tk 2 (some 86) HT_.out HW_.out hHeld ?_; refine tk 5 (some 89) HT_.out HW_.out hHeld ?_; refine pu 6 (some 90) HT_.out ?_; refine tk 7 (some 91) HT_.out HW_.out hHeld ?_; refine tk 8 (some 92) HT_.out HW_.out hHeld ?_; refine oN 9 (some 93) HT_.out (fun K hK => ?_); refine gO Try.func92 #[.agg #[.slice A332_0 ((rd_T34 t329 ((rd_T100 l0 x11_1).f1)).f0).length c332_0, .slice A332_1 ((rd_T34 t329 ((rd_T100 l0 x11_1).f1)).f1).length c332_1, .int .i64 ((rd_T34 t329 ((rd_T100 l0 x11_1).f1)).f2)], .agg #[.slice Ao35 t275.length co35, .slice Ao38 t278.length co38, .int .i64 t281], .int .i64 1] ?_; with_reducible refine (spec_l1Sum.calls k1 _ _ ((rd_T34 t329 ((rd_T100 l0 x11_1).f1)).f0) _ _ ((rd_T34 t329 ((rd_T100 l0 x11_1).f1)).f1) ((rd_T34 t329 ((rd_T100 l0 x11_1).f1)).f2) _ _ t275 _ _ t278 t281 1 t333 t336 t339 _ HR332_0.out HC332_0.out HR332_1.out HC332_1.out (by exact (Kd.R_reads' HO277.out).2.2) (by exact (Kd.R_reads' HO277.out).2.1) (by exact (Kd.R_reads' HO280.out).2.2) (by exact (Kd.R_reads' HO280.out).2.1) A76.out).mono ?_
       rintro e w91 ⟨v334, v337, rfl, ho0, ho1, hb⟩; have HS9_ := cb hb hHeld.2.2.2.2.2.2.2.2.2.1; have HS10_ := cb hb hHeld.2.2.2.2.2.2.2.2.2.2.1; have HS11_ := cb hb hHeld.2.2.2.2.2.2.2.2.2.2.2; refine ⟨_, rfl, ?_⟩; replace HO331 := aM (Kd.N_below HO331.out hb); have HO335 := aM (Kd.R_mono ho0 (ok' := fun _ => True) (fun _ _ => trivial)); have HO338 := aM (Kd.R_mono ho1 (ok' := fun _ => True) (fun _ _ => trivial)); replace BK268 := aM (blk_below BK268.out hb); replace BK282 := aM (blk_below BK282.out hb); replace HB := aM (bj HB.out hb); replace HW := aM (bj HW.out hb); clear hb ho0 ho1; obtain ⟨Aq1_, cq1_, rfl⟩ := Kd.R_slice HO335.out; obtain ⟨Aq2_, cq2_, rfl⟩ := Kd.R_slice HO338.out
       have p77 : 0 ≤ (((rd_T100 l0 x11_1).f1) : Int) := od; have q77 : (((rd_T100 l0 x11_1).f1) : Int) < ((t329.length : Int) : Int) := od; obtain ⟨go77, co77, eo77, gb77, gl77, cl77, HG77⟩ := Kd.N_form HO331.out (by omega)
       (first | cases eo77 | (injection eo77 with ea_ en_ ec_; (first | subst ea_ | (injection ea_ with ea_; subst ea_)); subst ec_; clear en_))
       have IG5 := wn gb77; have IG6 := wn (Nat.le_trans HS.out gb77)
       have GG77 := aM HG77; clear gb77 gl77 HG77
       (first | simp only [add_plain] at hx332_0 | skip)
       (first | simp only [add_plain] at hx332_1 | skip)
       (first | simp only [add_plain] at hx332_2 | skip)
       obtain ⟨ce77, hcl77, hM77, hcc77, hfr77⟩ := Kd.N_elem HO331.out z34 (((rd_T100 l0 x11_1).f1) : Int) p77 q77
       obtain ⟨ua77_0, uc77_0, ua77_1, uc77_1, rfl, ul77_0, ge77_0, ul77_1, ge77_1⟩ := k34_openF hM77
       have hx77_0 : World.cell? _ ⟨go77, (((rd_T100 l0 x11_1).f1) : Int).toNat * 3, none⟩ = some (.slice ua77_0 ((rd_T34 t329 ((rd_T100 l0 x11_1).f1)).f0).length uc77_0) := hcc77 0 _ rfl
       have hx77_1 : World.cell? _ ⟨go77, (((rd_T100 l0 x11_1).f1) : Int).toNat * 3 + 1, none⟩ = some (.slice ua77_1 ((rd_T34 t329 ((rd_T100 l0 x11_1).f1)).f1).length uc77_1) := hcc77 1 _ rfl
       have hx77_2 : World.cell? _ ⟨go77, (((rd_T100 l0 x11_1).f1) : Int).toNat * 3 + 2, none⟩ = some (.int .i64 ((rd_T34 t329 ((rd_T100 l0 x11_1).f1)).f2)) := hcc77 2 _ rfl
       have hf77_0 : World.frozen? _ ⟨go77, (((rd_T100 l0 x11_1).f1) : Int).toNat * 3, none⟩ = false := hfr77 0
       have hf77_1 : World.frozen? _ ⟨go77, (((rd_T100 l0 x11_1).f1) : Int).toNat * 3 + 1, none⟩ = false := hfr77 1
       have hf77_2 : World.frozen? _ ⟨go77, (((rd_T100 l0 x11_1).f1) : Int).toNat * 3 + 2, none⟩ = false := hfr77 2
       have HP92 := (Kd.N_seg HO331.out (((rd_T100 l0 x11_1).f1) : Int) p77 q77 (seg := [(.slice Aq1_ t333.length cq1_), (.slice Aq2_ t336.length cq2_), .int .i64 t339]) (j := 0) hcl77 hcc77 (show 3 ≤ 3 from by decide) (x' := (⟨t333, t336, t339⟩ : S34)) (k34_mkR' _ _ (⟨t333, t336, t339⟩ : S34) (Kd.R_mono (ok' := (fun k_ => (fun _ => True) k_ ∧ k_ ≠ go77)) (Kd.R_apart' HO335.out (Kd.N_typed HO331.out) (by decide)) (fun k_ hk => ⟨trivial, fun e_ => hk.2 (by rw [e_]; rfl)⟩)) (Kd.R_mono (ok' := (fun k_ => (fun _ => True) k_ ∧ k_ ≠ go77)) (Kd.R_apart' HO338.out (Kd.N_typed HO331.out) (by decide)) (fun k_ hk => ⟨trivial, fun e_ => hk.2 (by rw [e_]; rfl)⟩))) (fun _ hk => hk)).1
       rw [← Ny340.out] at HP92
       have HQ92 := aM HP92; clear hcl77 hcc77 hfr77 HP92; (try clear hM77)
       replace p77 := eq_true p77; replace q77 := eq_true q77
       refine hK.out _ _ ⟨(blk_cell (BK268.out) 0).trans rfl, (blk_cell (BK268.out) 1).trans rfl, (blk_cell (BK268.out) 2).trans rfl, (blk_cell (BK268.out) 3).trans rfl, (blk_cell (BK268.out) 4).trans rfl, (blk_cell (BK268.out) 5).trans rfl, (blk_cell (BK282.out) 0).trans rfl, (blk_cell (BK282.out) 1).trans rfl, (blk_cell (BK282.out) 2).trans rfl, HS9_, HS10_, HS11_⟩ (fun hHeld => ?_); clear hK K; refine nm (some 93) ?_; refine pu 10 (some 94) HT_.out ?_; refine last_ (i := 11) (N := none) #[true, true, true, true, true, true, true, true, true, true, true, true] rfl rfl (one_of HT_.out (by kernel_rfl)) (by decide) (fun K hK => ?_)
       refine skip_ (w1 := ?_) (by rfl) rfl ?_ ?_
       rotate_left
       ·go_simp
        rfl
       refine hK.out _ _ ?_
       clear hK K; refine done_ (done_of HT_.out (by kernel_rfl)) ?_
       try go_wp2
       go_roundg k1
       case measure => have := HK1.out; omega
       case rel => exact ⟨(y340), (x4_1), (wrap64 (x11_1 + 1)), sr, H', ⟨by have := HK1.out; omega⟩, ⟨Kd.N_V (by exact HQ92.out)⟩, ⟨Kd.V_below (W := wr) HV4.out (by exact jB HW.out)⟩, ⟨by exact jB HB.out⟩⟩
      ·rw [if_neg c72] at H
       have c72b0 := beq_eq_false_iff_ne.mpr c72
       have c72b1 := bne_iff_ne.mpr c72
       obtain ⟨t341, A93, H⟩ := bS H
       try dsimp only at H
       obtain ⟨y344, hy344⟩ : ∃ y_ : List (S34), y_ = (([(⟨t275, t278, t281⟩ : S34)] : List (S34))) := ⟨_, rfl⟩
       replace H : (if t341.length + y344.length < 2513169434916 then (spec_l3Walk.l0 k1 l0 x2_1 l3 (t341 ++ y344) (wrap64 (x11_1 + 1))) else (none)) = some r := by first | (rw [hy344]; exact H) | exact H
       have Ny344 := aM hy344; clear hy344; obtain ⟨c94, H⟩ := iN H; have LMc94 := aM c94; clear c94; obtain ⟨y347, Ny347⟩ : ∃ y_ : List (S34), Aside0 (y_ = (t341 ++ y344)) := ⟨_, ⟨rfl⟩⟩
       try rw [← Ny347.out] at H
       try dsimp only [Option.bind_some] at H
       have H' := aM H
       clear H;
       have p267 : 0 ≤ (x11_1 : Int) := od; have q267 : x11_1 < (l0.length : Int) := od; obtain ⟨ad267, A267_3, c267_3, A267_4, c267_4, e267, hx267_0, hx267_1, hx267_2, hx267_3, hx267_4, hx267_5, hl267_3, hi267_3, hl267_4, hi267_4⟩ := at_T100 HR0.out x11_1 p267 q267
       cases e267; replace hx267_0 := cl HB.out hx267_0; replace hx267_1 := cl HB.out hx267_1; replace hx267_2 := cl HB.out hx267_2; replace hx267_3 := cl HB.out hx267_3; replace hx267_4 := cl HB.out hx267_4; replace hx267_5 := cl HB.out hx267_5; have HR267_3 := aM hi267_3; have HC267_3 := aM hl267_3; have HR267_4 := aM hi267_4; have HC267_4 := aM hl267_4; clear hi267_3 hl267_3 hi267_4 hl267_4; replace p267 := eq_true p267; replace q267 := eq_true q267
       try go_wp2_with (first | ((with_reducible refine gate_dst (N := 12) rfl ?_); refine bx 12 #[.int .i64 0, .int .i64 0, .int .i64 0, .slice none 0 0, .slice none 0 0, .int .i64 0] 100 ?_; intro gb268 hg w30 hbox hb; have BK268 := aM hbox; have IG1 := wn (gz hg HB.out); have IG2 := wn (gz hg HW.out); replace HB := aM (bj HB.out hb); replace HW := aM (bj HW.out hb); clear hb hbox hg; obtain ⟨hcz31_0, hcz31_1, hcz31_2, hcz31_3, hcz31_4, hcz31_5, hfz31_0, hfz31_1, hfz31_2, hfz31_3, hfz31_4, hfz31_5⟩ := cf6 BK268.out) | (refine gL (some 37) Try.func90 #[.agg #[.slice A267_3 ((rd_T100 l0 x11_1).f3.f0).length c267_3, .slice A267_4 ((rd_T100 l0 x11_1).f3.f1).length c267_4, .int .i64 ((rd_T100 l0 x11_1).f3.f2)], .slice A2 x2_1.length c2] ?_; (with_reducible refine (spec_FrmInto.calls k1 _ _ ((rd_T100 l0 x11_1).f3.f0) _ _ ((rd_T100 l0 x11_1).f3.f1) ((rd_T100 l0 x11_1).f3.f2) _ _ x2_1 t275 t278 t281 _ (by exact Kd.C_below HR267_3.out (by exact jB HB.out)) HC267_3.out (by exact Kd.C_below HR267_4.out (by exact jB HB.out)) HC267_4.out (by exact Kd.C_below HP2.out (by exact jB HW.out)) HL2.out A16.out).mono ?_); rintro e w33 ⟨v276, v279, rfl, ho0, ho1, hb⟩; refine ⟨_, rfl, ?_⟩; have HO277 := aM (Kd.R_mono (ok' := fun _ => True) ho0 (fun _ _ => trivial)); have HO280 := aM (Kd.R_mono (ok' := fun _ => True) ho1 (fun _ _ => trivial)); replace BK268 := aM (blk_below (g := gb268) (o := .cells #[.int .i64 ((rd_T100 l0 x11_1).f0), .int .i64 ((rd_T100 l0 x11_1).f1), .int .i64 ((rd_T100 l0 x11_1).f2), .slice A267_3 ((rd_T100 l0 x11_1).f3.f0).length c267_3, .slice A267_4 ((rd_T100 l0 x11_1).f3.f1).length c267_4, .int .i64 ((rd_T100 l0 x11_1).f3.f2)] 100 (0, 0)) (by exact p6 (lK BK268.out)) hb); replace HB := aM (bj HB.out hb); replace HW := aM (bj HW.out hb); clear hb ho0 ho1) | ((with_reducible refine gate_dst (N := 13) rfl ?_); refine bx 13 #[.slice none 0 0, .slice none 0 0, .int .i64 0] 34 ?_; intro gb282 hg w34 hbox hb; replace HO277 := aM (rb HO277.out hb); replace HO280 := aM (rb HO280.out hb); have BK282 := aM hbox; have IG3 := wn (gz hg HB.out); have IG4 := wn (gz hg HW.out); replace HB := aM (bj HB.out hb); replace HW := aM (bj HW.out hb); have NB1 := aM ((neL hg (lK BK268.out) : gb268 ≠ gb282)); have NB2 := aM ((neG hg (lK BK268.out) : gb282 ≠ gb268)); replace BK268 := aM (bb BK268.out hb); clear hb hbox hg; obtain ⟨Ao35, co35, rfl⟩ := Kd.R_slice HO277.out; have hnb36 := NB2.out; have hnc36 := NB1.out; obtain ⟨hcz37_0, hcz37_1, hcz37_2, hfz37_0, hfz37_1, hfz37_2⟩ := cf3 BK282.out; obtain ⟨Ao38, co38, rfl⟩ := Kd.R_slice HO280.out; obtain ⟨hcz39_0, hcz39_1, hcz39_2, hcz39_3, hcz39_4, hcz39_5, hfz39_0, hfz39_1, hfz39_2, hfz39_3, hfz39_4, hfz39_5⟩ := cf6 BK268.out))
       have n2_ := aM (R3 (w := w34) (x := (.slice Ao35 t275.length co35)) (y := (.slice Ao38 t278.length co38)) (z := (.int .i64 t281)) (lR HO277.out) (lK BK282.out)); have n3_ := aM (R3 (w := w34) (x := (.slice Ao35 t275.length co35)) (y := (.slice Ao38 t278.length co38)) (z := (.int .i64 t281)) (lR HO280.out) (lK BK282.out)); have n4_ := aM (f3 (w := w34) (x := (.slice Ao35 t275.length co35)) (y := (.slice Ao38 t278.length co38)) (z := (.int .i64 t281)) (lK BK268.out) NB1.out); have n5_ := aM (p3 (w := w34) (x := (.slice Ao35 t275.length co35)) (y := (.slice Ao38 t278.length co38)) (z := (.int .i64 t281)) (lK BK282.out)); have n6_ : Aside0 (Below w.heap.size w (((w34.setCell ⟨gb282, 0, none⟩ (.slice Ao35 t275.length co35)).setCell ⟨gb282, 1, none⟩ (.slice Ao38 t278.length co38)).setCell ⟨gb282, 2, none⟩ (.int .i64 t281))) := ⟨by exact jB HB.out⟩
       have n7_ : Aside0 (Below wr.heap.size wr (((w34.setCell ⟨gb282, 0, none⟩ (.slice Ao35 t275.length co35)).setCell ⟨gb282, 1, none⟩ (.slice Ao38 t278.length co38)).setCell ⟨gb282, 2, none⟩ (.int .i64 t281))) := ⟨by exact jB HW.out⟩
       clear HO277 HO280 BK268 BK282 HB HW; generalize (((w34.setCell ⟨gb282, 0, none⟩ (.slice Ao35 t275.length co35)).setCell ⟨gb282, 1, none⟩ (.slice Ao38 t278.length co38)).setCell ⟨gb282, 2, none⟩ (.int .i64 t281)) = w41 at n2_ n3_ n4_ n5_ n6_ n7_ ⊢
       have HO277 := n2_; have HO280 := n3_; have BK268 := n4_; have BK282 := n5_; have HB := n6_; replace HR0 := aM (Kd.C_below HR0.out n6_.out); replace HR3 := aM (Kd.C_below HR3.out n6_.out); replace HP2 := aM (Kd.C_below HP2.out n7_.out); replace HP4 := aM (Kd.C_below HP4.out n7_.out); replace HV2 := aM (Kd.V_below HV2.out n7_.out); replace HV4 := aM (Kd.V_below HV4.out n7_.out); clear n2_ n3_ n4_ n5_ n6_ n7_
       refine start_ (n := 6) (S := fun w' => w'.cell? ⟨gb282, 0, none⟩ = some (.slice Ao35 t275.length co35) ∧ w'.cell? ⟨gb282, 1, none⟩ = some (.slice Ao38 t278.length co38) ∧ w'.cell? ⟨gb282, 2, none⟩ = some (.int .i64 t281)) (ds := []) #[false, false, false, false, false, false] (by kernel_rfl) rfl rfl (cz3 (kD BK282.out)) (fun hHeld => ?_)
       have HF : Aside0 (Below w41.heap.size w41 w41.drew) := ⟨xd (xr _)⟩
       generalize w41.drew = w42 at HF hHeld ⊢
       refine pu 0 (some 40) rfl ?_; refine take_ (i := 2) (N := some 42) (v := ?_) (a' := ?_) #[true, false, true, false, false, false] rfl rfl (by kernel_rfl) (fun _ _ _ h => h) (Or.inl ⟨by rfl, ?_⟩) hHeld ?_ ?_
       rotate_left
       ·rintro w' ⟨s0, s1, s2⟩
        go_simp
        with_reducible rfl
       rotate_left
       ·simp only [Act.put, sA, s0, sS, i64_w, i32_w]
        rfl
       refine join_ (σ := Value × Value) 2 #[true, true, true, true, false, false] (fun s_ => [(41, s_.1), (43, s_.2)]) (fun s_ w' => (w'.cell? ⟨gb282, 0, none⟩ = some (.slice Ao35 t275.length co35) ∧ w'.cell? ⟨gb282, 1, none⟩ = some (.slice Ao38 t278.length co38) ∧ w'.cell? ⟨gb282, 2, none⟩ = some (.int .i64 t281)) ∧ Kd.N k34 34 w' w41.heap.size (fun _ => True) s_.1 t341 ∧ Kd.N k34 34 w' w41.heap.size (fun k_ => some k_ ≠ s_.1.ownBlock) s_.2 y344 ∧ Below w41.heap.size w41 w') ?_ ?_
       rotate_left
       ·intro hCont
        refine tW 1 3 (some 41) (some 43) rfl (fun K hK => ?_) (fun K hK => ?_)
        ·skip
         refine gO Try.func89 #[.slice A4 x4_1.length c4] ?_; with_reducible refine (spec_l3Copy.calls k1 _ _ x4_1 t341 _ (by exact Kd.C_below HP4.out HF.out) HL4.out A93.out).mono ?_
         rintro e w108 ⟨v342, rfl, ho0, hb⟩; refine ⟨_, rfl, ?_⟩; have HO343 := aM (Kd.N_lower (Kd.S_N ho0) (bz HF.out)); replace HF := aM (below_step HF.out hb); clear ho0 hb; refine hK.out _ _ (cz3 (blk_below BK282.out HF.out)) (fun hHeld => ?_); clear hK K; refine nm (some 41) ?_; refine oN 3 (some 43) rfl (fun K hK => ?_); refine Kd.N_lit_step k34 _ 34 ?hg (N' := 43) ?hd (xs := ([(⟨t275, t278, t281⟩ : S34)] : List (S34))) (inner := [.slice Ao35 t275.length co35, .slice Ao38 t278.length co38, .int .i64 t281]) (ok := (fun k_ => some k_ ≠ v342.ownBlock)) (okp := (fun k_ => some k_ ≠ v342.ownBlock)) ?hr ?hp (fun _ hk => hk) ((show ∀ k_, w108.heap.size ≤ k_ → (fun k_ => some k_ ≠ v342.ownBlock) k_ from fun k_ hk => Kd.fresh' (Kd.N_lt HO343.out) k_ hk) _ (Nat.le_refl _)) (Below.refl _ _) (Nat.le_refl _) (by simp) ?_; (case hd => rfl); (case hg => rfl); (case hr => first | (go_simp; done) | (go_simp; rfl)); (case hp => exact Reps.c3 (k34_mkR' _ _ _ (Kd.R_mono (Kd.R_apart' (Kd.R_below HO277.out HF.out) (Kd.N_typed HO343.out) (by decide)) (fun _ hk => hk.2)) (Kd.R_mono (Kd.R_apart' (Kd.R_below HO280.out HF.out) (Kd.N_typed HO343.out) (by decide)) (fun _ hk => hk.2))) (Reps.none _ _))
         intro v345 w109 ho3 hb hg_ hnew_; clear hg_ hnew_; rw [← Ny344.out] at ho3; have HO346 := aM (Kd.N_lower ho3 (bz HF.out)); replace HO343 := aM (Kd.N_below HO343.out hb); replace HF := aM (below_step HF.out hb); clear ho3 hb; refine hK.out _ _ (cz3 (blk_below BK282.out HF.out)) (fun hHeld => ?_); clear hK K; refine nm (some 43) ?_; exact nj (hCont (v342, v345) _ ⟨hHeld, HO343.out, HO346.out, HF.out⟩)
        ·skip
         refine Kd.N_lit_step k34 _ 34 ?hg (N' := 43) ?hd (xs := ([(⟨t275, t278, t281⟩ : S34)] : List (S34))) (inner := [.slice Ao35 t275.length co35, .slice Ao38 t278.length co38, .int .i64 t281]) (ok := (fun _ => True)) (okp := (fun _ => True)) ?hr ?hp (fun _ hk => hk) ((show ∀ k_, w42.heap.size ≤ k_ → (fun _ => True) k_ from fun _ _ => trivial) _ (Nat.le_refl _)) (Below.refl _ _) (Nat.le_refl _) (by simp) ?_; (case hd => rfl); (case hg => rfl); (case hr => first | (go_simp; done) | (go_simp; rfl)); (case hp => exact Reps.c3 (k34_mkR' _ _ _ (Kd.R_below HO277.out HF.out) (Kd.R_below HO280.out HF.out)) (Reps.none _ _))
         intro v345 w109 ho3 hb hg_ hnew_; clear hg_ hnew_; rw [← Ny344.out] at ho3; have HO346 := aM (Kd.N_lower ho3 (bz HF.out)); replace HF := aM (below_step HF.out hb); clear ho3 hb; refine hK.out _ _ (cz3 (blk_below BK282.out HF.out)) (fun hHeld => ?_); clear hK K; refine nm (some 43) ?_; refine oN 1 (some 41) rfl (fun K hK => ?_); refine gO Try.func89 #[.slice A4 x4_1.length c4] ?_; with_reducible refine (spec_l3Copy.calls k1 _ _ x4_1 t341 _ (by exact Kd.C_below HP4.out HF.out) HL4.out A93.out).mono ?_
         rintro e w108 ⟨v342, rfl, ho0, hb⟩; refine ⟨_, rfl, ?_⟩; replace HO346 := aM (Kd.N_mono (Kd.N_elder' HO346.out (Kd.N_base (Kd.S_N ho0)) hb) (fun _ hk => hk.2)); have HO343 := aM (Kd.N_lower (Kd.S_N ho0) (bz HF.out)); replace HF := aM (below_step HF.out hb); clear ho0 hb; refine hK.out _ _ (cz3 (blk_below BK282.out HF.out)) (fun hHeld => ?_); clear hK K; refine nm (some 41) ?_; exact nj (hCont (v342, v345) _ ⟨hHeld, HO343.out, HO346.out, HF.out⟩)
       rintro ⟨v342, v345⟩ w111 ⟨hHeld, h0_, h1_, h2_⟩
       have HO343 := aM h0_; have HO346 := aM h1_; replace HF := aM h2_; clear h0_ h1_ h2_; obtain ⟨Ao113, co113, rfl⟩ := Kd.N_slice HO346.out
       refine np ?_; refine oN 4 (some 44) rfl (fun K hK => ?_); refine Kd.N_append_rows_step k34 (w0 := w41) w41.heap.size (by rfl) (.tmp 41) (.tmp 43) 23 34 (.agg #[(.slice none 0 0), (.slice none 0 0), (.int .i64 0)]) 56 rfl Try.underlying23 info34 rfl (by decide) (by omega) v342 t341 y344 _ _ _ (fun _ => True) (fun k_ => (fun _ => True) k_ ∧ some k_ ≠ v342.ownBlock) rfl rfl ?aO ?aR (fun _ hk => hk) ?aF ?aB ?aS ?aL ?_
       (case aR => exact Kd.N_F (Kd.N_mono HO346.out (fun _ hk => ⟨trivial, hk⟩)))
       (case aB => exact HF.out)
       (case aF => exact (fun _ _ => trivial))
       (case aO => exact HO343.out)
       (case aS => exact (bz HF.out))
       (case aL => have := LMc94.out; omega)
       intro v348 w112 ho3 hb hg hat; rw [← Ny347.out] at ho3
       have HO349 := aM (Kd.N_V ho3 (base' := w.heap.size)); replace HF := aM hb; clear HO343 HO346 ho3 hb hg hat; refine hK.out _ _ (cz3 (blk_below BK282.out HF.out)) (fun hHeld => ?_); clear hK K; refine nm (some 44) ?_; refine pu 5 (some 4) rfl ?_; refine done_ (by kernel_rfl) ?_
       try go_wp2
       go_roundg k1
       case measure => have := HK1.out; omega
       case rel => exact ⟨(x2_1), (y347), (wrap64 (x11_1 + 1)), sr, H', ⟨by have := HK1.out; omega⟩, ⟨Kd.V_below HV2.out (by exact jB HF.out)⟩, ⟨lV HO349.out⟩, ⟨below_step HB.out (by exact jB HF.out)⟩⟩
   ·rw [if_neg c6] at H
    replace c6 := decide_eq_false c6; obtain ⟨⟨t254, t257, t260, t263⟩, A114, H⟩ := bS H
    try dsimp only at H
    obtain ⟨y264, Ny264⟩ : ∃ y_ : List (S25), Aside0 (y_ = ([(⟨t254, t257, t260, t263⟩ : S25)] : List (S25))) := ⟨_, ⟨rfl⟩⟩
    try rw [← Ny264.out] at H
    try dsimp only [Option.bind_some] at H
    obtain rfl := Option.some.inj H
    go_wp2_with (first | (refine gL (some 98) Try.func93 #[.slice A2 x2_1.length c2, .slice A3 l3.length c3, .slice A4 x4_1.length c4] ?_; (with_reducible refine (spec_l3Row.calls k1 _ _ x2_1 _ _ l3 _ _ x4_1 t254 t257 t260 t263 _ (by exact lC HP2.out) HL2.out (by exact lC <| (Kd.C_below HR3.out HB.out)) HC3.out (by exact lC HP4.out) HL4.out A114.out).mono ?_); rintro e w117 ⟨v255, v258, v261, rfl, ho0, ho1, ho2, hb⟩; refine ⟨_, rfl, ?_⟩; have HO256 := aM (Kd.S_mono (ok' := fun k_ => w.heap.size ≤ k_ ∧ some k_ ≠ v258.ownBlock ∧ some k_ ≠ v261.ownBlock) (Kd.S_lower (Kd.S_bound ho0) (bz HB.out)) (fun _ hk => ⟨Nat.le_trans (bz HB.out) hk.2.1, hk.1⟩)); have HO259 := aM (Kd.S_mono (ok' := fun k_ => w.heap.size ≤ k_ ∧ some k_ ≠ v255.ownBlock ∧ some k_ ≠ v261.ownBlock) (Kd.S_lower (Kd.S_bound ho1) (bz HB.out)) (fun _ hk => ⟨Nat.le_trans (bz HB.out) hk.2.1, hk.1⟩)); have HO262 := aM (Kd.S_mono (ok' := fun k_ => w.heap.size ≤ k_ ∧ some k_ ≠ v255.ownBlock ∧ some k_ ≠ v258.ownBlock) (Kd.S_lower (Kd.S_bound ho2) (bz HB.out)) (fun _ hk => ⟨Nat.le_trans (bz HB.out) hk.2.1, hk.1⟩)); replace HB := aM (bj HB.out hb); clear hb ho0 ho1 ho2; obtain ⟨Ao118, co118, rfl⟩ := Kd.S_slice HO256.out; obtain ⟨Ao119, co119, rfl⟩ := Kd.S_slice HO259.out; obtain ⟨Ao120, co120, rfl⟩ := Kd.S_slice HO262.out) | ((with_reducible refine gate_dst (N := 99) rfl ?_); refine Kd.R_lit k25s (w0 := w) w.heap.size 25 ?hg (N := 99) ?hd (xs := ([(⟨t254, t257, t260, t263⟩ : S25)] : List (S25))) (inner := [.slice Ao118 t254.length co118, .slice Ao119 t257.length co119, .slice Ao120 t260.length co120, .bool t263]) (ok := fun k_ => w.heap.size ≤ k_) (okp := fun k_ => w.heap.size ≤ k_) ?hr ?hp (fun _ hk => hk) ((show ∀ k_, w117.heap.size ≤ k_ → (fun k_ => w.heap.size ≤ k_) k_ from fun k_ hk => Nat.le_trans (bz HB.out) hk) _ (Nat.le_refl _)) (by exact jB HB.out) (bz HB.out) (by simp) ?_; (case hd => rfl); (case hg => rfl); (case hr => first | (go_simp; done) | (go_simp; rfl)); (case hp => exact (Reps.c4 (pm25 (x := (⟨t254, t257, t260, t263⟩ : S25)) HO256.out HO259.out HO262.out) (Reps.none _ _))); intro v265 w121 ho3 hb hg_ hnew_; clear hg_ hnew_; rw [← Ny264.out] at ho3; have HO266 := aM ho3; replace HB := aM hb; clear HO256 HO259 HO262 hb ho3))
    go_ret
    exact ⟨_, er, by exact lR HO266.out, by exact jB HB.out⟩
theorem spec_l3Walk.calls (k : Nat) : ∀ (A0 : Option Addr) (c0 : Nat) (l0 : List (S100)) (a1 : Int) (P2_ : Nat → Prop) (A2 : Option Addr) (c2 : Nat) (l2 : List (S34)) (A3 : Option Addr) (c3 : Nat) (l3 : List (S34)) (P4_ : Nat → Prop) (A4 : Option Addr) (c4 : Nat) (l4 : List (S34)) (r : List (S25)) (w : World) (hr0 : Kd.C k100 w A0 l0.length l0) (hc0 : l0.length ≤ c0) (hs2 : Kd.V k34 34 w w.heap.size (fun k_ => P2_ k_) (.slice A2 l2.length c2) l2) (hr3 : Kd.C k34 w A3 l3.length l3) (hc3 : l3.length ≤ c3) (hs4 : Kd.V k34 34 w w.heap.size (fun k_ => P4_ k_) (.slice A4 l4.length c4) l4) (h : spec_l3Walk.f k l0 a1 l2 l3 l4 = some r),
  Calls Try.prog 76 #[.slice A0 l0.length c0, .int .i64 a1, .slice A2 l2.length c2, .slice A3 l3.length c3, .slice A4 l4.length c4] w fun e w' => ∃ v0_ : Value, e = .returned (v0_) ∧ Kd.R k25s 25 w' w.heap.size (fun k_ => w.heap.size ≤ k_) v0_ r ∧ Below w.heap.size w w' := by
 intro A0 c0 l0 a1 P2_ A2 c2 l2 A3 c3 l3 P4_ A4 c4 l4 r w hr0 hc0 hs2 hr3 hc3 hs4 h
 refine (spec_l3Walk.callsC k A0 c0 l0 a1 A2 c2 l2 A3 c3 l3 A4 c4 l4 r w hr0 hc0 (Kd.V_mono hs2 (fun _ _ => trivial)) hr3 hc3 (Kd.V_mono hs4 (fun _ _ => trivial)) h).mono ?_
 rintro e w' ⟨v0_, he, hn, hb⟩
 exact ⟨v0_, he, hn, hb⟩
end Go.Proofs.Ytcpaplcnebdocaa.QFnRowFits
-- shorter
