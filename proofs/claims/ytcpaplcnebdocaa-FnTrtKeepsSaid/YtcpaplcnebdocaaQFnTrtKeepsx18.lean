/- Plain functions, and that the Go code computes them: written by a program of this session over the seat's translation; the conditions stand in each theorem. -/
import Derived.Test.YtcpaplcnebdocaaHW4
import Derived.Test.YtcpaplcnebdocaaQFnTrtKeepsx0
import Derived.Test.YtcpaplcnebdocaaQFnTrtKeepsx1
import Derived.Test.YtcpaplcnebdocaaQFnTrtKeepsx17
namespace Go.Proofs.Ytcpaplcnebdocaa.QFnTrtKeeps
open Go.RowKit Go.Proofs.YtcpaplcnebdocaaW.PrintWords Go.Proofs.YtcpaplcnebdocaaW.PrintLast Go.Proofs.YtcpaplcnebdocaaW.PrintMore Go.Proofs.Ytcpaplcnebdocaa.HWords
attribute [local go_sem] max2_int min2_int max_two min_two max_three min_three max_four min_four   -- for this text's walks alone
set_option maxRecDepth 100000
set_option linter.unusedVariables false
set_option linter.unusedSimpArgs false
/-! ### impl_TrtKeeps: function 21, by hand -/
def dot3 (p a : List Int) : Int := wrap64 (wrap64 (wrap64 (0 + wrap64 (rd p 0 * rd a 0)) + wrap64 (rd p 1 * rd a 1)) + wrap64 (rd p 2 * rd a 2))
theorem dot3_eq (p a : List Int) (hp : p.length = 3) (ha : a.length = 3) : impl_dot.f 4 p a = some (dot3 p a) := by
 have w1 : wrap64 (0 + 1) = 1 := by unfold wrap64; omega
 have w2 : wrap64 (1 + 1) = 2 := by unfold wrap64; omega
 have w3 : wrap64 (2 + 1) = 3 := by unfold wrap64; omega
 have q0 : (0 : Int) < 3 := by decide
 have q1 : (1 : Int) < 3 := by decide
 have q2 : (2 : Int) < 3 := by decide
 have q3 : ¬ ((3 : Int) < 3) := by decide
 have z1 : (0 : Int) ≤ 1 := by decide
 have z2 : (0 : Int) ≤ 2 := by decide
 unfold impl_dot.f dot3
 simp only [impl_dot.l0, hp, ha, w1, w2, w3, show ((3 : Nat) : Int) = 3 from rfl, q0, q1, q2, q3, z1, z2, Int.le_refl, if_true, if_false]
set_option maxHeartbeats 2000000 in
theorem keeps_pred (give : Int) (B1 B2 : Nat) (A3 : Option Addr) (c3 : Nat) (l3 : List Int) (h3 : l3.length = 3) (hc3 : l3.length ≤ c3) (W : World) (A : Option Addr) (c : Nat) (x : List Int) (hx : x.length = 3) (hc : x.length ≤ c) (hr : Kd.C (Kd.int .i64) W A x.length x)
  (hr3 : Kd.C (Kd.int .i64) W A3 l3.length l3) (hb1 : W.cell? ⟨B1, 0, none⟩ = some (.slice A3 l3.length c3)) (hb2 : W.cell? ⟨B2, 0, none⟩ = some (.int .i64 give)) :
  Calls Try.prog 53 (#[.slice A x.length c] ++ #[.pointer (some ⟨B1, 0, none⟩), .pointer (some ⟨B2, 0, none⟩)]) W fun e w' => e = .returned (.bool (!inB (dot3 x l3) (wrap64 (-give)) give)) ∧ Below W.heap.size W w' := by
 show Calls Try.prog 53 #[.slice A x.length c, .pointer (some ⟨B1, 0, none⟩), .pointer (some ⟨B2, 0, none⟩)] W _
 have HD := aM (fun (n : Nat) => impl_dot.calls 4 A c x A3 c3 l3 _ (W.drewN n) (Kd.C_drewN hr n) hc (Kd.C_drewN hr3 n) hc3 (dot3_eq x l3 hx h3)); have HI := aM (fun (n : Nat) => in_calls (dot3 x l3) (wrap64 (-give)) give (W.drewN n)); clear hr hr3 hx h3 hc hc3; generalize dot3 x l3 = d at HD HI ⊢
 generalize hbb : inB d (wrap64 (-give)) give = b at HI ⊢
 clear hbb; go_enter Try.func53, Try.ntmps53
 go_wp2
 go_quiet (first | (go_at_call 55; exact Calls.quiet_of ((HD.out _).mono fun _ _ h => ⟨h.1, h.2.out⟩)) | (go_at_call 54; exact Calls.quiet_of ((HI.out _).mono fun _ _ h => ⟨h.1, h.2.out⟩)))
 go_wp2
 go_ret
 exact ⟨rfl, pw_below_drewN (Below.refl _ _) _⟩
def impl_TrtKeeps.f (l0_0 : List Int) (l0_1 : List Int) (l1 : List (List Int)) (a2 : Int) (l3 : List Int) : Option (Bool) := (impl_TrtTreaty_ok.f l0_0 l0_1 l1 a2 l3).bind fun o => if o = true then (if l3.length = 3 ∧ (∀ p ∈ l1, p.length = 3) ∧ 0 ≤ a2 ∧ a2 < (l0_1.length : Int) then some (!(l1.any fun p => !inB (dot3 p l3) (wrap64 (-(rd l0_1 a2))) (rd l0_1 a2))) else none) else some false
set_option maxHeartbeats 8000000 in
theorem impl_TrtKeeps.calls (A0_0 : Option Addr) (c0_0 : Nat) (l0_0 : List Int) (A0_1 : Option Addr) (c0_1 : Nat) (l0_1 : List Int) (A1 : Option Addr) (c1 : Nat) (l1 : List (List Int)) (a2 : Int) (A3 : Option Addr) (c3 : Nat) (l3 : List Int) (r : Bool) (w : World) (hr0_0 : Kd.C (Kd.int .i64) w A0_0 l0_0.length l0_0) (hc0_0 : l0_0.length ≤ c0_0) (hr0_1 : Kd.C (Kd.int .i64) w A0_1 l0_1.length l0_1) (hc0_1 : l0_1.length ≤ c0_1) (hr1 : Kd.C (Kd.slice 3 (Kd.int .i64)) w A1 l1.length l1) (hc1 : l1.length ≤ c1) (hr3 : Kd.C (Kd.int .i64) w A3 l3.length l3) (hc3 : l3.length ≤ c3) (h : impl_TrtKeeps.f l0_0 l0_1 l1 a2 l3 = some r) :
  Calls Try.prog 21 #[.agg #[.slice A0_0 l0_0.length c0_0, .slice A0_1 l0_1.length c0_1], .slice A1 l1.length c1, .int .i64 a2, .slice A3 l3.length c3] w fun e w' => e = .returned (.bool r) ∧ Below w.heap.size w w' := by
 obtain ⟨o, ho, h⟩ := Option.bind_eq_some_iff.mp h
 have B0 : Below w.heap.size w ((w.alloc (.cells #[.slice A0_0 l0_0.length c0_0, .slice A0_1 l0_1.length c0_1] 45)).alloc (.cells #[.slice A3 l3.length c3] 26)) := below_alloc (below_alloc (Below.refl _ _) _) _
 have HK := aM (fun (W : World) (hb : Below w.heap.size w W) => impl_TrtTreaty_ok.calls A0_0 c0_0 l0_0 A0_1 c0_1 l0_1 A1 c1 l1 a2 A3 c3 l3 o W (Kd.C_below hr0_0 hb) hc0_0 (Kd.C_below hr0_1 hb) hc0_1 (Kd.C_below hr1 hb) hc1 (Kd.C_below hr3 hb) hc3 ho); have HB0 := aM B0; clear B0 ho
 cases o with
 | false =>
  obtain rfl := Option.some.inj h
  clear h hr0_0 hr0_1 hr1 hr3; go_enter Try.func21, Try.ntmps21
  go_wp2_with (go_at_call 51; refine (HK.out _ HB0.out).mono ?_; rintro e w1 ⟨rfl, hb1⟩; have HB1 := aM (below_then HB0.out HB0.out.size hb1); clear hb1)
  go_ret
  exact ⟨rfl, HB1.out⟩
 | true =>
  rw [if_pos rfl] at h
  by_cases hh : l3.length = 3 ∧ (∀ p ∈ l1, p.length = 3) ∧ 0 ≤ a2 ∧ a2 < (l0_1.length : Int)
  case neg => rw [if_neg hh] at h; exact absurd h (by simp)
  case pos =>
   rw [if_pos hh] at h
   obtain ⟨h3, hp, s0, s1⟩ := hh
   obtain rfl := Option.some.inj h
   clear h; obtain ⟨ad, e1, hx⟩ := Kd.at_int hr0_1 a2 s0 s1
   cases e1; have HX := aM hx; clear hx; have eg : ∀ args w, (callFunc 53 args).run Try.prog w = .ok (.enter 53 args) w := enters_of Try.func53 (by kernel_rfl) rfl
   generalize hg : rd l0_1 a2 = give at HX ⊢
   clear hg; have HC := aM (fun (W : World) (B2 : Nat) (hb : Below w.heap.size w W) (k1 : w.heap.size + 1 < W.heap.size) (k2 : B2 < W.heap.size) (q1 : W.cell? ⟨w.heap.size + 1, 0, none⟩ = some (.slice A3 l3.length c3)) (q2 : W.cell? ⟨B2, 0, none⟩ = some (.int .i64 give)) =>
    has_rows (fun p => !inB (dot3 p l3) (wrap64 (-give)) give) 53 #[.pointer (some ⟨w.heap.size + 1, 0, none⟩), .pointer (some ⟨B2, 0, none⟩)] eg A1 c1 l1 W (Kd.C_below hr1 hb)
     (fun x hm W2 A c hb2 hl hi => keeps_pred give (w.heap.size + 1) B2 A3 c3 l3 h3 hc3 W2 A c x (hp x hm) hl hi (Kd.C_below hr3 (below_then hb hb.size hb2)) ((hb2.cell (p := ⟨w.heap.size + 1, 0, none⟩) k1).trans q1) ((hb2.cell (p := ⟨B2, 0, none⟩) k2).trans q2)))
   have HP := aM (show w.heap.size + 1 < ((w.alloc (.cells #[.slice (some ad) l0_1.length c0_1] 45)).alloc (.cells #[.slice A3 l3.length c3] 26)).heap.size by simp); clear hp h3 hr0_0 hr0_1 hr1 hr3; generalize l1.any (fun p => !inB (dot3 p l3) (wrap64 (-give)) give) = b at HC ⊢
   go_enter Try.func21, Try.ntmps21
   go_wp2_with (first
    | (go_at_call 51; refine (HK.out _ HB0.out).mono ?_; rintro e w1 ⟨rfl, hb1⟩; have hx1 : w1.cell? ⟨w.heap.size, 1, none⟩ = some (.slice (some ad) l0_1.length c0_1) := (hb1.cell (p := ⟨w.heap.size, 1, none⟩) (by simp; omega)).trans (by simp); have hx2 : w1.cell? ⟨w.heap.size + 1, 0, none⟩ = some (.slice A3 l3.length c3) := (hb1.cell (p := ⟨w.heap.size + 1, 0, none⟩) (by simp)).trans (by simp); have hx3 : w1.cell? (ad.add a2.toNat) = some (.int .i64 give) := pw_cell_below (below_then HB0.out HB0.out.size hb1) HX.out; have hz : w.heap.size + 1 < w1.heap.size := Nat.lt_of_lt_of_le (by simp) hb1.size; have HB1 := aM (below_then HB0.out HB0.out.size hb1); clear hb1)
    | (go_at_call 52; refine (HC.out _ w1.heap.size (below_alloc HB1.out _) (by simp; omega) (by simp) (pw_cell_below (below_alloc (Below.refl _ _) _) hx2) (by simp)).mono ?_; rintro e w3 ⟨rfl, hb3⟩; have HB3 := aM (below_then (below_alloc HB1.out _) (below_alloc HB1.out _).size hb3); clear hb3))
   go_ret
   exact ⟨rfl, HB3.out⟩
/-! ### spec_ValOk: function 37 -/
def spec_ValOk.f (k : Nat) (l0 : List Int) : Option (Bool) := (spec_l1All.f k l0 3 10000).bind fun t890 => (some t890)
set_option maxHeartbeats 8000000 in
theorem spec_ValOk.calls (k : Nat) (A0 : Option Addr) (c0 : Nat) (l0 : List Int) (r : Bool) (w : World) (hr0 : Kd.C (Kd.int .i64) w A0 l0.length l0) (hc0 : l0.length ≤ c0) (h : spec_ValOk.f k l0 = some r) :
  Calls Try.prog 37 #[.slice A0 l0.length c0] w fun e w' => e = .returned (.bool r) ∧ Drawn0 w w' := by
 have HR0 := aM hr0; have HC0 := aM hc0; clear hr0 hc0; have H : ((spec_l1All.f k l0 3 10000).bind fun t890 => (some t890)) = some r := h
 clear h; obtain ⟨t890, A2, H⟩ := bS H
 try dsimp only at H
 obtain rfl := Option.some.inj H
 go_enter Try.func37, Try.ntmps37
 go_wp2_with (first | (refine gL (some 4) Try.func58 #[.slice A0 l0.length c0, .int .i64 3, .int .i64 10000] ?_; (with_reducible refine (spec_l1All.calls k _ _ l0 3 10000 t890 _ (by exact lC HR0.out) HC0.out A2.out).mono ?_); rintro e w' ⟨rfl, ⟨nd, rfl⟩⟩; refine ⟨_, rfl, ?_⟩))
 go_ret
 exact ⟨by first | rfl | (simp; done) | (simp [*]; done), by repeat (first | exact Drawn0.refl _ | apply Drawn0.step)⟩
/-! ### spec_TrtOk: function 24 -/
mutual
def spec_TrtOk.j0 : Nat → Bool → List Int → List Int → Option (Bool)
 | 0, _, _, _ => none
 | k + 1, x14, x892000, x892001 => if x14 = true then (some false) else (spec_TrtOk.l0 k 0 x892000 x892001)
def spec_TrtOk.l0 : Nat → Int → List Int → List Int → Option (Bool)
 | 0, _, _, _ => none
 | k + 1, x3, x892000, x892001 => if x3 < (x892001.length : Int) then (if 0 ≤ x3 then ((spec_l1In.f (rd x892001 x3) 0 50).bind fun t895 => (if t895 = true then (spec_TrtOk.l0 k (wrap64 (x3 + 1)) x892000 x892001) else (some false))) else (none)) else (some true)
end
def spec_TrtOk.f (k : Nat) (l0_0 : List Int) (l0_1 : List Int) : Option (Bool) := (spec_ValOk.f k l0_0).bind fun t892 => (if t892 = true then ((spec_l1In.f (l0_1.length : Int) 1 3).bind fun t893 => (spec_TrtOk.j0 k (!t893) l0_0 l0_1)) else (spec_TrtOk.j0 k true l0_0 l0_1))
set_option maxHeartbeats 8000000 in
theorem spec_TrtOk.calls (k : Nat) (A0_0 : Option Addr) (c0_0 : Nat) (l0_0 : List Int) (A0_1 : Option Addr) (c0_1 : Nat) (l0_1 : List Int) (r : Bool) (w : World) (hr0_0 : Kd.C (Kd.int .i64) w A0_0 l0_0.length l0_0) (hc0_0 : l0_0.length ≤ c0_0) (hr0_1 : Kd.C (Kd.int .i64) w A0_1 l0_1.length l0_1) (hc0_1 : l0_1.length ≤ c0_1) (h : spec_TrtOk.f k l0_0 l0_1 = some r) :
  Calls Try.prog 24 #[.agg #[.slice A0_0 l0_0.length c0_0, .slice A0_1 l0_1.length c0_1]] w fun e w' => e = .returned (.bool r) ∧ Below w.heap.size w w' := by
 have hu45 := Try.underlying45; have HR0_0 := aM hr0_0; have HC0_0 := aM hc0_0; clear hr0_0 hc0_0; have HR0_1 := aM hr0_1; have HC0_1 := aM hc0_1; clear hr0_1 hc0_1; have HB := aM (Below.refl w.heap.size w); have H : ((spec_ValOk.f k l0_0).bind fun t892 => (if t892 = true then ((spec_l1In.f (l0_1.length : Int) 1 3).bind fun t893 => (spec_TrtOk.j0 k (!t893) l0_0 l0_1)) else (spec_TrtOk.j0 k true l0_0 l0_1))) = some r := h
 clear h; have HC2 := aM H; clear H; go_enter Try.func24, Try.ntmps24
 go_upto_region 1 with (first | ((with_reducible refine gate_dst (N := 1) rfl ?_); (try (refine gate_guard (by rfl) ?_; dsimp only)); refine bx 1 #[.slice A0_0 l0_0.length c0_0, .slice A0_1 l0_1.length c0_1] 45 ?_; intro gb891 hg w3 hbox hb; have BK891 := aM (hbox); have GW891 := aM (gz hg HB.out); have IGW891 := wn GW891.out; have GE891 := aM (gz hg HB.out); have IGE891 := wn GE891.out; replace HB := aM (bj HB.out hb); clear hb hbox hg))
 (try simp only [Act.put, sA, s0, sS])
 go_cut [14] (fun v14 wc => ∃ (kq : Nat) (x14_1 : Bool), v14 = .bool x14_1 ∧ Aside0 (spec_TrtOk.j0 kq x14_1 l0_0 l0_1 = some r) ∧ Aside0 (kq ≤ k) ∧ Aside0 (wc.heap[gb891]? = some (.cells #[(.slice A0_0 l0_0.length c0_0), (.slice A0_1 l0_1.length c0_1)] 45 (0, 0))) ∧ Aside0 (Below w.heap.size w wc))
 case first =>
  have H := HC2.out
  clear HC2; obtain ⟨t892, A4, H⟩ := bS H
  try dsimp only at H
  by_cases c5 : t892 = true
  ·subst c5; rw [if_pos rfl] at H
   try dsimp only at H
   obtain ⟨t893, A6, H⟩ := bS H
   try dsimp only at H
   have H' := aM H
   clear H; obtain ⟨hcz7_0, hcz7_1, hfz7_0, hfz7_1⟩ := cf2 BK891.out
   go_wp2_with (first | (refine gL (some 6) Try.func37 #[.slice A0_0 l0_0.length c0_0] ?_; (with_reducible refine (spec_ValOk.calls k _ _ l0_0 true _ (by exact lC <| (Kd.C_below HR0_0.out HB.out)) HC0_0.out A4.out).mono ?_); rintro e w' ⟨rfl, ⟨nd, rfl⟩⟩; refine ⟨_, rfl, ?_⟩) | (go_at_call 57; (with_reducible refine (spec_l1In.calls (l0_1.length : Int) 1 3 t893 _ A6.out).mono ?_); rintro e w' ⟨rfl, ⟨nd, rfl⟩⟩))
   go_meet
   case rel => exact ⟨_, (!t893), sr, H', ⟨by first | omega | exact Nat.le_refl _⟩, ⟨by exact lK <| BK891.out⟩, ⟨by exact jB HB.out⟩⟩
  ·replace c5 := Bool.eq_false_iff.mpr c5
   subst c5; rw [if_neg nf] at H
   try dsimp only at H
   have H' := aM H
   clear H; obtain ⟨hcz8_0, hcz8_1, hfz8_0, hfz8_1⟩ := cf2 BK891.out
   go_wp2_with (first | (refine gL (some 6) Try.func37 #[.slice A0_0 l0_0.length c0_0] ?_; (with_reducible refine (spec_ValOk.calls k _ _ l0_0 false _ (by exact lC <| (Kd.C_below HR0_0.out HB.out)) HC0_0.out A4.out).mono ?_); rintro e w' ⟨rfl, ⟨nd, rfl⟩⟩; refine ⟨_, rfl, ?_⟩))
   go_meet
   case rel => exact ⟨_, (true), sr, H', ⟨by first | omega | exact Nat.le_refl _⟩, ⟨by exact lK <| BK891.out⟩, ⟨by exact jB HB.out⟩⟩
 case rest =>
  clear HC2; (try clear c2); (try clear p2); (try clear c3); (try clear c5); (try clear hcz7_0); (try clear hcz7_1); (try clear hcz8_0); (try clear hcz8_1); (try clear hfz7_0); (try clear hfz7_1); (try clear hfz8_0); (try clear hfz8_1)
  obtain ⟨kq, x14_1, rfl, HA, HJ1, BK891, HB⟩ := hcut
  cases kq with
  | zero => exact absurd HA.out (by simp [spec_TrtOk.j0])
  | succ kj1 =>
   have H := HA.out
   clear HA; simp only [spec_TrtOk.j0] at H
   by_cases c9 : x14_1 = true
   ·subst c9; rw [if_pos rfl] at H
    try dsimp only at H
    obtain rfl := Option.some.inj H
    go_wp2
    go_ret
    exact ⟨er, by exact jB HB.out⟩
   ·replace c9 := Bool.eq_false_iff.mpr c9
    subst c9; rw [if_neg nf] at H
    try dsimp only at H
    have H' := aM H
    clear H; go_wp2
    go_loopg [3] kj1 (fun kq v3 w' => ∃ (x3_2 : Int), v3 = .int .i64 x3_2 ∧ Aside0 (spec_TrtOk.l0 kq x3_2 l0_0 l0_1 = some r) ∧ Aside0 (kq ≤ kj1) ∧ Aside0 (w'.heap[gb891]? = some (.cells #[(.slice A0_0 l0_0.length c0_0), (.slice A0_1 l0_1.length c0_1)] 45 (0, 0))) ∧ Aside0 (Below w.heap.size w w'))
    case atStart => exact ⟨(0), sr, H', ⟨Nat.le_refl _⟩, ⟨by exact lK <| BK891.out⟩, ⟨by exact jB HB.out⟩⟩
    case round =>
     clear H'
     (try clear c2); (try clear p2); (try clear c3); (try clear c5); (try clear c9); (try clear hcz7_0); (try clear hcz7_1); (try clear hcz8_0); (try clear hcz8_1); (try clear hfz7_0); (try clear hfz7_1); (try clear hfz8_0); (try clear hfz8_1)
     obtain ⟨x3_2, rfl, HA, HK2, BK891, HB⟩ := hrel
     cases gk with
     | zero => exact absurd HA.out (by simp [spec_TrtOk.l0])
     | succ k2 =>
      have H := HA.out
      clear HA; simp only [spec_TrtOk.l0] at H
      by_cases c10 : x3_2 < (l0_1.length : Int)
      ·rw [if_pos c10] at H; replace c10 := decide_eq_true c10; obtain ⟨c11, H⟩ := iD H; obtain ⟨t895, A12, H⟩ := bS H
       try dsimp only at H
       by_cases c13 : t895 = true
       ·subst c13; rw [if_pos rfl] at H
        try dsimp only at H
        have H' := aM H
        clear H; obtain ⟨hcz14_0, hcz14_1, hfz14_0, hfz14_1⟩ := cf2 BK891.out
        have p894 : 0 ≤ (x3_2 : Int) := od; have q894 : x3_2 < (l0_1.length : Int) := od; obtain ⟨ad894, e894, hx894_0⟩ := Kd.at_int HR0_1.out x3_2 p894 q894
        cases e894; replace hx894_0 := cl HB.out hx894_0; replace p894 := eq_true p894; replace q894 := eq_true q894; go_wp2_with (first | (refine gL (some 27) Try.func57 #[.int .i64 (rd l0_1 x3_2), .int .i64 0, .int .i64 50] ?_; (with_reducible refine (spec_l1In.calls (rd l0_1 x3_2) 0 50 true _ A12.out).mono ?_); rintro e w' ⟨rfl, ⟨nd, rfl⟩⟩; refine ⟨_, rfl, ?_⟩))
        go_roundg k2
        case measure => have := HJ1.out; have := HK2.out; omega
        case rel => exact ⟨(wrap64 (x3_2 + 1)), sr, H', ⟨by have := HJ1.out; have := HK2.out; omega⟩, ⟨by exact lK <| BK891.out⟩, ⟨by exact jB HB.out⟩⟩
       ·replace c13 := Bool.eq_false_iff.mpr c13
        subst c13; rw [if_neg nf] at H
        try dsimp only at H
        obtain rfl := Option.some.inj H
        obtain ⟨hcz15_0, hcz15_1, hfz15_0, hfz15_1⟩ := cf2 BK891.out
        have p894 : 0 ≤ (x3_2 : Int) := od; have q894 : x3_2 < (l0_1.length : Int) := od; obtain ⟨ad894, e894, hx894_0⟩ := Kd.at_int HR0_1.out x3_2 p894 q894
        cases e894; replace hx894_0 := cl HB.out hx894_0; replace p894 := eq_true p894; replace q894 := eq_true q894; go_wp2_with (first | (refine gL (some 27) Try.func57 #[.int .i64 (rd l0_1 x3_2), .int .i64 0, .int .i64 50] ?_; (with_reducible refine (spec_l1In.calls (rd l0_1 x3_2) 0 50 false _ A12.out).mono ?_); rintro e w' ⟨rfl, ⟨nd, rfl⟩⟩; refine ⟨_, rfl, ?_⟩))
        go_ret
        exact ⟨er, by exact jB HB.out⟩
      ·rw [if_neg c10] at H; replace c10 := decide_eq_false c10; obtain rfl := Option.some.inj H
       obtain ⟨hcz16_0, hcz16_1, hfz16_0, hfz16_1⟩ := cf2 BK891.out
       go_wp2
       go_ret
       exact ⟨er, by exact jB HB.out⟩
/-! ### spec_l5Parts: function 56 -/
def spec_l5Parts.l0 : Nat → List (List Int) → Int → Option (Bool)
 | 0, _, _ => none
 | k + 1, x0, x3 => if x3 < (x0.length : Int) then (if 0 ≤ x3 then ((spec_l1All.f k (rd_L2 x0 x3) 3 10000000).bind fun t897 => (if t897 = true then (spec_l5Parts.l0 k x0 (wrap64 (x3 + 1))) else (some false))) else (none)) else (some true)
def spec_l5Parts.f (k : Nat) (l0 : List (List Int)) : Option (Bool) := spec_l5Parts.l0 k l0 0
set_option maxHeartbeats 8000000 in
theorem spec_l5Parts.calls (k : Nat) (A0 : Option Addr) (c0 : Nat) (l0 : List (List Int)) (r : Bool) (w : World) (hr0 : Kd.C (Kd.slice 3 (Kd.int .i64)) w A0 l0.length l0) (hc0 : l0.length ≤ c0) (h : spec_l5Parts.f k l0 = some r) :
  Calls Try.prog 56 #[.slice A0 l0.length c0] w fun e w' => e = .returned (.bool r) ∧ Drawn0 w w' := by
 have HR0 := aM hr0; have HC0 := aM hc0; clear hr0 hc0; have H : (spec_l5Parts.l0 k l0 0) = some r := h
 clear h; have H' := aM H
 clear H; go_enter Try.func56, Try.ntmps56
 go_wp2
 go_loopg [3] k (fun kq v3 w' => ∃ (x3_1 : Int), v3 = .int .i64 x3_1 ∧ Aside0 (spec_l5Parts.l0 kq l0 x3_1 = some r) ∧ Aside0 (kq ≤ k) ∧ Drawn0 w w')
 case atStart => exact ⟨(0), sr, H', ⟨Nat.le_refl _⟩, by repeat (first | exact Drawn0.refl _ | apply Drawn0.step)⟩
 case round =>
  clear H'
  obtain ⟨x3_1, rfl, HA, HK1, ⟨m1, rfl⟩⟩ := hrel
  cases gk with
  | zero => exact absurd HA.out (by simp [spec_l5Parts.l0])
  | succ k1 =>
   have H := HA.out
   clear HA; simp only [spec_l5Parts.l0] at H
   by_cases c2 : x3_1 < (l0.length : Int)
   ·rw [if_pos c2] at H; replace c2 := decide_eq_true c2; obtain ⟨c3, H⟩ := iD H; obtain ⟨t897, A4, H⟩ := bS H
    try dsimp only at H
    by_cases c5 : t897 = true
    ·subst c5; rw [if_pos rfl] at H
     try dsimp only at H
     have H' := aM H
     clear H; have p896 : 0 ≤ (x3_1 : Int) := od; have q896 : x3_1 < (l0.length : Int) := od; obtain ⟨ad896, A896_0, c896_0, e896, hx896_0, hl896_0, hi896_0⟩ := at_L2 HR0.out x3_1 p896 q896
     cases e896; have HR896_0 := aM hi896_0; have HC896_0 := aM hl896_0; clear hi896_0 hl896_0; replace p896 := eq_true p896; replace q896 := eq_true q896; go_wp2_with (first | (refine gL (some 14) Try.func58 #[.slice A896_0 (rd_L2 l0 x3_1).length c896_0, .int .i64 3, .int .i64 10000000] ?_; (with_reducible refine (spec_l1All.calls k1 _ _ (rd_L2 l0 x3_1) 3 10000000 true _ (by exact lC HR896_0.out) HC896_0.out A4.out).mono ?_); rintro e w' ⟨rfl, ⟨nd, rfl⟩⟩; refine ⟨_, rfl, ?_⟩))
     go_roundg k1
     case measure => have := HK1.out; omega
     case rel => exact ⟨(wrap64 (x3_1 + 1)), sr, H', ⟨by have := HK1.out; omega⟩, by repeat (first | exact Drawn0.refl _ | apply Drawn0.step)⟩
    ·replace c5 := Bool.eq_false_iff.mpr c5
     subst c5; rw [if_neg nf] at H
     try dsimp only at H
     obtain rfl := Option.some.inj H
     have p896 : 0 ≤ (x3_1 : Int) := od; have q896 : x3_1 < (l0.length : Int) := od; obtain ⟨ad896, A896_0, c896_0, e896, hx896_0, hl896_0, hi896_0⟩ := at_L2 HR0.out x3_1 p896 q896
     cases e896; have HR896_0 := aM hi896_0; have HC896_0 := aM hl896_0; clear hi896_0 hl896_0; replace p896 := eq_true p896; replace q896 := eq_true q896; go_wp2_with (first | (refine gL (some 14) Try.func58 #[.slice A896_0 (rd_L2 l0 x3_1).length c896_0, .int .i64 3, .int .i64 10000000] ?_; (with_reducible refine (spec_l1All.calls k1 _ _ (rd_L2 l0 x3_1) 3 10000000 false _ (by exact lC HR896_0.out) HC896_0.out A4.out).mono ?_); rintro e w' ⟨rfl, ⟨nd, rfl⟩⟩; refine ⟨_, rfl, ?_⟩))
     go_ret
     exact ⟨by first | rfl | (simp; done) | (simp [*]; done), by repeat (first | exact Drawn0.refl _ | apply Drawn0.step)⟩
   ·rw [if_neg c2] at H; replace c2 := decide_eq_false c2; obtain rfl := Option.some.inj H
    go_wp2
    go_ret
    exact ⟨by first | rfl | (simp; done) | (simp [*]; done), by repeat (first | exact Drawn0.refl _ | apply Drawn0.step)⟩
/-! ### spec_l5Times: function 59 -/
def spec_l5Times.l0 : Nat → List Int → List Int → Int → Int → Option (Int)
 | 0, _, _, _, _ => none
 | k + 1, x0, x1, x5, x6 => if x6 < 3 then (if 0 ≤ x6 then (if x6 < (x0.length : Int) then (if x6 < (x1.length : Int) then (spec_l5Times.l0 k x0 x1 (wrap64 (x5 + (wrap64 ((rd x0 x6) * (rd x1 x6))))) (wrap64 (x6 + 1))) else (none)) else (none)) else (none)) else (some x5)
def spec_l5Times.f (k : Nat) (l0 : List Int) (l1 : List Int) : Option (Int) := spec_l5Times.l0 k l0 l1 0 0
set_option maxHeartbeats 8000000 in
theorem spec_l5Times.calls (k : Nat) (A0 : Option Addr) (c0 : Nat) (l0 : List Int) (A1 : Option Addr) (c1 : Nat) (l1 : List Int) (r : Int) (w : World) (hr0 : Kd.C (Kd.int .i64) w A0 l0.length l0) (hc0 : l0.length ≤ c0) (hr1 : Kd.C (Kd.int .i64) w A1 l1.length l1) (hc1 : l1.length ≤ c1) (h : spec_l5Times.f k l0 l1 = some r) :
  Calls Try.prog 59 #[.slice A0 l0.length c0, .slice A1 l1.length c1] w fun e w' => e = .returned (.int .i64 r) ∧ Drawn0 w w' := by
 have HR0 := aM hr0; have HC0 := aM hc0; clear hr0 hc0; have HR1 := aM hr1; have HC1 := aM hc1; clear hr1 hc1; have H : (spec_l5Times.l0 k l0 l1 0 0) = some r := h
 clear h; have H' := aM H
 clear H; go_enter Try.func59, Try.ntmps59
 go_wp2
 repeat (go_quiet (fail); try go_wp2)
 go_loopg [5, 6] k (fun kq v5 v6 w' => ∃ (x5_1 : Int) (x6_1 : Int), v5 = .int .i64 x5_1 ∧ v6 = .int .i64 x6_1 ∧ Aside0 (spec_l5Times.l0 kq l0 l1 x5_1 x6_1 = some r) ∧ Aside0 (kq ≤ k) ∧ Drawn0 w w')
 case atStart => exact ⟨(0), (0), sr, sr, H', ⟨Nat.le_refl _⟩, by repeat (first | exact Drawn0.refl _ | apply Drawn0.step)⟩
 case round =>
  clear H'
  (try clear c1); (try clear p2)
  obtain ⟨x5_1, x6_1, rfl, rfl, HA, HK1, ⟨m1, rfl⟩⟩ := hrel
  cases gk with
  | zero => exact absurd HA.out (by simp [spec_l5Times.l0])
  | succ k1 =>
   have H := HA.out
   clear HA; simp only [spec_l5Times.l0] at H
   by_cases c3 : x6_1 < 3
   ·rw [if_pos c3] at H; replace c3 := decide_eq_true c3; obtain ⟨c4, H⟩ := iD H; obtain ⟨c5, H⟩ := iD H; obtain ⟨c6, H⟩ := iD H; have H' := aM H
    clear H; have p898 : 0 ≤ (x6_1 : Int) := od; have q898 : x6_1 < (l0.length : Int) := od; obtain ⟨ad898, e898, hx898_0⟩ := Kd.at_int HR0.out x6_1 p898 q898
    cases e898; replace p898 := eq_true p898; replace q898 := eq_true q898; have p899 : 0 ≤ (x6_1 : Int) := od; have q899 : x6_1 < (l1.length : Int) := od; obtain ⟨ad899, e899, hx899_0⟩ := Kd.at_int HR1.out x6_1 p899 q899
    cases e899; replace p899 := eq_true p899; replace q899 := eq_true q899; go_wp2
    repeat (go_quiet (fail); try go_wp2)
    go_roundg k1
    case measure => have := HK1.out; omega
    case rel => exact ⟨(wrap64 (x5_1 + (wrap64 ((rd l0 x6_1) * (rd l1 x6_1))))), (wrap64 (x6_1 + 1)), sr, sr, H', ⟨by have := HK1.out; omega⟩, by repeat (first | exact Drawn0.refl _ | apply Drawn0.step)⟩
   ·rw [if_neg c3] at H; replace c3 := decide_eq_false c3; obtain rfl := Option.some.inj H
    go_wp2
    repeat (go_quiet (fail); try go_wp2)
    go_ret
    exact ⟨by first | rfl | (simp; done) | (simp [*]; done), by repeat (first | exact Drawn0.refl _ | apply Drawn0.step)⟩
end Go.Proofs.Ytcpaplcnebdocaa.QFnTrtKeeps
-- shorter
