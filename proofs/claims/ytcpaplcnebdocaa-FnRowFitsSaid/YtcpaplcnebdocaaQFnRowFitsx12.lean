/- Plain functions, and that the Go code computes them: written by a program of this session over the seat's translation; the conditions stand in each theorem. -/
import Derived.Test.YtcpaplcnebdocaaHW4
import Derived.Test.YtcpaplcnebdocaaQFnRowFitsx0
import Derived.Test.YtcpaplcnebdocaaQFnRowFitsx1
import Derived.Test.YtcpaplcnebdocaaQFnRowFitsx2
import Derived.Test.YtcpaplcnebdocaaQFnRowFitsx11
namespace Go.Proofs.Ytcpaplcnebdocaa.QFnRowFits
open Go.RowKit Go.Proofs.YtcpaplcnebdocaaW.PrintWords Go.Proofs.YtcpaplcnebdocaaW.PrintLast Go.Proofs.YtcpaplcnebdocaaW.PrintMore Go.Proofs.Ytcpaplcnebdocaa.HWords
open Value (ownBlock)
attribute [local go_sem] max2_int min2_int max_two min_two max_three min_three max_four min_four   -- for this text's walks alone
set_option linter.unusedVariables false
set_option linter.unusedSimpArgs false
set_option maxRecDepth 100000
set_option maxHeartbeats 8000000
/-! ### impl_RowOk: function 7, by hand -/
def withinB (l : List Int) (n m : Int) : Bool := decide ((l.length : Int) = n) && !(l.any fun x => !inB x (wrap64 (-m)) m)
def frmOkB (x : S34) : Bool := withinB x.f0 3 10000000 && (withinB x.f1 2 10000000 && inB x.f2 (-10000000) 10000000)
theorem frmOk_eq (x : S34) : impl_FrmOk.f x.f0 x.f1 x.f2 = some (frmOkB x) := by
 unfold impl_FrmOk.f
 rw [show impl_within.f x.f0 3 10000000 = some (withinB x.f0 3 10000000) from rfl, show impl_within.f x.f1 2 10000000 = some (withinB x.f1 2 10000000) from rfl, in_inB]
 unfold frmOkB
 cases withinB x.f0 3 10000000 <;> cases withinB x.f1 2 10000000 <;> rfl
theorem idx_forms (q : S34 → Bool) (g : Nat) (lb : Array Value) (eg : ∀ args w, (callFunc g args).run Try.prog w = .ok (.enter g args) w) (A0 : Option Addr) (c0 : Nat) (xs : List (S34)) (w : World)
  (hr : Kd.C k34 w A0 xs.length xs) (hp : ∀ x, x ∈ xs → ∀ (W : World) (A : Option Addr) (c : Nat) (A' : Option Addr) (c' : Nat), Below w.heap.size w W → x.f0.length ≤ c → Kd.C (Kd.int .i64) W A x.f0.length x.f0 → x.f1.length ≤ c' → Kd.C (Kd.int .i64) W A' x.f1.length x.f1 → Calls Try.prog g (#[.agg #[.slice A x.f0.length c, .slice A' x.f1.length c', .int .i64 x.f2]] ++ lb) W fun e w' => e = .returned (.bool (q x)) ∧ Below W.heap.size W w') :
  Calls Try.prog 65 #[.slice A0 xs.length c0, .func (.func g) #[] lb] w fun e w' => e = .returned (.int .i64 (idxOf q xs)) ∧ Below w.heap.size w w' := by
 have hm := Kd.C_max hr
 have HR := aM hr; have HP := aM hp; clear hr hp; go_enter Try.func65, Try.ntmps65
 go_wp2
 go_loopg [5, 8] xs.length (fun gg _ s8 wr => ∃ x : Int, s8 = .int .i64 x ∧ Aside0 (0 ≤ x ∧ x ≤ xs.length ∧ (xs.length : Int) - x ≤ gg) ∧ Aside0 (Below w.heap.size w wr) ∧ Aside0 (∀ j : Int, 0 ≤ j → j < x → q (xs.getD j.toNat z34) = false))
 case atStart => exact ⟨0, rfl, ⟨by omega, by omega, by omega⟩, ⟨Below.refl _ _⟩, ⟨fun j h0 h1 => by omega⟩⟩
 case round =>
  obtain ⟨x, rfl, HX, HB, HN⟩ := hrel
  have p1 := HX.out.1
  by_cases hlt : x < (xs.length : Int)
  ·obtain ⟨ad, A1, c1, A2, c2, e1, hx0, hx1, hx2, hl1, hi1, hl2, hi2⟩ := at_T34 (Kd.C_below HR.out HB.out) x p1 hlt
   cases e1; have hcall := HP.out (rd_T34 xs x) (mem_rd z34 xs x p1 hlt) _ A1 c1 A2 c2 HB.out hl1 hi1 hl2 hi2
   cases hq : q (rd_T34 xs x) with
   | true =>
    rw [hq] at hcall
    have HQ := aM hq; clear hq; have HC := aM hcall; clear hcall; go_wp2_with (go_at_fn g; refine HC.out.mono ?_; rintro e w' ⟨rfl, hb⟩)
    go_ret
    refine ⟨?_, below_then HB.out HB.out.size hb⟩
    rw [idxOf_hit z34 x p1 hlt HQ.out HN.out]
    rfl
   | false =>
    rw [hq] at hcall
    have HQ := aM hq; clear hq; have HC := aM hcall; clear hcall; go_wp2_with (go_at_fn g; refine HC.out.mono ?_; rintro e w' ⟨rfl, hb⟩)
    go_roundg (xs.length - (x.toNat + 1))
    case measure => have := HX.out; omega
    case rel =>
     refine ⟨x + 1, by go_num, ⟨by have := HX.out; omega, by have := HX.out; omega, by have := HX.out; omega⟩, ⟨below_then HB.out HB.out.size hb⟩, ⟨fun j h0 h1 => ?_⟩⟩
     by_cases e : j = x
     ·subst e; exact HQ.out
     ·exact HN.out j h0 (by omega)
  ·go_wp2
   go_ret
   refine ⟨?_, HB.out⟩
   rw [idxOf_miss z34 (fun j h0 h1 => HN.out j h0 (by have := HX.out; omega))]
   rfl
theorem has_forms (q : S34 → Bool) (g : Nat) (lb : Array Value) (eg : ∀ args w, (callFunc g args).run Try.prog w = .ok (.enter g args) w) (A0 : Option Addr) (c0 : Nat) (xs : List (S34)) (w : World)
  (hr : Kd.C k34 w A0 xs.length xs) (hp : ∀ x, x ∈ xs → ∀ (W : World) (A : Option Addr) (c : Nat) (A' : Option Addr) (c' : Nat), Below w.heap.size w W → x.f0.length ≤ c → Kd.C (Kd.int .i64) W A x.f0.length x.f0 → x.f1.length ≤ c' → Kd.C (Kd.int .i64) W A' x.f1.length x.f1 → Calls Try.prog g (#[.agg #[.slice A x.f0.length c, .slice A' x.f1.length c', .int .i64 x.f2]] ++ lb) W fun e w' => e = .returned (.bool (q x)) ∧ Below W.heap.size W w') :
  Calls Try.prog 31 #[.slice A0 xs.length c0, .func (.func g) #[] lb] w fun e w' => e = .returned (.bool (xs.any q)) ∧ Below w.heap.size w w' := by
 have HC := aM (idx_forms q g lb eg A0 c0 xs w hr hp); rw [← idxOf_any q xs]
 generalize idxOf q xs = n at HC
 clear hr hp; go_enter Try.func31, Try.ntmps31
 go_wp2_with (go_at_call 65; refine HC.out.mono ?_; rintro e w' ⟨rfl, hb⟩)
 go_ret
 exact ⟨rfl, hb⟩
theorem rowok_pred (W : World) (A : Option Addr) (c : Nat) (A' : Option Addr) (c' : Nat) (x : S34) (h0 : x.f0.length ≤ c) (r0 : Kd.C (Kd.int .i64) W A x.f0.length x.f0) (h1 : x.f1.length ≤ c') (r1 : Kd.C (Kd.int .i64) W A' x.f1.length x.f1) :
  Calls Try.prog 29 (#[.agg #[.slice A x.f0.length c, .slice A' x.f1.length c', .int .i64 x.f2]] ++ #[]) W fun e w' => e = .returned (.bool (!frmOkB x)) ∧ Below W.heap.size W w' := by
 show Calls Try.prog 29 #[.agg #[.slice A x.f0.length c, .slice A' x.f1.length c', .int .i64 x.f2]] W _
 have hu := Try.underlying34
 have HC := aM (fun (w : World) (hb : Below W.heap.size W w) => impl_FrmOk.calls A c x.f0 A' c' x.f1 x.f2 (frmOkB x) w (Kd.C_below r0 hb) h0 (Kd.C_below r1 hb) h1 (frmOk_eq x)); have HB := aM (Below.refl W.heap.size W); clear r0 r1; generalize frmOkB x = b at HC ⊢
 go_enter Try.func29, Try.ntmps29
 go_wp2_with (first
  | ((with_reducible refine gate_dst (N := 1) rfl ?_); refine bx 1 #[.slice A x.f0.length c, .slice A' x.f1.length c', .int .i64 x.f2] 34 ?_; intro G1 hG w1 hbox hb; have B1 := aM hbox; have HB1 := aM (below_then HB.out HB.out.size hb); clear hbox hb hG; obtain ⟨ha0, ha1, ha2⟩ := cz3 B1.out)
  | (go_at_call 30; refine (HC.out _ HB1.out).mono ?_; rintro e w3 ⟨rfl, hb⟩; have HB3 := aM (below_then HB1.out HB1.out.size hb); clear hb))
 go_ret
 exact ⟨rfl, HB3.out⟩
def rowB (g a t : List (S34)) (s : Bool) : Bool := !((g ++ a ++ t).any fun x => !frmOkB x) && (if s = true then ((a.length : Int) == 0) && ((t.length : Int) == 0) else ((a.length : Int) == 3))
def impl_RowOk.f (l0_0 : List (S34)) (l0_1 : List (S34)) (l0_2 : List (S34)) (a0_3 : Bool) : Option (Bool) := if l0_0.length + l0_1.length + l0_2.length ≤ 2000000000000 then some (rowB l0_0 l0_1 l0_2 a0_3) else none
set_option maxHeartbeats 8000000 in
theorem impl_RowOk.calls (A0_0 : Option Addr) (c0_0 : Nat) (l0_0 : List (S34)) (A0_1 : Option Addr) (c0_1 : Nat) (l0_1 : List (S34)) (A0_2 : Option Addr) (c0_2 : Nat) (l0_2 : List (S34)) (a0_3 : Bool) (r : Bool) (w : World) (hr0_0 : Kd.C k34 w A0_0 l0_0.length l0_0) (hc0_0 : l0_0.length ≤ c0_0) (hr0_1 : Kd.C k34 w A0_1 l0_1.length l0_1) (hc0_1 : l0_1.length ≤ c0_1) (hr0_2 : Kd.C k34 w A0_2 l0_2.length l0_2) (hc0_2 : l0_2.length ≤ c0_2) (h : impl_RowOk.f l0_0 l0_1 l0_2 a0_3 = some r) :
  Calls Try.prog 7 #[.agg #[.slice A0_0 l0_0.length c0_0, .slice A0_1 l0_1.length c0_1, .slice A0_2 l0_2.length c0_2, .bool a0_3]] w fun e w' => e = .returned (.bool r) ∧ Below w.heap.size w w' := by
 unfold impl_RowOk.f at h
 by_cases hA : l0_0.length + l0_1.length + l0_2.length ≤ 2000000000000
 case neg => rw [if_neg hA] at h; exact absurd h (by simp)
 case pos =>
  rw [if_pos hA] at h
  obtain rfl := Option.some.inj h
  clear h; have hu := Try.underlying25
  have eg : ∀ args w, (callFunc 29 args).run Try.prog w = .ok (.enter 29 args) w := enters_of Try.func29 (by kernel_rfl) rfl
  have hm1 := Kd.C_max hr0_1
  have hm2 := Kd.C_max hr0_2
  have HN := aM (fun (W : World) (hb : Below w.heap.size w W) (g : Nat) (q0 : W.cell? ⟨g, 0, none⟩ = some (.slice A0_0 l0_0.length c0_0)) (q1 : W.cell? ⟨g, 1, none⟩ = some (.slice A0_1 l0_1.length c0_1)) (q2 : W.cell? ⟨g, 2, none⟩ = some (.slice A0_2 l0_2.length c0_2)) =>
   concat_calls ⟨g, 0, none⟩ 3 [l0_0, l0_1, l0_2] (l0_0 ++ l0_1 ++ l0_2) (by simp) W (by simp) (by simpa [Nat.add_assoc] using hA) (fun i h0 h1 => by
    have h3 : i < 3 := h1
    by_cases e0 : i = 0
    ·subst e0; exact ⟨_, _, q0, Kd.C_below hr0_0 hb⟩
    ·by_cases e1 : i = 1
     ·subst e1; exact ⟨_, _, q1, Kd.C_below hr0_1 hb⟩
     ·obtain rfl : i = 2 := by omega
      exact ⟨_, _, q2, Kd.C_below hr0_2 hb⟩))
  have HC := aM (fun (W : World) (A : Option Addr) (c : Nat) (hC : Kd.C k34 W A (l0_0 ++ l0_1 ++ l0_2).length (l0_0 ++ l0_1 ++ l0_2)) => has_forms (fun x => !frmOkB x) 29 #[] eg A c (l0_0 ++ l0_1 ++ l0_2) W hC (fun x hx W A c A' c' _ k0 r0 k1 r1 => rowok_pred W A c A' c' x k0 r0 k1 r1)); clear hr0_0 hr0_1 hr0_2 hA; unfold rowB
  generalize l0_0 ++ l0_1 ++ l0_2 = zs at HN HC ⊢
  generalize (zs.any fun x => !frmOkB x) = b3 at HC ⊢
  have HB := aM (Below.refl w.heap.size w); cases a0_3
  case false =>
   cases b3
   all_goals
    go_enter Try.func7, Try.ntmps7
    go_wp2_with (first
     | ((with_reducible refine gate_dst (N := 1) rfl ?_); refine bx 1 #[.slice A0_0 l0_0.length c0_0, .slice A0_1 l0_1.length c0_1, .slice A0_2 l0_2.length c0_2, .bool false] 25 ?_; intro G1 hG w1 hbox hb; have B1 := aM hbox; have HB1 := aM (below_then HB.out HB.out.size hb); clear hbox hb hG; have ha0 : w1.cell? ⟨G1, 0, none⟩ = some (.slice A0_0 l0_0.length c0_0) := (blk_cell B1.out 0).trans rfl; have ha1 : w1.cell? ⟨G1, 1, none⟩ = some (.slice A0_1 l0_1.length c0_1) := (blk_cell B1.out 1).trans rfl; have ha2 : w1.cell? ⟨G1, 2, none⟩ = some (.slice A0_2 l0_2.length c0_2) := (blk_cell B1.out 2).trans rfl; have ha3 : w1.cell? ⟨G1, 3, none⟩ = some (.bool false) := (blk_cell B1.out 3).trans rfl)
     | (go_at_call 32; refine (HN.out _ (below_alloc HB1.out _) w1.heap.size (by simp) (by simp) (by simp)).mono ?_; rintro e w4 ⟨A4, m4, rfl, hC, hm, hb⟩; have HC4 := aM hC; have B4 := aM (blk_below (blk_alloc B1.out _) hb); have HB4 := aM (below_then (below_alloc HB1.out _) (below_alloc HB1.out _).size hb); clear hC hm hb B1 ha0 ha1 ha2 ha3)
     | (go_at_call 31; refine (HC.out _ _ _ HC4.out).mono ?_; rintro e w5 ⟨rfl, hb⟩; have B5 := aM (blk_below B4.out hb); have HB5 := aM (below_then HB4.out HB4.out.size hb); clear hb B4; have hb0 : w5.cell? ⟨G1, 0, none⟩ = some (.slice A0_0 l0_0.length c0_0) := (blk_cell B5.out 0).trans rfl; have hb1 : w5.cell? ⟨G1, 1, none⟩ = some (.slice A0_1 l0_1.length c0_1) := (blk_cell B5.out 1).trans rfl; have hb2 : w5.cell? ⟨G1, 2, none⟩ = some (.slice A0_2 l0_2.length c0_2) := (blk_cell B5.out 2).trans rfl; have hb3 : w5.cell? ⟨G1, 3, none⟩ = some (.bool false) := (blk_cell B5.out 3).trans rfl))
    all_goals
     go_ret
     exact ⟨by first | (simp; done) | (simp_all; done), HB5.out⟩
  case true =>
   cases b3
   all_goals
    go_enter Try.func7, Try.ntmps7
    go_wp2_with (first
     | ((with_reducible refine gate_dst (N := 1) rfl ?_); refine bx 1 #[.slice A0_0 l0_0.length c0_0, .slice A0_1 l0_1.length c0_1, .slice A0_2 l0_2.length c0_2, .bool true] 25 ?_; intro G1 hG w1 hbox hb; have B1 := aM hbox; have HB1 := aM (below_then HB.out HB.out.size hb); clear hbox hb hG; have ha0 : w1.cell? ⟨G1, 0, none⟩ = some (.slice A0_0 l0_0.length c0_0) := (blk_cell B1.out 0).trans rfl; have ha1 : w1.cell? ⟨G1, 1, none⟩ = some (.slice A0_1 l0_1.length c0_1) := (blk_cell B1.out 1).trans rfl; have ha2 : w1.cell? ⟨G1, 2, none⟩ = some (.slice A0_2 l0_2.length c0_2) := (blk_cell B1.out 2).trans rfl; have ha3 : w1.cell? ⟨G1, 3, none⟩ = some (.bool true) := (blk_cell B1.out 3).trans rfl)
     | (go_at_call 32; refine (HN.out _ (below_alloc HB1.out _) w1.heap.size (by simp) (by simp) (by simp)).mono ?_; rintro e w4 ⟨A4, m4, rfl, hC, hm, hb⟩; have HC4 := aM hC; have B4 := aM (blk_below (blk_alloc B1.out _) hb); have HB4 := aM (below_then (below_alloc HB1.out _) (below_alloc HB1.out _).size hb); clear hC hm hb B1 ha0 ha1 ha2 ha3)
     | (go_at_call 31; refine (HC.out _ _ _ HC4.out).mono ?_; rintro e w5 ⟨rfl, hb⟩; have B5 := aM (blk_below B4.out hb); have HB5 := aM (below_then HB4.out HB4.out.size hb); clear hb B4; have hb0 : w5.cell? ⟨G1, 0, none⟩ = some (.slice A0_0 l0_0.length c0_0) := (blk_cell B5.out 0).trans rfl; have hb1 : w5.cell? ⟨G1, 1, none⟩ = some (.slice A0_1 l0_1.length c0_1) := (blk_cell B5.out 1).trans rfl; have hb2 : w5.cell? ⟨G1, 2, none⟩ = some (.slice A0_2 l0_2.length c0_2) := (blk_cell B5.out 2).trans rfl; have hb3 : w5.cell? ⟨G1, 3, none⟩ = some (.bool true) := (blk_cell B5.out 3).trans rfl))
    all_goals
     go_ret
     exact ⟨by first | (simp; done) | (simp_all; done), HB5.out⟩
/-! ### impl_ValOk: function 8 -/
def impl_ValOk.f (l0 : List Int) : Option (Bool) := (impl_within.f l0 3 10000).bind fun t881 => (some t881)
theorem impl_ValOk.calls (A0 : Option Addr) (c0 : Nat) (l0 : List Int) (r : Bool) (w : World) (hr0 : Kd.C (Kd.int .i64) w A0 l0.length l0) (hc0 : l0.length ≤ c0) (h : impl_ValOk.f l0 = some r) :
  Calls Try.prog 8 #[.slice A0 l0.length c0] w fun e w' => e = .returned (.bool r) ∧ Below w.heap.size w w' := by
 have HR0 := aM hr0; have HC0 := aM hc0; clear hr0 hc0; have HB := aM (Below.refl w.heap.size w); have H : ((impl_within.f l0 3 10000).bind fun t881 => (some t881)) = some r := h
 clear h; obtain ⟨t881, A2, H⟩ := bS H
 try dsimp only at H
 obtain rfl := Option.some.inj H
 go_enter Try.func8, Try.ntmps8
 go_wp2_with (first | (refine gL (some 4) Try.func33 #[.slice A0 l0.length c0, .int .i64 3, .int .i64 10000] ?_; (with_reducible refine (impl_within.calls _ _ l0 3 10000 t881 _ (by exact lC HR0.out) HC0.out A2.out).mono ?_); rintro e w3 ⟨rfl, hb⟩; refine ⟨_, rfl, ?_⟩; replace HB := aM (bj HB.out hb); (try clear hb)))
 go_ret
 exact ⟨er, by exact lB HB.out⟩
-- NOT PRINTED: function 60 (impl_TrtOk_1)
/-! ### impl_ArgOk: function 9 -/
def impl_ArgOk.f (l0 : List Int) : Option (Bool) := (impl_within.f l0 2 9).bind fun t825 => (some t825)
set_option maxHeartbeats 8000000 in
theorem impl_ArgOk.calls (A0 : Option Addr) (c0 : Nat) (l0 : List Int) (r : Bool) (w : World) (hr0 : Kd.C (Kd.int .i64) w A0 l0.length l0) (hc0 : l0.length ≤ c0) (h : impl_ArgOk.f l0 = some r) :
  Calls Try.prog 9 #[.slice A0 l0.length c0] w fun e w' => e = .returned (.bool r) ∧ Below w.heap.size w w' := by
 have HR0 := aM hr0; have HC0 := aM hc0; clear hr0 hc0; have HB := aM (Below.refl w.heap.size w); have H : ((impl_within.f l0 2 9).bind fun t825 => (some t825)) = some r := h
 clear h; obtain ⟨t825, A2, H⟩ := bS H
 try dsimp only at H
 obtain rfl := Option.some.inj H
 go_enter Try.func9, Try.ntmps9
 go_wp2_with (first | (refine gL (some 4) Try.func33 #[.slice A0 l0.length c0, .int .i64 2, .int .i64 9] ?_; (with_reducible refine (impl_within.calls _ _ l0 2 9 t825 _ (by exact lC HR0.out) HC0.out A2.out).mono ?_); rintro e w3 ⟨rfl, hb⟩; refine ⟨_, rfl, ?_⟩; replace HB := aM (bj HB.out hb); (try clear hb)))
 go_ret
 exact ⟨er, by exact lB HB.out⟩
/-! ### impl_dot: function 55 -/
def impl_dot.l0 : Nat → List Int → Int → List Int → Int → Int → Option (Int)
 | 0, _, _, _, _, _ => none
 | k + 1, x1, x5, x8, x9, x10 => if x10 < x9 then (if 0 ≤ x10 then (if x10 < (x8.length : Int) then (if x10 < (x1.length : Int) then (impl_dot.l0 k x1 (wrap64 (x5 + (wrap64 ((rd x8 x10) * (rd x1 x10))))) x8 x9 (wrap64 (x10 + 1))) else (none)) else (none)) else (none)) else (some x5)
def impl_dot.f (k : Nat) (l0 : List Int) (l1 : List Int) : Option (Int) := impl_dot.l0 k l1 0 l0 (l0.length : Int) 0
theorem impl_dot.mono_l : ∀ k, (∀ y0 y1 y2 y3 y4, LeO (impl_dot.l0 k y0 y1 y2 y3 y4) (impl_dot.l0 (k + 1) y0 y1 y2 y3 y4))
 | 0 => fun _ _ _ _ _ r h => by simp [impl_dot.l0] at h
 | k + 1 => by
  have ih0 := impl_dot.mono_l k
  ·intro y0 y1 y2 y3 y4
   unfold impl_dot.l0
   exact mo
theorem impl_dot.mono : ∀ a0 a1 k, LeO (impl_dot.f k a0 a1) (impl_dot.f (k + 1) a0 a1) := by
 intro a0 a1 k
 have ih0 := impl_dot.mono_l k
 unfold impl_dot.f
 exact mo
theorem impl_dot.calls (k : Nat) (A0 : Option Addr) (c0 : Nat) (l0 : List Int) (A1 : Option Addr) (c1 : Nat) (l1 : List Int) (r : Int) (w : World) (hr0 : Kd.C (Kd.int .i64) w A0 l0.length l0) (hc0 : l0.length ≤ c0) (hr1 : Kd.C (Kd.int .i64) w A1 l1.length l1) (hc1 : l1.length ≤ c1) (h : impl_dot.f k l0 l1 = some r) :
  Calls Try.prog 55 #[.slice A0 l0.length c0, .slice A1 l1.length c1] w fun e w' => e = .returned (.int .i64 r) ∧ Drawn0 w w' := by
 have HR0 := aM hr0; have HC0 := aM hc0; clear hr0 hc0; have HR1 := aM hr1; have HC1 := aM hc1; clear hr1 hc1; have H : (impl_dot.l0 k l1 0 l0 (l0.length : Int) 0) = some r := h
 clear h; have H' := aM H
 clear H; go_enter Try.func55, Try.ntmps55
 go_wp2
 go_loopg [5, 10] k (fun kq v5 v10 w' => ∃ (x5_1 : Int) (x10_1 : Int), v5 = .int .i64 x5_1 ∧ v10 = .int .i64 x10_1 ∧ Aside0 (impl_dot.l0 kq l1 x5_1 l0 (l0.length : Int) x10_1 = some r) ∧ Aside0 (kq ≤ k) ∧ Drawn0 w w')
 case atStart => exact ⟨(0), (0), sr, sr, H', ⟨Nat.le_refl _⟩, by repeat (first | exact Drawn0.refl _ | apply Drawn0.step)⟩
 case round =>
  clear H'
  (try clear c1); (try clear p2)
  obtain ⟨x5_1, x10_1, rfl, rfl, HA, HK1, ⟨m1, rfl⟩⟩ := hrel
  cases gk with
  | zero => exact absurd HA.out (by simp [impl_dot.l0])
  | succ k1 =>
   have H := HA.out
   clear HA; simp only [impl_dot.l0] at H
   by_cases c3 : x10_1 < (l0.length : Int)
   ·rw [if_pos c3] at H; replace c3 := decide_eq_true c3; obtain ⟨c4, H⟩ := iD H; obtain ⟨c5, H⟩ := iD H; obtain ⟨c6, H⟩ := iD H; have H' := aM H
    clear H; have p888 : 0 ≤ (x10_1 : Int) := od; have q888 : x10_1 < (l0.length : Int) := od; obtain ⟨ad888, e888, hx888_0⟩ := Kd.at_int HR0.out x10_1 p888 q888
    cases e888; replace p888 := eq_true p888; replace q888 := eq_true q888; have p889 : 0 ≤ (x10_1 : Int) := od; have q889 : x10_1 < (l1.length : Int) := od; obtain ⟨ad889, e889, hx889_0⟩ := Kd.at_int HR1.out x10_1 p889 q889
    cases e889; replace p889 := eq_true p889; replace q889 := eq_true q889; go_wp2
    go_roundg k1
    case measure => have := HK1.out; omega
    case rel => exact ⟨(wrap64 (x5_1 + (wrap64 ((rd l0 x10_1) * (rd l1 x10_1))))), (wrap64 (x10_1 + 1)), sr, sr, H', ⟨by have := HK1.out; omega⟩, by repeat (first | exact Drawn0.refl _ | apply Drawn0.step)⟩
   ·rw [if_neg c3] at H; replace c3 := decide_eq_false c3; obtain rfl := Option.some.inj H
    go_wp2
    go_ret
    exact ⟨by first | rfl | (simp; done) | (simp [*]; done), by repeat (first | exact Drawn0.refl _ | apply Drawn0.step)⟩
-- NOT PRINTED: function 53 (impl_TrtKeeps_1)
/-! ### impl_FrmForm_at: function 34 -/
def impl_FrmForm_at.f (k : Nat) (l0_0 : List Int) (l0_1 : List Int) (a0_2 : Int) (l1 : List Int) (l2 : List Int) : Option (Int) := (impl_dot.f k l0_0 l1).bind fun t829 => ((impl_dot.f k l0_1 l2).bind fun t830 => (some (wrap64 ((wrap64 (t829 + t830)) + a0_2))))
theorem impl_FrmForm_at.mono : ∀ a0 a1 a2 a3 a4 k, LeO (impl_FrmForm_at.f k a0 a1 a2 a3 a4) (impl_FrmForm_at.f (k + 1) a0 a1 a2 a3 a4) := by
 intro a0 a1 a2 a3 a4 k
 unfold impl_FrmForm_at.f
 have := @impl_dot.mono
 exact mo
set_option maxHeartbeats 8000000 in
theorem impl_FrmForm_at.calls (k : Nat) (A0_0 : Option Addr) (c0_0 : Nat) (l0_0 : List Int) (A0_1 : Option Addr) (c0_1 : Nat) (l0_1 : List Int) (a0_2 : Int) (A1 : Option Addr) (c1 : Nat) (l1 : List Int) (A2 : Option Addr) (c2 : Nat) (l2 : List Int) (r : Int) (w : World) (hr0_0 : Kd.C (Kd.int .i64) w A0_0 l0_0.length l0_0) (hc0_0 : l0_0.length ≤ c0_0) (hr0_1 : Kd.C (Kd.int .i64) w A0_1 l0_1.length l0_1) (hc0_1 : l0_1.length ≤ c0_1) (hr1 : Kd.C (Kd.int .i64) w A1 l1.length l1) (hc1 : l1.length ≤ c1) (hr2 : Kd.C (Kd.int .i64) w A2 l2.length l2) (hc2 : l2.length ≤ c2) (h : impl_FrmForm_at.f k l0_0 l0_1 a0_2 l1 l2 = some r) :
  Calls Try.prog 34 #[.agg #[.slice A0_0 l0_0.length c0_0, .slice A0_1 l0_1.length c0_1, .int .i64 a0_2], .slice A1 l1.length c1, .slice A2 l2.length c2] w fun e w' => e = .returned (.int .i64 r) ∧ Below w.heap.size w w' := by
 have hu34 := Try.underlying34; have HR0_0 := aM hr0_0; have HC0_0 := aM hc0_0; clear hr0_0 hc0_0; have HR0_1 := aM hr0_1; have HC0_1 := aM hc0_1; clear hr0_1 hc0_1; have HR1 := aM hr1; have HC1 := aM hc1; clear hr1 hc1; have HR2 := aM hr2; have HC2 := aM hc2; clear hr2 hc2; have HB := aM (Below.refl w.heap.size w); have H : ((impl_dot.f k l0_0 l1).bind fun t829 => ((impl_dot.f k l0_1 l2).bind fun t830 => (some (wrap64 ((wrap64 (t829 + t830)) + a0_2))))) = some r := h
 clear h; obtain ⟨t829, A4, H⟩ := bS H
 try dsimp only at H
 obtain ⟨t830, A5, H⟩ := bS H
 try dsimp only at H
 obtain rfl := Option.some.inj H
 go_enter Try.func34, Try.ntmps34
 go_wp2_with (first | ((with_reducible refine gate_dst (N := 3) rfl ?_); refine bx 3 #[.slice A0_0 l0_0.length c0_0, .slice A0_1 l0_1.length c0_1, .int .i64 a0_2] 34 ?_; intro gb828 hg w6 hbox hb; have BK828 := aM (hbox); have GW828 := aM (gz hg HB.out); have IGW828 := wn GW828.out; have GE828 := aM (gz hg HB.out); have IGE828 := wn GE828.out; replace HB := aM (bj HB.out hb); clear hb hbox hg; obtain ⟨hcz7_0, hcz7_1, hcz7_2, hfz7_0, hfz7_1, hfz7_2⟩ := cf3 BK828.out) | (go_at_call 55; (with_reducible refine (impl_dot.calls k _ _ l0_0 _ _ l1 t829 _ (by exact lC <| (Kd.C_below HR0_0.out HB.out)) HC0_0.out (by exact lC <| (Kd.C_below HR1.out HB.out)) HC1.out A4.out).mono ?_); rintro e w' ⟨rfl, ⟨nd, rfl⟩⟩; (try first | exact ⟨rfl, _, World.drewN_drewN _ _ _⟩ | exact ⟨rfl, _, Eq.trans (World.drewN_drewN _ _ _) (congrArg (World.drewN _) (Nat.add_assoc _ _ _))⟩)) | (go_at_call 55; (with_reducible refine (impl_dot.calls k _ _ l0_1 _ _ l2 t830 _ ?side1 ?side2 ?side3 ?side4 A5.out).mono ?_); (case side1 => repeat (first | exact (Kd.C_below HR0_1.out (by exact jB HB.out)) | (with_reducible refine Kd.C_alloc ?_ _) | (with_reducible refine Kd.C_drewN ?_ _) | (with_reducible refine Kd.C_drew ?_))); (case side2 => exact HC0_1.out); (case side3 => repeat (first | exact (Kd.C_below HR2.out (by exact jB HB.out)) | (with_reducible refine Kd.C_alloc ?_ _) | (with_reducible refine Kd.C_drewN ?_ _) | (with_reducible refine Kd.C_drew ?_))); (case side4 => exact HC2.out); rintro e w' ⟨rfl, ⟨nd, rfl⟩⟩; (try first | exact ⟨rfl, _, World.drewN_drewN _ _ _⟩ | exact ⟨rfl, _, Eq.trans (World.drewN_drewN _ _ _) (congrArg (World.drewN _) (Nat.add_assoc _ _ _))⟩)))
 repeat (go_quiet (first | ((with_reducible refine gate_dst (N := 3) rfl ?_); refine bx 3 #[.slice A0_0 l0_0.length c0_0, .slice A0_1 l0_1.length c0_1, .int .i64 a0_2] 34 ?_; intro gb828 hg w6 hbox hb; have BK828 := aM (hbox); have GW828 := aM (gz hg HB.out); have IGW828 := wn GW828.out; have GE828 := aM (gz hg HB.out); have IGE828 := wn GE828.out; replace HB := aM (bj HB.out hb); clear hb hbox hg; obtain ⟨hcz7_0, hcz7_1, hcz7_2, hfz7_0, hfz7_1, hfz7_2⟩ := cf3 BK828.out) | (go_at_call 55; (with_reducible refine (impl_dot.calls k _ _ l0_0 _ _ l1 t829 _ (by exact lC <| (Kd.C_below HR0_0.out HB.out)) HC0_0.out (by exact lC <| (Kd.C_below HR1.out HB.out)) HC1.out A4.out).mono ?_); rintro e w' ⟨rfl, ⟨nd, rfl⟩⟩; (try first | exact ⟨rfl, _, World.drewN_drewN _ _ _⟩ | exact ⟨rfl, _, Eq.trans (World.drewN_drewN _ _ _) (congrArg (World.drewN _) (Nat.add_assoc _ _ _))⟩)) | (go_at_call 55; (with_reducible refine (impl_dot.calls k _ _ l0_1 _ _ l2 t830 _ ?side1 ?side2 ?side3 ?side4 A5.out).mono ?_); (case side1 => repeat (first | exact (Kd.C_below HR0_1.out (by exact jB HB.out)) | (with_reducible refine Kd.C_alloc ?_ _) | (with_reducible refine Kd.C_drewN ?_ _) | (with_reducible refine Kd.C_drew ?_))); (case side2 => exact HC0_1.out); (case side3 => repeat (first | exact (Kd.C_below HR2.out (by exact jB HB.out)) | (with_reducible refine Kd.C_alloc ?_ _) | (with_reducible refine Kd.C_drewN ?_ _) | (with_reducible refine Kd.C_drew ?_))); (case side4 => exact HC2.out); rintro e w' ⟨rfl, ⟨nd, rfl⟩⟩; (try first | exact ⟨rfl, _, World.drewN_drewN _ _ _⟩ | exact ⟨rfl, _, Eq.trans (World.drewN_drewN _ _ _) (congrArg (World.drewN _) (Nat.add_assoc _ _ _))⟩))); try go_wp2_with (first | ((with_reducible refine gate_dst (N := 3) rfl ?_); refine bx 3 #[.slice A0_0 l0_0.length c0_0, .slice A0_1 l0_1.length c0_1, .int .i64 a0_2] 34 ?_; intro gb828 hg w6 hbox hb; have BK828 := aM (hbox); have GW828 := aM (gz hg HB.out); have IGW828 := wn GW828.out; have GE828 := aM (gz hg HB.out); have IGE828 := wn GE828.out; replace HB := aM (bj HB.out hb); clear hb hbox hg; obtain ⟨hcz7_0, hcz7_1, hcz7_2, hfz7_0, hfz7_1, hfz7_2⟩ := cf3 BK828.out) | (go_at_call 55; (with_reducible refine (impl_dot.calls k _ _ l0_0 _ _ l1 t829 _ (by exact lC <| (Kd.C_below HR0_0.out HB.out)) HC0_0.out (by exact lC <| (Kd.C_below HR1.out HB.out)) HC1.out A4.out).mono ?_); rintro e w' ⟨rfl, ⟨nd, rfl⟩⟩; (try first | exact ⟨rfl, _, World.drewN_drewN _ _ _⟩ | exact ⟨rfl, _, Eq.trans (World.drewN_drewN _ _ _) (congrArg (World.drewN _) (Nat.add_assoc _ _ _))⟩)) | (go_at_call 55; (with_reducible refine (impl_dot.calls k _ _ l0_1 _ _ l2 t830 _ ?side1 ?side2 ?side3 ?side4 A5.out).mono ?_); (case side1 => repeat (first | exact (Kd.C_below HR0_1.out (by exact jB HB.out)) | (with_reducible refine Kd.C_alloc ?_ _) | (with_reducible refine Kd.C_drewN ?_ _) | (with_reducible refine Kd.C_drew ?_))); (case side2 => exact HC0_1.out); (case side3 => repeat (first | exact (Kd.C_below HR2.out (by exact jB HB.out)) | (with_reducible refine Kd.C_alloc ?_ _) | (with_reducible refine Kd.C_drewN ?_ _) | (with_reducible refine Kd.C_drew ?_))); (case side4 => exact HC2.out); rintro e w' ⟨rfl, ⟨nd, rfl⟩⟩; (try first | exact ⟨rfl, _, World.drewN_drewN _ _ _⟩ | exact ⟨rfl, _, Eq.trans (World.drewN_drewN _ _ _) (congrArg (World.drewN _) (Nat.add_assoc _ _ _))⟩))))
 go_ret
 exact ⟨er, by exact jB HB.out⟩
/-! ### impl_FrmAt: function 10 -/
def impl_FrmAt.f (k : Nat) (l0_0 : List Int) (l0_1 : List Int) (a0_2 : Int) (l1 : List Int) (l2 : List Int) : Option (Int × Bool) := (impl_FrmOk.f l0_0 l0_1 a0_2).bind fun t832 => (if t832 = true then ((impl_ValOk.f l1).bind fun t833 => (if t833 = true then ((impl_ArgOk.f l2).bind fun t834 => (if t834 = true then ((impl_FrmForm_at.f k l0_0 l0_1 a0_2 l1 l2).bind fun t835 => (some (t835, true))) else (some (0, false)))) else (some (0, false)))) else (some (0, false)))
theorem impl_FrmAt.mono : ∀ a0 a1 a2 a3 a4 k, LeO (impl_FrmAt.f k a0 a1 a2 a3 a4) (impl_FrmAt.f (k + 1) a0 a1 a2 a3 a4) := by
 intro a0 a1 a2 a3 a4 k
 unfold impl_FrmAt.f
 have := @impl_FrmForm_at.mono
 exact mo
set_option maxHeartbeats 8000000 in
theorem impl_FrmAt.calls (k : Nat) (A0_0 : Option Addr) (c0_0 : Nat) (l0_0 : List Int) (A0_1 : Option Addr) (c0_1 : Nat) (l0_1 : List Int) (a0_2 : Int) (A1 : Option Addr) (c1 : Nat) (l1 : List Int) (A2 : Option Addr) (c2 : Nat) (l2 : List Int) (r1 : Int) (r2 : Bool) (w : World) (hr0_0 : Kd.C (Kd.int .i64) w A0_0 l0_0.length l0_0) (hc0_0 : l0_0.length ≤ c0_0) (hr0_1 : Kd.C (Kd.int .i64) w A0_1 l0_1.length l0_1) (hc0_1 : l0_1.length ≤ c0_1) (hr1 : Kd.C (Kd.int .i64) w A1 l1.length l1) (hc1 : l1.length ≤ c1) (hr2 : Kd.C (Kd.int .i64) w A2 l2.length l2) (hc2 : l2.length ≤ c2) (h : impl_FrmAt.f k l0_0 l0_1 a0_2 l1 l2 = some (r1, r2)) :
  Calls Try.prog 10 #[.agg #[.slice A0_0 l0_0.length c0_0, .slice A0_1 l0_1.length c0_1, .int .i64 a0_2], .slice A1 l1.length c1, .slice A2 l2.length c2] w fun e w' => e = .returned (.tuple #[.int .i64 r1, .bool r2]) ∧ Below w.heap.size w w' := by
 have hu34 := Try.underlying34; have HR0_0 := aM hr0_0; have HC0_0 := aM hc0_0; clear hr0_0 hc0_0; have HR0_1 := aM hr0_1; have HC0_1 := aM hc0_1; clear hr0_1 hc0_1; have HR1 := aM hr1; have HC1 := aM hc1; clear hr1 hc1; have HR2 := aM hr2; have HC2 := aM hc2; clear hr2 hc2; have HB := aM (Below.refl w.heap.size w); have H : ((impl_FrmOk.f l0_0 l0_1 a0_2).bind fun t832 => (if t832 = true then ((impl_ValOk.f l1).bind fun t833 => (if t833 = true then ((impl_ArgOk.f l2).bind fun t834 => (if t834 = true then ((impl_FrmForm_at.f k l0_0 l0_1 a0_2 l1 l2).bind fun t835 => (some (t835, true))) else (some (0, false)))) else (some (0, false)))) else (some (0, false)))) = some (r1, r2) := h
 clear h; obtain ⟨t832, A4, H⟩ := bS H
 try dsimp only at H
 by_cases c5 : t832 = true
 ·subst c5; rw [if_pos rfl] at H
  try dsimp only at H
  obtain ⟨t833, A6, H⟩ := bS H
  try dsimp only at H
  by_cases c7 : t833 = true
  ·subst c7; rw [if_pos rfl] at H
   try dsimp only at H
   obtain ⟨t834, A8, H⟩ := bS H
   try dsimp only at H
   by_cases c9 : t834 = true
   ·subst c9; rw [if_pos rfl] at H
    try dsimp only at H
    obtain ⟨t835, A10, H⟩ := bS H
    try dsimp only at H
    simp only [Option.some.injEq, Prod.mk.injEq] at H
    obtain ⟨rfl, rfl⟩ := H
    go_enter Try.func10, Try.ntmps10
    go_wp2_with (first | ((with_reducible refine gate_dst (N := 3) rfl ?_); refine bx 3 #[.slice A0_0 l0_0.length c0_0, .slice A0_1 l0_1.length c0_1, .int .i64 a0_2] 34 ?_; intro gb831 hg w11 hbox hb; have BK831 := aM (hbox); have GW831 := aM (gz hg HB.out); have IGW831 := wn GW831.out; have GE831 := aM (gz hg HB.out); have IGE831 := wn GE831.out; replace HB := aM (bj HB.out hb); clear hb hbox hg; obtain ⟨hcz12_0, hcz12_1, hcz12_2, hfz12_0, hfz12_1, hfz12_2⟩ := cf3 BK831.out) | (refine gL (some 9) Try.func30 #[.agg #[.slice A0_0 l0_0.length c0_0, .slice A0_1 l0_1.length c0_1, .int .i64 a0_2]] ?_; (with_reducible refine (impl_FrmOk.calls _ _ l0_0 _ _ l0_1 a0_2 true _ (by exact lC <| (Kd.C_below HR0_0.out HB.out)) HC0_0.out (by exact lC <| (Kd.C_below HR0_1.out HB.out)) HC0_1.out A4.out).mono ?_); rintro e w13 ⟨rfl, hb⟩; refine ⟨_, rfl, ?_⟩; replace BK831 := aM (bb BK831.out hb); replace HB := aM (bj HB.out hb); (try clear hb)) | (go_at_call 8; (with_reducible refine (impl_ValOk.calls _ _ l1 true _ (by exact lC <| (Kd.C_below HR1.out HB.out)) HC1.out A6.out).mono ?_); rintro e w14 ⟨rfl, hb⟩; replace BK831 := aM (bb BK831.out hb); replace HB := aM (bj HB.out hb); (try clear hb)) | (go_at_call 9; (with_reducible refine (impl_ArgOk.calls _ _ l2 true _ (by exact lC <| (Kd.C_below HR2.out HB.out)) HC2.out A8.out).mono ?_); rintro e w15 ⟨rfl, hb⟩; replace BK831 := aM (bb BK831.out hb); replace HB := aM (bj HB.out hb); (try clear hb); obtain ⟨hcz16_0, hcz16_1, hcz16_2, hfz16_0, hfz16_1, hfz16_2⟩ := cf3 BK831.out) | (refine gL (some 24) Try.func34 #[.agg #[.slice A0_0 l0_0.length c0_0, .slice A0_1 l0_1.length c0_1, .int .i64 a0_2], .slice A1 l1.length c1, .slice A2 l2.length c2] ?_; (with_reducible refine (impl_FrmForm_at.calls k _ _ l0_0 _ _ l0_1 a0_2 _ _ l1 _ _ l2 t835 _ (by exact lC <| (Kd.C_below HR0_0.out HB.out)) HC0_0.out (by exact lC <| (Kd.C_below HR0_1.out HB.out)) HC0_1.out (by exact lC <| (Kd.C_below HR1.out HB.out)) HC1.out (by exact lC <| (Kd.C_below HR2.out HB.out)) HC2.out A10.out).mono ?_); rintro e w17 ⟨rfl, hb⟩; refine ⟨_, rfl, ?_⟩; replace BK831 := aM (bb BK831.out hb); replace HB := aM (bj HB.out hb); (try clear hb)))
    go_ret2
    exact ⟨er, by exact jB HB.out⟩
   ·replace c9 := Bool.eq_false_iff.mpr c9
    subst c9; rw [if_neg nf] at H
    try dsimp only at H
    simp only [Option.some.injEq, Prod.mk.injEq] at H
    obtain ⟨rfl, rfl⟩ := H
    go_enter Try.func10, Try.ntmps10
    go_wp2_with (first | ((with_reducible refine gate_dst (N := 3) rfl ?_); refine bx 3 #[.slice A0_0 l0_0.length c0_0, .slice A0_1 l0_1.length c0_1, .int .i64 a0_2] 34 ?_; intro gb831 hg w18 hbox hb; have BK831 := aM (hbox); have GW831 := aM (gz hg HB.out); have IGW831 := wn GW831.out; have GE831 := aM (gz hg HB.out); have IGE831 := wn GE831.out; replace HB := aM (bj HB.out hb); clear hb hbox hg; obtain ⟨hcz19_0, hcz19_1, hcz19_2, hfz19_0, hfz19_1, hfz19_2⟩ := cf3 BK831.out) | (refine gL (some 9) Try.func30 #[.agg #[.slice A0_0 l0_0.length c0_0, .slice A0_1 l0_1.length c0_1, .int .i64 a0_2]] ?_; (with_reducible refine (impl_FrmOk.calls _ _ l0_0 _ _ l0_1 a0_2 true _ (by exact lC <| (Kd.C_below HR0_0.out HB.out)) HC0_0.out (by exact lC <| (Kd.C_below HR0_1.out HB.out)) HC0_1.out A4.out).mono ?_); rintro e w20 ⟨rfl, hb⟩; refine ⟨_, rfl, ?_⟩; replace BK831 := aM (bb BK831.out hb); replace HB := aM (bj HB.out hb); (try clear hb)) | (go_at_call 8; (with_reducible refine (impl_ValOk.calls _ _ l1 true _ (by exact lC <| (Kd.C_below HR1.out HB.out)) HC1.out A6.out).mono ?_); rintro e w21 ⟨rfl, hb⟩; replace BK831 := aM (bb BK831.out hb); replace HB := aM (bj HB.out hb); (try clear hb)) | (go_at_call 9; (with_reducible refine (impl_ArgOk.calls _ _ l2 false _ (by exact lC <| (Kd.C_below HR2.out HB.out)) HC2.out A8.out).mono ?_); rintro e w22 ⟨rfl, hb⟩; replace BK831 := aM (bb BK831.out hb); replace HB := aM (bj HB.out hb); (try clear hb)))
    go_ret2
    exact ⟨er, by exact jB HB.out⟩
  ·replace c7 := Bool.eq_false_iff.mpr c7
   subst c7; rw [if_neg nf] at H
   try dsimp only at H
   simp only [Option.some.injEq, Prod.mk.injEq] at H
   obtain ⟨rfl, rfl⟩ := H
   go_enter Try.func10, Try.ntmps10
   go_wp2_with (first | ((with_reducible refine gate_dst (N := 3) rfl ?_); refine bx 3 #[.slice A0_0 l0_0.length c0_0, .slice A0_1 l0_1.length c0_1, .int .i64 a0_2] 34 ?_; intro gb831 hg w23 hbox hb; have BK831 := aM (hbox); have GW831 := aM (gz hg HB.out); have IGW831 := wn GW831.out; have GE831 := aM (gz hg HB.out); have IGE831 := wn GE831.out; replace HB := aM (bj HB.out hb); clear hb hbox hg; obtain ⟨hcz24_0, hcz24_1, hcz24_2, hfz24_0, hfz24_1, hfz24_2⟩ := cf3 BK831.out) | (refine gL (some 9) Try.func30 #[.agg #[.slice A0_0 l0_0.length c0_0, .slice A0_1 l0_1.length c0_1, .int .i64 a0_2]] ?_; (with_reducible refine (impl_FrmOk.calls _ _ l0_0 _ _ l0_1 a0_2 true _ (by exact lC <| (Kd.C_below HR0_0.out HB.out)) HC0_0.out (by exact lC <| (Kd.C_below HR0_1.out HB.out)) HC0_1.out A4.out).mono ?_); rintro e w25 ⟨rfl, hb⟩; refine ⟨_, rfl, ?_⟩; replace BK831 := aM (bb BK831.out hb); replace HB := aM (bj HB.out hb); (try clear hb)) | (go_at_call 8; (with_reducible refine (impl_ValOk.calls _ _ l1 false _ (by exact lC <| (Kd.C_below HR1.out HB.out)) HC1.out A6.out).mono ?_); rintro e w26 ⟨rfl, hb⟩; replace BK831 := aM (bb BK831.out hb); replace HB := aM (bj HB.out hb); (try clear hb)))
   go_ret2
   exact ⟨er, by exact jB HB.out⟩
 ·replace c5 := Bool.eq_false_iff.mpr c5
  subst c5; rw [if_neg nf] at H
  try dsimp only at H
  simp only [Option.some.injEq, Prod.mk.injEq] at H
  obtain ⟨rfl, rfl⟩ := H
  go_enter Try.func10, Try.ntmps10
  go_wp2_with (first | ((with_reducible refine gate_dst (N := 3) rfl ?_); refine bx 3 #[.slice A0_0 l0_0.length c0_0, .slice A0_1 l0_1.length c0_1, .int .i64 a0_2] 34 ?_; intro gb831 hg w27 hbox hb; have BK831 := aM (hbox); have GW831 := aM (gz hg HB.out); have IGW831 := wn GW831.out; have GE831 := aM (gz hg HB.out); have IGE831 := wn GE831.out; replace HB := aM (bj HB.out hb); clear hb hbox hg; obtain ⟨hcz28_0, hcz28_1, hcz28_2, hfz28_0, hfz28_1, hfz28_2⟩ := cf3 BK831.out) | (refine gL (some 9) Try.func30 #[.agg #[.slice A0_0 l0_0.length c0_0, .slice A0_1 l0_1.length c0_1, .int .i64 a0_2]] ?_; (with_reducible refine (impl_FrmOk.calls _ _ l0_0 _ _ l0_1 a0_2 false _ (by exact lC <| (Kd.C_below HR0_0.out HB.out)) HC0_0.out (by exact lC <| (Kd.C_below HR0_1.out HB.out)) HC0_1.out A4.out).mono ?_); rintro e w29 ⟨rfl, hb⟩; refine ⟨_, rfl, ?_⟩; replace BK831 := aM (bb BK831.out hb); replace HB := aM (bj HB.out hb); (try clear hb)))
  go_ret2
  exact ⟨er, by exact jB HB.out⟩
/-! ### impl_rowOk: function 35 -/
def impl_rowOk.f (l0_0 : List (S34)) (l0_1 : List (S34)) (l0_2 : List (S34)) (a0_3 : Bool) (l1 : List Int) (l2 : List Int) : Option (Bool) := (impl_RowOk.f l0_0 l0_1 l0_2 a0_3).bind fun t837 => (if t837 = true then ((impl_ValOk.f l1).bind fun t838 => (if t838 = true then ((impl_ArgOk.f l2).bind fun t839 => (some t839)) else (some false))) else (some false))
set_option maxHeartbeats 8000000 in
theorem impl_rowOk.calls (A0_0 : Option Addr) (c0_0 : Nat) (l0_0 : List (S34)) (A0_1 : Option Addr) (c0_1 : Nat) (l0_1 : List (S34)) (A0_2 : Option Addr) (c0_2 : Nat) (l0_2 : List (S34)) (a0_3 : Bool) (A1 : Option Addr) (c1 : Nat) (l1 : List Int) (A2 : Option Addr) (c2 : Nat) (l2 : List Int) (r : Bool) (w : World) (hr0_0 : Kd.C k34 w A0_0 l0_0.length l0_0) (hc0_0 : l0_0.length ≤ c0_0) (hr0_1 : Kd.C k34 w A0_1 l0_1.length l0_1) (hc0_1 : l0_1.length ≤ c0_1) (hr0_2 : Kd.C k34 w A0_2 l0_2.length l0_2) (hc0_2 : l0_2.length ≤ c0_2) (hr1 : Kd.C (Kd.int .i64) w A1 l1.length l1) (hc1 : l1.length ≤ c1) (hr2 : Kd.C (Kd.int .i64) w A2 l2.length l2) (hc2 : l2.length ≤ c2) (h : impl_rowOk.f l0_0 l0_1 l0_2 a0_3 l1 l2 = some r) :
  Calls Try.prog 35 #[.agg #[.slice A0_0 l0_0.length c0_0, .slice A0_1 l0_1.length c0_1, .slice A0_2 l0_2.length c0_2, .bool a0_3], .slice A1 l1.length c1, .slice A2 l2.length c2] w fun e w' => e = .returned (.bool r) ∧ Below w.heap.size w w' := by
 have hu25 := Try.underlying25; have HR0_0 := aM hr0_0; have HC0_0 := aM hc0_0; clear hr0_0 hc0_0; have HR0_1 := aM hr0_1; have HC0_1 := aM hc0_1; clear hr0_1 hc0_1; have HR0_2 := aM hr0_2; have HC0_2 := aM hc0_2; clear hr0_2 hc0_2; have HR1 := aM hr1; have HC1 := aM hc1; clear hr1 hc1; have HR2 := aM hr2; have HC2 := aM hc2; clear hr2 hc2; have HB := aM (Below.refl w.heap.size w); have H : ((impl_RowOk.f l0_0 l0_1 l0_2 a0_3).bind fun t837 => (if t837 = true then ((impl_ValOk.f l1).bind fun t838 => (if t838 = true then ((impl_ArgOk.f l2).bind fun t839 => (some t839)) else (some false))) else (some false))) = some r := h
 clear h; obtain ⟨t837, A4, H⟩ := bS H
 try dsimp only at H
 by_cases c5 : t837 = true
 ·subst c5; rw [if_pos rfl] at H
  try dsimp only at H
  obtain ⟨t838, A6, H⟩ := bS H
  try dsimp only at H
  by_cases c7 : t838 = true
  ·subst c7; rw [if_pos rfl] at H
   try dsimp only at H
   obtain ⟨t839, A8, H⟩ := bS H
   try dsimp only at H
   obtain rfl := Option.some.inj H
   go_enter Try.func35, Try.ntmps35
   go_wp2_with (first | ((with_reducible refine gate_dst (N := 3) rfl ?_); refine bx 3 #[.slice A0_0 l0_0.length c0_0, .slice A0_1 l0_1.length c0_1, .slice A0_2 l0_2.length c0_2, .bool a0_3] 25 ?_; intro gb836 hg w9 hbox hb; have BK836 := aM (hbox); have GW836 := aM (gz hg HB.out); have IGW836 := wn GW836.out; have GE836 := aM (gz hg HB.out); have IGE836 := wn GE836.out; replace HB := aM (bj HB.out hb); clear hb hbox hg; have hcz10_0 : w9.cell? ⟨gb836, 0, none⟩ = some (.slice A0_0 l0_0.length c0_0) := (blk_cell BK836.out 0).trans rfl; have hcz10_1 : w9.cell? ⟨gb836, 1, none⟩ = some (.slice A0_1 l0_1.length c0_1) := (blk_cell BK836.out 1).trans rfl; have hcz10_2 : w9.cell? ⟨gb836, 2, none⟩ = some (.slice A0_2 l0_2.length c0_2) := (blk_cell BK836.out 2).trans rfl; have hcz10_3 : w9.cell? ⟨gb836, 3, none⟩ = some (.bool a0_3) := (blk_cell BK836.out 3).trans rfl; have hfz10_0 := blk_frozen BK836.out 0; have hfz10_1 := blk_frozen BK836.out 1; have hfz10_2 := blk_frozen BK836.out 2; have hfz10_3 := blk_frozen BK836.out 3) | (refine gL (some 8) Try.func7 #[.agg #[.slice A0_0 l0_0.length c0_0, .slice A0_1 l0_1.length c0_1, .slice A0_2 l0_2.length c0_2, .bool a0_3]] ?_; (with_reducible refine (impl_RowOk.calls _ _ l0_0 _ _ l0_1 _ _ l0_2 a0_3 true _ (by exact lC <| (Kd.C_below HR0_0.out HB.out)) HC0_0.out (by exact lC <| (Kd.C_below HR0_1.out HB.out)) HC0_1.out (by exact lC <| (Kd.C_below HR0_2.out HB.out)) HC0_2.out A4.out).mono ?_); rintro e w11 ⟨rfl, hb⟩; refine ⟨_, rfl, ?_⟩; replace BK836 := aM (bb BK836.out hb); replace HB := aM (bj HB.out hb); (try clear hb)) | (go_at_call 8; (with_reducible refine (impl_ValOk.calls _ _ l1 true _ (by exact lC <| (Kd.C_below HR1.out HB.out)) HC1.out A6.out).mono ?_); rintro e w12 ⟨rfl, hb⟩; replace BK836 := aM (bb BK836.out hb); replace HB := aM (bj HB.out hb); (try clear hb)) | (go_at_call 9; (with_reducible refine (impl_ArgOk.calls _ _ l2 t839 _ (by exact lC <| (Kd.C_below HR2.out HB.out)) HC2.out A8.out).mono ?_); rintro e w13 ⟨rfl, hb⟩; replace BK836 := aM (bb BK836.out hb); replace HB := aM (bj HB.out hb); (try clear hb)))
   go_ret
   exact ⟨er, by exact jB HB.out⟩
  ·replace c7 := Bool.eq_false_iff.mpr c7
   subst c7; rw [if_neg nf] at H
   try dsimp only at H
   obtain rfl := Option.some.inj H
   go_enter Try.func35, Try.ntmps35
   go_wp2_with (first | ((with_reducible refine gate_dst (N := 3) rfl ?_); refine bx 3 #[.slice A0_0 l0_0.length c0_0, .slice A0_1 l0_1.length c0_1, .slice A0_2 l0_2.length c0_2, .bool a0_3] 25 ?_; intro gb836 hg w14 hbox hb; have BK836 := aM (hbox); have GW836 := aM (gz hg HB.out); have IGW836 := wn GW836.out; have GE836 := aM (gz hg HB.out); have IGE836 := wn GE836.out; replace HB := aM (bj HB.out hb); clear hb hbox hg; have hcz15_0 : w14.cell? ⟨gb836, 0, none⟩ = some (.slice A0_0 l0_0.length c0_0) := (blk_cell BK836.out 0).trans rfl; have hcz15_1 : w14.cell? ⟨gb836, 1, none⟩ = some (.slice A0_1 l0_1.length c0_1) := (blk_cell BK836.out 1).trans rfl; have hcz15_2 : w14.cell? ⟨gb836, 2, none⟩ = some (.slice A0_2 l0_2.length c0_2) := (blk_cell BK836.out 2).trans rfl; have hcz15_3 : w14.cell? ⟨gb836, 3, none⟩ = some (.bool a0_3) := (blk_cell BK836.out 3).trans rfl; have hfz15_0 := blk_frozen BK836.out 0; have hfz15_1 := blk_frozen BK836.out 1; have hfz15_2 := blk_frozen BK836.out 2; have hfz15_3 := blk_frozen BK836.out 3) | (refine gL (some 8) Try.func7 #[.agg #[.slice A0_0 l0_0.length c0_0, .slice A0_1 l0_1.length c0_1, .slice A0_2 l0_2.length c0_2, .bool a0_3]] ?_; (with_reducible refine (impl_RowOk.calls _ _ l0_0 _ _ l0_1 _ _ l0_2 a0_3 true _ (by exact lC <| (Kd.C_below HR0_0.out HB.out)) HC0_0.out (by exact lC <| (Kd.C_below HR0_1.out HB.out)) HC0_1.out (by exact lC <| (Kd.C_below HR0_2.out HB.out)) HC0_2.out A4.out).mono ?_); rintro e w16 ⟨rfl, hb⟩; refine ⟨_, rfl, ?_⟩; replace BK836 := aM (bb BK836.out hb); replace HB := aM (bj HB.out hb); (try clear hb)) | (go_at_call 8; (with_reducible refine (impl_ValOk.calls _ _ l1 false _ (by exact lC <| (Kd.C_below HR1.out HB.out)) HC1.out A6.out).mono ?_); rintro e w17 ⟨rfl, hb⟩; replace BK836 := aM (bb BK836.out hb); replace HB := aM (bj HB.out hb); (try clear hb)))
   go_ret
   exact ⟨er, by exact jB HB.out⟩
 ·replace c5 := Bool.eq_false_iff.mpr c5
  subst c5; rw [if_neg nf] at H
  try dsimp only at H
  obtain rfl := Option.some.inj H
  go_enter Try.func35, Try.ntmps35
  go_wp2_with (first | ((with_reducible refine gate_dst (N := 3) rfl ?_); refine bx 3 #[.slice A0_0 l0_0.length c0_0, .slice A0_1 l0_1.length c0_1, .slice A0_2 l0_2.length c0_2, .bool a0_3] 25 ?_; intro gb836 hg w18 hbox hb; have BK836 := aM (hbox); have GW836 := aM (gz hg HB.out); have IGW836 := wn GW836.out; have GE836 := aM (gz hg HB.out); have IGE836 := wn GE836.out; replace HB := aM (bj HB.out hb); clear hb hbox hg; have hcz19_0 : w18.cell? ⟨gb836, 0, none⟩ = some (.slice A0_0 l0_0.length c0_0) := (blk_cell BK836.out 0).trans rfl; have hcz19_1 : w18.cell? ⟨gb836, 1, none⟩ = some (.slice A0_1 l0_1.length c0_1) := (blk_cell BK836.out 1).trans rfl; have hcz19_2 : w18.cell? ⟨gb836, 2, none⟩ = some (.slice A0_2 l0_2.length c0_2) := (blk_cell BK836.out 2).trans rfl; have hcz19_3 : w18.cell? ⟨gb836, 3, none⟩ = some (.bool a0_3) := (blk_cell BK836.out 3).trans rfl; have hfz19_0 := blk_frozen BK836.out 0; have hfz19_1 := blk_frozen BK836.out 1; have hfz19_2 := blk_frozen BK836.out 2; have hfz19_3 := blk_frozen BK836.out 3) | (refine gL (some 8) Try.func7 #[.agg #[.slice A0_0 l0_0.length c0_0, .slice A0_1 l0_1.length c0_1, .slice A0_2 l0_2.length c0_2, .bool a0_3]] ?_; (with_reducible refine (impl_RowOk.calls _ _ l0_0 _ _ l0_1 _ _ l0_2 a0_3 false _ (by exact lC <| (Kd.C_below HR0_0.out HB.out)) HC0_0.out (by exact lC <| (Kd.C_below HR0_1.out HB.out)) HC0_1.out (by exact lC <| (Kd.C_below HR0_2.out HB.out)) HC0_2.out A4.out).mono ?_); rintro e w20 ⟨rfl, hb⟩; refine ⟨_, rfl, ?_⟩; replace BK836 := aM (bb BK836.out hb); replace HB := aM (bj HB.out hb); (try clear hb)))
  go_ret
  exact ⟨er, by exact jB HB.out⟩
-- NOT PRINTED: function 36 (impl_RowFits_1)
/-! ### impl_RowFits: function 11, by hand -/
def atO (x : S34) (V R : List Int) : Option Int := impl_FrmForm_at.f (x.f0.length + x.f1.length + 10) x.f0 x.f1 x.f2 V R
theorem fits_pred (B1 B2 : Nat) (A1 : Option Addr) (c1 : Nat) (V : List Int) (hc1 : V.length ≤ c1) (A2 : Option Addr) (c2 : Nat) (R : List Int) (hc2 : R.length ≤ c2) (W : World) (A : Option Addr) (c : Nat) (A' : Option Addr) (c' : Nat) (x : S34) (hs : (atO x V R).isSome = true) (h0 : x.f0.length ≤ c) (r0 : Kd.C (Kd.int .i64) W A x.f0.length x.f0) (h1 : x.f1.length ≤ c') (r1 : Kd.C (Kd.int .i64) W A' x.f1.length x.f1)
  (rV : Kd.C (Kd.int .i64) W A1 V.length V) (rR : Kd.C (Kd.int .i64) W A2 R.length R) (hb1 : W.heap[B1]? = some (.cells #[.slice A1 V.length c1] 26 (0, 0))) (hb2 : W.heap[B2]? = some (.cells #[.slice A2 R.length c2] 26 (0, 0))) :
  Calls Try.prog 36 (#[.agg #[.slice A x.f0.length c, .slice A' x.f1.length c', .int .i64 x.f2]] ++ #[.pointer (some ⟨B1, 0, none⟩), .pointer (some ⟨B2, 0, none⟩)]) W fun e w' => e = .returned (.bool (decide ((atO x V R).getD 0 < 0))) ∧ Below W.heap.size W w' := by
 show Calls Try.prog 36 #[.agg #[.slice A x.f0.length c, .slice A' x.f1.length c', .int .i64 x.f2], .pointer (some ⟨B1, 0, none⟩), .pointer (some ⟨B2, 0, none⟩)] W _
 have hu := Try.underlying34
 obtain ⟨n, hn⟩ := Option.isSome_iff_exists.mp hs
 rw [hn]
 have HC := aM (fun (w : World) (hb : Below W.heap.size W w) => impl_FrmForm_at.calls _ A c x.f0 A' c' x.f1 x.f2 A1 c1 V A2 c2 R n w (Kd.C_below r0 hb) h0 (Kd.C_below r1 hb) h1 (Kd.C_below rV hb) hc1 (Kd.C_below rR hb) hc2 hn); have HB := aM (Below.refl W.heap.size W); have H1 := aM hb1; have H2 := aM hb2; clear r0 r1 rV rR hn hs hb1 hb2; rw [Option.getD_some]
 go_enter Try.func36, Try.ntmps36
 go_wp2_with (first
  | ((with_reducible refine gate_dst (N := 3) rfl ?_); refine bx 3 #[.slice A x.f0.length c, .slice A' x.f1.length c', .int .i64 x.f2] 34 ?_; intro G1 hG w1 hbox hb; have B1_ := aM hbox; have HB1 := aM (below_then HB.out HB.out.size hb); have hv1 : w1.cell? ⟨B1, 0, none⟩ = some (.slice A1 V.length c1) := (blk_cell (blk_below H1.out hb) 0).trans rfl; have hv2 : w1.cell? ⟨B2, 0, none⟩ = some (.slice A2 R.length c2) := (blk_cell (blk_below H2.out hb) 0).trans rfl; clear hbox hb hG; obtain ⟨ha0, ha1, ha2⟩ := cz3 B1_.out)
  | (go_at_call 34; refine (HC.out _ HB1.out).mono ?_; rintro e w3 ⟨rfl, hb⟩; have HB3 := aM (below_then HB1.out HB1.out.size hb); clear hb))
 go_ret
 exact ⟨rfl, HB3.out⟩
def impl_RowFits.f (l0_0 : List (S34)) (l0_1 : List (S34)) (l0_2 : List (S34)) (a0_3 : Bool) (l1 : List Int) (l2 : List Int) : Option (Bool) := (impl_rowOk.f l0_0 l0_1 l0_2 a0_3 l1 l2).bind fun o => if o = true then (if (l0_0.all fun x => (atO x l1 l2).isSome) = true then some (!(l0_0.any fun x => decide ((atO x l1 l2).getD 0 < 0))) else none) else some false
set_option maxHeartbeats 8000000 in
theorem impl_RowFits.calls (A0_0 : Option Addr) (c0_0 : Nat) (l0_0 : List (S34)) (A0_1 : Option Addr) (c0_1 : Nat) (l0_1 : List (S34)) (A0_2 : Option Addr) (c0_2 : Nat) (l0_2 : List (S34)) (a0_3 : Bool) (A1 : Option Addr) (c1 : Nat) (l1 : List Int) (A2 : Option Addr) (c2 : Nat) (l2 : List Int) (r : Bool) (w : World) (hr0_0 : Kd.C k34 w A0_0 l0_0.length l0_0) (hc0_0 : l0_0.length ≤ c0_0) (hr0_1 : Kd.C k34 w A0_1 l0_1.length l0_1) (hc0_1 : l0_1.length ≤ c0_1) (hr0_2 : Kd.C k34 w A0_2 l0_2.length l0_2) (hc0_2 : l0_2.length ≤ c0_2) (hr1 : Kd.C (Kd.int .i64) w A1 l1.length l1) (hc1 : l1.length ≤ c1) (hr2 : Kd.C (Kd.int .i64) w A2 l2.length l2) (hc2 : l2.length ≤ c2) (h : impl_RowFits.f l0_0 l0_1 l0_2 a0_3 l1 l2 = some r) :
  Calls Try.prog 11 #[.agg #[.slice A0_0 l0_0.length c0_0, .slice A0_1 l0_1.length c0_1, .slice A0_2 l0_2.length c0_2, .bool a0_3], .slice A1 l1.length c1, .slice A2 l2.length c2] w fun e w' => e = .returned (.bool r) ∧ Below w.heap.size w w' := by
 unfold impl_RowFits.f at h
 obtain ⟨o, ho, h⟩ := Option.bind_eq_some_iff.mp h
 have hu := Try.underlying25
 have HK := aM (fun (W : World) (hb : Below w.heap.size w W) => impl_rowOk.calls A0_0 c0_0 l0_0 A0_1 c0_1 l0_1 A0_2 c0_2 l0_2 a0_3 A1 c1 l1 A2 c2 l2 o W (Kd.C_below hr0_0 hb) hc0_0 (Kd.C_below hr0_1 hb) hc0_1 (Kd.C_below hr0_2 hb) hc0_2 (Kd.C_below hr1 hb) hc1 (Kd.C_below hr2 hb) hc2 ho); have HBw := aM (Below.refl w.heap.size w); clear ho
 cases o with
 | false =>
  obtain rfl := Option.some.inj h
  clear h hr0_0 hr0_1 hr0_2 hr1 hr2; cases a0_3
  case false =>
   go_enter Try.func11, Try.ntmps11
   go_wp2_with (first
    | ((with_reducible refine gate_dst (N := 3) rfl ?_); refine bx 3 #[.slice A0_0 l0_0.length c0_0, .slice A0_1 l0_1.length c0_1, .slice A0_2 l0_2.length c0_2, .bool false] 25 ?_; intro G1 hG w1 hbox hb; have B1 := aM hbox; have n9 := aM (below_then HBw.out HBw.out.size hb); clear HBw hbox hb hG; have HBw := n9; clear n9)
    | ((with_reducible refine gate_dst (N := 4) rfl ?_); refine bx 4 #[.slice A1 l1.length c1] 26 ?_; intro G2 hG w2 hbox hb; have B2 := aM hbox; have n1 := aM (blk_below B1.out hb); have n9 := aM (below_then HBw.out HBw.out.size hb); clear HBw hbox hb hG B1; have HBw := n9; have B1 := n1; clear n9 n1)
    | ((with_reducible refine gate_dst (N := 5) rfl ?_); refine bx 5 #[.slice A2 l2.length c2] 26 ?_; intro G3 hG w3 hbox hb; have B3 := aM hbox; have n1 := aM (blk_below B1.out hb); have n2 := aM (blk_below B2.out hb); have n9 := aM (below_then HBw.out HBw.out.size hb); clear HBw hbox hb hG B1 B2; have HBw := n9; have B1 := n1; have B2 := n2; clear n9 n1 n2; have ha0 : w3.cell? ⟨G1, 0, none⟩ = some (.slice A0_0 l0_0.length c0_0) := (blk_cell B1.out 0).trans rfl; have ha1 : w3.cell? ⟨G1, 1, none⟩ = some (.slice A0_1 l0_1.length c0_1) := (blk_cell B1.out 1).trans rfl; have ha2 : w3.cell? ⟨G1, 2, none⟩ = some (.slice A0_2 l0_2.length c0_2) := (blk_cell B1.out 2).trans rfl; have ha3 : w3.cell? ⟨G1, 3, none⟩ = some (.bool false) := (blk_cell B1.out 3).trans rfl; have hv : w3.cell? ⟨G2, 0, none⟩ = some (.slice A1 l1.length c1) := (blk_cell B2.out 0).trans rfl; have hw : w3.cell? ⟨G3, 0, none⟩ = some (.slice A2 l2.length c2) := (blk_cell B3.out 0).trans rfl)
    | (go_at_call 35; refine (HK.out _ HBw.out).mono ?_; rintro e w4 ⟨rfl, hb⟩; have n1 := aM (blk_below B1.out hb); have n2 := aM (blk_below B2.out hb); have n3 := aM (blk_below B3.out hb); have n9 := aM (below_then HBw.out HBw.out.size hb); clear HBw hb B1 B2 B3 ha0 ha1 ha2 ha3 hv hw; have HBw := n9; have B1 := n1; have B2 := n2; have B3 := n3; clear n9 n1 n2 n3; have hb0 : w4.cell? ⟨G1, 0, none⟩ = some (.slice A0_0 l0_0.length c0_0) := (blk_cell B1.out 0).trans rfl; have hb1 : w4.cell? ⟨G1, 1, none⟩ = some (.slice A0_1 l0_1.length c0_1) := (blk_cell B1.out 1).trans rfl; have hb2 : w4.cell? ⟨G1, 2, none⟩ = some (.slice A0_2 l0_2.length c0_2) := (blk_cell B1.out 2).trans rfl; have hb3 : w4.cell? ⟨G1, 3, none⟩ = some (.bool false) := (blk_cell B1.out 3).trans rfl)
    | (go_at_call 31; refine (HC.out _ HBw.out _ _ B2.out B3.out).mono ?_; rintro e w5 ⟨rfl, hb⟩; have n9 := aM (below_then HBw.out HBw.out.size hb); clear HBw hb; have HBw := n9; clear n9))
   go_ret
   exact ⟨by simp, HBw.out⟩
  case true =>
   go_enter Try.func11, Try.ntmps11
   go_wp2_with (first
    | ((with_reducible refine gate_dst (N := 3) rfl ?_); refine bx 3 #[.slice A0_0 l0_0.length c0_0, .slice A0_1 l0_1.length c0_1, .slice A0_2 l0_2.length c0_2, .bool true] 25 ?_; intro G1 hG w1 hbox hb; have B1 := aM hbox; have n9 := aM (below_then HBw.out HBw.out.size hb); clear HBw hbox hb hG; have HBw := n9; clear n9)
    | ((with_reducible refine gate_dst (N := 4) rfl ?_); refine bx 4 #[.slice A1 l1.length c1] 26 ?_; intro G2 hG w2 hbox hb; have B2 := aM hbox; have n1 := aM (blk_below B1.out hb); have n9 := aM (below_then HBw.out HBw.out.size hb); clear HBw hbox hb hG B1; have HBw := n9; have B1 := n1; clear n9 n1)
    | ((with_reducible refine gate_dst (N := 5) rfl ?_); refine bx 5 #[.slice A2 l2.length c2] 26 ?_; intro G3 hG w3 hbox hb; have B3 := aM hbox; have n1 := aM (blk_below B1.out hb); have n2 := aM (blk_below B2.out hb); have n9 := aM (below_then HBw.out HBw.out.size hb); clear HBw hbox hb hG B1 B2; have HBw := n9; have B1 := n1; have B2 := n2; clear n9 n1 n2; have ha0 : w3.cell? ⟨G1, 0, none⟩ = some (.slice A0_0 l0_0.length c0_0) := (blk_cell B1.out 0).trans rfl; have ha1 : w3.cell? ⟨G1, 1, none⟩ = some (.slice A0_1 l0_1.length c0_1) := (blk_cell B1.out 1).trans rfl; have ha2 : w3.cell? ⟨G1, 2, none⟩ = some (.slice A0_2 l0_2.length c0_2) := (blk_cell B1.out 2).trans rfl; have ha3 : w3.cell? ⟨G1, 3, none⟩ = some (.bool true) := (blk_cell B1.out 3).trans rfl; have hv : w3.cell? ⟨G2, 0, none⟩ = some (.slice A1 l1.length c1) := (blk_cell B2.out 0).trans rfl; have hw : w3.cell? ⟨G3, 0, none⟩ = some (.slice A2 l2.length c2) := (blk_cell B3.out 0).trans rfl)
    | (go_at_call 35; refine (HK.out _ HBw.out).mono ?_; rintro e w4 ⟨rfl, hb⟩; have n1 := aM (blk_below B1.out hb); have n2 := aM (blk_below B2.out hb); have n3 := aM (blk_below B3.out hb); have n9 := aM (below_then HBw.out HBw.out.size hb); clear HBw hb B1 B2 B3 ha0 ha1 ha2 ha3 hv hw; have HBw := n9; have B1 := n1; have B2 := n2; have B3 := n3; clear n9 n1 n2 n3; have hb0 : w4.cell? ⟨G1, 0, none⟩ = some (.slice A0_0 l0_0.length c0_0) := (blk_cell B1.out 0).trans rfl; have hb1 : w4.cell? ⟨G1, 1, none⟩ = some (.slice A0_1 l0_1.length c0_1) := (blk_cell B1.out 1).trans rfl; have hb2 : w4.cell? ⟨G1, 2, none⟩ = some (.slice A0_2 l0_2.length c0_2) := (blk_cell B1.out 2).trans rfl; have hb3 : w4.cell? ⟨G1, 3, none⟩ = some (.bool true) := (blk_cell B1.out 3).trans rfl)
    | (go_at_call 31; refine (HC.out _ HBw.out _ _ B2.out B3.out).mono ?_; rintro e w5 ⟨rfl, hb⟩; have n9 := aM (below_then HBw.out HBw.out.size hb); clear HBw hb; have HBw := n9; clear n9))
   go_ret
   exact ⟨by simp, HBw.out⟩
 | true =>
  rw [if_pos rfl] at h
  by_cases hA : (l0_0.all fun x => (atO x l1 l2).isSome) = true
  case neg => rw [if_neg hA] at h; exact absurd h (by simp)
  case pos =>
   rw [if_pos hA] at h
   obtain rfl := Option.some.inj h
   clear h; have eg : ∀ args w, (callFunc 36 args).run Try.prog w = .ok (.enter 36 args) w := enters_of Try.func36 (by kernel_rfl) rfl
   have HC := aM (fun (W : World) (hb : Below w.heap.size w W) (G2 G3 : Nat) (q2 : W.heap[G2]? = some (.cells #[.slice A1 l1.length c1] 26 (0, 0))) (q3 : W.heap[G3]? = some (.cells #[.slice A2 l2.length c2] 26 (0, 0))) =>
    has_forms (fun x => decide ((atO x l1 l2).getD 0 < 0)) 36 #[.pointer (some ⟨G2, 0, none⟩), .pointer (some ⟨G3, 0, none⟩)] eg A0_0 c0_0 l0_0 W (Kd.C_below hr0_0 hb)
     (fun x hx W2 A c A' c' hb2 k0 r0 k1 r1 => fits_pred G2 G3 A1 c1 l1 hc1 A2 c2 l2 hc2 W2 A c A' c' x (List.all_eq_true.mp hA x hx) k0 r0 k1 r1 (Kd.C_below hr1 (below_then hb hb.size hb2)) (Kd.C_below hr2 (below_then hb hb.size hb2)) (blk_below q2 hb2) (blk_below q3 hb2)))
   clear hr0_0 hr0_1 hr0_2 hr1 hr2 hA; generalize (l0_0.any fun x => decide ((atO x l1 l2).getD 0 < 0)) = b3 at HC ⊢
   cases a0_3
   case false =>
    go_enter Try.func11, Try.ntmps11
    go_wp2_with (first
    | ((with_reducible refine gate_dst (N := 3) rfl ?_); refine bx 3 #[.slice A0_0 l0_0.length c0_0, .slice A0_1 l0_1.length c0_1, .slice A0_2 l0_2.length c0_2, .bool false] 25 ?_; intro G1 hG w1 hbox hb; have B1 := aM hbox; have n9 := aM (below_then HBw.out HBw.out.size hb); clear HBw hbox hb hG; have HBw := n9; clear n9)
    | ((with_reducible refine gate_dst (N := 4) rfl ?_); refine bx 4 #[.slice A1 l1.length c1] 26 ?_; intro G2 hG w2 hbox hb; have B2 := aM hbox; have n1 := aM (blk_below B1.out hb); have n9 := aM (below_then HBw.out HBw.out.size hb); clear HBw hbox hb hG B1; have HBw := n9; have B1 := n1; clear n9 n1)
    | ((with_reducible refine gate_dst (N := 5) rfl ?_); refine bx 5 #[.slice A2 l2.length c2] 26 ?_; intro G3 hG w3 hbox hb; have B3 := aM hbox; have n1 := aM (blk_below B1.out hb); have n2 := aM (blk_below B2.out hb); have n9 := aM (below_then HBw.out HBw.out.size hb); clear HBw hbox hb hG B1 B2; have HBw := n9; have B1 := n1; have B2 := n2; clear n9 n1 n2; have ha0 : w3.cell? ⟨G1, 0, none⟩ = some (.slice A0_0 l0_0.length c0_0) := (blk_cell B1.out 0).trans rfl; have ha1 : w3.cell? ⟨G1, 1, none⟩ = some (.slice A0_1 l0_1.length c0_1) := (blk_cell B1.out 1).trans rfl; have ha2 : w3.cell? ⟨G1, 2, none⟩ = some (.slice A0_2 l0_2.length c0_2) := (blk_cell B1.out 2).trans rfl; have ha3 : w3.cell? ⟨G1, 3, none⟩ = some (.bool false) := (blk_cell B1.out 3).trans rfl; have hv : w3.cell? ⟨G2, 0, none⟩ = some (.slice A1 l1.length c1) := (blk_cell B2.out 0).trans rfl; have hw : w3.cell? ⟨G3, 0, none⟩ = some (.slice A2 l2.length c2) := (blk_cell B3.out 0).trans rfl)
    | (go_at_call 35; refine (HK.out _ HBw.out).mono ?_; rintro e w4 ⟨rfl, hb⟩; have n1 := aM (blk_below B1.out hb); have n2 := aM (blk_below B2.out hb); have n3 := aM (blk_below B3.out hb); have n9 := aM (below_then HBw.out HBw.out.size hb); clear HBw hb B1 B2 B3 ha0 ha1 ha2 ha3 hv hw; have HBw := n9; have B1 := n1; have B2 := n2; have B3 := n3; clear n9 n1 n2 n3; have hb0 : w4.cell? ⟨G1, 0, none⟩ = some (.slice A0_0 l0_0.length c0_0) := (blk_cell B1.out 0).trans rfl; have hb1 : w4.cell? ⟨G1, 1, none⟩ = some (.slice A0_1 l0_1.length c0_1) := (blk_cell B1.out 1).trans rfl; have hb2 : w4.cell? ⟨G1, 2, none⟩ = some (.slice A0_2 l0_2.length c0_2) := (blk_cell B1.out 2).trans rfl; have hb3 : w4.cell? ⟨G1, 3, none⟩ = some (.bool false) := (blk_cell B1.out 3).trans rfl)
    | (go_at_call 31; refine (HC.out _ HBw.out _ _ B2.out B3.out).mono ?_; rintro e w5 ⟨rfl, hb⟩; have n9 := aM (below_then HBw.out HBw.out.size hb); clear HBw hb; have HBw := n9; clear n9))
    go_ret
    exact ⟨by simp, HBw.out⟩
   case true =>
    go_enter Try.func11, Try.ntmps11
    go_wp2_with (first
    | ((with_reducible refine gate_dst (N := 3) rfl ?_); refine bx 3 #[.slice A0_0 l0_0.length c0_0, .slice A0_1 l0_1.length c0_1, .slice A0_2 l0_2.length c0_2, .bool true] 25 ?_; intro G1 hG w1 hbox hb; have B1 := aM hbox; have n9 := aM (below_then HBw.out HBw.out.size hb); clear HBw hbox hb hG; have HBw := n9; clear n9)
    | ((with_reducible refine gate_dst (N := 4) rfl ?_); refine bx 4 #[.slice A1 l1.length c1] 26 ?_; intro G2 hG w2 hbox hb; have B2 := aM hbox; have n1 := aM (blk_below B1.out hb); have n9 := aM (below_then HBw.out HBw.out.size hb); clear HBw hbox hb hG B1; have HBw := n9; have B1 := n1; clear n9 n1)
    | ((with_reducible refine gate_dst (N := 5) rfl ?_); refine bx 5 #[.slice A2 l2.length c2] 26 ?_; intro G3 hG w3 hbox hb; have B3 := aM hbox; have n1 := aM (blk_below B1.out hb); have n2 := aM (blk_below B2.out hb); have n9 := aM (below_then HBw.out HBw.out.size hb); clear HBw hbox hb hG B1 B2; have HBw := n9; have B1 := n1; have B2 := n2; clear n9 n1 n2; have ha0 : w3.cell? ⟨G1, 0, none⟩ = some (.slice A0_0 l0_0.length c0_0) := (blk_cell B1.out 0).trans rfl; have ha1 : w3.cell? ⟨G1, 1, none⟩ = some (.slice A0_1 l0_1.length c0_1) := (blk_cell B1.out 1).trans rfl; have ha2 : w3.cell? ⟨G1, 2, none⟩ = some (.slice A0_2 l0_2.length c0_2) := (blk_cell B1.out 2).trans rfl; have ha3 : w3.cell? ⟨G1, 3, none⟩ = some (.bool true) := (blk_cell B1.out 3).trans rfl; have hv : w3.cell? ⟨G2, 0, none⟩ = some (.slice A1 l1.length c1) := (blk_cell B2.out 0).trans rfl; have hw : w3.cell? ⟨G3, 0, none⟩ = some (.slice A2 l2.length c2) := (blk_cell B3.out 0).trans rfl)
    | (go_at_call 35; refine (HK.out _ HBw.out).mono ?_; rintro e w4 ⟨rfl, hb⟩; have n1 := aM (blk_below B1.out hb); have n2 := aM (blk_below B2.out hb); have n3 := aM (blk_below B3.out hb); have n9 := aM (below_then HBw.out HBw.out.size hb); clear HBw hb B1 B2 B3 ha0 ha1 ha2 ha3 hv hw; have HBw := n9; have B1 := n1; have B2 := n2; have B3 := n3; clear n9 n1 n2 n3; have hb0 : w4.cell? ⟨G1, 0, none⟩ = some (.slice A0_0 l0_0.length c0_0) := (blk_cell B1.out 0).trans rfl; have hb1 : w4.cell? ⟨G1, 1, none⟩ = some (.slice A0_1 l0_1.length c0_1) := (blk_cell B1.out 1).trans rfl; have hb2 : w4.cell? ⟨G1, 2, none⟩ = some (.slice A0_2 l0_2.length c0_2) := (blk_cell B1.out 2).trans rfl; have hb3 : w4.cell? ⟨G1, 3, none⟩ = some (.bool true) := (blk_cell B1.out 3).trans rfl)
    | (go_at_call 31; refine (HC.out _ HBw.out _ _ B2.out B3.out).mono ?_; rintro e w5 ⟨rfl, hb⟩; have n9 := aM (below_then HBw.out HBw.out.size hb); clear HBw hb; have HBw := n9; clear n9))
    go_ret
    exact ⟨by simp, HBw.out⟩
/-! ### spec_l3Forms: function 40 -/
def spec_l3Forms.l0 : Nat → List (S34) → Int → Option (Bool)
 | 0, _, _ => none
 | k + 1, x0, x3 => if x3 < (x0.length : Int) then (if 0 ≤ x3 then ((spec_FrmOk.f k ((rd_T34 x0 x3).f0) ((rd_T34 x0 x3).f1) ((rd_T34 x0 x3).f2)).bind fun t841 => (if t841 = true then (spec_l3Forms.l0 k x0 (wrap64 (x3 + 1))) else (some false))) else (none)) else (some true)
def spec_l3Forms.f (k : Nat) (l0 : List (S34)) : Option (Bool) := spec_l3Forms.l0 k l0 0
theorem spec_l3Forms.mono_l : ∀ k, (∀ y0 y1, LeO (spec_l3Forms.l0 k y0 y1) (spec_l3Forms.l0 (k + 1) y0 y1))
 | 0 => fun _ _ r h => by simp [spec_l3Forms.l0] at h
 | k + 1 => by
  have ih0 := spec_l3Forms.mono_l k
  ·intro y0 y1
   unfold spec_l3Forms.l0
   have := @spec_FrmOk.mono
   exact mo
theorem spec_l3Forms.mono : ∀ a0 k, LeO (spec_l3Forms.f k a0) (spec_l3Forms.f (k + 1) a0) := by
 intro a0 k
 have ih0 := spec_l3Forms.mono_l k
 unfold spec_l3Forms.f
 have := @spec_FrmOk.mono
 exact mo
set_option maxHeartbeats 8000000 in
theorem spec_l3Forms.calls (k : Nat) (A0 : Option Addr) (c0 : Nat) (l0 : List (S34)) (r : Bool) (w : World) (hr0 : Kd.C k34 w A0 l0.length l0) (hc0 : l0.length ≤ c0) (h : spec_l3Forms.f k l0 = some r) :
  Calls Try.prog 40 #[.slice A0 l0.length c0] w fun e w' => e = .returned (.bool r) ∧ Below w.heap.size w w' := by
 have hu34 := Try.underlying34; have HR0 := aM hr0; have HC0 := aM hc0; clear hr0 hc0; have HB := aM (Below.refl w.heap.size w); have H : (spec_l3Forms.l0 k l0 0) = some r := h
 clear h; have H' := aM H
 clear H; go_enter Try.func40, Try.ntmps40
 go_wp2
 go_loopg [3] k (fun kq v3 w' => ∃ (x3_1 : Int), v3 = .int .i64 x3_1 ∧ Aside0 (spec_l3Forms.l0 kq l0 x3_1 = some r) ∧ Aside0 (kq ≤ k) ∧ Aside0 (Below w.heap.size w w'))
 case atStart => exact ⟨(0), sr, H', ⟨Nat.le_refl _⟩, ⟨by exact lB HB.out⟩⟩
 case round =>
  clear H'
  obtain ⟨x3_1, rfl, HA, HK1, HB⟩ := hrel
  cases gk with
  | zero => exact absurd HA.out (by simp [spec_l3Forms.l0])
  | succ k1 =>
   have H := HA.out
   clear HA; simp only [spec_l3Forms.l0] at H
   by_cases c2 : x3_1 < (l0.length : Int)
   ·rw [if_pos c2] at H; replace c2 := decide_eq_true c2; obtain ⟨c3, H⟩ := iD H; obtain ⟨t841, A4, H⟩ := bS H
    try dsimp only at H
    by_cases c5 : t841 = true
    ·subst c5; rw [if_pos rfl] at H
     try dsimp only at H
     have H' := aM H
     clear H; have p840 : 0 ≤ (x3_1 : Int) := od; have q840 : x3_1 < (l0.length : Int) := od; obtain ⟨ad840, A840_0, c840_0, A840_1, c840_1, e840, hx840_0, hx840_1, hx840_2, hl840_0, hi840_0, hl840_1, hi840_1⟩ := at_T34 HR0.out x3_1 p840 q840
     cases e840; replace hx840_0 := cl HB.out hx840_0; replace hx840_1 := cl HB.out hx840_1; replace hx840_2 := cl HB.out hx840_2; have HR840_0 := aM hi840_0; have HC840_0 := aM hl840_0; clear hi840_0 hl840_0; have HR840_1 := aM hi840_1; have HC840_1 := aM hl840_1; clear hi840_1 hl840_1; replace p840 := eq_true p840; replace q840 := eq_true q840; go_wp2_with (first | (refine gL (some 14) Try.func68 #[.agg #[.slice A840_0 ((rd_T34 l0 x3_1).f0).length c840_0, .slice A840_1 ((rd_T34 l0 x3_1).f1).length c840_1, .int .i64 ((rd_T34 l0 x3_1).f2)]] ?_; (with_reducible refine (spec_FrmOk.calls k1 _ _ ((rd_T34 l0 x3_1).f0) _ _ ((rd_T34 l0 x3_1).f1) ((rd_T34 l0 x3_1).f2) true _ (by exact lC <| (Kd.C_below HR840_0.out HB.out)) HC840_0.out (by exact lC <| (Kd.C_below HR840_1.out HB.out)) HC840_1.out A4.out).mono ?_); rintro e w6 ⟨rfl, hb⟩; refine ⟨_, rfl, ?_⟩; replace HB := aM (bj HB.out hb); (try clear hb)))
     go_roundg k1
     case measure => have := HK1.out; omega
     case rel => exact ⟨(wrap64 (x3_1 + 1)), sr, H', ⟨by have := HK1.out; omega⟩, ⟨by exact lB HB.out⟩⟩
    ·replace c5 := Bool.eq_false_iff.mpr c5
     subst c5; rw [if_neg nf] at H
     try dsimp only at H
     obtain rfl := Option.some.inj H
     have p840 : 0 ≤ (x3_1 : Int) := od; have q840 : x3_1 < (l0.length : Int) := od; obtain ⟨ad840, A840_0, c840_0, A840_1, c840_1, e840, hx840_0, hx840_1, hx840_2, hl840_0, hi840_0, hl840_1, hi840_1⟩ := at_T34 HR0.out x3_1 p840 q840
     cases e840; replace hx840_0 := cl HB.out hx840_0; replace hx840_1 := cl HB.out hx840_1; replace hx840_2 := cl HB.out hx840_2; have HR840_0 := aM hi840_0; have HC840_0 := aM hl840_0; clear hi840_0 hl840_0; have HR840_1 := aM hi840_1; have HC840_1 := aM hl840_1; clear hi840_1 hl840_1; replace p840 := eq_true p840; replace q840 := eq_true q840; go_wp2_with (first | (refine gL (some 14) Try.func68 #[.agg #[.slice A840_0 ((rd_T34 l0 x3_1).f0).length c840_0, .slice A840_1 ((rd_T34 l0 x3_1).f1).length c840_1, .int .i64 ((rd_T34 l0 x3_1).f2)]] ?_; (with_reducible refine (spec_FrmOk.calls k1 _ _ ((rd_T34 l0 x3_1).f0) _ _ ((rd_T34 l0 x3_1).f1) ((rd_T34 l0 x3_1).f2) false _ (by exact lC <| (Kd.C_below HR840_0.out HB.out)) HC840_0.out (by exact lC <| (Kd.C_below HR840_1.out HB.out)) HC840_1.out A4.out).mono ?_); rintro e w7 ⟨rfl, hb⟩; refine ⟨_, rfl, ?_⟩; replace HB := aM (bj HB.out hb); (try clear hb)))
     go_ret
     exact ⟨er, by exact lB HB.out⟩
   ·rw [if_neg c2] at H; replace c2 := decide_eq_false c2; obtain rfl := Option.some.inj H
    go_wp2
    go_ret
    exact ⟨er, by exact lB HB.out⟩
/-! ### spec_RowOk: function 13 -/
def spec_RowOk.j0 : Nat → Bool → List (S34) → List (S34) → List (S34) → Bool → Option (Bool)
 | 0, _, _, _, _, _ => none
 | k + 1, x18, x843000, x843001, x843002, x843003 => if x18 = true then (some false) else (if x843003 = true then (some ((wrap64 ((x843001.length : Int) + (x843002.length : Int))) == 0)) else (some ((x843001.length : Int) == 3)))
def spec_RowOk.f (k : Nat) (l0_0 : List (S34)) (l0_1 : List (S34)) (l0_2 : List (S34)) (a0_3 : Bool) : Option (Bool) := (spec_l3Forms.f k l0_0).bind fun t843 => (if t843 = true then ((spec_l3Forms.f k l0_1).bind fun t844 => (if t844 = true then ((spec_l3Forms.f k l0_2).bind fun t845 => (spec_RowOk.j0 k (!t845) l0_0 l0_1 l0_2 a0_3)) else (spec_RowOk.j0 k true l0_0 l0_1 l0_2 a0_3))) else (spec_RowOk.j0 k true l0_0 l0_1 l0_2 a0_3))
theorem spec_RowOk.mono_l : ∀ k, (∀ y0 y1 y2 y3 y4, LeO (spec_RowOk.j0 k y0 y1 y2 y3 y4) (spec_RowOk.j0 (k + 1) y0 y1 y2 y3 y4))
 | 0 => fun _ _ _ _ _ r h => by simp [spec_RowOk.j0] at h
 | k + 1 => by
  have ih0 := spec_RowOk.mono_l k
  ·intro y0 y1 y2 y3 y4
   unfold spec_RowOk.j0
   have := @spec_l3Forms.mono
   exact mo
theorem spec_RowOk.mono : ∀ a0 a1 a2 a3 k, LeO (spec_RowOk.f k a0 a1 a2 a3) (spec_RowOk.f (k + 1) a0 a1 a2 a3) := by
 intro a0 a1 a2 a3 k
 have ih0 := spec_RowOk.mono_l k
 unfold spec_RowOk.f
 have := @spec_l3Forms.mono
 exact mo
theorem spec_RowOk.calls (k : Nat) (A0_0 : Option Addr) (c0_0 : Nat) (l0_0 : List (S34)) (A0_1 : Option Addr) (c0_1 : Nat) (l0_1 : List (S34)) (A0_2 : Option Addr) (c0_2 : Nat) (l0_2 : List (S34)) (a0_3 : Bool) (r : Bool) (w : World) (hr0_0 : Kd.C k34 w A0_0 l0_0.length l0_0) (hc0_0 : l0_0.length ≤ c0_0) (hr0_1 : Kd.C k34 w A0_1 l0_1.length l0_1) (hc0_1 : l0_1.length ≤ c0_1) (hr0_2 : Kd.C k34 w A0_2 l0_2.length l0_2) (hc0_2 : l0_2.length ≤ c0_2) (h : spec_RowOk.f k l0_0 l0_1 l0_2 a0_3 = some r) :
  Calls Try.prog 13 #[.agg #[.slice A0_0 l0_0.length c0_0, .slice A0_1 l0_1.length c0_1, .slice A0_2 l0_2.length c0_2, .bool a0_3]] w fun e w' => e = .returned (.bool r) ∧ Below w.heap.size w w' := by
 have hu25 := Try.underlying25; have HR0_0 := aM hr0_0; have HC0_0 := aM hc0_0; clear hr0_0 hc0_0; have HR0_1 := aM hr0_1; have HC0_1 := aM hc0_1; clear hr0_1 hc0_1; have HR0_2 := aM hr0_2; have HC0_2 := aM hc0_2; clear hr0_2 hc0_2; have HB := aM (Below.refl w.heap.size w); have H : ((spec_l3Forms.f k l0_0).bind fun t843 => (if t843 = true then ((spec_l3Forms.f k l0_1).bind fun t844 => (if t844 = true then ((spec_l3Forms.f k l0_2).bind fun t845 => (spec_RowOk.j0 k (!t845) l0_0 l0_1 l0_2 a0_3)) else (spec_RowOk.j0 k true l0_0 l0_1 l0_2 a0_3))) else (spec_RowOk.j0 k true l0_0 l0_1 l0_2 a0_3))) = some r := h
 clear h; have HC2 := aM H; clear H; go_enter Try.func13, Try.ntmps13
 go_upto_region 1 with (first | ((with_reducible refine gate_dst (N := 1) rfl ?_); refine bx 1 #[.slice A0_0 l0_0.length c0_0, .slice A0_1 l0_1.length c0_1, .slice A0_2 l0_2.length c0_2, .bool a0_3] 25 ?_; intro gb842 hg w3 hbox hb; have BK842 := aM (hbox); have GW842 := aM (gz hg HB.out); have IGW842 := wn GW842.out; have GE842 := aM (gz hg HB.out); have IGE842 := wn GE842.out; replace HB := aM (bj HB.out hb); clear hb hbox hg))
 (try simp only [Act.put, sA, s0, sS])
 go_cut [18] (fun v18 wc => ∃ (kq : Nat) (x18_1 : Bool), v18 = .bool x18_1 ∧ Aside0 (spec_RowOk.j0 kq x18_1 l0_0 l0_1 l0_2 a0_3 = some r) ∧ Aside0 (kq ≤ k) ∧ Aside0 (wc.heap[gb842]? = some (.cells #[(.slice A0_0 l0_0.length c0_0), (.slice A0_1 l0_1.length c0_1), (.slice A0_2 l0_2.length c0_2), .bool a0_3] 25 (0, 0))) ∧ Aside0 (Below w.heap.size w wc))
 case first =>
  have H := HC2.out
  clear HC2; obtain ⟨t843, A4, H⟩ := bS H
  try dsimp only at H
  by_cases c5 : t843 = true
  ·subst c5; rw [if_pos rfl] at H
   try dsimp only at H
   obtain ⟨t844, A6, H⟩ := bS H
   try dsimp only at H
   by_cases c7 : t844 = true
   ·subst c7; rw [if_pos rfl] at H
    try dsimp only at H
    obtain ⟨t845, A8, H⟩ := bS H
    try dsimp only at H
    have H' := aM H
    clear H; have hcz9_0 : w3.cell? ⟨gb842, 0, none⟩ = some (.slice A0_0 l0_0.length c0_0) := (blk_cell BK842.out 0).trans rfl
    have hcz9_1 : w3.cell? ⟨gb842, 1, none⟩ = some (.slice A0_1 l0_1.length c0_1) := (blk_cell BK842.out 1).trans rfl
    have hcz9_2 : w3.cell? ⟨gb842, 2, none⟩ = some (.slice A0_2 l0_2.length c0_2) := (blk_cell BK842.out 2).trans rfl
    have hcz9_3 : w3.cell? ⟨gb842, 3, none⟩ = some (.bool a0_3) := (blk_cell BK842.out 3).trans rfl
    have hfz9_0 := blk_frozen BK842.out 0
    have hfz9_1 := blk_frozen BK842.out 1
    have hfz9_2 := blk_frozen BK842.out 2
    have hfz9_3 := blk_frozen BK842.out 3
    go_wp2_with (first | (refine gL (some 5) Try.func40 #[.slice A0_0 l0_0.length c0_0] ?_; (with_reducible refine (spec_l3Forms.calls k _ _ l0_0 true _ (by exact lC <| (Kd.C_below HR0_0.out HB.out)) HC0_0.out A4.out).mono ?_); rintro e w10 ⟨rfl, hb⟩; refine ⟨_, rfl, ?_⟩; replace BK842 := aM (bb BK842.out hb); replace HB := aM (bj HB.out hb); (try clear hb); have hcz11_0 : w10.cell? ⟨gb842, 0, none⟩ = some (.slice A0_0 l0_0.length c0_0) := (blk_cell BK842.out 0).trans rfl; have hcz11_1 : w10.cell? ⟨gb842, 1, none⟩ = some (.slice A0_1 l0_1.length c0_1) := (blk_cell BK842.out 1).trans rfl; have hcz11_2 : w10.cell? ⟨gb842, 2, none⟩ = some (.slice A0_2 l0_2.length c0_2) := (blk_cell BK842.out 2).trans rfl; have hcz11_3 : w10.cell? ⟨gb842, 3, none⟩ = some (.bool a0_3) := (blk_cell BK842.out 3).trans rfl; have hfz11_0 := blk_frozen BK842.out 0; have hfz11_1 := blk_frozen BK842.out 1; have hfz11_2 := blk_frozen BK842.out 2; have hfz11_3 := blk_frozen BK842.out 3) | (go_at_call 40; (with_reducible refine (spec_l3Forms.calls k _ _ l0_1 true _ (by exact lC <| (Kd.C_below HR0_1.out HB.out)) HC0_1.out A6.out).mono ?_); rintro e w12 ⟨rfl, hb⟩; replace BK842 := aM (bb BK842.out hb); replace HB := aM (bj HB.out hb); (try clear hb); have hcz13_0 : w12.cell? ⟨gb842, 0, none⟩ = some (.slice A0_0 l0_0.length c0_0) := (blk_cell BK842.out 0).trans rfl; have hcz13_1 : w12.cell? ⟨gb842, 1, none⟩ = some (.slice A0_1 l0_1.length c0_1) := (blk_cell BK842.out 1).trans rfl; have hcz13_2 : w12.cell? ⟨gb842, 2, none⟩ = some (.slice A0_2 l0_2.length c0_2) := (blk_cell BK842.out 2).trans rfl; have hcz13_3 : w12.cell? ⟨gb842, 3, none⟩ = some (.bool a0_3) := (blk_cell BK842.out 3).trans rfl; have hfz13_0 := blk_frozen BK842.out 0; have hfz13_1 := blk_frozen BK842.out 1; have hfz13_2 := blk_frozen BK842.out 2; have hfz13_3 := blk_frozen BK842.out 3) | (go_at_call 40; (with_reducible refine (spec_l3Forms.calls k _ _ l0_2 t845 _ (by exact lC <| (Kd.C_below HR0_2.out HB.out)) HC0_2.out A8.out).mono ?_); rintro e w14 ⟨rfl, hb⟩; replace BK842 := aM (bb BK842.out hb); replace HB := aM (bj HB.out hb); (try clear hb)))
    go_meet
    case rel => exact ⟨_, (!t845), sr, H', ⟨by first | omega | exact Nat.le_refl _⟩, ⟨by exact lK <| BK842.out⟩, ⟨by exact jB HB.out⟩⟩
   ·replace c7 := Bool.eq_false_iff.mpr c7
    subst c7; rw [if_neg nf] at H
    try dsimp only at H
    have H' := aM H
    clear H; have hcz15_0 : w3.cell? ⟨gb842, 0, none⟩ = some (.slice A0_0 l0_0.length c0_0) := (blk_cell BK842.out 0).trans rfl
    have hcz15_1 : w3.cell? ⟨gb842, 1, none⟩ = some (.slice A0_1 l0_1.length c0_1) := (blk_cell BK842.out 1).trans rfl
    have hcz15_2 : w3.cell? ⟨gb842, 2, none⟩ = some (.slice A0_2 l0_2.length c0_2) := (blk_cell BK842.out 2).trans rfl
    have hcz15_3 : w3.cell? ⟨gb842, 3, none⟩ = some (.bool a0_3) := (blk_cell BK842.out 3).trans rfl
    have hfz15_0 := blk_frozen BK842.out 0
    have hfz15_1 := blk_frozen BK842.out 1
    have hfz15_2 := blk_frozen BK842.out 2
    have hfz15_3 := blk_frozen BK842.out 3
    go_wp2_with (first | (refine gL (some 5) Try.func40 #[.slice A0_0 l0_0.length c0_0] ?_; (with_reducible refine (spec_l3Forms.calls k _ _ l0_0 true _ (by exact lC <| (Kd.C_below HR0_0.out HB.out)) HC0_0.out A4.out).mono ?_); rintro e w16 ⟨rfl, hb⟩; refine ⟨_, rfl, ?_⟩; replace BK842 := aM (bb BK842.out hb); replace HB := aM (bj HB.out hb); (try clear hb); have hcz17_0 : w16.cell? ⟨gb842, 0, none⟩ = some (.slice A0_0 l0_0.length c0_0) := (blk_cell BK842.out 0).trans rfl; have hcz17_1 : w16.cell? ⟨gb842, 1, none⟩ = some (.slice A0_1 l0_1.length c0_1) := (blk_cell BK842.out 1).trans rfl; have hcz17_2 : w16.cell? ⟨gb842, 2, none⟩ = some (.slice A0_2 l0_2.length c0_2) := (blk_cell BK842.out 2).trans rfl; have hcz17_3 : w16.cell? ⟨gb842, 3, none⟩ = some (.bool a0_3) := (blk_cell BK842.out 3).trans rfl; have hfz17_0 := blk_frozen BK842.out 0; have hfz17_1 := blk_frozen BK842.out 1; have hfz17_2 := blk_frozen BK842.out 2; have hfz17_3 := blk_frozen BK842.out 3) | (go_at_call 40; (with_reducible refine (spec_l3Forms.calls k _ _ l0_1 false _ (by exact lC <| (Kd.C_below HR0_1.out HB.out)) HC0_1.out A6.out).mono ?_); rintro e w18 ⟨rfl, hb⟩; replace BK842 := aM (bb BK842.out hb); replace HB := aM (bj HB.out hb); (try clear hb)))
    go_meet
    case rel => exact ⟨_, (true), sr, H', ⟨by first | omega | exact Nat.le_refl _⟩, ⟨by exact lK <| BK842.out⟩, ⟨by exact jB HB.out⟩⟩
  ·replace c5 := Bool.eq_false_iff.mpr c5
   subst c5; rw [if_neg nf] at H
   try dsimp only at H
   have H' := aM H
   clear H; have hcz19_0 : w3.cell? ⟨gb842, 0, none⟩ = some (.slice A0_0 l0_0.length c0_0) := (blk_cell BK842.out 0).trans rfl
   have hcz19_1 : w3.cell? ⟨gb842, 1, none⟩ = some (.slice A0_1 l0_1.length c0_1) := (blk_cell BK842.out 1).trans rfl
   have hcz19_2 : w3.cell? ⟨gb842, 2, none⟩ = some (.slice A0_2 l0_2.length c0_2) := (blk_cell BK842.out 2).trans rfl
   have hcz19_3 : w3.cell? ⟨gb842, 3, none⟩ = some (.bool a0_3) := (blk_cell BK842.out 3).trans rfl
   have hfz19_0 := blk_frozen BK842.out 0
   have hfz19_1 := blk_frozen BK842.out 1
   have hfz19_2 := blk_frozen BK842.out 2
   have hfz19_3 := blk_frozen BK842.out 3
   go_wp2_with (first | (refine gL (some 5) Try.func40 #[.slice A0_0 l0_0.length c0_0] ?_; (with_reducible refine (spec_l3Forms.calls k _ _ l0_0 false _ (by exact lC <| (Kd.C_below HR0_0.out HB.out)) HC0_0.out A4.out).mono ?_); rintro e w20 ⟨rfl, hb⟩; refine ⟨_, rfl, ?_⟩; replace BK842 := aM (bb BK842.out hb); replace HB := aM (bj HB.out hb); (try clear hb)))
   go_meet
   case rel => exact ⟨_, (true), sr, H', ⟨by first | omega | exact Nat.le_refl _⟩, ⟨by exact lK <| BK842.out⟩, ⟨by exact jB HB.out⟩⟩
 case rest =>
  clear HC2; (try clear c1); (try clear p2); (try clear c4); (try clear c5); (try clear c7); (try clear c13); (try clear hcz11_0); (try clear hcz11_1); (try clear hcz11_2); (try clear hcz11_3); (try clear hcz13_0); (try clear hcz13_1); (try clear hcz13_2); (try clear hcz13_3); (try clear hcz15_0); (try clear hcz15_1); (try clear hcz15_2); (try clear hcz15_3); (try clear hcz17_0); (try clear hcz17_1); (try clear hcz17_2); (try clear hcz17_3); (try clear hcz19_0); (try clear hcz19_1); (try clear hcz19_2); (try clear hcz19_3); (try clear hcz9_0); (try clear hcz9_1); (try clear hcz9_2); (try clear hcz9_3); (try clear hfz11_0); (try clear hfz11_1); (try clear hfz11_2); (try clear hfz11_3); (try clear hfz13_0); (try clear hfz13_1); (try clear hfz13_2); (try clear hfz13_3); (try clear hfz15_0); (try clear hfz15_1); (try clear hfz15_2); (try clear hfz15_3); (try clear hfz17_0); (try clear hfz17_1); (try clear hfz17_2); (try clear hfz17_3); (try clear hfz19_0); (try clear hfz19_1); (try clear hfz19_2); (try clear hfz19_3); (try clear hfz9_0); (try clear hfz9_1); (try clear hfz9_2); (try clear hfz9_3)
  obtain ⟨kq, x18_1, rfl, HA, HJ1, BK842, HB⟩ := hcut
  cases kq with
  | zero => exact absurd HA.out (by simp [spec_RowOk.j0])
  | succ kj1 =>
   have H := HA.out
   clear HA; simp only [spec_RowOk.j0] at H
   by_cases c21 : x18_1 = true
   ·subst c21; rw [if_pos rfl] at H
    try dsimp only at H
    obtain rfl := Option.some.inj H
    go_wp2
    go_ret
    exact ⟨er, by exact jB HB.out⟩
   ·replace c21 := Bool.eq_false_iff.mpr c21
    subst c21; rw [if_neg nf] at H
    try dsimp only at H
    by_cases c22 : a0_3 = true
    ·subst c22; rw [if_pos rfl] at H
     try dsimp only at H
     obtain rfl := Option.some.inj H
     have hcz23_0 : wc.cell? ⟨gb842, 0, none⟩ = some (.slice A0_0 l0_0.length c0_0) := (blk_cell BK842.out 0).trans rfl
     have hcz23_1 : wc.cell? ⟨gb842, 1, none⟩ = some (.slice A0_1 l0_1.length c0_1) := (blk_cell BK842.out 1).trans rfl
     have hcz23_2 : wc.cell? ⟨gb842, 2, none⟩ = some (.slice A0_2 l0_2.length c0_2) := (blk_cell BK842.out 2).trans rfl
     have hcz23_3 : wc.cell? ⟨gb842, 3, none⟩ = some (.bool true) := (blk_cell BK842.out 3).trans rfl
     have hfz23_0 := blk_frozen BK842.out 0
     have hfz23_1 := blk_frozen BK842.out 1
     have hfz23_2 := blk_frozen BK842.out 2
     have hfz23_3 := blk_frozen BK842.out 3
     go_wp2
     go_ret
     exact ⟨er, by exact jB HB.out⟩
    ·replace c22 := Bool.eq_false_iff.mpr c22
     subst c22; rw [if_neg nf] at H
     try dsimp only at H
     obtain rfl := Option.some.inj H
     have hcz24_0 : wc.cell? ⟨gb842, 0, none⟩ = some (.slice A0_0 l0_0.length c0_0) := (blk_cell BK842.out 0).trans rfl
     have hcz24_1 : wc.cell? ⟨gb842, 1, none⟩ = some (.slice A0_1 l0_1.length c0_1) := (blk_cell BK842.out 1).trans rfl
     have hcz24_2 : wc.cell? ⟨gb842, 2, none⟩ = some (.slice A0_2 l0_2.length c0_2) := (blk_cell BK842.out 2).trans rfl
     have hcz24_3 : wc.cell? ⟨gb842, 3, none⟩ = some (.bool false) := (blk_cell BK842.out 3).trans rfl
     have hfz24_0 := blk_frozen BK842.out 0
     have hfz24_1 := blk_frozen BK842.out 1
     have hfz24_2 := blk_frozen BK842.out 2
     have hfz24_3 := blk_frozen BK842.out 3
     go_wp2
     go_ret
     exact ⟨er, by exact jB HB.out⟩
/-! ### spec_ValOk: function 37 -/
def spec_ValOk.f (k : Nat) (l0 : List Int) : Option (Bool) := (spec_l1All.f k l0 3 10000).bind fun t890 => (some t890)
theorem spec_ValOk.mono : ∀ a0 k, LeO (spec_ValOk.f k a0) (spec_ValOk.f (k + 1) a0) := by
 intro a0 k
 unfold spec_ValOk.f
 have := @spec_l1All.mono
 exact mo
set_option maxHeartbeats 8000000 in
theorem spec_ValOk.calls (k : Nat) (A0 : Option Addr) (c0 : Nat) (l0 : List Int) (r : Bool) (w : World) (hr0 : Kd.C (Kd.int .i64) w A0 l0.length l0) (hc0 : l0.length ≤ c0) (h : spec_ValOk.f k l0 = some r) :
  Calls Try.prog 37 #[.slice A0 l0.length c0] w fun e w' => e = .returned (.bool r) ∧ Drawn0 w w' := by
 have HR0 := aM hr0; have HC0 := aM hc0; clear hr0 hc0; have H : ((spec_l1All.f k l0 3 10000).bind fun t890 => (some t890)) = some r := h
 clear h; obtain ⟨t890, A2, H⟩ := bS H
 try dsimp only at H
 obtain rfl := Option.some.inj H
 go_enter Try.func37, Try.ntmps37
 go_wp2_with (first | (refine gL (some 4) Try.func58 #[.slice A0 l0.length c0, .int .i64 3, .int .i64 10000] ?_; (with_reducible refine (spec_l1All.calls k _ _ l0 3 10000 t890 _ (by exact lC HR0.out) HC0.out A2.out).mono ?_); rintro e w' ⟨rfl, ⟨nd, rfl⟩⟩; refine ⟨_, rfl, ?_⟩))
 go_ret
 exact ⟨by first | rfl | (simp; done) | (simp [*]; done), by repeat (first | exact Drawn0.refl _ | apply Drawn0.step)⟩
/-! ### spec_ArgOk: function 38 -/
def spec_ArgOk.f (k : Nat) (l0 : List Int) : Option (Bool) := (spec_l1All.f k l0 2 9).bind fun t847 => (some t847)
theorem spec_ArgOk.mono : ∀ a0 k, LeO (spec_ArgOk.f k a0) (spec_ArgOk.f (k + 1) a0) := by
 intro a0 k
 unfold spec_ArgOk.f
 have := @spec_l1All.mono
 exact mo
theorem spec_ArgOk.calls (k : Nat) (A0 : Option Addr) (c0 : Nat) (l0 : List Int) (r : Bool) (w : World) (hr0 : Kd.C (Kd.int .i64) w A0 l0.length l0) (hc0 : l0.length ≤ c0) (h : spec_ArgOk.f k l0 = some r) :
  Calls Try.prog 38 #[.slice A0 l0.length c0] w fun e w' => e = .returned (.bool r) ∧ Drawn0 w w' := by
 have HR0 := aM hr0; have HC0 := aM hc0; clear hr0 hc0; have H : ((spec_l1All.f k l0 2 9).bind fun t847 => (some t847)) = some r := h
 clear h; obtain ⟨t847, A2, H⟩ := bS H
 try dsimp only at H
 obtain rfl := Option.some.inj H
 go_enter Try.func38, Try.ntmps38
 go_wp2_with (first | (refine gL (some 4) Try.func58 #[.slice A0 l0.length c0, .int .i64 2, .int .i64 9] ?_; (with_reducible refine (spec_l1All.calls k _ _ l0 2 9 t847 _ (by exact lC HR0.out) HC0.out A2.out).mono ?_); rintro e w' ⟨rfl, ⟨nd, rfl⟩⟩; refine ⟨_, rfl, ?_⟩))
 go_ret
 exact ⟨by first | rfl | (simp; done) | (simp [*]; done), by repeat (first | exact Drawn0.refl _ | apply Drawn0.step)⟩
end Go.Proofs.Ytcpaplcnebdocaa.QFnRowFits
-- shorter
