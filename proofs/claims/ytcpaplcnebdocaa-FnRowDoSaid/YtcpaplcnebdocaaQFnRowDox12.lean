/- Plain functions, and that the Go code computes them: written by a program of this session over the seat's translation; the conditions stand in each theorem. -/
import Derived.Test.YtcpaplcnebdocaaHW5
import Derived.Test.YtcpaplcnebdocaaQFnRowDox0
import Derived.Test.YtcpaplcnebdocaaQFnRowDox1
import Derived.Test.YtcpaplcnebdocaaQFnRowDox2
import Derived.Test.YtcpaplcnebdocaaQFnRowDox11
namespace Go.Proofs.Ytcpaplcnebdocaa.QFnRowDo
open Go.RowKit Go.Proofs.YtcpaplcnebdocaaW.PrintWords Go.Proofs.YtcpaplcnebdocaaW.PrintLast Go.Proofs.YtcpaplcnebdocaaW.PrintMore Go.Proofs.Ytcpaplcnebdocaa.HWords
open Value (ownBlock)
attribute [local go_sem] max2_int min2_int max_two min_two max_three min_three max_four min_four   -- for this text's walks alone
set_option linter.unusedVariables false
set_option linter.unusedSimpArgs false
set_option maxRecDepth 100000
set_option maxHeartbeats 8000000
/-! ### impl_RowOk: function 7, by hand -/
def withinB (l : List Int) (n m : Int) : Bool := decide ((l.length : Int) = n) && !(l.any fun x => !inB x (wrap64 (-m)) m)
def frmOkB (x : S34) : Bool := withinB x.f0 3 10000000 && (withinB x.f1 2 10000000 && inB x.f2 (-10000000) 10000000)
theorem frmOk_eq (x : S34) : impl_FrmOk.f x.f0 x.f1 x.f2 = some (frmOkB x) := by
 unfold impl_FrmOk.f
 rw [show impl_within.f x.f0 3 10000000 = some (withinB x.f0 3 10000000) from rfl, show impl_within.f x.f1 2 10000000 = some (withinB x.f1 2 10000000) from rfl, in_inB]
 unfold frmOkB
 cases withinB x.f0 3 10000000 <;> cases withinB x.f1 2 10000000 <;> rfl
theorem idx_forms (q : S34 → Bool) (g : Nat) (lb : Array Value) (eg : ∀ args w, (callFunc g args).run Try.prog w = .ok (.enter g args) w) (A0 : Option Addr) (c0 : Nat) (xs : List (S34)) (w : World)
  (hr : Kd.C k34 w A0 xs.length xs) (hp : ∀ x, x ∈ xs → ∀ (W : World) (A : Option Addr) (c : Nat) (A' : Option Addr) (c' : Nat), Below w.heap.size w W → x.f0.length ≤ c → Kd.C (Kd.int .i64) W A x.f0.length x.f0 → x.f1.length ≤ c' → Kd.C (Kd.int .i64) W A' x.f1.length x.f1 → Calls Try.prog g (#[.agg #[.slice A x.f0.length c, .slice A' x.f1.length c', .int .i64 x.f2]] ++ lb) W fun e w' => e = .returned (.bool (q x)) ∧ Below W.heap.size W w') :
  Calls Try.prog 65 #[.slice A0 xs.length c0, .func (.func g) #[] lb] w fun e w' => e = .returned (.int .i64 (idxOf q xs)) ∧ Below w.heap.size w w' := by
 have hm := Kd.C_max hr
 have HR := aM hr; have HP := aM hp; clear hr hp; go_enter Try.func65, Try.ntmps65
 go_wp2
 go_loopg [5, 8] xs.length (fun gg _ s8 wr => ∃ x : Int, s8 = .int .i64 x ∧ Aside0 (0 ≤ x ∧ x ≤ xs.length ∧ (xs.length : Int) - x ≤ gg) ∧ Aside0 (Below w.heap.size w wr) ∧ Aside0 (∀ j : Int, 0 ≤ j → j < x → q (xs.getD j.toNat z34) = false))
 case atStart => exact ⟨0, rfl, ⟨by omega, by omega, by omega⟩, ⟨Below.refl _ _⟩, ⟨fun j h0 h1 => by omega⟩⟩
 case round =>
  obtain ⟨x, rfl, HX, HB, HN⟩ := hrel
  have p1 := HX.out.1
  by_cases hlt : x < (xs.length : Int)
  ·obtain ⟨ad, A1, c1, A2, c2, e1, hx0, hx1, hx2, hl1, hi1, hl2, hi2⟩ := at_T34 (Kd.C_below HR.out HB.out) x p1 hlt
   cases e1; have hcall := HP.out (rd_T34 xs x) (mem_rd z34 xs x p1 hlt) _ A1 c1 A2 c2 HB.out hl1 hi1 hl2 hi2
   cases hq : q (rd_T34 xs x) with
   | true =>
    rw [hq] at hcall
    have HQ := aM hq; clear hq; have HC := aM hcall; clear hcall; go_wp2_with (go_at_fn g; refine HC.out.mono ?_; rintro e w' ⟨rfl, hb⟩)
    go_ret
    refine ⟨?_, below_then HB.out HB.out.size hb⟩
    rw [idxOf_hit z34 x p1 hlt HQ.out HN.out]
    rfl
   | false =>
    rw [hq] at hcall
    have HQ := aM hq; clear hq; have HC := aM hcall; clear hcall; go_wp2_with (go_at_fn g; refine HC.out.mono ?_; rintro e w' ⟨rfl, hb⟩)
    go_roundg (xs.length - (x.toNat + 1))
    case measure => have := HX.out; omega
    case rel =>
     refine ⟨x + 1, by go_num, ⟨by have := HX.out; omega, by have := HX.out; omega, by have := HX.out; omega⟩, ⟨below_then HB.out HB.out.size hb⟩, ⟨fun j h0 h1 => ?_⟩⟩
     by_cases e : j = x
     ·subst e; exact HQ.out
     ·exact HN.out j h0 (by omega)
  ·go_wp2
   go_ret
   refine ⟨?_, HB.out⟩
   rw [idxOf_miss z34 (fun j h0 h1 => HN.out j h0 (by have := HX.out; omega))]
   rfl
theorem has_forms (q : S34 → Bool) (g : Nat) (lb : Array Value) (eg : ∀ args w, (callFunc g args).run Try.prog w = .ok (.enter g args) w) (A0 : Option Addr) (c0 : Nat) (xs : List (S34)) (w : World)
  (hr : Kd.C k34 w A0 xs.length xs) (hp : ∀ x, x ∈ xs → ∀ (W : World) (A : Option Addr) (c : Nat) (A' : Option Addr) (c' : Nat), Below w.heap.size w W → x.f0.length ≤ c → Kd.C (Kd.int .i64) W A x.f0.length x.f0 → x.f1.length ≤ c' → Kd.C (Kd.int .i64) W A' x.f1.length x.f1 → Calls Try.prog g (#[.agg #[.slice A x.f0.length c, .slice A' x.f1.length c', .int .i64 x.f2]] ++ lb) W fun e w' => e = .returned (.bool (q x)) ∧ Below W.heap.size W w') :
  Calls Try.prog 31 #[.slice A0 xs.length c0, .func (.func g) #[] lb] w fun e w' => e = .returned (.bool (xs.any q)) ∧ Below w.heap.size w w' := by
 have HC := aM (idx_forms q g lb eg A0 c0 xs w hr hp); rw [← idxOf_any q xs]
 generalize idxOf q xs = n at HC
 clear hr hp; go_enter Try.func31, Try.ntmps31
 go_wp2_with (go_at_call 65; refine HC.out.mono ?_; rintro e w' ⟨rfl, hb⟩)
 go_ret
 exact ⟨rfl, hb⟩
theorem rowok_pred (W : World) (A : Option Addr) (c : Nat) (A' : Option Addr) (c' : Nat) (x : S34) (h0 : x.f0.length ≤ c) (r0 : Kd.C (Kd.int .i64) W A x.f0.length x.f0) (h1 : x.f1.length ≤ c') (r1 : Kd.C (Kd.int .i64) W A' x.f1.length x.f1) :
  Calls Try.prog 29 (#[.agg #[.slice A x.f0.length c, .slice A' x.f1.length c', .int .i64 x.f2]] ++ #[]) W fun e w' => e = .returned (.bool (!frmOkB x)) ∧ Below W.heap.size W w' := by
 show Calls Try.prog 29 #[.agg #[.slice A x.f0.length c, .slice A' x.f1.length c', .int .i64 x.f2]] W _
 have hu := Try.underlying34
 have HC := aM (fun (w : World) (hb : Below W.heap.size W w) => impl_FrmOk.calls A c x.f0 A' c' x.f1 x.f2 (frmOkB x) w (Kd.C_below r0 hb) h0 (Kd.C_below r1 hb) h1 (frmOk_eq x)); have HB := aM (Below.refl W.heap.size W); clear r0 r1; generalize frmOkB x = b at HC ⊢
 go_enter Try.func29, Try.ntmps29
 go_wp2_with (first
  | ((with_reducible refine gate_dst (N := 1) rfl ?_); refine bx 1 #[.slice A x.f0.length c, .slice A' x.f1.length c', .int .i64 x.f2] 34 ?_; intro G1 hG w1 hbox hb; have B1 := aM hbox; have HB1 := aM (below_then HB.out HB.out.size hb); clear hbox hb hG; obtain ⟨ha0, ha1, ha2⟩ := cz3 B1.out)
  | (go_at_call 30; refine (HC.out _ HB1.out).mono ?_; rintro e w3 ⟨rfl, hb⟩; have HB3 := aM (below_then HB1.out HB1.out.size hb); clear hb))
 go_ret
 exact ⟨rfl, HB3.out⟩
def rowB (g a t : List (S34)) (s : Bool) : Bool := !((g ++ a ++ t).any fun x => !frmOkB x) && (if s = true then ((a.length : Int) == 0) && ((t.length : Int) == 0) else ((a.length : Int) == 3))
def impl_RowOk.f (l0_0 : List (S34)) (l0_1 : List (S34)) (l0_2 : List (S34)) (a0_3 : Bool) : Option (Bool) := if l0_0.length + l0_1.length + l0_2.length ≤ 2000000000000 then some (rowB l0_0 l0_1 l0_2 a0_3) else none
set_option maxHeartbeats 8000000 in
theorem impl_RowOk.calls (A0_0 : Option Addr) (c0_0 : Nat) (l0_0 : List (S34)) (A0_1 : Option Addr) (c0_1 : Nat) (l0_1 : List (S34)) (A0_2 : Option Addr) (c0_2 : Nat) (l0_2 : List (S34)) (a0_3 : Bool) (r : Bool) (w : World) (hr0_0 : Kd.C k34 w A0_0 l0_0.length l0_0) (hc0_0 : l0_0.length ≤ c0_0) (hr0_1 : Kd.C k34 w A0_1 l0_1.length l0_1) (hc0_1 : l0_1.length ≤ c0_1) (hr0_2 : Kd.C k34 w A0_2 l0_2.length l0_2) (hc0_2 : l0_2.length ≤ c0_2) (h : impl_RowOk.f l0_0 l0_1 l0_2 a0_3 = some r) :
  Calls Try.prog 7 #[.agg #[.slice A0_0 l0_0.length c0_0, .slice A0_1 l0_1.length c0_1, .slice A0_2 l0_2.length c0_2, .bool a0_3]] w fun e w' => e = .returned (.bool r) ∧ Below w.heap.size w w' := by
 unfold impl_RowOk.f at h
 by_cases hA : l0_0.length + l0_1.length + l0_2.length ≤ 2000000000000
 case neg => rw [if_neg hA] at h; exact absurd h (by simp)
 case pos =>
  rw [if_pos hA] at h
  obtain rfl := Option.some.inj h
  clear h; have hu := Try.underlying25
  have eg : ∀ args w, (callFunc 29 args).run Try.prog w = .ok (.enter 29 args) w := enters_of Try.func29 (by kernel_rfl) rfl
  have hm1 := Kd.C_max hr0_1
  have hm2 := Kd.C_max hr0_2
  have HN := aM (fun (W : World) (hb : Below w.heap.size w W) (g : Nat) (q0 : W.cell? ⟨g, 0, none⟩ = some (.slice A0_0 l0_0.length c0_0)) (q1 : W.cell? ⟨g, 1, none⟩ = some (.slice A0_1 l0_1.length c0_1)) (q2 : W.cell? ⟨g, 2, none⟩ = some (.slice A0_2 l0_2.length c0_2)) =>
   concat_calls ⟨g, 0, none⟩ 3 [l0_0, l0_1, l0_2] (l0_0 ++ l0_1 ++ l0_2) (by simp) W (by simp) (by simpa [Nat.add_assoc] using hA) (fun i h0 h1 => by
    have h3 : i < 3 := h1
    by_cases e0 : i = 0
    ·subst e0; exact ⟨_, _, q0, Kd.C_below hr0_0 hb⟩
    ·by_cases e1 : i = 1
     ·subst e1; exact ⟨_, _, q1, Kd.C_below hr0_1 hb⟩
     ·obtain rfl : i = 2 := by omega
      exact ⟨_, _, q2, Kd.C_below hr0_2 hb⟩))
  have HC := aM (fun (W : World) (A : Option Addr) (c : Nat) (hC : Kd.C k34 W A (l0_0 ++ l0_1 ++ l0_2).length (l0_0 ++ l0_1 ++ l0_2)) => has_forms (fun x => !frmOkB x) 29 #[] eg A c (l0_0 ++ l0_1 ++ l0_2) W hC (fun x hx W A c A' c' _ k0 r0 k1 r1 => rowok_pred W A c A' c' x k0 r0 k1 r1)); clear hr0_0 hr0_1 hr0_2 hA; unfold rowB
  generalize l0_0 ++ l0_1 ++ l0_2 = zs at HN HC ⊢
  generalize (zs.any fun x => !frmOkB x) = b3 at HC ⊢
  have HB := aM (Below.refl w.heap.size w); cases a0_3
  case false =>
   cases b3
   all_goals
    go_enter Try.func7, Try.ntmps7
    go_wp2_with (first
     | ((with_reducible refine gate_dst (N := 1) rfl ?_); refine bx 1 #[.slice A0_0 l0_0.length c0_0, .slice A0_1 l0_1.length c0_1, .slice A0_2 l0_2.length c0_2, .bool false] 25 ?_; intro G1 hG w1 hbox hb; have B1 := aM hbox; have HB1 := aM (below_then HB.out HB.out.size hb); clear hbox hb hG; have ha0 : w1.cell? ⟨G1, 0, none⟩ = some (.slice A0_0 l0_0.length c0_0) := (blk_cell B1.out 0).trans rfl; have ha1 : w1.cell? ⟨G1, 1, none⟩ = some (.slice A0_1 l0_1.length c0_1) := (blk_cell B1.out 1).trans rfl; have ha2 : w1.cell? ⟨G1, 2, none⟩ = some (.slice A0_2 l0_2.length c0_2) := (blk_cell B1.out 2).trans rfl; have ha3 : w1.cell? ⟨G1, 3, none⟩ = some (.bool false) := (blk_cell B1.out 3).trans rfl)
     | (go_at_call 32; refine (HN.out _ (below_alloc HB1.out _) w1.heap.size (by simp) (by simp) (by simp)).mono ?_; rintro e w4 ⟨A4, m4, rfl, hC, hm, hb⟩; have HC4 := aM hC; have B4 := aM (blk_below (blk_alloc B1.out _) hb); have HB4 := aM (below_then (below_alloc HB1.out _) (below_alloc HB1.out _).size hb); clear hC hm hb B1 ha0 ha1 ha2 ha3)
     | (go_at_call 31; refine (HC.out _ _ _ HC4.out).mono ?_; rintro e w5 ⟨rfl, hb⟩; have B5 := aM (blk_below B4.out hb); have HB5 := aM (below_then HB4.out HB4.out.size hb); clear hb B4; have hb0 : w5.cell? ⟨G1, 0, none⟩ = some (.slice A0_0 l0_0.length c0_0) := (blk_cell B5.out 0).trans rfl; have hb1 : w5.cell? ⟨G1, 1, none⟩ = some (.slice A0_1 l0_1.length c0_1) := (blk_cell B5.out 1).trans rfl; have hb2 : w5.cell? ⟨G1, 2, none⟩ = some (.slice A0_2 l0_2.length c0_2) := (blk_cell B5.out 2).trans rfl; have hb3 : w5.cell? ⟨G1, 3, none⟩ = some (.bool false) := (blk_cell B5.out 3).trans rfl))
    all_goals
     go_ret
     exact ⟨by first | (simp; done) | (simp_all; done), HB5.out⟩
  case true =>
   cases b3
   all_goals
    go_enter Try.func7, Try.ntmps7
    go_wp2_with (first
     | ((with_reducible refine gate_dst (N := 1) rfl ?_); refine bx 1 #[.slice A0_0 l0_0.length c0_0, .slice A0_1 l0_1.length c0_1, .slice A0_2 l0_2.length c0_2, .bool true] 25 ?_; intro G1 hG w1 hbox hb; have B1 := aM hbox; have HB1 := aM (below_then HB.out HB.out.size hb); clear hbox hb hG; have ha0 : w1.cell? ⟨G1, 0, none⟩ = some (.slice A0_0 l0_0.length c0_0) := (blk_cell B1.out 0).trans rfl; have ha1 : w1.cell? ⟨G1, 1, none⟩ = some (.slice A0_1 l0_1.length c0_1) := (blk_cell B1.out 1).trans rfl; have ha2 : w1.cell? ⟨G1, 2, none⟩ = some (.slice A0_2 l0_2.length c0_2) := (blk_cell B1.out 2).trans rfl; have ha3 : w1.cell? ⟨G1, 3, none⟩ = some (.bool true) := (blk_cell B1.out 3).trans rfl)
     | (go_at_call 32; refine (HN.out _ (below_alloc HB1.out _) w1.heap.size (by simp) (by simp) (by simp)).mono ?_; rintro e w4 ⟨A4, m4, rfl, hC, hm, hb⟩; have HC4 := aM hC; have B4 := aM (blk_below (blk_alloc B1.out _) hb); have HB4 := aM (below_then (below_alloc HB1.out _) (below_alloc HB1.out _).size hb); clear hC hm hb B1 ha0 ha1 ha2 ha3)
     | (go_at_call 31; refine (HC.out _ _ _ HC4.out).mono ?_; rintro e w5 ⟨rfl, hb⟩; have B5 := aM (blk_below B4.out hb); have HB5 := aM (below_then HB4.out HB4.out.size hb); clear hb B4; have hb0 : w5.cell? ⟨G1, 0, none⟩ = some (.slice A0_0 l0_0.length c0_0) := (blk_cell B5.out 0).trans rfl; have hb1 : w5.cell? ⟨G1, 1, none⟩ = some (.slice A0_1 l0_1.length c0_1) := (blk_cell B5.out 1).trans rfl; have hb2 : w5.cell? ⟨G1, 2, none⟩ = some (.slice A0_2 l0_2.length c0_2) := (blk_cell B5.out 2).trans rfl; have hb3 : w5.cell? ⟨G1, 3, none⟩ = some (.bool true) := (blk_cell B5.out 3).trans rfl))
    all_goals
     go_ret
     exact ⟨by first | (simp; done) | (simp_all; done), HB5.out⟩
/-! ### impl_rowOk: function 35 -/
def impl_rowOk.f (l0_0 : List (S34)) (l0_1 : List (S34)) (l0_2 : List (S34)) (a0_3 : Bool) (l1 : List Int) (l2 : List Int) : Option (Bool) := (impl_RowOk.f l0_0 l0_1 l0_2 a0_3).bind fun t837 => (if t837 = true then ((impl_ValOk.f l1).bind fun t838 => (if t838 = true then ((impl_ArgOk.f l2).bind fun t839 => (some t839)) else (some false))) else (some false))
set_option maxHeartbeats 8000000 in
theorem impl_rowOk.calls (A0_0 : Option Addr) (c0_0 : Nat) (l0_0 : List (S34)) (A0_1 : Option Addr) (c0_1 : Nat) (l0_1 : List (S34)) (A0_2 : Option Addr) (c0_2 : Nat) (l0_2 : List (S34)) (a0_3 : Bool) (A1 : Option Addr) (c1 : Nat) (l1 : List Int) (A2 : Option Addr) (c2 : Nat) (l2 : List Int) (r : Bool) (w : World) (hr0_0 : Kd.C k34 w A0_0 l0_0.length l0_0) (hc0_0 : l0_0.length ≤ c0_0) (hr0_1 : Kd.C k34 w A0_1 l0_1.length l0_1) (hc0_1 : l0_1.length ≤ c0_1) (hr0_2 : Kd.C k34 w A0_2 l0_2.length l0_2) (hc0_2 : l0_2.length ≤ c0_2) (hr1 : Kd.C (Kd.int .i64) w A1 l1.length l1) (hc1 : l1.length ≤ c1) (hr2 : Kd.C (Kd.int .i64) w A2 l2.length l2) (hc2 : l2.length ≤ c2) (h : impl_rowOk.f l0_0 l0_1 l0_2 a0_3 l1 l2 = some r) :
  Calls Try.prog 35 #[.agg #[.slice A0_0 l0_0.length c0_0, .slice A0_1 l0_1.length c0_1, .slice A0_2 l0_2.length c0_2, .bool a0_3], .slice A1 l1.length c1, .slice A2 l2.length c2] w fun e w' => e = .returned (.bool r) ∧ Below w.heap.size w w' := by
 have hu25 := Try.underlying25; have HR0_0 := aM hr0_0; have HC0_0 := aM hc0_0; clear hr0_0 hc0_0; have HR0_1 := aM hr0_1; have HC0_1 := aM hc0_1; clear hr0_1 hc0_1; have HR0_2 := aM hr0_2; have HC0_2 := aM hc0_2; clear hr0_2 hc0_2; have HR1 := aM hr1; have HC1 := aM hc1; clear hr1 hc1; have HR2 := aM hr2; have HC2 := aM hc2; clear hr2 hc2; have HB := aM (Below.refl w.heap.size w); have H : ((impl_RowOk.f l0_0 l0_1 l0_2 a0_3).bind fun t837 => (if t837 = true then ((impl_ValOk.f l1).bind fun t838 => (if t838 = true then ((impl_ArgOk.f l2).bind fun t839 => (some t839)) else (some false))) else (some false))) = some r := h
 clear h; obtain ⟨t837, A4, H⟩ := bS H
 try dsimp only at H
 by_cases c5 : t837 = true
 ·subst c5; rw [if_pos rfl] at H
  try dsimp only at H
  obtain ⟨t838, A6, H⟩ := bS H
  try dsimp only at H
  by_cases c7 : t838 = true
  ·subst c7; rw [if_pos rfl] at H
   try dsimp only at H
   obtain ⟨t839, A8, H⟩ := bS H
   try dsimp only at H
   obtain rfl := Option.some.inj H
   go_enter Try.func35, Try.ntmps35
   go_wp2_with (first | ((with_reducible refine gate_dst (N := 3) rfl ?_); refine bx 3 #[.slice A0_0 l0_0.length c0_0, .slice A0_1 l0_1.length c0_1, .slice A0_2 l0_2.length c0_2, .bool a0_3] 25 ?_; intro gb836 hg w9 hbox hb; have BK836 := aM (hbox); have GW836 := aM (gz hg HB.out); have IGW836 := wn GW836.out; have GE836 := aM (gz hg HB.out); have IGE836 := wn GE836.out; replace HB := aM (bj HB.out hb); clear hb hbox hg; obtain ⟨hcz10_0, hcz10_1, hcz10_2, hcz10_3, hfz10_0, hfz10_1, hfz10_2, hfz10_3⟩ := cf4 BK836.out) | (refine gL (some 8) Try.func7 #[.agg #[.slice A0_0 l0_0.length c0_0, .slice A0_1 l0_1.length c0_1, .slice A0_2 l0_2.length c0_2, .bool a0_3]] ?_; (with_reducible refine (impl_RowOk.calls _ _ l0_0 _ _ l0_1 _ _ l0_2 a0_3 true _ (by exact lC <| (Kd.C_below HR0_0.out HB.out)) HC0_0.out (by exact lC <| (Kd.C_below HR0_1.out HB.out)) HC0_1.out (by exact lC <| (Kd.C_below HR0_2.out HB.out)) HC0_2.out A4.out).mono ?_); rintro e w11 ⟨rfl, hb⟩; refine ⟨_, rfl, ?_⟩; replace BK836 := aM (bb BK836.out hb); replace HB := aM (bj HB.out hb); (try clear hb)) | (go_at_call 8; (with_reducible refine (impl_ValOk.calls _ _ l1 true _ (by exact lC <| (Kd.C_below HR1.out HB.out)) HC1.out A6.out).mono ?_); rintro e w12 ⟨rfl, hb⟩; replace BK836 := aM (bb BK836.out hb); replace HB := aM (bj HB.out hb); (try clear hb)) | (go_at_call 9; (with_reducible refine (impl_ArgOk.calls _ _ l2 t839 _ (by exact lC <| (Kd.C_below HR2.out HB.out)) HC2.out A8.out).mono ?_); rintro e w13 ⟨rfl, hb⟩; replace BK836 := aM (bb BK836.out hb); replace HB := aM (bj HB.out hb); (try clear hb)))
   go_ret
   exact ⟨er, by exact jB HB.out⟩
  ·replace c7 := Bool.eq_false_iff.mpr c7
   subst c7; rw [if_neg nf] at H
   try dsimp only at H
   obtain rfl := Option.some.inj H
   go_enter Try.func35, Try.ntmps35
   go_wp2_with (first | ((with_reducible refine gate_dst (N := 3) rfl ?_); refine bx 3 #[.slice A0_0 l0_0.length c0_0, .slice A0_1 l0_1.length c0_1, .slice A0_2 l0_2.length c0_2, .bool a0_3] 25 ?_; intro gb836 hg w14 hbox hb; have BK836 := aM (hbox); have GW836 := aM (gz hg HB.out); have IGW836 := wn GW836.out; have GE836 := aM (gz hg HB.out); have IGE836 := wn GE836.out; replace HB := aM (bj HB.out hb); clear hb hbox hg; obtain ⟨hcz15_0, hcz15_1, hcz15_2, hcz15_3, hfz15_0, hfz15_1, hfz15_2, hfz15_3⟩ := cf4 BK836.out) | (refine gL (some 8) Try.func7 #[.agg #[.slice A0_0 l0_0.length c0_0, .slice A0_1 l0_1.length c0_1, .slice A0_2 l0_2.length c0_2, .bool a0_3]] ?_; (with_reducible refine (impl_RowOk.calls _ _ l0_0 _ _ l0_1 _ _ l0_2 a0_3 true _ (by exact lC <| (Kd.C_below HR0_0.out HB.out)) HC0_0.out (by exact lC <| (Kd.C_below HR0_1.out HB.out)) HC0_1.out (by exact lC <| (Kd.C_below HR0_2.out HB.out)) HC0_2.out A4.out).mono ?_); rintro e w16 ⟨rfl, hb⟩; refine ⟨_, rfl, ?_⟩; replace BK836 := aM (bb BK836.out hb); replace HB := aM (bj HB.out hb); (try clear hb)) | (go_at_call 8; (with_reducible refine (impl_ValOk.calls _ _ l1 false _ (by exact lC <| (Kd.C_below HR1.out HB.out)) HC1.out A6.out).mono ?_); rintro e w17 ⟨rfl, hb⟩; replace BK836 := aM (bb BK836.out hb); replace HB := aM (bj HB.out hb); (try clear hb)))
   go_ret
   exact ⟨er, by exact jB HB.out⟩
 ·replace c5 := Bool.eq_false_iff.mpr c5
  subst c5; rw [if_neg nf] at H
  try dsimp only at H
  obtain rfl := Option.some.inj H
  go_enter Try.func35, Try.ntmps35
  go_wp2_with (first | ((with_reducible refine gate_dst (N := 3) rfl ?_); refine bx 3 #[.slice A0_0 l0_0.length c0_0, .slice A0_1 l0_1.length c0_1, .slice A0_2 l0_2.length c0_2, .bool a0_3] 25 ?_; intro gb836 hg w18 hbox hb; have BK836 := aM (hbox); have GW836 := aM (gz hg HB.out); have IGW836 := wn GW836.out; have GE836 := aM (gz hg HB.out); have IGE836 := wn GE836.out; replace HB := aM (bj HB.out hb); clear hb hbox hg; obtain ⟨hcz19_0, hcz19_1, hcz19_2, hcz19_3, hfz19_0, hfz19_1, hfz19_2, hfz19_3⟩ := cf4 BK836.out) | (refine gL (some 8) Try.func7 #[.agg #[.slice A0_0 l0_0.length c0_0, .slice A0_1 l0_1.length c0_1, .slice A0_2 l0_2.length c0_2, .bool a0_3]] ?_; (with_reducible refine (impl_RowOk.calls _ _ l0_0 _ _ l0_1 _ _ l0_2 a0_3 false _ (by exact lC <| (Kd.C_below HR0_0.out HB.out)) HC0_0.out (by exact lC <| (Kd.C_below HR0_1.out HB.out)) HC0_1.out (by exact lC <| (Kd.C_below HR0_2.out HB.out)) HC0_2.out A4.out).mono ?_); rintro e w20 ⟨rfl, hb⟩; refine ⟨_, rfl, ?_⟩; replace BK836 := aM (bb BK836.out hb); replace HB := aM (bj HB.out hb); (try clear hb)))
  go_ret
  exact ⟨er, by exact jB HB.out⟩
-- NOT PRINTED: function 36 (impl_RowFits_1)
/-! ### slices_Clone_int_int: function 41, by hand -/
def slices_Clone_int_int.f (l0 : List Int) : Option (List Int) := if l0.length ≤ 17592186044415 then some l0 else none
theorem slices_Clone_int_int.calls (A0 : Option Addr) (c0 : Nat) (l0 : List Int) (r : List Int) (w : World) (hr0 : Kd.C (Kd.int .i64) w A0 l0.length l0) (hc0 : l0.length ≤ c0) (h : slices_Clone_int_int.f l0 = some r) :
  Calls Try.prog 41 #[.slice A0 l0.length c0] w fun e w' => ∃ v0_ : Value, e = .returned (v0_) ∧ Kd.R (Kd.int .i64) 3 w' w.heap.size (fun _ => True) v0_ r ∧ Below w.heap.size w w' := by
 unfold slices_Clone_int_int.f at h
 by_cases hL : l0.length ≤ 17592186044415
 case neg => rw [if_neg hL] at h; exact absurd h (by simp)
 case pos =>
  rw [if_pos hL] at h
  obtain rfl := Option.some.inj h
  clear h; have he : ∀ (w : World) (n : Nat), (binOp .eql 26 (.slice A0 n c0) (.slice none 0 0)).run Try.prog w = .ok (.bool A0.isNone) w := fun w n => Lib.run_eql_slice_nil w 26 3 A0 n c0 0 0 Try.underlying26
  cases A0 with
  | none =>
   have hn : l0 = [] := by
    rcases Nat.eq_zero_or_pos l0.length with h0 | h0
    ·exact List.eq_nil_of_length_eq_zero h0
    ·obtain ⟨ad, e, _⟩ := hr0.2.2 h0
     cases e
   subst hn; clear hr0; go_enter Try.func41, Try.ntmps41
   go_wp2
   go_ret
   exact ⟨_, rfl, Kd.R_nil _ _ _ _ _, Below.refl _ _⟩
  | some ad =>
   have HR := aM hr0; have HL := aM hL; clear hr0 hL; go_enter Try.func41, Try.ntmps41
   go_wp2_with (first
    | ((with_reducible refine gate_dst (N := 5) rfl ?_); refine rlW 5 [] [] ?_; intro v1 w1 ho hb hg_ hnew_; clear hg_ hnew_; have HO1 := aM ho; have HB1 := aM hb; clear ho hb)
    | ((with_reducible refine gate_builtin (b := .append) (xs := #[.tmp 5, .tmp 6]) rfl ?_); refine Kd.R_append_rows (Kd.int .i64) (w0 := w) w.heap.size rfl (.tmp 5) (.tmp 6) 26 3 (.int .i64 0) 8 rfl Try.underlying26 info3 rfl (by decide) (by omega) v1 ([] : List Int) l0 _ _ _ (fun _ => True) (fun _ => False) rfl rfl ?aO ?aR (fun _ _ h => h) (fun _ h => h.elim) ?aF ?aB ?aS ?aL ?_; (case aR => exact Kd.C_below HR.out HB1.out); (case aB => exact HB1.out); (case aF => exact (fun _ _ => trivial)); (case aO => exact HO1.out); (case aS => exact HB1.out.size); (case aL => have := HL.out; simp only [List.length_nil]; omega); intro v2 w2 ho hb hg_ hat_; clear hg_ hat_; rw [List.nil_append] at ho; have HO2 := aM ho; have HB2 := aM hb; clear ho hb))
   go_ret
   exact ⟨_, rfl, HO2.out, HB2.out⟩
/-! ### impl_plus: function 42 -/
def impl_plus.l0 : Nat → List Int → List Int → Int → Int → Option (List Int)
 | 0, _, _, _, _ => none
 | k + 1, x5, x10, x11, x12 => if x12 < x11 then (if 0 ≤ x12 then (if x12 < (x10.length : Int) then (if x12 < (x5.length : Int) then (impl_plus.l0 k (x5.set (x12 : Int).toNat (wrap64 ((rd x5 x12) + (rd x10 x12)))) x10 x11 (wrap64 (x12 + 1))) else (none)) else (none)) else (none)) else (some x5)
def impl_plus.f (k : Nat) (l0 : List Int) (l1 : List Int) : Option (List Int) := (slices_Clone_int_int.f l0).bind fun t857 => (impl_plus.l0 k t857 l1 (l1.length : Int) 0)
theorem impl_plus.calls (k : Nat) (A0 : Option Addr) (c0 : Nat) (l0 : List Int) (A1 : Option Addr) (c1 : Nat) (l1 : List Int) (r : List Int) (w : World) (hr0 : Kd.C (Kd.int .i64) w A0 l0.length l0) (hc0 : l0.length ≤ c0) (hr1 : Kd.C (Kd.int .i64) w A1 l1.length l1) (hc1 : l1.length ≤ c1) (h : impl_plus.f k l0 l1 = some r) :
  Calls Try.prog 42 #[.slice A0 l0.length c0, .slice A1 l1.length c1] w fun e w' => ∃ v0_ : Value, e = .returned (v0_) ∧ Kd.R (Kd.int .i64) 3 w' w.heap.size (fun _ => True) v0_ r ∧ Below w.heap.size w w' := by
 have HR0 := aM hr0; have HC0 := aM hc0; clear hr0 hc0; have HR1 := aM hr1; have HC1 := aM hc1; clear hr1 hc1; have HB := aM (Below.refl w.heap.size w); have H : ((slices_Clone_int_int.f l0).bind fun t857 => (impl_plus.l0 k t857 l1 (l1.length : Int) 0)) = some r := h
 clear h; obtain ⟨t857, A3, H⟩ := bS H
 try dsimp only at H
 have H' := aM H
 clear H; go_enter Try.func42, Try.ntmps42
 go_wp2_with (first | (refine gL (some 9) Try.func41 #[.slice A0 l0.length c0] ?_; (with_reducible refine (slices_Clone_int_int.calls _ _ l0 t857 _ (by exact lC HR0.out) HC0.out A3.out).mono ?_); rintro e w4 ⟨v858, rfl, ho0, hb⟩; refine ⟨_, rfl, ?_⟩; have HO859 := aM (Kd.R_lower ho0 (bz HB.out)); replace HB := aM (bj HB.out hb); clear hb ho0))
 go_loopg [12] k (fun kq v12 w' => ∃ (x5_1 : List Int) (x12_1 : Int), v12 = .int .i64 x12_1 ∧ Aside0 (impl_plus.l0 kq x5_1 l1 (l1.length : Int) x12_1 = some r) ∧ Aside0 (kq ≤ k) ∧ Aside0 (Kd.R (Kd.int .i64) 3 w' w.heap.size (fun _ => True) v858 x5_1) ∧ Aside0 (Below w.heap.size w w'))
 case atStart => exact ⟨(t857), (0), sr, H', ⟨Nat.le_refl _⟩, ⟨by exact lR <| HO859.out⟩, ⟨by exact lB HB.out⟩⟩
 case round =>
  clear H'
  (try clear c1); (try clear p2); (try clear c4)
  obtain ⟨x5_1, x12_1, rfl, HA, HK1, HO_5, HB⟩ := hrel
  cases gk with
  | zero => exact absurd HA.out (by simp [impl_plus.l0])
  | succ k1 =>
   have H := HA.out
   clear HA; simp only [impl_plus.l0] at H
   by_cases c5 : x12_1 < (l1.length : Int)
   ·rw [if_pos c5] at H; replace c5 := decide_eq_true c5; obtain ⟨c6, H⟩ := iD H; obtain ⟨c7, H⟩ := iD H; obtain ⟨c8, H⟩ := iD H; obtain ⟨y862, Ny862⟩ : ∃ y_ : List Int, Aside0 (y_ = (x5_1.set (x12_1 : Int).toNat (wrap64 ((rd x5_1 x12_1) + (rd l1 x12_1))))) := ⟨_, ⟨rfl⟩⟩
    try rw [← Ny862.out] at H
    try dsimp only [Option.bind_some] at H
    have H' := aM H
    clear H; have p860 : 0 ≤ (x12_1 : Int) := od; have q860 : x12_1 < (l1.length : Int) := od; obtain ⟨ad860, e860, hx860_0⟩ := Kd.at_int HR1.out x12_1 p860 q860
    cases e860; replace hx860_0 := cl HB.out hx860_0; replace p860 := eq_true p860; replace q860 := eq_true q860; obtain ⟨Ao10, co10, eo10⟩ := Kd.R_slice HO_5.out; subst eo10; have p861 : 0 ≤ (x12_1 : Int) := od; have q861 : x12_1 < (x5_1.length : Int) := od; obtain ⟨ad861, e861, hx861_0⟩ := Kd.at_int (Kd.R_reads' HO_5.out).2.2 x12_1 p861 q861
    cases e861; replace p861 := eq_true p861; replace q861 := eq_true q861; have p9 : 0 ≤ (x12_1 : Int) := od; have q9 : (x12_1 : Int) < ((x5_1.length : Int) : Int) := od; obtain ⟨go9, co9, eo9, gb9, gl9, cl9, HG9⟩ := Kd.R_form HO_5.out (by omega)
    (first | cases eo9 | (injection eo9 with ea_ en_ ec_; (first | subst ea_ | (injection ea_ with ea_; subst ea_)); subst ec_; clear en_))
    have GB9 := aM gb9; have IGB9 := wn GB9.out
    have GG9 := aM HG9; clear gb9 gl9 HG9
    (first | simp only [add_plain] at hx861_0 | skip)
    obtain ⟨hx9_0, hf9_0⟩ := Kd.R_celln 0 HO_5.out (x12_1 : Int) p9 q9
    replace p9 := eq_true p9; replace q9 := eq_true q9; have HP11 := Kd.R_putg HO_5.out (x12_1 : Int) (wrap64 ((rd x5_1 x12_1) + (rd l1 x12_1)))
    go_wp2_with (first | ((with_reducible refine gate_store (t := 3) (p := 23) rfl ?_); refine store_event (t := 3) (p := 23) (v := ?vo_w12) (w1 := (wr.setCell ⟨go9, (x12_1 : Int).toNat, none⟩ (.int .i64 (wrap64 ((rd x5_1 x12_1) + (rd l1 x12_1)))))) ?hg ?ho ?hn ?hr ?_; (case ho => rfl); (case hg => rfl); (case hn => rfl); (case hr => first | (go_simp; done) | (go_simp; rfl)); intro w12 hw; have hg : wr.grownBy w12 (some go9) := (by rw [hw]; exact HP11.2); have hp_ : Kd.R (Kd.int .i64) 3 w12 w.heap.size (fun _ => True) (.slice (some ⟨go9, 0, none⟩) x5_1.length co10) y862 := (by rw [hw, Ny862.out]; exact HP11.1); clear HP11; replace HO_5 := aM (hp_); replace HB := aM ((by rw [hw]; exact below_set (HB.out) GB9.out : Below w.heap.size w w12)); clear hg hw hp_))
    go_roundg k1
    case measure => have := HK1.out; omega
    case rel => exact ⟨(y862), (wrap64 (x12_1 + 1)), sr, H', ⟨by have := HK1.out; omega⟩, ⟨by exact lR <| HO_5.out⟩, ⟨by exact lB HB.out⟩⟩
   ·rw [if_neg c5] at H; replace c5 := decide_eq_false c5; obtain rfl := Option.some.inj H
    go_wp2
    go_ret
    exact ⟨_, er, by exact lR <| HO_5.out, by exact lB HB.out⟩
/-! ### impl_all: function 43 -/
def impl_all.l0 : Nat → List Int → List Int → List Int → List (S34) → Int → Int → Option (List Int)
 | 0, _, _, _, _, _, _ => none
 | k + 1, x1, x2, x7, x10, x11, x12 => if x12 < x11 then (if 0 ≤ x12 then (if x12 < (x10.length : Int) then ((impl_FrmForm_at.f k ((rd_T34 x10 x12).f0) ((rd_T34 x10 x12).f1) ((rd_T34 x10 x12).f2) x1 x2).bind fun t865 => (if x7.length < 17592186044416 then (impl_all.l0 k x1 x2 (x7 ++ [t865]) x10 x11 (wrap64 (x12 + 1))) else (none))) else (none)) else (none)) else (some x7)
def impl_all.f (k : Nat) (l0 : List (S34)) (l1 : List Int) (l2 : List Int) : Option (List Int) := impl_all.l0 k l1 l2 ([] : List Int) l0 (l0.length : Int) 0
theorem impl_all.calls (k : Nat) (A0 : Option Addr) (c0 : Nat) (l0 : List (S34)) (A1 : Option Addr) (c1 : Nat) (l1 : List Int) (A2 : Option Addr) (c2 : Nat) (l2 : List Int) (r : List Int) (w : World) (hr0 : Kd.C k34 w A0 l0.length l0) (hc0 : l0.length ≤ c0) (hr1 : Kd.C (Kd.int .i64) w A1 l1.length l1) (hc1 : l1.length ≤ c1) (hr2 : Kd.C (Kd.int .i64) w A2 l2.length l2) (hc2 : l2.length ≤ c2) (h : impl_all.f k l0 l1 l2 = some r) :
  Calls Try.prog 43 #[.slice A0 l0.length c0, .slice A1 l1.length c1, .slice A2 l2.length c2] w fun e w' => ∃ v0_ : Value, e = .returned (v0_) ∧ Kd.R (Kd.int .i64) 3 w' w.heap.size (fun _ => True) v0_ r ∧ Below w.heap.size w w' := by
 have hu34 := Try.underlying34; have HR0 := aM hr0; have HC0 := aM hc0; clear hr0 hc0; have HR1 := aM hr1; have HC1 := aM hc1; clear hr1 hc1; have HR2 := aM hr2; have HC2 := aM hc2; clear hr2 hc2; have HB := aM (Below.refl w.heap.size w); have H : (impl_all.l0 k l1 l2 ([] : List Int) l0 (l0.length : Int) 0) = some r := h
 clear h; have H' := aM H
 clear H; go_enter Try.func43, Try.ntmps43
 go_wp2
 go_loopg [7, 12] k (fun kq v7 v12 w' => ∃ (x7_1 : List Int) (x12_1 : Int), v12 = .int .i64 x12_1 ∧ Aside0 (impl_all.l0 kq l1 l2 x7_1 l0 (l0.length : Int) x12_1 = some r) ∧ Aside0 (kq ≤ k) ∧ Aside0 (Kd.R (Kd.int .i64) 3 w' w.heap.size (fun _ => True) v7 x7_1) ∧ Aside0 (Below w.heap.size w w'))
 case atStart => exact ⟨(([] : List Int)), (0), sr, H', ⟨Nat.le_refl _⟩, ⟨by first | exact Kd.R_nil _ _ _ _ _ | exact Kd.N_nil _ _ _ _ _ | exact Kd.V_nil _ _ _ _ _ | exact Kd.Q_nil _ _ _ _ _ | exact Kd.S_nil _ _ _ _ _⟩, ⟨by exact lB HB.out⟩⟩
 case round =>
  clear H'
  (try clear c1); (try clear c2); (try clear p2)
  obtain ⟨x7_1, x12_1, rfl, HA, HK1, HO_7, HB⟩ := hrel
  cases gk with
  | zero => exact absurd HA.out (by simp [impl_all.l0])
  | succ k1 =>
   have H := HA.out
   clear HA; simp only [impl_all.l0] at H
   by_cases c4 : x12_1 < (l0.length : Int)
   ·rw [if_pos c4] at H; replace c4 := decide_eq_true c4; obtain ⟨c5, H⟩ := iD H; obtain ⟨c6, H⟩ := iD H; obtain ⟨t865, A7, H⟩ := bS H
    try dsimp only at H
    obtain ⟨c8, H⟩ := iN H; have LMc8 := aM c8; clear c8; obtain ⟨y866, Ny866⟩ : ∃ y_ : List Int, Aside0 (y_ = (x7_1 ++ [t865])) := ⟨_, ⟨rfl⟩⟩
    try rw [← Ny866.out] at H
    try dsimp only [Option.bind_some] at H
    have H' := aM H
    clear H; have p863 : 0 ≤ (x12_1 : Int) := od; have q863 : x12_1 < (l0.length : Int) := od; obtain ⟨ad863, A863_0, c863_0, A863_1, c863_1, e863, hx863_0, hx863_1, hx863_2, hl863_0, hi863_0, hl863_1, hi863_1⟩ := at_T34 HR0.out x12_1 p863 q863
    cases e863; replace hx863_0 := cl HB.out hx863_0; replace hx863_1 := cl HB.out hx863_1; replace hx863_2 := cl HB.out hx863_2; have HR863_0 := aM hi863_0; have HC863_0 := aM hl863_0; clear hi863_0 hl863_0; have HR863_1 := aM hi863_1; have HC863_1 := aM hl863_1; clear hi863_1 hl863_1; replace p863 := eq_true p863; replace q863 := eq_true q863; go_wp2_with (first | ((with_reducible refine gate_dst (N := 9) rfl ?_); refine bx 9 #[.slice none 0 0, .slice none 0 0, .int .i64 0] 34 ?_; intro gb864 hg w9 hbox hb; replace HO_7 := aM (rb HO_7.out hb); have BK864 := aM (hbox); have GW864 := aM (gz hg HB.out); have IGW864 := wn GW864.out; have GE864 := aM (gz hg HB.out); have IGE864 := wn GE864.out; replace HB := aM (bj HB.out hb); clear hb hbox hg; obtain ⟨hcz10_0, hcz10_1, hcz10_2, hfz10_0, hfz10_1, hfz10_2⟩ := cf3 BK864.out) | (refine gL (some 20) Try.func34 #[.agg #[.slice A863_0 ((rd_T34 l0 x12_1).f0).length c863_0, .slice A863_1 ((rd_T34 l0 x12_1).f1).length c863_1, .int .i64 ((rd_T34 l0 x12_1).f2)], .slice A1 l1.length c1, .slice A2 l2.length c2] ?_; (with_reducible refine (impl_FrmForm_at.calls k1 _ _ ((rd_T34 l0 x12_1).f0) _ _ ((rd_T34 l0 x12_1).f1) ((rd_T34 l0 x12_1).f2) _ _ l1 _ _ l2 t865 _ (by exact Kd.C_below HR863_0.out (by exact jB HB.out)) HC863_0.out (by exact Kd.C_below HR863_1.out (by exact jB HB.out)) HC863_1.out (by exact Kd.C_below HR1.out (by exact jB HB.out)) HC1.out (by exact Kd.C_below HR2.out (by exact jB HB.out)) HC2.out A7.out).mono ?_); rintro e w11 ⟨rfl, hb⟩; refine ⟨_, rfl, ?_⟩; replace HO_7 := aM (Kd.R_below (by (with_reducible repeat (first | apply ra | apply rn | apply re)); exact (R3 HO_7.out BK864.out)) hb); replace BK864 := aM (blk_below (g := gb864) (o := .cells #[.slice A863_0 ((rd_T34 l0 x12_1).f0).length c863_0, .slice A863_1 ((rd_T34 l0 x12_1).f1).length c863_1, .int .i64 ((rd_T34 l0 x12_1).f2)] 34 (0, 0)) (by exact p3 (lK BK864.out)) hb); replace HB := aM (bj HB.out hb); (try clear hb)) | ((with_reducible refine gate_builtin (b := .append) (xs := #[.tmp 16, .tmp 21]) rfl ?_); at_builtin; refine Kd.R_append (Kd.int .i64) (w0 := w) w.heap.size rfl (.tmp 16) (.tmp 21) 26 3 (.int .i64 0) 8 rfl Try.underlying26 info3 rfl (by decide) (by omega) u7 x7_1 t865 [.int .i64 t865] (fun _ => True) (fun _ => False) rfl rfl ?aP (fun _ hk => hk.elim) ?aF ?aO ?aB ?aS ?aL ?_; (case aP => exact rfl); (case aB => exact (by exact jB HB.out)); (case aF => exact (fun _ _ => trivial)); (case aO => exact (by exact lR HO_7.out)); (case aS => exact (bz HB.out)); (case aL => have := LMc8.out; omega); intro v867 w12 ho hb hg hat; rw [← Ny866.out] at ho; replace BK864 := aM (blk_grown (g := gb864) (lK BK864.out) hg (Kd.R_ne HO_7.out BK864.out (by decide))); replace HB := aM (hb); have HO868 := aM (ho); clear HO_7 ho hb hg hat))
    go_roundg k1
    case measure => have := HK1.out; omega
    case rel => exact ⟨(y866), (wrap64 (x12_1 + 1)), sr, H', ⟨by have := HK1.out; omega⟩, ⟨by exact lR <| HO868.out⟩, ⟨by exact jB HB.out⟩⟩
   ·rw [if_neg c4] at H; replace c4 := decide_eq_false c4; obtain rfl := Option.some.inj H
    go_wp2
    go_ret
    exact ⟨_, er, by exact lR <| HO_7.out, by exact lB HB.out⟩
/-! ### impl_RowDo: function 15 -/
def impl_RowDo.f (k : Nat) (l0_0 : List (S34)) (l0_1 : List (S34)) (l0_2 : List (S34)) (a0_3 : Bool) (l1 : List Int) (l2 : List Int) : Option (Int × List Int × List Int) := (impl_rowOk.f l0_0 l0_1 l0_2 a0_3 l1 l2).bind fun t871 => (if t871 = true then (if a0_3 = true then ((slices_Clone_int_int.f l1).bind fun t872 => (some (2, ([] : List Int), t872))) else ((impl_all.f k l0_1 l1 l2).bind fun t875 => ((impl_plus.f k l1 t875).bind fun t878 => ((impl_ValOk.f t878).bind fun t881 => (if t881 = true then ((impl_all.f k l0_2 l1 l2).bind fun t882 => (some (1, t882, t878))) else ((slices_Clone_int_int.f l1).bind fun t885 => (some (3, ([] : List Int), t885)))))))) else (some (0, ([] : List Int), ([] : List Int))))
theorem impl_RowDo.calls (k : Nat) (A0_0 : Option Addr) (c0_0 : Nat) (l0_0 : List (S34)) (A0_1 : Option Addr) (c0_1 : Nat) (l0_1 : List (S34)) (A0_2 : Option Addr) (c0_2 : Nat) (l0_2 : List (S34)) (a0_3 : Bool) (A1 : Option Addr) (c1 : Nat) (l1 : List Int) (A2 : Option Addr) (c2 : Nat) (l2 : List Int) (r1 : Int) (r2 : List Int) (r3 : List Int) (w : World) (hr0_0 : Kd.C k34 w A0_0 l0_0.length l0_0) (hc0_0 : l0_0.length ≤ c0_0) (hr0_1 : Kd.C k34 w A0_1 l0_1.length l0_1) (hc0_1 : l0_1.length ≤ c0_1) (hr0_2 : Kd.C k34 w A0_2 l0_2.length l0_2) (hc0_2 : l0_2.length ≤ c0_2) (hr1 : Kd.C (Kd.int .i64) w A1 l1.length l1) (hc1 : l1.length ≤ c1) (hr2 : Kd.C (Kd.int .i64) w A2 l2.length l2) (hc2 : l2.length ≤ c2) (h : impl_RowDo.f k l0_0 l0_1 l0_2 a0_3 l1 l2 = some (r1, r2, r3)) :
  Calls Try.prog 15 #[.agg #[.slice A0_0 l0_0.length c0_0, .slice A0_1 l0_1.length c0_1, .slice A0_2 l0_2.length c0_2, .bool a0_3], .slice A1 l1.length c1, .slice A2 l2.length c2] w fun e w' => ∃ v1_ v2_ : Value, e = .returned (.tuple #[.agg #[.int .i64 r1, v1_], v2_]) ∧ Kd.R (Kd.int .i64) 3 w' w.heap.size (fun k_ => some k_ ≠ (v2_ : Value).ownBlock) v1_ r2 ∧ Kd.R (Kd.int .i64) 3 w' w.heap.size (fun k_ => some k_ ≠ (v1_ : Value).ownBlock) v2_ r3 ∧ Below w.heap.size w w' := by
 have hu25 := Try.underlying25; have hu38 := Try.underlying38; have HR0_0 := aM hr0_0; have HC0_0 := aM hc0_0; clear hr0_0 hc0_0; have HR0_1 := aM hr0_1; have HC0_1 := aM hc0_1; clear hr0_1 hc0_1; have HR0_2 := aM hr0_2; have HC0_2 := aM hc0_2; clear hr0_2 hc0_2; have HR1 := aM hr1; have HC1 := aM hc1; clear hr1 hc1; have HR2 := aM hr2; have HC2 := aM hc2; clear hr2 hc2; have HB := aM (Below.refl w.heap.size w); have H : ((impl_rowOk.f l0_0 l0_1 l0_2 a0_3 l1 l2).bind fun t871 => (if t871 = true then (if a0_3 = true then ((slices_Clone_int_int.f l1).bind fun t872 => (some (2, ([] : List Int), t872))) else ((impl_all.f k l0_1 l1 l2).bind fun t875 => ((impl_plus.f k l1 t875).bind fun t878 => ((impl_ValOk.f t878).bind fun t881 => (if t881 = true then ((impl_all.f k l0_2 l1 l2).bind fun t882 => (some (1, t882, t878))) else ((slices_Clone_int_int.f l1).bind fun t885 => (some (3, ([] : List Int), t885)))))))) else (some (0, ([] : List Int), ([] : List Int))))) = some (r1, r2, r3) := h
 clear h; obtain ⟨t871, A4, H⟩ := bS H
 try dsimp only at H
 by_cases c5 : t871 = true
 ·subst c5; rw [if_pos rfl] at H
  try dsimp only at H
  by_cases c6 : a0_3 = true
  ·subst c6; rw [if_pos rfl] at H
   try dsimp only at H
   obtain ⟨t872, A7, H⟩ := bS H
   try dsimp only at H
   simp only [Option.some.injEq, Prod.mk.injEq] at H
   obtain ⟨rfl, rfl, rfl⟩ := H
   go_enter Try.func15, Try.ntmps15
   go_wp2_with (first | ((with_reducible refine gate_dst (N := 3) rfl ?_); refine bx 3 #[.slice A0_0 l0_0.length c0_0, .slice A0_1 l0_1.length c0_1, .slice A0_2 l0_2.length c0_2, .bool true] 25 ?_; intro gb869 hg w8 hbox hb; have BK869 := aM (hbox); have GW869 := aM (gz hg HB.out); have IGW869 := wn GW869.out; have GE869 := aM (gz hg HB.out); have IGE869 := wn GE869.out; replace HB := aM (bj HB.out hb); clear hb hbox hg) | ((with_reducible refine gate_dst (N := 6) rfl ?_); refine bx 6 #[.int .i64 0, .slice none 0 0] 38 ?_; intro gb870 hg w9 hbox hb; have BK870 := aM (hbox); have GW870 := aM (gz hg HB.out); have IGW870 := wn GW870.out; have GE870 := aM (gz hg HB.out); have IGE870 := wn GE870.out; replace HB := aM (bj HB.out hb); have NB869_870 := aM ((neL hg (lK BK869.out) : gb869 ≠ gb870)); have NB870_869 := aM ((neG hg (lK BK869.out) : gb870 ≠ gb869)); replace BK869 := aM (bb BK869.out hb); clear hb hbox hg; have hnb10 := NB869_870.out; have hnc10 := NB870_869.out; obtain ⟨hcz11_0, hcz11_1, hcz11_2, hcz11_3, hfz11_0, hfz11_1, hfz11_2, hfz11_3⟩ := cf4 BK869.out) | (refine gL (some 13) Try.func35 #[.agg #[.slice A0_0 l0_0.length c0_0, .slice A0_1 l0_1.length c0_1, .slice A0_2 l0_2.length c0_2, .bool true], .slice A1 l1.length c1, .slice A2 l2.length c2] ?_; (with_reducible refine (impl_rowOk.calls _ _ l0_0 _ _ l0_1 _ _ l0_2 true _ _ l1 _ _ l2 true _ (by exact lC <| (Kd.C_below HR0_0.out HB.out)) HC0_0.out (by exact lC <| (Kd.C_below HR0_1.out HB.out)) HC0_1.out (by exact lC <| (Kd.C_below HR0_2.out HB.out)) HC0_2.out (by exact lC <| (Kd.C_below HR1.out HB.out)) HC1.out (by exact lC <| (Kd.C_below HR2.out HB.out)) HC2.out A4.out).mono ?_); rintro e w12 ⟨rfl, hb⟩; refine ⟨_, rfl, ?_⟩; replace BK869 := aM (bb BK869.out hb); replace BK870 := aM (bb BK870.out hb); replace HB := aM (bj HB.out hb); (try clear hb); obtain ⟨hcz13_0, hcz13_1, hcz13_2, hcz13_3, hfz13_0, hfz13_1, hfz13_2, hfz13_3⟩ := cf4 BK869.out) | (refine gL (some 21) Try.func41 #[.slice A1 l1.length c1] ?_; (with_reducible refine (slices_Clone_int_int.calls _ _ l1 t872 _ (by exact lC <| (Kd.C_below HR1.out HB.out)) HC1.out A7.out).mono ?_); rintro e w14 ⟨v873, rfl, ho0, hb⟩; refine ⟨_, rfl, ?_⟩; have HO874 := aM (Kd.R_lower ho0 (bz HB.out)); replace BK869 := aM (bb BK869.out hb); replace BK870 := aM (bb BK870.out hb); replace HB := aM (bj HB.out hb); clear hb ho0; obtain ⟨hcz15_0, hcz15_1, hfz15_0, hfz15_1⟩ := cf2 BK870.out))
   refine bodyPost_ret (results_ct rfl _ _ gb870 38 #[.int .i64 2, .slice none 0 0] (0, 0) _ rfl (by exact p2 (lK BK870.out)) Try.underlying38 rfl (by kernel_rfl)) rfl ?_
   exact ⟨_, _, er, by first | exact Kd.R_nil _ _ _ _ _ | exact Kd.N_nil _ _ _ _ _ | exact Kd.V_nil _ _ _ _ _ | exact Kd.Q_nil _ _ _ _ _ | exact Kd.S_nil _ _ _ _ _, by exact lR <| Kd.R_mono (Kd.R_far (p := ⟨gb870, 1, none⟩) (Kd.R_far (p := ⟨gb870, 0, none⟩) (Kd.R_types HO874.out BK870.out (by decide)) (fun _ hk => by first | exact hk.2 | exact fun e_ => hk.2 (e_.trans (ob _ _ _ _))) (.int .i64 2)) (fun _ hk => by first | exact hk.2 | exact fun e_ => hk.2 (e_.trans (ob _ _ _ _))) (.slice none 0 0)) (fun _ hk => (by simp [Value.ownBlock])), by exact jB HB.out⟩
  ·replace c6 := Bool.eq_false_iff.mpr c6
   subst c6; rw [if_neg nf] at H
   try dsimp only at H
   obtain ⟨t875, A16, H⟩ := bS H
   try dsimp only at H
   obtain ⟨t878, A17, H⟩ := bS H
   try dsimp only at H
   obtain ⟨t881, A18, H⟩ := bS H
   try dsimp only at H
   by_cases c19 : t881 = true
   ·subst c19; rw [if_pos rfl] at H
    try dsimp only at H
    obtain ⟨t882, A20, H⟩ := bS H
    try dsimp only at H
    simp only [Option.some.injEq, Prod.mk.injEq] at H
    obtain ⟨rfl, rfl, rfl⟩ := H
    go_enter Try.func15, Try.ntmps15
    go_wp2_with (first | ((with_reducible refine gate_dst (N := 3) rfl ?_); refine bx 3 #[.slice A0_0 l0_0.length c0_0, .slice A0_1 l0_1.length c0_1, .slice A0_2 l0_2.length c0_2, .bool false] 25 ?_; intro gb869 hg w21 hbox hb; have BK869 := aM (hbox); have GW869 := aM (gz hg HB.out); have IGW869 := wn GW869.out; have GE869 := aM (gz hg HB.out); have IGE869 := wn GE869.out; replace HB := aM (bj HB.out hb); clear hb hbox hg) | ((with_reducible refine gate_dst (N := 6) rfl ?_); refine bx 6 #[.int .i64 0, .slice none 0 0] 38 ?_; intro gb870 hg w22 hbox hb; have BK870 := aM (hbox); have GW870 := aM (gz hg HB.out); have IGW870 := wn GW870.out; have GE870 := aM (gz hg HB.out); have IGE870 := wn GE870.out; replace HB := aM (bj HB.out hb); have NB869_870 := aM ((neL hg (lK BK869.out) : gb869 ≠ gb870)); have NB870_869 := aM ((neG hg (lK BK869.out) : gb870 ≠ gb869)); replace BK869 := aM (bb BK869.out hb); clear hb hbox hg; have hnb23 := NB869_870.out; have hnc23 := NB870_869.out; obtain ⟨hcz24_0, hcz24_1, hcz24_2, hcz24_3, hfz24_0, hfz24_1, hfz24_2, hfz24_3⟩ := cf4 BK869.out) | (refine gL (some 13) Try.func35 #[.agg #[.slice A0_0 l0_0.length c0_0, .slice A0_1 l0_1.length c0_1, .slice A0_2 l0_2.length c0_2, .bool false], .slice A1 l1.length c1, .slice A2 l2.length c2] ?_; (with_reducible refine (impl_rowOk.calls _ _ l0_0 _ _ l0_1 _ _ l0_2 false _ _ l1 _ _ l2 true _ (by exact lC <| (Kd.C_below HR0_0.out HB.out)) HC0_0.out (by exact lC <| (Kd.C_below HR0_1.out HB.out)) HC0_1.out (by exact lC <| (Kd.C_below HR0_2.out HB.out)) HC0_2.out (by exact lC <| (Kd.C_below HR1.out HB.out)) HC1.out (by exact lC <| (Kd.C_below HR2.out HB.out)) HC2.out A4.out).mono ?_); rintro e w25 ⟨rfl, hb⟩; refine ⟨_, rfl, ?_⟩; replace BK869 := aM (bb BK869.out hb); replace BK870 := aM (bb BK870.out hb); replace HB := aM (bj HB.out hb); (try clear hb); obtain ⟨hcz26_0, hcz26_1, hcz26_2, hcz26_3, hfz26_0, hfz26_1, hfz26_2, hfz26_3⟩ := cf4 BK869.out) | (refine gL (some 27) Try.func43 #[.slice A0_1 l0_1.length c0_1, .slice A1 l1.length c1, .slice A2 l2.length c2] ?_; (with_reducible refine (impl_all.calls k _ _ l0_1 _ _ l1 _ _ l2 t875 _ (by exact lC <| (Kd.C_below HR0_1.out HB.out)) HC0_1.out (by exact lC <| (Kd.C_below HR1.out HB.out)) HC1.out (by exact lC <| (Kd.C_below HR2.out HB.out)) HC2.out A16.out).mono ?_); rintro e w27 ⟨v876, rfl, ho0, hb⟩; refine ⟨_, rfl, ?_⟩; have HO877 := aM (Kd.R_lower ho0 (bz HB.out)); replace BK869 := aM (bb BK869.out hb); replace BK870 := aM (bb BK870.out hb); replace HB := aM (bj HB.out hb); clear hb ho0; obtain ⟨Ao28, co28, rfl⟩ := Kd.R_slice HO877.out) | (refine gL (some 28) Try.func42 #[.slice A1 l1.length c1, .slice Ao28 t875.length co28] ?_; (with_reducible refine (impl_plus.calls k _ _ l1 _ _ t875 t878 _ (by exact lC <| (Kd.C_below HR1.out HB.out)) HC1.out (by exact lC <| (Kd.R_reads' HO877.out).2.2) (by exact (Kd.R_reads' HO877.out).2.1) A17.out).mono ?_); rintro e w29 ⟨v879, rfl, ho0, hb⟩; refine ⟨_, rfl, ?_⟩; have HO880 := aM (Kd.R_lower (Kd.R_new' ho0 (rl HO877.out)) (bz HB.out)); replace HO877 := aM (Kd.R_elder' (by exact lR HO877.out) (Kd.R_base ho0) hb); replace BK869 := aM (bb BK869.out hb); replace BK870 := aM (bb BK870.out hb); replace HB := aM (bj HB.out hb); clear hb ho0; obtain ⟨Ao30, co30, rfl⟩ := Kd.R_slice HO880.out) | (refine gL (some 30) Try.func8 #[.slice Ao30 t878.length co30] ?_; (with_reducible refine (impl_ValOk.calls _ _ t878 true _ (by exact lC <| (Kd.R_reads' HO880.out).2.2) (by exact (Kd.R_reads' HO880.out).2.1) A18.out).mono ?_); rintro e w31 ⟨rfl, hb⟩; refine ⟨_, rfl, ?_⟩; replace HO877 := aM (rb HO877.out hb); replace HO880 := aM (rb HO880.out hb); replace BK869 := aM (bb BK869.out hb); replace BK870 := aM (bb BK870.out hb); replace HB := aM (bj HB.out hb); (try clear hb); obtain ⟨hcz32_0, hcz32_1, hcz32_2, hcz32_3, hfz32_0, hfz32_1, hfz32_2, hfz32_3⟩ := cf4 BK869.out) | (refine gL (some 39) Try.func43 #[.slice A0_2 l0_2.length c0_2, .slice A1 l1.length c1, .slice A2 l2.length c2] ?_; (with_reducible refine (impl_all.calls k _ _ l0_2 _ _ l1 _ _ l2 t882 _ (by exact lC <| (Kd.C_below HR0_2.out HB.out)) HC0_2.out (by exact lC <| (Kd.C_below HR1.out HB.out)) HC1.out (by exact lC <| (Kd.C_below HR2.out HB.out)) HC2.out A20.out).mono ?_); rintro e w33 ⟨v883, rfl, ho0, hb⟩; refine ⟨_, rfl, ?_⟩; have HO884 := aM (Kd.R_lower (Kd.R_new' (Kd.R_new' ho0 (rl HO877.out)) (rl HO880.out)) (bz HB.out)); replace HO877 := aM (Kd.R_elder' (by exact lR HO877.out) (Kd.R_base ho0) hb); replace HO880 := aM (Kd.R_elder' (by exact lR HO880.out) (Kd.R_base ho0) hb); replace BK869 := aM (bb BK869.out hb); replace BK870 := aM (bb BK870.out hb); replace HB := aM (bj HB.out hb); clear hb ho0; obtain ⟨Ao34, co34, rfl⟩ := Kd.R_slice HO884.out; obtain ⟨hcz35_0, hcz35_1, hfz35_0, hfz35_1⟩ := cf2 BK870.out))
    refine bodyPost_ret (results_ct rfl _ _ gb870 38 #[.int .i64 1, .slice Ao34 t882.length co34] (0, 0) _ rfl (by exact p2 (lK BK870.out)) Try.underlying38 rfl (by kernel_rfl)) rfl ?_
    exact ⟨_, _, er, by exact lR <| Kd.R_mono (Kd.R_far (p := ⟨gb870, 1, none⟩) (Kd.R_far (p := ⟨gb870, 0, none⟩) (Kd.R_types HO884.out BK870.out (by decide)) (fun _ hk => by first | exact hk.2 | exact fun e_ => hk.2 (e_.trans (ob _ _ _ _))) (.int .i64 1)) (fun _ hk => by first | exact hk.2 | exact fun e_ => hk.2 (e_.trans (ob _ _ _ _))) (.slice Ao34 t882.length co34)) (fun _ hk => by first | exact hk.1.2 | exact fun e_ => hk.1.2 (e_.trans (ob _ _ _ _))), by exact lR <| Kd.R_mono (Kd.R_far (p := ⟨gb870, 1, none⟩) (Kd.R_far (p := ⟨gb870, 0, none⟩) (Kd.R_types HO880.out BK870.out (by decide)) (fun _ hk => by first | exact hk.2 | exact fun e_ => hk.2 (e_.trans (ob _ _ _ _))) (.int .i64 1)) (fun _ hk => by first | exact hk.2 | exact fun e_ => hk.2 (e_.trans (ob _ _ _ _))) (.slice Ao34 t882.length co34)) (fun _ hk => by first | exact hk.1.2 | exact fun e_ => hk.1.2 (e_.trans (ob _ _ _ _))), by exact jB HB.out⟩
   ·replace c19 := Bool.eq_false_iff.mpr c19
    subst c19; rw [if_neg nf] at H
    try dsimp only at H
    obtain ⟨t885, A36, H⟩ := bS H
    try dsimp only at H
    simp only [Option.some.injEq, Prod.mk.injEq] at H
    obtain ⟨rfl, rfl, rfl⟩ := H
    go_enter Try.func15, Try.ntmps15
    go_wp2_with (first | ((with_reducible refine gate_dst (N := 3) rfl ?_); refine bx 3 #[.slice A0_0 l0_0.length c0_0, .slice A0_1 l0_1.length c0_1, .slice A0_2 l0_2.length c0_2, .bool false] 25 ?_; intro gb869 hg w37 hbox hb; have BK869 := aM (hbox); have GW869 := aM (gz hg HB.out); have IGW869 := wn GW869.out; have GE869 := aM (gz hg HB.out); have IGE869 := wn GE869.out; replace HB := aM (bj HB.out hb); clear hb hbox hg) | ((with_reducible refine gate_dst (N := 6) rfl ?_); refine bx 6 #[.int .i64 0, .slice none 0 0] 38 ?_; intro gb870 hg w38 hbox hb; have BK870 := aM (hbox); have GW870 := aM (gz hg HB.out); have IGW870 := wn GW870.out; have GE870 := aM (gz hg HB.out); have IGE870 := wn GE870.out; replace HB := aM (bj HB.out hb); have NB869_870 := aM ((neL hg (lK BK869.out) : gb869 ≠ gb870)); have NB870_869 := aM ((neG hg (lK BK869.out) : gb870 ≠ gb869)); replace BK869 := aM (bb BK869.out hb); clear hb hbox hg; have hnb39 := NB869_870.out; have hnc39 := NB870_869.out; obtain ⟨hcz40_0, hcz40_1, hcz40_2, hcz40_3, hfz40_0, hfz40_1, hfz40_2, hfz40_3⟩ := cf4 BK869.out) | (refine gL (some 13) Try.func35 #[.agg #[.slice A0_0 l0_0.length c0_0, .slice A0_1 l0_1.length c0_1, .slice A0_2 l0_2.length c0_2, .bool false], .slice A1 l1.length c1, .slice A2 l2.length c2] ?_; (with_reducible refine (impl_rowOk.calls _ _ l0_0 _ _ l0_1 _ _ l0_2 false _ _ l1 _ _ l2 true _ (by exact lC <| (Kd.C_below HR0_0.out HB.out)) HC0_0.out (by exact lC <| (Kd.C_below HR0_1.out HB.out)) HC0_1.out (by exact lC <| (Kd.C_below HR0_2.out HB.out)) HC0_2.out (by exact lC <| (Kd.C_below HR1.out HB.out)) HC1.out (by exact lC <| (Kd.C_below HR2.out HB.out)) HC2.out A4.out).mono ?_); rintro e w41 ⟨rfl, hb⟩; refine ⟨_, rfl, ?_⟩; replace BK869 := aM (bb BK869.out hb); replace BK870 := aM (bb BK870.out hb); replace HB := aM (bj HB.out hb); (try clear hb); obtain ⟨hcz42_0, hcz42_1, hcz42_2, hcz42_3, hfz42_0, hfz42_1, hfz42_2, hfz42_3⟩ := cf4 BK869.out) | (refine gL (some 27) Try.func43 #[.slice A0_1 l0_1.length c0_1, .slice A1 l1.length c1, .slice A2 l2.length c2] ?_; (with_reducible refine (impl_all.calls k _ _ l0_1 _ _ l1 _ _ l2 t875 _ (by exact lC <| (Kd.C_below HR0_1.out HB.out)) HC0_1.out (by exact lC <| (Kd.C_below HR1.out HB.out)) HC1.out (by exact lC <| (Kd.C_below HR2.out HB.out)) HC2.out A16.out).mono ?_); rintro e w43 ⟨v876, rfl, ho0, hb⟩; refine ⟨_, rfl, ?_⟩; have HO877 := aM (Kd.R_lower ho0 (bz HB.out)); replace BK869 := aM (bb BK869.out hb); replace BK870 := aM (bb BK870.out hb); replace HB := aM (bj HB.out hb); clear hb ho0; obtain ⟨Ao44, co44, rfl⟩ := Kd.R_slice HO877.out) | (refine gL (some 28) Try.func42 #[.slice A1 l1.length c1, .slice Ao44 t875.length co44] ?_; (with_reducible refine (impl_plus.calls k _ _ l1 _ _ t875 t878 _ (by exact lC <| (Kd.C_below HR1.out HB.out)) HC1.out (by exact lC <| (Kd.R_reads' HO877.out).2.2) (by exact (Kd.R_reads' HO877.out).2.1) A17.out).mono ?_); rintro e w45 ⟨v879, rfl, ho0, hb⟩; refine ⟨_, rfl, ?_⟩; have HO880 := aM (Kd.R_lower (Kd.R_new' ho0 (rl HO877.out)) (bz HB.out)); replace HO877 := aM (Kd.R_elder' (by exact lR HO877.out) (Kd.R_base ho0) hb); replace BK869 := aM (bb BK869.out hb); replace BK870 := aM (bb BK870.out hb); replace HB := aM (bj HB.out hb); clear hb ho0; obtain ⟨Ao46, co46, rfl⟩ := Kd.R_slice HO880.out) | (refine gL (some 30) Try.func8 #[.slice Ao46 t878.length co46] ?_; (with_reducible refine (impl_ValOk.calls _ _ t878 false _ (by exact lC <| (Kd.R_reads' HO880.out).2.2) (by exact (Kd.R_reads' HO880.out).2.1) A18.out).mono ?_); rintro e w47 ⟨rfl, hb⟩; refine ⟨_, rfl, ?_⟩; replace HO877 := aM (rb HO877.out hb); replace HO880 := aM (rb HO880.out hb); replace BK869 := aM (bb BK869.out hb); replace BK870 := aM (bb BK870.out hb); replace HB := aM (bj HB.out hb); (try clear hb)) | (refine gL (some 34) Try.func41 #[.slice A1 l1.length c1] ?_; (with_reducible refine (slices_Clone_int_int.calls _ _ l1 t885 _ (by exact lC <| (Kd.C_below HR1.out HB.out)) HC1.out A36.out).mono ?_); rintro e w48 ⟨v886, rfl, ho0, hb⟩; refine ⟨_, rfl, ?_⟩; have HO887 := aM (Kd.R_lower (Kd.R_new' (Kd.R_new' ho0 (rl HO877.out)) (rl HO880.out)) (bz HB.out)); replace HO877 := aM (Kd.R_elder' (by exact lR HO877.out) (Kd.R_base ho0) hb); replace HO880 := aM (Kd.R_elder' (by exact lR HO880.out) (Kd.R_base ho0) hb); replace BK869 := aM (bb BK869.out hb); replace BK870 := aM (bb BK870.out hb); replace HB := aM (bj HB.out hb); clear hb ho0; obtain ⟨hcz49_0, hcz49_1, hfz49_0, hfz49_1⟩ := cf2 BK870.out))
    refine bodyPost_ret (results_ct rfl _ _ gb870 38 #[.int .i64 3, .slice none 0 0] (0, 0) _ rfl (by exact p2 (lK BK870.out)) Try.underlying38 rfl (by kernel_rfl)) rfl ?_
    exact ⟨_, _, er, by first | exact Kd.R_nil _ _ _ _ _ | exact Kd.N_nil _ _ _ _ _ | exact Kd.V_nil _ _ _ _ _ | exact Kd.Q_nil _ _ _ _ _ | exact Kd.S_nil _ _ _ _ _, by exact lR <| Kd.R_mono (Kd.R_far (p := ⟨gb870, 1, none⟩) (Kd.R_far (p := ⟨gb870, 0, none⟩) (Kd.R_types HO887.out BK870.out (by decide)) (fun _ hk => by first | exact hk.2 | exact fun e_ => hk.2 (e_.trans (ob _ _ _ _))) (.int .i64 3)) (fun _ hk => by first | exact hk.2 | exact fun e_ => hk.2 (e_.trans (ob _ _ _ _))) (.slice none 0 0)) (fun _ hk => (by simp [Value.ownBlock])), by exact jB HB.out⟩
 ·replace c5 := Bool.eq_false_iff.mpr c5
  subst c5; rw [if_neg nf] at H
  try dsimp only at H
  simp only [Option.some.injEq, Prod.mk.injEq] at H
  obtain ⟨rfl, rfl, rfl⟩ := H
  go_enter Try.func15, Try.ntmps15
  go_wp2_with (first | ((with_reducible refine gate_dst (N := 3) rfl ?_); refine bx 3 #[.slice A0_0 l0_0.length c0_0, .slice A0_1 l0_1.length c0_1, .slice A0_2 l0_2.length c0_2, .bool a0_3] 25 ?_; intro gb869 hg w50 hbox hb; have BK869 := aM (hbox); have GW869 := aM (gz hg HB.out); have IGW869 := wn GW869.out; have GE869 := aM (gz hg HB.out); have IGE869 := wn GE869.out; replace HB := aM (bj HB.out hb); clear hb hbox hg) | ((with_reducible refine gate_dst (N := 6) rfl ?_); refine bx 6 #[.int .i64 0, .slice none 0 0] 38 ?_; intro gb870 hg w51 hbox hb; have BK870 := aM (hbox); have GW870 := aM (gz hg HB.out); have IGW870 := wn GW870.out; have GE870 := aM (gz hg HB.out); have IGE870 := wn GE870.out; replace HB := aM (bj HB.out hb); have NB869_870 := aM ((neL hg (lK BK869.out) : gb869 ≠ gb870)); have NB870_869 := aM ((neG hg (lK BK869.out) : gb870 ≠ gb869)); replace BK869 := aM (bb BK869.out hb); clear hb hbox hg; have hnb52 := NB869_870.out; have hnc52 := NB870_869.out; obtain ⟨hcz53_0, hcz53_1, hcz53_2, hcz53_3, hfz53_0, hfz53_1, hfz53_2, hfz53_3⟩ := cf4 BK869.out) | (refine gL (some 13) Try.func35 #[.agg #[.slice A0_0 l0_0.length c0_0, .slice A0_1 l0_1.length c0_1, .slice A0_2 l0_2.length c0_2, .bool a0_3], .slice A1 l1.length c1, .slice A2 l2.length c2] ?_; (with_reducible refine (impl_rowOk.calls _ _ l0_0 _ _ l0_1 _ _ l0_2 a0_3 _ _ l1 _ _ l2 false _ (by exact lC <| (Kd.C_below HR0_0.out HB.out)) HC0_0.out (by exact lC <| (Kd.C_below HR0_1.out HB.out)) HC0_1.out (by exact lC <| (Kd.C_below HR0_2.out HB.out)) HC0_2.out (by exact lC <| (Kd.C_below HR1.out HB.out)) HC1.out (by exact lC <| (Kd.C_below HR2.out HB.out)) HC2.out A4.out).mono ?_); rintro e w54 ⟨rfl, hb⟩; refine ⟨_, rfl, ?_⟩; replace BK869 := aM (bb BK869.out hb); replace BK870 := aM (bb BK870.out hb); replace HB := aM (bj HB.out hb); (try clear hb); obtain ⟨hcz55_0, hcz55_1, hfz55_0, hfz55_1⟩ := cf2 BK870.out))
  refine bodyPost_ret (results_ct rfl _ _ gb870 38 #[.int .i64 0, .slice none 0 0] (0, 0) _ rfl (by exact p2 (lK BK870.out)) Try.underlying38 rfl (by kernel_rfl)) rfl ?_
  exact ⟨_, _, er, by first | exact Kd.R_nil _ _ _ _ _ | exact Kd.N_nil _ _ _ _ _ | exact Kd.V_nil _ _ _ _ _ | exact Kd.Q_nil _ _ _ _ _ | exact Kd.S_nil _ _ _ _ _, by first | exact Kd.R_nil _ _ _ _ _ | exact Kd.N_nil _ _ _ _ _ | exact Kd.V_nil _ _ _ _ _ | exact Kd.Q_nil _ _ _ _ _ | exact Kd.S_nil _ _ _ _ _, by exact jB HB.out⟩
/-! ### spec_l3Forms: function 40 -/
def spec_l3Forms.l0 : Nat → List (S34) → Int → Option (Bool)
 | 0, _, _ => none
 | k + 1, x0, x3 => if x3 < (x0.length : Int) then (if 0 ≤ x3 then ((spec_FrmOk.f k ((rd_T34 x0 x3).f0) ((rd_T34 x0 x3).f1) ((rd_T34 x0 x3).f2)).bind fun t841 => (if t841 = true then (spec_l3Forms.l0 k x0 (wrap64 (x3 + 1))) else (some false))) else (none)) else (some true)
def spec_l3Forms.f (k : Nat) (l0 : List (S34)) : Option (Bool) := spec_l3Forms.l0 k l0 0
set_option maxHeartbeats 8000000 in
theorem spec_l3Forms.calls (k : Nat) (A0 : Option Addr) (c0 : Nat) (l0 : List (S34)) (r : Bool) (w : World) (hr0 : Kd.C k34 w A0 l0.length l0) (hc0 : l0.length ≤ c0) (h : spec_l3Forms.f k l0 = some r) :
  Calls Try.prog 40 #[.slice A0 l0.length c0] w fun e w' => e = .returned (.bool r) ∧ Below w.heap.size w w' := by
 have hu34 := Try.underlying34; have HR0 := aM hr0; have HC0 := aM hc0; clear hr0 hc0; have HB := aM (Below.refl w.heap.size w); have H : (spec_l3Forms.l0 k l0 0) = some r := h
 clear h; have H' := aM H
 clear H; go_enter Try.func40, Try.ntmps40
 go_wp2
 go_loopg [3] k (fun kq v3 w' => ∃ (x3_1 : Int), v3 = .int .i64 x3_1 ∧ Aside0 (spec_l3Forms.l0 kq l0 x3_1 = some r) ∧ Aside0 (kq ≤ k) ∧ Aside0 (Below w.heap.size w w'))
 case atStart => exact ⟨(0), sr, H', ⟨Nat.le_refl _⟩, ⟨by exact lB HB.out⟩⟩
 case round =>
  clear H'
  obtain ⟨x3_1, rfl, HA, HK1, HB⟩ := hrel
  cases gk with
  | zero => exact absurd HA.out (by simp [spec_l3Forms.l0])
  | succ k1 =>
   have H := HA.out
   clear HA; simp only [spec_l3Forms.l0] at H
   by_cases c2 : x3_1 < (l0.length : Int)
   ·rw [if_pos c2] at H; replace c2 := decide_eq_true c2; obtain ⟨c3, H⟩ := iD H; obtain ⟨t841, A4, H⟩ := bS H
    try dsimp only at H
    by_cases c5 : t841 = true
    ·subst c5; rw [if_pos rfl] at H
     try dsimp only at H
     have H' := aM H
     clear H; have p840 : 0 ≤ (x3_1 : Int) := od; have q840 : x3_1 < (l0.length : Int) := od; obtain ⟨ad840, A840_0, c840_0, A840_1, c840_1, e840, hx840_0, hx840_1, hx840_2, hl840_0, hi840_0, hl840_1, hi840_1⟩ := at_T34 HR0.out x3_1 p840 q840
     cases e840; replace hx840_0 := cl HB.out hx840_0; replace hx840_1 := cl HB.out hx840_1; replace hx840_2 := cl HB.out hx840_2; have HR840_0 := aM hi840_0; have HC840_0 := aM hl840_0; clear hi840_0 hl840_0; have HR840_1 := aM hi840_1; have HC840_1 := aM hl840_1; clear hi840_1 hl840_1; replace p840 := eq_true p840; replace q840 := eq_true q840; go_wp2_with (first | (refine gL (some 14) Try.func68 #[.agg #[.slice A840_0 ((rd_T34 l0 x3_1).f0).length c840_0, .slice A840_1 ((rd_T34 l0 x3_1).f1).length c840_1, .int .i64 ((rd_T34 l0 x3_1).f2)]] ?_; (with_reducible refine (spec_FrmOk.calls k1 _ _ ((rd_T34 l0 x3_1).f0) _ _ ((rd_T34 l0 x3_1).f1) ((rd_T34 l0 x3_1).f2) true _ (by exact lC <| (Kd.C_below HR840_0.out HB.out)) HC840_0.out (by exact lC <| (Kd.C_below HR840_1.out HB.out)) HC840_1.out A4.out).mono ?_); rintro e w6 ⟨rfl, hb⟩; refine ⟨_, rfl, ?_⟩; replace HB := aM (bj HB.out hb); (try clear hb)))
     go_roundg k1
     case measure => have := HK1.out; omega
     case rel => exact ⟨(wrap64 (x3_1 + 1)), sr, H', ⟨by have := HK1.out; omega⟩, ⟨by exact lB HB.out⟩⟩
    ·replace c5 := Bool.eq_false_iff.mpr c5
     subst c5; rw [if_neg nf] at H
     try dsimp only at H
     obtain rfl := Option.some.inj H
     have p840 : 0 ≤ (x3_1 : Int) := od; have q840 : x3_1 < (l0.length : Int) := od; obtain ⟨ad840, A840_0, c840_0, A840_1, c840_1, e840, hx840_0, hx840_1, hx840_2, hl840_0, hi840_0, hl840_1, hi840_1⟩ := at_T34 HR0.out x3_1 p840 q840
     cases e840; replace hx840_0 := cl HB.out hx840_0; replace hx840_1 := cl HB.out hx840_1; replace hx840_2 := cl HB.out hx840_2; have HR840_0 := aM hi840_0; have HC840_0 := aM hl840_0; clear hi840_0 hl840_0; have HR840_1 := aM hi840_1; have HC840_1 := aM hl840_1; clear hi840_1 hl840_1; replace p840 := eq_true p840; replace q840 := eq_true q840; go_wp2_with (first | (refine gL (some 14) Try.func68 #[.agg #[.slice A840_0 ((rd_T34 l0 x3_1).f0).length c840_0, .slice A840_1 ((rd_T34 l0 x3_1).f1).length c840_1, .int .i64 ((rd_T34 l0 x3_1).f2)]] ?_; (with_reducible refine (spec_FrmOk.calls k1 _ _ ((rd_T34 l0 x3_1).f0) _ _ ((rd_T34 l0 x3_1).f1) ((rd_T34 l0 x3_1).f2) false _ (by exact lC <| (Kd.C_below HR840_0.out HB.out)) HC840_0.out (by exact lC <| (Kd.C_below HR840_1.out HB.out)) HC840_1.out A4.out).mono ?_); rintro e w7 ⟨rfl, hb⟩; refine ⟨_, rfl, ?_⟩; replace HB := aM (bj HB.out hb); (try clear hb)))
     go_ret
     exact ⟨er, by exact lB HB.out⟩
   ·rw [if_neg c2] at H; replace c2 := decide_eq_false c2; obtain rfl := Option.some.inj H
    go_wp2
    go_ret
    exact ⟨er, by exact lB HB.out⟩
/-! ### spec_RowOk: function 13 -/
def spec_RowOk.j0 : Nat → Bool → List (S34) → List (S34) → List (S34) → Bool → Option (Bool)
 | 0, _, _, _, _, _ => none
 | k + 1, x18, x843000, x843001, x843002, x843003 => if x18 = true then (some false) else (if x843003 = true then (some ((wrap64 ((x843001.length : Int) + (x843002.length : Int))) == 0)) else (some ((x843001.length : Int) == 3)))
def spec_RowOk.f (k : Nat) (l0_0 : List (S34)) (l0_1 : List (S34)) (l0_2 : List (S34)) (a0_3 : Bool) : Option (Bool) := (spec_l3Forms.f k l0_0).bind fun t843 => (if t843 = true then ((spec_l3Forms.f k l0_1).bind fun t844 => (if t844 = true then ((spec_l3Forms.f k l0_2).bind fun t845 => (spec_RowOk.j0 k (!t845) l0_0 l0_1 l0_2 a0_3)) else (spec_RowOk.j0 k true l0_0 l0_1 l0_2 a0_3))) else (spec_RowOk.j0 k true l0_0 l0_1 l0_2 a0_3))
theorem spec_RowOk.calls (k : Nat) (A0_0 : Option Addr) (c0_0 : Nat) (l0_0 : List (S34)) (A0_1 : Option Addr) (c0_1 : Nat) (l0_1 : List (S34)) (A0_2 : Option Addr) (c0_2 : Nat) (l0_2 : List (S34)) (a0_3 : Bool) (r : Bool) (w : World) (hr0_0 : Kd.C k34 w A0_0 l0_0.length l0_0) (hc0_0 : l0_0.length ≤ c0_0) (hr0_1 : Kd.C k34 w A0_1 l0_1.length l0_1) (hc0_1 : l0_1.length ≤ c0_1) (hr0_2 : Kd.C k34 w A0_2 l0_2.length l0_2) (hc0_2 : l0_2.length ≤ c0_2) (h : spec_RowOk.f k l0_0 l0_1 l0_2 a0_3 = some r) :
  Calls Try.prog 13 #[.agg #[.slice A0_0 l0_0.length c0_0, .slice A0_1 l0_1.length c0_1, .slice A0_2 l0_2.length c0_2, .bool a0_3]] w fun e w' => e = .returned (.bool r) ∧ Below w.heap.size w w' := by
 have hu25 := Try.underlying25; have HR0_0 := aM hr0_0; have HC0_0 := aM hc0_0; clear hr0_0 hc0_0; have HR0_1 := aM hr0_1; have HC0_1 := aM hc0_1; clear hr0_1 hc0_1; have HR0_2 := aM hr0_2; have HC0_2 := aM hc0_2; clear hr0_2 hc0_2; have HB := aM (Below.refl w.heap.size w); have H : ((spec_l3Forms.f k l0_0).bind fun t843 => (if t843 = true then ((spec_l3Forms.f k l0_1).bind fun t844 => (if t844 = true then ((spec_l3Forms.f k l0_2).bind fun t845 => (spec_RowOk.j0 k (!t845) l0_0 l0_1 l0_2 a0_3)) else (spec_RowOk.j0 k true l0_0 l0_1 l0_2 a0_3))) else (spec_RowOk.j0 k true l0_0 l0_1 l0_2 a0_3))) = some r := h
 clear h; have HC2 := aM H; clear H; go_enter Try.func13, Try.ntmps13
 go_upto_region 1 with (first | ((with_reducible refine gate_dst (N := 1) rfl ?_); refine bx 1 #[.slice A0_0 l0_0.length c0_0, .slice A0_1 l0_1.length c0_1, .slice A0_2 l0_2.length c0_2, .bool a0_3] 25 ?_; intro gb842 hg w3 hbox hb; have BK842 := aM (hbox); have GW842 := aM (gz hg HB.out); have IGW842 := wn GW842.out; have GE842 := aM (gz hg HB.out); have IGE842 := wn GE842.out; replace HB := aM (bj HB.out hb); clear hb hbox hg))
 (try simp only [Act.put, sA, s0, sS])
 go_cut [18] (fun v18 wc => ∃ (kq : Nat) (x18_1 : Bool), v18 = .bool x18_1 ∧ Aside0 (spec_RowOk.j0 kq x18_1 l0_0 l0_1 l0_2 a0_3 = some r) ∧ Aside0 (kq ≤ k) ∧ Aside0 (wc.heap[gb842]? = some (.cells #[(.slice A0_0 l0_0.length c0_0), (.slice A0_1 l0_1.length c0_1), (.slice A0_2 l0_2.length c0_2), .bool a0_3] 25 (0, 0))) ∧ Aside0 (Below w.heap.size w wc))
 case first =>
  have H := HC2.out
  clear HC2; obtain ⟨t843, A4, H⟩ := bS H
  try dsimp only at H
  by_cases c5 : t843 = true
  ·subst c5; rw [if_pos rfl] at H
   try dsimp only at H
   obtain ⟨t844, A6, H⟩ := bS H
   try dsimp only at H
   by_cases c7 : t844 = true
   ·subst c7; rw [if_pos rfl] at H
    try dsimp only at H
    obtain ⟨t845, A8, H⟩ := bS H
    try dsimp only at H
    have H' := aM H
    clear H; obtain ⟨hcz9_0, hcz9_1, hcz9_2, hcz9_3, hfz9_0, hfz9_1, hfz9_2, hfz9_3⟩ := cf4 BK842.out
    go_wp2_with (first | (refine gL (some 5) Try.func40 #[.slice A0_0 l0_0.length c0_0] ?_; (with_reducible refine (spec_l3Forms.calls k _ _ l0_0 true _ (by exact lC <| (Kd.C_below HR0_0.out HB.out)) HC0_0.out A4.out).mono ?_); rintro e w10 ⟨rfl, hb⟩; refine ⟨_, rfl, ?_⟩; replace BK842 := aM (bb BK842.out hb); replace HB := aM (bj HB.out hb); (try clear hb); obtain ⟨hcz11_0, hcz11_1, hcz11_2, hcz11_3, hfz11_0, hfz11_1, hfz11_2, hfz11_3⟩ := cf4 BK842.out) | (go_at_call 40; (with_reducible refine (spec_l3Forms.calls k _ _ l0_1 true _ (by exact lC <| (Kd.C_below HR0_1.out HB.out)) HC0_1.out A6.out).mono ?_); rintro e w12 ⟨rfl, hb⟩; replace BK842 := aM (bb BK842.out hb); replace HB := aM (bj HB.out hb); (try clear hb); obtain ⟨hcz13_0, hcz13_1, hcz13_2, hcz13_3, hfz13_0, hfz13_1, hfz13_2, hfz13_3⟩ := cf4 BK842.out) | (go_at_call 40; (with_reducible refine (spec_l3Forms.calls k _ _ l0_2 t845 _ (by exact lC <| (Kd.C_below HR0_2.out HB.out)) HC0_2.out A8.out).mono ?_); rintro e w14 ⟨rfl, hb⟩; replace BK842 := aM (bb BK842.out hb); replace HB := aM (bj HB.out hb); (try clear hb)))
    go_meet
    case rel => exact ⟨_, (!t845), sr, H', ⟨by first | omega | exact Nat.le_refl _⟩, ⟨by exact lK <| BK842.out⟩, ⟨by exact jB HB.out⟩⟩
   ·replace c7 := Bool.eq_false_iff.mpr c7
    subst c7; rw [if_neg nf] at H
    try dsimp only at H
    have H' := aM H
    clear H; obtain ⟨hcz15_0, hcz15_1, hcz15_2, hcz15_3, hfz15_0, hfz15_1, hfz15_2, hfz15_3⟩ := cf4 BK842.out
    go_wp2_with (first | (refine gL (some 5) Try.func40 #[.slice A0_0 l0_0.length c0_0] ?_; (with_reducible refine (spec_l3Forms.calls k _ _ l0_0 true _ (by exact lC <| (Kd.C_below HR0_0.out HB.out)) HC0_0.out A4.out).mono ?_); rintro e w16 ⟨rfl, hb⟩; refine ⟨_, rfl, ?_⟩; replace BK842 := aM (bb BK842.out hb); replace HB := aM (bj HB.out hb); (try clear hb); obtain ⟨hcz17_0, hcz17_1, hcz17_2, hcz17_3, hfz17_0, hfz17_1, hfz17_2, hfz17_3⟩ := cf4 BK842.out) | (go_at_call 40; (with_reducible refine (spec_l3Forms.calls k _ _ l0_1 false _ (by exact lC <| (Kd.C_below HR0_1.out HB.out)) HC0_1.out A6.out).mono ?_); rintro e w18 ⟨rfl, hb⟩; replace BK842 := aM (bb BK842.out hb); replace HB := aM (bj HB.out hb); (try clear hb)))
    go_meet
    case rel => exact ⟨_, (true), sr, H', ⟨by first | omega | exact Nat.le_refl _⟩, ⟨by exact lK <| BK842.out⟩, ⟨by exact jB HB.out⟩⟩
  ·replace c5 := Bool.eq_false_iff.mpr c5
   subst c5; rw [if_neg nf] at H
   try dsimp only at H
   have H' := aM H
   clear H; obtain ⟨hcz19_0, hcz19_1, hcz19_2, hcz19_3, hfz19_0, hfz19_1, hfz19_2, hfz19_3⟩ := cf4 BK842.out
   go_wp2_with (first | (refine gL (some 5) Try.func40 #[.slice A0_0 l0_0.length c0_0] ?_; (with_reducible refine (spec_l3Forms.calls k _ _ l0_0 false _ (by exact lC <| (Kd.C_below HR0_0.out HB.out)) HC0_0.out A4.out).mono ?_); rintro e w20 ⟨rfl, hb⟩; refine ⟨_, rfl, ?_⟩; replace BK842 := aM (bb BK842.out hb); replace HB := aM (bj HB.out hb); (try clear hb)))
   go_meet
   case rel => exact ⟨_, (true), sr, H', ⟨by first | omega | exact Nat.le_refl _⟩, ⟨by exact lK <| BK842.out⟩, ⟨by exact jB HB.out⟩⟩
 case rest =>
  clear HC2; (try clear c1); (try clear p2); (try clear c4); (try clear c5); (try clear c7); (try clear c13); (try clear hcz11_0); (try clear hcz11_1); (try clear hcz11_2); (try clear hcz11_3); (try clear hcz13_0); (try clear hcz13_1); (try clear hcz13_2); (try clear hcz13_3); (try clear hcz15_0); (try clear hcz15_1); (try clear hcz15_2); (try clear hcz15_3); (try clear hcz17_0); (try clear hcz17_1); (try clear hcz17_2); (try clear hcz17_3); (try clear hcz19_0); (try clear hcz19_1); (try clear hcz19_2); (try clear hcz19_3); (try clear hcz9_0); (try clear hcz9_1); (try clear hcz9_2); (try clear hcz9_3); (try clear hfz11_0); (try clear hfz11_1); (try clear hfz11_2); (try clear hfz11_3); (try clear hfz13_0); (try clear hfz13_1); (try clear hfz13_2); (try clear hfz13_3); (try clear hfz15_0); (try clear hfz15_1); (try clear hfz15_2); (try clear hfz15_3); (try clear hfz17_0); (try clear hfz17_1); (try clear hfz17_2); (try clear hfz17_3); (try clear hfz19_0); (try clear hfz19_1); (try clear hfz19_2); (try clear hfz19_3); (try clear hfz9_0); (try clear hfz9_1); (try clear hfz9_2); (try clear hfz9_3)
  obtain ⟨kq, x18_1, rfl, HA, HJ1, BK842, HB⟩ := hcut
  cases kq with
  | zero => exact absurd HA.out (by simp [spec_RowOk.j0])
  | succ kj1 =>
   have H := HA.out
   clear HA; simp only [spec_RowOk.j0] at H
   by_cases c21 : x18_1 = true
   ·subst c21; rw [if_pos rfl] at H
    try dsimp only at H
    obtain rfl := Option.some.inj H
    go_wp2
    go_ret
    exact ⟨er, by exact jB HB.out⟩
   ·replace c21 := Bool.eq_false_iff.mpr c21
    subst c21; rw [if_neg nf] at H
    try dsimp only at H
    by_cases c22 : a0_3 = true
    ·subst c22; rw [if_pos rfl] at H
     try dsimp only at H
     obtain rfl := Option.some.inj H
     obtain ⟨hcz23_0, hcz23_1, hcz23_2, hcz23_3, hfz23_0, hfz23_1, hfz23_2, hfz23_3⟩ := cf4 BK842.out
     go_wp2
     go_ret
     exact ⟨er, by exact jB HB.out⟩
    ·replace c22 := Bool.eq_false_iff.mpr c22
     subst c22; rw [if_neg nf] at H
     try dsimp only at H
     obtain rfl := Option.some.inj H
     obtain ⟨hcz24_0, hcz24_1, hcz24_2, hcz24_3, hfz24_0, hfz24_1, hfz24_2, hfz24_3⟩ := cf4 BK842.out
     go_wp2
     go_ret
     exact ⟨er, by exact jB HB.out⟩
/-! ### spec_ValOk: function 37 -/
def spec_ValOk.f (k : Nat) (l0 : List Int) : Option (Bool) := (spec_l1All.f k l0 3 10000).bind fun t890 => (some t890)
set_option maxHeartbeats 8000000 in
theorem spec_ValOk.calls (k : Nat) (A0 : Option Addr) (c0 : Nat) (l0 : List Int) (r : Bool) (w : World) (hr0 : Kd.C (Kd.int .i64) w A0 l0.length l0) (hc0 : l0.length ≤ c0) (h : spec_ValOk.f k l0 = some r) :
  Calls Try.prog 37 #[.slice A0 l0.length c0] w fun e w' => e = .returned (.bool r) ∧ Drawn0 w w' := by
 have HR0 := aM hr0; have HC0 := aM hc0; clear hr0 hc0; have H : ((spec_l1All.f k l0 3 10000).bind fun t890 => (some t890)) = some r := h
 clear h; obtain ⟨t890, A2, H⟩ := bS H
 try dsimp only at H
 obtain rfl := Option.some.inj H
 go_enter Try.func37, Try.ntmps37
 go_wp2_with (first | (refine gL (some 4) Try.func58 #[.slice A0 l0.length c0, .int .i64 3, .int .i64 10000] ?_; (with_reducible refine (spec_l1All.calls k _ _ l0 3 10000 t890 _ (by exact lC HR0.out) HC0.out A2.out).mono ?_); rintro e w' ⟨rfl, ⟨nd, rfl⟩⟩; refine ⟨_, rfl, ?_⟩))
 go_ret
 exact ⟨by first | rfl | (simp; done) | (simp [*]; done), by repeat (first | exact Drawn0.refl _ | apply Drawn0.step)⟩
/-! ### spec_ArgOk: function 38 -/
def spec_ArgOk.f (k : Nat) (l0 : List Int) : Option (Bool) := (spec_l1All.f k l0 2 9).bind fun t847 => (some t847)
theorem spec_ArgOk.calls (k : Nat) (A0 : Option Addr) (c0 : Nat) (l0 : List Int) (r : Bool) (w : World) (hr0 : Kd.C (Kd.int .i64) w A0 l0.length l0) (hc0 : l0.length ≤ c0) (h : spec_ArgOk.f k l0 = some r) :
  Calls Try.prog 38 #[.slice A0 l0.length c0] w fun e w' => e = .returned (.bool r) ∧ Drawn0 w w' := by
 have HR0 := aM hr0; have HC0 := aM hc0; clear hr0 hc0; have H : ((spec_l1All.f k l0 2 9).bind fun t847 => (some t847)) = some r := h
 clear h; obtain ⟨t847, A2, H⟩ := bS H
 try dsimp only at H
 obtain rfl := Option.some.inj H
 go_enter Try.func38, Try.ntmps38
 go_wp2_with (first | (refine gL (some 4) Try.func58 #[.slice A0 l0.length c0, .int .i64 2, .int .i64 9] ?_; (with_reducible refine (spec_l1All.calls k _ _ l0 2 9 t847 _ (by exact lC HR0.out) HC0.out A2.out).mono ?_); rintro e w' ⟨rfl, ⟨nd, rfl⟩⟩; refine ⟨_, rfl, ?_⟩))
 go_ret
 exact ⟨by first | rfl | (simp; done) | (simp [*]; done), by repeat (first | exact Drawn0.refl _ | apply Drawn0.step)⟩
end Go.Proofs.Ytcpaplcnebdocaa.QFnRowDo
-- shorter
