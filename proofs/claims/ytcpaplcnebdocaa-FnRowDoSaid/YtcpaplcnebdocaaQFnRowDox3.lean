/- Plain functions, and that the Go code computes them: written by a program of this session over the seat's translation; the conditions stand in each theorem. -/
import Derived.Test.YtcpaplcnebdocaaHW5
import Derived.Test.YtcpaplcnebdocaaQFnRowDox0
import Derived.Test.YtcpaplcnebdocaaQFnRowDox2
namespace Go.Proofs.Ytcpaplcnebdocaa.QFnRowDo
open Go.RowKit Go.Proofs.YtcpaplcnebdocaaW.PrintWords Go.Proofs.YtcpaplcnebdocaaW.PrintLast Go.Proofs.YtcpaplcnebdocaaW.PrintMore Go.Proofs.Ytcpaplcnebdocaa.HWords
open Value (ownBlock)
attribute [local go_sem] max2_int min2_int max_two min_two max_three min_three max_four min_four   -- for this text's walks alone
set_option linter.unusedVariables false
set_option linter.unusedSimpArgs false
set_option maxRecDepth 100000
set_option maxHeartbeats 8000000
/-! ### spec_FrmInto: function 90 -/
mutual
def spec_FrmInto.j0 : Nat → List (S34) → Bool → List Int → List Int → Int → Option (List Int × List Int × Int)
 | 0, _, _, _, _, _ => none
 | k + 1, x1, x35, x172000, x172001, x172002 => if x35 = true then (some (([] : List Int), ([] : List Int), 0)) else ((some (([] : List Int) : List Int)).bind fun y183 => (if y183.length + x172001.length < 17592186044416 then (spec_FrmInto.l0 k x1 0 x172000 x172001 x172002 (([0, 0, 0] : List Int)) (y183 ++ x172001) x172002) else (none)))
def spec_FrmInto.l0 : Nat → List (S34) → Int → List Int → List Int → Int → List Int → List Int → Int → Option (List Int × List Int × Int)
 | 0, _, _, _, _, _, _, _, _ => none
 | k + 1, x1, x6, x172000, x172001, x172002, x190000, x190001, x190002 => if x6 < 3 then (if 0 ≤ x6 then (if x6 < (x1.length : Int) then (if x6 < (x172000.length : Int) then ((spec_l1Sum.f k x190000 x190001 x190002 ((rd_T34 x1 x6).f0) ((rd_T34 x1 x6).f1) ((rd_T34 x1 x6).f2) (rd x172000 x6)).bind fun bt192 => (spec_FrmInto.l0 k x1 (wrap64 (x6 + 1)) x172000 x172001 x172002 bt192.1 bt192.2.1 bt192.2.2)) else (none)) else (none)) else (none)) else ((spec_FrmOk.f k x190000 x190001 x190002).bind fun t199 => (if t199 = true then (some (x190000, x190001, x190002)) else (some (([] : List Int), ([] : List Int), 0))))
end
def spec_FrmInto.f (k : Nat) (l0_0 : List Int) (l0_1 : List Int) (a0_2 : Int) (l1 : List (S34)) : Option (List Int × List Int × Int) := (spec_FrmOk.f k l0_0 l0_1 a0_2).bind fun t173 => (if t173 = true then (if (l1.length : Int) = 3 then (if 0 < (l1.length : Int) then ((spec_FrmOk.f k ((rd_T34 l1 0).f0) ((rd_T34 l1 0).f1) ((rd_T34 l1 0).f2)).bind fun t175 => (if t175 = true then (if 1 < (l1.length : Int) then ((spec_FrmOk.f k ((rd_T34 l1 1).f0) ((rd_T34 l1 1).f1) ((rd_T34 l1 1).f2)).bind fun t177 => (if t177 = true then (if 2 < (l1.length : Int) then ((spec_FrmOk.f k ((rd_T34 l1 2).f0) ((rd_T34 l1 2).f1) ((rd_T34 l1 2).f2)).bind fun t179 => (spec_FrmInto.j0 k l1 (!t179) l0_0 l0_1 a0_2)) else (none)) else (spec_FrmInto.j0 k l1 true l0_0 l0_1 a0_2))) else (none)) else (spec_FrmInto.j0 k l1 true l0_0 l0_1 a0_2))) else (none)) else (spec_FrmInto.j0 k l1 true l0_0 l0_1 a0_2)) else (spec_FrmInto.j0 k l1 true l0_0 l0_1 a0_2))
def spec_FrmInto.T3 : Bool × List (List Nat × List Nat) := (true, [([], []), ([], []), ([], []), ([2], [2]), ([1, 3], [1, 3]), ([], []), ([5], [5]), ([0, 4, 6], [0, 4, 6]), ([], []), ([8, 7, 4, 0, 1, 2, 3, 4, 5, 6, 7, 8], [7, 8])])
def spec_FrmInto.B3 : List Nat := [0, 0, 0, 4, 14, 0, 32, 127, 0, 511]
theorem spec_FrmInto.tab3 : rtab .any (opsOf Try.f90 3) = spec_FrmInto.T3 := by kernel_rfl
theorem spec_FrmInto.bits3 : waitsOk spec_FrmInto.T3.2 spec_FrmInto.B3 = true := by kernel_rfl
def spec_FrmInto.T7 : Bool × List (List Nat × List Nat) := (true, [([], []), ([], []), ([], []), ([1, 2], [1, 2]), ([3], [3]), ([], []), ([5], [5]), ([], []), ([6, 7], [6, 7]), ([8], [8]), ([0, 4, 9], [0, 4, 9]), ([10, 10, 0, 1, 2, 3, 4, 5, 6, 7, 8, 9, 10], [10])])
def spec_FrmInto.B7 : List Nat := [0, 0, 0, 6, 14, 0, 32, 0, 224, 480, 1023, 2047]
theorem spec_FrmInto.tab7 : rtab .any (opsOf Try.f90 7) = spec_FrmInto.T7 := by kernel_rfl
theorem spec_FrmInto.bits7 : waitsOk spec_FrmInto.T7.2 spec_FrmInto.B7 = true := by kernel_rfl
set_option maxHeartbeats 8000000 in
set_option maxRecDepth 100000 in
theorem spec_FrmInto.calls (k : Nat) (A0_0 : Option Addr) (c0_0 : Nat) (l0_0 : List Int) (A0_1 : Option Addr) (c0_1 : Nat) (l0_1 : List Int) (a0_2 : Int) (A1 : Option Addr) (c1 : Nat) (l1 : List (S34)) (r1 : List Int) (r2 : List Int) (r3 : Int) (w : World) (hr0_0 : Kd.C (Kd.int .i64) w A0_0 l0_0.length l0_0) (hc0_0 : l0_0.length ≤ c0_0) (hr0_1 : Kd.C (Kd.int .i64) w A0_1 l0_1.length l0_1) (hc0_1 : l0_1.length ≤ c0_1) (hr1 : Kd.C k34 w A1 l1.length l1) (hc1 : l1.length ≤ c1) (h : spec_FrmInto.f k l0_0 l0_1 a0_2 l1 = some (r1, r2, r3)) :
  Calls Try.prog 90 #[.agg #[.slice A0_0 l0_0.length c0_0, .slice A0_1 l0_1.length c0_1, .int .i64 a0_2], .slice A1 l1.length c1] w fun e w' => ∃ v0_ v1_ : Value, e = .returned (.agg #[v0_, v1_, .int .i64 r3]) ∧ Kd.R (Kd.int .i64) 3 w' w.heap.size (fun k_ => some k_ ≠ (v1_ : Value).ownBlock) v0_ r1 ∧ Kd.R (Kd.int .i64) 3 w' w.heap.size (fun k_ => some k_ ≠ (v0_ : Value).ownBlock) v1_ r2 ∧ Below w.heap.size w w' := by
 have hu34 := Try.underlying34; have HR0_0 := aM hr0_0; have HC0_0 := aM hc0_0; clear hr0_0 hc0_0; have HR0_1 := aM hr0_1; have HC0_1 := aM hc0_1; clear hr0_1 hc0_1; have HR1 := aM hr1; have HC1 := aM hc1; clear hr1 hc1; have HB := aM (Below.refl w.heap.size w); have H : ((spec_FrmOk.f k l0_0 l0_1 a0_2).bind fun t173 => (if t173 = true then (if (l1.length : Int) = 3 then (if 0 < (l1.length : Int) then ((spec_FrmOk.f k ((rd_T34 l1 0).f0) ((rd_T34 l1 0).f1) ((rd_T34 l1 0).f2)).bind fun t175 => (if t175 = true then (if 1 < (l1.length : Int) then ((spec_FrmOk.f k ((rd_T34 l1 1).f0) ((rd_T34 l1 1).f1) ((rd_T34 l1 1).f2)).bind fun t177 => (if t177 = true then (if 2 < (l1.length : Int) then ((spec_FrmOk.f k ((rd_T34 l1 2).f0) ((rd_T34 l1 2).f1) ((rd_T34 l1 2).f2)).bind fun t179 => (spec_FrmInto.j0 k l1 (!t179) l0_0 l0_1 a0_2)) else (none)) else (spec_FrmInto.j0 k l1 true l0_0 l0_1 a0_2))) else (none)) else (spec_FrmInto.j0 k l1 true l0_0 l0_1 a0_2))) else (none)) else (spec_FrmInto.j0 k l1 true l0_0 l0_1 a0_2)) else (spec_FrmInto.j0 k l1 true l0_0 l0_1 a0_2))) = some (r1, r2, r3) := h
 clear h; have HC3 := aM H; clear H; go_enter Try.func90, Try.ntmps90
 go_upto_region 1 with (first | ((with_reducible refine gate_dst (N := 2) rfl ?_); (try (refine gate_guard (by rfl) ?_; dsimp only)); refine bx 2 #[.slice A0_0 l0_0.length c0_0, .slice A0_1 l0_1.length c0_1, .int .i64 a0_2] 34 ?_; intro gb171 hg w4 hbox hb; have BK171 := aM (hbox); have GW171 := aM (gz hg HB.out); have IGW171 := wn GW171.out; have GE171 := aM (gz hg HB.out); have IGE171 := wn GE171.out; replace HB := aM (bj HB.out hb); clear hb hbox hg) | ((with_reducible refine gate_dst (N := 4) rfl ?_); (try (refine gate_guard (by rfl) ?_; dsimp only)); refine bx 4 #[.slice none 0 0, .slice none 0 0, .int .i64 0] 34 ?_; intro gb172 hg w5 hbox hb; have BK172 := aM (hbox); have GW172 := aM (gz hg HB.out); have IGW172 := wn GW172.out; have GE172 := aM (gz hg HB.out); have IGE172 := wn GE172.out; replace HB := aM (bj HB.out hb); have NB171_172 := aM ((neL hg (lK BK171.out) : gb171 ≠ gb172)); have NB172_171 := aM ((neG hg (lK BK171.out) : gb172 ≠ gb171)); replace BK171 := aM (bb BK171.out hb); clear hb hbox hg))
 (try simp only [Act.put, sA, s0, sS])
 go_cut [35] (fun v35 wc => ∃ (kq : Nat) (x35_2 : Bool), v35 = .bool x35_2 ∧ Aside0 (spec_FrmInto.j0 kq l1 x35_2 l0_0 l0_1 a0_2 = some (r1, r2, r3)) ∧ Aside0 (kq ≤ k) ∧ Aside0 (wc.heap[gb171]? = some (.cells #[(.slice A0_0 l0_0.length c0_0), (.slice A0_1 l0_1.length c0_1), .int .i64 a0_2] 34 (0, 0))) ∧ Aside0 (wc.heap[gb172]? = some (.cells #[(.slice none 0 0), (.slice none 0 0), .int .i64 0] 34 (0, 0))) ∧ Aside0 (Below w.heap.size w wc))
 case first =>
  have H := HC3.out
  clear HC3; obtain ⟨t173, A6, H⟩ := bS H
  try dsimp only at H
  by_cases c7 : t173 = true
  ·subst c7; rw [if_pos rfl] at H
   try dsimp only at H
   by_cases c8 : (l1.length : Int) = 3
   ·rw [if_pos c8] at H; have c8b0 := beq_iff_eq.mpr c8
    have c8b1 := bne_eq_false_iff_eq.mpr c8
    clear c8
    (first | rw [c8b0] | (simp only [i64_w, i32_w]; rw [c8b0]) | skip)
    obtain ⟨c9, H⟩ := iN H; have c9b0 := decide_eq_true c9
    have c9b1 : decide (0 < l1.length) = true := decide_eq_true (by omega)
    clear c9; obtain ⟨t175, A10, H⟩ := bS H
    try dsimp only at H
    by_cases c11 : t175 = true
    ·subst c11; rw [if_pos rfl] at H
     try dsimp only at H
     obtain ⟨c12, H⟩ := iN H; have c12b0 := decide_eq_true c12
     have c12b1 : decide (1 < l1.length) = true := decide_eq_true (by omega)
     clear c12; obtain ⟨t177, A13, H⟩ := bS H
     try dsimp only at H
     by_cases c14 : t177 = true
     ·subst c14; rw [if_pos rfl] at H
      try dsimp only at H
      obtain ⟨c15, H⟩ := iN H; have c15b0 := decide_eq_true c15
      have c15b1 : decide (2 < l1.length) = true := decide_eq_true (by omega)
      clear c15; obtain ⟨t179, A16, H⟩ := bS H
      try dsimp only at H
      have H' := aM H
      clear H; have hnb17 := NB171_172.out
      have hnc17 := NB172_171.out
      obtain ⟨hcz18_0, hcz18_1, hcz18_2, hfz18_0, hfz18_1, hfz18_2⟩ := cf3 BK171.out
      go_wp2_with (first | (refine gL (some 8) Try.func68 #[.agg #[.slice A0_0 l0_0.length c0_0, .slice A0_1 l0_1.length c0_1, .int .i64 a0_2]] ?_; (with_reducible refine (spec_FrmOk.calls k _ _ l0_0 _ _ l0_1 a0_2 true _ (by exact lC <| (Kd.C_below HR0_0.out HB.out)) HC0_0.out (by exact lC <| (Kd.C_below HR0_1.out HB.out)) HC0_1.out A6.out).mono ?_); rintro e w19 ⟨rfl, hb⟩; refine ⟨_, rfl, ?_⟩; replace BK171 := aM (bb BK171.out hb); replace BK172 := aM (bb BK172.out hb); replace HB := aM (bj HB.out hb); (try clear hb); have p174 : 0 ≤ (0 : Int) := (by omega); have q174 : 0 < (l1.length : Int) := od; obtain ⟨ad174, A174_0, c174_0, A174_1, c174_1, e174, hx174_0, hx174_1, hx174_2, hl174_0, hi174_0, hl174_1, hi174_1⟩ := at_T34 HR1.out 0 p174 q174; cases e174; have qi174 : (0 < l1.length) = True := eq_true (by omega); (try rw [show ((0 : Int)).toNat = 0 from rfl] at hx174_0); (try rw [show 0 * 3 = 0 from rfl] at hx174_0); (try rw [Addr.add_zero'] at hx174_0); (try rw [show ((0 : Int)).toNat = 0 from rfl] at hx174_1); (try rw [show 0 * 3 = 0 from rfl] at hx174_1); (try rw [Addr.add_zero'] at hx174_1); (try rw [show ((0 : Int)).toNat = 0 from rfl] at hx174_2); (try rw [show 0 * 3 = 0 from rfl] at hx174_2); (try rw [Addr.add_zero'] at hx174_2); replace hx174_0 := cl HB.out hx174_0; replace hx174_1 := cl HB.out hx174_1; replace hx174_2 := cl HB.out hx174_2; have HR174_0 := aM hi174_0; have HC174_0 := aM hl174_0; clear hi174_0 hl174_0; have HR174_1 := aM hi174_1; have HC174_1 := aM hl174_1; clear hi174_1 hl174_1; replace p174 := eq_true p174; replace q174 := eq_true q174) | (go_at_call 68; (with_reducible refine (spec_FrmOk.calls k _ _ ((rd_T34 l1 0).f0) _ _ ((rd_T34 l1 0).f1) ((rd_T34 l1 0).f2) true _ (by exact lC <| (Kd.C_below HR174_0.out HB.out)) HC174_0.out (by exact lC <| (Kd.C_below HR174_1.out HB.out)) HC174_1.out A10.out).mono ?_); rintro e w20 ⟨rfl, hb⟩; replace BK171 := aM (bb BK171.out hb); replace BK172 := aM (bb BK172.out hb); replace HB := aM (bj HB.out hb); (try clear hb); have p176 : 0 ≤ (1 : Int) := (by omega); have q176 : 1 < (l1.length : Int) := od; obtain ⟨ad176, A176_0, c176_0, A176_1, c176_1, e176, hx176_0, hx176_1, hx176_2, hl176_0, hi176_0, hl176_1, hi176_1⟩ := at_T34 HR1.out 1 p176 q176; obtain rfl : ad174 = ad176 := (by injection e176); (try simp only [show (1 : Int).toNat = 1 from rfl, Nat.reduceMul, Nat.reduceEqDiff, Go.Addr.add, ↓reduceIte] at hx176_0); (try simp only [show (1 : Int).toNat = 1 from rfl, Nat.reduceMul, Nat.reduceEqDiff, Go.Addr.add, ↓reduceIte] at hx176_1); (try simp only [show (1 : Int).toNat = 1 from rfl, Nat.reduceMul, Nat.reduceEqDiff, Go.Addr.add, ↓reduceIte] at hx176_2); have qi176 : (1 < l1.length) = True := eq_true (by omega); (try rw [show ((1 : Int)).toNat = 1 from rfl] at hx176_0); (try rw [show 1 * 3 = 3 from rfl] at hx176_0); (try rw [show ((1 : Int)).toNat = 1 from rfl] at hx176_1); (try rw [show 1 * 3 = 3 from rfl] at hx176_1); (try rw [show ((1 : Int)).toNat = 1 from rfl] at hx176_2); (try rw [show 1 * 3 = 3 from rfl] at hx176_2); replace hx176_0 := cl HB.out hx176_0; replace hx176_1 := cl HB.out hx176_1; replace hx176_2 := cl HB.out hx176_2; have HR176_0 := aM hi176_0; have HC176_0 := aM hl176_0; clear hi176_0 hl176_0; have HR176_1 := aM hi176_1; have HC176_1 := aM hl176_1; clear hi176_1 hl176_1; replace p176 := eq_true p176; replace q176 := eq_true q176) | (go_at_call 68; (with_reducible refine (spec_FrmOk.calls k _ _ ((rd_T34 l1 1).f0) _ _ ((rd_T34 l1 1).f1) ((rd_T34 l1 1).f2) true _ (by exact lC <| (Kd.C_below HR176_0.out HB.out)) HC176_0.out (by exact lC <| (Kd.C_below HR176_1.out HB.out)) HC176_1.out A13.out).mono ?_); rintro e w21 ⟨rfl, hb⟩; replace BK171 := aM (bb BK171.out hb); replace BK172 := aM (bb BK172.out hb); replace HB := aM (bj HB.out hb); (try clear hb); have p178 : 0 ≤ (2 : Int) := (by omega); have q178 : 2 < (l1.length : Int) := od; obtain ⟨ad178, A178_0, c178_0, A178_1, c178_1, e178, hx178_0, hx178_1, hx178_2, hl178_0, hi178_0, hl178_1, hi178_1⟩ := at_T34 HR1.out 2 p178 q178; obtain rfl : ad174 = ad178 := (by injection e178); (try simp only [show (2 : Int).toNat = 2 from rfl, Nat.reduceMul, Nat.reduceEqDiff, Go.Addr.add, ↓reduceIte] at hx178_0); (try simp only [show (2 : Int).toNat = 2 from rfl, Nat.reduceMul, Nat.reduceEqDiff, Go.Addr.add, ↓reduceIte] at hx178_1); (try simp only [show (2 : Int).toNat = 2 from rfl, Nat.reduceMul, Nat.reduceEqDiff, Go.Addr.add, ↓reduceIte] at hx178_2); have qi178 : (2 < l1.length) = True := eq_true (by omega); (try rw [show ((2 : Int)).toNat = 2 from rfl] at hx178_0); (try rw [show 2 * 3 = 6 from rfl] at hx178_0); (try rw [show ((2 : Int)).toNat = 2 from rfl] at hx178_1); (try rw [show 2 * 3 = 6 from rfl] at hx178_1); (try rw [show ((2 : Int)).toNat = 2 from rfl] at hx178_2); (try rw [show 2 * 3 = 6 from rfl] at hx178_2); replace hx178_0 := cl HB.out hx178_0; replace hx178_1 := cl HB.out hx178_1; replace hx178_2 := cl HB.out hx178_2; have HR178_0 := aM hi178_0; have HC178_0 := aM hl178_0; clear hi178_0 hl178_0; have HR178_1 := aM hi178_1; have HC178_1 := aM hl178_1; clear hi178_1 hl178_1; replace p178 := eq_true p178; replace q178 := eq_true q178) | (go_at_call 68; (with_reducible refine (spec_FrmOk.calls k _ _ ((rd_T34 l1 2).f0) _ _ ((rd_T34 l1 2).f1) ((rd_T34 l1 2).f2) t179 _ (by exact lC <| (Kd.C_below HR178_0.out HB.out)) HC178_0.out (by exact lC <| (Kd.C_below HR178_1.out HB.out)) HC178_1.out A16.out).mono ?_); rintro e w22 ⟨rfl, hb⟩; replace BK171 := aM (bb BK171.out hb); replace BK172 := aM (bb BK172.out hb); replace HB := aM (bj HB.out hb); (try clear hb)))
      go_meet
      case rel => exact ⟨_, (!t179), sr, H', ⟨by first | omega | exact Nat.le_refl _⟩, ⟨by exact lK <| BK171.out⟩, ⟨by exact lK <| BK172.out⟩, ⟨by exact jB HB.out⟩⟩
     ·replace c14 := Bool.eq_false_iff.mpr c14
      subst c14; rw [if_neg nf] at H
      try dsimp only at H
      have H' := aM H
      clear H; have hnb23 := NB171_172.out
      have hnc23 := NB172_171.out
      obtain ⟨hcz24_0, hcz24_1, hcz24_2, hfz24_0, hfz24_1, hfz24_2⟩ := cf3 BK171.out
      go_wp2_with (first | (refine gL (some 8) Try.func68 #[.agg #[.slice A0_0 l0_0.length c0_0, .slice A0_1 l0_1.length c0_1, .int .i64 a0_2]] ?_; (with_reducible refine (spec_FrmOk.calls k _ _ l0_0 _ _ l0_1 a0_2 true _ (by exact lC <| (Kd.C_below HR0_0.out HB.out)) HC0_0.out (by exact lC <| (Kd.C_below HR0_1.out HB.out)) HC0_1.out A6.out).mono ?_); rintro e w25 ⟨rfl, hb⟩; refine ⟨_, rfl, ?_⟩; replace BK171 := aM (bb BK171.out hb); replace BK172 := aM (bb BK172.out hb); replace HB := aM (bj HB.out hb); (try clear hb); have p174 : 0 ≤ (0 : Int) := (by omega); have q174 : 0 < (l1.length : Int) := od; obtain ⟨ad174, A174_0, c174_0, A174_1, c174_1, e174, hx174_0, hx174_1, hx174_2, hl174_0, hi174_0, hl174_1, hi174_1⟩ := at_T34 HR1.out 0 p174 q174; cases e174; have qi174 : (0 < l1.length) = True := eq_true (by omega); (try rw [show ((0 : Int)).toNat = 0 from rfl] at hx174_0); (try rw [show 0 * 3 = 0 from rfl] at hx174_0); (try rw [Addr.add_zero'] at hx174_0); (try rw [show ((0 : Int)).toNat = 0 from rfl] at hx174_1); (try rw [show 0 * 3 = 0 from rfl] at hx174_1); (try rw [Addr.add_zero'] at hx174_1); (try rw [show ((0 : Int)).toNat = 0 from rfl] at hx174_2); (try rw [show 0 * 3 = 0 from rfl] at hx174_2); (try rw [Addr.add_zero'] at hx174_2); replace hx174_0 := cl HB.out hx174_0; replace hx174_1 := cl HB.out hx174_1; replace hx174_2 := cl HB.out hx174_2; have HR174_0 := aM hi174_0; have HC174_0 := aM hl174_0; clear hi174_0 hl174_0; have HR174_1 := aM hi174_1; have HC174_1 := aM hl174_1; clear hi174_1 hl174_1; replace p174 := eq_true p174; replace q174 := eq_true q174) | (go_at_call 68; (with_reducible refine (spec_FrmOk.calls k _ _ ((rd_T34 l1 0).f0) _ _ ((rd_T34 l1 0).f1) ((rd_T34 l1 0).f2) true _ (by exact lC <| (Kd.C_below HR174_0.out HB.out)) HC174_0.out (by exact lC <| (Kd.C_below HR174_1.out HB.out)) HC174_1.out A10.out).mono ?_); rintro e w26 ⟨rfl, hb⟩; replace BK171 := aM (bb BK171.out hb); replace BK172 := aM (bb BK172.out hb); replace HB := aM (bj HB.out hb); (try clear hb); have p176 : 0 ≤ (1 : Int) := (by omega); have q176 : 1 < (l1.length : Int) := od; obtain ⟨ad176, A176_0, c176_0, A176_1, c176_1, e176, hx176_0, hx176_1, hx176_2, hl176_0, hi176_0, hl176_1, hi176_1⟩ := at_T34 HR1.out 1 p176 q176; obtain rfl : ad174 = ad176 := (by injection e176); (try simp only [show (1 : Int).toNat = 1 from rfl, Nat.reduceMul, Nat.reduceEqDiff, Go.Addr.add, ↓reduceIte] at hx176_0); (try simp only [show (1 : Int).toNat = 1 from rfl, Nat.reduceMul, Nat.reduceEqDiff, Go.Addr.add, ↓reduceIte] at hx176_1); (try simp only [show (1 : Int).toNat = 1 from rfl, Nat.reduceMul, Nat.reduceEqDiff, Go.Addr.add, ↓reduceIte] at hx176_2); have qi176 : (1 < l1.length) = True := eq_true (by omega); (try rw [show ((1 : Int)).toNat = 1 from rfl] at hx176_0); (try rw [show 1 * 3 = 3 from rfl] at hx176_0); (try rw [show ((1 : Int)).toNat = 1 from rfl] at hx176_1); (try rw [show 1 * 3 = 3 from rfl] at hx176_1); (try rw [show ((1 : Int)).toNat = 1 from rfl] at hx176_2); (try rw [show 1 * 3 = 3 from rfl] at hx176_2); replace hx176_0 := cl HB.out hx176_0; replace hx176_1 := cl HB.out hx176_1; replace hx176_2 := cl HB.out hx176_2; have HR176_0 := aM hi176_0; have HC176_0 := aM hl176_0; clear hi176_0 hl176_0; have HR176_1 := aM hi176_1; have HC176_1 := aM hl176_1; clear hi176_1 hl176_1; replace p176 := eq_true p176; replace q176 := eq_true q176) | (go_at_call 68; (with_reducible refine (spec_FrmOk.calls k _ _ ((rd_T34 l1 1).f0) _ _ ((rd_T34 l1 1).f1) ((rd_T34 l1 1).f2) false _ (by exact lC <| (Kd.C_below HR176_0.out HB.out)) HC176_0.out (by exact lC <| (Kd.C_below HR176_1.out HB.out)) HC176_1.out A13.out).mono ?_); rintro e w27 ⟨rfl, hb⟩; replace BK171 := aM (bb BK171.out hb); replace BK172 := aM (bb BK172.out hb); replace HB := aM (bj HB.out hb); (try clear hb)))
      go_meet
      case rel => exact ⟨_, (true), sr, H', ⟨by first | omega | exact Nat.le_refl _⟩, ⟨by exact lK <| BK171.out⟩, ⟨by exact lK <| BK172.out⟩, ⟨by exact jB HB.out⟩⟩
    ·replace c11 := Bool.eq_false_iff.mpr c11
     subst c11; rw [if_neg nf] at H
     try dsimp only at H
     have H' := aM H
     clear H; have hnb28 := NB171_172.out
     have hnc28 := NB172_171.out
     obtain ⟨hcz29_0, hcz29_1, hcz29_2, hfz29_0, hfz29_1, hfz29_2⟩ := cf3 BK171.out
     go_wp2_with (first | (refine gL (some 8) Try.func68 #[.agg #[.slice A0_0 l0_0.length c0_0, .slice A0_1 l0_1.length c0_1, .int .i64 a0_2]] ?_; (with_reducible refine (spec_FrmOk.calls k _ _ l0_0 _ _ l0_1 a0_2 true _ (by exact lC <| (Kd.C_below HR0_0.out HB.out)) HC0_0.out (by exact lC <| (Kd.C_below HR0_1.out HB.out)) HC0_1.out A6.out).mono ?_); rintro e w30 ⟨rfl, hb⟩; refine ⟨_, rfl, ?_⟩; replace BK171 := aM (bb BK171.out hb); replace BK172 := aM (bb BK172.out hb); replace HB := aM (bj HB.out hb); (try clear hb); have p174 : 0 ≤ (0 : Int) := (by omega); have q174 : 0 < (l1.length : Int) := od; obtain ⟨ad174, A174_0, c174_0, A174_1, c174_1, e174, hx174_0, hx174_1, hx174_2, hl174_0, hi174_0, hl174_1, hi174_1⟩ := at_T34 HR1.out 0 p174 q174; cases e174; have qi174 : (0 < l1.length) = True := eq_true (by omega); (try rw [show ((0 : Int)).toNat = 0 from rfl] at hx174_0); (try rw [show 0 * 3 = 0 from rfl] at hx174_0); (try rw [Addr.add_zero'] at hx174_0); (try rw [show ((0 : Int)).toNat = 0 from rfl] at hx174_1); (try rw [show 0 * 3 = 0 from rfl] at hx174_1); (try rw [Addr.add_zero'] at hx174_1); (try rw [show ((0 : Int)).toNat = 0 from rfl] at hx174_2); (try rw [show 0 * 3 = 0 from rfl] at hx174_2); (try rw [Addr.add_zero'] at hx174_2); replace hx174_0 := cl HB.out hx174_0; replace hx174_1 := cl HB.out hx174_1; replace hx174_2 := cl HB.out hx174_2; have HR174_0 := aM hi174_0; have HC174_0 := aM hl174_0; clear hi174_0 hl174_0; have HR174_1 := aM hi174_1; have HC174_1 := aM hl174_1; clear hi174_1 hl174_1; replace p174 := eq_true p174; replace q174 := eq_true q174) | (go_at_call 68; (with_reducible refine (spec_FrmOk.calls k _ _ ((rd_T34 l1 0).f0) _ _ ((rd_T34 l1 0).f1) ((rd_T34 l1 0).f2) false _ (by exact lC <| (Kd.C_below HR174_0.out HB.out)) HC174_0.out (by exact lC <| (Kd.C_below HR174_1.out HB.out)) HC174_1.out A10.out).mono ?_); rintro e w31 ⟨rfl, hb⟩; replace BK171 := aM (bb BK171.out hb); replace BK172 := aM (bb BK172.out hb); replace HB := aM (bj HB.out hb); (try clear hb)))
     go_meet
     case rel => exact ⟨_, (true), sr, H', ⟨by first | omega | exact Nat.le_refl _⟩, ⟨by exact lK <| BK171.out⟩, ⟨by exact lK <| BK172.out⟩, ⟨by exact jB HB.out⟩⟩
   ·rw [if_neg c8] at H; have c8b0 := beq_eq_false_iff_ne.mpr c8
    have c8b1 := bne_iff_ne.mpr c8
    (first | rw [c8b0] | (simp only [i64_w, i32_w]; rw [c8b0]) | skip)
    have H' := aM H
    clear H; have hnb32 := NB171_172.out
    have hnc32 := NB172_171.out
    obtain ⟨hcz33_0, hcz33_1, hcz33_2, hfz33_0, hfz33_1, hfz33_2⟩ := cf3 BK171.out
    go_wp2_with (first | (refine gL (some 8) Try.func68 #[.agg #[.slice A0_0 l0_0.length c0_0, .slice A0_1 l0_1.length c0_1, .int .i64 a0_2]] ?_; (with_reducible refine (spec_FrmOk.calls k _ _ l0_0 _ _ l0_1 a0_2 true _ (by exact lC <| (Kd.C_below HR0_0.out HB.out)) HC0_0.out (by exact lC <| (Kd.C_below HR0_1.out HB.out)) HC0_1.out A6.out).mono ?_); rintro e w34 ⟨rfl, hb⟩; refine ⟨_, rfl, ?_⟩; replace BK171 := aM (bb BK171.out hb); replace BK172 := aM (bb BK172.out hb); replace HB := aM (bj HB.out hb); (try clear hb)))
    go_meet
    case rel => exact ⟨_, (true), sr, H', ⟨by first | omega | exact Nat.le_refl _⟩, ⟨by exact lK <| BK171.out⟩, ⟨by exact lK <| BK172.out⟩, ⟨by exact jB HB.out⟩⟩
  ·replace c7 := Bool.eq_false_iff.mpr c7
   subst c7; rw [if_neg nf] at H
   try dsimp only at H
   have H' := aM H
   clear H; have hnb35 := NB171_172.out
   have hnc35 := NB172_171.out
   obtain ⟨hcz36_0, hcz36_1, hcz36_2, hfz36_0, hfz36_1, hfz36_2⟩ := cf3 BK171.out
   go_wp2_with (first | (refine gL (some 8) Try.func68 #[.agg #[.slice A0_0 l0_0.length c0_0, .slice A0_1 l0_1.length c0_1, .int .i64 a0_2]] ?_; (with_reducible refine (spec_FrmOk.calls k _ _ l0_0 _ _ l0_1 a0_2 false _ (by exact lC <| (Kd.C_below HR0_0.out HB.out)) HC0_0.out (by exact lC <| (Kd.C_below HR0_1.out HB.out)) HC0_1.out A6.out).mono ?_); rintro e w37 ⟨rfl, hb⟩; refine ⟨_, rfl, ?_⟩; replace BK171 := aM (bb BK171.out hb); replace BK172 := aM (bb BK172.out hb); replace HB := aM (bj HB.out hb); (try clear hb)))
   go_meet
   case rel => exact ⟨_, (true), sr, H', ⟨by first | omega | exact Nat.le_refl _⟩, ⟨by exact lK <| BK171.out⟩, ⟨by exact lK <| BK172.out⟩, ⟨by exact jB HB.out⟩⟩
 case rest =>
  clear HC3; (try clear c1); (try clear p1); (try clear q1); (try clear hx1); (try clear qi1); (try clear c2); (try clear p2); (try clear c3); (try clear c6); (try clear c7); (try clear c8); (try clear c8b0); (try clear c8b1); (try clear c9); (try clear c9b0); (try clear c9b1); (try clear c11); (try clear c12); (try clear c12b0); (try clear c12b1); (try clear c14); (try clear c15); (try clear c15b0); (try clear c15b1); (try clear c17); (try clear p17); (try clear q17); (try clear hx17); (try clear qi17); (try clear c23); (try clear c28); (try clear c32); (try clear c35); (try clear hcz18_0); (try clear hcz18_1); (try clear hcz18_2); (try clear hcz24_0); (try clear hcz24_1); (try clear hcz24_2); (try clear hcz29_0); (try clear hcz29_1); (try clear hcz29_2); (try clear hcz33_0); (try clear hcz33_1); (try clear hcz33_2); (try clear hcz36_0); (try clear hcz36_1); (try clear hcz36_2); (try clear hfz18_0); (try clear hfz18_1); (try clear hfz18_2); (try clear hfz24_0); (try clear hfz24_1); (try clear hfz24_2); (try clear hfz29_0); (try clear hfz29_1); (try clear hfz29_2); (try clear hfz33_0); (try clear hfz33_1); (try clear hfz33_2); (try clear hfz36_0); (try clear hfz36_1); (try clear hfz36_2); (try clear hx174_0); (try clear hx174_1); (try clear hx174_2); (try clear hx176_0); (try clear hx176_1); (try clear hx176_2); (try clear hx178_0); (try clear hx178_1); (try clear hx178_2); (try clear p174); (try clear p176); (try clear p178); (try clear q174); (try clear q176); (try clear q178)
  obtain ⟨kq, x35_2, rfl, HA, HJ2, BK171, BK172, HB⟩ := hcut
  cases kq with
  | zero => exact absurd HA.out (by simp [spec_FrmInto.j0])
  | succ kj2 =>
   have H := HA.out
   clear HA; simp only [spec_FrmInto.j0] at H
   by_cases c38 : x35_2 = true
   ·subst c38; rw [if_pos rfl] at H
    try dsimp only at H
    simp only [Option.some.injEq, Prod.mk.injEq] at H
    obtain ⟨rfl, rfl, rfl⟩ := H
    have hnb39 := NB172_171.out
    have hnc39 := NB171_172.out
    obtain ⟨hcz40_0, hcz40_1, hcz40_2, hfz40_0, hfz40_1, hfz40_2⟩ := cf3 BK172.out
    go_wp2
    refine bodyPost_ret (results_cell_row rfl _ _ gb172 34 #[.slice none 0 0, .slice none 0 0, .int .i64 0] (0, 0) _ rfl (by exact p3 (lK BK172.out)) Try.underlying34 rfl (by kernel_rfl)) rfl ?_
    exact ⟨_, _, er, by first | exact Kd.R_nil _ _ _ _ _ | exact Kd.N_nil _ _ _ _ _ | exact Kd.V_nil _ _ _ _ _ | exact Kd.Q_nil _ _ _ _ _ | exact Kd.S_nil _ _ _ _ _, by first | exact Kd.R_nil _ _ _ _ _ | exact Kd.N_nil _ _ _ _ _ | exact Kd.V_nil _ _ _ _ _ | exact Kd.Q_nil _ _ _ _ _ | exact Kd.S_nil _ _ _ _ _, by exact jB HB.out⟩
   ·replace c38 := Bool.eq_false_iff.mpr c38
    subst c38; rw [if_neg nf] at H
    try dsimp only at H
    obtain ⟨y180, Ny180⟩ : ∃ y_ : List Int, Aside0 (y_ = (([0, 0, 0] : List Int))) := ⟨_, ⟨rfl⟩⟩
    try rw [← Ny180.out] at H
    try dsimp only [Option.bind_some] at H
    obtain ⟨y183, hy183⟩ : ∃ y_ : List Int, y_ = (([] : List Int)) := ⟨_, rfl⟩
    replace H : (if y183.length + l0_1.length < 17592186044416 then (spec_FrmInto.l0 kj2 l1 0 l0_0 l0_1 a0_2 y180 (y183 ++ l0_1) a0_2) else (none)) = some (r1, r2, r3) := by first | (rw [hy183]; exact H) | exact H
    have Ny183 := aM hy183; clear hy183; obtain ⟨c41, H⟩ := iN H; have LMc41 := aM c41; clear c41; obtain ⟨y186, Ny186⟩ : ∃ y_ : List Int, Aside0 (y_ = (y183 ++ l0_1)) := ⟨_, ⟨rfl⟩⟩
    try rw [← Ny186.out] at H
    try dsimp only [Option.bind_some] at H
    have H' := aM H
    clear H
    try go_wp2
    replace BK171 := aM (blk_drew BK171.out); replace BK172 := aM (blk_drew BK172.out); replace HB := aM (below_drew1 HB.out); refine start_ (n := 10) (S := fun w' => w'.cell? ⟨gb171, 0, none⟩ = some (.slice A0_0 l0_0.length c0_0) ∧ w'.cell? ⟨gb171, 1, none⟩ = some (.slice A0_1 l0_1.length c0_1) ∧ w'.cell? ⟨gb171, 2, none⟩ = some (.int .i64 a0_2)) (ds := []) #[false, false, false, false, false, false, false, false, false, false] (by kernel_rfl) rfl rfl (cz3 BK171.out) (fun hHeld => ?_); refine with_tabW spec_FrmInto.tab3 spec_FrmInto.bits3 (fun HT_ HW_ => ?_)
    generalize wc.drew = w42 at BK171 BK172 HB hHeld ⊢
    refine pu 2 (some 39) HT_.out ?_; refine pu 5 (some 42) HT_.out ?_; refine tk 3 (some 40) HT_.out HW_.out hHeld ?_; refine tk 6 (some 43) HT_.out HW_.out hHeld ?_; refine join_ (σ := Value × Value × Value × Nat) 1 #[true, true, true, true, true, true, true, true, true, false] (fun s_ => [(37, s_.1), (38, s_.2.1), (41, s_.2.2.1), (5, .pointer (some ⟨s_.2.2.2, 0, none⟩)), (44, .agg #[s_.1, s_.2.2.1, .int .i64 a0_2])]) (fun s_ w' => (w'.cell? ⟨gb171, 0, none⟩ = some (.slice A0_0 l0_0.length c0_0) ∧ w'.cell? ⟨gb171, 1, none⟩ = some (.slice A0_1 l0_1.length c0_1) ∧ w'.cell? ⟨gb171, 2, none⟩ = some (.int .i64 a0_2)) ∧ (Kd.R (Kd.int .i64) 3 w' w.heap.size (fun k_ => some k_ ≠ (s_.2.2.1 : Value).ownBlock) s_.1 y180) ∧ (Kd.R (Kd.int .i64) 3 w' w.heap.size (fun k_ => some k_ ≠ (s_.1 : Value).ownBlock) s_.2.2.1 y186) ∧ (w'.heap[gb171]? = some (.cells #[.slice A0_0 l0_0.length c0_0, .slice A0_1 l0_1.length c0_1, .int .i64 a0_2] 34 (0, 0))) ∧ (w'.heap[gb172]? = some (.cells #[.slice none 0 0, .slice none 0 0, .int .i64 0] 34 (0, 0))) ∧ (w'.heap[s_.2.2.2]? = some (.cells #[.slice none 0 0, .slice none 0 0, .int .i64 0] 34 (0, 0))) ∧ (w.heap.size ≤ s_.2.2.2) ∧ (w.heap.size ≤ s_.2.2.2) ∧ (gb171 ≠ s_.2.2.2) ∧ (s_.2.2.2 ≠ gb171) ∧ (gb172 ≠ s_.2.2.2) ∧ (s_.2.2.2 ≠ gb172) ∧ (Below w.heap.size w w')) ?_ ?_
    rotate_left
    ·intro hJ0_1_4_8
     refine join_ (σ := Value × Value × Value) 2 #[true, true, true, true, true, true, true, true, false, false] (fun s_ => [(37, s_.1), (38, s_.2.1), (41, s_.2.2), (44, .agg #[s_.1, s_.2.2, .int .i64 a0_2])]) (fun s_ w' => (w'.cell? ⟨gb171, 0, none⟩ = some (.slice A0_0 l0_0.length c0_0) ∧ w'.cell? ⟨gb171, 1, none⟩ = some (.slice A0_1 l0_1.length c0_1) ∧ w'.cell? ⟨gb171, 2, none⟩ = some (.int .i64 a0_2)) ∧ (Kd.R (Kd.int .i64) 3 w' w.heap.size (fun k_ => some k_ ≠ (s_.2.2 : Value).ownBlock) s_.1 y180) ∧ (Kd.R (Kd.int .i64) 3 w' w.heap.size (fun k_ => some k_ ≠ (s_.1 : Value).ownBlock) s_.2.2 y186) ∧ (w'.heap[gb171]? = some (.cells #[.slice A0_0 l0_0.length c0_0, .slice A0_1 l0_1.length c0_1, .int .i64 a0_2] 34 (0, 0))) ∧ (w'.heap[gb172]? = some (.cells #[.slice none 0 0, .slice none 0 0, .int .i64 0] 34 (0, 0))) ∧ (Below w.heap.size w w')) ?_ ?_
     rotate_left
     ·intro hJ0_1_4
      refine join_ (σ := Value × Value × Nat) 3 #[true, true, true, true, false, true, true, false, true, false] (fun s_ => [(37, s_.1), (38, s_.2.1), (5, .pointer (some ⟨s_.2.2, 0, none⟩))]) (fun s_ w' => (w'.cell? ⟨gb171, 0, none⟩ = some (.slice A0_0 l0_0.length c0_0) ∧ w'.cell? ⟨gb171, 1, none⟩ = some (.slice A0_1 l0_1.length c0_1) ∧ w'.cell? ⟨gb171, 2, none⟩ = some (.int .i64 a0_2)) ∧ (Kd.R (Kd.int .i64) 3 w' w.heap.size (fun k_ => some k_ ≠ (s_.2.1 : Value).ownBlock) s_.1 y180) ∧ (Kd.R (Kd.int .i64) 3 w' w.heap.size (fun k_ => some k_ ≠ (s_.1 : Value).ownBlock) s_.2.1 y183) ∧ (w'.heap[gb171]? = some (.cells #[.slice A0_0 l0_0.length c0_0, .slice A0_1 l0_1.length c0_1, .int .i64 a0_2] 34 (0, 0))) ∧ (w'.heap[gb172]? = some (.cells #[.slice none 0 0, .slice none 0 0, .int .i64 0] 34 (0, 0))) ∧ (w'.heap[s_.2.2]? = some (.cells #[.slice none 0 0, .slice none 0 0, .int .i64 0] 34 (0, 0))) ∧ (w.heap.size ≤ s_.2.2) ∧ (w.heap.size ≤ s_.2.2) ∧ (gb171 ≠ s_.2.2) ∧ (s_.2.2 ≠ gb171) ∧ (gb172 ≠ s_.2.2) ∧ (s_.2.2 ≠ gb172) ∧ (Below w.heap.size w w')) ?_ ?_
      rotate_left
      ·intro hJ0_1_8
       refine join_ (σ := Value × Value × Nat) 3 #[false, true, true, true, true, true, true, false, true, false] (fun s_ => [(38, s_.1), (41, s_.2.1), (5, .pointer (some ⟨s_.2.2, 0, none⟩))]) (fun s_ w' => (w'.cell? ⟨gb171, 0, none⟩ = some (.slice A0_0 l0_0.length c0_0) ∧ w'.cell? ⟨gb171, 1, none⟩ = some (.slice A0_1 l0_1.length c0_1) ∧ w'.cell? ⟨gb171, 2, none⟩ = some (.int .i64 a0_2)) ∧ (Kd.R (Kd.int .i64) 3 w' w.heap.size (fun _ => True) s_.2.1 y186) ∧ (w'.heap[gb171]? = some (.cells #[.slice A0_0 l0_0.length c0_0, .slice A0_1 l0_1.length c0_1, .int .i64 a0_2] 34 (0, 0))) ∧ (w'.heap[gb172]? = some (.cells #[.slice none 0 0, .slice none 0 0, .int .i64 0] 34 (0, 0))) ∧ (w'.heap[s_.2.2]? = some (.cells #[.slice none 0 0, .slice none 0 0, .int .i64 0] 34 (0, 0))) ∧ (w.heap.size ≤ s_.2.2) ∧ (w.heap.size ≤ s_.2.2) ∧ (gb171 ≠ s_.2.2) ∧ (s_.2.2 ≠ gb171) ∧ (gb172 ≠ s_.2.2) ∧ (s_.2.2 ≠ gb172) ∧ (Below w.heap.size w w')) ?_ ?_
       rotate_left
       ·intro hJ1_4_8
        refine join_ (σ := Value × Value) 4 #[true, true, true, true, false, true, true, false, false, false] (fun s_ => [(37, s_.1), (38, s_.2)]) (fun s_ w' => (w'.cell? ⟨gb171, 0, none⟩ = some (.slice A0_0 l0_0.length c0_0) ∧ w'.cell? ⟨gb171, 1, none⟩ = some (.slice A0_1 l0_1.length c0_1) ∧ w'.cell? ⟨gb171, 2, none⟩ = some (.int .i64 a0_2)) ∧ (Kd.R (Kd.int .i64) 3 w' w.heap.size (fun k_ => some k_ ≠ (s_.2 : Value).ownBlock) s_.1 y180) ∧ (Kd.R (Kd.int .i64) 3 w' w.heap.size (fun k_ => some k_ ≠ (s_.1 : Value).ownBlock) s_.2 y183) ∧ (w'.heap[gb171]? = some (.cells #[.slice A0_0 l0_0.length c0_0, .slice A0_1 l0_1.length c0_1, .int .i64 a0_2] 34 (0, 0))) ∧ (w'.heap[gb172]? = some (.cells #[.slice none 0 0, .slice none 0 0, .int .i64 0] 34 (0, 0))) ∧ (Below w.heap.size w w')) ?_ ?_
        rotate_left
        ·intro hJ0_1
         refine join_ (σ := Value × Nat) 4 #[true, false, true, true, false, true, true, false, true, false] (fun s_ => [(37, s_.1), (5, .pointer (some ⟨s_.2, 0, none⟩))]) (fun s_ w' => (w'.cell? ⟨gb171, 0, none⟩ = some (.slice A0_0 l0_0.length c0_0) ∧ w'.cell? ⟨gb171, 1, none⟩ = some (.slice A0_1 l0_1.length c0_1) ∧ w'.cell? ⟨gb171, 2, none⟩ = some (.int .i64 a0_2)) ∧ (Kd.R (Kd.int .i64) 3 w' w.heap.size (fun _ => True) s_.1 y180) ∧ (w'.heap[gb171]? = some (.cells #[.slice A0_0 l0_0.length c0_0, .slice A0_1 l0_1.length c0_1, .int .i64 a0_2] 34 (0, 0))) ∧ (w'.heap[gb172]? = some (.cells #[.slice none 0 0, .slice none 0 0, .int .i64 0] 34 (0, 0))) ∧ (w'.heap[s_.2]? = some (.cells #[.slice none 0 0, .slice none 0 0, .int .i64 0] 34 (0, 0))) ∧ (w.heap.size ≤ s_.2) ∧ (w.heap.size ≤ s_.2) ∧ (gb171 ≠ s_.2) ∧ (s_.2 ≠ gb171) ∧ (gb172 ≠ s_.2) ∧ (s_.2 ≠ gb172) ∧ (Below w.heap.size w w')) ?_ ?_
         rotate_left
         ·intro hJ0_8
          refine join_ (σ := Value × Value) 4 #[false, true, true, true, true, true, true, false, false, false] (fun s_ => [(38, s_.1), (41, s_.2)]) (fun s_ w' => (w'.cell? ⟨gb171, 0, none⟩ = some (.slice A0_0 l0_0.length c0_0) ∧ w'.cell? ⟨gb171, 1, none⟩ = some (.slice A0_1 l0_1.length c0_1) ∧ w'.cell? ⟨gb171, 2, none⟩ = some (.int .i64 a0_2)) ∧ (Kd.R (Kd.int .i64) 3 w' w.heap.size (fun _ => True) s_.2 y186) ∧ (w'.heap[gb171]? = some (.cells #[.slice A0_0 l0_0.length c0_0, .slice A0_1 l0_1.length c0_1, .int .i64 a0_2] 34 (0, 0))) ∧ (w'.heap[gb172]? = some (.cells #[.slice none 0 0, .slice none 0 0, .int .i64 0] 34 (0, 0))) ∧ (Below w.heap.size w w')) ?_ ?_
          rotate_left
          ·intro hJ1_4
           refine join_ (σ := Value × Nat) 4 #[false, true, true, true, false, true, true, false, true, false] (fun s_ => [(38, s_.1), (5, .pointer (some ⟨s_.2, 0, none⟩))]) (fun s_ w' => (w'.cell? ⟨gb171, 0, none⟩ = some (.slice A0_0 l0_0.length c0_0) ∧ w'.cell? ⟨gb171, 1, none⟩ = some (.slice A0_1 l0_1.length c0_1) ∧ w'.cell? ⟨gb171, 2, none⟩ = some (.int .i64 a0_2)) ∧ (Kd.R (Kd.int .i64) 3 w' w.heap.size (fun _ => True) s_.1 y183) ∧ (w'.heap[gb171]? = some (.cells #[.slice A0_0 l0_0.length c0_0, .slice A0_1 l0_1.length c0_1, .int .i64 a0_2] 34 (0, 0))) ∧ (w'.heap[gb172]? = some (.cells #[.slice none 0 0, .slice none 0 0, .int .i64 0] 34 (0, 0))) ∧ (w'.heap[s_.2]? = some (.cells #[.slice none 0 0, .slice none 0 0, .int .i64 0] 34 (0, 0))) ∧ (w.heap.size ≤ s_.2) ∧ (w.heap.size ≤ s_.2) ∧ (gb171 ≠ s_.2) ∧ (s_.2 ≠ gb171) ∧ (gb172 ≠ s_.2) ∧ (s_.2 ≠ gb172) ∧ (Below w.heap.size w w')) ?_ ?_
           rotate_left
           ·intro hJ1_8
            refine join_ (σ := Value) 5 #[true, false, true, true, false, true, true, false, false, false] (fun s_ => [(37, s_)]) (fun s_ w' => (w'.cell? ⟨gb171, 0, none⟩ = some (.slice A0_0 l0_0.length c0_0) ∧ w'.cell? ⟨gb171, 1, none⟩ = some (.slice A0_1 l0_1.length c0_1) ∧ w'.cell? ⟨gb171, 2, none⟩ = some (.int .i64 a0_2)) ∧ (Kd.R (Kd.int .i64) 3 w' w.heap.size (fun _ => True) s_ y180) ∧ (w'.heap[gb171]? = some (.cells #[.slice A0_0 l0_0.length c0_0, .slice A0_1 l0_1.length c0_1, .int .i64 a0_2] 34 (0, 0))) ∧ (w'.heap[gb172]? = some (.cells #[.slice none 0 0, .slice none 0 0, .int .i64 0] 34 (0, 0))) ∧ (Below w.heap.size w w')) ?_ ?_
            rotate_left
            ·intro hJ0
             refine join_ (σ := Value) 5 #[false, true, true, true, false, true, true, false, false, false] (fun s_ => [(38, s_)]) (fun s_ w' => (w'.cell? ⟨gb171, 0, none⟩ = some (.slice A0_0 l0_0.length c0_0) ∧ w'.cell? ⟨gb171, 1, none⟩ = some (.slice A0_1 l0_1.length c0_1) ∧ w'.cell? ⟨gb171, 2, none⟩ = some (.int .i64 a0_2)) ∧ (Kd.R (Kd.int .i64) 3 w' w.heap.size (fun _ => True) s_ y183) ∧ (w'.heap[gb171]? = some (.cells #[.slice A0_0 l0_0.length c0_0, .slice A0_1 l0_1.length c0_1, .int .i64 a0_2] 34 (0, 0))) ∧ (w'.heap[gb172]? = some (.cells #[.slice none 0 0, .slice none 0 0, .int .i64 0] 34 (0, 0))) ∧ (Below w.heap.size w w')) ?_ ?_
             rotate_left
             ·intro hJ1
              refine join_ (σ := Nat) 5 #[false, false, true, true, false, true, true, false, true, false] (fun s_ => [(5, .pointer (some ⟨s_, 0, none⟩))]) (fun s_ w' => (w'.cell? ⟨gb171, 0, none⟩ = some (.slice A0_0 l0_0.length c0_0) ∧ w'.cell? ⟨gb171, 1, none⟩ = some (.slice A0_1 l0_1.length c0_1) ∧ w'.cell? ⟨gb171, 2, none⟩ = some (.int .i64 a0_2)) ∧ (w'.heap[gb171]? = some (.cells #[.slice A0_0 l0_0.length c0_0, .slice A0_1 l0_1.length c0_1, .int .i64 a0_2] 34 (0, 0))) ∧ (w'.heap[gb172]? = some (.cells #[.slice none 0 0, .slice none 0 0, .int .i64 0] 34 (0, 0))) ∧ (w'.heap[s_]? = some (.cells #[.slice none 0 0, .slice none 0 0, .int .i64 0] 34 (0, 0))) ∧ (w.heap.size ≤ s_) ∧ (w.heap.size ≤ s_) ∧ (gb171 ≠ s_) ∧ (s_ ≠ gb171) ∧ (gb172 ≠ s_) ∧ (s_ ≠ gb172) ∧ (Below w.heap.size w w')) ?_ ?_
              rotate_left
              ·intro hJ8
               refine three_ (i := 0) (j := 1) (k := 8) (Ni := some 37) (Nj := some 38) (Nk := some 5) #[true, false, true, true, false, true, true, false, false, false] #[false, true, true, true, false, true, true, false, false, false] #[false, false, true, true, false, true, true, false, true, false] rfl rfl rfl rfl rfl rfl (three_of HT_.out (by kernel_rfl)) (by decide) (by decide) (by decide) (fun K hK => ?_) (fun K hK => ?_) (fun K hK => ?_)
               ·skip
                refine rlS 37 [0, 0, 0] [.int .i64 0, .int .i64 0, .int .i64 0] ?_
                intro v181 w43 ho44 hb hg_ hnew_; clear hg_ hnew_
                rw [← Ny180.out] at ho44
                have HO182 := aM (Kd.R_lower ho44 (bz HB.out)); replace BK171 := aM (bb BK171.out hb); replace BK172 := aM (bb BK172.out hb); replace HB := aM (bj HB.out hb); clear hb ho44; refine hK.out _ _ (cz3 BK171.out) (fun hHeld => ?_); clear hK K; refine nm (some 37) ?_; exact nj (hJ0 (v181) _ ⟨hHeld, (by exact lR HO182.out), (by exact lK BK171.out), (by exact lK BK172.out), (by exact jB HB.out)⟩)
               ·skip
                refine rlS 38 [] [] ?_
                intro v184 w43 ho44 hb hg_ hnew_; clear hg_ hnew_
                rw [← Ny183.out] at ho44
                have HO185 := aM (Kd.R_lower ho44 (bz HB.out)); replace BK171 := aM (bb BK171.out hb); replace BK172 := aM (bb BK172.out hb); replace HB := aM (bj HB.out hb); clear hb ho44; refine hK.out _ _ (cz3 BK171.out) (fun hHeld => ?_); clear hK K; refine nm (some 38) ?_; exact nj (hJ1 (v184) _ ⟨hHeld, (by exact lR HO185.out), (by exact lK BK171.out), (by exact lK BK172.out), (by exact jB HB.out)⟩)
               ·skip
                refine box_step ?hg (N := 5) ?hd (cs := #[.slice none 0 0, .slice none 0 0, .int .i64 0]) (t := 34) ?hr ?_; (case hd => rfl); (case hg => rfl); (case hr => first | (go_simp; done) | (go_simp; rfl))
                intro gb189 hg w43 hbox hb
                have BK189 := aM (hbox); have GW189 := aM ((gz hg HB.out)); have IGW189 := wn GW189.out
                have GE189 := aM ((gz hg HB.out)); have IGE189 := wn GE189.out
                replace HB := aM (bj HB.out hb); have NB171_189 := aM ((neL hg (lK BK171.out) : gb171 ≠ gb189)); have NB189_171 := aM ((neG hg (lK BK171.out) : gb189 ≠ gb171)); replace BK171 := aM (bb BK171.out hb); have NB172_189 := aM ((neL hg (lK BK172.out) : gb172 ≠ gb189)); have NB189_172 := aM ((neG hg (lK BK172.out) : gb189 ≠ gb172)); replace BK172 := aM (bb BK172.out hb); clear hb hbox hg; refine hK.out _ _ (cz3 BK171.out) (fun hHeld => ?_); clear hK K; refine nm (some 5) ?_; exact nj (hJ8 (gb189) _ ⟨hHeld, (by exact lK BK171.out), (by exact lK BK172.out), (by exact lK BK189.out), GW189.out, GE189.out, NB171_189.out, NB189_171.out, NB172_189.out, NB189_172.out, (by exact jB HB.out)⟩)
              ·skip
               rintro gb189 w44 ⟨hS_, h0_, h1_, h2_, h3_, h4_, h5_, h6_, h7_, h8_, h9_⟩
               replace BK171 : Aside0 (w44.heap[gb171]? = some (.cells #[.slice A0_0 l0_0.length c0_0, .slice A0_1 l0_1.length c0_1, .int .i64 a0_2] 34 (0, 0))) := ⟨h0_⟩
               replace BK172 : Aside0 (w44.heap[gb172]? = some (.cells #[.slice none 0 0, .slice none 0 0, .int .i64 0] 34 (0, 0))) := ⟨h1_⟩
               have BK189 : Aside0 (w44.heap[gb189]? = some (.cells #[.slice none 0 0, .slice none 0 0, .int .i64 0] 34 (0, 0))) := ⟨h2_⟩
               have GW189 : Aside0 (w.heap.size ≤ gb189) := ⟨h3_⟩
               have IGW189 := wn GW189.out
               have GE189 : Aside0 (w.heap.size ≤ gb189) := ⟨h4_⟩
               have IGE189 := wn GE189.out
               have NB171_189 : Aside0 (gb171 ≠ gb189) := ⟨h5_⟩
               have NB189_171 : Aside0 (gb189 ≠ gb171) := ⟨h6_⟩
               have NB172_189 : Aside0 (gb172 ≠ gb189) := ⟨h7_⟩
               have NB189_172 : Aside0 (gb189 ≠ gb172) := ⟨h8_⟩
               replace HB : Aside0 (Below w.heap.size w w44) := ⟨h9_⟩
               clear h0_ h1_ h2_ h3_ h4_ h5_ h6_ h7_ h8_ h9_; have hHeld : w44.cell? ⟨gb171, 0, none⟩ = some (.slice A0_0 l0_0.length c0_0) ∧ w44.cell? ⟨gb171, 1, none⟩ = some (.slice A0_1 l0_1.length c0_1) ∧ w44.cell? ⟨gb171, 2, none⟩ = some (.int .i64 a0_2) := hS_
               refine np ?_; refine tW 0 1 (some 37) (some 38) HT_.out (fun K hK => ?_) (fun K hK => ?_)
               ·skip
                refine rlS 37 [0, 0, 0] [.int .i64 0, .int .i64 0, .int .i64 0] ?_
                intro v181 w45 ho46 hb hg_ hnew_; clear hg_ hnew_
                rw [← Ny180.out] at ho46
                have HO182 := aM (Kd.R_lower ho46 (bz HB.out)); replace BK171 := aM (bb BK171.out hb); replace BK172 := aM (bb BK172.out hb); replace BK189 := aM (bb BK189.out hb); replace HB := aM (bj HB.out hb); clear hb ho46; refine hK.out _ _ (cz3 BK171.out) (fun hHeld => ?_); clear hK K; refine nm (some 37) ?_; exact nj (hJ0_8 (v181, gb189) _ ⟨hHeld, (by exact lR HO182.out), (by exact lK BK171.out), (by exact lK BK172.out), (by exact lK BK189.out), GW189.out, GE189.out, NB171_189.out, NB189_171.out, NB172_189.out, NB189_172.out, (by exact jB HB.out)⟩)
               ·skip
                refine rlS 38 [] [] ?_
                intro v184 w45 ho46 hb hg_ hnew_; clear hg_ hnew_
                rw [← Ny183.out] at ho46
                have HO185 := aM (Kd.R_lower ho46 (bz HB.out)); replace BK171 := aM (bb BK171.out hb); replace BK172 := aM (bb BK172.out hb); replace BK189 := aM (bb BK189.out hb); replace HB := aM (bj HB.out hb); clear hb ho46; refine hK.out _ _ (cz3 BK171.out) (fun hHeld => ?_); clear hK K; refine nm (some 38) ?_; exact nj (hJ1_8 (v184, gb189) _ ⟨hHeld, (by exact lR HO185.out), (by exact lK BK171.out), (by exact lK BK172.out), (by exact lK BK189.out), GW189.out, GE189.out, NB171_189.out, NB189_171.out, NB172_189.out, NB189_172.out, (by exact jB HB.out)⟩)
             ·skip
              rintro v184 w45 ⟨hS_, h0_, h1_, h2_, h3_⟩
              have HO185 : Aside0 (Kd.R (Kd.int .i64) 3 w45 w.heap.size (fun _ => True) v184 y183) := ⟨h0_⟩
              replace BK171 : Aside0 (w45.heap[gb171]? = some (.cells #[.slice A0_0 l0_0.length c0_0, .slice A0_1 l0_1.length c0_1, .int .i64 a0_2] 34 (0, 0))) := ⟨h1_⟩
              replace BK172 : Aside0 (w45.heap[gb172]? = some (.cells #[.slice none 0 0, .slice none 0 0, .int .i64 0] 34 (0, 0))) := ⟨h2_⟩
              replace HB : Aside0 (Below w.heap.size w w45) := ⟨h3_⟩
              clear h0_ h1_ h2_ h3_; have hHeld : w45.cell? ⟨gb171, 0, none⟩ = some (.slice A0_0 l0_0.length c0_0) ∧ w45.cell? ⟨gb171, 1, none⟩ = some (.slice A0_1 l0_1.length c0_1) ∧ w45.cell? ⟨gb171, 2, none⟩ = some (.int .i64 a0_2) := hS_
              refine np ?_; refine three_ (i := 0) (j := 4) (k := 8) (Ni := some 37) (Nj := some 41) (Nk := some 5) #[true, true, true, true, false, true, true, false, false, false] #[false, true, true, true, true, true, true, false, false, false] #[false, true, true, true, false, true, true, false, true, false] rfl rfl rfl rfl rfl rfl (three_of HT_.out (by kernel_rfl)) (by decide) (by decide) (by decide) (fun K hK => ?_) (fun K hK => ?_) (fun K hK => ?_)
              ·skip
               refine rlS 37 [0, 0, 0] [.int .i64 0, .int .i64 0, .int .i64 0] ?_
               intro v181 w46 ho47 hb hg_ hnew_; clear hg_ hnew_
               rw [← Ny180.out] at ho47
               have HO182 := aM (Kd.R_lower (Kd.R_new' ho47 (rl HO185.out)) (bz HB.out)); replace HO185 := aM (Kd.R_elder' (by exact lR HO185.out) (Kd.R_base ho47) hb); replace BK171 := aM (bb BK171.out hb); replace BK172 := aM (bb BK172.out hb); replace HB := aM (bj HB.out hb); clear hb ho47; refine hK.out _ _ (cz3 BK171.out) (fun hHeld => ?_); clear hK K; refine nm (some 37) ?_; exact nj (hJ0_1 (v181, v184) _ ⟨hHeld, (by exact lR <| Kd.R_mono HO182.out (fun _ hk => hk.2)), (by exact lR <| Kd.R_mono HO185.out (fun _ hk => hk.2)), (by exact lK BK171.out), (by exact lK BK172.out), (by exact jB HB.out)⟩)
              ·skip
               refine Kd.R_append_rows_step (Kd.int .i64) (w0 := w) w.heap.size (by rfl) (.tmp 38) (.tmp 40) 26 3 (.int .i64 0) 8 rfl Try.underlying26 info3 rfl (by decide) (by omega) v184 y183 l0_1 _ _ _ (fun _ => True) (fun _ => False) rfl rfl ?aO ?aR (fun _ _ h => h) (fun _ h => h.elim) ?aF ?aB ?aS ?aL ?_
               (case aR => exact lC <| (Kd.C_below HR0_1.out HB.out))
               (case aB => exact (by exact jB HB.out))
               (case aF => exact (fun _ _ => trivial))
               (case aO => exact (by exact lR HO185.out))
               (case aS => exact (bz HB.out))
               (case aL => have := LMc41.out; omega)
               intro v187 w46 ho hb hg hat; rw [← Ny186.out] at ho
               replace BK171 := aM (blk_grown (g := gb171) (lK BK171.out) hg (Kd.R_ne HO185.out BK171.out (by decide))); replace BK172 := aM (blk_grown (g := gb172) (lK BK172.out) hg (Kd.R_ne HO185.out BK172.out (by decide))); replace HB := aM (hb); have HO188 := aM (ho); clear HO185 ho hb hg hat; refine hK.out _ _ (cz3 BK171.out) (fun hHeld => ?_); clear hK K; refine nm (some 41) ?_; exact nj (hJ1_4 (v184, v187) _ ⟨hHeld, (by exact lR HO188.out), (by exact lK BK171.out), (by exact lK BK172.out), (by exact jB HB.out)⟩)
              ·skip
               refine box_step ?hg (N := 5) ?hd (cs := #[.slice none 0 0, .slice none 0 0, .int .i64 0]) (t := 34) ?hr ?_; (case hd => rfl); (case hg => rfl); (case hr => first | (go_simp; done) | (go_simp; rfl))
               intro gb189 hg w46 hbox hb
               replace HO185 := aM (rb HO185.out hb); have BK189 := aM (hbox); have GW189 := aM ((gz hg HB.out)); have IGW189 := wn GW189.out
               have GE189 := aM ((gz hg HB.out)); have IGE189 := wn GE189.out
               replace HB := aM (bj HB.out hb); have NB171_189 := aM ((neL hg (lK BK171.out) : gb171 ≠ gb189)); have NB189_171 := aM ((neG hg (lK BK171.out) : gb189 ≠ gb171)); replace BK171 := aM (bb BK171.out hb); have NB172_189 := aM ((neL hg (lK BK172.out) : gb172 ≠ gb189)); have NB189_172 := aM ((neG hg (lK BK172.out) : gb189 ≠ gb172)); replace BK172 := aM (bb BK172.out hb); clear hb hbox hg; refine hK.out _ _ (cz3 BK171.out) (fun hHeld => ?_); clear hK K; refine nm (some 5) ?_; exact nj (hJ1_8 (v184, gb189) _ ⟨hHeld, (by exact lR HO185.out), (by exact lK BK171.out), (by exact lK BK172.out), (by exact lK BK189.out), GW189.out, GE189.out, NB171_189.out, NB189_171.out, NB172_189.out, NB189_172.out, (by exact jB HB.out)⟩)
            ·skip
             rintro v181 w45 ⟨hS_, h0_, h1_, h2_, h3_⟩
             have HO182 : Aside0 (Kd.R (Kd.int .i64) 3 w45 w.heap.size (fun _ => True) v181 y180) := ⟨h0_⟩
             replace BK171 : Aside0 (w45.heap[gb171]? = some (.cells #[.slice A0_0 l0_0.length c0_0, .slice A0_1 l0_1.length c0_1, .int .i64 a0_2] 34 (0, 0))) := ⟨h1_⟩
             replace BK172 : Aside0 (w45.heap[gb172]? = some (.cells #[.slice none 0 0, .slice none 0 0, .int .i64 0] 34 (0, 0))) := ⟨h2_⟩
             replace HB : Aside0 (Below w.heap.size w w45) := ⟨h3_⟩
             clear h0_ h1_ h2_ h3_; have hHeld : w45.cell? ⟨gb171, 0, none⟩ = some (.slice A0_0 l0_0.length c0_0) ∧ w45.cell? ⟨gb171, 1, none⟩ = some (.slice A0_1 l0_1.length c0_1) ∧ w45.cell? ⟨gb171, 2, none⟩ = some (.int .i64 a0_2) := hS_
             refine np ?_; refine tW 1 8 (some 38) (some 5) HT_.out (fun K hK => ?_) (fun K hK => ?_)
             ·skip
              refine rlS 38 [] [] ?_
              intro v184 w46 ho47 hb hg_ hnew_; clear hg_ hnew_
              rw [← Ny183.out] at ho47
              have HO185 := aM (Kd.R_lower (Kd.R_new' ho47 (rl HO182.out)) (bz HB.out)); replace HO182 := aM (Kd.R_elder' (by exact lR HO182.out) (Kd.R_base ho47) hb); replace BK171 := aM (bb BK171.out hb); replace BK172 := aM (bb BK172.out hb); replace HB := aM (bj HB.out hb); clear hb ho47; refine hK.out _ _ (cz3 BK171.out) (fun hHeld => ?_); clear hK K; refine nm (some 38) ?_; exact nj (hJ0_1 (v181, v184) _ ⟨hHeld, (by exact lR <| Kd.R_mono HO182.out (fun _ hk => hk.2)), (by exact lR <| Kd.R_mono HO185.out (fun _ hk => hk.2)), (by exact lK BK171.out), (by exact lK BK172.out), (by exact jB HB.out)⟩)
             ·skip
              refine box_step ?hg (N := 5) ?hd (cs := #[.slice none 0 0, .slice none 0 0, .int .i64 0]) (t := 34) ?hr ?_; (case hd => rfl); (case hg => rfl); (case hr => first | (go_simp; done) | (go_simp; rfl))
              intro gb189 hg w46 hbox hb
              replace HO182 := aM (rb HO182.out hb); have BK189 := aM (hbox); have GW189 := aM ((gz hg HB.out)); have IGW189 := wn GW189.out
              have GE189 := aM ((gz hg HB.out)); have IGE189 := wn GE189.out
              replace HB := aM (bj HB.out hb); have NB171_189 := aM ((neL hg (lK BK171.out) : gb171 ≠ gb189)); have NB189_171 := aM ((neG hg (lK BK171.out) : gb189 ≠ gb171)); replace BK171 := aM (bb BK171.out hb); have NB172_189 := aM ((neL hg (lK BK172.out) : gb172 ≠ gb189)); have NB189_172 := aM ((neG hg (lK BK172.out) : gb189 ≠ gb172)); replace BK172 := aM (bb BK172.out hb); clear hb hbox hg; refine hK.out _ _ (cz3 BK171.out) (fun hHeld => ?_); clear hK K; refine nm (some 5) ?_; exact nj (hJ0_8 (v181, gb189) _ ⟨hHeld, (by exact lR HO182.out), (by exact lK BK171.out), (by exact lK BK172.out), (by exact lK BK189.out), GW189.out, GE189.out, NB171_189.out, NB189_171.out, NB172_189.out, NB189_172.out, (by exact jB HB.out)⟩)
           ·skip
            rintro ⟨v184, gb189⟩ w46 ⟨hS_, h0_, h1_, h2_, h3_, h4_, h5_, h6_, h7_, h8_, h9_, h10_⟩
            have HO185 : Aside0 (Kd.R (Kd.int .i64) 3 w46 w.heap.size (fun _ => True) v184 y183) := ⟨h0_⟩
            replace BK171 : Aside0 (w46.heap[gb171]? = some (.cells #[.slice A0_0 l0_0.length c0_0, .slice A0_1 l0_1.length c0_1, .int .i64 a0_2] 34 (0, 0))) := ⟨h1_⟩
            replace BK172 : Aside0 (w46.heap[gb172]? = some (.cells #[.slice none 0 0, .slice none 0 0, .int .i64 0] 34 (0, 0))) := ⟨h2_⟩
            have BK189 : Aside0 (w46.heap[gb189]? = some (.cells #[.slice none 0 0, .slice none 0 0, .int .i64 0] 34 (0, 0))) := ⟨h3_⟩
            have GW189 : Aside0 (w.heap.size ≤ gb189) := ⟨h4_⟩
            have IGW189 := wn GW189.out
            have GE189 : Aside0 (w.heap.size ≤ gb189) := ⟨h5_⟩
            have IGE189 := wn GE189.out
            have NB171_189 : Aside0 (gb171 ≠ gb189) := ⟨h6_⟩
            have NB189_171 : Aside0 (gb189 ≠ gb171) := ⟨h7_⟩
            have NB172_189 : Aside0 (gb172 ≠ gb189) := ⟨h8_⟩
            have NB189_172 : Aside0 (gb189 ≠ gb172) := ⟨h9_⟩
            replace HB : Aside0 (Below w.heap.size w w46) := ⟨h10_⟩
            clear h0_ h1_ h2_ h3_ h4_ h5_ h6_ h7_ h8_ h9_ h10_; have hHeld : w46.cell? ⟨gb171, 0, none⟩ = some (.slice A0_0 l0_0.length c0_0) ∧ w46.cell? ⟨gb171, 1, none⟩ = some (.slice A0_1 l0_1.length c0_1) ∧ w46.cell? ⟨gb171, 2, none⟩ = some (.int .i64 a0_2) := hS_
            refine np ?_; refine tW 0 4 (some 37) (some 41) HT_.out (fun K hK => ?_) (fun K hK => ?_)
            ·skip
             refine rlS 37 [0, 0, 0] [.int .i64 0, .int .i64 0, .int .i64 0] ?_
             intro v181 w47 ho48 hb hg_ hnew_; clear hg_ hnew_
             rw [← Ny180.out] at ho48
             have HO182 := aM (Kd.R_lower (Kd.R_new' ho48 (rl HO185.out)) (bz HB.out)); replace HO185 := aM (Kd.R_elder' (by exact lR HO185.out) (Kd.R_base ho48) hb); replace BK171 := aM (bb BK171.out hb); replace BK172 := aM (bb BK172.out hb); replace BK189 := aM (bb BK189.out hb); replace HB := aM (bj HB.out hb); clear hb ho48; refine hK.out _ _ (cz3 BK171.out) (fun hHeld => ?_); clear hK K; refine nm (some 37) ?_; exact nj (hJ0_1_8 (v181, v184, gb189) _ ⟨hHeld, (by exact lR <| Kd.R_mono HO182.out (fun _ hk => hk.2)), (by exact lR <| Kd.R_mono HO185.out (fun _ hk => hk.2)), (by exact lK BK171.out), (by exact lK BK172.out), (by exact lK BK189.out), GW189.out, GE189.out, NB171_189.out, NB189_171.out, NB172_189.out, NB189_172.out, (by exact jB HB.out)⟩)
            ·skip
             refine Kd.R_append_rows_step (Kd.int .i64) (w0 := w) w.heap.size (by rfl) (.tmp 38) (.tmp 40) 26 3 (.int .i64 0) 8 rfl Try.underlying26 info3 rfl (by decide) (by omega) v184 y183 l0_1 _ _ _ (fun _ => True) (fun _ => False) rfl rfl ?aO ?aR (fun _ _ h => h) (fun _ h => h.elim) ?aF ?aB ?aS ?aL ?_
             (case aR => exact lC <| (Kd.C_below HR0_1.out HB.out))
             (case aB => exact (by exact jB HB.out))
             (case aF => exact (fun _ _ => trivial))
             (case aO => exact (by exact lR HO185.out))
             (case aS => exact (bz HB.out))
             (case aL => have := LMc41.out; omega)
             intro v187 w47 ho hb hg hat; rw [← Ny186.out] at ho
             replace BK171 := aM (blk_grown (g := gb171) (lK BK171.out) hg (Kd.R_ne HO185.out BK171.out (by decide))); replace BK172 := aM (blk_grown (g := gb172) (lK BK172.out) hg (Kd.R_ne HO185.out BK172.out (by decide))); replace BK189 := aM (blk_grown (g := gb189) (lK BK189.out) hg (Kd.R_ne HO185.out BK189.out (by decide))); replace HB := aM (hb); have HO188 := aM (ho); clear HO185 ho hb hg hat; refine hK.out _ _ (cz3 BK171.out) (fun hHeld => ?_); clear hK K; refine nm (some 41) ?_; exact nj (hJ1_4_8 (v184, v187, gb189) _ ⟨hHeld, (by exact lR HO188.out), (by exact lK BK171.out), (by exact lK BK172.out), (by exact lK BK189.out), GW189.out, GE189.out, NB171_189.out, NB189_171.out, NB172_189.out, NB189_172.out, (by exact jB HB.out)⟩)
          ·skip
           rintro ⟨v184, v187⟩ w46 ⟨hS_, h0_, h1_, h2_, h3_⟩
           have HO188 : Aside0 (Kd.R (Kd.int .i64) 3 w46 w.heap.size (fun _ => True) v187 y186) := ⟨h0_⟩
           replace BK171 : Aside0 (w46.heap[gb171]? = some (.cells #[.slice A0_0 l0_0.length c0_0, .slice A0_1 l0_1.length c0_1, .int .i64 a0_2] 34 (0, 0))) := ⟨h1_⟩
           replace BK172 : Aside0 (w46.heap[gb172]? = some (.cells #[.slice none 0 0, .slice none 0 0, .int .i64 0] 34 (0, 0))) := ⟨h2_⟩
           replace HB : Aside0 (Below w.heap.size w w46) := ⟨h3_⟩
           clear h0_ h1_ h2_ h3_; have hHeld : w46.cell? ⟨gb171, 0, none⟩ = some (.slice A0_0 l0_0.length c0_0) ∧ w46.cell? ⟨gb171, 1, none⟩ = some (.slice A0_1 l0_1.length c0_1) ∧ w46.cell? ⟨gb171, 2, none⟩ = some (.int .i64 a0_2) := hS_
           refine np ?_; refine tW 0 8 (some 37) (some 5) HT_.out (fun K hK => ?_) (fun K hK => ?_)
           ·skip
            refine rlS 37 [0, 0, 0] [.int .i64 0, .int .i64 0, .int .i64 0] ?_
            intro v181 w47 ho48 hb hg_ hnew_; clear hg_ hnew_
            rw [← Ny180.out] at ho48
            have HO182 := aM (Kd.R_lower (Kd.R_new' ho48 (rl HO188.out)) (bz HB.out)); replace HO188 := aM (Kd.R_elder' (by exact lR HO188.out) (Kd.R_base ho48) hb); replace BK171 := aM (bb BK171.out hb); replace BK172 := aM (bb BK172.out hb); replace HB := aM (bj HB.out hb); clear hb ho48; obtain ⟨Ao49, co49, eo49⟩ := Kd.R_slice HO188.out
            (first | subst eo49 | (injection eo49 with f1_ f2_ f3_; have f4_ := f1_.symm; have f5_ := f3_.symm; clear f1_ f2_ f3_; subst f4_; subst f5_))
            obtain ⟨Ao50, co50, eo50⟩ := Kd.R_slice HO182.out
            (first | subst eo50 | (injection eo50 with f1_ f2_ f3_; have f4_ := f1_.symm; have f5_ := f3_.symm; clear f1_ f2_ f3_; subst f4_; subst f5_))
            refine hK.out _ _ (cz3 BK171.out) (fun hHeld => ?_); clear hK K; refine nm (some 37) ?_; refine pu 7 (some 44) HT_.out ?_; exact nj (hJ0_1_4 (.slice Ao50 y180.length co50, v184, .slice Ao49 y186.length co49) _ ⟨hHeld, (by exact lR <| Kd.R_mono HO182.out (fun _ hk => hk.2)), (by exact lR <| Kd.R_mono HO188.out (fun _ hk => hk.2)), (by exact lK BK171.out), (by exact lK BK172.out), (by exact jB HB.out)⟩)
           ·skip
            refine box_step ?hg (N := 5) ?hd (cs := #[.slice none 0 0, .slice none 0 0, .int .i64 0]) (t := 34) ?hr ?_; (case hd => rfl); (case hg => rfl); (case hr => first | (go_simp; done) | (go_simp; rfl))
            intro gb189 hg w47 hbox hb
            replace HO188 := aM (rb HO188.out hb); have BK189 := aM (hbox); have GW189 := aM ((gz hg HB.out)); have IGW189 := wn GW189.out
            have GE189 := aM ((gz hg HB.out)); have IGE189 := wn GE189.out
            replace HB := aM (bj HB.out hb); have NB171_189 := aM ((neL hg (lK BK171.out) : gb171 ≠ gb189)); have NB189_171 := aM ((neG hg (lK BK171.out) : gb189 ≠ gb171)); replace BK171 := aM (bb BK171.out hb); have NB172_189 := aM ((neL hg (lK BK172.out) : gb172 ≠ gb189)); have NB189_172 := aM ((neG hg (lK BK172.out) : gb189 ≠ gb172)); replace BK172 := aM (bb BK172.out hb); clear hb hbox hg; refine hK.out _ _ (cz3 BK171.out) (fun hHeld => ?_); clear hK K; refine nm (some 5) ?_; exact nj (hJ1_4_8 (v184, v187, gb189) _ ⟨hHeld, (by exact lR HO188.out), (by exact lK BK171.out), (by exact lK BK172.out), (by exact lK BK189.out), GW189.out, GE189.out, NB171_189.out, NB189_171.out, NB172_189.out, NB189_172.out, (by exact jB HB.out)⟩)
         ·skip
          rintro ⟨v181, gb189⟩ w46 ⟨hS_, h0_, h1_, h2_, h3_, h4_, h5_, h6_, h7_, h8_, h9_, h10_⟩
          have HO182 : Aside0 (Kd.R (Kd.int .i64) 3 w46 w.heap.size (fun _ => True) v181 y180) := ⟨h0_⟩
          replace BK171 : Aside0 (w46.heap[gb171]? = some (.cells #[.slice A0_0 l0_0.length c0_0, .slice A0_1 l0_1.length c0_1, .int .i64 a0_2] 34 (0, 0))) := ⟨h1_⟩
          replace BK172 : Aside0 (w46.heap[gb172]? = some (.cells #[.slice none 0 0, .slice none 0 0, .int .i64 0] 34 (0, 0))) := ⟨h2_⟩
          have BK189 : Aside0 (w46.heap[gb189]? = some (.cells #[.slice none 0 0, .slice none 0 0, .int .i64 0] 34 (0, 0))) := ⟨h3_⟩
          have GW189 : Aside0 (w.heap.size ≤ gb189) := ⟨h4_⟩
          have IGW189 := wn GW189.out
          have GE189 : Aside0 (w.heap.size ≤ gb189) := ⟨h5_⟩
          have IGE189 := wn GE189.out
          have NB171_189 : Aside0 (gb171 ≠ gb189) := ⟨h6_⟩
          have NB189_171 : Aside0 (gb189 ≠ gb171) := ⟨h7_⟩
          have NB172_189 : Aside0 (gb172 ≠ gb189) := ⟨h8_⟩
          have NB189_172 : Aside0 (gb189 ≠ gb172) := ⟨h9_⟩
          replace HB : Aside0 (Below w.heap.size w w46) := ⟨h10_⟩
          clear h0_ h1_ h2_ h3_ h4_ h5_ h6_ h7_ h8_ h9_ h10_; have hHeld : w46.cell? ⟨gb171, 0, none⟩ = some (.slice A0_0 l0_0.length c0_0) ∧ w46.cell? ⟨gb171, 1, none⟩ = some (.slice A0_1 l0_1.length c0_1) ∧ w46.cell? ⟨gb171, 2, none⟩ = some (.int .i64 a0_2) := hS_
          refine np ?_; refine oN 1 (some 38) HT_.out (fun K hK => ?_); refine rlS 38 [] [] ?_
          intro v184 w47 ho48 hb hg_ hnew_; clear hg_ hnew_
          rw [← Ny183.out] at ho48
          have HO185 := aM (Kd.R_lower (Kd.R_new' ho48 (rl HO182.out)) (bz HB.out)); replace HO182 := aM (Kd.R_elder' (by exact lR HO182.out) (Kd.R_base ho48) hb); replace BK171 := aM (bb BK171.out hb); replace BK172 := aM (bb BK172.out hb); replace BK189 := aM (bb BK189.out hb); replace HB := aM (bj HB.out hb); clear hb ho48; refine hK.out _ _ (cz3 BK171.out) (fun hHeld => ?_); clear hK K; refine nm (some 38) ?_; exact nj (hJ0_1_8 (v181, v184, gb189) _ ⟨hHeld, (by exact lR <| Kd.R_mono HO182.out (fun _ hk => hk.2)), (by exact lR <| Kd.R_mono HO185.out (fun _ hk => hk.2)), (by exact lK BK171.out), (by exact lK BK172.out), (by exact lK BK189.out), GW189.out, GE189.out, NB171_189.out, NB189_171.out, NB172_189.out, NB189_172.out, (by exact jB HB.out)⟩)
        ·skip
         rintro ⟨v181, v184⟩ w47 ⟨hS_, h0_, h1_, h2_, h3_, h4_⟩
         have HO182 : Aside0 (Kd.R (Kd.int .i64) 3 w47 w.heap.size (fun k_ => some k_ ≠ v184.ownBlock) v181 y180) := ⟨h0_⟩
         have HO185 : Aside0 (Kd.R (Kd.int .i64) 3 w47 w.heap.size (fun k_ => some k_ ≠ v181.ownBlock) v184 y183) := ⟨h1_⟩
         replace BK171 : Aside0 (w47.heap[gb171]? = some (.cells #[.slice A0_0 l0_0.length c0_0, .slice A0_1 l0_1.length c0_1, .int .i64 a0_2] 34 (0, 0))) := ⟨h2_⟩
         replace BK172 : Aside0 (w47.heap[gb172]? = some (.cells #[.slice none 0 0, .slice none 0 0, .int .i64 0] 34 (0, 0))) := ⟨h3_⟩
         replace HB : Aside0 (Below w.heap.size w w47) := ⟨h4_⟩
         clear h0_ h1_ h2_ h3_ h4_; have hHeld : w47.cell? ⟨gb171, 0, none⟩ = some (.slice A0_0 l0_0.length c0_0) ∧ w47.cell? ⟨gb171, 1, none⟩ = some (.slice A0_1 l0_1.length c0_1) ∧ w47.cell? ⟨gb171, 2, none⟩ = some (.int .i64 a0_2) := hS_
         refine np ?_; refine tW 4 8 (some 41) (some 5) HT_.out (fun K hK => ?_) (fun K hK => ?_)
         ·skip
          refine Kd.R_append_rows_step (Kd.int .i64) (w0 := w) w.heap.size (by rfl) (.tmp 38) (.tmp 40) 26 3 (.int .i64 0) 8 rfl Try.underlying26 info3 rfl (by decide) (by omega) v184 y183 l0_1 _ _ _ (fun k_ => some k_ ≠ v181.ownBlock) (fun _ => False) rfl rfl ?aO ?aR (fun _ _ h => h) (fun _ h => h.elim) ?aF ?aB ?aS ?aL ?_
          (case aR => exact lC <| (Kd.C_below HR0_1.out HB.out))
          (case aB => exact (by exact jB HB.out))
          (case aF => exact (fun k_ hk => Kd.fresh' (rl HO182.out) k_ hk))
          (case aO => exact (by exact lR HO185.out))
          (case aS => exact (bz HB.out))
          (case aL => have := LMc41.out; omega)
          intro v187 w48 ho hb hg hat; rw [← Ny186.out] at ho
          replace BK171 := aM (blk_grown (g := gb171) (lK BK171.out) hg (Kd.R_ne HO185.out BK171.out (by decide))); replace BK172 := aM (blk_grown (g := gb172) (lK BK172.out) hg (Kd.R_ne HO185.out BK172.out (by decide))); replace HO182 := aM (Kd.R_after (ok := (fun _ => True)) (by exact lR <| Kd.R_mono HO182.out (fun _ hk => ⟨trivial, hk⟩)) hg hat); replace HB := aM (hb); have HO188 := aM (ho); clear HO185 ho hb hg hat; obtain ⟨Ao49, co49, eo49⟩ := Kd.R_slice HO188.out
          (first | subst eo49 | (injection eo49 with f1_ f2_ f3_; have f4_ := f1_.symm; have f5_ := f3_.symm; clear f1_ f2_ f3_; subst f4_; subst f5_))
          obtain ⟨Ao50, co50, eo50⟩ := Kd.R_slice HO182.out
          (first | subst eo50 | (injection eo50 with f1_ f2_ f3_; have f4_ := f1_.symm; have f5_ := f3_.symm; clear f1_ f2_ f3_; subst f4_; subst f5_))
          refine hK.out _ _ (cz3 BK171.out) (fun hHeld => ?_); clear hK K; refine nm (some 41) ?_; refine pu 7 (some 44) HT_.out ?_; exact nj (hJ0_1_4 (.slice Ao50 y180.length co50, v184, .slice Ao49 y186.length co49) _ ⟨hHeld, (by exact lR <| Kd.R_mono HO182.out (fun _ hk => hk.2)), (by exact lR HO188.out), (by exact lK BK171.out), (by exact lK BK172.out), (by exact jB HB.out)⟩)
         ·skip
          refine box_step ?hg (N := 5) ?hd (cs := #[.slice none 0 0, .slice none 0 0, .int .i64 0]) (t := 34) ?hr ?_; (case hd => rfl); (case hg => rfl); (case hr => first | (go_simp; done) | (go_simp; rfl))
          intro gb189 hg w48 hbox hb
          replace HO182 := aM (rb HO182.out hb); replace HO185 := aM (rb HO185.out hb); have BK189 := aM (hbox); have GW189 := aM ((gz hg HB.out)); have IGW189 := wn GW189.out
          have GE189 := aM ((gz hg HB.out)); have IGE189 := wn GE189.out
          replace HB := aM (bj HB.out hb); have NB171_189 := aM ((neL hg (lK BK171.out) : gb171 ≠ gb189)); have NB189_171 := aM ((neG hg (lK BK171.out) : gb189 ≠ gb171)); replace BK171 := aM (bb BK171.out hb); have NB172_189 := aM ((neL hg (lK BK172.out) : gb172 ≠ gb189)); have NB189_172 := aM ((neG hg (lK BK172.out) : gb189 ≠ gb172)); replace BK172 := aM (bb BK172.out hb); clear hb hbox hg; refine hK.out _ _ (cz3 BK171.out) (fun hHeld => ?_); clear hK K; refine nm (some 5) ?_; exact nj (hJ0_1_8 (v181, v184, gb189) _ ⟨hHeld, (by exact lR HO182.out), (by exact lR HO185.out), (by exact lK BK171.out), (by exact lK BK172.out), (by exact lK BK189.out), GW189.out, GE189.out, NB171_189.out, NB189_171.out, NB172_189.out, NB189_172.out, (by exact jB HB.out)⟩)
       ·skip
        rintro ⟨v184, v187, gb189⟩ w47 ⟨hS_, h0_, h1_, h2_, h3_, h4_, h5_, h6_, h7_, h8_, h9_, h10_⟩
        have HO188 : Aside0 (Kd.R (Kd.int .i64) 3 w47 w.heap.size (fun _ => True) v187 y186) := ⟨h0_⟩
        replace BK171 : Aside0 (w47.heap[gb171]? = some (.cells #[.slice A0_0 l0_0.length c0_0, .slice A0_1 l0_1.length c0_1, .int .i64 a0_2] 34 (0, 0))) := ⟨h1_⟩
        replace BK172 : Aside0 (w47.heap[gb172]? = some (.cells #[.slice none 0 0, .slice none 0 0, .int .i64 0] 34 (0, 0))) := ⟨h2_⟩
        have BK189 : Aside0 (w47.heap[gb189]? = some (.cells #[.slice none 0 0, .slice none 0 0, .int .i64 0] 34 (0, 0))) := ⟨h3_⟩
        have GW189 : Aside0 (w.heap.size ≤ gb189) := ⟨h4_⟩
        have IGW189 := wn GW189.out
        have GE189 : Aside0 (w.heap.size ≤ gb189) := ⟨h5_⟩
        have IGE189 := wn GE189.out
        have NB171_189 : Aside0 (gb171 ≠ gb189) := ⟨h6_⟩
        have NB189_171 : Aside0 (gb189 ≠ gb171) := ⟨h7_⟩
        have NB172_189 : Aside0 (gb172 ≠ gb189) := ⟨h8_⟩
        have NB189_172 : Aside0 (gb189 ≠ gb172) := ⟨h9_⟩
        replace HB : Aside0 (Below w.heap.size w w47) := ⟨h10_⟩
        clear h0_ h1_ h2_ h3_ h4_ h5_ h6_ h7_ h8_ h9_ h10_; have hHeld : w47.cell? ⟨gb171, 0, none⟩ = some (.slice A0_0 l0_0.length c0_0) ∧ w47.cell? ⟨gb171, 1, none⟩ = some (.slice A0_1 l0_1.length c0_1) ∧ w47.cell? ⟨gb171, 2, none⟩ = some (.int .i64 a0_2) := hS_
        refine np ?_; refine oN 0 (some 37) HT_.out (fun K hK => ?_); refine rlS 37 [0, 0, 0] [.int .i64 0, .int .i64 0, .int .i64 0] ?_
        intro v181 w48 ho49 hb hg_ hnew_; clear hg_ hnew_
        rw [← Ny180.out] at ho49
        have HO182 := aM (Kd.R_lower (Kd.R_new' ho49 (rl HO188.out)) (bz HB.out)); replace HO188 := aM (Kd.R_elder' (by exact lR HO188.out) (Kd.R_base ho49) hb); replace BK171 := aM (bb BK171.out hb); replace BK172 := aM (bb BK172.out hb); replace BK189 := aM (bb BK189.out hb); replace HB := aM (bj HB.out hb); clear hb ho49; obtain ⟨Ao50, co50, eo50⟩ := Kd.R_slice HO188.out
        (first | subst eo50 | (injection eo50 with f1_ f2_ f3_; have f4_ := f1_.symm; have f5_ := f3_.symm; clear f1_ f2_ f3_; subst f4_; subst f5_))
        obtain ⟨Ao51, co51, eo51⟩ := Kd.R_slice HO182.out
        (first | subst eo51 | (injection eo51 with f1_ f2_ f3_; have f4_ := f1_.symm; have f5_ := f3_.symm; clear f1_ f2_ f3_; subst f4_; subst f5_))
        refine hK.out _ _ (cz3 BK171.out) (fun hHeld => ?_); clear hK K; refine nm (some 37) ?_; refine pu 7 (some 44) HT_.out ?_; exact nj (hJ0_1_4_8 (.slice Ao51 y180.length co51, v184, .slice Ao50 y186.length co50, gb189) _ ⟨hHeld, (by exact lR <| Kd.R_mono HO182.out (fun _ hk => hk.2)), (by exact lR <| Kd.R_mono HO188.out (fun _ hk => hk.2)), (by exact lK BK171.out), (by exact lK BK172.out), (by exact lK BK189.out), GW189.out, GE189.out, NB171_189.out, NB189_171.out, NB172_189.out, NB189_172.out, (by exact jB HB.out)⟩)
      ·skip
       rintro ⟨v181, v184, gb189⟩ w48 ⟨hS_, h0_, h1_, h2_, h3_, h4_, h5_, h6_, h7_, h8_, h9_, h10_, h11_⟩
       have HO182 : Aside0 (Kd.R (Kd.int .i64) 3 w48 w.heap.size (fun k_ => some k_ ≠ v184.ownBlock) v181 y180) := ⟨h0_⟩
       have HO185 : Aside0 (Kd.R (Kd.int .i64) 3 w48 w.heap.size (fun k_ => some k_ ≠ v181.ownBlock) v184 y183) := ⟨h1_⟩
       replace BK171 : Aside0 (w48.heap[gb171]? = some (.cells #[.slice A0_0 l0_0.length c0_0, .slice A0_1 l0_1.length c0_1, .int .i64 a0_2] 34 (0, 0))) := ⟨h2_⟩
       replace BK172 : Aside0 (w48.heap[gb172]? = some (.cells #[.slice none 0 0, .slice none 0 0, .int .i64 0] 34 (0, 0))) := ⟨h3_⟩
       have BK189 : Aside0 (w48.heap[gb189]? = some (.cells #[.slice none 0 0, .slice none 0 0, .int .i64 0] 34 (0, 0))) := ⟨h4_⟩
       have GW189 : Aside0 (w.heap.size ≤ gb189) := ⟨h5_⟩
       have IGW189 := wn GW189.out
       have GE189 : Aside0 (w.heap.size ≤ gb189) := ⟨h6_⟩
       have IGE189 := wn GE189.out
       have NB171_189 : Aside0 (gb171 ≠ gb189) := ⟨h7_⟩
       have NB189_171 : Aside0 (gb189 ≠ gb171) := ⟨h8_⟩
       have NB172_189 : Aside0 (gb172 ≠ gb189) := ⟨h9_⟩
       have NB189_172 : Aside0 (gb189 ≠ gb172) := ⟨h10_⟩
       replace HB : Aside0 (Below w.heap.size w w48) := ⟨h11_⟩
       clear h0_ h1_ h2_ h3_ h4_ h5_ h6_ h7_ h8_ h9_ h10_ h11_; have hHeld : w48.cell? ⟨gb171, 0, none⟩ = some (.slice A0_0 l0_0.length c0_0) ∧ w48.cell? ⟨gb171, 1, none⟩ = some (.slice A0_1 l0_1.length c0_1) ∧ w48.cell? ⟨gb171, 2, none⟩ = some (.int .i64 a0_2) := hS_
       refine np ?_; refine oN 4 (some 41) HT_.out (fun K hK => ?_); refine Kd.R_append_rows_step (Kd.int .i64) (w0 := w) w.heap.size (by rfl) (.tmp 38) (.tmp 40) 26 3 (.int .i64 0) 8 rfl Try.underlying26 info3 rfl (by decide) (by omega) v184 y183 l0_1 _ _ _ (fun k_ => some k_ ≠ v181.ownBlock) (fun _ => False) rfl rfl ?aO ?aR (fun _ _ h => h) (fun _ h => h.elim) ?aF ?aB ?aS ?aL ?_
       (case aR => exact lC <| (Kd.C_below HR0_1.out HB.out))
       (case aB => exact (by exact jB HB.out))
       (case aF => exact (fun k_ hk => Kd.fresh' (rl HO182.out) k_ hk))
       (case aO => exact (by exact lR HO185.out))
       (case aS => exact (bz HB.out))
       (case aL => have := LMc41.out; omega)
       intro v187 w49 ho hb hg hat; rw [← Ny186.out] at ho
       replace BK171 := aM (blk_grown (g := gb171) (lK BK171.out) hg (Kd.R_ne HO185.out BK171.out (by decide))); replace BK172 := aM (blk_grown (g := gb172) (lK BK172.out) hg (Kd.R_ne HO185.out BK172.out (by decide))); replace HO182 := aM (Kd.R_after (ok := (fun _ => True)) (by exact lR <| Kd.R_mono HO182.out (fun _ hk => ⟨trivial, hk⟩)) hg hat); replace BK189 := aM (blk_grown (g := gb189) (lK BK189.out) hg (Kd.R_ne HO185.out BK189.out (by decide))); replace HB := aM (hb); have HO188 := aM (ho); clear HO185 ho hb hg hat; obtain ⟨Ao50, co50, eo50⟩ := Kd.R_slice HO188.out
       (first | subst eo50 | (injection eo50 with f1_ f2_ f3_; have f4_ := f1_.symm; have f5_ := f3_.symm; clear f1_ f2_ f3_; subst f4_; subst f5_))
       obtain ⟨Ao51, co51, eo51⟩ := Kd.R_slice HO182.out
       (first | subst eo51 | (injection eo51 with f1_ f2_ f3_; have f4_ := f1_.symm; have f5_ := f3_.symm; clear f1_ f2_ f3_; subst f4_; subst f5_))
       refine hK.out _ _ (cz3 BK171.out) (fun hHeld => ?_); clear hK K; refine nm (some 41) ?_; refine pu 7 (some 44) HT_.out ?_; exact nj (hJ0_1_4_8 (.slice Ao51 y180.length co51, v184, .slice Ao50 y186.length co50, gb189) _ ⟨hHeld, (by exact lR <| Kd.R_mono HO182.out (fun _ hk => hk.2)), (by exact lR HO188.out), (by exact lK BK171.out), (by exact lK BK172.out), (by exact lK BK189.out), GW189.out, GE189.out, NB171_189.out, NB189_171.out, NB172_189.out, NB189_172.out, (by exact jB HB.out)⟩)
     ·skip
      rintro ⟨v181, v184, v187⟩ w50 ⟨hS_, h0_, h1_, h2_, h3_, h4_⟩
      have HO182 : Aside0 (Kd.R (Kd.int .i64) 3 w50 w.heap.size (fun k_ => some k_ ≠ v187.ownBlock) v181 y180) := ⟨h0_⟩
      have HO188 : Aside0 (Kd.R (Kd.int .i64) 3 w50 w.heap.size (fun k_ => some k_ ≠ v181.ownBlock) v187 y186) := ⟨h1_⟩
      replace BK171 : Aside0 (w50.heap[gb171]? = some (.cells #[.slice A0_0 l0_0.length c0_0, .slice A0_1 l0_1.length c0_1, .int .i64 a0_2] 34 (0, 0))) := ⟨h2_⟩
      replace BK172 : Aside0 (w50.heap[gb172]? = some (.cells #[.slice none 0 0, .slice none 0 0, .int .i64 0] 34 (0, 0))) := ⟨h3_⟩
      replace HB : Aside0 (Below w.heap.size w w50) := ⟨h4_⟩
      clear h0_ h1_ h2_ h3_ h4_; have hHeld : w50.cell? ⟨gb171, 0, none⟩ = some (.slice A0_0 l0_0.length c0_0) ∧ w50.cell? ⟨gb171, 1, none⟩ = some (.slice A0_1 l0_1.length c0_1) ∧ w50.cell? ⟨gb171, 2, none⟩ = some (.int .i64 a0_2) := hS_
      obtain ⟨Ao51, co51, eo51⟩ := Kd.R_slice HO188.out
      (first | subst eo51 | (injection eo51 with f1_ f2_ f3_; have f4_ := f1_.symm; have f5_ := f3_.symm; clear f1_ f2_ f3_; subst f4_; subst f5_))
      obtain ⟨Ao52, co52, eo52⟩ := Kd.R_slice HO182.out
      (first | subst eo52 | (injection eo52 with f1_ f2_ f3_; have f4_ := f1_.symm; have f5_ := f3_.symm; clear f1_ f2_ f3_; subst f4_; subst f5_))
      refine np ?_; refine oN 8 (some 5) HT_.out (fun K hK => ?_); refine box_step ?hg (N := 5) ?hd (cs := #[.slice none 0 0, .slice none 0 0, .int .i64 0]) (t := 34) ?hr ?_; (case hd => rfl); (case hg => rfl); (case hr => first | (go_simp; done) | (go_simp; rfl))
      intro gb189 hg w53 hbox hb
      replace HO182 := aM (rb HO182.out hb); replace HO188 := aM (rb HO188.out hb); have BK189 := aM (hbox); have GW189 := aM ((gz hg HB.out)); have IGW189 := wn GW189.out
      have GE189 := aM ((gz hg HB.out)); have IGE189 := wn GE189.out
      replace HB := aM (bj HB.out hb); have NB171_189 := aM ((neL hg (lK BK171.out) : gb171 ≠ gb189)); have NB189_171 := aM ((neG hg (lK BK171.out) : gb189 ≠ gb171)); replace BK171 := aM (bb BK171.out hb); have NB172_189 := aM ((neL hg (lK BK172.out) : gb172 ≠ gb189)); have NB189_172 := aM ((neG hg (lK BK172.out) : gb189 ≠ gb172)); replace BK172 := aM (bb BK172.out hb); clear hb hbox hg; refine hK.out _ _ (cz3 BK171.out) (fun hHeld => ?_); clear hK K; refine nm (some 5) ?_; exact nj (hJ0_1_4_8 (.slice Ao52 y180.length co52, v184, .slice Ao51 y186.length co51, gb189) _ ⟨hHeld, (by exact lR HO182.out), (by exact lR HO188.out), (by exact lK BK171.out), (by exact lK BK172.out), (by exact lK BK189.out), GW189.out, GE189.out, NB171_189.out, NB189_171.out, NB172_189.out, NB189_172.out, (by exact jB HB.out)⟩)
    rintro ⟨v181, v184, v187, gb189⟩ w51 ⟨hS_, h0_, h1_, h2_, h3_, h4_, h5_, h6_, h7_, h8_, h9_, h10_, h11_⟩
    have HO182 : Aside0 (Kd.R (Kd.int .i64) 3 w51 w.heap.size (fun k_ => some k_ ≠ v187.ownBlock) v181 y180) := ⟨h0_⟩
    have HO188 : Aside0 (Kd.R (Kd.int .i64) 3 w51 w.heap.size (fun k_ => some k_ ≠ v181.ownBlock) v187 y186) := ⟨h1_⟩
    replace BK171 : Aside0 (w51.heap[gb171]? = some (.cells #[.slice A0_0 l0_0.length c0_0, .slice A0_1 l0_1.length c0_1, .int .i64 a0_2] 34 (0, 0))) := ⟨h2_⟩
    replace BK172 : Aside0 (w51.heap[gb172]? = some (.cells #[.slice none 0 0, .slice none 0 0, .int .i64 0] 34 (0, 0))) := ⟨h3_⟩
    have BK189 : Aside0 (w51.heap[gb189]? = some (.cells #[.slice none 0 0, .slice none 0 0, .int .i64 0] 34 (0, 0))) := ⟨h4_⟩
    have GW189 : Aside0 (w.heap.size ≤ gb189) := ⟨h5_⟩
    have IGW189 := wn GW189.out
    have GE189 : Aside0 (w.heap.size ≤ gb189) := ⟨h6_⟩
    have IGE189 := wn GE189.out
    have NB171_189 : Aside0 (gb171 ≠ gb189) := ⟨h7_⟩
    have NB189_171 : Aside0 (gb189 ≠ gb171) := ⟨h8_⟩
    have NB172_189 : Aside0 (gb172 ≠ gb189) := ⟨h9_⟩
    have NB189_172 : Aside0 (gb189 ≠ gb172) := ⟨h10_⟩
    replace HB : Aside0 (Below w.heap.size w w51) := ⟨h11_⟩
    clear h0_ h1_ h2_ h3_ h4_ h5_ h6_ h7_ h8_ h9_ h10_ h11_; have hHeld : w51.cell? ⟨gb171, 0, none⟩ = some (.slice A0_0 l0_0.length c0_0) ∧ w51.cell? ⟨gb171, 1, none⟩ = some (.slice A0_1 l0_1.length c0_1) ∧ w51.cell? ⟨gb171, 2, none⟩ = some (.int .i64 a0_2) := hS_
    obtain ⟨Ao52, co52, eo52⟩ := Kd.R_slice HO188.out
    (first | subst eo52 | (injection eo52 with f1_ f2_ f3_; have f4_ := f1_.symm; have f5_ := f3_.symm; clear f1_ f2_ f3_; subst f4_; subst f5_))
    obtain ⟨Ao53, co53, eo53⟩ := Kd.R_slice HO182.out
    (first | subst eo53 | (injection eo53 with f1_ f2_ f3_; have f4_ := f1_.symm; have f5_ := f3_.symm; clear f1_ f2_ f3_; subst f4_; subst f5_))
    refine np ?_; refine oN 9 (none) HT_.out (fun K hK => ?_); have hs54 : w51.cell? ⟨gb189, 0, none⟩ = some (.slice none 0 0) := (blk_cell BK189.out 0).trans rfl
    have hfs54 := blk_frozen BK189.out 0
    have hns54_0 := NB171_189.out
    have hns54_1 := NB172_189.out
    have hms54_0 := NB189_171.out
    have hms54_1 := NB189_172.out
    have hs55 : w51.cell? ⟨gb189, 1, none⟩ = some (.slice none 0 0) := (blk_cell BK189.out 1).trans rfl
    have hfs55 := blk_frozen BK189.out 1
    have hns55_0 := NB171_189.out
    have hns55_1 := NB172_189.out
    have hms55_0 := NB189_171.out
    have hms55_1 := NB189_172.out
    have hs56 : w51.cell? ⟨gb189, 2, none⟩ = some (.int .i64 0) := (blk_cell BK189.out 2).trans rfl
    have hfs56 := blk_frozen BK189.out 2
    have hns56_0 := NB171_189.out
    have hns56_1 := NB172_189.out
    have hms56_0 := NB189_171.out
    have hms56_1 := NB189_172.out
    refine skip_ (w1 := ?_) (by rfl) rfl ?_ ?_
    rotate_left
    ·go_simp
     rfl
    refine hK.out _ _ ⟨((cell_far (p := ⟨gb189, _, none⟩) NB171_189.out _).trans (((cell_far (p := ⟨gb189, _, none⟩) NB171_189.out _).trans (((cell_far (p := ⟨gb189, _, none⟩) NB171_189.out _).trans (hHeld.1)))))), ((cell_far (p := ⟨gb189, _, none⟩) NB171_189.out _).trans (((cell_far (p := ⟨gb189, _, none⟩) NB171_189.out _).trans (((cell_far (p := ⟨gb189, _, none⟩) NB171_189.out _).trans (hHeld.2.1)))))), ((cell_far (p := ⟨gb189, _, none⟩) NB171_189.out _).trans (((cell_far (p := ⟨gb189, _, none⟩) NB171_189.out _).trans (((cell_far (p := ⟨gb189, _, none⟩) NB171_189.out _).trans (hHeld.2.2))))))⟩ (fun hHeld => ?_); clear hK K; refine done_ (done_of HT_.out (by kernel_rfl)) ?_
    try go_wp2
    go_loopg [6] kj2 (fun kq v6 w' => ∃ (x6_2 : Int) (x190000_2 : List Int) (x190001_2 : List Int) (x190002_2 : Int) (u190000 : Value) (u190001 : Value), v6 = .int .i64 x6_2 ∧ Aside0 (spec_FrmInto.l0 kq l1 x6_2 l0_0 l0_1 a0_2 x190000_2 x190001_2 x190002_2 = some (r1, r2, r3)) ∧ Aside0 (kq ≤ kj2) ∧ Aside0 (Kd.R (Kd.int .i64) 3 w' w.heap.size (fun k_ => some k_ ≠ (u190001 : Value).ownBlock) u190000 x190000_2) ∧ Aside0 (Kd.R (Kd.int .i64) 3 w' w.heap.size (fun k_ => some k_ ≠ (u190000 : Value).ownBlock) u190001 x190001_2) ∧ Aside0 (w'.heap[gb171]? = some (.cells #[(.slice A0_0 l0_0.length c0_0), (.slice A0_1 l0_1.length c0_1), .int .i64 a0_2] 34 (0, 0))) ∧ Aside0 (w'.heap[gb172]? = some (.cells #[(.slice none 0 0), (.slice none 0 0), .int .i64 0] 34 (0, 0))) ∧ Aside0 (w'.heap[gb189]? = some (.cells #[u190000, u190001, .int .i64 x190002_2] 34 (0, 0))) ∧ Aside0 (Below w.heap.size w w'))
    case atStart => exact ⟨(0), (y180), (y186), (a0_2), (.slice Ao53 y180.length co53), (.slice Ao52 y186.length co52), sr, H', ⟨Nat.le_refl _⟩, ⟨by (with_reducible repeat (first | apply ra | apply rn | apply re)); exact R3 HO182.out BK189.out⟩, ⟨by (with_reducible repeat (first | apply ra | apply rn | apply re)); exact R3 HO188.out BK189.out⟩, ⟨by exact f3 (lK BK171.out) NB171_189.out⟩, ⟨by exact f3 (lK BK172.out) NB172_189.out⟩, ⟨by exact p3 (lK BK189.out)⟩, ⟨by exact jB HB.out⟩⟩
    case round =>
     clear H'
     (try clear p2); (try clear c4); (try clear c41)
     obtain ⟨x6_2, x190000_2, x190001_2, x190002_2, u190000, u190001, rfl, HA, HK2, HO_190000, HO_190001, BK171, BK172, BK189, HB⟩ := hrel
     cases gk with
     | zero => exact absurd HA.out (by simp [spec_FrmInto.l0])
     | succ k2 =>
      have H := HA.out
      clear HA; simp only [spec_FrmInto.l0] at H
      by_cases c57 : x6_2 < 3
      ·rw [if_pos c57] at H; replace c57 := decide_eq_true c57; obtain ⟨c58, H⟩ := iD H; obtain ⟨c59, H⟩ := iD H; obtain ⟨c60, H⟩ := iD H; obtain ⟨⟨t192, t195, t198⟩, A61, H⟩ := bS H
       try dsimp only at H
       have H' := aM H
       clear H
       try go_wp2
       replace HO_190000 := aM (Kd.R_drew HO_190000.out); replace HO_190001 := aM (Kd.R_drew HO_190001.out); replace BK171 := aM (blk_drew BK171.out); replace BK172 := aM (blk_drew BK172.out); replace BK189 := aM (blk_drew BK189.out); replace HB := aM (below_drew1 HB.out); have p190 : 0 ≤ (x6_2 : Int) := od; have q190 : x6_2 < (l1.length : Int) := od; obtain ⟨ad190, A190_0, c190_0, A190_1, c190_1, e190, hx190_0, hx190_1, hx190_2, hl190_0, hi190_0, hl190_1, hi190_1⟩ := at_T34 HR1.out x6_2 p190 q190
       have hw190_2 := hx190_2
       have hw190_1 := hx190_1
       have hw190_0 := hx190_0
       cases e190; replace hx190_0 := cl HB.out hx190_0; replace hx190_1 := cl HB.out hx190_1; replace hx190_2 := cl HB.out hx190_2; have HR190_0 := aM hi190_0; have HC190_0 := aM hl190_0; clear hi190_0 hl190_0; have HR190_1 := aM hi190_1; have HC190_1 := aM hl190_1; clear hi190_1 hl190_1; replace p190 := eq_true p190; replace q190 := eq_true q190; have p191 : 0 ≤ (x6_2 : Int) := od; have q191 : x6_2 < (l0_0.length : Int) := od; obtain ⟨ad191, e191, hx191_0⟩ := Kd.at_int HR0_0.out x6_2 p191 q191
       have hw191_0 := hx191_0
       cases e191; replace hx191_0 := cl HB.out hx191_0; replace p191 := eq_true p191; replace q191 := eq_true q191; obtain ⟨Ao63, co63, eo63⟩ := Kd.R_slice HO_190000.out
       (first | subst eo63 | (injection eo63 with f1_ f2_ f3_; have f4_ := f1_.symm; have f5_ := f3_.symm; clear f1_ f2_ f3_; subst f4_; subst f5_))
       obtain ⟨Ao64, co64, eo64⟩ := Kd.R_slice HO_190001.out
       (first | subst eo64 | (injection eo64 with f1_ f2_ f3_; have f4_ := f1_.symm; have f5_ := f3_.symm; clear f1_ f2_ f3_; subst f4_; subst f5_))
       refine start_ (n := 12) (S := fun w' => w'.cell? ⟨gb189, 0, none⟩ = some (.slice Ao63 x190000_2.length co63) ∧ w'.cell? ⟨gb189, 1, none⟩ = some (.slice Ao64 x190001_2.length co64) ∧ w'.cell? ⟨gb189, 2, none⟩ = some (.int .i64 x190002_2) ∧ w'.cell? ⟨gb171, 0, none⟩ = some (.slice (some ad191) l0_0.length c0_0) ∧ w'.cell? ⟨gb171, 1, none⟩ = some (.slice A0_1 l0_1.length c0_1) ∧ w'.cell? ⟨gb171, 2, none⟩ = some (.int .i64 a0_2) ∧ w'.cell? (ad190.add ((x6_2).toNat * 3)) = some (.slice A190_0 ((rd_T34 l1 x6_2).f0).length c190_0) ∧ w'.cell? ⟨(ad190.add ((x6_2).toNat * 3)).block, (ad190.add ((x6_2).toNat * 3)).off + 1, none⟩ = some (.slice A190_1 ((rd_T34 l1 x6_2).f1).length c190_1) ∧ w'.cell? ⟨(ad190.add ((x6_2).toNat * 3)).block, (ad190.add ((x6_2).toNat * 3)).off + 2, none⟩ = some (.int .i64 ((rd_T34 l1 x6_2).f2)) ∧ w'.cell? (ad191.add (x6_2).toNat) = some (.int .i64 (rd l0_0 x6_2))) (ds := [11]) #[false, false, false, false, false, false, false, false, false, false, false, false] (by kernel_rfl) rfl rfl ⟨(blk_cell BK189.out 0).trans rfl, (blk_cell BK189.out 1).trans rfl, (blk_cell BK189.out 2).trans rfl, (blk_cell BK171.out 0).trans rfl, (blk_cell BK171.out 1).trans rfl, (blk_cell BK171.out 2).trans rfl, (cl HB.out hw190_0), (cl HB.out hw190_1), (cl HB.out hw190_2), (cl HB.out hw191_0)⟩ (fun hHeld => ?_); refine with_tabW spec_FrmInto.tab7 spec_FrmInto.bits7 (fun HT_ HW_ => ?_)
       generalize wr.drew = w62 at HO_190000 HO_190001 BK171 BK172 BK189 HB HR190_0 HR190_1 hx190_0 hx190_1 hx190_2 hx191_0 hHeld ⊢
       refine pu 1 (some 50) HT_.out ?_; refine pu 2 (some 51) HT_.out ?_; refine pu 3 (some 52) HT_.out ?_; refine pu 5 (some 54) HT_.out ?_; refine pu 7 (some 56) HT_.out ?_; refine tk 0 (some 49) HT_.out HW_.out hHeld ?_; refine tk 4 (some 53) HT_.out HW_.out hHeld ?_; refine tk 6 (some 55) HT_.out HW_.out hHeld ?_; refine pu 8 (some 57) HT_.out ?_; refine tk 9 (some 58) HT_.out HW_.out hHeld ?_; refine oN 10 (some 59) HT_.out (fun K hK => ?_); refine gO Try.func92 #[.agg #[.slice Ao63 x190000_2.length co63, .slice Ao64 x190001_2.length co64, .int .i64 x190002_2], .agg #[.slice A190_0 ((rd_T34 l1 x6_2).f0).length c190_0, .slice A190_1 ((rd_T34 l1 x6_2).f1).length c190_1, .int .i64 ((rd_T34 l1 x6_2).f2)], .int .i64 (rd l0_0 x6_2)] ?_; with_reducible refine (spec_l1Sum.calls k2 _ _ x190000_2 _ _ x190001_2 x190002_2 _ _ ((rd_T34 l1 x6_2).f0) _ _ ((rd_T34 l1 x6_2).f1) ((rd_T34 l1 x6_2).f2) (rd l0_0 x6_2) t192 t195 t198 _ (by exact lC <| (Kd.R_reads' HO_190000.out).2.2) (by exact (Kd.R_reads' HO_190000.out).2.1) (by exact lC <| (Kd.R_reads' HO_190001.out).2.2) (by exact (Kd.R_reads' HO_190001.out).2.1) (by exact lC <| (Kd.C_below HR190_0.out HB.out)) HC190_0.out (by exact lC <| (Kd.C_below HR190_1.out HB.out)) HC190_1.out A61.out).mono ?_
       rintro e w65 ⟨v193, v196, rfl, ho0, ho1, hb⟩; refine ⟨_, rfl, ?_⟩; have HO194 := aM (Kd.R_lower (Kd.R_new' (Kd.R_new' ho0 (rl HO_190000.out)) (rl HO_190001.out)) (bz HB.out)); have HO197 := aM (Kd.R_lower (Kd.R_new' (Kd.R_new' ho1 (rl HO_190000.out)) (rl HO_190001.out)) (bz HB.out)); replace HO_190000 := aM (o2 HO_190000.out hb ho0 ho1); replace HO_190001 := aM (o2 HO_190001.out hb ho0 ho1); replace BK171 := aM (bb BK171.out hb); replace BK172 := aM (bb BK172.out hb); replace BK189 := aM (bb BK189.out hb); replace HB := aM (bj HB.out hb); clear hb ho0; (try clear ho1); obtain ⟨Ao66, co66, eo66⟩ := Kd.R_slice HO194.out
       (first | subst eo66 | (injection eo66 with f1_ f2_ f3_; have f4_ := f1_.symm; have f5_ := f3_.symm; clear f1_ f2_ f3_; subst f4_; subst f5_))
       obtain ⟨Ao68, co68, eo68⟩ := Kd.R_slice HO197.out
       (first | subst eo68 | (injection eo68 with f1_ f2_ f3_; have f4_ := f1_.symm; have f5_ := f3_.symm; clear f1_ f2_ f3_; subst f4_; subst f5_))
       refine hK.out _ _ ⟨(blk_cell BK189.out 0).trans rfl, (blk_cell BK189.out 1).trans rfl, (blk_cell BK189.out 2).trans rfl, (blk_cell BK171.out 0).trans rfl, (blk_cell BK171.out 1).trans rfl, (blk_cell BK171.out 2).trans rfl, (cl HB.out hw190_0), (cl HB.out hw190_1), (cl HB.out hw190_2), (cl HB.out hw191_0)⟩ (fun hHeld => ?_); clear hK K; refine nm (some 59) ?_; refine last_ (i := 11) (N := none) #[true, true, true, true, true, true, true, true, true, true, true, true] rfl rfl (one_of HT_.out (by kernel_rfl)) (by decide) (fun K hK => ?_)
       have hs67 : w65.cell? ⟨gb189, 0, none⟩ = some (.slice Ao63 x190000_2.length co63) := (blk_cell BK189.out 0).trans rfl
       have hfs67 := blk_frozen BK189.out 0
       have hns67_0 := NB171_189.out
       have hns67_1 := NB172_189.out
       have hms67_0 := NB189_171.out
       have hms67_1 := NB189_172.out
       have hs69 : w65.cell? ⟨gb189, 1, none⟩ = some (.slice Ao64 x190001_2.length co64) := (blk_cell BK189.out 1).trans rfl
       have hfs69 := blk_frozen BK189.out 1
       have hns69_0 := NB171_189.out
       have hns69_1 := NB172_189.out
       have hms69_0 := NB189_171.out
       have hms69_1 := NB189_172.out
       have hs70 : w65.cell? ⟨gb189, 2, none⟩ = some (.int .i64 x190002_2) := (blk_cell BK189.out 2).trans rfl
       have hfs70 := blk_frozen BK189.out 2
       have hns70_0 := NB171_189.out
       have hns70_1 := NB172_189.out
       have hms70_0 := NB189_171.out
       have hms70_1 := NB189_172.out
       refine skip_ (w1 := ?_) (by rfl) rfl ?_ ?_
       rotate_left
       ·go_simp
        rfl
       refine hK.out _ _ ?_
       clear hK K; refine done_ (done_of HT_.out (by kernel_rfl)) ?_
       try go_wp2
       go_roundg k2
       case measure => have := HJ2.out; have := HK2.out; omega
       case rel => exact ⟨(wrap64 (x6_2 + 1)), (t192), (t195), (t198), (.slice Ao66 t192.length co66), (.slice Ao68 t195.length co68), sr, H', ⟨by have := HJ2.out; have := HK2.out; omega⟩, ⟨by (with_reducible repeat first | apply ra | apply rn | apply re); exact Kd.R_mono (R3 HO194.out BK189.out) (fun _ hk => hk.1.1)⟩, ⟨by (with_reducible repeat first | apply ra | apply rn | apply re); exact Kd.R_mono (R3 HO197.out BK189.out) (fun _ hk => hk.1.1)⟩, ⟨by exact f3 (lK BK171.out) NB171_189.out⟩, ⟨by exact f3 (lK BK172.out) NB172_189.out⟩, ⟨by exact p3 (lK BK189.out)⟩, ⟨by exact jB HB.out⟩⟩
      ·rw [if_neg c57] at H; replace c57 := decide_eq_false c57; obtain ⟨t199, A71, H⟩ := bS H
       try dsimp only at H
       by_cases c72 : t199 = true
       ·subst c72; rw [if_pos rfl] at H
        try dsimp only at H
        simp only [Option.some.injEq, Prod.mk.injEq] at H
        obtain ⟨rfl, rfl, rfl⟩ := H
        have hnb73 := NB189_171.out
        have hnc73 := NB171_189.out
        have hnb74 := NB189_172.out
        have hnc74 := NB172_189.out
        obtain ⟨hcz75_0, hcz75_1, hcz75_2, hfz75_0, hfz75_1, hfz75_2⟩ := cf3 BK189.out
        obtain ⟨Ao76, co76, eo76⟩ := Kd.R_slice HO_190000.out; subst eo76; obtain ⟨Ao77, co77, eo77⟩ := Kd.R_slice HO_190001.out; subst eo77; go_wp2_with (first | (refine gL (some 61) Try.func68 #[.agg #[.slice Ao76 x190000_2.length co76, .slice Ao77 x190001_2.length co77, .int .i64 x190002_2]] ?_; (with_reducible refine (spec_FrmOk.calls k2 _ _ x190000_2 _ _ x190001_2 x190002_2 true _ (by exact lC <| (Kd.R_reads' HO_190000.out).2.2) (by exact (Kd.R_reads' HO_190000.out).2.1) (by exact lC <| (Kd.R_reads' HO_190001.out).2.2) (by exact (Kd.R_reads' HO_190001.out).2.1) A71.out).mono ?_); rintro e w78 ⟨rfl, hb⟩; refine ⟨_, rfl, ?_⟩; replace HO_190000 := aM (rb HO_190000.out hb); replace HO_190001 := aM (rb HO_190001.out hb); replace BK171 := aM (bb BK171.out hb); replace BK172 := aM (bb BK172.out hb); replace BK189 := aM (bb BK189.out hb); replace HB := aM (bj HB.out hb); (try clear hb); obtain ⟨hcz79_0, hcz79_1, hcz79_2, hfz79_0, hfz79_1, hfz79_2⟩ := cf3 BK189.out; have hnb80 := NB172_171.out; have hnc80 := NB171_172.out; obtain ⟨hcz81_0, hcz81_1, hcz81_2, hfz81_0, hfz81_1, hfz81_2⟩ := cf3 BK172.out))
        refine bodyPost_ret (results_cell_row rfl _ _ gb172 34 #[.slice Ao76 x190000_2.length co76, .slice Ao77 x190001_2.length co77, .int .i64 x190002_2] (0, 0) _ rfl (by exact p3 (lK BK172.out)) Try.underlying34 rfl (by kernel_rfl)) rfl ?_
        exact ⟨_, _, er, by exact lR <| Kd.R_mono (Kd.R_far (p := ⟨gb172, 2, none⟩) (Kd.R_far (p := ⟨gb172, 1, none⟩) (Kd.R_far (p := ⟨gb172, 0, none⟩) (Kd.R_types HO_190000.out BK172.out (by decide)) (fun _ hk => by first | exact hk.2 | exact fun e_ => hk.2 (e_.trans (ob _ _ _ _))) (.slice Ao76 x190000_2.length co76)) (fun _ hk => by first | exact hk.2 | exact fun e_ => hk.2 (e_.trans (ob _ _ _ _))) (.slice Ao77 x190001_2.length co77)) (fun _ hk => by first | exact hk.2 | exact fun e_ => hk.2 (e_.trans (ob _ _ _ _))) (.int .i64 x190002_2)) (fun _ hk => by first | exact hk.1 | exact fun e_ => hk.1 (e_.trans (ob _ _ _ _))), by exact lR <| Kd.R_mono (Kd.R_far (p := ⟨gb172, 2, none⟩) (Kd.R_far (p := ⟨gb172, 1, none⟩) (Kd.R_far (p := ⟨gb172, 0, none⟩) (Kd.R_types HO_190001.out BK172.out (by decide)) (fun _ hk => by first | exact hk.2 | exact fun e_ => hk.2 (e_.trans (ob _ _ _ _))) (.slice Ao76 x190000_2.length co76)) (fun _ hk => by first | exact hk.2 | exact fun e_ => hk.2 (e_.trans (ob _ _ _ _))) (.slice Ao77 x190001_2.length co77)) (fun _ hk => by first | exact hk.2 | exact fun e_ => hk.2 (e_.trans (ob _ _ _ _))) (.int .i64 x190002_2)) (fun _ hk => by first | exact hk.1 | exact fun e_ => hk.1 (e_.trans (ob _ _ _ _))), by exact jB HB.out⟩
       ·replace c72 := Bool.eq_false_iff.mpr c72
        subst c72; rw [if_neg nf] at H
        try dsimp only at H
        simp only [Option.some.injEq, Prod.mk.injEq] at H
        obtain ⟨rfl, rfl, rfl⟩ := H
        have hnb82 := NB189_171.out
        have hnc82 := NB171_189.out
        have hnb83 := NB189_172.out
        have hnc83 := NB172_189.out
        obtain ⟨hcz84_0, hcz84_1, hcz84_2, hfz84_0, hfz84_1, hfz84_2⟩ := cf3 BK189.out
        obtain ⟨Ao85, co85, eo85⟩ := Kd.R_slice HO_190000.out; subst eo85; obtain ⟨Ao86, co86, eo86⟩ := Kd.R_slice HO_190001.out; subst eo86; go_wp2_with (first | (refine gL (some 61) Try.func68 #[.agg #[.slice Ao85 x190000_2.length co85, .slice Ao86 x190001_2.length co86, .int .i64 x190002_2]] ?_; (with_reducible refine (spec_FrmOk.calls k2 _ _ x190000_2 _ _ x190001_2 x190002_2 false _ (by exact lC <| (Kd.R_reads' HO_190000.out).2.2) (by exact (Kd.R_reads' HO_190000.out).2.1) (by exact lC <| (Kd.R_reads' HO_190001.out).2.2) (by exact (Kd.R_reads' HO_190001.out).2.1) A71.out).mono ?_); rintro e w87 ⟨rfl, hb⟩; refine ⟨_, rfl, ?_⟩; replace HO_190000 := aM (rb HO_190000.out hb); replace HO_190001 := aM (rb HO_190001.out hb); replace BK171 := aM (bb BK171.out hb); replace BK172 := aM (bb BK172.out hb); replace BK189 := aM (bb BK189.out hb); replace HB := aM (bj HB.out hb); (try clear hb); have hnb88 := NB172_171.out; have hnc88 := NB171_172.out; obtain ⟨hcz89_0, hcz89_1, hcz89_2, hfz89_0, hfz89_1, hfz89_2⟩ := cf3 BK172.out))
        refine bodyPost_ret (results_cell_row rfl _ _ gb172 34 #[.slice none 0 0, .slice none 0 0, .int .i64 0] (0, 0) _ rfl (by exact p3 (lK BK172.out)) Try.underlying34 rfl (by kernel_rfl)) rfl ?_
        exact ⟨_, _, er, by first | exact Kd.R_nil _ _ _ _ _ | exact Kd.N_nil _ _ _ _ _ | exact Kd.V_nil _ _ _ _ _ | exact Kd.Q_nil _ _ _ _ _ | exact Kd.S_nil _ _ _ _ _, by first | exact Kd.R_nil _ _ _ _ _ | exact Kd.N_nil _ _ _ _ _ | exact Kd.V_nil _ _ _ _ _ | exact Kd.Q_nil _ _ _ _ _ | exact Kd.S_nil _ _ _ _ _, by exact jB HB.out⟩
end Go.Proofs.Ytcpaplcnebdocaa.QFnRowDo
-- shorter
