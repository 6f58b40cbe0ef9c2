/- Plain functions, and that the Go code computes them: written by a program of this session over the seat's translation; the conditions stand in each theorem. -/
import Derived.Test.YtfbdjimcjoddgaaQFnExactFrmIntox0
import Derived.Test.YtfbdjimcjoddgaaQFnExactFrmIntox5
namespace Go.Proofs.Ytfbdjimcjoddgaa.QFnExactFrmInto
open Go.RowKit Go.Proofs.YtfbdjimcjoddgaaW.PrintWords Go.Proofs.YtfbdjimcjoddgaaW.PrintLast Go.Proofs.YtfbdjimcjoddgaaW.PrintMore Go.Proofs.Ytfbdjimcjoddgaa.HWords
attribute [local go_sem] max2_int min2_int max_two min_two max_three min_three max_four min_four   -- for this text's walks alone
set_option linter.unusedVariables false
set_option linter.unusedSimpArgs false

/-! ### impl_FrmInto: function 18, by hand -/
/-- What 'within' answers. -/
def withinB (l : List Int) (n m : Int) : Bool := decide ((l.length : Int) = n) && !(l.any fun x => !inB x (wrap64 (-m)) m)
theorem within_calls (A : Option Addr) (c : Nat) (l : List Int) (n m : Int) (w : World) (hr : Kd.C (Kd.int .i64) w A l.length l) (hc : l.length ≤ c) :
    Calls Try.prog 64 #[.slice A l.length c, .int .i64 n, .int .i64 m] w fun e w' => e = .returned (.bool (withinB l n m)) ∧ Below w.heap.size w w' := impl_within.calls A c l n m _ w hr hc rfl
theorem in_calls (a lo hi : Int) (w : World) : Calls Try.prog 65 #[.int .i64 a, .int .i64 lo, .int .i64 hi] w fun e w' => e = .returned (.bool (inB a lo hi)) ∧ Drawn0 w w' := impl_in.calls a lo hi _ w (in_inB _ _ _)
/-- What 'FrmOk' answers. -/
def frmOkB (x : S26) : Bool := withinB x.f0 3 10000000 && (withinB x.f1 2 10000000 && inB x.f2 (-10000000) 10000000)
theorem frmOk_eq (x : S26) : impl_FrmOk.f x.f0 x.f1 x.f2 = some (frmOkB x) := by
  unfold impl_FrmOk.f
  rw [show impl_within.f x.f0 3 10000000 = some (withinB x.f0 3 10000000) from rfl, show impl_within.f x.f1 2 10000000 = some (withinB x.f1 2 10000000) from rfl, in_inB]
  unfold frmOkB
  cases withinB x.f0 3 10000000 <;> cases withinB x.f1 2 10000000 <;> rfl
set_option maxHeartbeats 1000000 in
theorem idx_forms (q : S26 → Bool) (g : Nat) (lb : Array Value) (eg : ∀ args w, (callFunc g args).run Try.prog w = .ok (.enter g args) w) (A0 : Option Addr) (c0 : Nat) (xs : List (S26)) (w : World)
    (hr : Kd.C k26 w A0 xs.length xs) (hp : ∀ x, x ∈ xs → ∀ (W : World) (A : Option Addr) (c : Nat) (A' : Option Addr) (c' : Nat), Below w.heap.size w W → x.f0.length ≤ c → Kd.C (Kd.int .i64) W A x.f0.length x.f0 → x.f1.length ≤ c' → Kd.C (Kd.int .i64) W A' x.f1.length x.f1 → Calls Try.prog g (#[.agg #[.slice A x.f0.length c, .slice A' x.f1.length c', .int .i64 x.f2]] ++ lb) W fun e w' => e = .returned (.bool (q x)) ∧ Below W.heap.size W w') :
    Calls Try.prog 66 #[.slice A0 xs.length c0, .func (.func g) #[] lb] w fun e w' => e = .returned (.int .i64 (idxOf q xs)) ∧ Below w.heap.size w w' := by
  have hm := Kd.C_max hr
  have HR := Aside0.mk hr
  have HP := Aside0.mk hp
  clear hr hp
  go_enter Try.func66, Try.ntmps66
  go_wp2
  go_loopg [5, 8] xs.length (fun gg _ s8 wr => ∃ x : Int, s8 = .int .i64 x ∧ Aside0 (0 ≤ x ∧ x ≤ xs.length ∧ (xs.length : Int) - x ≤ gg) ∧ Aside0 (Below w.heap.size w wr) ∧ Aside0 (∀ j : Int, 0 ≤ j → j < x → q (xs.getD j.toNat z26) = false))
  case atStart => exact ⟨0, rfl, ⟨by omega, by omega, by omega⟩, ⟨Below.refl _ _⟩, ⟨fun j h0 h1 => by omega⟩⟩
  case round =>
    obtain ⟨x, rfl, HX, HB, HN⟩ := hrel
    have p1 := HX.out.1
    by_cases hlt : x < (xs.length : Int)
    · obtain ⟨ad, A1, c1, A2, c2, e1, hx0, hx1, hx2, hl1, hi1, hl2, hi2⟩ := at_T26 (Kd.C_below HR.out HB.out) x p1 hlt
      cases e1
      have hcall := HP.out (rd_T26 xs x) (mem_rd z26 xs x p1 hlt) _ A1 c1 A2 c2 HB.out hl1 hi1 hl2 hi2
      cases hq : q (rd_T26 xs x) with
      | true =>
        rw [hq] at hcall
        have HQ := Aside0.mk hq
        clear hq
        have HC := Aside0.mk hcall
        clear hcall
        go_wp2_with (go_at_fn g; refine HC.out.mono ?_; rintro e w' ⟨rfl, hb⟩)
        go_ret
        refine ⟨?_, below_then HB.out HB.out.size hb⟩
        rw [idxOf_hit z26 x p1 hlt HQ.out HN.out]
        rfl
      | false =>
        rw [hq] at hcall
        have HQ := Aside0.mk hq
        clear hq
        have HC := Aside0.mk hcall
        clear hcall
        go_wp2_with (go_at_fn g; refine HC.out.mono ?_; rintro e w' ⟨rfl, hb⟩)
        go_roundg (xs.length - (x.toNat + 1))
        case measure => have := HX.out; omega
        case rel =>
          refine ⟨x + 1, by go_num, ⟨by have := HX.out; omega, by have := HX.out; omega, by have := HX.out; omega⟩, ⟨below_then HB.out HB.out.size hb⟩, ⟨fun j h0 h1 => ?_⟩⟩
          by_cases e : j = x
          · subst e; exact HQ.out
          · exact HN.out j h0 (by omega)
    · go_wp2
      go_ret
      refine ⟨?_, HB.out⟩
      rw [idxOf_miss z26 (fun j h0 h1 => HN.out j h0 (by have := HX.out; omega))]
      rfl
set_option maxHeartbeats 1000000 in
theorem has_forms (q : S26 → Bool) (g : Nat) (lb : Array Value) (eg : ∀ args w, (callFunc g args).run Try.prog w = .ok (.enter g args) w) (A0 : Option Addr) (c0 : Nat) (xs : List (S26)) (w : World)
    (hr : Kd.C k26 w A0 xs.length xs) (hp : ∀ x, x ∈ xs → ∀ (W : World) (A : Option Addr) (c : Nat) (A' : Option Addr) (c' : Nat), Below w.heap.size w W → x.f0.length ≤ c → Kd.C (Kd.int .i64) W A x.f0.length x.f0 → x.f1.length ≤ c' → Kd.C (Kd.int .i64) W A' x.f1.length x.f1 → Calls Try.prog g (#[.agg #[.slice A x.f0.length c, .slice A' x.f1.length c', .int .i64 x.f2]] ++ lb) W fun e w' => e = .returned (.bool (q x)) ∧ Below W.heap.size W w') :
    Calls Try.prog 45 #[.slice A0 xs.length c0, .func (.func g) #[] lb] w fun e w' => e = .returned (.bool (xs.any q)) ∧ Below w.heap.size w w' := by
  have HC := Aside0.mk (idx_forms q g lb eg A0 c0 xs w hr hp)
  rw [← idxOf_any q xs]
  generalize idxOf q xs = n at HC
  clear hr hp
  go_enter Try.func45, Try.ntmps45
  go_wp2_with (go_at_call 66; refine HC.out.mono ?_; rintro e w' ⟨rfl, hb⟩)
  go_ret
  exact ⟨rfl, hb⟩
theorem put3 {w : World} {g T : Nat} {a b c x y z : Value} (h : w.heap[g]? = some (.cells #[a, b, c] T (0, 0))) :
    (((w.setCell ⟨g, 0, none⟩ x).setCell ⟨g, 1, none⟩ y).setCell ⟨g, 2, none⟩ z).heap[g]? = some (.cells #[x, y, z] T (0, 0)) :=
  blk_put (cs := #[x, y, c]) (blk_put (cs := #[x, b, c]) (blk_put (cs := #[a, b, c]) h 0 _ rfl) 1 _ rfl) 2 _ rfl
theorem far3 {w : World} {g k T : Nat} {cs : Array Value} {x y z : Value} (h : w.heap[k]? = some (.cells cs T (0, 0))) (hne : k ≠ g) :
    (((w.setCell ⟨g, 0, none⟩ x).setCell ⟨g, 1, none⟩ y).setCell ⟨g, 2, none⟩ z).heap[k]? = some (.cells cs T (0, 0)) :=
  blk_far (blk_far (blk_far h hne _) hne _) hne _
theorem below_put3 {B : Nat} {w0 w : World} {g : Nat} {x y z : Value} (h : Below B w0 w) (hg : B ≤ g) : Below B w0 (((w.setCell ⟨g, 0, none⟩ x).setCell ⟨g, 1, none⟩ y).setCell ⟨g, 2, none⟩ z) :=
  ((h.setCell (p := ⟨g, 0, none⟩) hg _).setCell (p := ⟨g, 1, none⟩) hg _).setCell (p := ⟨g, 2, none⟩) hg _
theorem R_put3 {w : World} {base : Nat} {ok : Nat → Prop} {v : Value} {xs : List Int} {g T : Nat} {cs : Array Value} {x y z : Value} (h : Kd.R (Kd.int .i64) 3 w base ok v xs) (hb : w.heap[g]? = some (.cells cs T (0, 0))) (hT : ∀ q, q ∈ 3 :: (Kd.int .i64).E → q ≠ T) :
    Kd.R (Kd.int .i64) 3 (((w.setCell ⟨g, 0, none⟩ x).setCell ⟨g, 1, none⟩ y).setCell ⟨g, 2, none⟩ z) base ok v xs :=
  Kd.R_mono (Kd.R_far (p := ⟨g, 2, none⟩) (Kd.R_far (p := ⟨g, 1, none⟩) (Kd.R_far (p := ⟨g, 0, none⟩) (Kd.R_types h hb hT) (fun _ hk => hk.2) x) (fun _ hk => hk.2) y) (fun _ hk => hk.2) z) (fun _ hk => hk.1)
/-- So many times a list added to another, place by place, as the Go loop goes. -/
def addL : Nat → List Int → List Int → Int → Int → Option (List Int)
  | 0, _, _, _, _ => none
  | k + 1, xs, c, t, i => if i < (c.length : Int) then (if 0 ≤ i then (if i < (xs.length : Int) then addL k (xs.set i.toNat (wrap64 (rd xs i + wrap64 (t * rd c i)))) c t (wrap64 (i + 1)) else none) else none) else some xs
def AddPost (w0 w : World) (F : Nat) (vC vD : Value) (K' : Int) (xs' ys' : List Int) (e : Ending) (w' : World) : Prop :=
  e = .returned (.tuple #[]) ∧ w'.heap[F]? = some (.cells #[vC, vD, .int .i64 K'] 26 (0, 0)) ∧
    Kd.R (Kd.int .i64) 3 w' w0.heap.size (fun k => some k ≠ vD.ownBlock) vC xs' ∧ Kd.R (Kd.int .i64) 3 w' w0.heap.size (fun k => some k ≠ vC.ownBlock) vD ys' ∧ Below w0.heap.size w0 w' ∧
    Kept w w' (fun k => k = F ∨ some k = vC.ownBlock ∨ some k = vD.ownBlock)
theorem kept_alloc {w : World} {S : Nat → Prop} {W : World} (h : Kept w W S) (o : Obj) : Kept w (W.alloc o) S := h.alloc o
set_option maxHeartbeats 4000000 in
set_option maxRecDepth 100000 in
theorem add_calls (k F : Nat) (vC vD : Value) (xs ys : List Int) (K : Int) (A0 : Option Addr) (c0 : Nat) (C : List Int) (A1 : Option Addr) (c1 : Nat) (D : List Int) (gK t : Int) (xs' ys' : List Int) (w0 w : World)
    (hB : Below w0.heap.size w0 w) (hF0 : w0.heap.size ≤ F) (hF : w.heap[F]? = some (.cells #[vC, vD, .int .i64 K] 26 (0, 0)))
    (hC : Kd.R (Kd.int .i64) 3 w w0.heap.size (fun k => some k ≠ vD.ownBlock) vC xs) (hD : Kd.R (Kd.int .i64) 3 w w0.heap.size (fun k => some k ≠ vC.ownBlock) vD ys)
    (hr0 : Kd.C (Kd.int .i64) w0 A0 C.length C) (hr1 : Kd.C (Kd.int .i64) w0 A1 D.length D) (h1 : addL k xs C t 0 = some xs') (h2 : addL k ys D t 0 = some ys') :
    Calls Try.prog 43 #[.pointer (some ⟨F, 0, none⟩), .agg #[.slice A0 C.length c0, .slice A1 D.length c1, .int .i64 gK], .int .i64 t] w (AddPost w0 w F vC vD (wrap64 (K + wrap64 (t * gK))) xs' ys') := by
  have hu := Try.underlying26
  obtain ⟨AC, cC, rfl⟩ := Kd.R_slice hC
  obtain ⟨AD, cD, rfl⟩ := Kd.R_slice hD
  have hm0 := Kd.C_max hr0
  have hm1 := Kd.C_max hr1
  have HR0 := Aside0.mk hr0
  have HR1 := Aside0.mk hr1
  have HB := Aside0.mk hB
  have HF0 := Aside0.mk hF0
  have HF := Aside0.mk hF
  have HC := Aside0.mk hC
  have HD := Aside0.mk hD
  have H1 := Aside0.mk h1
  have H2 := Aside0.mk h2
  have HFl := Aside0.mk (blk_lt hF)
  clear hr0 hr1 hB hF0 hF hC hD h1 h2
  go_enter Try.func43, Try.ntmps43
  go_wp2_with (first | ((with_reducible refine gate_dst (N := 4) rfl ?_); refine box_event ?hg (N := 4) ?hd (cs := #[.slice A0 C.length c0, .slice A1 D.length c1, .int .i64 gK]) (t := 26) ?hr ?_; (case hd => rfl); (case hg => rfl); (case hr => first | (go_simp; done) | (go_simp; rfl)); intro G hG w6 hbox hb; have BG := Aside0.mk hbox; have HFG := Aside0.mk (show F ≠ G by rw [hG]; exact Nat.ne_of_lt HFl.out); have n1 := Aside0.mk (Kd.R_below HC.out hb); have n2 := Aside0.mk (Kd.R_below HD.out hb); have n3 := Aside0.mk (blk_below HF.out hb); have n4 := Aside0.mk (below_then HB.out HB.out.size hb); have HKK := Aside0.mk (show Kept w w6 (fun k => k = F ∨ some k = (Value.slice AC xs.length cC).ownBlock ∨ some k = (Value.slice AD ys.length cD).ownBlock) from ⟨hb.size, fun i hi _ => hb.block i hi⟩); have HGw := Aside0.mk (show w.heap.size ≤ G by rw [hG]; exact Nat.le_refl _); clear HC HD HF HB hb hbox hG; have HC := n1; have HD := n2; have HF := n3; have HB := n4; clear n1 n2 n3 n4; have hg0 : w6.cell? ⟨G, 0, none⟩ = some (.slice A0 C.length c0) := (blk_cell BG.out 0).trans rfl))
  go_loopg [13] k (fun kq v13 wr => ∃ (xi : List Int) (i : Int), v13 = .int .i64 i ∧ Aside0 (xi.length = xs.length) ∧ Aside0 (addL kq xi C t i = some xs') ∧ Aside0 (kq ≤ k) ∧ Aside0 (Kd.R (Kd.int .i64) 3 wr w0.heap.size (fun k => some k ≠ (Value.slice AD ys.length cD).ownBlock) (.slice AC xs.length cC) xi) ∧
    Aside0 (Kd.R (Kd.int .i64) 3 wr w0.heap.size (fun k => some k ≠ (Value.slice AC xs.length cC).ownBlock) (.slice AD ys.length cD) ys) ∧ Aside0 (wr.heap[F]? = some (.cells #[.slice AC xs.length cC, .slice AD ys.length cD, .int .i64 K] 26 (0, 0))) ∧ Aside0 (wr.heap[G]? = some (.cells #[.slice A0 C.length c0, .slice A1 D.length c1, .int .i64 gK] 26 (0, 0))) ∧
    Aside0 (Below w0.heap.size w0 wr) ∧ Aside0 (Kept w wr (fun k => k = F ∨ some k = (Value.slice AC xs.length cC).ownBlock ∨ some k = (Value.slice AD ys.length cD).ownBlock)))
  case atStart => exact ⟨xs, 0, rfl, ⟨rfl⟩, H1, ⟨Nat.le_refl _⟩, HC, HD, HF, BG, HB, HKK⟩
  case round =>
    clear HC HD HF BG HB HKK H1
    obtain ⟨xi, i, rfl, HLn, HA, HK1, HC, HD, HF, BG, HB, HKK⟩ := hrel
    cases gk with
    | zero => exact absurd HA.out (by simp [addL])
    | succ k1 =>
      have H := HA.out
      clear HA
      simp only [addL] at H
      by_cases c6 : i < (C.length : Int)
      · rw [if_pos c6] at H
        by_cases c7 : 0 ≤ i
        case neg => rw [if_neg c7] at H; exact absurd H (by simp)
        case pos =>
          rw [if_pos c7] at H
          by_cases c8 : i < (xi.length : Int)
          case neg => rw [if_neg c8] at H; exact absurd H (by simp)
          case pos =>
            rw [if_pos c8, show wrap64 (i + 1) = i + 1 from by unfold wrap64; omega] at H
            have H' := Aside0.mk H
            clear H
            obtain ⟨ad, e1, hx⟩ := Kd.at_int HR0.out i c7 c6
            cases e1
            replace hx := (HB.out.cell (World.block_lt_of_cell? w0 _ hx)).trans hx
            have hq : i < (xs.length : Int) := by have := HLn.out; omega
            obtain ⟨g9, co9, e9, gb9, gl9, cl9, HG9⟩ := Kd.R_form HC.out (by omega)
            injection e9 with ea en ec
            subst ea
            obtain ⟨hy, hz⟩ := Kd.R_celln 0 HC.out i c7 hq
            have hy' : wr.cell? ⟨g9, i.toNat, none⟩ = some (.int .i64 (rd xi i)) := hy
            clear hy
            have hf0 : wr.cell? ⟨F, 0, none⟩ = some (.slice (some ⟨g9, 0, none⟩) xs.length cC) := (blk_cell HF.out 0).trans rfl
            have HP := Aside0.mk (Kd.R_putg HC.out i (wrap64 (rd xi i + wrap64 (t * rd C i))))
            have GB := Aside0.mk gb9
            clear gb9 gl9 HG9 ec en
            go_wp2
            go_roundg k1
            case measure => have := HK1.out; omega
            case rel => exact ⟨_, i + 1, by go_num, ⟨by rw [List.length_set]; exact HLn.out⟩, H', ⟨by have := HK1.out; omega⟩, ⟨HP.out.1⟩, ⟨Kd.R_grown HD.out HP.out.2 (fun k hk => hk)⟩, ⟨blk_grown HF.out HP.out.2 (Kd.R_ne HC.out HF.out (by decide))⟩, ⟨blk_grown BG.out HP.out.2 (Kd.R_ne HC.out BG.out (by decide))⟩, ⟨HB.out.setCell GB.out _⟩, ⟨Kept.setCell (p := ⟨g9, i.toNat, none⟩) HKK.out (.inl (.inr (.inl rfl))) _⟩⟩
      · rw [if_neg c6] at H
        obtain rfl := Option.some.inj H
        clear H HK1
        have HLx := HLn
        clear HLn
        have hg1 : wr.cell? ⟨G, 1, none⟩ = some (.slice A1 D.length c1) := (blk_cell BG.out 1).trans rfl
        go_wp2
        clear c6
        go_loopg [34] k (fun kq v34 wr => ∃ (yi : List Int) (j : Int), v34 = .int .i64 j ∧ Aside0 (yi.length = ys.length) ∧ Aside0 (addL kq yi D t j = some ys') ∧ Aside0 (kq ≤ k) ∧ Aside0 (Kd.R (Kd.int .i64) 3 wr w0.heap.size (fun k => some k ≠ (Value.slice AD ys.length cD).ownBlock) (.slice AC xs.length cC) xi) ∧
          Aside0 (Kd.R (Kd.int .i64) 3 wr w0.heap.size (fun k => some k ≠ (Value.slice AC xs.length cC).ownBlock) (.slice AD ys.length cD) yi) ∧ Aside0 (wr.heap[F]? = some (.cells #[.slice AC xs.length cC, .slice AD ys.length cD, .int .i64 K] 26 (0, 0))) ∧ Aside0 (wr.heap[G]? = some (.cells #[.slice A0 C.length c0, .slice A1 D.length c1, .int .i64 gK] 26 (0, 0))) ∧
          Aside0 (Below w0.heap.size w0 wr) ∧ Aside0 (Kept w wr (fun k => k = F ∨ some k = (Value.slice AC xs.length cC).ownBlock ∨ some k = (Value.slice AD ys.length cD).ownBlock)))
        case atStart => exact ⟨ys, 0, rfl, ⟨rfl⟩, H2, ⟨Nat.le_refl _⟩, HC, HD, HF, BG, HB, HKK⟩
        case round =>
          clear HC HD HF BG HB HKK H2 hg1
          obtain ⟨yi, j, rfl, HLn, HA, HK1, HC, HD, HF, BG, HB, HKK⟩ := hrel
          cases gk with
          | zero => exact absurd HA.out (by simp [addL])
          | succ k2 =>
            have H := HA.out
            clear HA
            simp only [addL] at H
            by_cases c6 : j < (D.length : Int)
            · rw [if_pos c6] at H
              by_cases c7 : 0 ≤ j
              case neg => rw [if_neg c7] at H; exact absurd H (by simp)
              case pos =>
                rw [if_pos c7] at H
                by_cases c8 : j < (yi.length : Int)
                case neg => rw [if_neg c8] at H; exact absurd H (by simp)
                case pos =>
                  rw [if_pos c8, show wrap64 (j + 1) = j + 1 from by unfold wrap64; omega] at H
                  have H' := Aside0.mk H
                  clear H
                  obtain ⟨ad, e1, hx⟩ := Kd.at_int HR1.out j c7 c6
                  cases e1
                  replace hx := (HB.out.cell (World.block_lt_of_cell? w0 _ hx)).trans hx
                  have hq : j < (ys.length : Int) := by have := HLn.out; omega
                  obtain ⟨g9, co9, e9, gb9, gl9, cl9, HG9⟩ := Kd.R_form HD.out (by omega)
                  injection e9 with ea en ec
                  subst ea
                  obtain ⟨hy, hz⟩ := Kd.R_celln 0 HD.out j c7 hq
                  have hy' : wr.cell? ⟨g9, j.toNat, none⟩ = some (.int .i64 (rd yi j)) := hy
                  clear hy c8
                  have hf1 : wr.cell? ⟨F, 1, none⟩ = some (.slice (some ⟨g9, 0, none⟩) ys.length cD) := (blk_cell HF.out 1).trans rfl
                  have HP := Aside0.mk (Kd.R_putg HD.out j (wrap64 (rd yi j + wrap64 (t * rd D j))))
                  have GB := Aside0.mk gb9
                  clear gb9 gl9 HG9 ec en
                  go_wp2
                  go_roundg k2
                  case measure => have := HK1.out; omega
                  case rel => exact ⟨_, j + 1, by go_num, ⟨by rw [List.length_set]; exact HLn.out⟩, H', ⟨by have := HK1.out; omega⟩, ⟨Kd.R_grown HC.out HP.out.2 (fun k hk => hk)⟩, ⟨HP.out.1⟩, ⟨blk_grown HF.out HP.out.2 (Kd.R_ne HD.out HF.out (by decide))⟩, ⟨blk_grown BG.out HP.out.2 (Kd.R_ne HD.out BG.out (by decide))⟩, ⟨HB.out.setCell GB.out _⟩, ⟨Kept.setCell (p := ⟨g9, j.toNat, none⟩) HKK.out (.inl (.inr (.inr rfl))) _⟩⟩
            · rw [if_neg c6] at H
              obtain rfl := Option.some.inj H
              clear H HK1 HLn HLx
              have hg2 : wr.cell? ⟨G, 2, none⟩ = some (.int .i64 gK) := (blk_cell BG.out 2).trans rfl
              have hf2 : wr.cell? ⟨F, 2, none⟩ = some (.int .i64 K) := (blk_cell HF.out 2).trans rfl
              have hz2 := blk_frozen HF.out 2
              have hne := HFG.out
              go_wp2
              go_region
              all_goals
                go_end0
                exact ⟨rfl, blk_put (cs := #[.slice AC xs.length cC, .slice AD ys.length cD, .int .i64 K]) HF.out 2 _ rfl,
                  Kd.R_mono (Kd.R_far (p := ⟨F, 2, none⟩) (Kd.R_types HC.out HF.out (by decide)) (fun _ hk => hk.2) _) (fun _ hk => hk.1),
                  Kd.R_mono (Kd.R_far (p := ⟨F, 2, none⟩) (Kd.R_types HD.out HF.out (by decide)) (fun _ hk => hk.2) _) (fun _ hk => hk.1),
                  (HB.out.setCell (p := ⟨F, 2, none⟩) HF0.out _).drew, (Kept.setCell (p := ⟨F, 2, none⟩) HKK.out (.inl (.inl rfl)) _).drew⟩
set_option maxHeartbeats 4000000 in
set_option maxRecDepth 100000 in
theorem checked_calls (vC vD : Value) (xs ys : List Int) (K : Int) (b : Bool) (w0 w : World) (hB : Below w0.heap.size w0 w)
    (hC : Kd.R (Kd.int .i64) 3 w w0.heap.size (fun k => some k ≠ vD.ownBlock) vC xs) (hD : Kd.R (Kd.int .i64) 3 w w0.heap.size (fun k => some k ≠ vC.ownBlock) vD ys) (hb : impl_FrmOk.f xs ys K = some b) :
    Calls Try.prog 44 #[.agg #[vC, vD, .int .i64 K]] w fun e w' => ∃ u0 u1 : Value, e = .returned (.agg #[u0, u1, .int .i64 (if b then K else 0)]) ∧
      Kd.R (Kd.int .i64) 3 w' w0.heap.size (fun k => some k ≠ u1.ownBlock) u0 (if b then xs else []) ∧ Kd.R (Kd.int .i64) 3 w' w0.heap.size (fun k => some k ≠ u0.ownBlock) u1 (if b then ys else []) ∧ Below w0.heap.size w0 w' ∧ Below w.heap.size w w' := by
  have hu := Try.underlying26
  obtain ⟨AC, cC, rfl⟩ := Kd.R_slice hC
  obtain ⟨AD, cD, rfl⟩ := Kd.R_slice hD
  obtain ⟨A0, q0, e0, l0, g0⟩ := Kd.R_reads hC
  obtain ⟨A1, q1, e1, l1, g1⟩ := Kd.R_reads hD
  injection e0 with ea0 en0 ec0
  injection e1 with ea1 en1 ec1
  subst ea0 ec0 ea1 ec1
  have HK := Aside0.mk (fun (W : World) (h : Below w.heap.size w W) => impl_FrmOk.calls AC cC xs AD cD ys K b W (Kd.C_below g0 h) l0 (Kd.C_below g1 h) l1 hb)
  have HC := Aside0.mk hC
  have HD := Aside0.mk hD
  have HB0 := Aside0.mk hB
  have HBw := Aside0.mk (Below.refl w.heap.size w)
  have HBz := Aside0.mk hB.size
  clear hC hD g0 g1 l0 l1 hb hB en0 en1
  cases b
  all_goals
    go_enter Try.func44, Try.ntmps44
    go_wp2_with (first
      | ((with_reducible refine gate_dst (N := 1) rfl ?_); refine box_event ?hg (N := 1) ?hd (cs := #[.slice AC xs.length cC, .slice AD ys.length cD, .int .i64 K]) (t := 26) ?hr ?_; (case hd => rfl); (case hg => rfl); (case hr => first | (go_simp; done) | (go_simp; rfl)); intro G1 hG w1 hbox hb; have B1 := Aside0.mk hbox; have n3 := Aside0.mk (below_then HBw.out HBw.out.size hb); clear HBw hbox hb hG; have HBw := n3; clear n3)
      | ((with_reducible refine gate_dst (N := 2) rfl ?_); refine box_event ?hg (N := 2) ?hd (cs := #[.slice none 0 0, .slice none 0 0, .int .i64 0]) (t := 26) ?hr ?_; (case hd => rfl); (case hg => rfl); (case hr => first | (go_simp; done) | (go_simp; rfl)); intro G2 hG w2 hbox hb; have B2 := Aside0.mk hbox; have NE := Aside0.mk (show G2 ≠ G1 by rw [hG]; exact Nat.ne_of_gt (blk_lt B1.out)); have GE2 := Aside0.mk (show w.heap.size ≤ G2 by rw [hG]; exact HBw.out.size); have n1 := Aside0.mk (blk_below B1.out hb); have n3 := Aside0.mk (below_then HBw.out HBw.out.size hb); clear HBw B1 hbox hb hG; have HBw := n3; have B1 := n1; clear n1 n3; have ha0 : w2.cell? ⟨G1, 0, none⟩ = some (.slice AC xs.length cC) := (blk_cell B1.out 0).trans rfl; have ha1 : w2.cell? ⟨G1, 1, none⟩ = some (.slice AD ys.length cD) := (blk_cell B1.out 1).trans rfl; have ha2 : w2.cell? ⟨G1, 2, none⟩ = some (.int .i64 K) := (blk_cell B1.out 2).trans rfl)
      | (go_at_call 41; refine (HK.out _ HBw.out).mono ?_; rintro e w3 ⟨rfl, hb3⟩; have n1 := Aside0.mk (blk_below B1.out hb3); have n2 := Aside0.mk (blk_below B2.out hb3); have n3 := Aside0.mk (below_then HBw.out HBw.out.size hb3); clear B1 B2 HBw hb3; have B1 := n1; have B2 := n2; have HBw := n3; clear n1 n2 n3; have hc0 : w3.cell? ⟨G1, 0, none⟩ = some (.slice AC xs.length cC) := (blk_cell B1.out 0).trans rfl; have hc1 : w3.cell? ⟨G1, 1, none⟩ = some (.slice AD ys.length cD) := (blk_cell B1.out 1).trans rfl; have hc2 : w3.cell? ⟨G1, 2, none⟩ = some (.int .i64 K) := (blk_cell B1.out 2).trans rfl; have hd0 : w3.cell? ⟨G2, 0, none⟩ = some (.slice none 0 0) := (blk_cell B2.out 0).trans rfl; have hd1 : w3.cell? ⟨G2, 1, none⟩ = some (.slice none 0 0) := (blk_cell B2.out 1).trans rfl; have hd2 : w3.cell? ⟨G2, 2, none⟩ = some (.int .i64 0) := (blk_cell B2.out 2).trans rfl; have hz0 := blk_frozen B2.out 0; have hz1 := blk_frozen B2.out 1; have hz2 := blk_frozen B2.out 2; have hne := NE.out))
  · refine bodyPost_ret (results_cell_row rfl _ _ G2 26 #[.slice none 0 0, .slice none 0 0, .int .i64 0] (0, 0) _ rfl (put3 B2.out) Try.underlying26 rfl (by kernel_rfl)) rfl ?_
    exact ⟨_, _, rfl, Kd.R_nil _ _ _ _ _, Kd.R_nil _ _ _ _ _, below_put3 (below_then HB0.out HB0.out.size HBw.out) (Nat.le_trans HBz.out GE2.out), below_put3 HBw.out GE2.out⟩
  · refine bodyPost_ret (results_cell_row rfl _ _ G2 26 #[.slice AC xs.length cC, .slice AD ys.length cD, .int .i64 K] (0, 0) _ rfl (put3 B2.out) Try.underlying26 rfl (by kernel_rfl)) rfl ?_
    exact ⟨_, _, rfl, R_put3 (Kd.R_below HC.out HBw.out) B2.out (by decide), R_put3 (Kd.R_below HD.out HBw.out) B2.out (by decide), below_put3 (below_then HB0.out HB0.out.size HBw.out) (Nat.le_trans HBz.out GE2.out), below_put3 HBw.out GE2.out⟩
/-- The pots' forms added, each so many times as the form tells, as the Go loop goes. -/
def intoL (C : List Int) : List (S26) → Int → List Int → List Int → Int → Option (List Int × List Int × Int)
  | [], _, X, Y, K => some (X, Y, K)
  | p :: ps, i, X, Y, K => if i < (C.length : Int) then (addL 5 X p.f0 (rd C i) 0).bind fun X' => (addL 5 Y p.f1 (rd C i) 0).bind fun Y' => intoL C ps (i + 1) X' Y' (wrap64 (K + wrap64 (rd C i * p.f2))) else none
theorem into_pred (W : World) (A : Option Addr) (c : Nat) (A' : Option Addr) (c' : Nat) (x : S26) (h0 : x.f0.length ≤ c) (r0 : Kd.C (Kd.int .i64) W A x.f0.length x.f0) (h1 : x.f1.length ≤ c') (r1 : Kd.C (Kd.int .i64) W A' x.f1.length x.f1) :
    Calls Try.prog 46 (#[.agg #[.slice A x.f0.length c, .slice A' x.f1.length c', .int .i64 x.f2]] ++ #[]) W fun e w' => e = .returned (.bool (!frmOkB x)) ∧ Below W.heap.size W w' := by
  show Calls Try.prog 46 #[.agg #[.slice A x.f0.length c, .slice A' x.f1.length c', .int .i64 x.f2]] W _
  have hu := Try.underlying26
  have HC := Aside0.mk (fun (w : World) (hb : Below W.heap.size W w) => impl_FrmOk.calls A c x.f0 A' c' x.f1 x.f2 (frmOkB x) w (Kd.C_below r0 hb) h0 (Kd.C_below r1 hb) h1 (frmOk_eq x))
  have HB := Aside0.mk (Below.refl W.heap.size W)
  clear r0 r1
  generalize frmOkB x = b at HC ⊢
  go_enter Try.func46, Try.ntmps46
  go_wp2_with (first
    | ((with_reducible refine gate_dst (N := 1) rfl ?_); refine box_event ?hg (N := 1) ?hd (cs := #[.slice A x.f0.length c, .slice A' x.f1.length c', .int .i64 x.f2]) (t := 26) ?hr ?_; (case hd => rfl); (case hg => rfl); (case hr => first | (go_simp; done) | (go_simp; rfl)); intro G1 hG w1 hbox hb; have B1 := Aside0.mk hbox; have HB1 := Aside0.mk (below_then HB.out HB.out.size hb); clear hbox hb hG; have ha0 : w1.cell? ⟨G1, 0, none⟩ = some (.slice A x.f0.length c) := (blk_cell B1.out 0).trans rfl; have ha1 : w1.cell? ⟨G1, 1, none⟩ = some (.slice A' x.f1.length c') := (blk_cell B1.out 1).trans rfl; have ha2 : w1.cell? ⟨G1, 2, none⟩ = some (.int .i64 x.f2) := (blk_cell B1.out 2).trans rfl)
    | (go_at_call 41; refine (HC.out _ HB1.out).mono ?_; rintro e w3 ⟨rfl, hb⟩; have HB3 := Aside0.mk (below_then HB1.out HB1.out.size hb); clear hb))
  go_ret
  exact ⟨rfl, HB3.out⟩
theorem into_step (C : List Int) (l : List (S26)) (x : Int) (X Y : List Int) (K : Int) (r : List Int × List Int × Int) (h0 : 0 ≤ x) (h1 : x < (l.length : Int)) (h : intoL C (l.drop x.toNat) x X Y K = some r) :
    ∃ X' Y', x < (C.length : Int) ∧ addL 5 X (rd_T26 l x).f0 (rd C x) 0 = some X' ∧ addL 5 Y (rd_T26 l x).f1 (rd C x) 0 = some Y' ∧ intoL C (l.drop (x + 1).toNat) (x + 1) X' Y' (wrap64 (K + wrap64 (rd C x * (rd_T26 l x).f2))) = some r := by
  have hl : x.toNat < l.length := by omega
  rw [List.drop_eq_getElem_cons hl] at h
  rw [show rd_T26 l x = l[x.toNat] from by unfold rd_T26; rw [List.getD_eq_getElem?_getD, List.getElem?_eq_getElem hl]; rfl, show (x + 1).toNat = x.toNat + 1 from by omega]
  simp only [intoL] at h
  by_cases c : x < (C.length : Int)
  · rw [if_pos c] at h
    obtain ⟨X', e1, h⟩ := Option.bind_eq_some_iff.mp h
    obtain ⟨Y', e2, h⟩ := Option.bind_eq_some_iff.mp h
    exact ⟨X', Y', c, e1, e2, h⟩
  · rw [if_neg c] at h; exact absurd h (by simp)
theorem addL_len : ∀ (k : Nat) (xs c : List Int) (t i : Int) (ys : List Int), addL k xs c t i = some ys → ys.length = xs.length
  | 0, _, _, _, _, _, h => by simp [addL] at h
  | k + 1, xs, c, t, i, ys, h => by
    simp only [addL] at h
    split at h
    · split at h
      · split at h
        · rw [addL_len k _ _ _ _ _ h, List.length_set]
        · simp at h
      · simp at h
    · rw [Option.some.inj h]
def impl_FrmInto.f (l0_0 : List Int) (l0_1 : List Int) (a0_2 : Int) (l1 : List (S26)) : Option (List Int × List Int × Int) := (impl_FrmOk.f l0_0 l0_1 a0_2).bind fun o => if o = true then (if (l1.length : Int) = 3 then (if (l1.any fun x => !frmOkB x) = true then some ([], [], 0) else (intoL l0_0 l1 0 [0, 0, 0] [0, 0] 0).bind fun r => (addL 5 r.2.1 l0_1 1 0).bind fun y => (impl_FrmOk.f r.1 y (wrap64 (r.2.2 + wrap64 a0_2))).bind fun b => some ((if b then r.1 else []), (if b then y else []), (if b then wrap64 (r.2.2 + wrap64 a0_2) else 0))) else some ([], [], 0)) else some ([], [], 0)
set_option maxHeartbeats 8000000 in
set_option maxRecDepth 100000 in
theorem impl_FrmInto.calls (A0_0 : Option Addr) (c0_0 : Nat) (l0_0 : List Int) (A0_1 : Option Addr) (c0_1 : Nat) (l0_1 : List Int) (a0_2 : Int) (A1 : Option Addr) (c1 : Nat) (l1 : List (S26)) (r1 : List Int) (r2 : List Int) (r3 : Int) (w : World) (hr0_0 : Kd.C (Kd.int .i64) w A0_0 l0_0.length l0_0) (hc0_0 : l0_0.length ≤ c0_0) (hr0_1 : Kd.C (Kd.int .i64) w A0_1 l0_1.length l0_1) (hc0_1 : l0_1.length ≤ c0_1) (hr1 : Kd.C k26 w A1 l1.length l1) (hc1 : l1.length ≤ c1) (h : impl_FrmInto.f l0_0 l0_1 a0_2 l1 = some (r1, r2, r3)) :
    Calls Try.prog 18 #[.agg #[.slice A0_0 l0_0.length c0_0, .slice A0_1 l0_1.length c0_1, .int .i64 a0_2], .slice A1 l1.length c1] w fun e w' => ∃ v0_ v1_ : Value, e = .returned (.agg #[v0_, v1_, .int .i64 r3]) ∧ Kd.R (Kd.int .i64) 3 w' w.heap.size (fun k_ => some k_ ≠ (v1_ : Value).ownBlock) v0_ r1 ∧ Kd.R (Kd.int .i64) 3 w' w.heap.size (fun k_ => some k_ ≠ (v0_ : Value).ownBlock) v1_ r2 ∧ Below w.heap.size w w' := by
  have hu := Try.underlying26
  unfold impl_FrmInto.f at h
  have eg : ∀ args w, (callFunc 46 args).run Try.prog w = .ok (.enter 46 args) w := enters_of Try.func46 (by kernel_rfl) rfl
  have hm1 := Kd.C_max hr1
  have HBw := Aside0.mk (Below.refl w.heap.size w)
  have HZ := Aside0.mk (fun (W : World) => impl_FrmZero.calls [0, 0, 0] [0, 0] 0 W rfl)
  obtain ⟨o, ho, h⟩ := Option.bind_eq_some_iff.mp h
  have HK := Aside0.mk (fun (W : World) (hb : Below w.heap.size w W) => impl_FrmOk.calls A0_0 c0_0 l0_0 A0_1 c0_1 l0_1 a0_2 o W (Kd.C_below hr0_0 hb) hc0_0 (Kd.C_below hr0_1 hb) hc0_1 ho)
  have HH := Aside0.mk (fun (W : World) (hb : Below w.heap.size w W) => has_forms (fun x => !frmOkB x) 46 #[] eg A1 c1 l1 W (Kd.C_below hr1 hb) (fun x hx W A c A' c' _ k0 r0 k1 r1 => into_pred W A c A' c' x k0 r0 k1 r1))
  clear ho eg
  cases o with
  | false =>
    simp only [Bool.false_eq_true, if_false] at h
    simp only [Option.some.injEq, Prod.mk.injEq] at h
    obtain ⟨rfl, rfl, rfl⟩ := h
    clear hr0_0 hr0_1 hr1
    go_enter Try.func18, Try.ntmps18
    go_wp2_with (first
      | ((with_reducible refine gate_dst (N := 2) rfl ?_); refine box_event ?hg (N := 2) ?hd (cs := #[.slice A0_0 l0_0.length c0_0, .slice A0_1 l0_1.length c0_1, .int .i64 a0_2]) (t := 26) ?hr ?_; (case hd => rfl); (case hg => rfl); (case hr => first | (go_simp; done) | (go_simp; rfl)); intro G0 hG w1 hbox hb; have B0 := Aside0.mk hbox; have n9 := Aside0.mk (below_then HBw.out HBw.out.size hb); clear HBw; have HBw := n9; clear n9; clear hbox hb hG)
      | ((with_reducible refine gate_dst (N := 4) rfl ?_); refine box_event ?hg (N := 4) ?hd (cs := #[.slice none 0 0, .slice none 0 0, .int .i64 0]) (t := 26) ?hr ?_; (case hd => rfl); (case hg => rfl); (case hr => first | (go_simp; done) | (go_simp; rfl)); intro GR hG w4 hbox hb; have BR := Aside0.mk hbox; have GER := Aside0.mk (show w.heap.size ≤ GR by rw [hG]; exact HBw.out.size); have NER0 := Aside0.mk (show GR ≠ G0 by rw [hG]; exact Nat.ne_of_gt (blk_lt B0.out)); have n_B0 := Aside0.mk (blk_below B0.out hb); clear B0; have B0 := n_B0; clear n_B0; have n9 := Aside0.mk (below_then HBw.out HBw.out.size hb); clear HBw; have HBw := n9; clear n9; clear hbox hb hG; have hq0 : w4.cell? ⟨G0, 0, none⟩ = some (.slice A0_0 l0_0.length c0_0) := (blk_cell B0.out 0).trans rfl; have hq1 : w4.cell? ⟨G0, 1, none⟩ = some (.slice A0_1 l0_1.length c0_1) := (blk_cell B0.out 1).trans rfl; have hq2 : w4.cell? ⟨G0, 2, none⟩ = some (.int .i64 a0_2) := (blk_cell B0.out 2).trans rfl)
      | (go_at_call 41; (with_reducible refine (HK.out _ HBw.out).mono ?_); rintro e wq ⟨rfl, hb⟩; have n_B0 := Aside0.mk (blk_below B0.out hb); clear B0; have B0 := n_B0; clear n_B0; have n_BR := Aside0.mk (blk_below BR.out hb); clear BR; have BR := n_BR; clear n_BR; have n9 := Aside0.mk (below_then HBw.out HBw.out.size hb); clear HBw; have HBw := n9; clear n9; clear hb hq0 hq1 hq2; have hd0 : wq.cell? ⟨GR, 0, none⟩ = some (.slice none 0 0) := (blk_cell BR.out 0).trans rfl; have hd1 : wq.cell? ⟨GR, 1, none⟩ = some (.slice none 0 0) := (blk_cell BR.out 1).trans rfl; have hd2 : wq.cell? ⟨GR, 2, none⟩ = some (.int .i64 0) := (blk_cell BR.out 2).trans rfl; have hz0 := blk_frozen BR.out 0; have hz1 := blk_frozen BR.out 1; have hz2 := blk_frozen BR.out 2))
    refine bodyPost_ret (results_cell_row rfl _ _ GR 26 #[.slice none 0 0, .slice none 0 0, .int .i64 0] (0, 0) _ rfl (put3 (by first | exact BR.out | exact blk_drewN BR.out _)) Try.underlying26 rfl (by kernel_rfl)) rfl ?_
    exact ⟨_, _, rfl, Kd.R_nil _ _ _ _ _, Kd.R_nil _ _ _ _ _, below_put3 (by first | exact HBw.out | exact pw_below_drewN HBw.out _) GER.out⟩
  | true =>
    simp only [if_true] at h
    by_cases h3 : (l1.length : Int) = 3
    case neg =>
      rw [if_neg h3] at h
      simp only [Option.some.injEq, Prod.mk.injEq] at h
      obtain ⟨rfl, rfl, rfl⟩ := h
      clear hr0_0 hr0_1 hr1
      have hb3 : ((l1.length : Int) != 3) = true := bne_iff_ne.mpr h3
      clear h3
      go_enter Try.func18, Try.ntmps18
      go_wp2_with (first
        | ((with_reducible refine gate_dst (N := 2) rfl ?_); refine box_event ?hg (N := 2) ?hd (cs := #[.slice A0_0 l0_0.length c0_0, .slice A0_1 l0_1.length c0_1, .int .i64 a0_2]) (t := 26) ?hr ?_; (case hd => rfl); (case hg => rfl); (case hr => first | (go_simp; done) | (go_simp; rfl)); intro G0 hG w1 hbox hb; have B0 := Aside0.mk hbox; have n9 := Aside0.mk (below_then HBw.out HBw.out.size hb); clear HBw; have HBw := n9; clear n9; clear hbox hb hG)
        | ((with_reducible refine gate_dst (N := 4) rfl ?_); refine box_event ?hg (N := 4) ?hd (cs := #[.slice none 0 0, .slice none 0 0, .int .i64 0]) (t := 26) ?hr ?_; (case hd => rfl); (case hg => rfl); (case hr => first | (go_simp; done) | (go_simp; rfl)); intro GR hG w4 hbox hb; have BR := Aside0.mk hbox; have GER := Aside0.mk (show w.heap.size ≤ GR by rw [hG]; exact HBw.out.size); have NER0 := Aside0.mk (show GR ≠ G0 by rw [hG]; exact Nat.ne_of_gt (blk_lt B0.out)); have n_B0 := Aside0.mk (blk_below B0.out hb); clear B0; have B0 := n_B0; clear n_B0; have n9 := Aside0.mk (below_then HBw.out HBw.out.size hb); clear HBw; have HBw := n9; clear n9; clear hbox hb hG; have hq0 : w4.cell? ⟨G0, 0, none⟩ = some (.slice A0_0 l0_0.length c0_0) := (blk_cell B0.out 0).trans rfl; have hq1 : w4.cell? ⟨G0, 1, none⟩ = some (.slice A0_1 l0_1.length c0_1) := (blk_cell B0.out 1).trans rfl; have hq2 : w4.cell? ⟨G0, 2, none⟩ = some (.int .i64 a0_2) := (blk_cell B0.out 2).trans rfl)
        | (go_at_call 41; (with_reducible refine (HK.out _ HBw.out).mono ?_); rintro e wq ⟨rfl, hb⟩; have n_B0 := Aside0.mk (blk_below B0.out hb); clear B0; have B0 := n_B0; clear n_B0; have n_BR := Aside0.mk (blk_below BR.out hb); clear BR; have BR := n_BR; clear n_BR; have n9 := Aside0.mk (below_then HBw.out HBw.out.size hb); clear HBw; have HBw := n9; clear n9; clear hb hq0 hq1 hq2; have hd0 : wq.cell? ⟨GR, 0, none⟩ = some (.slice none 0 0) := (blk_cell BR.out 0).trans rfl; have hd1 : wq.cell? ⟨GR, 1, none⟩ = some (.slice none 0 0) := (blk_cell BR.out 1).trans rfl; have hd2 : wq.cell? ⟨GR, 2, none⟩ = some (.int .i64 0) := (blk_cell BR.out 2).trans rfl; have hz0 := blk_frozen BR.out 0; have hz1 := blk_frozen BR.out 1; have hz2 := blk_frozen BR.out 2))
      refine bodyPost_ret (results_cell_row rfl _ _ GR 26 #[.slice none 0 0, .slice none 0 0, .int .i64 0] (0, 0) _ rfl (put3 (by first | exact BR.out | exact blk_drewN BR.out _)) Try.underlying26 rfl (by kernel_rfl)) rfl ?_
      exact ⟨_, _, rfl, Kd.R_nil _ _ _ _ _, Kd.R_nil _ _ _ _ _, below_put3 (by first | exact HBw.out | exact pw_below_drewN HBw.out _) GER.out⟩
    case pos =>
      rw [if_pos h3] at h
      have hb3 : ((l1.length : Int) != 3) = false := bne_eq_false_iff_eq.mpr h3
      generalize hany : (l1.any fun x => !frmOkB x) = b3 at HH h
      clear hany
      cases b3 with
      | true =>
        rw [if_pos rfl] at h
        simp only [Option.some.injEq, Prod.mk.injEq] at h
        obtain ⟨rfl, rfl, rfl⟩ := h
        clear hr0_0 hr0_1 hr1
        clear h3
        go_enter Try.func18, Try.ntmps18
        go_wp2_with (first
          | ((with_reducible refine gate_dst (N := 2) rfl ?_); refine box_event ?hg (N := 2) ?hd (cs := #[.slice A0_0 l0_0.length c0_0, .slice A0_1 l0_1.length c0_1, .int .i64 a0_2]) (t := 26) ?hr ?_; (case hd => rfl); (case hg => rfl); (case hr => first | (go_simp; done) | (go_simp; rfl)); intro G0 hG w1 hbox hb; have B0 := Aside0.mk hbox; have n9 := Aside0.mk (below_then HBw.out HBw.out.size hb); clear HBw; have HBw := n9; clear n9; clear hbox hb hG)
          | ((with_reducible refine gate_dst (N := 4) rfl ?_); refine box_event ?hg (N := 4) ?hd (cs := #[.slice none 0 0, .slice none 0 0, .int .i64 0]) (t := 26) ?hr ?_; (case hd => rfl); (case hg => rfl); (case hr => first | (go_simp; done) | (go_simp; rfl)); intro GR hG w4 hbox hb; have BR := Aside0.mk hbox; have GER := Aside0.mk (show w.heap.size ≤ GR by rw [hG]; exact HBw.out.size); have NER0 := Aside0.mk (show GR ≠ G0 by rw [hG]; exact Nat.ne_of_gt (blk_lt B0.out)); have n_B0 := Aside0.mk (blk_below B0.out hb); clear B0; have B0 := n_B0; clear n_B0; have n9 := Aside0.mk (below_then HBw.out HBw.out.size hb); clear HBw; have HBw := n9; clear n9; clear hbox hb hG; have hq0 : w4.cell? ⟨G0, 0, none⟩ = some (.slice A0_0 l0_0.length c0_0) := (blk_cell B0.out 0).trans rfl; have hq1 : w4.cell? ⟨G0, 1, none⟩ = some (.slice A0_1 l0_1.length c0_1) := (blk_cell B0.out 1).trans rfl; have hq2 : w4.cell? ⟨G0, 2, none⟩ = some (.int .i64 a0_2) := (blk_cell B0.out 2).trans rfl)
          | (go_at_call 41; (with_reducible refine (HK.out _ HBw.out).mono ?_); rintro e wq ⟨rfl, hb⟩; have n_B0 := Aside0.mk (blk_below B0.out hb); clear B0; have B0 := n_B0; clear n_B0; have n_BR := Aside0.mk (blk_below BR.out hb); clear BR; have BR := n_BR; clear n_BR; have n9 := Aside0.mk (below_then HBw.out HBw.out.size hb); clear HBw; have HBw := n9; clear n9; clear hb hq0 hq1 hq2; have hd0 : wq.cell? ⟨GR, 0, none⟩ = some (.slice none 0 0) := (blk_cell BR.out 0).trans rfl; have hd1 : wq.cell? ⟨GR, 1, none⟩ = some (.slice none 0 0) := (blk_cell BR.out 1).trans rfl; have hd2 : wq.cell? ⟨GR, 2, none⟩ = some (.int .i64 0) := (blk_cell BR.out 2).trans rfl; have hz0 := blk_frozen BR.out 0; have hz1 := blk_frozen BR.out 1; have hz2 := blk_frozen BR.out 2)
          | (go_at_call 45; refine (HH.out _ HBw.out).mono ?_; rintro e wk0 ⟨rfl, hb⟩; clear hd0 hd1 hd2 hz0 hz1 hz2; have n_B0 := Aside0.mk (blk_below B0.out hb); clear B0; have B0 := n_B0; clear n_B0; have n_BR := Aside0.mk (blk_below BR.out hb); clear BR; have BR := n_BR; clear n_BR; have n9 := Aside0.mk (below_then HBw.out HBw.out.size hb); clear HBw; have HBw := n9; clear n9; clear hb; have he0 : wk0.cell? ⟨GR, 0, none⟩ = some (.slice none 0 0) := (blk_cell BR.out 0).trans rfl; have he1 : wk0.cell? ⟨GR, 1, none⟩ = some (.slice none 0 0) := (blk_cell BR.out 1).trans rfl; have he2 : wk0.cell? ⟨GR, 2, none⟩ = some (.int .i64 0) := (blk_cell BR.out 2).trans rfl; have hv0 := blk_frozen BR.out 0; have hv1 := blk_frozen BR.out 1; have hv2 := blk_frozen BR.out 2))
        refine bodyPost_ret (results_cell_row rfl _ _ GR 26 #[.slice none 0 0, .slice none 0 0, .int .i64 0] (0, 0) _ rfl (put3 (by first | exact BR.out | exact blk_drewN BR.out _)) Try.underlying26 rfl (by kernel_rfl)) rfl ?_
        exact ⟨_, _, rfl, Kd.R_nil _ _ _ _ _, Kd.R_nil _ _ _ _ _, below_put3 (by first | exact HBw.out | exact pw_below_drewN HBw.out _) GER.out⟩
      | false =>
        rw [if_neg (by decide)] at h
        obtain ⟨⟨X9, Y9, K9⟩, hL, h⟩ := Option.bind_eq_some_iff.mp h
        obtain ⟨Y8, hY8, h⟩ := Option.bind_eq_some_iff.mp h
        obtain ⟨b, hbk, h⟩ := Option.bind_eq_some_iff.mp h
        simp only at hY8 hbk h
        have HCK := Aside0.mk hbk
        have HLL := Aside0.mk hL
        have HY8 := Aside0.mk hY8
        have HR0 := Aside0.mk hr0_0
        have HR1 := Aside0.mk hr1
        have HRD := Aside0.mk hr0_1
        clear hbk hL hY8 hr0_0 hr0_1 hr1
        go_enter Try.func18, Try.ntmps18
        go_wp2_with (first
          | ((with_reducible refine gate_dst (N := 2) rfl ?_); refine box_event ?hg (N := 2) ?hd (cs := #[.slice A0_0 l0_0.length c0_0, .slice A0_1 l0_1.length c0_1, .int .i64 a0_2]) (t := 26) ?hr ?_; (case hd => rfl); (case hg => rfl); (case hr => first | (go_simp; done) | (go_simp; rfl)); intro G0 hG w1 hbox hb; have B0 := Aside0.mk hbox; have n9 := Aside0.mk (below_then HBw.out HBw.out.size hb); clear HBw; have HBw := n9; clear n9; clear hbox hb hG)
          | ((with_reducible refine gate_dst (N := 4) rfl ?_); refine box_event ?hg (N := 4) ?hd (cs := #[.slice none 0 0, .slice none 0 0, .int .i64 0]) (t := 26) ?hr ?_; (case hd => rfl); (case hg => rfl); (case hr => first | (go_simp; done) | (go_simp; rfl)); intro GR hG w4 hbox hb; have BR := Aside0.mk hbox; have GER := Aside0.mk (show w.heap.size ≤ GR by rw [hG]; exact HBw.out.size); have NER0 := Aside0.mk (show GR ≠ G0 by rw [hG]; exact Nat.ne_of_gt (blk_lt B0.out)); have n_B0 := Aside0.mk (blk_below B0.out hb); clear B0; have B0 := n_B0; clear n_B0; have n9 := Aside0.mk (below_then HBw.out HBw.out.size hb); clear HBw; have HBw := n9; clear n9; clear hbox hb hG; have hq0 : w4.cell? ⟨G0, 0, none⟩ = some (.slice A0_0 l0_0.length c0_0) := (blk_cell B0.out 0).trans rfl; have hq1 : w4.cell? ⟨G0, 1, none⟩ = some (.slice A0_1 l0_1.length c0_1) := (blk_cell B0.out 1).trans rfl; have hq2 : w4.cell? ⟨G0, 2, none⟩ = some (.int .i64 a0_2) := (blk_cell B0.out 2).trans rfl)
          | (go_at_call 41; (with_reducible refine (HK.out _ HBw.out).mono ?_); rintro e wq ⟨rfl, hb⟩; have n_B0 := Aside0.mk (blk_below B0.out hb); clear B0; have B0 := n_B0; clear n_B0; have n_BR := Aside0.mk (blk_below BR.out hb); clear BR; have BR := n_BR; clear n_BR; have n9 := Aside0.mk (below_then HBw.out HBw.out.size hb); clear HBw; have HBw := n9; clear n9; clear hb hq0 hq1 hq2; have hd0 : wq.cell? ⟨GR, 0, none⟩ = some (.slice none 0 0) := (blk_cell BR.out 0).trans rfl; have hd1 : wq.cell? ⟨GR, 1, none⟩ = some (.slice none 0 0) := (blk_cell BR.out 1).trans rfl; have hd2 : wq.cell? ⟨GR, 2, none⟩ = some (.int .i64 0) := (blk_cell BR.out 2).trans rfl; have hz0 := blk_frozen BR.out 0; have hz1 := blk_frozen BR.out 1; have hz2 := blk_frozen BR.out 2)
          | (go_at_call 45; refine (HH.out _ HBw.out).mono ?_; rintro e wk0 ⟨rfl, hb⟩; clear hd0 hd1 hd2 hz0 hz1 hz2; have n_B0 := Aside0.mk (blk_below B0.out hb); clear B0; have B0 := n_B0; clear n_B0; have n_BR := Aside0.mk (blk_below BR.out hb); clear BR; have BR := n_BR; clear n_BR; have n9 := Aside0.mk (below_then HBw.out HBw.out.size hb); clear HBw; have HBw := n9; clear n9; clear hb; have he0 : wk0.cell? ⟨GR, 0, none⟩ = some (.slice none 0 0) := (blk_cell BR.out 0).trans rfl; have he1 : wk0.cell? ⟨GR, 1, none⟩ = some (.slice none 0 0) := (blk_cell BR.out 1).trans rfl; have he2 : wk0.cell? ⟨GR, 2, none⟩ = some (.int .i64 0) := (blk_cell BR.out 2).trans rfl; have hv0 := blk_frozen BR.out 0; have hv1 := blk_frozen BR.out 1; have hv2 := blk_frozen BR.out 2)
          | (go_at_call 42; (with_reducible refine (HZ.out _).mono ?_); rintro e w5 ⟨vC, vD, rfl, ho0, ho1, hb0⟩; have hb : Below wk0.heap.size wk0 w5 := ⟨hb0.os, hb0.tape, hb0.output, hb0.size, hb0.block⟩; have HC := Aside0.mk (Kd.R_lower ho0 HBw.out.size); have HD := Aside0.mk (Kd.R_lower ho1 HBw.out.size); have n_B0 := Aside0.mk (blk_below B0.out hb); clear B0; have B0 := n_B0; clear n_B0; have n_BR := Aside0.mk (blk_below BR.out hb); clear BR; have BR := n_BR; clear n_BR; have n9 := Aside0.mk (below_then HBw.out HBw.out.size hb); clear HBw; have HBw := n9; clear n9; clear hb hb0 ho0 ho1 he0 he1 he2 hv0 hv1 hv2; obtain ⟨AC, cC, eC⟩ := Kd.R_slice HC.out; subst eC; obtain ⟨AD, cD, eD⟩ := Kd.R_slice HD.out; subst eD)
          | ((with_reducible refine gate_dst (N := 5) rfl ?_); refine box_event ?hg (N := 5) ?hd (cs := #[.slice none 0 0, .slice none 0 0, .int .i64 0]) (t := 26) ?hr ?_; (case hd => rfl); (case hg => rfl); (case hr => first | (go_simp; done) | (go_simp; rfl)); intro GF hG w6 hbox hb; have BF := Aside0.mk hbox; have GEF := Aside0.mk (show w.heap.size ≤ GF by rw [hG]; exact HBw.out.size); have NEFG0 := Aside0.mk (show G0 ≠ GF by rw [hG]; exact Nat.ne_of_lt (blk_lt B0.out)); have NEFGR := Aside0.mk (show GR ≠ GF by rw [hG]; exact Nat.ne_of_lt (blk_lt BR.out)); have n_B0 := Aside0.mk (blk_below B0.out hb); clear B0; have B0 := n_B0; clear n_B0; have n_BR := Aside0.mk (blk_below BR.out hb); clear BR; have BR := n_BR; clear n_BR; have n1 := Aside0.mk (Kd.R_below HC.out hb); have n2 := Aside0.mk (Kd.R_below HD.out hb); clear HC HD; have HC := n1; have HD := n2; clear n1 n2; have n9 := Aside0.mk (below_then HBw.out HBw.out.size hb); clear HBw; have HBw := n9; clear n9; clear hbox hb hG; have hf0 : w6.cell? ⟨GF, 0, none⟩ = some (.slice none 0 0) := (blk_cell BF.out 0).trans rfl; have hf1 : w6.cell? ⟨GF, 1, none⟩ = some (.slice none 0 0) := (blk_cell BF.out 1).trans rfl; have hf2 : w6.cell? ⟨GF, 2, none⟩ = some (.int .i64 0) := (blk_cell BF.out 2).trans rfl; have hy0 := blk_frozen BF.out 0; have hy1 := blk_frozen BF.out 1; have hy2 := blk_frozen BF.out 2)
          | ((with_reducible refine gate_store (t := 26) (p := 5) rfl ?_); refine store_event (t := 26) (p := 5) (v := ?vo5_) (w1 := (((w6.setCell ⟨GF, 0, none⟩ (.slice AC 3 cC)).setCell ⟨GF, 1, none⟩ (.slice AD 2 cD)).setCell ⟨GF, 2, none⟩ (.int .i64 0))) ?hg ?ho ?hn ?hr ?_; (case ho => rfl); (case hg => rfl); (case hn => rfl); (case hr => first | (go_simp; done) | (go_simp; rfl)); intro w7 hw; have n1 : Aside0 (Kd.R (Kd.int .i64) 3 w7 w.heap.size (fun k => some k ≠ (Value.slice AD 2 cD).ownBlock) (.slice AC 3 cC) [0, 0, 0]) := ⟨by rw [hw]; exact R_put3 HC.out BF.out (by decide)⟩; have n2 : Aside0 (Kd.R (Kd.int .i64) 3 w7 w.heap.size (fun k => some k ≠ (Value.slice AC 3 cC).ownBlock) (.slice AD 2 cD) [0, 0]) := ⟨by rw [hw]; exact R_put3 HD.out BF.out (by decide)⟩; have n_B0 : Aside0 (w7.heap[G0]? = some (.cells #[.slice A0_0 l0_0.length c0_0, .slice A0_1 l0_1.length c0_1, .int .i64 a0_2] 26 (0, 0))) := ⟨by rw [hw]; exact far3 B0.out NEFG0.out⟩; clear B0; have B0 := n_B0; clear n_B0; have n_BR : Aside0 (w7.heap[GR]? = some (.cells #[.slice none 0 0, .slice none 0 0, .int .i64 0] 26 (0, 0))) := ⟨by rw [hw]; exact far3 BR.out NEFGR.out⟩; clear BR; have BR := n_BR; clear n_BR; have n4 : Aside0 (w7.heap[GF]? = some (.cells #[.slice AC 3 cC, .slice AD 2 cD, .int .i64 0] 26 (0, 0))) := ⟨by rw [hw]; exact put3 BF.out⟩; have n5 : Aside0 (Below w.heap.size w w7) := ⟨by rw [hw]; exact below_put3 HBw.out GEF.out⟩; clear HC HD BF HBw hw hf0 hf1 hf2 hy0 hy1 hy2; have HC := n1; have HD := n2; have BF := n4; have HBw := n5; clear n1 n2 n4 n5))
        go_loopg [24] l1.length (fun gg v24 wr => ∃ (x : Int) (X Y : List Int) (K : Int), v24 = .int .i64 x ∧ Aside0 (0 ≤ x ∧ x ≤ l1.length ∧ (l1.length : Int) - x ≤ gg) ∧ Aside0 (X.length = 3 ∧ Y.length = 2) ∧ Aside0 (intoL l0_0 (l1.drop x.toNat) x X Y K = some (X9, Y9, K9)) ∧ Aside0 (Kd.R (Kd.int .i64) 3 wr w.heap.size (fun k => some k ≠ (Value.slice AD 2 cD).ownBlock) (.slice AC 3 cC) X) ∧ Aside0 (Kd.R (Kd.int .i64) 3 wr w.heap.size (fun k => some k ≠ (Value.slice AC 3 cC).ownBlock) (.slice AD 2 cD) Y) ∧ Aside0 (wr.heap[GF]? = some (.cells #[.slice AC 3 cC, .slice AD 2 cD, .int .i64 K] 26 (0, 0))) ∧ Aside0 (wr.heap[G0]? = some (.cells #[.slice A0_0 l0_0.length c0_0, .slice A0_1 l0_1.length c0_1, .int .i64 a0_2] 26 (0, 0))) ∧ Aside0 (wr.heap[GR]? = some (.cells #[.slice none 0 0, .slice none 0 0, .int .i64 0] 26 (0, 0))) ∧ Aside0 (Below w.heap.size w wr))
        case atStart => exact ⟨0, [0, 0, 0], [0, 0], 0, rfl, ⟨by omega, by omega, by omega⟩, ⟨rfl, rfl⟩, HLL, HC, HD, BF, B0, BR, HBw⟩
        case round =>
          clear HC HD BF B0 BR HBw HLL
          obtain ⟨x, X, Y, K, rfl, HX, HXY, HLL, HC, HD, BF, B0, BR, HBw⟩ := hrel
          have p1 := HX.out.1
          by_cases hlt : x < (l1.length : Int)
          · skip
            obtain ⟨X', Y', hxc, hX', hY', hL'⟩ := into_step l0_0 l1 x X Y K _ p1 hlt HLL.out
            obtain ⟨ad, A9, c9, A8, c8, e1, hx0, hx1, hx2, hl1, hi1, hl2, hi2⟩ := at_T26 HR1.out x p1 hlt
            cases e1
            obtain ⟨ad0, e2, hc⟩ := Kd.at_int HR0.out x p1 hxc
            cases e2
            replace hx0 := (HBw.out.cell (World.block_lt_of_cell? w _ hx0)).trans hx0
            replace hx1 := (HBw.out.cell (World.block_lt_of_cell? w _ hx1)).trans hx1
            replace hx2 := (HBw.out.cell (World.block_lt_of_cell? w _ hx2)).trans hx2
            have HCC := Aside0.mk hc
            have HL' := Aside0.mk hL'
            have HXY' := Aside0.mk (show X'.length = 3 ∧ Y'.length = 2 from ⟨(addL_len _ _ _ _ _ _ hX').trans HXY.out.1, (addL_len _ _ _ _ _ _ hY').trans HXY.out.2⟩)
            have e3 := HXY.out.1
            have e4 := HXY.out.2
            generalize rd_T26 l1 x = p at hx0 hx1 hx2 hl1 hi1 hl2 hi2 hX' hY' HL'
            generalize hct : rd l0_0 x = t at hX' hY' HCC HL'
            have HA := Aside0.mk (fun (W : World) (hB : Below w.heap.size w W) (hF0 : w.heap.size ≤ GF) (hF : W.heap[GF]? = some (.cells #[.slice AC 3 cC, .slice AD 2 cD, .int .i64 K] 26 (0, 0))) hC hD => add_calls 5 GF (.slice AC 3 cC) (.slice AD 2 cD) X Y K A9 c9 p.f0 A8 c8 p.f1 p.f2 t X' Y' w W hB hF0 hF hC hD hi1 hi2 hX' hY')
            clear hct hc hL' hX' hY' hi1 hi2 hl1 hl2 e3 e4
            go_wp2_with (first
              | ((with_reducible refine gate_dst (N := 7) rfl ?_); refine box_event ?hg (N := 7) ?hd (cs := #[.slice none 0 0, .slice none 0 0, .int .i64 0]) (t := 26) ?hr ?_; (case hd => rfl); (case hg => rfl); (case hr => first | (go_simp; done) | (go_simp; rfl)); intro GP hG w8 hbox hb; have BP := Aside0.mk hbox; have GEP := Aside0.mk (show w.heap.size ≤ GP by rw [hG]; exact HBw.out.size); have NEP0 := Aside0.mk (show G0 ≠ GP by rw [hG]; exact Nat.ne_of_lt (blk_lt B0.out)); have NEPR := Aside0.mk (show GR ≠ GP by rw [hG]; exact Nat.ne_of_lt (blk_lt BR.out)); have NEPF := Aside0.mk (show GF ≠ GP by rw [hG]; exact Nat.ne_of_lt (blk_lt BF.out)); have n_B0 := Aside0.mk (blk_below B0.out hb); clear B0; have B0 := n_B0; clear n_B0; have n_BR := Aside0.mk (blk_below BR.out hb); clear BR; have BR := n_BR; clear n_BR; have n_BF := Aside0.mk (blk_below BF.out hb); clear BF; have BF := n_BF; clear n_BF; have n1 := Aside0.mk (Kd.R_below HC.out hb); have n2 := Aside0.mk (Kd.R_below HD.out hb); clear HC HD; have HC := n1; have HD := n2; clear n1 n2; have n9 := Aside0.mk (below_then HBw.out HBw.out.size hb); clear HBw; have HBw := n9; clear n9; clear hbox hb hG; have hp0 : w8.cell? ⟨GP, 0, none⟩ = some (.slice none 0 0) := (blk_cell BP.out 0).trans rfl; have hp1 : w8.cell? ⟨GP, 1, none⟩ = some (.slice none 0 0) := (blk_cell BP.out 1).trans rfl; have hp2 : w8.cell? ⟨GP, 2, none⟩ = some (.int .i64 0) := (blk_cell BP.out 2).trans rfl; have hs0 := blk_frozen BP.out 0; have hs1 := blk_frozen BP.out 1; have hs2 := blk_frozen BP.out 2)
              | ((with_reducible refine gate_store (t := 26) (p := 7) rfl ?_); refine store_event (t := 26) (p := 7) (v := ?vo7_) (w1 := (((w8.setCell ⟨GP, 0, none⟩ (.slice A9 p.f0.length c9)).setCell ⟨GP, 1, none⟩ (.slice A8 p.f1.length c8)).setCell ⟨GP, 2, none⟩ (.int .i64 p.f2))) ?hg ?ho ?hn ?hr ?_; (case ho => rfl); (case hg => rfl); (case hn => rfl); (case hr => first | (go_simp; done) | (go_simp; rfl)); intro w9 hw; have n1 : Aside0 (Kd.R (Kd.int .i64) 3 w9 w.heap.size (fun k => some k ≠ (Value.slice AD 2 cD).ownBlock) (.slice AC 3 cC) X) := ⟨by rw [hw]; exact R_put3 HC.out BP.out (by decide)⟩; have n2 : Aside0 (Kd.R (Kd.int .i64) 3 w9 w.heap.size (fun k => some k ≠ (Value.slice AC 3 cC).ownBlock) (.slice AD 2 cD) Y) := ⟨by rw [hw]; exact R_put3 HD.out BP.out (by decide)⟩; have n_B0 : Aside0 (w9.heap[G0]? = some (.cells #[.slice (some ad0) l0_0.length c0_0, .slice A0_1 l0_1.length c0_1, .int .i64 a0_2] 26 (0, 0))) := ⟨by rw [hw]; exact far3 B0.out NEP0.out⟩; clear B0; have B0 := n_B0; clear n_B0; have n_BR : Aside0 (w9.heap[GR]? = some (.cells #[.slice none 0 0, .slice none 0 0, .int .i64 0] 26 (0, 0))) := ⟨by rw [hw]; exact far3 BR.out NEPR.out⟩; clear BR; have BR := n_BR; clear n_BR; have n_BF : Aside0 (w9.heap[GF]? = some (.cells #[.slice AC 3 cC, .slice AD 2 cD, .int .i64 K] 26 (0, 0))) := ⟨by rw [hw]; exact far3 BF.out NEPF.out⟩; clear BF; have BF := n_BF; clear n_BF; have n4 : Aside0 (w9.heap[GP]? = some (.cells #[.slice A9 p.f0.length c9, .slice A8 p.f1.length c8, .int .i64 p.f2] 26 (0, 0))) := ⟨by rw [hw]; exact put3 BP.out⟩; have n5 : Aside0 (Below w.heap.size w w9) := ⟨by rw [hw]; exact below_put3 HBw.out GEP.out⟩; clear HC HD BP HBw hw hp0 hp1 hp2 hs0 hs1 hs2; have HC := n1; have HD := n2; have BP := n4; have HBw := n5; clear n1 n2 n4 n5; have hp0 : w9.cell? ⟨GP, 0, none⟩ = some (.slice A9 p.f0.length c9) := (blk_cell BP.out 0).trans rfl; have hp1 : w9.cell? ⟨GP, 1, none⟩ = some (.slice A8 p.f1.length c8) := (blk_cell BP.out 1).trans rfl; have hp2 : w9.cell? ⟨GP, 2, none⟩ = some (.int .i64 p.f2) := (blk_cell BP.out 2).trans rfl; have hg0 : w9.cell? ⟨G0, 0, none⟩ = some (.slice (some ad0) l0_0.length c0_0) := (blk_cell B0.out 0).trans rfl; have hcx := (HBw.out.cell (World.block_lt_of_cell? w _ HCC.out)).trans HCC.out))
            go_still_tail 6, (by kernel_rfl)
            change wpList _ _ _ _ _ w9.drew
            have m1 := Aside0.mk (Kd.R_drew HC.out)
            have m2 := Aside0.mk (Kd.R_drew HD.out)
            have m3 := Aside0.mk (blk_drew BF.out)
            have m4 := Aside0.mk (blk_drew B0.out)
            have m5 := Aside0.mk (blk_drew BR.out)
            have m6 := Aside0.mk (blk_drew BP.out)
            have m7 := Aside0.mk (below_drew1 HBw.out)
            clear HC HD BF B0 BR BP HBw hp0 hp1 hp2 hg0 hcx
            generalize w9.drew = wz at m1 m2 m3 m4 m5 m6 m7 ⊢
            have HC := m1
            have HD := m2
            have BF := m3
            have B0 := m4
            have BR := m5
            have BP := m6
            have HBw := m7
            clear m1 m2 m3 m4 m5 m6 m7
            have hp0 : wz.cell? ⟨GP, 0, none⟩ = some (.slice A9 p.f0.length c9) := (blk_cell BP.out 0).trans rfl; have hp1 : wz.cell? ⟨GP, 1, none⟩ = some (.slice A8 p.f1.length c8) := (blk_cell BP.out 1).trans rfl; have hp2 : wz.cell? ⟨GP, 2, none⟩ = some (.int .i64 p.f2) := (blk_cell BP.out 2).trans rfl
            have hg0 : wz.cell? ⟨G0, 0, none⟩ = some (.slice (some ad0) l0_0.length c0_0) := (blk_cell B0.out 0).trans rfl
            have hcx := (HBw.out.cell (World.block_lt_of_cell? w _ HCC.out)).trans HCC.out
            go_wp2_with (first
              | (go_at_call 43; (with_reducible refine (HA.out _ HBw.out GEF.out BF.out HC.out HD.out).mono ?_); rintro e wa ⟨rfl, hF, hC, hD, hB, hKp⟩; have n_B0 := Aside0.mk (blk_kept B0.out hKp (fun e_ => e_.elim (fun e_ => NEFG0.out e_) (fun e_ => e_.elim (fun e_ => Kd.R_ne HC.out B0.out (by decide) e_) (fun e_ => Kd.R_ne HD.out B0.out (by decide) e_)))); have n_BR := Aside0.mk (blk_kept BR.out hKp (fun e_ => e_.elim (fun e_ => NEFGR.out e_) (fun e_ => e_.elim (fun e_ => Kd.R_ne HC.out BR.out (by decide) e_) (fun e_ => Kd.R_ne HD.out BR.out (by decide) e_)))); clear B0; have B0 := n_B0; clear n_B0; clear BR; have BR := n_BR; clear n_BR; have n1 := Aside0.mk hF; have n2 := Aside0.mk hC; have n3 := Aside0.mk hD; have n4 := Aside0.mk hB; clear BF HC HD HBw hF hC hD hB hKp; have BF := n1; have HC := n2; have HD := n3; have HBw := n4; clear n1 n2 n3 n4))
            go_roundg (l1.length - (x.toNat + 1))
            case measure => have := HX.out; omega
            case rel => exact ⟨x + 1, X', Y', _, by go_num, ⟨by have := HX.out; omega, by have := HX.out; omega, by have := HX.out; omega⟩, HXY', HL', HC, HD, BF, B0, BR, HBw⟩
          · skip
            have hx9 : x = l1.length := by have := HX.out; omega
            subst hx9
            have hL' := HLL.out
            rw [show ((l1.length : Nat) : Int).toNat = l1.length from by omega, List.drop_length] at hL'
            simp only [intoL, Option.some.injEq, Prod.mk.injEq] at hL'
            obtain ⟨rfl, rfl, rfl⟩ := hL'
            have HA := Aside0.mk (fun (W : World) (hB : Below w.heap.size w W) (hF0 : w.heap.size ≤ GF) (hF : W.heap[GF]? = some (.cells #[.slice AC 3 cC, .slice AD 2 cD, .int .i64 K] 26 (0, 0))) hC hD => add_calls 5 GF (.slice AC 3 cC) (.slice AD 2 cD) X Y K none 0 ([] : List Int) A0_1 c0_1 l0_1 a0_2 1 X Y8 w W hB hF0 hF hC hD (Kd.C_nil _ _) HRD.out (by simp [addL]) HY8.out)
            have hg0 : wr.cell? ⟨G0, 0, none⟩ = some (.slice A0_0 l0_0.length c0_0) := (blk_cell B0.out 0).trans rfl; have hg1 : wr.cell? ⟨G0, 1, none⟩ = some (.slice A0_1 l0_1.length c0_1) := (blk_cell B0.out 1).trans rfl; have hg2 : wr.cell? ⟨G0, 2, none⟩ = some (.int .i64 a0_2) := (blk_cell B0.out 2).trans rfl
            clear p1 hlt HLL
            cases b with
            | false =>
              simp only [if_true, Bool.false_eq_true, if_false, Option.some.injEq, Prod.mk.injEq] at h
              obtain ⟨rfl, rfl, rfl⟩ := h
              go_wp2_with (first
                | (go_at_call 43; (refine (HA.out _ HBw.out GEF.out BF.out HC.out HD.out).mono ?_); rintro e wb ⟨rfl, hF, hC, hD, hB, hKp⟩; clear hg0 hg1 hg2; (try simp only [Int.one_mul] at hF); have n_B0 := Aside0.mk (blk_kept B0.out hKp (fun e_ => e_.elim (fun e_ => NEFG0.out e_) (fun e_ => e_.elim (fun e_ => Kd.R_ne HC.out B0.out (by decide) e_) (fun e_ => Kd.R_ne HD.out B0.out (by decide) e_)))); have n_BR := Aside0.mk (blk_kept BR.out hKp (fun e_ => e_.elim (fun e_ => NEFGR.out e_) (fun e_ => e_.elim (fun e_ => Kd.R_ne HC.out BR.out (by decide) e_) (fun e_ => Kd.R_ne HD.out BR.out (by decide) e_)))); clear B0; have B0 := n_B0; clear n_B0; clear BR; have BR := n_BR; clear n_BR; have n1 := Aside0.mk hF; have n2 := Aside0.mk hC; have n3 := Aside0.mk hD; have n4 := Aside0.mk hB; clear BF HC HD HBw hF hC hD hB hKp; have BF := n1; have HC := n2; have HD := n3; have HBw := n4; clear n1 n2 n3 n4; have hf0 : wb.cell? ⟨GF, 0, none⟩ = some (.slice AC 3 cC) := (blk_cell BF.out 0).trans rfl; have hf1 : wb.cell? ⟨GF, 1, none⟩ = some (.slice AD 2 cD) := (blk_cell BF.out 1).trans rfl; have hf2 : wb.cell? ⟨GF, 2, none⟩ = some (.int .i64 (wrap64 (K + wrap64 a0_2))) := (blk_cell BF.out 2).trans rfl)
                | (go_at_call 44; (with_reducible refine (checked_calls _ _ _ _ _ false w _ HBw.out HC.out HD.out HCK.out).mono ?_); rintro e w9 ⟨u0, u1, rfl, hu0, hu1, hB, hb⟩; simp only [if_true, Bool.false_eq_true, if_false] at hu0 hu1; have n1 := Aside0.mk (blk_below BR.out hb); clear BR; have BR := n1; clear n1; have HU0 := Aside0.mk hu0; have HU1 := Aside0.mk hu1; have HB9 := Aside0.mk hB; clear hu0 hu1 hB hb; obtain ⟨U0, q0, e0⟩ := Kd.R_slice HU0.out; subst e0; obtain ⟨U1, q1, e1⟩ := Kd.R_slice HU1.out; subst e1; have hr0 : w9.cell? ⟨GR, 0, none⟩ = some (.slice none 0 0) := (blk_cell BR.out 0).trans rfl; have hr1 : w9.cell? ⟨GR, 1, none⟩ = some (.slice none 0 0) := (blk_cell BR.out 1).trans rfl; have hr2 : w9.cell? ⟨GR, 2, none⟩ = some (.int .i64 0) := (blk_cell BR.out 2).trans rfl; have hs0 := blk_frozen BR.out 0; have hs1 := blk_frozen BR.out 1; have hs2 := blk_frozen BR.out 2))
              refine bodyPost_ret (results_cell_row rfl _ _ GR 26 #[.slice U0 0 q0, .slice U1 0 q1, .int .i64 0] (0, 0) _ rfl (put3 BR.out) Try.underlying26 rfl (by kernel_rfl)) rfl ?_
              exact ⟨_, _, rfl, R_put3 HU0.out BR.out (by decide), R_put3 HU1.out BR.out (by decide), below_put3 HB9.out GER.out⟩
            | true =>
              simp only [if_true, Bool.false_eq_true, if_false, Option.some.injEq, Prod.mk.injEq] at h
              obtain ⟨rfl, rfl, rfl⟩ := h
              go_wp2_with (first
                | (go_at_call 43; (refine (HA.out _ HBw.out GEF.out BF.out HC.out HD.out).mono ?_); rintro e wb ⟨rfl, hF, hC, hD, hB, hKp⟩; clear hg0 hg1 hg2; (try simp only [Int.one_mul] at hF); have n_B0 := Aside0.mk (blk_kept B0.out hKp (fun e_ => e_.elim (fun e_ => NEFG0.out e_) (fun e_ => e_.elim (fun e_ => Kd.R_ne HC.out B0.out (by decide) e_) (fun e_ => Kd.R_ne HD.out B0.out (by decide) e_)))); have n_BR := Aside0.mk (blk_kept BR.out hKp (fun e_ => e_.elim (fun e_ => NEFGR.out e_) (fun e_ => e_.elim (fun e_ => Kd.R_ne HC.out BR.out (by decide) e_) (fun e_ => Kd.R_ne HD.out BR.out (by decide) e_)))); clear B0; have B0 := n_B0; clear n_B0; clear BR; have BR := n_BR; clear n_BR; have n1 := Aside0.mk hF; have n2 := Aside0.mk hC; have n3 := Aside0.mk hD; have n4 := Aside0.mk hB; clear BF HC HD HBw hF hC hD hB hKp; have BF := n1; have HC := n2; have HD := n3; have HBw := n4; clear n1 n2 n3 n4; have hf0 : wb.cell? ⟨GF, 0, none⟩ = some (.slice AC 3 cC) := (blk_cell BF.out 0).trans rfl; have hf1 : wb.cell? ⟨GF, 1, none⟩ = some (.slice AD 2 cD) := (blk_cell BF.out 1).trans rfl; have hf2 : wb.cell? ⟨GF, 2, none⟩ = some (.int .i64 (wrap64 (K + wrap64 a0_2))) := (blk_cell BF.out 2).trans rfl)
                | (go_at_call 44; (with_reducible refine (checked_calls _ _ _ _ _ true w _ HBw.out HC.out HD.out HCK.out).mono ?_); rintro e w9 ⟨u0, u1, rfl, hu0, hu1, hB, hb⟩; simp only [if_true, Bool.false_eq_true, if_false] at hu0 hu1; have n1 := Aside0.mk (blk_below BR.out hb); clear BR; have BR := n1; clear n1; have HU0 := Aside0.mk hu0; have HU1 := Aside0.mk hu1; have HB9 := Aside0.mk hB; clear hu0 hu1 hB hb; obtain ⟨U0, q0, e0⟩ := Kd.R_slice HU0.out; subst e0; obtain ⟨U1, q1, e1⟩ := Kd.R_slice HU1.out; subst e1; have hr0 : w9.cell? ⟨GR, 0, none⟩ = some (.slice none 0 0) := (blk_cell BR.out 0).trans rfl; have hr1 : w9.cell? ⟨GR, 1, none⟩ = some (.slice none 0 0) := (blk_cell BR.out 1).trans rfl; have hr2 : w9.cell? ⟨GR, 2, none⟩ = some (.int .i64 0) := (blk_cell BR.out 2).trans rfl; have hs0 := blk_frozen BR.out 0; have hs1 := blk_frozen BR.out 1; have hs2 := blk_frozen BR.out 2))
              refine bodyPost_ret (results_cell_row rfl _ _ GR 26 #[.slice U0 X.length q0, .slice U1 Y8.length q1, .int .i64 (wrap64 (K + wrap64 a0_2))] (0, 0) _ rfl (put3 BR.out) Try.underlying26 rfl (by kernel_rfl)) rfl ?_
              exact ⟨_, _, rfl, R_put3 HU0.out BR.out (by decide), R_put3 HU1.out BR.out (by decide), below_put3 HB9.out GER.out⟩

end Go.Proofs.Ytfbdjimcjoddgaa.QFnExactFrmInto
