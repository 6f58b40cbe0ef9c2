/- Plain functions, and that the Go code computes them: written by a program of this session over the seat's translation; the conditions stand in each theorem. -/
import Derived.Test.YtfbdjimcjoddgaaQFnExactFrmAddx0
import Derived.Test.YtfbdjimcjoddgaaQFnExactFrmAddx3
namespace Go.Proofs.Ytfbdjimcjoddgaa.QFnExactFrmAdd
open Go.RowKit Go.Proofs.YtfbdjimcjoddgaaW.PrintWords Go.Proofs.YtfbdjimcjoddgaaW.PrintLast Go.Proofs.YtfbdjimcjoddgaaW.PrintMore Go.Proofs.Ytfbdjimcjoddgaa.HWords
attribute [local go_sem] max2_int min2_int max_two min_two max_three min_three max_four min_four   -- for this text's walks alone
set_option linter.unusedVariables false
set_option linter.unusedSimpArgs false

/-! ### impl_FrmAdd: function 11, by hand -/
/-- What 'within' answers. -/
def withinB (l : List Int) (n m : Int) : Bool := decide ((l.length : Int) = n) && !(l.any fun x => !inB x (wrap64 (-m)) m)
theorem within_calls (A : Option Addr) (c : Nat) (l : List Int) (n m : Int) (w : World) (hr : Kd.C (Kd.int .i64) w A l.length l) (hc : l.length ≤ c) :
    Calls Try.prog 64 #[.slice A l.length c, .int .i64 n, .int .i64 m] w fun e w' => e = .returned (.bool (withinB l n m)) ∧ Below w.heap.size w w' := impl_within.calls A c l n m _ w hr hc rfl
theorem in_calls (a lo hi : Int) (w : World) : Calls Try.prog 65 #[.int .i64 a, .int .i64 lo, .int .i64 hi] w fun e w' => e = .returned (.bool (inB a lo hi)) ∧ Drawn0 w w' := impl_in.calls a lo hi _ w (in_inB _ _ _)
theorem put3 {w : World} {g T : Nat} {a b c x y z : Value} (h : w.heap[g]? = some (.cells #[a, b, c] T (0, 0))) :
    (((w.setCell ⟨g, 0, none⟩ x).setCell ⟨g, 1, none⟩ y).setCell ⟨g, 2, none⟩ z).heap[g]? = some (.cells #[x, y, z] T (0, 0)) :=
  blk_put (cs := #[x, y, c]) (blk_put (cs := #[x, b, c]) (blk_put (cs := #[a, b, c]) h 0 _ rfl) 1 _ rfl) 2 _ rfl
theorem far3 {w : World} {g k T : Nat} {cs : Array Value} {x y z : Value} (h : w.heap[k]? = some (.cells cs T (0, 0))) (hne : k ≠ g) :
    (((w.setCell ⟨g, 0, none⟩ x).setCell ⟨g, 1, none⟩ y).setCell ⟨g, 2, none⟩ z).heap[k]? = some (.cells cs T (0, 0)) :=
  blk_far (blk_far (blk_far h hne _) hne _) hne _
theorem below_put3 {B : Nat} {w0 w : World} {g : Nat} {x y z : Value} (h : Below B w0 w) (hg : B ≤ g) : Below B w0 (((w.setCell ⟨g, 0, none⟩ x).setCell ⟨g, 1, none⟩ y).setCell ⟨g, 2, none⟩ z) :=
  ((h.setCell (p := ⟨g, 0, none⟩) hg _).setCell (p := ⟨g, 1, none⟩) hg _).setCell (p := ⟨g, 2, none⟩) hg _
theorem R_put3 {w : World} {base : Nat} {ok : Nat → Prop} {v : Value} {xs : List Int} {g T : Nat} {cs : Array Value} {x y z : Value} (h : Kd.R (Kd.int .i64) 3 w base ok v xs) (hb : w.heap[g]? = some (.cells cs T (0, 0))) (hT : ∀ q, q ∈ 3 :: (Kd.int .i64).E → q ≠ T) :
    Kd.R (Kd.int .i64) 3 (((w.setCell ⟨g, 0, none⟩ x).setCell ⟨g, 1, none⟩ y).setCell ⟨g, 2, none⟩ z) base ok v xs :=
  Kd.R_mono (Kd.R_far (p := ⟨g, 2, none⟩) (Kd.R_far (p := ⟨g, 1, none⟩) (Kd.R_far (p := ⟨g, 0, none⟩) (Kd.R_types h hb hT) (fun _ hk => hk.2) x) (fun _ hk => hk.2) y) (fun _ hk => hk.2) z) (fun _ hk => hk.1)
/-- So many times a list added to another, place by place, as the Go loop goes. -/
def addL : Nat → List Int → List Int → Int → Int → Option (List Int)
  | 0, _, _, _, _ => none
  | k + 1, xs, c, t, i => if i < (c.length : Int) then (if 0 ≤ i then (if i < (xs.length : Int) then addL k (xs.set i.toNat (wrap64 (rd xs i + wrap64 (t * rd c i)))) c t (wrap64 (i + 1)) else none) else none) else some xs
def AddPost (w0 w : World) (F : Nat) (vC vD : Value) (K' : Int) (xs' ys' : List Int) (e : Ending) (w' : World) : Prop :=
  e = .returned (.tuple #[]) ∧ w'.heap[F]? = some (.cells #[vC, vD, .int .i64 K'] 26 (0, 0)) ∧
    Kd.R (Kd.int .i64) 3 w' w0.heap.size (fun k => some k ≠ vD.ownBlock) vC xs' ∧ Kd.R (Kd.int .i64) 3 w' w0.heap.size (fun k => some k ≠ vC.ownBlock) vD ys' ∧ Below w0.heap.size w0 w' ∧
    Kept w w' (fun k => k = F ∨ some k = vC.ownBlock ∨ some k = vD.ownBlock)
theorem kept_alloc {w : World} {S : Nat → Prop} {W : World} (h : Kept w W S) (o : Obj) : Kept w (W.alloc o) S := h.alloc o
set_option maxHeartbeats 4000000 in
set_option maxRecDepth 100000 in
theorem add_calls (k F : Nat) (vC vD : Value) (xs ys : List Int) (K : Int) (A0 : Option Addr) (c0 : Nat) (C : List Int) (A1 : Option Addr) (c1 : Nat) (D : List Int) (gK t : Int) (xs' ys' : List Int) (w0 w : World)
    (hB : Below w0.heap.size w0 w) (hF0 : w0.heap.size ≤ F) (hF : w.heap[F]? = some (.cells #[vC, vD, .int .i64 K] 26 (0, 0)))
    (hC : Kd.R (Kd.int .i64) 3 w w0.heap.size (fun k => some k ≠ vD.ownBlock) vC xs) (hD : Kd.R (Kd.int .i64) 3 w w0.heap.size (fun k => some k ≠ vC.ownBlock) vD ys)
    (hr0 : Kd.C (Kd.int .i64) w0 A0 C.length C) (hr1 : Kd.C (Kd.int .i64) w0 A1 D.length D) (h1 : addL k xs C t 0 = some xs') (h2 : addL k ys D t 0 = some ys') :
    Calls Try.prog 43 #[.pointer (some ⟨F, 0, none⟩), .agg #[.slice A0 C.length c0, .slice A1 D.length c1, .int .i64 gK], .int .i64 t] w (AddPost w0 w F vC vD (wrap64 (K + wrap64 (t * gK))) xs' ys') := by
  have hu := Try.underlying26
  obtain ⟨AC, cC, rfl⟩ := Kd.R_slice hC
  obtain ⟨AD, cD, rfl⟩ := Kd.R_slice hD
  have hm0 := Kd.C_max hr0
  have hm1 := Kd.C_max hr1
  have HR0 := Aside0.mk hr0
  have HR1 := Aside0.mk hr1
  have HB := Aside0.mk hB
  have HF0 := Aside0.mk hF0
  have HF := Aside0.mk hF
  have HC := Aside0.mk hC
  have HD := Aside0.mk hD
  have H1 := Aside0.mk h1
  have H2 := Aside0.mk h2
  have HFl := Aside0.mk (blk_lt hF)
  clear hr0 hr1 hB hF0 hF hC hD h1 h2
  go_enter Try.func43, Try.ntmps43
  go_wp2_with (first | ((with_reducible refine gate_dst (N := 4) rfl ?_); refine box_event ?hg (N := 4) ?hd (cs := #[.slice A0 C.length c0, .slice A1 D.length c1, .int .i64 gK]) (t := 26) ?hr ?_; (case hd => rfl); (case hg => rfl); (case hr => first | (go_simp; done) | (go_simp; rfl)); intro G hG w6 hbox hb; have BG := Aside0.mk hbox; have HFG := Aside0.mk (show F ≠ G by rw [hG]; exact Nat.ne_of_lt HFl.out); have n1 := Aside0.mk (Kd.R_below HC.out hb); have n2 := Aside0.mk (Kd.R_below HD.out hb); have n3 := Aside0.mk (blk_below HF.out hb); have n4 := Aside0.mk (below_then HB.out HB.out.size hb); have HKK := Aside0.mk (show Kept w w6 (fun k => k = F ∨ some k = (Value.slice AC xs.length cC).ownBlock ∨ some k = (Value.slice AD ys.length cD).ownBlock) from ⟨hb.size, fun i hi _ => hb.block i hi⟩); have HGw := Aside0.mk (show w.heap.size ≤ G by rw [hG]; exact Nat.le_refl _); clear HC HD HF HB hb hbox hG; have HC := n1; have HD := n2; have HF := n3; have HB := n4; clear n1 n2 n3 n4; have hg0 : w6.cell? ⟨G, 0, none⟩ = some (.slice A0 C.length c0) := (blk_cell BG.out 0).trans rfl))
  go_loopg [13] k (fun kq v13 wr => ∃ (xi : List Int) (i : Int), v13 = .int .i64 i ∧ Aside0 (xi.length = xs.length) ∧ Aside0 (addL kq xi C t i = some xs') ∧ Aside0 (kq ≤ k) ∧ Aside0 (Kd.R (Kd.int .i64) 3 wr w0.heap.size (fun k => some k ≠ (Value.slice AD ys.length cD).ownBlock) (.slice AC xs.length cC) xi) ∧
    Aside0 (Kd.R (Kd.int .i64) 3 wr w0.heap.size (fun k => some k ≠ (Value.slice AC xs.length cC).ownBlock) (.slice AD ys.length cD) ys) ∧ Aside0 (wr.heap[F]? = some (.cells #[.slice AC xs.length cC, .slice AD ys.length cD, .int .i64 K] 26 (0, 0))) ∧ Aside0 (wr.heap[G]? = some (.cells #[.slice A0 C.length c0, .slice A1 D.length c1, .int .i64 gK] 26 (0, 0))) ∧
    Aside0 (Below w0.heap.size w0 wr) ∧ Aside0 (Kept w wr (fun k => k = F ∨ some k = (Value.slice AC xs.length cC).ownBlock ∨ some k = (Value.slice AD ys.length cD).ownBlock)))
  case atStart => exact ⟨xs, 0, rfl, ⟨rfl⟩, H1, ⟨Nat.le_refl _⟩, HC, HD, HF, BG, HB, HKK⟩
  case round =>
    clear HC HD HF BG HB HKK H1
    obtain ⟨xi, i, rfl, HLn, HA, HK1, HC, HD, HF, BG, HB, HKK⟩ := hrel
    cases gk with
    | zero => exact absurd HA.out (by simp [addL])
    | succ k1 =>
      have H := HA.out
      clear HA
      simp only [addL] at H
      by_cases c6 : i < (C.length : Int)
      · rw [if_pos c6] at H
        by_cases c7 : 0 ≤ i
        case neg => rw [if_neg c7] at H; exact absurd H (by simp)
        case pos =>
          rw [if_pos c7] at H
          by_cases c8 : i < (xi.length : Int)
          case neg => rw [if_neg c8] at H; exact absurd H (by simp)
          case pos =>
            rw [if_pos c8, show wrap64 (i + 1) = i + 1 from by unfold wrap64; omega] at H
            have H' := Aside0.mk H
            clear H
            obtain ⟨ad, e1, hx⟩ := Kd.at_int HR0.out i c7 c6
            cases e1
            replace hx := (HB.out.cell (World.block_lt_of_cell? w0 _ hx)).trans hx
            have hq : i < (xs.length : Int) := by have := HLn.out; omega
            obtain ⟨g9, co9, e9, gb9, gl9, cl9, HG9⟩ := Kd.R_form HC.out (by omega)
            injection e9 with ea en ec
            subst ea
            obtain ⟨hy, hz⟩ := Kd.R_celln 0 HC.out i c7 hq
            have hy' : wr.cell? ⟨g9, i.toNat, none⟩ = some (.int .i64 (rd xi i)) := hy
            clear hy
            have hf0 : wr.cell? ⟨F, 0, none⟩ = some (.slice (some ⟨g9, 0, none⟩) xs.length cC) := (blk_cell HF.out 0).trans rfl
            have HP := Aside0.mk (Kd.R_putg HC.out i (wrap64 (rd xi i + wrap64 (t * rd C i))))
            have GB := Aside0.mk gb9
            clear gb9 gl9 HG9 ec en
            go_wp2
            go_roundg k1
            case measure => have := HK1.out; omega
            case rel => exact ⟨_, i + 1, by go_num, ⟨by rw [List.length_set]; exact HLn.out⟩, H', ⟨by have := HK1.out; omega⟩, ⟨HP.out.1⟩, ⟨Kd.R_grown HD.out HP.out.2 (fun k hk => hk)⟩, ⟨blk_grown HF.out HP.out.2 (Kd.R_ne HC.out HF.out (by decide))⟩, ⟨blk_grown BG.out HP.out.2 (Kd.R_ne HC.out BG.out (by decide))⟩, ⟨HB.out.setCell GB.out _⟩, ⟨Kept.setCell (p := ⟨g9, i.toNat, none⟩) HKK.out (.inl (.inr (.inl rfl))) _⟩⟩
      · rw [if_neg c6] at H
        obtain rfl := Option.some.inj H
        clear H HK1
        have HLx := HLn
        clear HLn
        have hg1 : wr.cell? ⟨G, 1, none⟩ = some (.slice A1 D.length c1) := (blk_cell BG.out 1).trans rfl
        go_wp2
        clear c6
        go_loopg [34] k (fun kq v34 wr => ∃ (yi : List Int) (j : Int), v34 = .int .i64 j ∧ Aside0 (yi.length = ys.length) ∧ Aside0 (addL kq yi D t j = some ys') ∧ Aside0 (kq ≤ k) ∧ Aside0 (Kd.R (Kd.int .i64) 3 wr w0.heap.size (fun k => some k ≠ (Value.slice AD ys.length cD).ownBlock) (.slice AC xs.length cC) xi) ∧
          Aside0 (Kd.R (Kd.int .i64) 3 wr w0.heap.size (fun k => some k ≠ (Value.slice AC xs.length cC).ownBlock) (.slice AD ys.length cD) yi) ∧ Aside0 (wr.heap[F]? = some (.cells #[.slice AC xs.length cC, .slice AD ys.length cD, .int .i64 K] 26 (0, 0))) ∧ Aside0 (wr.heap[G]? = some (.cells #[.slice A0 C.length c0, .slice A1 D.length c1, .int .i64 gK] 26 (0, 0))) ∧
          Aside0 (Below w0.heap.size w0 wr) ∧ Aside0 (Kept w wr (fun k => k = F ∨ some k = (Value.slice AC xs.length cC).ownBlock ∨ some k = (Value.slice AD ys.length cD).ownBlock)))
        case atStart => exact ⟨ys, 0, rfl, ⟨rfl⟩, H2, ⟨Nat.le_refl _⟩, HC, HD, HF, BG, HB, HKK⟩
        case round =>
          clear HC HD HF BG HB HKK H2 hg1
          obtain ⟨yi, j, rfl, HLn, HA, HK1, HC, HD, HF, BG, HB, HKK⟩ := hrel
          cases gk with
          | zero => exact absurd HA.out (by simp [addL])
          | succ k2 =>
            have H := HA.out
            clear HA
            simp only [addL] at H
            by_cases c6 : j < (D.length : Int)
            · rw [if_pos c6] at H
              by_cases c7 : 0 ≤ j
              case neg => rw [if_neg c7] at H; exact absurd H (by simp)
              case pos =>
                rw [if_pos c7] at H
                by_cases c8 : j < (yi.length : Int)
                case neg => rw [if_neg c8] at H; exact absurd H (by simp)
                case pos =>
                  rw [if_pos c8, show wrap64 (j + 1) = j + 1 from by unfold wrap64; omega] at H
                  have H' := Aside0.mk H
                  clear H
                  obtain ⟨ad, e1, hx⟩ := Kd.at_int HR1.out j c7 c6
                  cases e1
                  replace hx := (HB.out.cell (World.block_lt_of_cell? w0 _ hx)).trans hx
                  have hq : j < (ys.length : Int) := by have := HLn.out; omega
                  obtain ⟨g9, co9, e9, gb9, gl9, cl9, HG9⟩ := Kd.R_form HD.out (by omega)
                  injection e9 with ea en ec
                  subst ea
                  obtain ⟨hy, hz⟩ := Kd.R_celln 0 HD.out j c7 hq
                  have hy' : wr.cell? ⟨g9, j.toNat, none⟩ = some (.int .i64 (rd yi j)) := hy
                  clear hy c8
                  have hf1 : wr.cell? ⟨F, 1, none⟩ = some (.slice (some ⟨g9, 0, none⟩) ys.length cD) := (blk_cell HF.out 1).trans rfl
                  have HP := Aside0.mk (Kd.R_putg HD.out j (wrap64 (rd yi j + wrap64 (t * rd D j))))
                  have GB := Aside0.mk gb9
                  clear gb9 gl9 HG9 ec en
                  go_wp2
                  go_roundg k2
                  case measure => have := HK1.out; omega
                  case rel => exact ⟨_, j + 1, by go_num, ⟨by rw [List.length_set]; exact HLn.out⟩, H', ⟨by have := HK1.out; omega⟩, ⟨Kd.R_grown HC.out HP.out.2 (fun k hk => hk)⟩, ⟨HP.out.1⟩, ⟨blk_grown HF.out HP.out.2 (Kd.R_ne HD.out HF.out (by decide))⟩, ⟨blk_grown BG.out HP.out.2 (Kd.R_ne HD.out BG.out (by decide))⟩, ⟨HB.out.setCell GB.out _⟩, ⟨Kept.setCell (p := ⟨g9, j.toNat, none⟩) HKK.out (.inl (.inr (.inr rfl))) _⟩⟩
            · rw [if_neg c6] at H
              obtain rfl := Option.some.inj H
              clear H HK1 HLn HLx
              have hg2 : wr.cell? ⟨G, 2, none⟩ = some (.int .i64 gK) := (blk_cell BG.out 2).trans rfl
              have hf2 : wr.cell? ⟨F, 2, none⟩ = some (.int .i64 K) := (blk_cell HF.out 2).trans rfl
              have hz2 := blk_frozen HF.out 2
              have hne := HFG.out
              go_wp2
              go_region
              all_goals
                go_end0
                exact ⟨rfl, blk_put (cs := #[.slice AC xs.length cC, .slice AD ys.length cD, .int .i64 K]) HF.out 2 _ rfl,
                  Kd.R_mono (Kd.R_far (p := ⟨F, 2, none⟩) (Kd.R_types HC.out HF.out (by decide)) (fun _ hk => hk.2) _) (fun _ hk => hk.1),
                  Kd.R_mono (Kd.R_far (p := ⟨F, 2, none⟩) (Kd.R_types HD.out HF.out (by decide)) (fun _ hk => hk.2) _) (fun _ hk => hk.1),
                  (HB.out.setCell (p := ⟨F, 2, none⟩) HF0.out _).drew, (Kept.setCell (p := ⟨F, 2, none⟩) HKK.out (.inl (.inl rfl)) _).drew⟩
set_option maxHeartbeats 4000000 in
set_option maxRecDepth 100000 in
theorem checked_calls (vC vD : Value) (xs ys : List Int) (K : Int) (b : Bool) (w0 w : World) (hB : Below w0.heap.size w0 w)
    (hC : Kd.R (Kd.int .i64) 3 w w0.heap.size (fun k => some k ≠ vD.ownBlock) vC xs) (hD : Kd.R (Kd.int .i64) 3 w w0.heap.size (fun k => some k ≠ vC.ownBlock) vD ys) (hb : impl_FrmOk.f xs ys K = some b) :
    Calls Try.prog 44 #[.agg #[vC, vD, .int .i64 K]] w fun e w' => ∃ u0 u1 : Value, e = .returned (.agg #[u0, u1, .int .i64 (if b then K else 0)]) ∧
      Kd.R (Kd.int .i64) 3 w' w0.heap.size (fun k => some k ≠ u1.ownBlock) u0 (if b then xs else []) ∧ Kd.R (Kd.int .i64) 3 w' w0.heap.size (fun k => some k ≠ u0.ownBlock) u1 (if b then ys else []) ∧ Below w0.heap.size w0 w' ∧ Below w.heap.size w w' := by
  have hu := Try.underlying26
  obtain ⟨AC, cC, rfl⟩ := Kd.R_slice hC
  obtain ⟨AD, cD, rfl⟩ := Kd.R_slice hD
  obtain ⟨A0, q0, e0, l0, g0⟩ := Kd.R_reads hC
  obtain ⟨A1, q1, e1, l1, g1⟩ := Kd.R_reads hD
  injection e0 with ea0 en0 ec0
  injection e1 with ea1 en1 ec1
  subst ea0 ec0 ea1 ec1
  have HK := Aside0.mk (fun (W : World) (h : Below w.heap.size w W) => impl_FrmOk.calls AC cC xs AD cD ys K b W (Kd.C_below g0 h) l0 (Kd.C_below g1 h) l1 hb)
  have HC := Aside0.mk hC
  have HD := Aside0.mk hD
  have HB0 := Aside0.mk hB
  have HBw := Aside0.mk (Below.refl w.heap.size w)
  have HBz := Aside0.mk hB.size
  clear hC hD g0 g1 l0 l1 hb hB en0 en1
  cases b
  all_goals
    go_enter Try.func44, Try.ntmps44
    go_wp2_with (first
      | ((with_reducible refine gate_dst (N := 1) rfl ?_); refine box_event ?hg (N := 1) ?hd (cs := #[.slice AC xs.length cC, .slice AD ys.length cD, .int .i64 K]) (t := 26) ?hr ?_; (case hd => rfl); (case hg => rfl); (case hr => first | (go_simp; done) | (go_simp; rfl)); intro G1 hG w1 hbox hb; have B1 := Aside0.mk hbox; have n3 := Aside0.mk (below_then HBw.out HBw.out.size hb); clear HBw hbox hb hG; have HBw := n3; clear n3)
      | ((with_reducible refine gate_dst (N := 2) rfl ?_); refine box_event ?hg (N := 2) ?hd (cs := #[.slice none 0 0, .slice none 0 0, .int .i64 0]) (t := 26) ?hr ?_; (case hd => rfl); (case hg => rfl); (case hr => first | (go_simp; done) | (go_simp; rfl)); intro G2 hG w2 hbox hb; have B2 := Aside0.mk hbox; have NE := Aside0.mk (show G2 ≠ G1 by rw [hG]; exact Nat.ne_of_gt (blk_lt B1.out)); have GE2 := Aside0.mk (show w.heap.size ≤ G2 by rw [hG]; exact HBw.out.size); have n1 := Aside0.mk (blk_below B1.out hb); have n3 := Aside0.mk (below_then HBw.out HBw.out.size hb); clear HBw B1 hbox hb hG; have HBw := n3; have B1 := n1; clear n1 n3; have ha0 : w2.cell? ⟨G1, 0, none⟩ = some (.slice AC xs.length cC) := (blk_cell B1.out 0).trans rfl; have ha1 : w2.cell? ⟨G1, 1, none⟩ = some (.slice AD ys.length cD) := (blk_cell B1.out 1).trans rfl; have ha2 : w2.cell? ⟨G1, 2, none⟩ = some (.int .i64 K) := (blk_cell B1.out 2).trans rfl)
      | (go_at_call 41; refine (HK.out _ HBw.out).mono ?_; rintro e w3 ⟨rfl, hb3⟩; have n1 := Aside0.mk (blk_below B1.out hb3); have n2 := Aside0.mk (blk_below B2.out hb3); have n3 := Aside0.mk (below_then HBw.out HBw.out.size hb3); clear B1 B2 HBw hb3; have B1 := n1; have B2 := n2; have HBw := n3; clear n1 n2 n3; have hc0 : w3.cell? ⟨G1, 0, none⟩ = some (.slice AC xs.length cC) := (blk_cell B1.out 0).trans rfl; have hc1 : w3.cell? ⟨G1, 1, none⟩ = some (.slice AD ys.length cD) := (blk_cell B1.out 1).trans rfl; have hc2 : w3.cell? ⟨G1, 2, none⟩ = some (.int .i64 K) := (blk_cell B1.out 2).trans rfl; have hd0 : w3.cell? ⟨G2, 0, none⟩ = some (.slice none 0 0) := (blk_cell B2.out 0).trans rfl; have hd1 : w3.cell? ⟨G2, 1, none⟩ = some (.slice none 0 0) := (blk_cell B2.out 1).trans rfl; have hd2 : w3.cell? ⟨G2, 2, none⟩ = some (.int .i64 0) := (blk_cell B2.out 2).trans rfl; have hz0 := blk_frozen B2.out 0; have hz1 := blk_frozen B2.out 1; have hz2 := blk_frozen B2.out 2; have hne := NE.out))
  · refine bodyPost_ret (results_cell_row rfl _ _ G2 26 #[.slice none 0 0, .slice none 0 0, .int .i64 0] (0, 0) _ rfl (put3 B2.out) Try.underlying26 rfl (by kernel_rfl)) rfl ?_
    exact ⟨_, _, rfl, Kd.R_nil _ _ _ _ _, Kd.R_nil _ _ _ _ _, below_put3 (below_then HB0.out HB0.out.size HBw.out) (Nat.le_trans HBz.out GE2.out), below_put3 HBw.out GE2.out⟩
  · refine bodyPost_ret (results_cell_row rfl _ _ G2 26 #[.slice AC xs.length cC, .slice AD ys.length cD, .int .i64 K] (0, 0) _ rfl (put3 B2.out) Try.underlying26 rfl (by kernel_rfl)) rfl ?_
    exact ⟨_, _, rfl, R_put3 (Kd.R_below HC.out HBw.out) B2.out (by decide), R_put3 (Kd.R_below HD.out HBw.out) B2.out (by decide), below_put3 (below_then HB0.out HB0.out.size HBw.out) (Nat.le_trans HBz.out GE2.out), below_put3 HBw.out GE2.out⟩
def impl_FrmAdd.f (l0_0 : List Int) (l0_1 : List Int) (a0_2 : Int) (l1_0 : List Int) (l1_1 : List Int) (a1_2 : Int) : Option (List Int × List Int × Int) := (impl_FrmOk.f l0_0 l0_1 a0_2).bind fun o => if o = true then ((impl_FrmOk.f l1_0 l1_1 a1_2).bind fun o2 => if o2 = true then ((addL 5 [0, 0, 0] l0_0 1 0).bind fun x => (addL 5 [0, 0] l0_1 1 0).bind fun y => (addL 5 x l1_0 1 0).bind fun x2 => (addL 5 y l1_1 1 0).bind fun y2 => (impl_FrmOk.f x2 y2 (wrap64 (wrap64 (wrap64 a0_2) + wrap64 a1_2))).bind fun b => some ((if b then x2 else []), (if b then y2 else []), (if b then wrap64 (wrap64 (wrap64 a0_2) + wrap64 a1_2) else 0))) else some ([], [], 0)) else some ([], [], 0)
set_option maxHeartbeats 8000000 in
set_option maxRecDepth 100000 in
theorem impl_FrmAdd.calls (A0_0 : Option Addr) (c0_0 : Nat) (l0_0 : List Int) (A0_1 : Option Addr) (c0_1 : Nat) (l0_1 : List Int) (a0_2 : Int) (A1_0 : Option Addr) (c1_0 : Nat) (l1_0 : List Int) (A1_1 : Option Addr) (c1_1 : Nat) (l1_1 : List Int) (a1_2 : Int) (r1 : List Int) (r2 : List Int) (r3 : Int) (w : World) (hr0_0 : Kd.C (Kd.int .i64) w A0_0 l0_0.length l0_0) (hc0_0 : l0_0.length ≤ c0_0) (hr0_1 : Kd.C (Kd.int .i64) w A0_1 l0_1.length l0_1) (hc0_1 : l0_1.length ≤ c0_1) (hr1_0 : Kd.C (Kd.int .i64) w A1_0 l1_0.length l1_0) (hc1_0 : l1_0.length ≤ c1_0) (hr1_1 : Kd.C (Kd.int .i64) w A1_1 l1_1.length l1_1) (hc1_1 : l1_1.length ≤ c1_1) (h : impl_FrmAdd.f l0_0 l0_1 a0_2 l1_0 l1_1 a1_2 = some (r1, r2, r3)) :
    Calls Try.prog 11 #[.agg #[.slice A0_0 l0_0.length c0_0, .slice A0_1 l0_1.length c0_1, .int .i64 a0_2], .agg #[.slice A1_0 l1_0.length c1_0, .slice A1_1 l1_1.length c1_1, .int .i64 a1_2]] w fun e w' => ∃ v0_ v1_ : Value, e = .returned (.agg #[v0_, v1_, .int .i64 r3]) ∧ Kd.R (Kd.int .i64) 3 w' w.heap.size (fun k_ => some k_ ≠ (v1_ : Value).ownBlock) v0_ r1 ∧ Kd.R (Kd.int .i64) 3 w' w.heap.size (fun k_ => some k_ ≠ (v0_ : Value).ownBlock) v1_ r2 ∧ Below w.heap.size w w' := by
  have hu := Try.underlying26
  unfold impl_FrmAdd.f at h
  have HBw := Aside0.mk (Below.refl w.heap.size w)
  have HZ := Aside0.mk (fun (W : World) => impl_FrmZero.calls [0, 0, 0] [0, 0] 0 W rfl)
  obtain ⟨o0, ho0, h⟩ := Option.bind_eq_some_iff.mp h
  have HK0 := Aside0.mk (fun (W : World) (hb : Below w.heap.size w W) => impl_FrmOk.calls A0_0 c0_0 l0_0 A0_1 c0_1 l0_1 a0_2 o0 W (Kd.C_below hr0_0 hb) hc0_0 (Kd.C_below hr0_1 hb) hc0_1 ho0)
  clear ho0
  cases o0 with
  | false =>
    simp only [Bool.false_eq_true, if_false, Option.some.injEq, Prod.mk.injEq] at h
    obtain ⟨rfl, rfl, rfl⟩ := h
    go_enter Try.func11, Try.ntmps11
    go_wp2_with (first
      | ((with_reducible refine gate_dst (N := 2) rfl ?_); refine box_event ?hg (N := 2) ?hd (cs := #[.slice A0_0 l0_0.length c0_0, .slice A0_1 l0_1.length c0_1, .int .i64 a0_2]) (t := 26) ?hr ?_; (case hd => rfl); (case hg => rfl); (case hr => first | (go_simp; done) | (go_simp; rfl)); intro G0 hG w1 hbox hb; have B0 := Aside0.mk hbox; have n9 := Aside0.mk (below_then HBw.out HBw.out.size hb); clear HBw hbox hb hG; have HBw := n9; clear n9)
      | ((with_reducible refine gate_dst (N := 3) rfl ?_); refine box_event ?hg (N := 3) ?hd (cs := #[.slice A1_0 l1_0.length c1_0, .slice A1_1 l1_1.length c1_1, .int .i64 a1_2]) (t := 26) ?hr ?_; (case hd => rfl); (case hg => rfl); (case hr => first | (go_simp; done) | (go_simp; rfl)); intro G1 hG w2 hbox hb; have B1 := Aside0.mk hbox; have NE1_0 := Aside0.mk (show G1 ≠ G0 by rw [hG]; exact Nat.ne_of_gt (blk_lt B0.out)); have n0 := Aside0.mk (blk_below B0.out hb); clear B0; have B0 := n0; clear n0; have n9 := Aside0.mk (below_then HBw.out HBw.out.size hb); clear HBw hbox hb hG; have HBw := n9; clear n9)
      | ((with_reducible refine gate_dst (N := 4) rfl ?_); refine box_event ?hg (N := 4) ?hd (cs := #[.slice none 0 0, .slice none 0 0, .int .i64 0]) (t := 26) ?hr ?_; (case hd => rfl); (case hg => rfl); (case hr => first | (go_simp; done) | (go_simp; rfl)); intro GR hG w4 hbox hb; have BR := Aside0.mk hbox; have GER := Aside0.mk (show w.heap.size ≤ GR by rw [hG]; exact HBw.out.size); have NER0 := Aside0.mk (show GR ≠ G0 by rw [hG]; exact Nat.ne_of_gt (blk_lt B0.out)); have NER1 := Aside0.mk (show GR ≠ G1 by rw [hG]; exact Nat.ne_of_gt (blk_lt B1.out)); have n_B0 := Aside0.mk (blk_below B0.out hb); clear B0; have B0 := n_B0; clear n_B0; have n_B1 := Aside0.mk (blk_below B1.out hb); clear B1; have B1 := n_B1; clear n_B1; have n9 := Aside0.mk (below_then HBw.out HBw.out.size hb); clear HBw; have HBw := n9; clear n9; have hq0 : w4.cell? ⟨G0, 0, none⟩ = some (.slice A0_0 l0_0.length c0_0) := (blk_cell B0.out 0).trans rfl; have hq1 : w4.cell? ⟨G0, 1, none⟩ = some (.slice A0_1 l0_1.length c0_1) := (blk_cell B0.out 1).trans rfl; have hq2 : w4.cell? ⟨G0, 2, none⟩ = some (.int .i64 a0_2) := (blk_cell B0.out 2).trans rfl; clear hbox hb hG)
      | (go_at_call 41; (with_reducible refine (HK0.out _ HBw.out).mono ?_); rintro e wk0 ⟨rfl, hb⟩; have n_B0 := Aside0.mk (blk_below B0.out hb); clear B0; have B0 := n_B0; clear n_B0; have n_B1 := Aside0.mk (blk_below B1.out hb); clear B1; have B1 := n_B1; clear n_B1; have n_BR := Aside0.mk (blk_below BR.out hb); clear BR; have BR := n_BR; clear n_BR; have n9 := Aside0.mk (below_then HBw.out HBw.out.size hb); clear HBw; have HBw := n9; clear n9; clear hb; have hd0_0 : wk0.cell? ⟨GR, 0, none⟩ = some (.slice none 0 0) := (blk_cell BR.out 0).trans rfl; have hd0_1 : wk0.cell? ⟨GR, 1, none⟩ = some (.slice none 0 0) := (blk_cell BR.out 1).trans rfl; have hd0_2 : wk0.cell? ⟨GR, 2, none⟩ = some (.int .i64 0) := (blk_cell BR.out 2).trans rfl; have hz0_0 := blk_frozen BR.out 0; have hz0_1 := blk_frozen BR.out 1; have hz0_2 := blk_frozen BR.out 2; have ha1_0 : wk0.cell? ⟨G1, 0, none⟩ = some (.slice A1_0 l1_0.length c1_0) := (blk_cell B1.out 0).trans rfl; have ha1_1 : wk0.cell? ⟨G1, 1, none⟩ = some (.slice A1_1 l1_1.length c1_1) := (blk_cell B1.out 1).trans rfl; have ha1_2 : wk0.cell? ⟨G1, 2, none⟩ = some (.int .i64 a1_2) := (blk_cell B1.out 2).trans rfl)
      | (go_at_call 41; (with_reducible refine (HK1.out _ HBw.out).mono ?_); rintro e wk1 ⟨rfl, hb⟩; have n_B0 := Aside0.mk (blk_below B0.out hb); clear B0; have B0 := n_B0; clear n_B0; have n_B1 := Aside0.mk (blk_below B1.out hb); clear B1; have B1 := n_B1; clear n_B1; have n_BR := Aside0.mk (blk_below BR.out hb); clear BR; have BR := n_BR; clear n_BR; have n9 := Aside0.mk (below_then HBw.out HBw.out.size hb); clear HBw; have HBw := n9; clear n9; clear hb; have hd1_0 : wk1.cell? ⟨GR, 0, none⟩ = some (.slice none 0 0) := (blk_cell BR.out 0).trans rfl; have hd1_1 : wk1.cell? ⟨GR, 1, none⟩ = some (.slice none 0 0) := (blk_cell BR.out 1).trans rfl; have hd1_2 : wk1.cell? ⟨GR, 2, none⟩ = some (.int .i64 0) := (blk_cell BR.out 2).trans rfl; have hz1_0 := blk_frozen BR.out 0; have hz1_1 := blk_frozen BR.out 1; have hz1_2 := blk_frozen BR.out 2; skip)
      | (go_at_call 42; (with_reducible refine (HZ.out _).mono ?_); rintro e w5 ⟨vC, vD, rfl, ho0, ho1, hb0⟩; have hb : Below wk1.heap.size wk1 w5 := ⟨hb0.os, hb0.tape, hb0.output, hb0.size, hb0.block⟩; have HC := Aside0.mk (Kd.R_lower ho0 HBw.out.size); have HD := Aside0.mk (Kd.R_lower ho1 HBw.out.size); have n_B0 := Aside0.mk (blk_below B0.out hb); clear B0; have B0 := n_B0; clear n_B0; have n_B1 := Aside0.mk (blk_below B1.out hb); clear B1; have B1 := n_B1; clear n_B1; have n_BR := Aside0.mk (blk_below BR.out hb); clear BR; have BR := n_BR; clear n_BR; have n9 := Aside0.mk (below_then HBw.out HBw.out.size hb); clear HBw; have HBw := n9; clear n9; clear hb hb0 ho0 ho1; obtain ⟨AC, cC, eC⟩ := Kd.R_slice HC.out; subst eC; obtain ⟨AD, cD, eD⟩ := Kd.R_slice HD.out; subst eD)
      | ((with_reducible refine gate_dst (N := 5) rfl ?_); refine box_event ?hg (N := 5) ?hd (cs := #[.slice none 0 0, .slice none 0 0, .int .i64 0]) (t := 26) ?hr ?_; (case hd => rfl); (case hg => rfl); (case hr => first | (go_simp; done) | (go_simp; rfl)); intro GF hG w6 hbox hb; have BF := Aside0.mk hbox; have GEF := Aside0.mk (show w.heap.size ≤ GF by rw [hG]; exact HBw.out.size); have NEFG0 := Aside0.mk (show G0 ≠ GF by rw [hG]; exact Nat.ne_of_lt (blk_lt B0.out)); have NEFG1 := Aside0.mk (show G1 ≠ GF by rw [hG]; exact Nat.ne_of_lt (blk_lt B1.out)); have NEFGR := Aside0.mk (show GR ≠ GF by rw [hG]; exact Nat.ne_of_lt (blk_lt BR.out)); have n_B0 := Aside0.mk (blk_below B0.out hb); clear B0; have B0 := n_B0; clear n_B0; have n_B1 := Aside0.mk (blk_below B1.out hb); clear B1; have B1 := n_B1; clear n_B1; have n_BR := Aside0.mk (blk_below BR.out hb); clear BR; have BR := n_BR; clear n_BR; have n1 := Aside0.mk (Kd.R_below HC.out hb); have n2 := Aside0.mk (Kd.R_below HD.out hb); clear HC HD; have HC := n1; have HD := n2; clear n1 n2; have n9 := Aside0.mk (below_then HBw.out HBw.out.size hb); clear HBw; have HBw := n9; clear n9; clear hbox hb hG; have hf0 : w6.cell? ⟨GF, 0, none⟩ = some (.slice none 0 0) := (blk_cell BF.out 0).trans rfl; have hf1 : w6.cell? ⟨GF, 1, none⟩ = some (.slice none 0 0) := (blk_cell BF.out 1).trans rfl; have hf2 : w6.cell? ⟨GF, 2, none⟩ = some (.int .i64 0) := (blk_cell BF.out 2).trans rfl; have hy0 := blk_frozen BF.out 0; have hy1 := blk_frozen BF.out 1; have hy2 := blk_frozen BF.out 2)
      | ((with_reducible refine gate_store (t := 26) (p := 5) rfl ?_); refine store_event (t := 26) (p := 5) (v := ?vo_) (w1 := (((w6.setCell ⟨GF, 0, none⟩ (.slice AC 3 cC)).setCell ⟨GF, 1, none⟩ (.slice AD 2 cD)).setCell ⟨GF, 2, none⟩ (.int .i64 0))) ?hg ?ho ?hn ?hr ?_; (case ho => rfl); (case hg => rfl); (case hn => rfl); (case hr => first | (go_simp; done) | (go_simp; rfl)); intro w7 hw; have n1 : Aside0 (Kd.R (Kd.int .i64) 3 w7 w.heap.size (fun k => some k ≠ (Value.slice AD 2 cD).ownBlock) (.slice AC 3 cC) [0, 0, 0]) := ⟨by rw [hw]; exact R_put3 HC.out BF.out (by decide)⟩; have n2 : Aside0 (Kd.R (Kd.int .i64) 3 w7 w.heap.size (fun k => some k ≠ (Value.slice AC 3 cC).ownBlock) (.slice AD 2 cD) [0, 0]) := ⟨by rw [hw]; exact R_put3 HD.out BF.out (by decide)⟩; have n_B0 : Aside0 (w7.heap[G0]? = some (.cells #[.slice A0_0 l0_0.length c0_0, .slice A0_1 l0_1.length c0_1, .int .i64 a0_2] 26 (0, 0))) := ⟨by rw [hw]; exact far3 B0.out NEFG0.out⟩; clear B0; have B0 := n_B0; clear n_B0; have n_B1 : Aside0 (w7.heap[G1]? = some (.cells #[.slice A1_0 l1_0.length c1_0, .slice A1_1 l1_1.length c1_1, .int .i64 a1_2] 26 (0, 0))) := ⟨by rw [hw]; exact far3 B1.out NEFG1.out⟩; clear B1; have B1 := n_B1; clear n_B1; have n_BR : Aside0 (w7.heap[GR]? = some (.cells #[.slice none 0 0, .slice none 0 0, .int .i64 0] 26 (0, 0))) := ⟨by rw [hw]; exact far3 BR.out NEFGR.out⟩; clear BR; have BR := n_BR; clear n_BR; have n4 : Aside0 (w7.heap[GF]? = some (.cells #[.slice AC 3 cC, .slice AD 2 cD, .int .i64 0] 26 (0, 0))) := ⟨by rw [hw]; exact put3 BF.out⟩; have n5 : Aside0 (Below w.heap.size w w7) := ⟨by rw [hw]; exact below_put3 HBw.out GEF.out⟩; clear HC HD BF HBw hw; have HC := n1; have HD := n2; have BF := n4; have HBw := n5; clear n1 n2 n4 n5; have hb0_0 : w7.cell? ⟨G0, 0, none⟩ = some (.slice A0_0 l0_0.length c0_0) := (blk_cell B0.out 0).trans rfl; have hb0_1 : w7.cell? ⟨G0, 1, none⟩ = some (.slice A0_1 l0_1.length c0_1) := (blk_cell B0.out 1).trans rfl; have hb0_2 : w7.cell? ⟨G0, 2, none⟩ = some (.int .i64 a0_2) := (blk_cell B0.out 2).trans rfl)
      | (go_at_call 43; (with_reducible refine (HA0.out _ _ HBw.out _ _ GEF.out BF.out HC.out HD.out).mono ?_); rintro e wa0 ⟨rfl, hF, hC, hD, hB, hKp⟩; (try simp only [Int.zero_add, Int.one_mul] at hF); have n_B0 := Aside0.mk (blk_kept B0.out hKp (fun e_ => e_.elim (fun e_ => NEFG0.out e_) (fun e_ => e_.elim (fun e_ => Kd.R_ne HC.out B0.out (by decide) e_) (fun e_ => Kd.R_ne HD.out B0.out (by decide) e_)))); have n_B1 := Aside0.mk (blk_kept B1.out hKp (fun e_ => e_.elim (fun e_ => NEFG1.out e_) (fun e_ => e_.elim (fun e_ => Kd.R_ne HC.out B1.out (by decide) e_) (fun e_ => Kd.R_ne HD.out B1.out (by decide) e_)))); have n_BR := Aside0.mk (blk_kept BR.out hKp (fun e_ => e_.elim (fun e_ => NEFGR.out e_) (fun e_ => e_.elim (fun e_ => Kd.R_ne HC.out BR.out (by decide) e_) (fun e_ => Kd.R_ne HD.out BR.out (by decide) e_)))); clear B0; have B0 := n_B0; clear n_B0; clear B1; have B1 := n_B1; clear n_B1; clear BR; have BR := n_BR; clear n_BR; have n1 := Aside0.mk hF; have n2 := Aside0.mk hC; have n3 := Aside0.mk hD; have n4 := Aside0.mk hB; clear BF HC HD HBw hF hC hD hB hKp; have BF := n1; have HC := n2; have HD := n3; have HBw := n4; clear n1 n2 n3 n4; have hf0_0 : wa0.cell? ⟨GF, 0, none⟩ = some (.slice AC 3 cC) := (blk_cell BF.out 0).trans rfl; have hf0_1 : wa0.cell? ⟨GF, 1, none⟩ = some (.slice AD 2 cD) := (blk_cell BF.out 1).trans rfl; have hf0_2 : wa0.cell? ⟨GF, 2, none⟩ = some (.int .i64 (wrap64 (wrap64 a0_2))) := (blk_cell BF.out 2).trans rfl; have hb1_0 : wa0.cell? ⟨G1, 0, none⟩ = some (.slice A1_0 l1_0.length c1_0) := (blk_cell B1.out 0).trans rfl; have hb1_1 : wa0.cell? ⟨G1, 1, none⟩ = some (.slice A1_1 l1_1.length c1_1) := (blk_cell B1.out 1).trans rfl; have hb1_2 : wa0.cell? ⟨G1, 2, none⟩ = some (.int .i64 a1_2) := (blk_cell B1.out 2).trans rfl)
      | (go_at_call 43; (with_reducible refine (HA1.out _ _ HBw.out _ _ GEF.out BF.out HC.out HD.out).mono ?_); rintro e wa1 ⟨rfl, hF, hC, hD, hB, hKp⟩; (try simp only [Int.zero_add, Int.one_mul] at hF); have n_B0 := Aside0.mk (blk_kept B0.out hKp (fun e_ => e_.elim (fun e_ => NEFG0.out e_) (fun e_ => e_.elim (fun e_ => Kd.R_ne HC.out B0.out (by decide) e_) (fun e_ => Kd.R_ne HD.out B0.out (by decide) e_)))); have n_B1 := Aside0.mk (blk_kept B1.out hKp (fun e_ => e_.elim (fun e_ => NEFG1.out e_) (fun e_ => e_.elim (fun e_ => Kd.R_ne HC.out B1.out (by decide) e_) (fun e_ => Kd.R_ne HD.out B1.out (by decide) e_)))); have n_BR := Aside0.mk (blk_kept BR.out hKp (fun e_ => e_.elim (fun e_ => NEFGR.out e_) (fun e_ => e_.elim (fun e_ => Kd.R_ne HC.out BR.out (by decide) e_) (fun e_ => Kd.R_ne HD.out BR.out (by decide) e_)))); clear B0; have B0 := n_B0; clear n_B0; clear B1; have B1 := n_B1; clear n_B1; clear BR; have BR := n_BR; clear n_BR; have n1 := Aside0.mk hF; have n2 := Aside0.mk hC; have n3 := Aside0.mk hD; have n4 := Aside0.mk hB; clear BF HC HD HBw hF hC hD hB hKp; have BF := n1; have HC := n2; have HD := n3; have HBw := n4; clear n1 n2 n3 n4; have hf1_0 : wa1.cell? ⟨GF, 0, none⟩ = some (.slice AC 3 cC) := (blk_cell BF.out 0).trans rfl; have hf1_1 : wa1.cell? ⟨GF, 1, none⟩ = some (.slice AD 2 cD) := (blk_cell BF.out 1).trans rfl; have hf1_2 : wa1.cell? ⟨GF, 2, none⟩ = some (.int .i64 (wrap64 ((wrap64 (wrap64 a0_2)) + wrap64 a1_2))) := (blk_cell BF.out 2).trans rfl; skip)
      | (go_at_call 44; (with_reducible refine (checked_calls _ _ _ _ _ true w _ HBw.out HC.out HD.out HCK.out).mono ?_); rintro e w9 ⟨u0, u1, rfl, hu0, hu1, hB, hb⟩; simp only [if_true, Bool.false_eq_true, if_false] at hu0 hu1; have n1 := Aside0.mk (blk_below BR.out hb); clear BR; have BR := n1; clear n1; have HU0 := Aside0.mk hu0; have HU1 := Aside0.mk hu1; have HB9 := Aside0.mk hB; clear hu0 hu1 hB hb; obtain ⟨U0, q0, e0⟩ := Kd.R_slice HU0.out; subst e0; obtain ⟨U1, q1, e1⟩ := Kd.R_slice HU1.out; subst e1; have hr0 : w9.cell? ⟨GR, 0, none⟩ = some (.slice none 0 0) := (blk_cell BR.out 0).trans rfl; have hr1 : w9.cell? ⟨GR, 1, none⟩ = some (.slice none 0 0) := (blk_cell BR.out 1).trans rfl; have hr2 : w9.cell? ⟨GR, 2, none⟩ = some (.int .i64 0) := (blk_cell BR.out 2).trans rfl; have hs0 := blk_frozen BR.out 0; have hs1 := blk_frozen BR.out 1; have hs2 := blk_frozen BR.out 2))
    refine bodyPost_ret (results_cell_row rfl _ _ GR 26 #[.slice none 0 0, .slice none 0 0, .int .i64 0] (0, 0) _ rfl (put3 (by first | exact BR.out | exact blk_drewN BR.out _)) Try.underlying26 rfl (by kernel_rfl)) rfl ?_
    exact ⟨_, _, rfl, Kd.R_nil _ _ _ _ _, Kd.R_nil _ _ _ _ _, below_put3 (by first | exact HBw.out | exact pw_below_drewN HBw.out _) GER.out⟩
  | true =>
    simp only [if_true] at h
    obtain ⟨o1, ho1, h⟩ := Option.bind_eq_some_iff.mp h
    have HK1 := Aside0.mk (fun (W : World) (hb : Below w.heap.size w W) => impl_FrmOk.calls A1_0 c1_0 l1_0 A1_1 c1_1 l1_1 a1_2 o1 W (Kd.C_below hr1_0 hb) hc1_0 (Kd.C_below hr1_1 hb) hc1_1 ho1)
    clear ho1
    cases o1 with
    | false =>
      simp only [Bool.false_eq_true, if_false, Option.some.injEq, Prod.mk.injEq] at h
      obtain ⟨rfl, rfl, rfl⟩ := h
      go_enter Try.func11, Try.ntmps11
      go_wp2_with (first
        | ((with_reducible refine gate_dst (N := 2) rfl ?_); refine box_event ?hg (N := 2) ?hd (cs := #[.slice A0_0 l0_0.length c0_0, .slice A0_1 l0_1.length c0_1, .int .i64 a0_2]) (t := 26) ?hr ?_; (case hd => rfl); (case hg => rfl); (case hr => first | (go_simp; done) | (go_simp; rfl)); intro G0 hG w1 hbox hb; have B0 := Aside0.mk hbox; have n9 := Aside0.mk (below_then HBw.out HBw.out.size hb); clear HBw hbox hb hG; have HBw := n9; clear n9)
        | ((with_reducible refine gate_dst (N := 3) rfl ?_); refine box_event ?hg (N := 3) ?hd (cs := #[.slice A1_0 l1_0.length c1_0, .slice A1_1 l1_1.length c1_1, .int .i64 a1_2]) (t := 26) ?hr ?_; (case hd => rfl); (case hg => rfl); (case hr => first | (go_simp; done) | (go_simp; rfl)); intro G1 hG w2 hbox hb; have B1 := Aside0.mk hbox; have NE1_0 := Aside0.mk (show G1 ≠ G0 by rw [hG]; exact Nat.ne_of_gt (blk_lt B0.out)); have n0 := Aside0.mk (blk_below B0.out hb); clear B0; have B0 := n0; clear n0; have n9 := Aside0.mk (below_then HBw.out HBw.out.size hb); clear HBw hbox hb hG; have HBw := n9; clear n9)
        | ((with_reducible refine gate_dst (N := 4) rfl ?_); refine box_event ?hg (N := 4) ?hd (cs := #[.slice none 0 0, .slice none 0 0, .int .i64 0]) (t := 26) ?hr ?_; (case hd => rfl); (case hg => rfl); (case hr => first | (go_simp; done) | (go_simp; rfl)); intro GR hG w4 hbox hb; have BR := Aside0.mk hbox; have GER := Aside0.mk (show w.heap.size ≤ GR by rw [hG]; exact HBw.out.size); have NER0 := Aside0.mk (show GR ≠ G0 by rw [hG]; exact Nat.ne_of_gt (blk_lt B0.out)); have NER1 := Aside0.mk (show GR ≠ G1 by rw [hG]; exact Nat.ne_of_gt (blk_lt B1.out)); have n_B0 := Aside0.mk (blk_below B0.out hb); clear B0; have B0 := n_B0; clear n_B0; have n_B1 := Aside0.mk (blk_below B1.out hb); clear B1; have B1 := n_B1; clear n_B1; have n9 := Aside0.mk (below_then HBw.out HBw.out.size hb); clear HBw; have HBw := n9; clear n9; have hq0 : w4.cell? ⟨G0, 0, none⟩ = some (.slice A0_0 l0_0.length c0_0) := (blk_cell B0.out 0).trans rfl; have hq1 : w4.cell? ⟨G0, 1, none⟩ = some (.slice A0_1 l0_1.length c0_1) := (blk_cell B0.out 1).trans rfl; have hq2 : w4.cell? ⟨G0, 2, none⟩ = some (.int .i64 a0_2) := (blk_cell B0.out 2).trans rfl; clear hbox hb hG)
        | (go_at_call 41; (with_reducible refine (HK0.out _ HBw.out).mono ?_); rintro e wk0 ⟨rfl, hb⟩; have n_B0 := Aside0.mk (blk_below B0.out hb); clear B0; have B0 := n_B0; clear n_B0; have n_B1 := Aside0.mk (blk_below B1.out hb); clear B1; have B1 := n_B1; clear n_B1; have n_BR := Aside0.mk (blk_below BR.out hb); clear BR; have BR := n_BR; clear n_BR; have n9 := Aside0.mk (below_then HBw.out HBw.out.size hb); clear HBw; have HBw := n9; clear n9; clear hb; have hd0_0 : wk0.cell? ⟨GR, 0, none⟩ = some (.slice none 0 0) := (blk_cell BR.out 0).trans rfl; have hd0_1 : wk0.cell? ⟨GR, 1, none⟩ = some (.slice none 0 0) := (blk_cell BR.out 1).trans rfl; have hd0_2 : wk0.cell? ⟨GR, 2, none⟩ = some (.int .i64 0) := (blk_cell BR.out 2).trans rfl; have hz0_0 := blk_frozen BR.out 0; have hz0_1 := blk_frozen BR.out 1; have hz0_2 := blk_frozen BR.out 2; have ha1_0 : wk0.cell? ⟨G1, 0, none⟩ = some (.slice A1_0 l1_0.length c1_0) := (blk_cell B1.out 0).trans rfl; have ha1_1 : wk0.cell? ⟨G1, 1, none⟩ = some (.slice A1_1 l1_1.length c1_1) := (blk_cell B1.out 1).trans rfl; have ha1_2 : wk0.cell? ⟨G1, 2, none⟩ = some (.int .i64 a1_2) := (blk_cell B1.out 2).trans rfl)
        | (go_at_call 41; (with_reducible refine (HK1.out _ HBw.out).mono ?_); rintro e wk1 ⟨rfl, hb⟩; have n_B0 := Aside0.mk (blk_below B0.out hb); clear B0; have B0 := n_B0; clear n_B0; have n_B1 := Aside0.mk (blk_below B1.out hb); clear B1; have B1 := n_B1; clear n_B1; have n_BR := Aside0.mk (blk_below BR.out hb); clear BR; have BR := n_BR; clear n_BR; have n9 := Aside0.mk (below_then HBw.out HBw.out.size hb); clear HBw; have HBw := n9; clear n9; clear hb; have hd1_0 : wk1.cell? ⟨GR, 0, none⟩ = some (.slice none 0 0) := (blk_cell BR.out 0).trans rfl; have hd1_1 : wk1.cell? ⟨GR, 1, none⟩ = some (.slice none 0 0) := (blk_cell BR.out 1).trans rfl; have hd1_2 : wk1.cell? ⟨GR, 2, none⟩ = some (.int .i64 0) := (blk_cell BR.out 2).trans rfl; have hz1_0 := blk_frozen BR.out 0; have hz1_1 := blk_frozen BR.out 1; have hz1_2 := blk_frozen BR.out 2; skip)
        | (go_at_call 42; (with_reducible refine (HZ.out _).mono ?_); rintro e w5 ⟨vC, vD, rfl, ho0, ho1, hb0⟩; have hb : Below wk1.heap.size wk1 w5 := ⟨hb0.os, hb0.tape, hb0.output, hb0.size, hb0.block⟩; have HC := Aside0.mk (Kd.R_lower ho0 HBw.out.size); have HD := Aside0.mk (Kd.R_lower ho1 HBw.out.size); have n_B0 := Aside0.mk (blk_below B0.out hb); clear B0; have B0 := n_B0; clear n_B0; have n_B1 := Aside0.mk (blk_below B1.out hb); clear B1; have B1 := n_B1; clear n_B1; have n_BR := Aside0.mk (blk_below BR.out hb); clear BR; have BR := n_BR; clear n_BR; have n9 := Aside0.mk (below_then HBw.out HBw.out.size hb); clear HBw; have HBw := n9; clear n9; clear hb hb0 ho0 ho1; obtain ⟨AC, cC, eC⟩ := Kd.R_slice HC.out; subst eC; obtain ⟨AD, cD, eD⟩ := Kd.R_slice HD.out; subst eD)
        | ((with_reducible refine gate_dst (N := 5) rfl ?_); refine box_event ?hg (N := 5) ?hd (cs := #[.slice none 0 0, .slice none 0 0, .int .i64 0]) (t := 26) ?hr ?_; (case hd => rfl); (case hg => rfl); (case hr => first | (go_simp; done) | (go_simp; rfl)); intro GF hG w6 hbox hb; have BF := Aside0.mk hbox; have GEF := Aside0.mk (show w.heap.size ≤ GF by rw [hG]; exact HBw.out.size); have NEFG0 := Aside0.mk (show G0 ≠ GF by rw [hG]; exact Nat.ne_of_lt (blk_lt B0.out)); have NEFG1 := Aside0.mk (show G1 ≠ GF by rw [hG]; exact Nat.ne_of_lt (blk_lt B1.out)); have NEFGR := Aside0.mk (show GR ≠ GF by rw [hG]; exact Nat.ne_of_lt (blk_lt BR.out)); have n_B0 := Aside0.mk (blk_below B0.out hb); clear B0; have B0 := n_B0; clear n_B0; have n_B1 := Aside0.mk (blk_below B1.out hb); clear B1; have B1 := n_B1; clear n_B1; have n_BR := Aside0.mk (blk_below BR.out hb); clear BR; have BR := n_BR; clear n_BR; have n1 := Aside0.mk (Kd.R_below HC.out hb); have n2 := Aside0.mk (Kd.R_below HD.out hb); clear HC HD; have HC := n1; have HD := n2; clear n1 n2; have n9 := Aside0.mk (below_then HBw.out HBw.out.size hb); clear HBw; have HBw := n9; clear n9; clear hbox hb hG; have hf0 : w6.cell? ⟨GF, 0, none⟩ = some (.slice none 0 0) := (blk_cell BF.out 0).trans rfl; have hf1 : w6.cell? ⟨GF, 1, none⟩ = some (.slice none 0 0) := (blk_cell BF.out 1).trans rfl; have hf2 : w6.cell? ⟨GF, 2, none⟩ = some (.int .i64 0) := (blk_cell BF.out 2).trans rfl; have hy0 := blk_frozen BF.out 0; have hy1 := blk_frozen BF.out 1; have hy2 := blk_frozen BF.out 2)
        | ((with_reducible refine gate_store (t := 26) (p := 5) rfl ?_); refine store_event (t := 26) (p := 5) (v := ?vo_) (w1 := (((w6.setCell ⟨GF, 0, none⟩ (.slice AC 3 cC)).setCell ⟨GF, 1, none⟩ (.slice AD 2 cD)).setCell ⟨GF, 2, none⟩ (.int .i64 0))) ?hg ?ho ?hn ?hr ?_; (case ho => rfl); (case hg => rfl); (case hn => rfl); (case hr => first | (go_simp; done) | (go_simp; rfl)); intro w7 hw; have n1 : Aside0 (Kd.R (Kd.int .i64) 3 w7 w.heap.size (fun k => some k ≠ (Value.slice AD 2 cD).ownBlock) (.slice AC 3 cC) [0, 0, 0]) := ⟨by rw [hw]; exact R_put3 HC.out BF.out (by decide)⟩; have n2 : Aside0 (Kd.R (Kd.int .i64) 3 w7 w.heap.size (fun k => some k ≠ (Value.slice AC 3 cC).ownBlock) (.slice AD 2 cD) [0, 0]) := ⟨by rw [hw]; exact R_put3 HD.out BF.out (by decide)⟩; have n_B0 : Aside0 (w7.heap[G0]? = some (.cells #[.slice A0_0 l0_0.length c0_0, .slice A0_1 l0_1.length c0_1, .int .i64 a0_2] 26 (0, 0))) := ⟨by rw [hw]; exact far3 B0.out NEFG0.out⟩; clear B0; have B0 := n_B0; clear n_B0; have n_B1 : Aside0 (w7.heap[G1]? = some (.cells #[.slice A1_0 l1_0.length c1_0, .slice A1_1 l1_1.length c1_1, .int .i64 a1_2] 26 (0, 0))) := ⟨by rw [hw]; exact far3 B1.out NEFG1.out⟩; clear B1; have B1 := n_B1; clear n_B1; have n_BR : Aside0 (w7.heap[GR]? = some (.cells #[.slice none 0 0, .slice none 0 0, .int .i64 0] 26 (0, 0))) := ⟨by rw [hw]; exact far3 BR.out NEFGR.out⟩; clear BR; have BR := n_BR; clear n_BR; have n4 : Aside0 (w7.heap[GF]? = some (.cells #[.slice AC 3 cC, .slice AD 2 cD, .int .i64 0] 26 (0, 0))) := ⟨by rw [hw]; exact put3 BF.out⟩; have n5 : Aside0 (Below w.heap.size w w7) := ⟨by rw [hw]; exact below_put3 HBw.out GEF.out⟩; clear HC HD BF HBw hw; have HC := n1; have HD := n2; have BF := n4; have HBw := n5; clear n1 n2 n4 n5; have hb0_0 : w7.cell? ⟨G0, 0, none⟩ = some (.slice A0_0 l0_0.length c0_0) := (blk_cell B0.out 0).trans rfl; have hb0_1 : w7.cell? ⟨G0, 1, none⟩ = some (.slice A0_1 l0_1.length c0_1) := (blk_cell B0.out 1).trans rfl; have hb0_2 : w7.cell? ⟨G0, 2, none⟩ = some (.int .i64 a0_2) := (blk_cell B0.out 2).trans rfl)
        | (go_at_call 43; (with_reducible refine (HA0.out _ _ HBw.out _ _ GEF.out BF.out HC.out HD.out).mono ?_); rintro e wa0 ⟨rfl, hF, hC, hD, hB, hKp⟩; (try simp only [Int.zero_add, Int.one_mul] at hF); have n_B0 := Aside0.mk (blk_kept B0.out hKp (fun e_ => e_.elim (fun e_ => NEFG0.out e_) (fun e_ => e_.elim (fun e_ => Kd.R_ne HC.out B0.out (by decide) e_) (fun e_ => Kd.R_ne HD.out B0.out (by decide) e_)))); have n_B1 := Aside0.mk (blk_kept B1.out hKp (fun e_ => e_.elim (fun e_ => NEFG1.out e_) (fun e_ => e_.elim (fun e_ => Kd.R_ne HC.out B1.out (by decide) e_) (fun e_ => Kd.R_ne HD.out B1.out (by decide) e_)))); have n_BR := Aside0.mk (blk_kept BR.out hKp (fun e_ => e_.elim (fun e_ => NEFGR.out e_) (fun e_ => e_.elim (fun e_ => Kd.R_ne HC.out BR.out (by decide) e_) (fun e_ => Kd.R_ne HD.out BR.out (by decide) e_)))); clear B0; have B0 := n_B0; clear n_B0; clear B1; have B1 := n_B1; clear n_B1; clear BR; have BR := n_BR; clear n_BR; have n1 := Aside0.mk hF; have n2 := Aside0.mk hC; have n3 := Aside0.mk hD; have n4 := Aside0.mk hB; clear BF HC HD HBw hF hC hD hB hKp; have BF := n1; have HC := n2; have HD := n3; have HBw := n4; clear n1 n2 n3 n4; have hf0_0 : wa0.cell? ⟨GF, 0, none⟩ = some (.slice AC 3 cC) := (blk_cell BF.out 0).trans rfl; have hf0_1 : wa0.cell? ⟨GF, 1, none⟩ = some (.slice AD 2 cD) := (blk_cell BF.out 1).trans rfl; have hf0_2 : wa0.cell? ⟨GF, 2, none⟩ = some (.int .i64 (wrap64 (wrap64 a0_2))) := (blk_cell BF.out 2).trans rfl; have hb1_0 : wa0.cell? ⟨G1, 0, none⟩ = some (.slice A1_0 l1_0.length c1_0) := (blk_cell B1.out 0).trans rfl; have hb1_1 : wa0.cell? ⟨G1, 1, none⟩ = some (.slice A1_1 l1_1.length c1_1) := (blk_cell B1.out 1).trans rfl; have hb1_2 : wa0.cell? ⟨G1, 2, none⟩ = some (.int .i64 a1_2) := (blk_cell B1.out 2).trans rfl)
        | (go_at_call 43; (with_reducible refine (HA1.out _ _ HBw.out _ _ GEF.out BF.out HC.out HD.out).mono ?_); rintro e wa1 ⟨rfl, hF, hC, hD, hB, hKp⟩; (try simp only [Int.zero_add, Int.one_mul] at hF); have n_B0 := Aside0.mk (blk_kept B0.out hKp (fun e_ => e_.elim (fun e_ => NEFG0.out e_) (fun e_ => e_.elim (fun e_ => Kd.R_ne HC.out B0.out (by decide) e_) (fun e_ => Kd.R_ne HD.out B0.out (by decide) e_)))); have n_B1 := Aside0.mk (blk_kept B1.out hKp (fun e_ => e_.elim (fun e_ => NEFG1.out e_) (fun e_ => e_.elim (fun e_ => Kd.R_ne HC.out B1.out (by decide) e_) (fun e_ => Kd.R_ne HD.out B1.out (by decide) e_)))); have n_BR := Aside0.mk (blk_kept BR.out hKp (fun e_ => e_.elim (fun e_ => NEFGR.out e_) (fun e_ => e_.elim (fun e_ => Kd.R_ne HC.out BR.out (by decide) e_) (fun e_ => Kd.R_ne HD.out BR.out (by decide) e_)))); clear B0; have B0 := n_B0; clear n_B0; clear B1; have B1 := n_B1; clear n_B1; clear BR; have BR := n_BR; clear n_BR; have n1 := Aside0.mk hF; have n2 := Aside0.mk hC; have n3 := Aside0.mk hD; have n4 := Aside0.mk hB; clear BF HC HD HBw hF hC hD hB hKp; have BF := n1; have HC := n2; have HD := n3; have HBw := n4; clear n1 n2 n3 n4; have hf1_0 : wa1.cell? ⟨GF, 0, none⟩ = some (.slice AC 3 cC) := (blk_cell BF.out 0).trans rfl; have hf1_1 : wa1.cell? ⟨GF, 1, none⟩ = some (.slice AD 2 cD) := (blk_cell BF.out 1).trans rfl; have hf1_2 : wa1.cell? ⟨GF, 2, none⟩ = some (.int .i64 (wrap64 ((wrap64 (wrap64 a0_2)) + wrap64 a1_2))) := (blk_cell BF.out 2).trans rfl; skip)
        | (go_at_call 44; (with_reducible refine (checked_calls _ _ _ _ _ true w _ HBw.out HC.out HD.out HCK.out).mono ?_); rintro e w9 ⟨u0, u1, rfl, hu0, hu1, hB, hb⟩; simp only [if_true, Bool.false_eq_true, if_false] at hu0 hu1; have n1 := Aside0.mk (blk_below BR.out hb); clear BR; have BR := n1; clear n1; have HU0 := Aside0.mk hu0; have HU1 := Aside0.mk hu1; have HB9 := Aside0.mk hB; clear hu0 hu1 hB hb; obtain ⟨U0, q0, e0⟩ := Kd.R_slice HU0.out; subst e0; obtain ⟨U1, q1, e1⟩ := Kd.R_slice HU1.out; subst e1; have hr0 : w9.cell? ⟨GR, 0, none⟩ = some (.slice none 0 0) := (blk_cell BR.out 0).trans rfl; have hr1 : w9.cell? ⟨GR, 1, none⟩ = some (.slice none 0 0) := (blk_cell BR.out 1).trans rfl; have hr2 : w9.cell? ⟨GR, 2, none⟩ = some (.int .i64 0) := (blk_cell BR.out 2).trans rfl; have hs0 := blk_frozen BR.out 0; have hs1 := blk_frozen BR.out 1; have hs2 := blk_frozen BR.out 2))
      refine bodyPost_ret (results_cell_row rfl _ _ GR 26 #[.slice none 0 0, .slice none 0 0, .int .i64 0] (0, 0) _ rfl (put3 (by first | exact BR.out | exact blk_drewN BR.out _)) Try.underlying26 rfl (by kernel_rfl)) rfl ?_
      exact ⟨_, _, rfl, Kd.R_nil _ _ _ _ _, Kd.R_nil _ _ _ _ _, below_put3 (by first | exact HBw.out | exact pw_below_drewN HBw.out _) GER.out⟩
    | true =>
      simp only [if_true] at h
      obtain ⟨x0, hx0, h⟩ := Option.bind_eq_some_iff.mp h
      obtain ⟨y0, hy0, h⟩ := Option.bind_eq_some_iff.mp h
      have HA0 := Aside0.mk (fun (W : World) (F : Nat) (hB : Below w.heap.size w W) (vC vD : Value) (hF0 : w.heap.size ≤ F) (hF : W.heap[F]? = some (.cells #[vC, vD, .int .i64 (0)] 26 (0, 0))) hC hD => add_calls 5 F vC vD [0, 0, 0] [0, 0] (0) A0_0 c0_0 l0_0 A0_1 c0_1 l0_1 a0_2 (1) x0 y0 w W hB hF0 hF hC hD hr0_0 hr0_1 hx0 hy0)
      obtain ⟨x1, hx1, h⟩ := Option.bind_eq_some_iff.mp h
      obtain ⟨y1, hy1, h⟩ := Option.bind_eq_some_iff.mp h
      have HA1 := Aside0.mk (fun (W : World) (F : Nat) (hB : Below w.heap.size w W) (vC vD : Value) (hF0 : w.heap.size ≤ F) (hF : W.heap[F]? = some (.cells #[vC, vD, .int .i64 ((wrap64 (wrap64 a0_2)))] 26 (0, 0))) hC hD => add_calls 5 F vC vD x0 y0 ((wrap64 (wrap64 a0_2))) A1_0 c1_0 l1_0 A1_1 c1_1 l1_1 a1_2 (1) x1 y1 w W hB hF0 hF hC hD hr1_0 hr1_1 hx1 hy1)
      obtain ⟨b, hbk, h⟩ := Option.bind_eq_some_iff.mp h
      have HCK := Aside0.mk hbk
      clear hbk hx0 hy0 hx1 hy1 hr0_0 hr0_1 hr1_0 hr1_1
      cases b with
      | false =>
        simp only [if_true, Bool.false_eq_true, if_false, Option.some.injEq, Prod.mk.injEq] at h
        obtain ⟨rfl, rfl, rfl⟩ := h
        go_enter Try.func11, Try.ntmps11
        go_wp2_with (first
          | ((with_reducible refine gate_dst (N := 2) rfl ?_); refine box_event ?hg (N := 2) ?hd (cs := #[.slice A0_0 l0_0.length c0_0, .slice A0_1 l0_1.length c0_1, .int .i64 a0_2]) (t := 26) ?hr ?_; (case hd => rfl); (case hg => rfl); (case hr => first | (go_simp; done) | (go_simp; rfl)); intro G0 hG w1 hbox hb; have B0 := Aside0.mk hbox; have n9 := Aside0.mk (below_then HBw.out HBw.out.size hb); clear HBw hbox hb hG; have HBw := n9; clear n9)
          | ((with_reducible refine gate_dst (N := 3) rfl ?_); refine box_event ?hg (N := 3) ?hd (cs := #[.slice A1_0 l1_0.length c1_0, .slice A1_1 l1_1.length c1_1, .int .i64 a1_2]) (t := 26) ?hr ?_; (case hd => rfl); (case hg => rfl); (case hr => first | (go_simp; done) | (go_simp; rfl)); intro G1 hG w2 hbox hb; have B1 := Aside0.mk hbox; have NE1_0 := Aside0.mk (show G1 ≠ G0 by rw [hG]; exact Nat.ne_of_gt (blk_lt B0.out)); have n0 := Aside0.mk (blk_below B0.out hb); clear B0; have B0 := n0; clear n0; have n9 := Aside0.mk (below_then HBw.out HBw.out.size hb); clear HBw hbox hb hG; have HBw := n9; clear n9)
          | ((with_reducible refine gate_dst (N := 4) rfl ?_); refine box_event ?hg (N := 4) ?hd (cs := #[.slice none 0 0, .slice none 0 0, .int .i64 0]) (t := 26) ?hr ?_; (case hd => rfl); (case hg => rfl); (case hr => first | (go_simp; done) | (go_simp; rfl)); intro GR hG w4 hbox hb; have BR := Aside0.mk hbox; have GER := Aside0.mk (show w.heap.size ≤ GR by rw [hG]; exact HBw.out.size); have NER0 := Aside0.mk (show GR ≠ G0 by rw [hG]; exact Nat.ne_of_gt (blk_lt B0.out)); have NER1 := Aside0.mk (show GR ≠ G1 by rw [hG]; exact Nat.ne_of_gt (blk_lt B1.out)); have n_B0 := Aside0.mk (blk_below B0.out hb); clear B0; have B0 := n_B0; clear n_B0; have n_B1 := Aside0.mk (blk_below B1.out hb); clear B1; have B1 := n_B1; clear n_B1; have n9 := Aside0.mk (below_then HBw.out HBw.out.size hb); clear HBw; have HBw := n9; clear n9; have hq0 : w4.cell? ⟨G0, 0, none⟩ = some (.slice A0_0 l0_0.length c0_0) := (blk_cell B0.out 0).trans rfl; have hq1 : w4.cell? ⟨G0, 1, none⟩ = some (.slice A0_1 l0_1.length c0_1) := (blk_cell B0.out 1).trans rfl; have hq2 : w4.cell? ⟨G0, 2, none⟩ = some (.int .i64 a0_2) := (blk_cell B0.out 2).trans rfl; clear hbox hb hG)
          | (go_at_call 41; (with_reducible refine (HK0.out _ HBw.out).mono ?_); rintro e wk0 ⟨rfl, hb⟩; have n_B0 := Aside0.mk (blk_below B0.out hb); clear B0; have B0 := n_B0; clear n_B0; have n_B1 := Aside0.mk (blk_below B1.out hb); clear B1; have B1 := n_B1; clear n_B1; have n_BR := Aside0.mk (blk_below BR.out hb); clear BR; have BR := n_BR; clear n_BR; have n9 := Aside0.mk (below_then HBw.out HBw.out.size hb); clear HBw; have HBw := n9; clear n9; clear hb; have hd0_0 : wk0.cell? ⟨GR, 0, none⟩ = some (.slice none 0 0) := (blk_cell BR.out 0).trans rfl; have hd0_1 : wk0.cell? ⟨GR, 1, none⟩ = some (.slice none 0 0) := (blk_cell BR.out 1).trans rfl; have hd0_2 : wk0.cell? ⟨GR, 2, none⟩ = some (.int .i64 0) := (blk_cell BR.out 2).trans rfl; have hz0_0 := blk_frozen BR.out 0; have hz0_1 := blk_frozen BR.out 1; have hz0_2 := blk_frozen BR.out 2; have ha1_0 : wk0.cell? ⟨G1, 0, none⟩ = some (.slice A1_0 l1_0.length c1_0) := (blk_cell B1.out 0).trans rfl; have ha1_1 : wk0.cell? ⟨G1, 1, none⟩ = some (.slice A1_1 l1_1.length c1_1) := (blk_cell B1.out 1).trans rfl; have ha1_2 : wk0.cell? ⟨G1, 2, none⟩ = some (.int .i64 a1_2) := (blk_cell B1.out 2).trans rfl)
          | (go_at_call 41; (with_reducible refine (HK1.out _ HBw.out).mono ?_); rintro e wk1 ⟨rfl, hb⟩; have n_B0 := Aside0.mk (blk_below B0.out hb); clear B0; have B0 := n_B0; clear n_B0; have n_B1 := Aside0.mk (blk_below B1.out hb); clear B1; have B1 := n_B1; clear n_B1; have n_BR := Aside0.mk (blk_below BR.out hb); clear BR; have BR := n_BR; clear n_BR; have n9 := Aside0.mk (below_then HBw.out HBw.out.size hb); clear HBw; have HBw := n9; clear n9; clear hb; have hd1_0 : wk1.cell? ⟨GR, 0, none⟩ = some (.slice none 0 0) := (blk_cell BR.out 0).trans rfl; have hd1_1 : wk1.cell? ⟨GR, 1, none⟩ = some (.slice none 0 0) := (blk_cell BR.out 1).trans rfl; have hd1_2 : wk1.cell? ⟨GR, 2, none⟩ = some (.int .i64 0) := (blk_cell BR.out 2).trans rfl; have hz1_0 := blk_frozen BR.out 0; have hz1_1 := blk_frozen BR.out 1; have hz1_2 := blk_frozen BR.out 2; skip)
          | (go_at_call 42; (with_reducible refine (HZ.out _).mono ?_); rintro e w5 ⟨vC, vD, rfl, ho0, ho1, hb0⟩; have hb : Below wk1.heap.size wk1 w5 := ⟨hb0.os, hb0.tape, hb0.output, hb0.size, hb0.block⟩; have HC := Aside0.mk (Kd.R_lower ho0 HBw.out.size); have HD := Aside0.mk (Kd.R_lower ho1 HBw.out.size); have n_B0 := Aside0.mk (blk_below B0.out hb); clear B0; have B0 := n_B0; clear n_B0; have n_B1 := Aside0.mk (blk_below B1.out hb); clear B1; have B1 := n_B1; clear n_B1; have n_BR := Aside0.mk (blk_below BR.out hb); clear BR; have BR := n_BR; clear n_BR; have n9 := Aside0.mk (below_then HBw.out HBw.out.size hb); clear HBw; have HBw := n9; clear n9; clear hb hb0 ho0 ho1; obtain ⟨AC, cC, eC⟩ := Kd.R_slice HC.out; subst eC; obtain ⟨AD, cD, eD⟩ := Kd.R_slice HD.out; subst eD)
          | ((with_reducible refine gate_dst (N := 5) rfl ?_); refine box_event ?hg (N := 5) ?hd (cs := #[.slice none 0 0, .slice none 0 0, .int .i64 0]) (t := 26) ?hr ?_; (case hd => rfl); (case hg => rfl); (case hr => first | (go_simp; done) | (go_simp; rfl)); intro GF hG w6 hbox hb; have BF := Aside0.mk hbox; have GEF := Aside0.mk (show w.heap.size ≤ GF by rw [hG]; exact HBw.out.size); have NEFG0 := Aside0.mk (show G0 ≠ GF by rw [hG]; exact Nat.ne_of_lt (blk_lt B0.out)); have NEFG1 := Aside0.mk (show G1 ≠ GF by rw [hG]; exact Nat.ne_of_lt (blk_lt B1.out)); have NEFGR := Aside0.mk (show GR ≠ GF by rw [hG]; exact Nat.ne_of_lt (blk_lt BR.out)); have n_B0 := Aside0.mk (blk_below B0.out hb); clear B0; have B0 := n_B0; clear n_B0; have n_B1 := Aside0.mk (blk_below B1.out hb); clear B1; have B1 := n_B1; clear n_B1; have n_BR := Aside0.mk (blk_below BR.out hb); clear BR; have BR := n_BR; clear n_BR; have n1 := Aside0.mk (Kd.R_below HC.out hb); have n2 := Aside0.mk (Kd.R_below HD.out hb); clear HC HD; have HC := n1; have HD := n2; clear n1 n2; have n9 := Aside0.mk (below_then HBw.out HBw.out.size hb); clear HBw; have HBw := n9; clear n9; clear hbox hb hG; have hf0 : w6.cell? ⟨GF, 0, none⟩ = some (.slice none 0 0) := (blk_cell BF.out 0).trans rfl; have hf1 : w6.cell? ⟨GF, 1, none⟩ = some (.slice none 0 0) := (blk_cell BF.out 1).trans rfl; have hf2 : w6.cell? ⟨GF, 2, none⟩ = some (.int .i64 0) := (blk_cell BF.out 2).trans rfl; have hy0 := blk_frozen BF.out 0; have hy1 := blk_frozen BF.out 1; have hy2 := blk_frozen BF.out 2)
          | ((with_reducible refine gate_store (t := 26) (p := 5) rfl ?_); refine store_event (t := 26) (p := 5) (v := ?vo_) (w1 := (((w6.setCell ⟨GF, 0, none⟩ (.slice AC 3 cC)).setCell ⟨GF, 1, none⟩ (.slice AD 2 cD)).setCell ⟨GF, 2, none⟩ (.int .i64 0))) ?hg ?ho ?hn ?hr ?_; (case ho => rfl); (case hg => rfl); (case hn => rfl); (case hr => first | (go_simp; done) | (go_simp; rfl)); intro w7 hw; have n1 : Aside0 (Kd.R (Kd.int .i64) 3 w7 w.heap.size (fun k => some k ≠ (Value.slice AD 2 cD).ownBlock) (.slice AC 3 cC) [0, 0, 0]) := ⟨by rw [hw]; exact R_put3 HC.out BF.out (by decide)⟩; have n2 : Aside0 (Kd.R (Kd.int .i64) 3 w7 w.heap.size (fun k => some k ≠ (Value.slice AC 3 cC).ownBlock) (.slice AD 2 cD) [0, 0]) := ⟨by rw [hw]; exact R_put3 HD.out BF.out (by decide)⟩; have n_B0 : Aside0 (w7.heap[G0]? = some (.cells #[.slice A0_0 l0_0.length c0_0, .slice A0_1 l0_1.length c0_1, .int .i64 a0_2] 26 (0, 0))) := ⟨by rw [hw]; exact far3 B0.out NEFG0.out⟩; clear B0; have B0 := n_B0; clear n_B0; have n_B1 : Aside0 (w7.heap[G1]? = some (.cells #[.slice A1_0 l1_0.length c1_0, .slice A1_1 l1_1.length c1_1, .int .i64 a1_2] 26 (0, 0))) := ⟨by rw [hw]; exact far3 B1.out NEFG1.out⟩; clear B1; have B1 := n_B1; clear n_B1; have n_BR : Aside0 (w7.heap[GR]? = some (.cells #[.slice none 0 0, .slice none 0 0, .int .i64 0] 26 (0, 0))) := ⟨by rw [hw]; exact far3 BR.out NEFGR.out⟩; clear BR; have BR := n_BR; clear n_BR; have n4 : Aside0 (w7.heap[GF]? = some (.cells #[.slice AC 3 cC, .slice AD 2 cD, .int .i64 0] 26 (0, 0))) := ⟨by rw [hw]; exact put3 BF.out⟩; have n5 : Aside0 (Below w.heap.size w w7) := ⟨by rw [hw]; exact below_put3 HBw.out GEF.out⟩; clear HC HD BF HBw hw; have HC := n1; have HD := n2; have BF := n4; have HBw := n5; clear n1 n2 n4 n5; have hb0_0 : w7.cell? ⟨G0, 0, none⟩ = some (.slice A0_0 l0_0.length c0_0) := (blk_cell B0.out 0).trans rfl; have hb0_1 : w7.cell? ⟨G0, 1, none⟩ = some (.slice A0_1 l0_1.length c0_1) := (blk_cell B0.out 1).trans rfl; have hb0_2 : w7.cell? ⟨G0, 2, none⟩ = some (.int .i64 a0_2) := (blk_cell B0.out 2).trans rfl)
          | (go_at_call 43; (with_reducible refine (HA0.out _ _ HBw.out _ _ GEF.out BF.out HC.out HD.out).mono ?_); rintro e wa0 ⟨rfl, hF, hC, hD, hB, hKp⟩; (try simp only [Int.zero_add, Int.one_mul] at hF); have n_B0 := Aside0.mk (blk_kept B0.out hKp (fun e_ => e_.elim (fun e_ => NEFG0.out e_) (fun e_ => e_.elim (fun e_ => Kd.R_ne HC.out B0.out (by decide) e_) (fun e_ => Kd.R_ne HD.out B0.out (by decide) e_)))); have n_B1 := Aside0.mk (blk_kept B1.out hKp (fun e_ => e_.elim (fun e_ => NEFG1.out e_) (fun e_ => e_.elim (fun e_ => Kd.R_ne HC.out B1.out (by decide) e_) (fun e_ => Kd.R_ne HD.out B1.out (by decide) e_)))); have n_BR := Aside0.mk (blk_kept BR.out hKp (fun e_ => e_.elim (fun e_ => NEFGR.out e_) (fun e_ => e_.elim (fun e_ => Kd.R_ne HC.out BR.out (by decide) e_) (fun e_ => Kd.R_ne HD.out BR.out (by decide) e_)))); clear B0; have B0 := n_B0; clear n_B0; clear B1; have B1 := n_B1; clear n_B1; clear BR; have BR := n_BR; clear n_BR; have n1 := Aside0.mk hF; have n2 := Aside0.mk hC; have n3 := Aside0.mk hD; have n4 := Aside0.mk hB; clear BF HC HD HBw hF hC hD hB hKp; have BF := n1; have HC := n2; have HD := n3; have HBw := n4; clear n1 n2 n3 n4; have hf0_0 : wa0.cell? ⟨GF, 0, none⟩ = some (.slice AC 3 cC) := (blk_cell BF.out 0).trans rfl; have hf0_1 : wa0.cell? ⟨GF, 1, none⟩ = some (.slice AD 2 cD) := (blk_cell BF.out 1).trans rfl; have hf0_2 : wa0.cell? ⟨GF, 2, none⟩ = some (.int .i64 (wrap64 (wrap64 a0_2))) := (blk_cell BF.out 2).trans rfl; have hb1_0 : wa0.cell? ⟨G1, 0, none⟩ = some (.slice A1_0 l1_0.length c1_0) := (blk_cell B1.out 0).trans rfl; have hb1_1 : wa0.cell? ⟨G1, 1, none⟩ = some (.slice A1_1 l1_1.length c1_1) := (blk_cell B1.out 1).trans rfl; have hb1_2 : wa0.cell? ⟨G1, 2, none⟩ = some (.int .i64 a1_2) := (blk_cell B1.out 2).trans rfl)
          | (go_at_call 43; (with_reducible refine (HA1.out _ _ HBw.out _ _ GEF.out BF.out HC.out HD.out).mono ?_); rintro e wa1 ⟨rfl, hF, hC, hD, hB, hKp⟩; (try simp only [Int.zero_add, Int.one_mul] at hF); have n_B0 := Aside0.mk (blk_kept B0.out hKp (fun e_ => e_.elim (fun e_ => NEFG0.out e_) (fun e_ => e_.elim (fun e_ => Kd.R_ne HC.out B0.out (by decide) e_) (fun e_ => Kd.R_ne HD.out B0.out (by decide) e_)))); have n_B1 := Aside0.mk (blk_kept B1.out hKp (fun e_ => e_.elim (fun e_ => NEFG1.out e_) (fun e_ => e_.elim (fun e_ => Kd.R_ne HC.out B1.out (by decide) e_) (fun e_ => Kd.R_ne HD.out B1.out (by decide) e_)))); have n_BR := Aside0.mk (blk_kept BR.out hKp (fun e_ => e_.elim (fun e_ => NEFGR.out e_) (fun e_ => e_.elim (fun e_ => Kd.R_ne HC.out BR.out (by decide) e_) (fun e_ => Kd.R_ne HD.out BR.out (by decide) e_)))); clear B0; have B0 := n_B0; clear n_B0; clear B1; have B1 := n_B1; clear n_B1; clear BR; have BR := n_BR; clear n_BR; have n1 := Aside0.mk hF; have n2 := Aside0.mk hC; have n3 := Aside0.mk hD; have n4 := Aside0.mk hB; clear BF HC HD HBw hF hC hD hB hKp; have BF := n1; have HC := n2; have HD := n3; have HBw := n4; clear n1 n2 n3 n4; have hf1_0 : wa1.cell? ⟨GF, 0, none⟩ = some (.slice AC 3 cC) := (blk_cell BF.out 0).trans rfl; have hf1_1 : wa1.cell? ⟨GF, 1, none⟩ = some (.slice AD 2 cD) := (blk_cell BF.out 1).trans rfl; have hf1_2 : wa1.cell? ⟨GF, 2, none⟩ = some (.int .i64 (wrap64 ((wrap64 (wrap64 a0_2)) + wrap64 a1_2))) := (blk_cell BF.out 2).trans rfl; skip)
          | (go_at_call 44; (with_reducible refine (checked_calls _ _ _ _ _ false w _ HBw.out HC.out HD.out HCK.out).mono ?_); rintro e w9 ⟨u0, u1, rfl, hu0, hu1, hB, hb⟩; simp only [if_true, Bool.false_eq_true, if_false] at hu0 hu1; have n1 := Aside0.mk (blk_below BR.out hb); clear BR; have BR := n1; clear n1; have HU0 := Aside0.mk hu0; have HU1 := Aside0.mk hu1; have HB9 := Aside0.mk hB; clear hu0 hu1 hB hb; obtain ⟨U0, q0, e0⟩ := Kd.R_slice HU0.out; subst e0; obtain ⟨U1, q1, e1⟩ := Kd.R_slice HU1.out; subst e1; have hr0 : w9.cell? ⟨GR, 0, none⟩ = some (.slice none 0 0) := (blk_cell BR.out 0).trans rfl; have hr1 : w9.cell? ⟨GR, 1, none⟩ = some (.slice none 0 0) := (blk_cell BR.out 1).trans rfl; have hr2 : w9.cell? ⟨GR, 2, none⟩ = some (.int .i64 0) := (blk_cell BR.out 2).trans rfl; have hs0 := blk_frozen BR.out 0; have hs1 := blk_frozen BR.out 1; have hs2 := blk_frozen BR.out 2))
        refine bodyPost_ret (results_cell_row rfl _ _ GR 26 #[.slice U0 0 q0, .slice U1 0 q1, .int .i64 0] (0, 0) _ rfl (put3 BR.out) Try.underlying26 rfl (by kernel_rfl)) rfl ?_
        exact ⟨_, _, rfl, R_put3 HU0.out BR.out (by decide), R_put3 HU1.out BR.out (by decide), below_put3 HB9.out GER.out⟩
      | true =>
        simp only [if_true, Bool.false_eq_true, if_false, Option.some.injEq, Prod.mk.injEq] at h
        obtain ⟨rfl, rfl, rfl⟩ := h
        go_enter Try.func11, Try.ntmps11
        go_wp2_with (first
          | ((with_reducible refine gate_dst (N := 2) rfl ?_); refine box_event ?hg (N := 2) ?hd (cs := #[.slice A0_0 l0_0.length c0_0, .slice A0_1 l0_1.length c0_1, .int .i64 a0_2]) (t := 26) ?hr ?_; (case hd => rfl); (case hg => rfl); (case hr => first | (go_simp; done) | (go_simp; rfl)); intro G0 hG w1 hbox hb; have B0 := Aside0.mk hbox; have n9 := Aside0.mk (below_then HBw.out HBw.out.size hb); clear HBw hbox hb hG; have HBw := n9; clear n9)
          | ((with_reducible refine gate_dst (N := 3) rfl ?_); refine box_event ?hg (N := 3) ?hd (cs := #[.slice A1_0 l1_0.length c1_0, .slice A1_1 l1_1.length c1_1, .int .i64 a1_2]) (t := 26) ?hr ?_; (case hd => rfl); (case hg => rfl); (case hr => first | (go_simp; done) | (go_simp; rfl)); intro G1 hG w2 hbox hb; have B1 := Aside0.mk hbox; have NE1_0 := Aside0.mk (show G1 ≠ G0 by rw [hG]; exact Nat.ne_of_gt (blk_lt B0.out)); have n0 := Aside0.mk (blk_below B0.out hb); clear B0; have B0 := n0; clear n0; have n9 := Aside0.mk (below_then HBw.out HBw.out.size hb); clear HBw hbox hb hG; have HBw := n9; clear n9)
          | ((with_reducible refine gate_dst (N := 4) rfl ?_); refine box_event ?hg (N := 4) ?hd (cs := #[.slice none 0 0, .slice none 0 0, .int .i64 0]) (t := 26) ?hr ?_; (case hd => rfl); (case hg => rfl); (case hr => first | (go_simp; done) | (go_simp; rfl)); intro GR hG w4 hbox hb; have BR := Aside0.mk hbox; have GER := Aside0.mk (show w.heap.size ≤ GR by rw [hG]; exact HBw.out.size); have NER0 := Aside0.mk (show GR ≠ G0 by rw [hG]; exact Nat.ne_of_gt (blk_lt B0.out)); have NER1 := Aside0.mk (show GR ≠ G1 by rw [hG]; exact Nat.ne_of_gt (blk_lt B1.out)); have n_B0 := Aside0.mk (blk_below B0.out hb); clear B0; have B0 := n_B0; clear n_B0; have n_B1 := Aside0.mk (blk_below B1.out hb); clear B1; have B1 := n_B1; clear n_B1; have n9 := Aside0.mk (below_then HBw.out HBw.out.size hb); clear HBw; have HBw := n9; clear n9; have hq0 : w4.cell? ⟨G0, 0, none⟩ = some (.slice A0_0 l0_0.length c0_0) := (blk_cell B0.out 0).trans rfl; have hq1 : w4.cell? ⟨G0, 1, none⟩ = some (.slice A0_1 l0_1.length c0_1) := (blk_cell B0.out 1).trans rfl; have hq2 : w4.cell? ⟨G0, 2, none⟩ = some (.int .i64 a0_2) := (blk_cell B0.out 2).trans rfl; clear hbox hb hG)
          | (go_at_call 41; (with_reducible refine (HK0.out _ HBw.out).mono ?_); rintro e wk0 ⟨rfl, hb⟩; have n_B0 := Aside0.mk (blk_below B0.out hb); clear B0; have B0 := n_B0; clear n_B0; have n_B1 := Aside0.mk (blk_below B1.out hb); clear B1; have B1 := n_B1; clear n_B1; have n_BR := Aside0.mk (blk_below BR.out hb); clear BR; have BR := n_BR; clear n_BR; have n9 := Aside0.mk (below_then HBw.out HBw.out.size hb); clear HBw; have HBw := n9; clear n9; clear hb; have hd0_0 : wk0.cell? ⟨GR, 0, none⟩ = some (.slice none 0 0) := (blk_cell BR.out 0).trans rfl; have hd0_1 : wk0.cell? ⟨GR, 1, none⟩ = some (.slice none 0 0) := (blk_cell BR.out 1).trans rfl; have hd0_2 : wk0.cell? ⟨GR, 2, none⟩ = some (.int .i64 0) := (blk_cell BR.out 2).trans rfl; have hz0_0 := blk_frozen BR.out 0; have hz0_1 := blk_frozen BR.out 1; have hz0_2 := blk_frozen BR.out 2; have ha1_0 : wk0.cell? ⟨G1, 0, none⟩ = some (.slice A1_0 l1_0.length c1_0) := (blk_cell B1.out 0).trans rfl; have ha1_1 : wk0.cell? ⟨G1, 1, none⟩ = some (.slice A1_1 l1_1.length c1_1) := (blk_cell B1.out 1).trans rfl; have ha1_2 : wk0.cell? ⟨G1, 2, none⟩ = some (.int .i64 a1_2) := (blk_cell B1.out 2).trans rfl)
          | (go_at_call 41; (with_reducible refine (HK1.out _ HBw.out).mono ?_); rintro e wk1 ⟨rfl, hb⟩; have n_B0 := Aside0.mk (blk_below B0.out hb); clear B0; have B0 := n_B0; clear n_B0; have n_B1 := Aside0.mk (blk_below B1.out hb); clear B1; have B1 := n_B1; clear n_B1; have n_BR := Aside0.mk (blk_below BR.out hb); clear BR; have BR := n_BR; clear n_BR; have n9 := Aside0.mk (below_then HBw.out HBw.out.size hb); clear HBw; have HBw := n9; clear n9; clear hb; have hd1_0 : wk1.cell? ⟨GR, 0, none⟩ = some (.slice none 0 0) := (blk_cell BR.out 0).trans rfl; have hd1_1 : wk1.cell? ⟨GR, 1, none⟩ = some (.slice none 0 0) := (blk_cell BR.out 1).trans rfl; have hd1_2 : wk1.cell? ⟨GR, 2, none⟩ = some (.int .i64 0) := (blk_cell BR.out 2).trans rfl; have hz1_0 := blk_frozen BR.out 0; have hz1_1 := blk_frozen BR.out 1; have hz1_2 := blk_frozen BR.out 2; skip)
          | (go_at_call 42; (with_reducible refine (HZ.out _).mono ?_); rintro e w5 ⟨vC, vD, rfl, ho0, ho1, hb0⟩; have hb : Below wk1.heap.size wk1 w5 := ⟨hb0.os, hb0.tape, hb0.output, hb0.size, hb0.block⟩; have HC := Aside0.mk (Kd.R_lower ho0 HBw.out.size); have HD := Aside0.mk (Kd.R_lower ho1 HBw.out.size); have n_B0 := Aside0.mk (blk_below B0.out hb); clear B0; have B0 := n_B0; clear n_B0; have n_B1 := Aside0.mk (blk_below B1.out hb); clear B1; have B1 := n_B1; clear n_B1; have n_BR := Aside0.mk (blk_below BR.out hb); clear BR; have BR := n_BR; clear n_BR; have n9 := Aside0.mk (below_then HBw.out HBw.out.size hb); clear HBw; have HBw := n9; clear n9; clear hb hb0 ho0 ho1; obtain ⟨AC, cC, eC⟩ := Kd.R_slice HC.out; subst eC; obtain ⟨AD, cD, eD⟩ := Kd.R_slice HD.out; subst eD)
          | ((with_reducible refine gate_dst (N := 5) rfl ?_); refine box_event ?hg (N := 5) ?hd (cs := #[.slice none 0 0, .slice none 0 0, .int .i64 0]) (t := 26) ?hr ?_; (case hd => rfl); (case hg => rfl); (case hr => first | (go_simp; done) | (go_simp; rfl)); intro GF hG w6 hbox hb; have BF := Aside0.mk hbox; have GEF := Aside0.mk (show w.heap.size ≤ GF by rw [hG]; exact HBw.out.size); have NEFG0 := Aside0.mk (show G0 ≠ GF by rw [hG]; exact Nat.ne_of_lt (blk_lt B0.out)); have NEFG1 := Aside0.mk (show G1 ≠ GF by rw [hG]; exact Nat.ne_of_lt (blk_lt B1.out)); have NEFGR := Aside0.mk (show GR ≠ GF by rw [hG]; exact Nat.ne_of_lt (blk_lt BR.out)); have n_B0 := Aside0.mk (blk_below B0.out hb); clear B0; have B0 := n_B0; clear n_B0; have n_B1 := Aside0.mk (blk_below B1.out hb); clear B1; have B1 := n_B1; clear n_B1; have n_BR := Aside0.mk (blk_below BR.out hb); clear BR; have BR := n_BR; clear n_BR; have n1 := Aside0.mk (Kd.R_below HC.out hb); have n2 := Aside0.mk (Kd.R_below HD.out hb); clear HC HD; have HC := n1; have HD := n2; clear n1 n2; have n9 := Aside0.mk (below_then HBw.out HBw.out.size hb); clear HBw; have HBw := n9; clear n9; clear hbox hb hG; have hf0 : w6.cell? ⟨GF, 0, none⟩ = some (.slice none 0 0) := (blk_cell BF.out 0).trans rfl; have hf1 : w6.cell? ⟨GF, 1, none⟩ = some (.slice none 0 0) := (blk_cell BF.out 1).trans rfl; have hf2 : w6.cell? ⟨GF, 2, none⟩ = some (.int .i64 0) := (blk_cell BF.out 2).trans rfl; have hy0 := blk_frozen BF.out 0; have hy1 := blk_frozen BF.out 1; have hy2 := blk_frozen BF.out 2)
          | ((with_reducible refine gate_store (t := 26) (p := 5) rfl ?_); refine store_event (t := 26) (p := 5) (v := ?vo_) (w1 := (((w6.setCell ⟨GF, 0, none⟩ (.slice AC 3 cC)).setCell ⟨GF, 1, none⟩ (.slice AD 2 cD)).setCell ⟨GF, 2, none⟩ (.int .i64 0))) ?hg ?ho ?hn ?hr ?_; (case ho => rfl); (case hg => rfl); (case hn => rfl); (case hr => first | (go_simp; done) | (go_simp; rfl)); intro w7 hw; have n1 : Aside0 (Kd.R (Kd.int .i64) 3 w7 w.heap.size (fun k => some k ≠ (Value.slice AD 2 cD).ownBlock) (.slice AC 3 cC) [0, 0, 0]) := ⟨by rw [hw]; exact R_put3 HC.out BF.out (by decide)⟩; have n2 : Aside0 (Kd.R (Kd.int .i64) 3 w7 w.heap.size (fun k => some k ≠ (Value.slice AC 3 cC).ownBlock) (.slice AD 2 cD) [0, 0]) := ⟨by rw [hw]; exact R_put3 HD.out BF.out (by decide)⟩; have n_B0 : Aside0 (w7.heap[G0]? = some (.cells #[.slice A0_0 l0_0.length c0_0, .slice A0_1 l0_1.length c0_1, .int .i64 a0_2] 26 (0, 0))) := ⟨by rw [hw]; exact far3 B0.out NEFG0.out⟩; clear B0; have B0 := n_B0; clear n_B0; have n_B1 : Aside0 (w7.heap[G1]? = some (.cells #[.slice A1_0 l1_0.length c1_0, .slice A1_1 l1_1.length c1_1, .int .i64 a1_2] 26 (0, 0))) := ⟨by rw [hw]; exact far3 B1.out NEFG1.out⟩; clear B1; have B1 := n_B1; clear n_B1; have n_BR : Aside0 (w7.heap[GR]? = some (.cells #[.slice none 0 0, .slice none 0 0, .int .i64 0] 26 (0, 0))) := ⟨by rw [hw]; exact far3 BR.out NEFGR.out⟩; clear BR; have BR := n_BR; clear n_BR; have n4 : Aside0 (w7.heap[GF]? = some (.cells #[.slice AC 3 cC, .slice AD 2 cD, .int .i64 0] 26 (0, 0))) := ⟨by rw [hw]; exact put3 BF.out⟩; have n5 : Aside0 (Below w.heap.size w w7) := ⟨by rw [hw]; exact below_put3 HBw.out GEF.out⟩; clear HC HD BF HBw hw; have HC := n1; have HD := n2; have BF := n4; have HBw := n5; clear n1 n2 n4 n5; have hb0_0 : w7.cell? ⟨G0, 0, none⟩ = some (.slice A0_0 l0_0.length c0_0) := (blk_cell B0.out 0).trans rfl; have hb0_1 : w7.cell? ⟨G0, 1, none⟩ = some (.slice A0_1 l0_1.length c0_1) := (blk_cell B0.out 1).trans rfl; have hb0_2 : w7.cell? ⟨G0, 2, none⟩ = some (.int .i64 a0_2) := (blk_cell B0.out 2).trans rfl)
          | (go_at_call 43; (with_reducible refine (HA0.out _ _ HBw.out _ _ GEF.out BF.out HC.out HD.out).mono ?_); rintro e wa0 ⟨rfl, hF, hC, hD, hB, hKp⟩; (try simp only [Int.zero_add, Int.one_mul] at hF); have n_B0 := Aside0.mk (blk_kept B0.out hKp (fun e_ => e_.elim (fun e_ => NEFG0.out e_) (fun e_ => e_.elim (fun e_ => Kd.R_ne HC.out B0.out (by decide) e_) (fun e_ => Kd.R_ne HD.out B0.out (by decide) e_)))); have n_B1 := Aside0.mk (blk_kept B1.out hKp (fun e_ => e_.elim (fun e_ => NEFG1.out e_) (fun e_ => e_.elim (fun e_ => Kd.R_ne HC.out B1.out (by decide) e_) (fun e_ => Kd.R_ne HD.out B1.out (by decide) e_)))); have n_BR := Aside0.mk (blk_kept BR.out hKp (fun e_ => e_.elim (fun e_ => NEFGR.out e_) (fun e_ => e_.elim (fun e_ => Kd.R_ne HC.out BR.out (by decide) e_) (fun e_ => Kd.R_ne HD.out BR.out (by decide) e_)))); clear B0; have B0 := n_B0; clear n_B0; clear B1; have B1 := n_B1; clear n_B1; clear BR; have BR := n_BR; clear n_BR; have n1 := Aside0.mk hF; have n2 := Aside0.mk hC; have n3 := Aside0.mk hD; have n4 := Aside0.mk hB; clear BF HC HD HBw hF hC hD hB hKp; have BF := n1; have HC := n2; have HD := n3; have HBw := n4; clear n1 n2 n3 n4; have hf0_0 : wa0.cell? ⟨GF, 0, none⟩ = some (.slice AC 3 cC) := (blk_cell BF.out 0).trans rfl; have hf0_1 : wa0.cell? ⟨GF, 1, none⟩ = some (.slice AD 2 cD) := (blk_cell BF.out 1).trans rfl; have hf0_2 : wa0.cell? ⟨GF, 2, none⟩ = some (.int .i64 (wrap64 (wrap64 a0_2))) := (blk_cell BF.out 2).trans rfl; have hb1_0 : wa0.cell? ⟨G1, 0, none⟩ = some (.slice A1_0 l1_0.length c1_0) := (blk_cell B1.out 0).trans rfl; have hb1_1 : wa0.cell? ⟨G1, 1, none⟩ = some (.slice A1_1 l1_1.length c1_1) := (blk_cell B1.out 1).trans rfl; have hb1_2 : wa0.cell? ⟨G1, 2, none⟩ = some (.int .i64 a1_2) := (blk_cell B1.out 2).trans rfl)
          | (go_at_call 43; (with_reducible refine (HA1.out _ _ HBw.out _ _ GEF.out BF.out HC.out HD.out).mono ?_); rintro e wa1 ⟨rfl, hF, hC, hD, hB, hKp⟩; (try simp only [Int.zero_add, Int.one_mul] at hF); have n_B0 := Aside0.mk (blk_kept B0.out hKp (fun e_ => e_.elim (fun e_ => NEFG0.out e_) (fun e_ => e_.elim (fun e_ => Kd.R_ne HC.out B0.out (by decide) e_) (fun e_ => Kd.R_ne HD.out B0.out (by decide) e_)))); have n_B1 := Aside0.mk (blk_kept B1.out hKp (fun e_ => e_.elim (fun e_ => NEFG1.out e_) (fun e_ => e_.elim (fun e_ => Kd.R_ne HC.out B1.out (by decide) e_) (fun e_ => Kd.R_ne HD.out B1.out (by decide) e_)))); have n_BR := Aside0.mk (blk_kept BR.out hKp (fun e_ => e_.elim (fun e_ => NEFGR.out e_) (fun e_ => e_.elim (fun e_ => Kd.R_ne HC.out BR.out (by decide) e_) (fun e_ => Kd.R_ne HD.out BR.out (by decide) e_)))); clear B0; have B0 := n_B0; clear n_B0; clear B1; have B1 := n_B1; clear n_B1; clear BR; have BR := n_BR; clear n_BR; have n1 := Aside0.mk hF; have n2 := Aside0.mk hC; have n3 := Aside0.mk hD; have n4 := Aside0.mk hB; clear BF HC HD HBw hF hC hD hB hKp; have BF := n1; have HC := n2; have HD := n3; have HBw := n4; clear n1 n2 n3 n4; have hf1_0 : wa1.cell? ⟨GF, 0, none⟩ = some (.slice AC 3 cC) := (blk_cell BF.out 0).trans rfl; have hf1_1 : wa1.cell? ⟨GF, 1, none⟩ = some (.slice AD 2 cD) := (blk_cell BF.out 1).trans rfl; have hf1_2 : wa1.cell? ⟨GF, 2, none⟩ = some (.int .i64 (wrap64 ((wrap64 (wrap64 a0_2)) + wrap64 a1_2))) := (blk_cell BF.out 2).trans rfl; skip)
          | (go_at_call 44; (with_reducible refine (checked_calls _ _ _ _ _ true w _ HBw.out HC.out HD.out HCK.out).mono ?_); rintro e w9 ⟨u0, u1, rfl, hu0, hu1, hB, hb⟩; simp only [if_true, Bool.false_eq_true, if_false] at hu0 hu1; have n1 := Aside0.mk (blk_below BR.out hb); clear BR; have BR := n1; clear n1; have HU0 := Aside0.mk hu0; have HU1 := Aside0.mk hu1; have HB9 := Aside0.mk hB; clear hu0 hu1 hB hb; obtain ⟨U0, q0, e0⟩ := Kd.R_slice HU0.out; subst e0; obtain ⟨U1, q1, e1⟩ := Kd.R_slice HU1.out; subst e1; have hr0 : w9.cell? ⟨GR, 0, none⟩ = some (.slice none 0 0) := (blk_cell BR.out 0).trans rfl; have hr1 : w9.cell? ⟨GR, 1, none⟩ = some (.slice none 0 0) := (blk_cell BR.out 1).trans rfl; have hr2 : w9.cell? ⟨GR, 2, none⟩ = some (.int .i64 0) := (blk_cell BR.out 2).trans rfl; have hs0 := blk_frozen BR.out 0; have hs1 := blk_frozen BR.out 1; have hs2 := blk_frozen BR.out 2))
        refine bodyPost_ret (results_cell_row rfl _ _ GR 26 #[.slice U0 x1.length q0, .slice U1 y1.length q1, .int .i64 (wrap64 ((wrap64 (wrap64 a0_2)) + wrap64 a1_2))] (0, 0) _ rfl (put3 BR.out) Try.underlying26 rfl (by kernel_rfl)) rfl ?_
        exact ⟨_, _, rfl, R_put3 HU0.out BR.out (by decide), R_put3 HU1.out BR.out (by decide), below_put3 HB9.out GER.out⟩

/-! ### laws_eqIntS: function 29 -/
def laws_eqIntS.l0 : Nat → List Int → List Int → Int → Option (Bool)
  | 0, _, _, _ => none
  | k + 1, x0, x1, x5 => if x5 < (x0.length : Int) then (if 0 ≤ x5 then (if x5 < (x1.length : Int) then (if (rd x0 x5) = (rd x1 x5) then (laws_eqIntS.l0 k x0 x1 (wrap64 (x5 + 1))) else (some false)) else (none)) else (none)) else (some true)
def laws_eqIntS.f (k : Nat) (l0 : List Int) (l1 : List Int) : Option (Bool) := if (l0.length : Int) = (l1.length : Int) then (laws_eqIntS.l0 k l0 l1 0) else (some false)
theorem laws_eqIntS.mono_l : ∀ k, (∀ y0 y1 y2, LeO (laws_eqIntS.l0 k y0 y1 y2) (laws_eqIntS.l0 (k + 1) y0 y1 y2))
  | 0 => fun _ _ _ r h => by simp [laws_eqIntS.l0] at h
  | k + 1 => by
    have ih0 := laws_eqIntS.mono_l k
    · intro y0 y1 y2
      unfold laws_eqIntS.l0
      repeat' first
      | (with_reducible exact ih0 _ _ _)
      | (with_reducible exact LeO.refl _)
      | (with_reducible exact LeO.none _)
      | (with_reducible refine LeO.ite ?_ ?_)
      | (with_reducible refine LeO.bind ?_ (fun _ => ?_))
      | exact ih0 _ _ _
      | exact LeO.none _
      | refine LeO.ite ?_ ?_
      | refine LeO.bind ?_ (fun _ => ?_)
theorem laws_eqIntS.mono : ∀ a0 a1 k, LeO (laws_eqIntS.f k a0 a1) (laws_eqIntS.f (k + 1) a0 a1) := by
  intro a0 a1 k
  have ih0 := laws_eqIntS.mono_l k
  unfold laws_eqIntS.f
  repeat' first
      | (with_reducible exact ih0 _ _ _)
      | (with_reducible exact LeO.refl _)
      | (with_reducible exact LeO.none _)
      | (with_reducible refine LeO.ite ?_ ?_)
      | (with_reducible refine LeO.bind ?_ (fun _ => ?_))
      | exact ih0 _ _ _
      | exact LeO.none _
      | refine LeO.ite ?_ ?_
      | refine LeO.bind ?_ (fun _ => ?_)
set_option maxHeartbeats 8000000 in
set_option maxRecDepth 100000 in
theorem laws_eqIntS.calls (k : Nat) (A0 : Option Addr) (c0 : Nat) (l0 : List Int) (A1 : Option Addr) (c1 : Nat) (l1 : List Int) (r : Bool) (w : World) (hr0 : Kd.C (Kd.int .i64) w A0 l0.length l0) (hc0 : l0.length ≤ c0) (hr1 : Kd.C (Kd.int .i64) w A1 l1.length l1) (hc1 : l1.length ≤ c1) (h : laws_eqIntS.f k l0 l1 = some r) :
    Calls Try.prog 29 #[.slice A0 l0.length c0, .slice A1 l1.length c1] w fun e w' => e = .returned (.bool r) ∧ Drawn0 w w' := by
  have HR0 := Aside0.mk hr0
  have HC0 := Aside0.mk hc0
  clear hr0 hc0
  have HR1 := Aside0.mk hr1
  have HC1 := Aside0.mk hc1
  clear hr1 hc1
  have H : (if (l0.length : Int) = (l1.length : Int) then (laws_eqIntS.l0 k l0 l1 0) else (some false)) = some r := h
  clear h
  by_cases c3 : (l0.length : Int) = (l1.length : Int)
  · rw [if_pos c3] at H
    have c3b0 : ((l0.length : Int) == (l1.length : Int)) = true := beq_iff_eq.mpr c3
    have c3b1 : ((l0.length : Int) != (l1.length : Int)) = false := bne_eq_false_iff_eq.mpr c3
    have c3b2 : (l0.length == l1.length) = true := by first | simpa using c3 | (simp at c3 ⊢; omega)
    clear c3
    have H' := Aside0.mk H
    clear H
    go_enter Try.func29, Try.ntmps29
    go_wp2
    repeat (go_quiet (fail); try go_wp2)
    go_loopg [5] k (fun kq v5 w' => ∃ (x5_1 : Int), v5 = .int .i64 x5_1 ∧ Aside0 (laws_eqIntS.l0 kq l0 l1 x5_1 = some r) ∧ Aside0 (kq ≤ k) ∧ Drawn0 w w')
    case atStart => exact ⟨(0), (by first | rfl | (simp; done) | (simp [*]; done)), H', ⟨Nat.le_refl _⟩, by repeat (first | exact Drawn0.refl _ | apply Drawn0.step)⟩
    case round =>
      clear H'
      try clear c1
      try clear c2
      try clear p2
      try clear c3
      try clear c3b0
      try clear c3b1
      try clear c3b2
      obtain ⟨x5_1, rfl, HA, HK1, ⟨m1, rfl⟩⟩ := hrel
      cases gk with
      | zero => exact absurd HA.out (by simp [laws_eqIntS.l0])
      | succ k1 =>
        have H := HA.out
        clear HA
        simp only [laws_eqIntS.l0] at H
        by_cases c4 : x5_1 < (l0.length : Int)
        · rw [if_pos c4] at H
          have c4b0 : decide (x5_1 < (l0.length : Int)) = true := decide_eq_true c4
          clear c4
          by_cases c5 : 0 ≤ x5_1
          · rw [if_pos c5] at H
            have c5b0 : decide (0 ≤ x5_1) = true := decide_eq_true c5
            clear c5
            by_cases c6 : x5_1 < (l1.length : Int)
            · rw [if_pos c6] at H
              have c6b0 : decide (x5_1 < (l1.length : Int)) = true := decide_eq_true c6
              clear c6
              by_cases c7 : (rd l0 x5_1) = (rd l1 x5_1)
              · rw [if_pos c7] at H
                have c7b0 : ((rd l0 x5_1) == (rd l1 x5_1)) = true := beq_iff_eq.mpr c7
                have c7b1 : ((rd l0 x5_1) != (rd l1 x5_1)) = false := bne_eq_false_iff_eq.mpr c7
                clear c7
                have H' := Aside0.mk H
                clear H
                have p179 : 0 ≤ (x5_1 : Int) := of_decide_eq_true (by first | (with_reducible assumption) | assumption)
                have q179 : x5_1 < (l0.length : Int) := of_decide_eq_true (by first | (with_reducible assumption) | assumption)
                obtain ⟨ad179, e179, hx179_0⟩ := Kd.at_int HR0.out x5_1 p179 q179
                cases e179
                replace p179 := eq_true p179
                replace q179 := eq_true q179
                have p180 : 0 ≤ (x5_1 : Int) := of_decide_eq_true (by first | (with_reducible assumption) | assumption)
                have q180 : x5_1 < (l1.length : Int) := of_decide_eq_true (by first | (with_reducible assumption) | assumption)
                obtain ⟨ad180, e180, hx180_0⟩ := Kd.at_int HR1.out x5_1 p180 q180
                cases e180
                replace p180 := eq_true p180
                replace q180 := eq_true q180
                go_wp2
                repeat (go_quiet (fail); try go_wp2)
                go_roundg k1
                case measure => have := HK1.out; omega
                case rel => exact ⟨(wrap64 (x5_1 + 1)), (by first | rfl | (simp; done) | (simp [*]; done)), H', ⟨by have := HK1.out; omega⟩, by repeat (first | exact Drawn0.refl _ | apply Drawn0.step)⟩
              · rw [if_neg c7] at H
                have c7b0 : ((rd l0 x5_1) == (rd l1 x5_1)) = false := beq_eq_false_iff_ne.mpr c7
                have c7b1 : ((rd l0 x5_1) != (rd l1 x5_1)) = true := bne_iff_ne.mpr c7
                obtain rfl := Option.some.inj H
                have p179 : 0 ≤ (x5_1 : Int) := of_decide_eq_true (by first | (with_reducible assumption) | assumption)
                have q179 : x5_1 < (l0.length : Int) := of_decide_eq_true (by first | (with_reducible assumption) | assumption)
                obtain ⟨ad179, e179, hx179_0⟩ := Kd.at_int HR0.out x5_1 p179 q179
                cases e179
                replace p179 := eq_true p179
                replace q179 := eq_true q179
                have p180 : 0 ≤ (x5_1 : Int) := of_decide_eq_true (by first | (with_reducible assumption) | assumption)
                have q180 : x5_1 < (l1.length : Int) := of_decide_eq_true (by first | (with_reducible assumption) | assumption)
                obtain ⟨ad180, e180, hx180_0⟩ := Kd.at_int HR1.out x5_1 p180 q180
                cases e180
                replace p180 := eq_true p180
                replace q180 := eq_true q180
                go_wp2
                repeat (go_quiet (fail); try go_wp2)
                go_ret
                exact ⟨by first | rfl | (simp; done) | (simp [*]; done), by repeat (first | exact Drawn0.refl _ | apply Drawn0.step)⟩
            · rw [if_neg c6] at H
              exact absurd H (by simp)
          · rw [if_neg c5] at H
            exact absurd H (by simp)
        · rw [if_neg c4] at H
          have c4b0 : decide (x5_1 < (l0.length : Int)) = false := decide_eq_false c4
          clear c4
          obtain rfl := Option.some.inj H
          go_wp2
          repeat (go_quiet (fail); try go_wp2)
          go_ret
          exact ⟨by first | rfl | (simp; done) | (simp [*]; done), by repeat (first | exact Drawn0.refl _ | apply Drawn0.step)⟩
  · rw [if_neg c3] at H
    have c3b0 : ((l0.length : Int) == (l1.length : Int)) = false := beq_eq_false_iff_ne.mpr c3
    have c3b1 : ((l0.length : Int) != (l1.length : Int)) = true := bne_iff_ne.mpr c3
    have c3b2 : (l0.length == l1.length) = false := by first | simpa using c3 | (simp at c3 ⊢; omega)
    obtain rfl := Option.some.inj H
    go_enter Try.func29, Try.ntmps29
    go_wp2
    repeat (go_quiet (fail); try go_wp2)
    go_ret
    exact ⟨by first | rfl | (simp; done) | (simp [*]; done), by repeat (first | exact Drawn0.refl _ | apply Drawn0.step)⟩

/-! ### laws_eqFrmForm: function 12 -/
def laws_eqFrmForm.f (k : Nat) (l0_0 : List Int) (l0_1 : List Int) (a0_2 : Int) (l1_0 : List Int) (l1_1 : List Int) (a1_2 : Int) : Option (Bool) := (laws_eqIntS.f k l0_0 l1_0).bind fun t183 => (if t183 = true then ((laws_eqIntS.f k l0_1 l1_1).bind fun t184 => (if t184 = true then (if a0_2 = a1_2 then (some true) else (some false)) else (some false))) else (some false))
theorem laws_eqFrmForm.mono : ∀ a0 a1 a2 a3 a4 a5 k, LeO (laws_eqFrmForm.f k a0 a1 a2 a3 a4 a5) (laws_eqFrmForm.f (k + 1) a0 a1 a2 a3 a4 a5) := by
  intro a0 a1 a2 a3 a4 a5 k
  unfold laws_eqFrmForm.f
  repeat' first
      | (with_reducible exact laws_eqIntS.mono _ _ _)
      | (with_reducible exact LeO.refl _)
      | (with_reducible exact LeO.none _)
      | (with_reducible refine LeO.ite ?_ ?_)
      | (with_reducible refine LeO.bind ?_ (fun _ => ?_))
      | exact laws_eqIntS.mono _ _ _
      | exact LeO.none _
      | refine LeO.ite ?_ ?_
      | refine LeO.bind ?_ (fun _ => ?_)
set_option maxHeartbeats 8000000 in
set_option maxRecDepth 100000 in
theorem laws_eqFrmForm.calls (k : Nat) (A0_0 : Option Addr) (c0_0 : Nat) (l0_0 : List Int) (A0_1 : Option Addr) (c0_1 : Nat) (l0_1 : List Int) (a0_2 : Int) (A1_0 : Option Addr) (c1_0 : Nat) (l1_0 : List Int) (A1_1 : Option Addr) (c1_1 : Nat) (l1_1 : List Int) (a1_2 : Int) (r : Bool) (w : World) (hr0_0 : Kd.C (Kd.int .i64) w A0_0 l0_0.length l0_0) (hc0_0 : l0_0.length ≤ c0_0) (hr0_1 : Kd.C (Kd.int .i64) w A0_1 l0_1.length l0_1) (hc0_1 : l0_1.length ≤ c0_1) (hr1_0 : Kd.C (Kd.int .i64) w A1_0 l1_0.length l1_0) (hc1_0 : l1_0.length ≤ c1_0) (hr1_1 : Kd.C (Kd.int .i64) w A1_1 l1_1.length l1_1) (hc1_1 : l1_1.length ≤ c1_1) (h : laws_eqFrmForm.f k l0_0 l0_1 a0_2 l1_0 l1_1 a1_2 = some r) :
    Calls Try.prog 12 #[.agg #[.slice A0_0 l0_0.length c0_0, .slice A0_1 l0_1.length c0_1, .int .i64 a0_2], .agg #[.slice A1_0 l1_0.length c1_0, .slice A1_1 l1_1.length c1_1, .int .i64 a1_2]] w fun e w' => e = .returned (.bool r) ∧ Below w.heap.size w w' := by
  have hu26 := Try.underlying26
  have HR0_0 := Aside0.mk hr0_0
  have HC0_0 := Aside0.mk hc0_0
  clear hr0_0 hc0_0
  have HR0_1 := Aside0.mk hr0_1
  have HC0_1 := Aside0.mk hc0_1
  clear hr0_1 hc0_1
  have HR1_0 := Aside0.mk hr1_0
  have HC1_0 := Aside0.mk hc1_0
  clear hr1_0 hc1_0
  have HR1_1 := Aside0.mk hr1_1
  have HC1_1 := Aside0.mk hc1_1
  clear hr1_1 hc1_1
  have HB := Aside0.mk (Below.refl w.heap.size w)
  have H : ((laws_eqIntS.f k l0_0 l1_0).bind fun t183 => (if t183 = true then ((laws_eqIntS.f k l0_1 l1_1).bind fun t184 => (if t184 = true then (if a0_2 = a1_2 then (some true) else (some false)) else (some false))) else (some false))) = some r := h
  clear h
  replace H := Option.bind_eq_some_iff.mp H
  obtain ⟨t183, A30, H⟩ := H
  replace H : (if t183 = true then ((laws_eqIntS.f k l0_1 l1_1).bind fun t184 => (if t184 = true then (if a0_2 = a1_2 then (some true) else (some false)) else (some false))) else (some false)) = some r := H
  have A3 := Aside0.mk A30
  clear A30
  by_cases c4 : t183 = true
  · subst c4
    have H1 : ((laws_eqIntS.f k l0_1 l1_1).bind fun t184 => (if t184 = true then (if a0_2 = a1_2 then (some true) else (some false)) else (some false))) = some r := by rw [if_pos rfl] at H; exact H
    clear H
    have H := H1
    clear H1
    replace H := Option.bind_eq_some_iff.mp H
    obtain ⟨t184, A50, H⟩ := H
    replace H : (if t184 = true then (if a0_2 = a1_2 then (some true) else (some false)) else (some false)) = some r := H
    have A5 := Aside0.mk A50
    clear A50
    by_cases c6 : t184 = true
    · subst c6
      have H1 : (if a0_2 = a1_2 then (some true) else (some false)) = some r := by rw [if_pos rfl] at H; exact H
      clear H
      have H := H1
      clear H1
      by_cases c7 : a0_2 = a1_2
      · rw [if_pos c7] at H
        have c7b0 : (a0_2 == a1_2) = true := beq_iff_eq.mpr c7
        have c7b1 : (a0_2 != a1_2) = false := bne_eq_false_iff_eq.mpr c7
        clear c7
        obtain rfl := Option.some.inj H
        go_enter Try.func12, Try.ntmps12
        go_wp2_with (first | ((with_reducible refine gate_dst (N := 2) rfl ?_); refine box_event ?hg (N := 2) ?hd (cs := #[.slice A0_0 l0_0.length c0_0, .slice A0_1 l0_1.length c0_1, .int .i64 a0_2]) (t := 26) ?hr ?_; (case hd => rfl); (case hg => rfl); (case hr => first | (go_simp; done) | (go_simp; rfl)); intro gb181 hg w8 hbox hb; have n0_ := Aside0.mk (below_step (by exact lB HB.out) hb); have n1_ := Aside0.mk (hbox); have n2_ := Aside0.mk ((by rw [hg]; exact (below_size (by exact lB HB.out)) : w.heap.size ≤ gb181)); have n3_ := Aside0.mk ((by rw [hg]; exact (below_size (by exact lB HB.out)) : w.heap.size ≤ gb181)); clear HB; have HB := n0_; have BK181 := n1_; have GW181 := n2_; have GE181 := n3_; clear n0_ n1_ n2_ n3_; clear hb hbox hg) | ((with_reducible refine gate_dst (N := 3) rfl ?_); refine box_event ?hg (N := 3) ?hd (cs := #[.slice A1_0 l1_0.length c1_0, .slice A1_1 l1_1.length c1_1, .int .i64 a1_2]) (t := 26) ?hr ?_; (case hd => rfl); (case hg => rfl); (case hr => first | (go_simp; done) | (go_simp; rfl)); intro gb182 hg w9 hbox hb; have n0_ := Aside0.mk (blk_below (g := gb181) (o := .cells #[.slice A0_0 l0_0.length c0_0, .slice A0_1 l0_1.length c0_1, .int .i64 a0_2] 26 (0, 0)) (by exact lK <| BK181.out) hb); have n1_ := Aside0.mk (below_step (by repeat (first | (with_reducible first | exact HB.out | apply below_alloc | apply pw_below_drewN | apply below_drew1 | refine below_set ?_ GE181.out) | exact HB.out)) hb); have n2_ := Aside0.mk (hbox); have n3_ := Aside0.mk ((by rw [hg]; exact (below_size (by repeat (first | (with_reducible first | exact HB.out | apply below_alloc | apply pw_below_drewN | apply below_drew1 | refine below_set ?_ GE181.out) | exact HB.out))) : w.heap.size ≤ gb182)); have n4_ := Aside0.mk ((by rw [hg]; exact (below_size (by repeat (first | (with_reducible first | exact HB.out | apply below_alloc | apply pw_below_drewN | apply below_drew1 | refine below_set ?_ GE181.out) | exact HB.out))) : w.heap.size ≤ gb182)); have n5_ := Aside0.mk ((neL hg (lK BK181.out) : gb181 ≠ gb182)); have n6_ := Aside0.mk ((neG hg (lK BK181.out) : gb182 ≠ gb181)); clear BK181; clear HB; have BK181 := n0_; have HB := n1_; have BK182 := n2_; have GW182 := n3_; have GE182 := n4_; have NB181_182 := n5_; have NB182_181 := n6_; clear n0_ n1_ n2_ n3_ n4_ n5_ n6_; clear hb hbox hg; have hnb10 := NB181_182.out; have hnc10 := NB182_181.out; have hcz11_0 : w9.cell? ⟨gb181, 0, none⟩ = some (.slice A0_0 l0_0.length c0_0) := (blk_cell BK181.out 0).trans rfl; have hcz11_1 : w9.cell? ⟨gb181, 1, none⟩ = some (.slice A0_1 l0_1.length c0_1) := (blk_cell BK181.out 1).trans rfl; have hcz11_2 : w9.cell? ⟨gb181, 2, none⟩ = some (.int .i64 a0_2) := (blk_cell BK181.out 2).trans rfl; have hfz11_0 := blk_frozen BK181.out 0; have hfz11_1 := blk_frozen BK181.out 1; have hfz11_2 := blk_frozen BK181.out 2; have hcz12_0 : w9.cell? ⟨gb182, 0, none⟩ = some (.slice A1_0 l1_0.length c1_0) := (blk_cell BK182.out 0).trans rfl; have hcz12_1 : w9.cell? ⟨gb182, 1, none⟩ = some (.slice A1_1 l1_1.length c1_1) := (blk_cell BK182.out 1).trans rfl; have hcz12_2 : w9.cell? ⟨gb182, 2, none⟩ = some (.int .i64 a1_2) := (blk_cell BK182.out 2).trans rfl; have hfz12_0 := blk_frozen BK182.out 0; have hfz12_1 := blk_frozen BK182.out 1; have hfz12_2 := blk_frozen BK182.out 2) | ((with_reducible refine gate_callee (f := 29) rfl ?_); refine goesL_ (some 9) rfl rfl Try.func29 (by kernel_rfl) rfl #[.slice A0_0 l0_0.length c0_0, .slice A1_0 l1_0.length c1_0] rfl (by (try simp only [List.map_toArray, List.map_cons, List.map_nil]); first | done | rfl | (simp only [List.length_drop, List.length_take]; rfl)) ?_; (with_reducible refine (laws_eqIntS.calls k _ _ l0_0 _ _ l1_0 true _ ?side1 ?side2 ?side3 ?side4 A3.out).mono ?_); (case side1 => exact lC <| (Kd.C_below HR0_0.out HB.out)); (case side2 => exact HC0_0.out); (case side3 => exact lC <| (Kd.C_below HR1_0.out HB.out)); (case side4 => exact HC1_0.out); rintro e w' ⟨rfl, ⟨nd, rfl⟩⟩; refine ⟨_, rfl, ?_⟩) | ((with_reducible refine gate_callee (f := 29) rfl ?_); refine goesL_ (some 15) rfl rfl Try.func29 (by kernel_rfl) rfl #[.slice A0_1 l0_1.length c0_1, .slice A1_1 l1_1.length c1_1] rfl (by (try simp only [List.map_toArray, List.map_cons, List.map_nil]); first | done | rfl | (simp only [List.length_drop, List.length_take]; rfl)) ?_; (with_reducible refine (laws_eqIntS.calls k _ _ l0_1 _ _ l1_1 true _ ?side1 ?side2 ?side3 ?side4 A5.out).mono ?_); (case side1 => repeat (first | exact (Kd.C_below HR0_1.out (by repeat (first | (with_reducible first | exact HB.out | apply below_alloc | apply pw_below_drewN | apply below_drew1 | refine below_set ?_ GE181.out | refine below_set ?_ GE182.out) | exact HB.out))) | (with_reducible refine Kd.C_alloc ?_ _) | (with_reducible refine Kd.C_drewN ?_ _) | (with_reducible refine Kd.C_drew ?_))); (case side2 => exact HC0_1.out); (case side3 => repeat (first | exact (Kd.C_below HR1_1.out (by repeat (first | (with_reducible first | exact HB.out | apply below_alloc | apply pw_below_drewN | apply below_drew1 | refine below_set ?_ GE181.out | refine below_set ?_ GE182.out) | exact HB.out))) | (with_reducible refine Kd.C_alloc ?_ _) | (with_reducible refine Kd.C_drewN ?_ _) | (with_reducible refine Kd.C_drew ?_))); (case side4 => exact HC1_1.out); rintro e w' ⟨rfl, ⟨nd, rfl⟩⟩; refine ⟨_, rfl, ?_⟩))
        go_ret
        exact ⟨by first | rfl | (simp [errW_none, errW_some] <;> rfl) | (simp [*, errW_none, errW_some] <;> rfl), by repeat (first | (with_reducible first | exact HB.out | apply below_alloc | apply pw_below_drewN | apply below_drew1 | refine below_set ?_ GE181.out | refine below_set ?_ GE182.out) | exact HB.out)⟩
      · rw [if_neg c7] at H
        have c7b0 : (a0_2 == a1_2) = false := beq_eq_false_iff_ne.mpr c7
        have c7b1 : (a0_2 != a1_2) = true := bne_iff_ne.mpr c7
        obtain rfl := Option.some.inj H
        go_enter Try.func12, Try.ntmps12
        go_wp2_with (first | ((with_reducible refine gate_dst (N := 2) rfl ?_); refine box_event ?hg (N := 2) ?hd (cs := #[.slice A0_0 l0_0.length c0_0, .slice A0_1 l0_1.length c0_1, .int .i64 a0_2]) (t := 26) ?hr ?_; (case hd => rfl); (case hg => rfl); (case hr => first | (go_simp; done) | (go_simp; rfl)); intro gb181 hg w13 hbox hb; have n0_ := Aside0.mk (below_step (by exact lB HB.out) hb); have n1_ := Aside0.mk (hbox); have n2_ := Aside0.mk ((by rw [hg]; exact (below_size (by exact lB HB.out)) : w.heap.size ≤ gb181)); have n3_ := Aside0.mk ((by rw [hg]; exact (below_size (by exact lB HB.out)) : w.heap.size ≤ gb181)); clear HB; have HB := n0_; have BK181 := n1_; have GW181 := n2_; have GE181 := n3_; clear n0_ n1_ n2_ n3_; clear hb hbox hg) | ((with_reducible refine gate_dst (N := 3) rfl ?_); refine box_event ?hg (N := 3) ?hd (cs := #[.slice A1_0 l1_0.length c1_0, .slice A1_1 l1_1.length c1_1, .int .i64 a1_2]) (t := 26) ?hr ?_; (case hd => rfl); (case hg => rfl); (case hr => first | (go_simp; done) | (go_simp; rfl)); intro gb182 hg w14 hbox hb; have n0_ := Aside0.mk (blk_below (g := gb181) (o := .cells #[.slice A0_0 l0_0.length c0_0, .slice A0_1 l0_1.length c0_1, .int .i64 a0_2] 26 (0, 0)) (by exact lK <| BK181.out) hb); have n1_ := Aside0.mk (below_step (by repeat (first | (with_reducible first | exact HB.out | apply below_alloc | apply pw_below_drewN | apply below_drew1 | refine below_set ?_ GE181.out) | exact HB.out)) hb); have n2_ := Aside0.mk (hbox); have n3_ := Aside0.mk ((by rw [hg]; exact (below_size (by repeat (first | (with_reducible first | exact HB.out | apply below_alloc | apply pw_below_drewN | apply below_drew1 | refine below_set ?_ GE181.out) | exact HB.out))) : w.heap.size ≤ gb182)); have n4_ := Aside0.mk ((by rw [hg]; exact (below_size (by repeat (first | (with_reducible first | exact HB.out | apply below_alloc | apply pw_below_drewN | apply below_drew1 | refine below_set ?_ GE181.out) | exact HB.out))) : w.heap.size ≤ gb182)); have n5_ := Aside0.mk ((neL hg (lK BK181.out) : gb181 ≠ gb182)); have n6_ := Aside0.mk ((neG hg (lK BK181.out) : gb182 ≠ gb181)); clear BK181; clear HB; have BK181 := n0_; have HB := n1_; have BK182 := n2_; have GW182 := n3_; have GE182 := n4_; have NB181_182 := n5_; have NB182_181 := n6_; clear n0_ n1_ n2_ n3_ n4_ n5_ n6_; clear hb hbox hg; have hnb15 := NB181_182.out; have hnc15 := NB182_181.out; have hcz16_0 : w14.cell? ⟨gb181, 0, none⟩ = some (.slice A0_0 l0_0.length c0_0) := (blk_cell BK181.out 0).trans rfl; have hcz16_1 : w14.cell? ⟨gb181, 1, none⟩ = some (.slice A0_1 l0_1.length c0_1) := (blk_cell BK181.out 1).trans rfl; have hcz16_2 : w14.cell? ⟨gb181, 2, none⟩ = some (.int .i64 a0_2) := (blk_cell BK181.out 2).trans rfl; have hfz16_0 := blk_frozen BK181.out 0; have hfz16_1 := blk_frozen BK181.out 1; have hfz16_2 := blk_frozen BK181.out 2; have hcz17_0 : w14.cell? ⟨gb182, 0, none⟩ = some (.slice A1_0 l1_0.length c1_0) := (blk_cell BK182.out 0).trans rfl; have hcz17_1 : w14.cell? ⟨gb182, 1, none⟩ = some (.slice A1_1 l1_1.length c1_1) := (blk_cell BK182.out 1).trans rfl; have hcz17_2 : w14.cell? ⟨gb182, 2, none⟩ = some (.int .i64 a1_2) := (blk_cell BK182.out 2).trans rfl; have hfz17_0 := blk_frozen BK182.out 0; have hfz17_1 := blk_frozen BK182.out 1; have hfz17_2 := blk_frozen BK182.out 2) | ((with_reducible refine gate_callee (f := 29) rfl ?_); refine goesL_ (some 9) rfl rfl Try.func29 (by kernel_rfl) rfl #[.slice A0_0 l0_0.length c0_0, .slice A1_0 l1_0.length c1_0] rfl (by (try simp only [List.map_toArray, List.map_cons, List.map_nil]); first | done | rfl | (simp only [List.length_drop, List.length_take]; rfl)) ?_; (with_reducible refine (laws_eqIntS.calls k _ _ l0_0 _ _ l1_0 true _ ?side1 ?side2 ?side3 ?side4 A3.out).mono ?_); (case side1 => exact lC <| (Kd.C_below HR0_0.out HB.out)); (case side2 => exact HC0_0.out); (case side3 => exact lC <| (Kd.C_below HR1_0.out HB.out)); (case side4 => exact HC1_0.out); rintro e w' ⟨rfl, ⟨nd, rfl⟩⟩; refine ⟨_, rfl, ?_⟩) | ((with_reducible refine gate_callee (f := 29) rfl ?_); refine goesL_ (some 15) rfl rfl Try.func29 (by kernel_rfl) rfl #[.slice A0_1 l0_1.length c0_1, .slice A1_1 l1_1.length c1_1] rfl (by (try simp only [List.map_toArray, List.map_cons, List.map_nil]); first | done | rfl | (simp only [List.length_drop, List.length_take]; rfl)) ?_; (with_reducible refine (laws_eqIntS.calls k _ _ l0_1 _ _ l1_1 true _ ?side1 ?side2 ?side3 ?side4 A5.out).mono ?_); (case side1 => repeat (first | exact (Kd.C_below HR0_1.out (by repeat (first | (with_reducible first | exact HB.out | apply below_alloc | apply pw_below_drewN | apply below_drew1 | refine below_set ?_ GE181.out | refine below_set ?_ GE182.out) | exact HB.out))) | (with_reducible refine Kd.C_alloc ?_ _) | (with_reducible refine Kd.C_drewN ?_ _) | (with_reducible refine Kd.C_drew ?_))); (case side2 => exact HC0_1.out); (case side3 => repeat (first | exact (Kd.C_below HR1_1.out (by repeat (first | (with_reducible first | exact HB.out | apply below_alloc | apply pw_below_drewN | apply below_drew1 | refine below_set ?_ GE181.out | refine below_set ?_ GE182.out) | exact HB.out))) | (with_reducible refine Kd.C_alloc ?_ _) | (with_reducible refine Kd.C_drewN ?_ _) | (with_reducible refine Kd.C_drew ?_))); (case side4 => exact HC1_1.out); rintro e w' ⟨rfl, ⟨nd, rfl⟩⟩; refine ⟨_, rfl, ?_⟩))
        go_ret
        exact ⟨by first | rfl | (simp [errW_none, errW_some] <;> rfl) | (simp [*, errW_none, errW_some] <;> rfl), by repeat (first | (with_reducible first | exact HB.out | apply below_alloc | apply pw_below_drewN | apply below_drew1 | refine below_set ?_ GE181.out | refine below_set ?_ GE182.out) | exact HB.out)⟩
    · replace c6 := Bool.eq_false_iff.mpr c6
      subst c6
      have H1 : (some false) = some r := by rw [if_neg (show ¬ (false = true) by decide)] at H; exact H
      clear H
      have H := H1
      clear H1
      obtain rfl := Option.some.inj H
      go_enter Try.func12, Try.ntmps12
      go_wp2_with (first | ((with_reducible refine gate_dst (N := 2) rfl ?_); refine box_event ?hg (N := 2) ?hd (cs := #[.slice A0_0 l0_0.length c0_0, .slice A0_1 l0_1.length c0_1, .int .i64 a0_2]) (t := 26) ?hr ?_; (case hd => rfl); (case hg => rfl); (case hr => first | (go_simp; done) | (go_simp; rfl)); intro gb181 hg w18 hbox hb; have n0_ := Aside0.mk (below_step (by exact lB HB.out) hb); have n1_ := Aside0.mk (hbox); have n2_ := Aside0.mk ((by rw [hg]; exact (below_size (by exact lB HB.out)) : w.heap.size ≤ gb181)); have n3_ := Aside0.mk ((by rw [hg]; exact (below_size (by exact lB HB.out)) : w.heap.size ≤ gb181)); clear HB; have HB := n0_; have BK181 := n1_; have GW181 := n2_; have GE181 := n3_; clear n0_ n1_ n2_ n3_; clear hb hbox hg) | ((with_reducible refine gate_dst (N := 3) rfl ?_); refine box_event ?hg (N := 3) ?hd (cs := #[.slice A1_0 l1_0.length c1_0, .slice A1_1 l1_1.length c1_1, .int .i64 a1_2]) (t := 26) ?hr ?_; (case hd => rfl); (case hg => rfl); (case hr => first | (go_simp; done) | (go_simp; rfl)); intro gb182 hg w19 hbox hb; have n0_ := Aside0.mk (blk_below (g := gb181) (o := .cells #[.slice A0_0 l0_0.length c0_0, .slice A0_1 l0_1.length c0_1, .int .i64 a0_2] 26 (0, 0)) (by exact lK <| BK181.out) hb); have n1_ := Aside0.mk (below_step (by repeat (first | (with_reducible first | exact HB.out | apply below_alloc | apply pw_below_drewN | apply below_drew1 | refine below_set ?_ GE181.out) | exact HB.out)) hb); have n2_ := Aside0.mk (hbox); have n3_ := Aside0.mk ((by rw [hg]; exact (below_size (by repeat (first | (with_reducible first | exact HB.out | apply below_alloc | apply pw_below_drewN | apply below_drew1 | refine below_set ?_ GE181.out) | exact HB.out))) : w.heap.size ≤ gb182)); have n4_ := Aside0.mk ((by rw [hg]; exact (below_size (by repeat (first | (with_reducible first | exact HB.out | apply below_alloc | apply pw_below_drewN | apply below_drew1 | refine below_set ?_ GE181.out) | exact HB.out))) : w.heap.size ≤ gb182)); have n5_ := Aside0.mk ((neL hg (lK BK181.out) : gb181 ≠ gb182)); have n6_ := Aside0.mk ((neG hg (lK BK181.out) : gb182 ≠ gb181)); clear BK181; clear HB; have BK181 := n0_; have HB := n1_; have BK182 := n2_; have GW182 := n3_; have GE182 := n4_; have NB181_182 := n5_; have NB182_181 := n6_; clear n0_ n1_ n2_ n3_ n4_ n5_ n6_; clear hb hbox hg; have hnb20 := NB181_182.out; have hnc20 := NB182_181.out; have hcz21_0 : w19.cell? ⟨gb181, 0, none⟩ = some (.slice A0_0 l0_0.length c0_0) := (blk_cell BK181.out 0).trans rfl; have hcz21_1 : w19.cell? ⟨gb181, 1, none⟩ = some (.slice A0_1 l0_1.length c0_1) := (blk_cell BK181.out 1).trans rfl; have hcz21_2 : w19.cell? ⟨gb181, 2, none⟩ = some (.int .i64 a0_2) := (blk_cell BK181.out 2).trans rfl; have hfz21_0 := blk_frozen BK181.out 0; have hfz21_1 := blk_frozen BK181.out 1; have hfz21_2 := blk_frozen BK181.out 2; have hcz22_0 : w19.cell? ⟨gb182, 0, none⟩ = some (.slice A1_0 l1_0.length c1_0) := (blk_cell BK182.out 0).trans rfl; have hcz22_1 : w19.cell? ⟨gb182, 1, none⟩ = some (.slice A1_1 l1_1.length c1_1) := (blk_cell BK182.out 1).trans rfl; have hcz22_2 : w19.cell? ⟨gb182, 2, none⟩ = some (.int .i64 a1_2) := (blk_cell BK182.out 2).trans rfl; have hfz22_0 := blk_frozen BK182.out 0; have hfz22_1 := blk_frozen BK182.out 1; have hfz22_2 := blk_frozen BK182.out 2) | ((with_reducible refine gate_callee (f := 29) rfl ?_); refine goesL_ (some 9) rfl rfl Try.func29 (by kernel_rfl) rfl #[.slice A0_0 l0_0.length c0_0, .slice A1_0 l1_0.length c1_0] rfl (by (try simp only [List.map_toArray, List.map_cons, List.map_nil]); first | done | rfl | (simp only [List.length_drop, List.length_take]; rfl)) ?_; (with_reducible refine (laws_eqIntS.calls k _ _ l0_0 _ _ l1_0 true _ ?side1 ?side2 ?side3 ?side4 A3.out).mono ?_); (case side1 => exact lC <| (Kd.C_below HR0_0.out HB.out)); (case side2 => exact HC0_0.out); (case side3 => exact lC <| (Kd.C_below HR1_0.out HB.out)); (case side4 => exact HC1_0.out); rintro e w' ⟨rfl, ⟨nd, rfl⟩⟩; refine ⟨_, rfl, ?_⟩) | ((with_reducible refine gate_callee (f := 29) rfl ?_); refine goesL_ (some 15) rfl rfl Try.func29 (by kernel_rfl) rfl #[.slice A0_1 l0_1.length c0_1, .slice A1_1 l1_1.length c1_1] rfl (by (try simp only [List.map_toArray, List.map_cons, List.map_nil]); first | done | rfl | (simp only [List.length_drop, List.length_take]; rfl)) ?_; (with_reducible refine (laws_eqIntS.calls k _ _ l0_1 _ _ l1_1 false _ ?side1 ?side2 ?side3 ?side4 A5.out).mono ?_); (case side1 => repeat (first | exact (Kd.C_below HR0_1.out (by repeat (first | (with_reducible first | exact HB.out | apply below_alloc | apply pw_below_drewN | apply below_drew1 | refine below_set ?_ GE181.out | refine below_set ?_ GE182.out) | exact HB.out))) | (with_reducible refine Kd.C_alloc ?_ _) | (with_reducible refine Kd.C_drewN ?_ _) | (with_reducible refine Kd.C_drew ?_))); (case side2 => exact HC0_1.out); (case side3 => repeat (first | exact (Kd.C_below HR1_1.out (by repeat (first | (with_reducible first | exact HB.out | apply below_alloc | apply pw_below_drewN | apply below_drew1 | refine below_set ?_ GE181.out | refine below_set ?_ GE182.out) | exact HB.out))) | (with_reducible refine Kd.C_alloc ?_ _) | (with_reducible refine Kd.C_drewN ?_ _) | (with_reducible refine Kd.C_drew ?_))); (case side4 => exact HC1_1.out); rintro e w' ⟨rfl, ⟨nd, rfl⟩⟩; refine ⟨_, rfl, ?_⟩))
      go_ret
      exact ⟨by first | rfl | (simp [errW_none, errW_some] <;> rfl) | (simp [*, errW_none, errW_some] <;> rfl), by repeat (first | (with_reducible first | exact HB.out | apply below_alloc | apply pw_below_drewN | apply below_drew1 | refine below_set ?_ GE181.out | refine below_set ?_ GE182.out) | exact HB.out)⟩
  · replace c4 := Bool.eq_false_iff.mpr c4
    subst c4
    have H1 : (some false) = some r := by rw [if_neg (show ¬ (false = true) by decide)] at H; exact H
    clear H
    have H := H1
    clear H1
    obtain rfl := Option.some.inj H
    go_enter Try.func12, Try.ntmps12
    go_wp2_with (first | ((with_reducible refine gate_dst (N := 2) rfl ?_); refine box_event ?hg (N := 2) ?hd (cs := #[.slice A0_0 l0_0.length c0_0, .slice A0_1 l0_1.length c0_1, .int .i64 a0_2]) (t := 26) ?hr ?_; (case hd => rfl); (case hg => rfl); (case hr => first | (go_simp; done) | (go_simp; rfl)); intro gb181 hg w23 hbox hb; have n0_ := Aside0.mk (below_step (by exact lB HB.out) hb); have n1_ := Aside0.mk (hbox); have n2_ := Aside0.mk ((by rw [hg]; exact (below_size (by exact lB HB.out)) : w.heap.size ≤ gb181)); have n3_ := Aside0.mk ((by rw [hg]; exact (below_size (by exact lB HB.out)) : w.heap.size ≤ gb181)); clear HB; have HB := n0_; have BK181 := n1_; have GW181 := n2_; have GE181 := n3_; clear n0_ n1_ n2_ n3_; clear hb hbox hg) | ((with_reducible refine gate_dst (N := 3) rfl ?_); refine box_event ?hg (N := 3) ?hd (cs := #[.slice A1_0 l1_0.length c1_0, .slice A1_1 l1_1.length c1_1, .int .i64 a1_2]) (t := 26) ?hr ?_; (case hd => rfl); (case hg => rfl); (case hr => first | (go_simp; done) | (go_simp; rfl)); intro gb182 hg w24 hbox hb; have n0_ := Aside0.mk (blk_below (g := gb181) (o := .cells #[.slice A0_0 l0_0.length c0_0, .slice A0_1 l0_1.length c0_1, .int .i64 a0_2] 26 (0, 0)) (by exact lK <| BK181.out) hb); have n1_ := Aside0.mk (below_step (by repeat (first | (with_reducible first | exact HB.out | apply below_alloc | apply pw_below_drewN | apply below_drew1 | refine below_set ?_ GE181.out) | exact HB.out)) hb); have n2_ := Aside0.mk (hbox); have n3_ := Aside0.mk ((by rw [hg]; exact (below_size (by repeat (first | (with_reducible first | exact HB.out | apply below_alloc | apply pw_below_drewN | apply below_drew1 | refine below_set ?_ GE181.out) | exact HB.out))) : w.heap.size ≤ gb182)); have n4_ := Aside0.mk ((by rw [hg]; exact (below_size (by repeat (first | (with_reducible first | exact HB.out | apply below_alloc | apply pw_below_drewN | apply below_drew1 | refine below_set ?_ GE181.out) | exact HB.out))) : w.heap.size ≤ gb182)); have n5_ := Aside0.mk ((neL hg (lK BK181.out) : gb181 ≠ gb182)); have n6_ := Aside0.mk ((neG hg (lK BK181.out) : gb182 ≠ gb181)); clear BK181; clear HB; have BK181 := n0_; have HB := n1_; have BK182 := n2_; have GW182 := n3_; have GE182 := n4_; have NB181_182 := n5_; have NB182_181 := n6_; clear n0_ n1_ n2_ n3_ n4_ n5_ n6_; clear hb hbox hg; have hnb25 := NB181_182.out; have hnc25 := NB182_181.out; have hcz26_0 : w24.cell? ⟨gb181, 0, none⟩ = some (.slice A0_0 l0_0.length c0_0) := (blk_cell BK181.out 0).trans rfl; have hcz26_1 : w24.cell? ⟨gb181, 1, none⟩ = some (.slice A0_1 l0_1.length c0_1) := (blk_cell BK181.out 1).trans rfl; have hcz26_2 : w24.cell? ⟨gb181, 2, none⟩ = some (.int .i64 a0_2) := (blk_cell BK181.out 2).trans rfl; have hfz26_0 := blk_frozen BK181.out 0; have hfz26_1 := blk_frozen BK181.out 1; have hfz26_2 := blk_frozen BK181.out 2; have hcz27_0 : w24.cell? ⟨gb182, 0, none⟩ = some (.slice A1_0 l1_0.length c1_0) := (blk_cell BK182.out 0).trans rfl; have hcz27_1 : w24.cell? ⟨gb182, 1, none⟩ = some (.slice A1_1 l1_1.length c1_1) := (blk_cell BK182.out 1).trans rfl; have hcz27_2 : w24.cell? ⟨gb182, 2, none⟩ = some (.int .i64 a1_2) := (blk_cell BK182.out 2).trans rfl; have hfz27_0 := blk_frozen BK182.out 0; have hfz27_1 := blk_frozen BK182.out 1; have hfz27_2 := blk_frozen BK182.out 2) | ((with_reducible refine gate_callee (f := 29) rfl ?_); refine goesL_ (some 9) rfl rfl Try.func29 (by kernel_rfl) rfl #[.slice A0_0 l0_0.length c0_0, .slice A1_0 l1_0.length c1_0] rfl (by (try simp only [List.map_toArray, List.map_cons, List.map_nil]); first | done | rfl | (simp only [List.length_drop, List.length_take]; rfl)) ?_; (with_reducible refine (laws_eqIntS.calls k _ _ l0_0 _ _ l1_0 false _ ?side1 ?side2 ?side3 ?side4 A3.out).mono ?_); (case side1 => exact lC <| (Kd.C_below HR0_0.out HB.out)); (case side2 => exact HC0_0.out); (case side3 => exact lC <| (Kd.C_below HR1_0.out HB.out)); (case side4 => exact HC1_0.out); rintro e w' ⟨rfl, ⟨nd, rfl⟩⟩; refine ⟨_, rfl, ?_⟩))
    go_ret
    exact ⟨by first | rfl | (simp [errW_none, errW_some] <;> rfl) | (simp [*, errW_none, errW_some] <;> rfl), by repeat (first | (with_reducible first | exact HB.out | apply below_alloc | apply pw_below_drewN | apply below_drew1 | refine below_set ?_ GE181.out | refine below_set ?_ GE182.out) | exact HB.out)⟩

/-! ### laws_markIntS: function 34 -/
def laws_markIntS.l0 : Nat → List Int → Int → Int → Option (Int × List Int)
  | 0, _, _, _ => none
  | k + 1, x0, x1, x5 => if x5 < (x0.length : Int) then (if 0 ≤ x5 then (laws_markIntS.l0 k (x0.set (x5 : Int).toNat x1) (wrap64 (x1 + 1)) (wrap64 (x5 + 1))) else (none)) else (some (x1, x0))
def laws_markIntS.f (k : Nat) (l0 : List Int) (a1 : Int) : Option (Int × List Int) := laws_markIntS.l0 k l0 a1 0
theorem laws_markIntS.mono_l : ∀ k, (∀ y0 y1 y2, LeO (laws_markIntS.l0 k y0 y1 y2) (laws_markIntS.l0 (k + 1) y0 y1 y2))
  | 0 => fun _ _ _ r h => by simp [laws_markIntS.l0] at h
  | k + 1 => by
    have ih0 := laws_markIntS.mono_l k
    · intro y0 y1 y2
      unfold laws_markIntS.l0
      repeat' first
      | (with_reducible exact ih0 _ _ _)
      | (with_reducible exact LeO.refl _)
      | (with_reducible exact LeO.none _)
      | (with_reducible refine LeO.ite ?_ ?_)
      | (with_reducible refine LeO.bind ?_ (fun _ => ?_))
      | exact ih0 _ _ _
      | exact LeO.none _
      | refine LeO.ite ?_ ?_
      | refine LeO.bind ?_ (fun _ => ?_)
theorem laws_markIntS.mono : ∀ a0 a1 k, LeO (laws_markIntS.f k a0 a1) (laws_markIntS.f (k + 1) a0 a1) := by
  intro a0 a1 k
  have ih0 := laws_markIntS.mono_l k
  unfold laws_markIntS.f
  repeat' first
      | (with_reducible exact ih0 _ _ _)
      | (with_reducible exact LeO.refl _)
      | (with_reducible exact LeO.none _)
      | (with_reducible refine LeO.ite ?_ ?_)
      | (with_reducible refine LeO.bind ?_ (fun _ => ?_))
      | exact ih0 _ _ _
      | exact LeO.none _
      | refine LeO.ite ?_ ?_
      | refine LeO.bind ?_ (fun _ => ?_)
set_option maxHeartbeats 8000000 in
set_option maxRecDepth 100000 in
theorem laws_markIntS.calls (k : Nat) (P0_ : Nat → Prop) (u9000_ : Value) (l0 : List Int) (a1 : Int) (r1 : Int) (r2 : List Int) (w0 w : World) (hB : Below w0.heap.size w0 w) (ho0 : Kd.R (Kd.int .i64) 3 w w0.heap.size P0_ u9000_ l0) (h : laws_markIntS.f k l0 a1 = some (r1, r2)) :
    Calls Try.prog 34 #[u9000_, .int .i64 a1] w fun e w' => e = .returned (.int .i64 r1) ∧ Kd.R (Kd.int .i64) 3 w' w0.heap.size (fun k_ => (P0_ k_ ∨ w.heap.size ≤ k_)) u9000_ r2 ∧ Below w0.heap.size w0 w' ∧ Kept w w' (fun k_ => P0_ k_) := by
  have HO0 := Aside0.mk (show Kd.R (Kd.int .i64) 3 w w0.heap.size (fun k_ => (P0_ k_ ∨ w.heap.size ≤ k_)) u9000_ l0 from Kd.R_mono ho0 (fun k_ hk => (.inl hk)))
  have HK := Aside0.mk (Kept.refl w (fun k_ => P0_ k_))
  have HW0 := Aside0.mk hB.size
  have HB := Aside0.mk hB
  clear hB
  have H : (laws_markIntS.l0 k l0 a1 0) = some (r1, r2) := h
  clear h
  have H' := Aside0.mk H
  clear H
  go_enter Try.func34, Try.ntmps34
  go_wp2
  go_loopg [1, 5] k (fun kq v1 v5 w' => ∃ (x0_1 : List Int) (x1_1 : Int) (x5_1 : Int), v1 = .int .i64 x1_1 ∧ v5 = .int .i64 x5_1 ∧ Aside0 (laws_markIntS.l0 kq x0_1 x1_1 x5_1 = some (r1, r2)) ∧ Aside0 (kq ≤ k) ∧ Aside0 (Kd.R (Kd.int .i64) 3 w' w0.heap.size (fun k_ => (P0_ k_ ∨ w.heap.size ≤ k_)) u9000_ x0_1) ∧ Aside0 (Kept w w' (fun k_ => P0_ k_)) ∧ Aside0 (Below w0.heap.size w0 w'))
  case atStart => exact ⟨(l0), (a1), (0), (by first | rfl | (simp; done) | (simp [*]; done)), (by first | rfl | (simp; done) | (simp [*]; done)), H', ⟨Nat.le_refl _⟩, ⟨by exact lR <| HO0.out⟩, ⟨by repeat (first | (with_reducible first | exact HK.out | apply Kept.alloc | apply Kept.drewN | apply Kept.drew) | exact HK.out)⟩, ⟨by exact lB HB.out⟩⟩
  case round =>
    clear H'
    try clear p2
    obtain ⟨x0_1, x1_1, x5_1, rfl, rfl, HA, HK1, HO_0, HK, HB⟩ := hrel
    cases gk with
    | zero => exact absurd HA.out (by simp [laws_markIntS.l0])
    | succ k1 =>
      have H := HA.out
      clear HA
      simp only [laws_markIntS.l0] at H
      by_cases c3 : x5_1 < (x0_1.length : Int)
      · rw [if_pos c3] at H
        have c3b0 : decide (x5_1 < (x0_1.length : Int)) = true := decide_eq_true c3
        clear c3
        by_cases c4 : 0 ≤ x5_1
        · rw [if_pos c4] at H
          have c4b0 : decide (0 ≤ x5_1) = true := decide_eq_true c4
          clear c4
          obtain ⟨y185, hy185⟩ : ∃ y_ : List Int, y_ = (x0_1.set (x5_1 : Int).toNat x1_1) := ⟨_, rfl⟩
          replace H : (laws_markIntS.l0 k1 y185 (wrap64 (x1_1 + 1)) (wrap64 (x5_1 + 1))) = some (r1, r2) := by first | (rw [hy185]; with_reducible exact H) | (have H2_ := (Option.bind_some _ _).symm.trans H; rw [hy185]; with_reducible exact H2_) | (have H2_ := (Option.bind_some _ _).symm.trans H; with_reducible exact H2_) | with_reducible exact H | (rw [hy185]; exact H) | exact H
          have Ny185 := Aside0.mk hy185
          clear hy185
          have H' := Aside0.mk H
          clear H
          obtain ⟨Ao6, co6, eo6⟩ := Kd.R_slice HO_0.out
          subst eo6
          have p5 : 0 ≤ (x5_1 : Int) := of_decide_eq_true (by first | (with_reducible assumption) | assumption)
          have q5 : (x5_1 : Int) < ((x0_1.length : Int) : Int) := of_decide_eq_true (by first | (with_reducible assumption) | assumption)
          obtain ⟨go5, co5, eo5, gb5, gl5, cl5, HG5⟩ := Kd.R_form HO_0.out (by omega)
          (first | cases eo5 | (injection eo5 with ea_ en_ ec_; (first | subst ea_ | (injection ea_ with ea_; subst ea_)); subst ec_; clear en_))
          have GB5 := Aside0.mk gb5
          have GG5 := Aside0.mk HG5
          clear gb5 gl5 HG5
          have HMgo5 := Aside0.mk (show (P0_ go5 ∨ w.heap.size ≤ go5) from (HO_0.out.1 _ rfl))
          obtain ⟨hx5_0, hf5_0⟩ := Kd.R_celln 0 HO_0.out (x5_1 : Int) p5 q5
          replace p5 := eq_true p5
          replace q5 := eq_true q5
          have HP7 := Kd.R_putg HO_0.out (x5_1 : Int) x1_1
          go_wp2_with (first | ((with_reducible refine gate_store (t := 3) (p := 15) rfl ?_); refine store_event (t := 3) (p := 15) (v := ?vo_w8) (w1 := (wr.setCell ⟨go5, (x5_1 : Int).toNat, none⟩ (.int .i64 x1_1))) ?hg ?ho ?hn ?hr ?_; (case ho => rfl); (case hg => rfl); (case hn => rfl); (case hr => first | (go_simp; done) | (go_simp; rfl)); intro w8 hw; have hg : wr.grownBy w8 (some go5) := (by rw [hw]; exact HP7.2); have hp_ : Kd.R (Kd.int .i64) 3 w8 w0.heap.size (fun k_ => (P0_ k_ ∨ w.heap.size ≤ k_)) (.slice (some ⟨go5, 0, none⟩) x0_1.length co6) y185 := (by rw [hw, Ny185.out]; exact HP7.1); clear HP7; have n0_ := Aside0.mk (hp_); have n1_ := Aside0.mk ((by rw [hw]; exact below_set (HB.out) GB5.out : Below w0.heap.size w0 w8)); have n2_ := Aside0.mk (Kept.of_grown (S := (fun k_ => P0_ k_)) hg (by repeat (first | (with_reducible first | exact HK.out | apply Kept.alloc | apply Kept.drewN | apply Kept.drew) | exact HK.out)) (fun k_ e_ => (HO_0.out.1 k_ e_))); clear HO_0; clear HB; clear HK; have HO_0 := n0_; have HB := n1_; have HK := n2_; clear n0_ n1_ n2_; clear hg hw hp_))
          go_roundg k1
          case measure => have := HK1.out; omega
          case rel => exact ⟨(y185), (wrap64 (x1_1 + 1)), (wrap64 (x5_1 + 1)), (by first | rfl | (simp; done) | (simp [*]; done)), (by first | rfl | (simp; done) | (simp [*]; done)), H', ⟨by have := HK1.out; omega⟩, ⟨by exact lR <| HO_0.out⟩, ⟨by repeat (first | (with_reducible first | exact HK.out | apply Kept.alloc | apply Kept.drewN | apply Kept.drew) | exact HK.out)⟩, ⟨by exact lB HB.out⟩⟩
        · rw [if_neg c4] at H
          exact absurd H (by simp)
      · rw [if_neg c3] at H
        have c3b0 : decide (x5_1 < (x0_1.length : Int)) = false := decide_eq_false c3
        clear c3
        simp only [Option.some.injEq, Prod.mk.injEq] at H
        obtain ⟨rfl, rfl⟩ := H
        obtain ⟨Ao9, co9, eo9⟩ := Kd.R_slice HO_0.out
        subst eo9
        go_wp2
        go_ret
        exact ⟨by first | rfl | (simp [errW_none, errW_some] <;> rfl) | (simp [*, errW_none, errW_some] <;> rfl), by exact lR <| HO_0.out, by exact lB HB.out, by repeat (first | (with_reducible first | exact HK.out | apply Kept.alloc | apply Kept.drewN | apply Kept.drew) | exact HK.out)⟩

/-! ### laws_markFrmForm: function 13 -/
def laws_markFrmForm.f (k : Nat) (l0_0 : List Int) (l0_1 : List Int) (a0_2 : Int) (a1 : Int) : Option (Int × List Int × List Int) := (laws_markIntS.f k l0_0 a1).bind fun bt187 => ((laws_markIntS.f k l0_1 bt187.1).bind fun bt189 => (some (bt189.1, bt187.2, bt189.2)))
theorem laws_markFrmForm.mono : ∀ a0 a1 a2 a3 k, LeO (laws_markFrmForm.f k a0 a1 a2 a3) (laws_markFrmForm.f (k + 1) a0 a1 a2 a3) := by
  intro a0 a1 a2 a3 k
  unfold laws_markFrmForm.f
  repeat' first
      | (with_reducible exact laws_markIntS.mono _ _ _)
      | (with_reducible exact LeO.refl _)
      | (with_reducible exact LeO.none _)
      | (with_reducible refine LeO.ite ?_ ?_)
      | (with_reducible refine LeO.bind ?_ (fun _ => ?_))
      | exact laws_markIntS.mono _ _ _
      | exact LeO.none _
      | refine LeO.ite ?_ ?_
      | refine LeO.bind ?_ (fun _ => ?_)
set_option maxHeartbeats 8000000 in
set_option maxRecDepth 100000 in
theorem laws_markFrmForm.calls (k : Nat) (P0_0_ : Nat → Prop) (u9000_ : Value) (l0_0 : List Int) (P0_1_ : Nat → Prop) (u9001_ : Value) (l0_1 : List Int) (a0_2 : Int) (a1 : Int) (r1 : Int) (r2 : List Int) (r3 : List Int) (w0 w : World) (hB : Below w0.heap.size w0 w) (ho0_0 : Kd.R (Kd.int .i64) 3 w w0.heap.size P0_0_ u9000_ l0_0) (hp0_0_0_1 : ∀ k_, P0_0_ k_ → ¬ P0_1_ k_) (ho0_1 : Kd.R (Kd.int .i64) 3 w w0.heap.size P0_1_ u9001_ l0_1) (hp0_1_0_0 : ∀ k_, P0_1_ k_ → ¬ P0_0_ k_) (h : laws_markFrmForm.f k l0_0 l0_1 a0_2 a1 = some (r1, r2, r3)) :
    Calls Try.prog 13 #[.agg #[u9000_, u9001_, .int .i64 a0_2], .int .i64 a1] w fun e w' => e = .returned (.int .i64 r1) ∧ Kd.R (Kd.int .i64) 3 w' w0.heap.size (fun k_ => ((P0_0_ k_ ∨ P0_1_ k_) ∨ w.heap.size ≤ k_)) u9000_ r2 ∧ Kd.R (Kd.int .i64) 3 w' w0.heap.size (fun k_ => ((P0_0_ k_ ∨ P0_1_ k_) ∨ w.heap.size ≤ k_)) u9001_ r3 ∧ Below w0.heap.size w0 w' ∧ Kept w w' (fun k_ => P0_0_ k_ ∨ P0_1_ k_) := by
  have hu26 := Try.underlying26
  have HO0_0 := Aside0.mk (show Kd.R (Kd.int .i64) 3 w w0.heap.size (fun k_ => ((P0_0_ k_ ∨ P0_1_ k_) ∨ w.heap.size ≤ k_) ∧ some k_ ≠ (u9001_ : Value).ownBlock) u9000_ l0_0 from Kd.R_mono ho0_0 (fun k_ hk => ⟨(.inl (.inl hk)), fun e_ => hp0_0_0_1 k_ hk (ho0_1.1 k_ e_.symm)⟩))
  have HO0_1 := Aside0.mk (show Kd.R (Kd.int .i64) 3 w w0.heap.size (fun k_ => ((P0_0_ k_ ∨ P0_1_ k_) ∨ w.heap.size ≤ k_) ∧ some k_ ≠ (u9000_ : Value).ownBlock) u9001_ l0_1 from Kd.R_mono ho0_1 (fun k_ hk => ⟨(.inl (.inr hk)), fun e_ => hp0_1_0_0 k_ hk (ho0_0.1 k_ e_.symm)⟩))
  have HK := Aside0.mk (Kept.refl w (fun k_ => P0_0_ k_ ∨ P0_1_ k_))
  have HW0 := Aside0.mk hB.size
  have HB := Aside0.mk hB
  clear hB
  have H : ((laws_markIntS.f k l0_0 a1).bind fun bt187 => ((laws_markIntS.f k l0_1 bt187.1).bind fun bt189 => (some (bt189.1, bt187.2, bt189.2)))) = some (r1, r2, r3) := h
  clear h
  replace H := Option.bind_eq_some_iff.mp H
  obtain ⟨⟨t187, t188⟩, A30, H⟩ := H
  replace H : ((laws_markIntS.f k l0_1 t187).bind fun bt189 => (some (bt189.1, t188, bt189.2))) = some (r1, r2, r3) := H
  have A3 := Aside0.mk A30
  clear A30
  replace H := Option.bind_eq_some_iff.mp H
  obtain ⟨⟨t189, t190⟩, A40, H⟩ := H
  replace H : (some (t189, t188, t190)) = some (r1, r2, r3) := H
  have A4 := Aside0.mk A40
  clear A40
  simp only [Option.some.injEq, Prod.mk.injEq] at H
  obtain ⟨rfl, rfl, rfl⟩ := H
  obtain ⟨Ao5, co5, eo5⟩ := Kd.R_slice HO0_0.out
  subst eo5
  obtain ⟨Ao6, co6, eo6⟩ := Kd.R_slice HO0_1.out
  subst eo6
  go_enter Try.func13, Try.ntmps13
  go_wp2_with (first | ((with_reducible refine gate_dst (N := 2) rfl ?_); refine box_event ?hg (N := 2) ?hd (cs := #[.slice Ao5 l0_0.length co5, .slice Ao6 l0_1.length co6, .int .i64 a0_2]) (t := 26) ?hr ?_; (case hd => rfl); (case hg => rfl); (case hr => first | (go_simp; done) | (go_simp; rfl)); intro gb186 hg w7 hbox hb; have n0_ := Aside0.mk (Kd.R_below (by exact lR <| HO0_0.out) hb); have n1_ := Aside0.mk (Kd.R_below (by exact lR <| HO0_1.out) hb); have n2_ := Aside0.mk (Kept.below (S := (fun k_ => P0_0_ k_ ∨ P0_1_ k_)) (by repeat (first | (with_reducible first | exact HK.out | apply Kept.alloc | apply Kept.drewN | apply Kept.drew) | exact HK.out)) hb); have n3_ := Aside0.mk (below_step (by exact lB HB.out) hb); have n4_ := Aside0.mk (hbox); have n5_ := Aside0.mk ((by rw [hg]; exact (by first | exact HK.out.1 | exact (show Kept w _ (fun k_ => P0_0_ k_ ∨ P0_1_ k_) from by repeat (first | (with_reducible first | exact HK.out | apply Kept.alloc | apply Kept.drewN | apply Kept.drew) | exact HK.out)).1) : w.heap.size ≤ gb186)); have n6_ := Aside0.mk ((by rw [hg]; exact (below_size (by exact lB HB.out)) : w0.heap.size ≤ gb186)); clear HO0_0; clear HO0_1; clear HK; clear HB; have HO0_0 := n0_; have HO0_1 := n1_; have HK := n2_; have HB := n3_; have BK186 := n4_; have GW186 := n5_; have GE186 := n6_; clear n0_ n1_ n2_ n3_ n4_ n5_ n6_; clear hb hbox hg; have hcz8_0 : w7.cell? ⟨gb186, 0, none⟩ = some (.slice Ao5 l0_0.length co5) := (blk_cell BK186.out 0).trans rfl; have hcz8_1 : w7.cell? ⟨gb186, 1, none⟩ = some (.slice Ao6 l0_1.length co6) := (blk_cell BK186.out 1).trans rfl; have hcz8_2 : w7.cell? ⟨gb186, 2, none⟩ = some (.int .i64 a0_2) := (blk_cell BK186.out 2).trans rfl; have hfz8_0 := blk_frozen BK186.out 0; have hfz8_1 := blk_frozen BK186.out 1; have hfz8_2 := blk_frozen BK186.out 2) | ((with_reducible refine gate_callee (f := 34) rfl ?_); refine goesL_ (some 8) rfl rfl Try.func34 (by kernel_rfl) rfl #[.slice Ao5 l0_0.length co5, .int .i64 a1] rfl (by (try simp only [List.map_toArray, List.map_cons, List.map_nil]); first | done | rfl | (simp only [List.length_drop, List.length_take]; rfl)) ?_; (with_reducible refine (laws_markIntS.calls k (fun k_ => some k_ = (.slice Ao5 l0_0.length co5 : Value).ownBlock) (.slice Ao5 l0_0.length co5) l0_0 a1 t187 t188 w0 _ ?side1 ?side2 A3.out).mono ?_); (case side1 => repeat (first | (with_reducible first | exact HB.out | apply below_alloc | apply pw_below_drewN | apply below_drew1 | refine below_set ?_ GE186.out) | exact HB.out)); (case side2 => exact Kd.R_tight rfl HO0_0.out); rintro e w9 ⟨rfl, hy0, hb, hkp⟩; refine ⟨_, rfl, ?_⟩; have n0_ := Aside0.mk (Kd.R_reok rfl hy0 (fun k_ e_ => HO0_0.out.1 k_ e_)); have n1_ := Aside0.mk (Kd.R_mono (ok' := fun k_ => ((P0_0_ k_ ∨ P0_1_ k_) ∨ w.heap.size ≤ k_) ∧ some k_ ≠ (.slice Ao5 l0_0.length co5 : Value).ownBlock) (Kd.R_keptB (HO0_1.out) hkp (fun k_ hk_ hs_ => (hk_.2) hs_)) (fun k_ hk_ => ⟨hk_.1.1, hk_.1.2⟩)); have n2_ := Aside0.mk (blk_kept (by exact lK <| BK186.out) hkp (fun hs_ => (fun e_ => (Kd.R_ne HO0_0.out BK186.out (by decide)) e_) hs_)); have n3_ := Aside0.mk (Kept.then_ (S := (fun k_ => P0_0_ k_ ∨ P0_1_ k_)) (by repeat (first | (with_reducible first | exact HK.out | apply Kept.alloc | apply Kept.drewN | apply Kept.drew | refine Kept.setCell ?_ (.inr GW186.out) _) | exact HK.out)) hkp (fun k_ hs_ => (fun e_ => (HO0_0.out.1 k_ e_.symm).1) hs_)); have n4_ := Aside0.mk (hb); clear HO0_0; clear HO0_1; clear BK186; clear HK; clear HB; have HO0_0 := n0_; have HO0_1 := n1_; have BK186 := n2_; have HK := n3_; have HB := n4_; clear n0_ n1_ n2_ n3_ n4_; (try clear hb); (try clear hkp); (try clear hy0); have hcz10_0 : w9.cell? ⟨gb186, 0, none⟩ = some (.slice Ao5 l0_0.length co5) := (blk_cell BK186.out 0).trans rfl; have hcz10_1 : w9.cell? ⟨gb186, 1, none⟩ = some (.slice Ao6 l0_1.length co6) := (blk_cell BK186.out 1).trans rfl; have hcz10_2 : w9.cell? ⟨gb186, 2, none⟩ = some (.int .i64 a0_2) := (blk_cell BK186.out 2).trans rfl; have hfz10_0 := blk_frozen BK186.out 0; have hfz10_1 := blk_frozen BK186.out 1; have hfz10_2 := blk_frozen BK186.out 2) | ((with_reducible refine gate_callee (f := 34) rfl ?_); refine goesL_ (some 12) rfl rfl Try.func34 (by kernel_rfl) rfl #[.slice Ao6 l0_1.length co6, .int .i64 t187] rfl (by (try simp only [List.map_toArray, List.map_cons, List.map_nil]); first | done | rfl | (simp only [List.length_drop, List.length_take]; rfl)) ?_; (with_reducible refine (laws_markIntS.calls k (fun k_ => some k_ = (.slice Ao6 l0_1.length co6 : Value).ownBlock) (.slice Ao6 l0_1.length co6) l0_1 t187 t189 t190 w0 _ ?side1 ?side2 A4.out).mono ?_); (case side1 => repeat (first | (with_reducible first | exact HB.out | apply below_alloc | apply pw_below_drewN | apply below_drew1 | refine below_set ?_ GE186.out) | exact HB.out)); (case side2 => exact Kd.R_tight rfl HO0_1.out); rintro e w11 ⟨rfl, hy0, hb, hkp⟩; refine ⟨_, rfl, ?_⟩; have n0_ := Aside0.mk (Kd.R_mono (ok' := fun k_ => ((P0_0_ k_ ∨ P0_1_ k_) ∨ w.heap.size ≤ k_) ∧ some k_ ≠ (.slice Ao6 l0_1.length co6 : Value).ownBlock) (Kd.R_keptB (HO0_0.out) hkp (fun k_ hk_ hs_ => (hk_.2) hs_)) (fun k_ hk_ => ⟨hk_.1.1, hk_.1.2⟩)); have n1_ := Aside0.mk (Kd.R_reok rfl hy0 (fun k_ e_ => HO0_1.out.1 k_ e_)); have n2_ := Aside0.mk (blk_kept (by exact lK <| BK186.out) hkp (fun hs_ => (fun e_ => (Kd.R_ne HO0_1.out BK186.out (by decide)) e_) hs_)); have n3_ := Aside0.mk (Kept.then_ (S := (fun k_ => P0_0_ k_ ∨ P0_1_ k_)) (by repeat (first | (with_reducible first | exact HK.out | apply Kept.alloc | apply Kept.drewN | apply Kept.drew | refine Kept.setCell ?_ (.inr GW186.out) _) | exact HK.out)) hkp (fun k_ hs_ => (fun e_ => (HO0_1.out.1 k_ e_.symm).1) hs_)); have n4_ := Aside0.mk (hb); clear HO0_0; clear HO0_1; clear BK186; clear HK; clear HB; have HO0_0 := n0_; have HO0_1 := n1_; have BK186 := n2_; have HK := n3_; have HB := n4_; clear n0_ n1_ n2_ n3_ n4_; (try clear hb); (try clear hkp); (try clear hy0)))
  go_ret
  exact ⟨by first | rfl | (simp [errW_none, errW_some] <;> rfl) | (simp [*, errW_none, errW_some] <;> rfl), by exact lR <| Kd.R_mono HO0_0.out (fun _ hk => hk.1), by exact lR <| Kd.R_mono HO0_1.out (fun _ hk => hk.1), by repeat (first | (with_reducible first | exact HB.out | apply below_alloc | apply pw_below_drewN | apply below_drew1 | refine below_set ?_ GE186.out) | exact HB.out), by repeat (first | (with_reducible first | exact HK.out | apply Kept.alloc | apply Kept.drewN | apply Kept.drew | refine Kept.setCell ?_ (.inr GW186.out) _) | exact HK.out)⟩

/-! ### laws_heldIntS: function 37 -/
def laws_heldIntS.l0 : Nat → List Int → Int → Int → Option (Int)
  | 0, _, _, _ => none
  | k + 1, x0, x1, x5 => if x5 < (x0.length : Int) then (if 0 ≤ x5 then (if (rd x0 x5) = x1 then (laws_heldIntS.l0 k x0 (wrap64 (x1 + 1)) (wrap64 (x5 + 1))) else (some (-1))) else (none)) else (some x1)
def laws_heldIntS.f (k : Nat) (l0 : List Int) (a1 : Int) : Option (Int) := laws_heldIntS.l0 k l0 a1 0
theorem laws_heldIntS.mono_l : ∀ k, (∀ y0 y1 y2, LeO (laws_heldIntS.l0 k y0 y1 y2) (laws_heldIntS.l0 (k + 1) y0 y1 y2))
  | 0 => fun _ _ _ r h => by simp [laws_heldIntS.l0] at h
  | k + 1 => by
    have ih0 := laws_heldIntS.mono_l k
    · intro y0 y1 y2
      unfold laws_heldIntS.l0
      repeat' first
      | (with_reducible exact ih0 _ _ _)
      | (with_reducible exact LeO.refl _)
      | (with_reducible exact LeO.none _)
      | (with_reducible refine LeO.ite ?_ ?_)
      | (with_reducible refine LeO.bind ?_ (fun _ => ?_))
      | exact ih0 _ _ _
      | exact LeO.none _
      | refine LeO.ite ?_ ?_
      | refine LeO.bind ?_ (fun _ => ?_)
theorem laws_heldIntS.mono : ∀ a0 a1 k, LeO (laws_heldIntS.f k a0 a1) (laws_heldIntS.f (k + 1) a0 a1) := by
  intro a0 a1 k
  have ih0 := laws_heldIntS.mono_l k
  unfold laws_heldIntS.f
  repeat' first
      | (with_reducible exact ih0 _ _ _)
      | (with_reducible exact LeO.refl _)
      | (with_reducible exact LeO.none _)
      | (with_reducible refine LeO.ite ?_ ?_)
      | (with_reducible refine LeO.bind ?_ (fun _ => ?_))
      | exact ih0 _ _ _
      | exact LeO.none _
      | refine LeO.ite ?_ ?_
      | refine LeO.bind ?_ (fun _ => ?_)
set_option maxHeartbeats 8000000 in
set_option maxRecDepth 100000 in
theorem laws_heldIntS.calls (k : Nat) (A0 : Option Addr) (c0 : Nat) (l0 : List Int) (a1 : Int) (r : Int) (w : World) (hr0 : Kd.C (Kd.int .i64) w A0 l0.length l0) (hc0 : l0.length ≤ c0) (h : laws_heldIntS.f k l0 a1 = some r) :
    Calls Try.prog 37 #[.slice A0 l0.length c0, .int .i64 a1] w fun e w' => e = .returned (.int .i64 r) ∧ Drawn0 w w' := by
  have HR0 := Aside0.mk hr0
  have HC0 := Aside0.mk hc0
  clear hr0 hc0
  have H : (laws_heldIntS.l0 k l0 a1 0) = some r := h
  clear h
  have H' := Aside0.mk H
  clear H
  go_enter Try.func37, Try.ntmps37
  go_wp2
  go_loopg [1, 5] k (fun kq v1 v5 w' => ∃ (x1_1 : Int) (x5_1 : Int), v1 = .int .i64 x1_1 ∧ v5 = .int .i64 x5_1 ∧ Aside0 (laws_heldIntS.l0 kq l0 x1_1 x5_1 = some r) ∧ Aside0 (kq ≤ k) ∧ Drawn0 w w')
  case atStart => exact ⟨(a1), (0), (by first | rfl | (simp; done) | (simp [*]; done)), (by first | rfl | (simp; done) | (simp [*]; done)), H', ⟨Nat.le_refl _⟩, by repeat (first | exact Drawn0.refl _ | apply Drawn0.step)⟩
  case round =>
    clear H'
    try clear p2
    obtain ⟨x1_1, x5_1, rfl, rfl, HA, HK1, ⟨m1, rfl⟩⟩ := hrel
    cases gk with
    | zero => exact absurd HA.out (by simp [laws_heldIntS.l0])
    | succ k1 =>
      have H := HA.out
      clear HA
      simp only [laws_heldIntS.l0] at H
      by_cases c3 : x5_1 < (l0.length : Int)
      · rw [if_pos c3] at H
        have c3b0 : decide (x5_1 < (l0.length : Int)) = true := decide_eq_true c3
        clear c3
        by_cases c4 : 0 ≤ x5_1
        · rw [if_pos c4] at H
          have c4b0 : decide (0 ≤ x5_1) = true := decide_eq_true c4
          clear c4
          by_cases c5 : (rd l0 x5_1) = x1_1
          · rw [if_pos c5] at H
            have c5b0 : ((rd l0 x5_1) == x1_1) = true := beq_iff_eq.mpr c5
            have c5b1 : ((rd l0 x5_1) != x1_1) = false := bne_eq_false_iff_eq.mpr c5
            clear c5
            have H' := Aside0.mk H
            clear H
            have p191 : 0 ≤ (x5_1 : Int) := of_decide_eq_true (by first | (with_reducible assumption) | assumption)
            have q191 : x5_1 < (l0.length : Int) := of_decide_eq_true (by first | (with_reducible assumption) | assumption)
            obtain ⟨ad191, e191, hx191_0⟩ := Kd.at_int HR0.out x5_1 p191 q191
            cases e191
            replace p191 := eq_true p191
            replace q191 := eq_true q191
            go_wp2
            go_roundg k1
            case measure => have := HK1.out; omega
            case rel => exact ⟨(wrap64 (x1_1 + 1)), (wrap64 (x5_1 + 1)), (by first | rfl | (simp; done) | (simp [*]; done)), (by first | rfl | (simp; done) | (simp [*]; done)), H', ⟨by have := HK1.out; omega⟩, by repeat (first | exact Drawn0.refl _ | apply Drawn0.step)⟩
          · rw [if_neg c5] at H
            have c5b0 : ((rd l0 x5_1) == x1_1) = false := beq_eq_false_iff_ne.mpr c5
            have c5b1 : ((rd l0 x5_1) != x1_1) = true := bne_iff_ne.mpr c5
            obtain rfl := Option.some.inj H
            have p191 : 0 ≤ (x5_1 : Int) := of_decide_eq_true (by first | (with_reducible assumption) | assumption)
            have q191 : x5_1 < (l0.length : Int) := of_decide_eq_true (by first | (with_reducible assumption) | assumption)
            obtain ⟨ad191, e191, hx191_0⟩ := Kd.at_int HR0.out x5_1 p191 q191
            cases e191
            replace p191 := eq_true p191
            replace q191 := eq_true q191
            go_wp2
            go_ret
            exact ⟨by first | rfl | (simp; done) | (simp [*]; done), by repeat (first | exact Drawn0.refl _ | apply Drawn0.step)⟩
        · rw [if_neg c4] at H
          exact absurd H (by simp)
      · rw [if_neg c3] at H
        have c3b0 : decide (x5_1 < (l0.length : Int)) = false := decide_eq_false c3
        clear c3
        obtain rfl := Option.some.inj H
        go_wp2
        go_ret
        exact ⟨by first | rfl | (simp; done) | (simp [*]; done), by repeat (first | exact Drawn0.refl _ | apply Drawn0.step)⟩

/-! ### laws_heldFrmForm: function 14 -/
def laws_heldFrmForm.f (k : Nat) (l0_0 : List Int) (l0_1 : List Int) (a0_2 : Int) (a1 : Int) : Option (Int) := (laws_heldIntS.f k l0_0 a1).bind fun t193 => (if t193 < 0 then (some (-1)) else ((laws_heldIntS.f k l0_1 t193).bind fun t194 => (if t194 < 0 then (some (-1)) else (some t194))))
theorem laws_heldFrmForm.mono : ∀ a0 a1 a2 a3 k, LeO (laws_heldFrmForm.f k a0 a1 a2 a3) (laws_heldFrmForm.f (k + 1) a0 a1 a2 a3) := by
  intro a0 a1 a2 a3 k
  unfold laws_heldFrmForm.f
  repeat' first
      | (with_reducible exact laws_heldIntS.mono _ _ _)
      | (with_reducible exact LeO.refl _)
      | (with_reducible exact LeO.none _)
      | (with_reducible refine LeO.ite ?_ ?_)
      | (with_reducible refine LeO.bind ?_ (fun _ => ?_))
      | exact laws_heldIntS.mono _ _ _
      | exact LeO.none _
      | refine LeO.ite ?_ ?_
      | refine LeO.bind ?_ (fun _ => ?_)
set_option maxHeartbeats 8000000 in
set_option maxRecDepth 100000 in
theorem laws_heldFrmForm.calls (k : Nat) (A0_0 : Option Addr) (c0_0 : Nat) (l0_0 : List Int) (A0_1 : Option Addr) (c0_1 : Nat) (l0_1 : List Int) (a0_2 : Int) (a1 : Int) (r : Int) (w : World) (hr0_0 : Kd.C (Kd.int .i64) w A0_0 l0_0.length l0_0) (hc0_0 : l0_0.length ≤ c0_0) (hr0_1 : Kd.C (Kd.int .i64) w A0_1 l0_1.length l0_1) (hc0_1 : l0_1.length ≤ c0_1) (h : laws_heldFrmForm.f k l0_0 l0_1 a0_2 a1 = some r) :
    Calls Try.prog 14 #[.agg #[.slice A0_0 l0_0.length c0_0, .slice A0_1 l0_1.length c0_1, .int .i64 a0_2], .int .i64 a1] w fun e w' => e = .returned (.int .i64 r) ∧ Below w.heap.size w w' := by
  have hu26 := Try.underlying26
  have HR0_0 := Aside0.mk hr0_0
  have HC0_0 := Aside0.mk hc0_0
  clear hr0_0 hc0_0
  have HR0_1 := Aside0.mk hr0_1
  have HC0_1 := Aside0.mk hc0_1
  clear hr0_1 hc0_1
  have HB := Aside0.mk (Below.refl w.heap.size w)
  have H : ((laws_heldIntS.f k l0_0 a1).bind fun t193 => (if t193 < 0 then (some (-1)) else ((laws_heldIntS.f k l0_1 t193).bind fun t194 => (if t194 < 0 then (some (-1)) else (some t194))))) = some r := h
  clear h
  replace H := Option.bind_eq_some_iff.mp H
  obtain ⟨t193, A30, H⟩ := H
  replace H : (if t193 < 0 then (some (-1)) else ((laws_heldIntS.f k l0_1 t193).bind fun t194 => (if t194 < 0 then (some (-1)) else (some t194)))) = some r := H
  have A3 := Aside0.mk A30
  clear A30
  by_cases c4 : t193 < 0
  · rw [if_pos c4] at H
    have c4b0 : decide (t193 < 0) = true := decide_eq_true c4
    clear c4
    obtain rfl := Option.some.inj H
    go_enter Try.func14, Try.ntmps14
    go_wp2_with (first | ((with_reducible refine gate_dst (N := 2) rfl ?_); refine box_event ?hg (N := 2) ?hd (cs := #[.slice A0_0 l0_0.length c0_0, .slice A0_1 l0_1.length c0_1, .int .i64 a0_2]) (t := 26) ?hr ?_; (case hd => rfl); (case hg => rfl); (case hr => first | (go_simp; done) | (go_simp; rfl)); intro gb192 hg w5 hbox hb; have n0_ := Aside0.mk (below_step (by exact lB HB.out) hb); have n1_ := Aside0.mk (hbox); have n2_ := Aside0.mk ((by rw [hg]; exact (below_size (by exact lB HB.out)) : w.heap.size ≤ gb192)); have n3_ := Aside0.mk ((by rw [hg]; exact (below_size (by exact lB HB.out)) : w.heap.size ≤ gb192)); clear HB; have HB := n0_; have BK192 := n1_; have GW192 := n2_; have GE192 := n3_; clear n0_ n1_ n2_ n3_; clear hb hbox hg; have hcz6_0 : w5.cell? ⟨gb192, 0, none⟩ = some (.slice A0_0 l0_0.length c0_0) := (blk_cell BK192.out 0).trans rfl; have hcz6_1 : w5.cell? ⟨gb192, 1, none⟩ = some (.slice A0_1 l0_1.length c0_1) := (blk_cell BK192.out 1).trans rfl; have hcz6_2 : w5.cell? ⟨gb192, 2, none⟩ = some (.int .i64 a0_2) := (blk_cell BK192.out 2).trans rfl; have hfz6_0 := blk_frozen BK192.out 0; have hfz6_1 := blk_frozen BK192.out 1; have hfz6_2 := blk_frozen BK192.out 2) | ((with_reducible refine gate_callee (f := 37) rfl ?_); refine goesL_ (some 8) rfl rfl Try.func37 (by kernel_rfl) rfl #[.slice A0_0 l0_0.length c0_0, .int .i64 a1] rfl (by (try simp only [List.map_toArray, List.map_cons, List.map_nil]); first | done | rfl | (simp only [List.length_drop, List.length_take]; rfl)) ?_; (with_reducible refine (laws_heldIntS.calls k _ _ l0_0 a1 t193 _ ?side1 ?side2 A3.out).mono ?_); (case side1 => exact lC <| (Kd.C_below HR0_0.out HB.out)); (case side2 => exact HC0_0.out); rintro e w' ⟨rfl, ⟨nd, rfl⟩⟩; refine ⟨_, rfl, ?_⟩))
    go_ret
    exact ⟨by first | rfl | (simp [errW_none, errW_some] <;> rfl) | (simp [*, errW_none, errW_some] <;> rfl), by repeat (first | (with_reducible first | exact HB.out | apply below_alloc | apply pw_below_drewN | apply below_drew1 | refine below_set ?_ GE192.out) | exact HB.out)⟩
  · rw [if_neg c4] at H
    have c4b0 : decide (t193 < 0) = false := decide_eq_false c4
    clear c4
    replace H := Option.bind_eq_some_iff.mp H
    obtain ⟨t194, A70, H⟩ := H
    replace H : (if t194 < 0 then (some (-1)) else (some t194)) = some r := H
    have A7 := Aside0.mk A70
    clear A70
    by_cases c8 : t194 < 0
    · rw [if_pos c8] at H
      have c8b0 : decide (t194 < 0) = true := decide_eq_true c8
      clear c8
      obtain rfl := Option.some.inj H
      go_enter Try.func14, Try.ntmps14
      go_wp2_with (first | ((with_reducible refine gate_dst (N := 2) rfl ?_); refine box_event ?hg (N := 2) ?hd (cs := #[.slice A0_0 l0_0.length c0_0, .slice A0_1 l0_1.length c0_1, .int .i64 a0_2]) (t := 26) ?hr ?_; (case hd => rfl); (case hg => rfl); (case hr => first | (go_simp; done) | (go_simp; rfl)); intro gb192 hg w9 hbox hb; have n0_ := Aside0.mk (below_step (by exact lB HB.out) hb); have n1_ := Aside0.mk (hbox); have n2_ := Aside0.mk ((by rw [hg]; exact (below_size (by exact lB HB.out)) : w.heap.size ≤ gb192)); have n3_ := Aside0.mk ((by rw [hg]; exact (below_size (by exact lB HB.out)) : w.heap.size ≤ gb192)); clear HB; have HB := n0_; have BK192 := n1_; have GW192 := n2_; have GE192 := n3_; clear n0_ n1_ n2_ n3_; clear hb hbox hg; have hcz10_0 : w9.cell? ⟨gb192, 0, none⟩ = some (.slice A0_0 l0_0.length c0_0) := (blk_cell BK192.out 0).trans rfl; have hcz10_1 : w9.cell? ⟨gb192, 1, none⟩ = some (.slice A0_1 l0_1.length c0_1) := (blk_cell BK192.out 1).trans rfl; have hcz10_2 : w9.cell? ⟨gb192, 2, none⟩ = some (.int .i64 a0_2) := (blk_cell BK192.out 2).trans rfl; have hfz10_0 := blk_frozen BK192.out 0; have hfz10_1 := blk_frozen BK192.out 1; have hfz10_2 := blk_frozen BK192.out 2) | ((with_reducible refine gate_callee (f := 37) rfl ?_); refine goesL_ (some 8) rfl rfl Try.func37 (by kernel_rfl) rfl #[.slice A0_0 l0_0.length c0_0, .int .i64 a1] rfl (by (try simp only [List.map_toArray, List.map_cons, List.map_nil]); first | done | rfl | (simp only [List.length_drop, List.length_take]; rfl)) ?_; (with_reducible refine (laws_heldIntS.calls k _ _ l0_0 a1 t193 _ ?side1 ?side2 A3.out).mono ?_); (case side1 => exact lC <| (Kd.C_below HR0_0.out HB.out)); (case side2 => exact HC0_0.out); rintro e w' ⟨rfl, ⟨nd, rfl⟩⟩; refine ⟨_, rfl, ?_⟩) | ((with_reducible refine gate_callee (f := 37) rfl ?_); refine goesL_ (some 14) rfl rfl Try.func37 (by kernel_rfl) rfl #[.slice A0_1 l0_1.length c0_1, .int .i64 t193] rfl (by (try simp only [List.map_toArray, List.map_cons, List.map_nil]); first | done | rfl | (simp only [List.length_drop, List.length_take]; rfl)) ?_; (with_reducible refine (laws_heldIntS.calls k _ _ l0_1 t193 t194 _ ?side1 ?side2 A7.out).mono ?_); (case side1 => repeat (first | exact (Kd.C_below HR0_1.out (by repeat (first | (with_reducible first | exact HB.out | apply below_alloc | apply pw_below_drewN | apply below_drew1 | refine below_set ?_ GE192.out) | exact HB.out))) | (with_reducible refine Kd.C_alloc ?_ _) | (with_reducible refine Kd.C_drewN ?_ _) | (with_reducible refine Kd.C_drew ?_))); (case side2 => exact HC0_1.out); rintro e w' ⟨rfl, ⟨nd, rfl⟩⟩; refine ⟨_, rfl, ?_⟩))
      go_ret
      exact ⟨by first | rfl | (simp [errW_none, errW_some] <;> rfl) | (simp [*, errW_none, errW_some] <;> rfl), by repeat (first | (with_reducible first | exact HB.out | apply below_alloc | apply pw_below_drewN | apply below_drew1 | refine below_set ?_ GE192.out) | exact HB.out)⟩
    · rw [if_neg c8] at H
      have c8b0 : decide (t194 < 0) = false := decide_eq_false c8
      clear c8
      obtain rfl := Option.some.inj H
      go_enter Try.func14, Try.ntmps14
      go_wp2_with (first | ((with_reducible refine gate_dst (N := 2) rfl ?_); refine box_event ?hg (N := 2) ?hd (cs := #[.slice A0_0 l0_0.length c0_0, .slice A0_1 l0_1.length c0_1, .int .i64 a0_2]) (t := 26) ?hr ?_; (case hd => rfl); (case hg => rfl); (case hr => first | (go_simp; done) | (go_simp; rfl)); intro gb192 hg w11 hbox hb; have n0_ := Aside0.mk (below_step (by exact lB HB.out) hb); have n1_ := Aside0.mk (hbox); have n2_ := Aside0.mk ((by rw [hg]; exact (below_size (by exact lB HB.out)) : w.heap.size ≤ gb192)); have n3_ := Aside0.mk ((by rw [hg]; exact (below_size (by exact lB HB.out)) : w.heap.size ≤ gb192)); clear HB; have HB := n0_; have BK192 := n1_; have GW192 := n2_; have GE192 := n3_; clear n0_ n1_ n2_ n3_; clear hb hbox hg; have hcz12_0 : w11.cell? ⟨gb192, 0, none⟩ = some (.slice A0_0 l0_0.length c0_0) := (blk_cell BK192.out 0).trans rfl; have hcz12_1 : w11.cell? ⟨gb192, 1, none⟩ = some (.slice A0_1 l0_1.length c0_1) := (blk_cell BK192.out 1).trans rfl; have hcz12_2 : w11.cell? ⟨gb192, 2, none⟩ = some (.int .i64 a0_2) := (blk_cell BK192.out 2).trans rfl; have hfz12_0 := blk_frozen BK192.out 0; have hfz12_1 := blk_frozen BK192.out 1; have hfz12_2 := blk_frozen BK192.out 2) | ((with_reducible refine gate_callee (f := 37) rfl ?_); refine goesL_ (some 8) rfl rfl Try.func37 (by kernel_rfl) rfl #[.slice A0_0 l0_0.length c0_0, .int .i64 a1] rfl (by (try simp only [List.map_toArray, List.map_cons, List.map_nil]); first | done | rfl | (simp only [List.length_drop, List.length_take]; rfl)) ?_; (with_reducible refine (laws_heldIntS.calls k _ _ l0_0 a1 t193 _ ?side1 ?side2 A3.out).mono ?_); (case side1 => exact lC <| (Kd.C_below HR0_0.out HB.out)); (case side2 => exact HC0_0.out); rintro e w' ⟨rfl, ⟨nd, rfl⟩⟩; refine ⟨_, rfl, ?_⟩) | ((with_reducible refine gate_callee (f := 37) rfl ?_); refine goesL_ (some 14) rfl rfl Try.func37 (by kernel_rfl) rfl #[.slice A0_1 l0_1.length c0_1, .int .i64 t193] rfl (by (try simp only [List.map_toArray, List.map_cons, List.map_nil]); first | done | rfl | (simp only [List.length_drop, List.length_take]; rfl)) ?_; (with_reducible refine (laws_heldIntS.calls k _ _ l0_1 t193 t194 _ ?side1 ?side2 A7.out).mono ?_); (case side1 => repeat (first | exact (Kd.C_below HR0_1.out (by repeat (first | (with_reducible first | exact HB.out | apply below_alloc | apply pw_below_drewN | apply below_drew1 | refine below_set ?_ GE192.out) | exact HB.out))) | (with_reducible refine Kd.C_alloc ?_ _) | (with_reducible refine Kd.C_drewN ?_ _) | (with_reducible refine Kd.C_drew ?_))); (case side2 => exact HC0_1.out); rintro e w' ⟨rfl, ⟨nd, rfl⟩⟩; refine ⟨_, rfl, ?_⟩))
      go_ret
      exact ⟨by first | rfl | (simp [errW_none, errW_some] <;> rfl) | (simp [*, errW_none, errW_some] <;> rfl), by repeat (first | (with_reducible first | exact HB.out | apply below_alloc | apply pw_below_drewN | apply below_drew1 | refine below_set ?_ GE192.out) | exact HB.out)⟩

end Go.Proofs.Ytfbdjimcjoddgaa.QFnExactFrmAdd
