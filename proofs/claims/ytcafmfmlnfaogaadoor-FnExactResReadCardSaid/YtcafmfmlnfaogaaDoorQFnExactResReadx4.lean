/- Plain functions, and that the Go code computes them: written by a program of this session over the seat's translation; the conditions stand in each theorem. -/
import Derived.Test.YtcafmfmlnfaogaaDoorQFnExactResReadx0
import Derived.Test.YtcafmfmlnfaogaaDoorQFnExactResReadx2
import Derived.Test.YtcafmfmlnfaogaaDoorQFnExactResReadx3
namespace Go.Proofs.YtcafmfmlnfaogaaDoor.QFnExactResRead
open Go.RowKit Go.Proofs.YtcafmfmlnfaogaaDoorW.PrintWords Go.Proofs.YtcafmfmlnfaogaaDoorW.PrintLast Go.Proofs.YtcafmfmlnfaogaaDoorW.PrintMore Go.Proofs.YtcafmfmlnfaogaaDoor.HWords
attribute [local go_sem] max2_int min2_int max_two min_two max_three min_three max_four min_four   -- for this text's walks alone
set_option maxRecDepth 100000
set_option maxHeartbeats 8000000
set_option linter.unusedVariables false
set_option linter.unusedSimpArgs false

/-! ### spec_ResRead: function 14 -/
mutual
def spec_ResRead.j1 : Nat → ByteArray → List ByteArray → Int → Option (Int × List Int × Bool)
 | 0, _, _, _ => none
 | k + 1, x0, x4, x143000 => spec_ResRead.l1 k x0 x4 1 x143000 ([] : List Int)
def spec_ResRead.l1 : Nat → ByteArray → List ByteArray → Int → Int → List Int → Option (Int × List Int × Bool)
 | 0, _, _, _, _, _ => none
 | k + 1, x0, x4, x8, x143000, x143001 => if x8 < (x4.length : Int) then (if 0 ≤ x8 then ((spec_l1Number.f k (rdOf ByteArray.empty x4 x8)).bind fun bt149 => (if x143001.length < 17592186044416 then (spec_ResRead.l1 k x0 x4 (wrap64 (x8 + 1)) x143000 (x143001 ++ [bt149.1])) else (none))) else (none)) else ((spec_ResText.f k x143000 x143001).bind fun t154 => (if t154.toList = ([] : List UInt8) then (some (0, ([] : List Int), false)) else ((spec_ResText.f k x143000 x143001).bind fun t155 => (if t155.toList = x0.toList then (some (x143000, x143001, true)) else (some (0, ([] : List Int), false))))))
def spec_ResRead.l0 : Nat → ByteArray → List ByteArray → List ByteArray → Int → Int → Option (Int × List Int × Bool)
 | 0, _, _, _, _, _ => none
 | k + 1, x0, x4, x6, x7, x143000 => if x7 < (x6.length : Int) then (if 0 ≤ x7 then (if 0 < (x4.length : Int) then (if (rdOf ByteArray.empty x6 x7).toList = (rdOf ByteArray.empty x4 0).toList then (spec_ResRead.l0 k x0 x4 x6 (wrap64 (x7 + 1)) x7) else (spec_ResRead.l0 k x0 x4 x6 (wrap64 (x7 + 1)) x143000)) else (none)) else (none)) else (spec_ResRead.j1 k x0 x4 x143000)
end
def spec_ResRead.f (k : Nat) (a0 : ByteArray) : Option (Int × List Int × Bool) := (spec_l1Words.f k a0).bind fun t139 => (if (t139.length : Int) > 0 then (spec_ResRead.l0 k a0 t139 (([(⟨#[]⟩ : ByteArray), (⟨#[100, 111, 110, 101]⟩ : ByteArray), (⟨#[115, 116, 111, 112, 112, 101, 100]⟩ : ByteArray), (⟨#[111, 118, 101, 114]⟩ : ByteArray)] : List ByteArray)) 1 0) else (spec_ResRead.j1 k a0 t139 0))
theorem spec_ResRead.mono_l : ∀ k, (∀ y0 y1 y2, LeO (spec_ResRead.j1 k y0 y1 y2) (spec_ResRead.j1 (k + 1) y0 y1 y2)) ∧ (∀ y0 y1 y2 y3 y4, LeO (spec_ResRead.l1 k y0 y1 y2 y3 y4) (spec_ResRead.l1 (k + 1) y0 y1 y2 y3 y4)) ∧ (∀ y0 y1 y2 y3 y4, LeO (spec_ResRead.l0 k y0 y1 y2 y3 y4) (spec_ResRead.l0 (k + 1) y0 y1 y2 y3 y4))
 | 0 => ⟨fun _ _ _ r h => by simp [spec_ResRead.j1] at h, fun _ _ _ _ _ r h => by simp [spec_ResRead.l1] at h, fun _ _ _ _ _ r h => by simp [spec_ResRead.l0] at h⟩
 | k + 1 => by
  obtain ⟨ih0, ih1, ih2⟩ := spec_ResRead.mono_l k
  refine ⟨?_, ?_, ?_⟩
  ·intro y0 y1 y2
   unfold spec_ResRead.j1
   repeat' first
   | (with_reducible exact ih0 _ _ _)
   | (with_reducible exact ih1 _ _ _ _ _)
   | (with_reducible exact ih2 _ _ _ _ _)
   | (with_reducible exact spec_ResText.mono _ _ _)
   | (with_reducible exact spec_l1Number.mono _ _)
   | (with_reducible exact spec_l1Words.mono _ _)
   | (with_reducible exact LeO.refl _)
   | (with_reducible exact LeO.none _)
   | (with_reducible refine LeO.ite ?_ ?_)
   | (with_reducible refine LeO.bind ?_ (fun _ => ?_))
   | exact LeO.none _
   | refine LeO.ite ?_ ?_
   | refine LeO.bind ?_ (fun _ => ?_)
  ·intro y0 y1 y2 y3 y4
   unfold spec_ResRead.l1
   repeat' first
   | (with_reducible exact ih0 _ _ _)
   | (with_reducible exact ih1 _ _ _ _ _)
   | (with_reducible exact ih2 _ _ _ _ _)
   | (with_reducible exact spec_ResText.mono _ _ _)
   | (with_reducible exact spec_l1Number.mono _ _)
   | (with_reducible exact spec_l1Words.mono _ _)
   | (with_reducible exact LeO.refl _)
   | (with_reducible exact LeO.none _)
   | (with_reducible refine LeO.ite ?_ ?_)
   | (with_reducible refine LeO.bind ?_ (fun _ => ?_))
   | exact LeO.none _
   | refine LeO.ite ?_ ?_
   | refine LeO.bind ?_ (fun _ => ?_)
  ·intro y0 y1 y2 y3 y4
   unfold spec_ResRead.l0
   repeat' first
   | (with_reducible exact ih0 _ _ _)
   | (with_reducible exact ih1 _ _ _ _ _)
   | (with_reducible exact ih2 _ _ _ _ _)
   | (with_reducible exact spec_ResText.mono _ _ _)
   | (with_reducible exact spec_l1Number.mono _ _)
   | (with_reducible exact spec_l1Words.mono _ _)
   | (with_reducible exact LeO.refl _)
   | (with_reducible exact LeO.none _)
   | (with_reducible refine LeO.ite ?_ ?_)
   | (with_reducible refine LeO.bind ?_ (fun _ => ?_))
   | exact LeO.none _
   | refine LeO.ite ?_ ?_
   | refine LeO.bind ?_ (fun _ => ?_)
theorem spec_ResRead.mono : ∀ a0 k, LeO (spec_ResRead.f k a0) (spec_ResRead.f (k + 1) a0) := by
 intro a0 k
 obtain ⟨ih0, ih1, ih2⟩ := spec_ResRead.mono_l k
 unfold spec_ResRead.f
 repeat' first
   | (with_reducible exact ih0 _ _ _)
   | (with_reducible exact ih1 _ _ _ _ _)
   | (with_reducible exact ih2 _ _ _ _ _)
   | (with_reducible exact spec_ResText.mono _ _ _)
   | (with_reducible exact spec_l1Number.mono _ _)
   | (with_reducible exact spec_l1Words.mono _ _)
   | (with_reducible exact LeO.refl _)
   | (with_reducible exact LeO.none _)
   | (with_reducible refine LeO.ite ?_ ?_)
   | (with_reducible refine LeO.bind ?_ (fun _ => ?_))
   | exact LeO.none _
   | refine LeO.ite ?_ ?_
   | refine LeO.bind ?_ (fun _ => ?_)
theorem spec_ResRead.calls (k : Nat) (a0 : ByteArray) (r1 : Int) (r2 : List Int) (r3 : Bool) (w : World) (h : spec_ResRead.f k a0 = some (r1, r2, r3)) :
  Calls Tryd.prog 14 #[.string a0] w fun e w' => ∃ v1_ : Value, e = .returned (.tuple #[.agg #[.int .i64 r1, v1_], .bool r3]) ∧ Kd.R (Kd.int .i64) 3 w' w.heap.size (fun _ => True) v1_ r2 ∧ Below w.heap.size w w' := by
 have hu27 := Tryd.underlying27
 have HB := aM (Below.refl w.heap.size w)
 have H : ((spec_l1Words.f k a0).bind fun t139 => (if (t139.length : Int) > 0 then (spec_ResRead.l0 k a0 t139 (([(⟨#[]⟩ : ByteArray), (⟨#[100, 111, 110, 101]⟩ : ByteArray), (⟨#[115, 116, 111, 112, 112, 101, 100]⟩ : ByteArray), (⟨#[111, 118, 101, 114]⟩ : ByteArray)] : List ByteArray)) 1 0) else (spec_ResRead.j1 k a0 t139 0))) = some (r1, r2, r3) := h
 clear h
 obtain ⟨t139, A2, H⟩ := bS H
 try dsimp only at H
 have HC3 := aM H
 clear H
 go_enter Tryd.func14, Tryd.ntmps14
 go_upto_if 16 with (first | ((with_reducible refine gate_dst (N := 2) rfl ?_); refine bx 2 #[.int .i64 0, .slice none 0 0] 27 ?_; intro gb138 hg w4 hbox hb; have BK138 := aM (hbox); have GW138 := aM ((gz hg HB.out)); have IGW138 : Nonempty _ := ⟨GW138.out⟩; have GE138 := aM ((gz hg HB.out)); have IGE138 : Nonempty _ := ⟨GE138.out⟩; replace HB := aM (bj HB.out hb); clear hb hbox hg) | (go_at_call 31; (with_reducible refine (spec_l1Words.calls k a0 t139 _ A2.out).mono ?_); rintro e w5 ⟨v140, rfl, ho0, hb⟩; have HO141 := aM (Kd.R_lower ho0 (below_size (by exact jB HB.out))); replace BK138 := aM (bb BK138.out hb); replace HB := aM (bj HB.out hb); (try clear hb); (try clear ho0)) | ((with_reducible refine gate_dst (N := 5) rfl ?_); refine bx 5 #[.int .i64 0, .slice none 0 0] 27 ?_; intro gb142 hg w6 hbox hb; replace HO141 := aM (rb HO141.out hb); have BK142 := aM (hbox); have GW142 := aM ((gz hg HB.out)); have IGW142 : Nonempty _ := ⟨GW142.out⟩; have GE142 := aM ((gz hg HB.out)); have IGE142 : Nonempty _ := ⟨GE142.out⟩; replace HB := aM (bj HB.out hb); have NB138_142 := aM ((neL hg (lK BK138.out) : gb138 ≠ gb142)); have NB142_138 := aM ((neG hg (lK BK138.out) : gb142 ≠ gb138)); replace BK138 := aM (bb BK138.out hb); clear hb hbox hg; have hnb7 := NB142_138.out; have hnc7 := NB138_142.out; obtain ⟨hcz8_0, hcz8_1, hfz8_0, hfz8_1⟩ := cf2 BK142.out; obtain ⟨Ao9, co9, eo9⟩ := Kd.R_slice HO141.out; subst eo9))
 repeat (go_quiet (first | ((with_reducible refine gate_dst (N := 2) rfl ?_); refine bx 2 #[.int .i64 0, .slice none 0 0] 27 ?_; intro gb138 hg w4 hbox hb; have BK138 := aM (hbox); have GW138 := aM ((gz hg HB.out)); have IGW138 : Nonempty _ := ⟨GW138.out⟩; have GE138 := aM ((gz hg HB.out)); have IGE138 : Nonempty _ := ⟨GE138.out⟩; replace HB := aM (bj HB.out hb); clear hb hbox hg) | (go_at_call 31; (with_reducible refine (spec_l1Words.calls k a0 t139 _ A2.out).mono ?_); rintro e w5 ⟨v140, rfl, ho0, hb⟩; have HO141 := aM (Kd.R_lower ho0 (below_size (by exact jB HB.out))); replace BK138 := aM (bb BK138.out hb); replace HB := aM (bj HB.out hb); (try clear hb); (try clear ho0)) | ((with_reducible refine gate_dst (N := 5) rfl ?_); refine bx 5 #[.int .i64 0, .slice none 0 0] 27 ?_; intro gb142 hg w6 hbox hb; replace HO141 := aM (rb HO141.out hb); have BK142 := aM (hbox); have GW142 := aM ((gz hg HB.out)); have IGW142 : Nonempty _ := ⟨GW142.out⟩; have GE142 := aM ((gz hg HB.out)); have IGE142 : Nonempty _ := ⟨GE142.out⟩; replace HB := aM (bj HB.out hb); have NB138_142 := aM ((neL hg (lK BK138.out) : gb138 ≠ gb142)); have NB142_138 := aM ((neG hg (lK BK138.out) : gb142 ≠ gb138)); replace BK138 := aM (bb BK138.out hb); clear hb hbox hg; have hnb7 := NB142_138.out; have hnc7 := NB138_142.out; obtain ⟨hcz8_0, hcz8_1, hfz8_0, hfz8_1⟩ := cf2 BK142.out; obtain ⟨Ao9, co9, eo9⟩ := Kd.R_slice HO141.out; subst eo9)); go_upto_if 16 with (first | ((with_reducible refine gate_dst (N := 2) rfl ?_); refine bx 2 #[.int .i64 0, .slice none 0 0] 27 ?_; intro gb138 hg w4 hbox hb; have BK138 := aM (hbox); have GW138 := aM ((gz hg HB.out)); have IGW138 : Nonempty _ := ⟨GW138.out⟩; have GE138 := aM ((gz hg HB.out)); have IGE138 : Nonempty _ := ⟨GE138.out⟩; replace HB := aM (bj HB.out hb); clear hb hbox hg) | (go_at_call 31; (with_reducible refine (spec_l1Words.calls k a0 t139 _ A2.out).mono ?_); rintro e w5 ⟨v140, rfl, ho0, hb⟩; have HO141 := aM (Kd.R_lower ho0 (below_size (by exact jB HB.out))); replace BK138 := aM (bb BK138.out hb); replace HB := aM (bj HB.out hb); (try clear hb); (try clear ho0)) | ((with_reducible refine gate_dst (N := 5) rfl ?_); refine bx 5 #[.int .i64 0, .slice none 0 0] 27 ?_; intro gb142 hg w6 hbox hb; replace HO141 := aM (rb HO141.out hb); have BK142 := aM (hbox); have GW142 := aM ((gz hg HB.out)); have IGW142 : Nonempty _ := ⟨GW142.out⟩; have GE142 := aM ((gz hg HB.out)); have IGE142 : Nonempty _ := ⟨GE142.out⟩; replace HB := aM (bj HB.out hb); have NB138_142 := aM ((neL hg (lK BK138.out) : gb138 ≠ gb142)); have NB142_138 := aM ((neG hg (lK BK138.out) : gb142 ≠ gb138)); replace BK138 := aM (bb BK138.out hb); clear hb hbox hg; have hnb7 := NB142_138.out; have hnc7 := NB138_142.out; obtain ⟨hcz8_0, hcz8_1, hfz8_0, hfz8_1⟩ := cf2 BK142.out; obtain ⟨Ao9, co9, eo9⟩ := Kd.R_slice HO141.out; subst eo9)))
 (try simp only [Act.put, sA, s0, sS])
 go_cut [] (fun wc => ∃ (kq : Nat) (x143000_2 : Int), Aside0 (spec_ResRead.j1 kq a0 t139 x143000_2 = some (r1, r2, r3)) ∧ Aside0 (kq ≤ k) ∧ Aside0 (Kd.R Kd.string 9 wc w.heap.size (fun _ => True) (.slice Ao9 t139.length co9) t139) ∧ Aside0 (wc.heap[gb138]? = some (.cells #[.int .i64 0, (.slice none 0 0)] 27 (0, 0))) ∧ Aside0 (wc.heap[gb142]? = some (.cells #[.int .i64 x143000_2, (.slice none 0 0)] 27 (0, 0))) ∧ Aside0 (Below w.heap.size w wc))
 case first =>
  have H := HC3.out
  clear HC3
  by_cases c10 : (t139.length : Int) > 0
  ·rw [if_pos c10] at H
   have c10b0 := decide_eq_true c10
   have c10b1 : decide (0 < t139.length) = true := decide_eq_true (by omega)
   clear c10
   (first | rw [c10b0] | (simp only [i64_w, i32_w]; rw [c10b0]) | rw [c10b1] | skip)
   obtain ⟨y143, hy143⟩ : ∃ y_ : List ByteArray, y_ = (([(⟨#[]⟩ : ByteArray), (⟨#[100, 111, 110, 101]⟩ : ByteArray), (⟨#[115, 116, 111, 112, 112, 101, 100]⟩ : ByteArray), (⟨#[111, 118, 101, 114]⟩ : ByteArray)] : List ByteArray)) := ⟨_, rfl⟩
   replace H : (spec_ResRead.l0 k a0 t139 y143 1 0) = some (r1, r2, r3) := by first | (rw [hy143]; exact H) | exact H
   have Ny143 := aM hy143
   clear hy143
   have H' := aM H
   clear H
   go_wp2_with (first | ((with_reducible refine gate_dst (N := 17) rfl ?_); refine Kd.R_lit Kd.string _ 9 ?hg (N := 17) ?hd (xs := ([(⟨#[]⟩ : ByteArray), (⟨#[100, 111, 110, 101]⟩ : ByteArray), (⟨#[115, 116, 111, 112, 112, 101, 100]⟩ : ByteArray), (⟨#[111, 118, 101, 114]⟩ : ByteArray)] : List ByteArray)) (inner := [.string (⟨#[]⟩ : ByteArray), .string (⟨#[100, 111, 110, 101]⟩ : ByteArray), .string (⟨#[115, 116, 111, 112, 112, 101, 100]⟩ : ByteArray), .string (⟨#[111, 118, 101, 114]⟩ : ByteArray)]) (ok := fun _ => True) (okp := fun _ => True) ?hr ?hp (fun _ hk => hk) trivial (Below.refl _ _) (Nat.le_refl _) (by simp) ?_; (case hd => rfl); (case hg => rfl); (case hr => first | (go_simp; done) | (go_simp; rfl)); (case hp => exact (Reps.one (show Kd.M Kd.string _ _ _ (⟨#[]⟩ : ByteArray) [.string (⟨#[]⟩ : ByteArray)] from rfl) (Reps.one (show Kd.M Kd.string _ _ _ (⟨#[100, 111, 110, 101]⟩ : ByteArray) [.string (⟨#[100, 111, 110, 101]⟩ : ByteArray)] from rfl) (Reps.one (show Kd.M Kd.string _ _ _ (⟨#[115, 116, 111, 112, 112, 101, 100]⟩ : ByteArray) [.string (⟨#[115, 116, 111, 112, 112, 101, 100]⟩ : ByteArray)] from rfl) (Reps.one (show Kd.M Kd.string _ _ _ (⟨#[111, 118, 101, 114]⟩ : ByteArray) [.string (⟨#[111, 118, 101, 114]⟩ : ByteArray)] from rfl) (Reps.none _ _)))))); intro v144 w11 ho12 hb hg_ hnew_; clear hg_ hnew_; (first | rw [← Ny143.out] at ho12 | (simp only [Int.reduceToNat] at ho12; rw [← Ny143.out] at ho12)); have HO145 := aM (Kd.R_lower (Kd.R_new' ho12 (Kd.R_lt (qp (R2 HO141.out BK142.out)))) (below_size (by exact jB HB.out))); replace HO141 := aM (Kd.R_elder' (qp (R2 HO141.out BK142.out)) (Kd.R_base ho12) hb); replace BK138 := aM (blk_below (f2 (lK BK138.out) NB138_142.out) hb); replace BK142 := aM (blk_below (g := gb142) (o := .cells #[.int .i64 0, .slice none 0 0] 27 (0, 0)) (by exact p2 (lK BK142.out)) hb); replace HB := aM (bj HB.out hb); clear hb ho12))
   repeat (go_quiet (first | ((with_reducible refine gate_dst (N := 17) rfl ?_); refine Kd.R_lit Kd.string _ 9 ?hg (N := 17) ?hd (xs := ([(⟨#[]⟩ : ByteArray), (⟨#[100, 111, 110, 101]⟩ : ByteArray), (⟨#[115, 116, 111, 112, 112, 101, 100]⟩ : ByteArray), (⟨#[111, 118, 101, 114]⟩ : ByteArray)] : List ByteArray)) (inner := [.string (⟨#[]⟩ : ByteArray), .string (⟨#[100, 111, 110, 101]⟩ : ByteArray), .string (⟨#[115, 116, 111, 112, 112, 101, 100]⟩ : ByteArray), .string (⟨#[111, 118, 101, 114]⟩ : ByteArray)]) (ok := fun _ => True) (okp := fun _ => True) ?hr ?hp (fun _ hk => hk) trivial (Below.refl _ _) (Nat.le_refl _) (by simp) ?_; (case hd => rfl); (case hg => rfl); (case hr => first | (go_simp; done) | (go_simp; rfl)); (case hp => exact (Reps.one (show Kd.M Kd.string _ _ _ (⟨#[]⟩ : ByteArray) [.string (⟨#[]⟩ : ByteArray)] from rfl) (Reps.one (show Kd.M Kd.string _ _ _ (⟨#[100, 111, 110, 101]⟩ : ByteArray) [.string (⟨#[100, 111, 110, 101]⟩ : ByteArray)] from rfl) (Reps.one (show Kd.M Kd.string _ _ _ (⟨#[115, 116, 111, 112, 112, 101, 100]⟩ : ByteArray) [.string (⟨#[115, 116, 111, 112, 112, 101, 100]⟩ : ByteArray)] from rfl) (Reps.one (show Kd.M Kd.string _ _ _ (⟨#[111, 118, 101, 114]⟩ : ByteArray) [.string (⟨#[111, 118, 101, 114]⟩ : ByteArray)] from rfl) (Reps.none _ _)))))); intro v144 w11 ho12 hb hg_ hnew_; clear hg_ hnew_; (first | rw [← Ny143.out] at ho12 | (simp only [Int.reduceToNat] at ho12; rw [← Ny143.out] at ho12)); have HO145 := aM (Kd.R_lower (Kd.R_new' ho12 (Kd.R_lt (qp (R2 HO141.out BK142.out)))) (below_size (by exact jB HB.out))); replace HO141 := aM (Kd.R_elder' (qp (R2 HO141.out BK142.out)) (Kd.R_base ho12) hb); replace BK138 := aM (blk_below (f2 (lK BK138.out) NB138_142.out) hb); replace BK142 := aM (blk_below (g := gb142) (o := .cells #[.int .i64 0, .slice none 0 0] 27 (0, 0)) (by exact p2 (lK BK142.out)) hb); replace HB := aM (bj HB.out hb); clear hb ho12)); try go_wp2_with (first | ((with_reducible refine gate_dst (N := 17) rfl ?_); refine Kd.R_lit Kd.string _ 9 ?hg (N := 17) ?hd (xs := ([(⟨#[]⟩ : ByteArray), (⟨#[100, 111, 110, 101]⟩ : ByteArray), (⟨#[115, 116, 111, 112, 112, 101, 100]⟩ : ByteArray), (⟨#[111, 118, 101, 114]⟩ : ByteArray)] : List ByteArray)) (inner := [.string (⟨#[]⟩ : ByteArray), .string (⟨#[100, 111, 110, 101]⟩ : ByteArray), .string (⟨#[115, 116, 111, 112, 112, 101, 100]⟩ : ByteArray), .string (⟨#[111, 118, 101, 114]⟩ : ByteArray)]) (ok := fun _ => True) (okp := fun _ => True) ?hr ?hp (fun _ hk => hk) trivial (Below.refl _ _) (Nat.le_refl _) (by simp) ?_; (case hd => rfl); (case hg => rfl); (case hr => first | (go_simp; done) | (go_simp; rfl)); (case hp => exact (Reps.one (show Kd.M Kd.string _ _ _ (⟨#[]⟩ : ByteArray) [.string (⟨#[]⟩ : ByteArray)] from rfl) (Reps.one (show Kd.M Kd.string _ _ _ (⟨#[100, 111, 110, 101]⟩ : ByteArray) [.string (⟨#[100, 111, 110, 101]⟩ : ByteArray)] from rfl) (Reps.one (show Kd.M Kd.string _ _ _ (⟨#[115, 116, 111, 112, 112, 101, 100]⟩ : ByteArray) [.string (⟨#[115, 116, 111, 112, 112, 101, 100]⟩ : ByteArray)] from rfl) (Reps.one (show Kd.M Kd.string _ _ _ (⟨#[111, 118, 101, 114]⟩ : ByteArray) [.string (⟨#[111, 118, 101, 114]⟩ : ByteArray)] from rfl) (Reps.none _ _)))))); intro v144 w11 ho12 hb hg_ hnew_; clear hg_ hnew_; (first | rw [← Ny143.out] at ho12 | (simp only [Int.reduceToNat] at ho12; rw [← Ny143.out] at ho12)); have HO145 := aM (Kd.R_lower (Kd.R_new' ho12 (Kd.R_lt (qp (R2 HO141.out BK142.out)))) (below_size (by exact jB HB.out))); replace HO141 := aM (Kd.R_elder' (qp (R2 HO141.out BK142.out)) (Kd.R_base ho12) hb); replace BK138 := aM (blk_below (f2 (lK BK138.out) NB138_142.out) hb); replace BK142 := aM (blk_below (g := gb142) (o := .cells #[.int .i64 0, .slice none 0 0] 27 (0, 0)) (by exact p2 (lK BK142.out)) hb); replace HB := aM (bj HB.out hb); clear hb ho12)))
   go_loopg [7] k (fun kq v7 w' => ∃ (x7_1 : Int) (x143000_1 : Int), v7 = .int .i64 x7_1 ∧ Aside0 (spec_ResRead.l0 kq a0 t139 y143 x7_1 x143000_1 = some (r1, r2, r3)) ∧ Aside0 (kq ≤ k) ∧ Aside0 (Kd.R Kd.string 9 w' w.heap.size (fun k_ => some k_ ≠ v144.ownBlock) (.slice Ao9 t139.length co9) t139) ∧ Aside0 (Kd.R Kd.string 9 w' w.heap.size (fun k_ => some k_ ≠ ((.slice Ao9 t139.length co9) : Value).ownBlock) v144 y143) ∧ Aside0 (w'.heap[gb138]? = some (.cells #[.int .i64 0, (.slice none 0 0)] 27 (0, 0))) ∧ Aside0 (w'.heap[gb142]? = some (.cells #[.int .i64 x143000_1, (.slice none 0 0)] 27 (0, 0))) ∧ Aside0 (Below w.heap.size w w'))
   case atStart => exact ⟨(1), (0), (by first | rfl | (simp; done) | (simp [*]; done)), H', ⟨Nat.le_refl _⟩, ⟨by exact lR <| Kd.R_mono HO141.out (fun _ hk => hk.2)⟩, ⟨by exact lR <| Kd.R_mono HO145.out (fun _ hk => hk.2)⟩, ⟨by exact lK <| BK138.out⟩, ⟨by exact lK <| BK142.out⟩, ⟨by exact jB HB.out⟩⟩
   case round =>
    clear H'
    try clear c1
    try clear p2
    try clear c7
    try clear c10
    try clear c10b0
    try clear c10b1
    try clear hcz8_0
    try clear hcz8_1
    try clear hfz8_0
    try clear hfz8_1
    obtain ⟨x7_1, x143000_1, rfl, HA, HK1, HO_4, HO_6, BK138, BK142, HB⟩ := hrel
    cases gk with
    | zero => exact absurd HA.out (by simp [spec_ResRead.l0])
    | succ k1 =>
     have H := HA.out
     clear HA
     simp only [spec_ResRead.l0] at H
     by_cases c13 : x7_1 < (y143.length : Int)
     ·rw [if_pos c13] at H
      have c13b0 := decide_eq_true c13
      clear c13
      by_cases c14 : 0 ≤ x7_1
      ·rw [if_pos c14] at H
       have c14b0 := decide_eq_true c14
       clear c14
       by_cases c15 : 0 < (t139.length : Int)
       ·rw [if_pos c15] at H
        have c15b0 := decide_eq_true c15
        have c15b1 : decide (0 < t139.length) = true := decide_eq_true (by omega)
        clear c15
        by_cases c16 : (rdOf ByteArray.empty y143 x7_1).toList = (rdOf ByteArray.empty t139 0).toList
        ·rw [if_pos c16] at H
         have c16b0 := beq_iff_eq.mpr c16
         have c16b1 := bne_eq_false_iff_eq.mpr c16
         clear c16
         have H' := aM H
         clear H
         obtain ⟨Ao17, co17, eo17⟩ := Kd.R_slice HO_6.out
         subst eo17
         have p146 : 0 ≤ (x7_1 : Int) := of_decide_eq_true (by first | (with_reducible assumption) | assumption)
         have q146 : x7_1 < (y143.length : Int) := of_decide_eq_true (by first | (with_reducible assumption) | assumption)
         obtain ⟨ad146, e146, hx146_0⟩ := Kd.at_string (Kd.R_reads' HO_6.out).2.2 x7_1 p146 q146
         cases e146
         replace p146 := eq_true p146
         replace q146 := eq_true q146
         have p147 : 0 ≤ (0 : Int) := (by omega)
         have q147 : 0 < (t139.length : Int) := of_decide_eq_true (by first | (with_reducible assumption) | assumption)
         obtain ⟨ad147, e147, hx147_0⟩ := Kd.at_string (Kd.R_reads' HO_4.out).2.2 0 p147 q147
         cases e147
         have qi147 : (0 < t139.length) = True := eq_true (by omega)
         (try rw [show ((0 : Int)).toNat = 0 from rfl] at hx147_0)
         (try rw [Addr.add_zero'] at hx147_0)
         replace p147 := eq_true p147
         replace q147 := eq_true q147
         have hnb18 := NB142_138.out
         have hnc18 := NB138_142.out
         obtain ⟨hcz19_0, hcz19_1, hfz19_0, hfz19_1⟩ := cf2 BK142.out
         go_wp2
         repeat (go_quiet (fail); try go_wp2)
         go_roundg k1
         case measure => have := HK1.out; omega
         case rel => exact ⟨(wrap64 (x7_1 + 1)), (x7_1), (by first | rfl | (simp; done) | (simp [*]; done)), H', ⟨by have := HK1.out; omega⟩, ⟨by exact lR <| Kd.R_mono (Kd.R_far (p := ⟨gb142, 0, none⟩) (Kd.R_types HO_4.out BK142.out (by decide)) (fun _ hk => hk.2) (.int .i64 x7_1)) (fun _ hk => hk.1)⟩, ⟨by exact lR <| Kd.R_mono (Kd.R_far (p := ⟨gb142, 0, none⟩) (Kd.R_types HO_6.out BK142.out (by decide)) (fun _ hk => hk.2) (.int .i64 x7_1)) (fun _ hk => hk.1)⟩, ⟨by (with_reducible repeat first | refine kN ?_ _ | refine kD ?_ | refine kA ?_ _); refine blk_far ?_ NB138_142.out _; exact lK <| BK138.out⟩, ⟨by (with_reducible repeat first | refine kN ?_ _ | refine kD ?_ | refine kA ?_ _); refine blk_put (cs := #[.int .i64 x143000_1, .slice none 0 0]) ?_ 0 _ rfl; exact lK <| BK142.out⟩, ⟨by exact jB HB.out⟩⟩
        ·rw [if_neg c16] at H
         have c16b0 := beq_eq_false_iff_ne.mpr c16
         have c16b1 := bne_iff_ne.mpr c16
         have H' := aM H
         clear H
         obtain ⟨Ao20, co20, eo20⟩ := Kd.R_slice HO_6.out
         subst eo20
         have p146 : 0 ≤ (x7_1 : Int) := of_decide_eq_true (by first | (with_reducible assumption) | assumption)
         have q146 : x7_1 < (y143.length : Int) := of_decide_eq_true (by first | (with_reducible assumption) | assumption)
         obtain ⟨ad146, e146, hx146_0⟩ := Kd.at_string (Kd.R_reads' HO_6.out).2.2 x7_1 p146 q146
         cases e146
         replace p146 := eq_true p146
         replace q146 := eq_true q146
         have p147 : 0 ≤ (0 : Int) := (by omega)
         have q147 : 0 < (t139.length : Int) := of_decide_eq_true (by first | (with_reducible assumption) | assumption)
         obtain ⟨ad147, e147, hx147_0⟩ := Kd.at_string (Kd.R_reads' HO_4.out).2.2 0 p147 q147
         cases e147
         have qi147 : (0 < t139.length) = True := eq_true (by omega)
         (try rw [show ((0 : Int)).toNat = 0 from rfl] at hx147_0)
         (try rw [Addr.add_zero'] at hx147_0)
         replace p147 := eq_true p147
         replace q147 := eq_true q147
         go_wp2
         repeat (go_quiet (fail); try go_wp2)
         go_roundg k1
         case measure => have := HK1.out; omega
         case rel => exact ⟨(wrap64 (x7_1 + 1)), (x143000_1), (by first | rfl | (simp; done) | (simp [*]; done)), H', ⟨by have := HK1.out; omega⟩, ⟨by exact lR <| HO_4.out⟩, ⟨by exact lR <| HO_6.out⟩, ⟨by exact lK <| BK138.out⟩, ⟨by exact lK <| BK142.out⟩, ⟨by exact jB HB.out⟩⟩
       ·rw [if_neg c15] at H
        exact absurd H (by simp)
      ·rw [if_neg c14] at H
       exact absurd H (by simp)
     ·rw [if_neg c13] at H
      have c13b0 := decide_eq_false c13
      clear c13
      have H' := aM H
      clear H
      obtain ⟨Ao21, co21, eo21⟩ := Kd.R_slice HO_6.out
      subst eo21
      go_wp2
      repeat (go_quiet (fail); try go_wp2)
      go_meet
      case rel => exact ⟨_, (x143000_1), H', ⟨by have := HK1.out; first | omega | exact Nat.le_refl _⟩, ⟨by exact lR <| Kd.R_mono HO_4.out (fun _ hk => trivial)⟩, ⟨by exact lK <| BK138.out⟩, ⟨by exact lK <| BK142.out⟩, ⟨by exact jB HB.out⟩⟩
  ·rw [if_neg c10] at H
   have c10b0 := decide_eq_false c10
   have c10b1 : decide (0 < t139.length) = false := decide_eq_false (by omega)
   clear c10
   (first | rw [c10b0] | (simp only [i64_w, i32_w]; rw [c10b0]) | rw [c10b1] | skip)
   have H' := aM H
   clear H
   go_wp2
   repeat (go_quiet (fail); try go_wp2)
   go_meet
   case rel => exact ⟨_, (0), H', ⟨by first | omega | exact Nat.le_refl _⟩, ⟨by (with_reducible repeat first | apply ra | apply rn | apply re); exact Kd.R_mono (R2 HO141.out BK142.out) (fun _ hk => trivial)⟩, ⟨by exact f2 (lK BK138.out) NB138_142.out⟩, ⟨by exact p2 (lK BK142.out)⟩, ⟨by exact jB HB.out⟩⟩
 case rest =>
  clear HC3
  try clear c1
  try clear p1
  try clear q1
  try clear hx1
  try clear qi1
  try clear p2
  try clear p6
  try clear c7
  try clear c10
  try clear c10b0
  try clear c10b1
  try clear c13
  try clear c13b0
  try clear c14
  try clear c14b0
  try clear p14
  try clear q14
  try clear hx14
  try clear qi14
  try clear c15
  try clear c15b0
  try clear c15b1
  try clear c16
  try clear c16b0
  try clear c16b1
  try clear c18
  try clear hcz19_0
  try clear hcz19_1
  try clear hcz8_0
  try clear hcz8_1
  try clear hfz19_0
  try clear hfz19_1
  try clear hfz8_0
  try clear hfz8_1
  try clear hx146_0
  try clear hx147_0
  try clear p146
  try clear p147
  try clear p2
  try clear q146
  try clear q147
  obtain ⟨kq, x143000_2, HA, HJ2, HO_4, BK138, BK142, HB⟩ := hcut
  cases kq with
  | zero => exact absurd HA.out (by simp [spec_ResRead.j1])
  | succ kj2 =>
   have H := HA.out
   clear HA
   simp only [spec_ResRead.j1] at H
   have H' := aM H
   clear H
   go_wp2
   repeat (go_quiet (fail); try go_wp2)
   go_loopg [8] kj2 (fun kq v8 w' => ∃ (x8_2 : Int) (x143001_2 : List Int) (u143001 : Value), v8 = .int .i64 x8_2 ∧ Aside0 (spec_ResRead.l1 kq a0 t139 x8_2 x143000_2 x143001_2 = some (r1, r2, r3)) ∧ Aside0 (kq ≤ kj2) ∧ Aside0 (Kd.R Kd.string 9 w' w.heap.size (fun _ => True) (.slice Ao9 t139.length co9) t139) ∧ Aside0 (Kd.R (Kd.int .i64) 3 w' w.heap.size (fun _ => True) u143001 x143001_2) ∧ Aside0 (w'.heap[gb138]? = some (.cells #[.int .i64 0, (.slice none 0 0)] 27 (0, 0))) ∧ Aside0 (w'.heap[gb142]? = some (.cells #[.int .i64 x143000_2, u143001] 27 (0, 0))) ∧ Aside0 (Below w.heap.size w w'))
   case atStart => exact ⟨(1), (([] : List Int)), (.slice none 0 0), (by first | rfl | (simp; done) | (simp [*]; done)), H', ⟨Nat.le_refl _⟩, ⟨by exact lR <| HO_4.out⟩, ⟨by first | exact Kd.R_nil _ _ _ _ _ | exact Kd.N_nil _ _ _ _ _ | exact Kd.V_nil _ _ _ _ _ | exact Kd.Q_nil _ _ _ _ _ | exact Kd.S_nil _ _ _ _ _⟩, ⟨by exact lK <| BK138.out⟩, ⟨by exact lK <| BK142.out⟩, ⟨by exact jB HB.out⟩⟩
   case round =>
    clear H'
    try clear c1
    try clear p1
    try clear q1
    try clear hx1
    try clear qi1
    try clear p2
    try clear p6
    try clear c7
    try clear c10
    try clear c10b0
    try clear c10b1
    try clear c13
    try clear c13b0
    try clear c14
    try clear c14b0
    try clear p14
    try clear q14
    try clear hx14
    try clear qi14
    try clear c15
    try clear c15b0
    try clear c15b1
    try clear c16
    try clear c16b0
    try clear c16b1
    try clear c18
    try clear hcz19_0
    try clear hcz19_1
    try clear hcz8_0
    try clear hcz8_1
    try clear hfz19_0
    try clear hfz19_1
    try clear hfz8_0
    try clear hfz8_1
    try clear hx146_0
    try clear hx147_0
    try clear p1
    try clear p14
    try clear p146
    try clear p147
    try clear p2
    try clear p6
    try clear q1
    try clear q14
    try clear q146
    try clear q147
    obtain ⟨x8_2, x143001_2, u143001, rfl, HA, HK2, HO_4, HO_143001, BK138, BK142, HB⟩ := hrel
    cases gk with
    | zero => exact absurd HA.out (by simp [spec_ResRead.l1])
    | succ k2 =>
     have H := HA.out
     clear HA
     simp only [spec_ResRead.l1] at H
     by_cases c22 : x8_2 < (t139.length : Int)
     ·rw [if_pos c22] at H
      have c22b0 := decide_eq_true c22
      clear c22
      by_cases c23 : 0 ≤ x8_2
      ·rw [if_pos c23] at H
       have c23b0 := decide_eq_true c23
       clear c23
       obtain ⟨⟨t149, t150⟩, A24, H⟩ := bS H
       try dsimp only at H
       by_cases c25 : x143001_2.length < 17592186044416
       ·rw [if_pos c25] at H
        have LMc25 := aM c25
        clear c25
        obtain ⟨y151, hy151⟩ : ∃ y_ : List Int, y_ = (x143001_2 ++ [t149]) := ⟨_, rfl⟩
        try rw [← hy151] at H
        try dsimp only [Option.bind_some] at H
        have Ny151 := aM hy151
        clear hy151
        have H' := aM H
        clear H
        have p148 : 0 ≤ (x8_2 : Int) := of_decide_eq_true (by first | (with_reducible assumption) | assumption)
        have q148 : x8_2 < (t139.length : Int) := of_decide_eq_true (by first | (with_reducible assumption) | assumption)
        obtain ⟨ad148, e148, hx148_0⟩ := Kd.at_string (Kd.R_reads' HO_4.out).2.2 x8_2 p148 q148
        cases e148
        replace p148 := eq_true p148
        replace q148 := eq_true q148
        go_wp2_with (first | (go_at_call 32; (with_reducible refine (spec_l1Number.calls k2 (rdOf ByteArray.empty t139 x8_2) t149 t150 _ A24.out).mono ?_); rintro e w' ⟨rfl, ⟨nd, rfl⟩⟩; (try first | exact ⟨rfl, _, World.drewN_drewN _ _ _⟩ | exact ⟨rfl, _, Eq.trans (World.drewN_drewN _ _ _) (congrArg (World.drewN _) (Nat.add_assoc _ _ _))⟩); have hnb26 := NB142_138.out; have hnc26 := NB138_142.out; obtain ⟨hcz27_0, hcz27_1, hfz27_0, hfz27_1⟩ := cf2 BK142.out) | ((with_reducible refine gate_builtin (b := .append) (xs := #[.tmp 49, .tmp 51]) rfl ?_); at_builtin; refine Kd.R_append (Kd.int .i64) (w0 := w) w.heap.size rfl (.tmp 49) (.tmp 51) 22 3 (.int .i64 0) 8 rfl Tryd.underlying22 info3 rfl (by decide) (by omega) u143001 x143001_2 t149 [.int .i64 t149] (fun _ => True) (fun _ => False) rfl rfl ?aP (fun _ hk => hk.elim) ?aF ?aO ?aB ?aS ?aL ?_; (case aP => exact rfl); (case aB => exact (by exact jB HB.out)); (case aF => exact (fun _ _ => trivial)); (case aO => exact (by exact lR HO_143001.out)); (case aS => exact (below_size (by exact jB HB.out))); (case aL => have := LMc25.out; omega); intro v152 w28 ho hb hg hat; rw [← Ny151.out] at ho; replace HO_4 := aM (Kd.R_over' (by exact lR HO_4.out) (Kd.R_typed (by exact lR HO_143001.out)) (by decide) hg); replace BK138 := aM (blk_grown (g := gb138) (o := .cells #[.int .i64 0, .slice none 0 0] 27 (0, 0)) (by exact lK BK138.out) hg (Kd.R_ne HO_143001.out BK138.out (by decide))); replace BK142 := aM (blk_grown (g := gb142) (o := .cells #[.int .i64 x143000_2, u143001] 27 (0, 0)) (by exact lK BK142.out) hg (Kd.R_ne HO_143001.out BK142.out (by decide))); replace HB := aM (hb); have HO153 := aM (ho); clear HO_143001 ho hb hg hat; obtain ⟨Ao29, co29, eo29⟩ := Kd.R_slice HO153.out; subst eo29; obtain ⟨hcz30_0, hcz30_1, hfz30_0, hfz30_1⟩ := cf2 BK142.out))
        try (have hnb26 := NB142_138.out; have hnc26 := NB138_142.out; obtain ⟨hcz27_0, hcz27_1, hfz27_0, hfz27_1⟩ := cf2 BK142.out)
        repeat (go_quiet (first | (go_at_call 32; (with_reducible refine (spec_l1Number.calls k2 (rdOf ByteArray.empty t139 x8_2) t149 t150 _ A24.out).mono ?_); rintro e w' ⟨rfl, ⟨nd, rfl⟩⟩; (try first | exact ⟨rfl, _, World.drewN_drewN _ _ _⟩ | exact ⟨rfl, _, Eq.trans (World.drewN_drewN _ _ _) (congrArg (World.drewN _) (Nat.add_assoc _ _ _))⟩); obtain ⟨hcz27_0, hcz27_1, hfz27_0, hfz27_1⟩ := cf2 BK142.out) | ((with_reducible refine gate_builtin (b := .append) (xs := #[.tmp 49, .tmp 51]) rfl ?_); at_builtin; refine Kd.R_append (Kd.int .i64) (w0 := w) w.heap.size rfl (.tmp 49) (.tmp 51) 22 3 (.int .i64 0) 8 rfl Tryd.underlying22 info3 rfl (by decide) (by omega) u143001 x143001_2 t149 [.int .i64 t149] (fun _ => True) (fun _ => False) rfl rfl ?aP (fun _ hk => hk.elim) ?aF ?aO ?aB ?aS ?aL ?_; (case aP => exact rfl); (case aB => exact (by exact jB HB.out)); (case aF => exact (fun _ _ => trivial)); (case aO => exact (by exact lR HO_143001.out)); (case aS => exact (below_size (by exact jB HB.out))); (case aL => have := LMc25.out; omega); intro v152 w28 ho hb hg hat; rw [← Ny151.out] at ho; replace HO_4 := aM (Kd.R_over' (by exact lR HO_4.out) (Kd.R_typed (by exact lR HO_143001.out)) (by decide) hg); replace BK138 := aM (blk_grown (g := gb138) (o := .cells #[.int .i64 0, .slice none 0 0] 27 (0, 0)) (by exact lK BK138.out) hg (Kd.R_ne HO_143001.out BK138.out (by decide))); replace BK142 := aM (blk_grown (g := gb142) (o := .cells #[.int .i64 x143000_2, u143001] 27 (0, 0)) (by exact lK BK142.out) hg (Kd.R_ne HO_143001.out BK142.out (by decide))); replace HB := aM (hb); have HO153 := aM (ho); clear HO_143001 ho hb hg hat; obtain ⟨Ao29, co29, eo29⟩ := Kd.R_slice HO153.out; subst eo29; obtain ⟨hcz30_0, hcz30_1, hfz30_0, hfz30_1⟩ := cf2 BK142.out)); try go_wp2_with (first | (go_at_call 32; (with_reducible refine (spec_l1Number.calls k2 (rdOf ByteArray.empty t139 x8_2) t149 t150 _ A24.out).mono ?_); rintro e w' ⟨rfl, ⟨nd, rfl⟩⟩; (try first | exact ⟨rfl, _, World.drewN_drewN _ _ _⟩ | exact ⟨rfl, _, Eq.trans (World.drewN_drewN _ _ _) (congrArg (World.drewN _) (Nat.add_assoc _ _ _))⟩); have hnb26 := NB142_138.out; have hnc26 := NB138_142.out; obtain ⟨hcz27_0, hcz27_1, hfz27_0, hfz27_1⟩ := cf2 BK142.out) | ((with_reducible refine gate_builtin (b := .append) (xs := #[.tmp 49, .tmp 51]) rfl ?_); at_builtin; refine Kd.R_append (Kd.int .i64) (w0 := w) w.heap.size rfl (.tmp 49) (.tmp 51) 22 3 (.int .i64 0) 8 rfl Tryd.underlying22 info3 rfl (by decide) (by omega) u143001 x143001_2 t149 [.int .i64 t149] (fun _ => True) (fun _ => False) rfl rfl ?aP (fun _ hk => hk.elim) ?aF ?aO ?aB ?aS ?aL ?_; (case aP => exact rfl); (case aB => exact (by exact jB HB.out)); (case aF => exact (fun _ _ => trivial)); (case aO => exact (by exact lR HO_143001.out)); (case aS => exact (below_size (by exact jB HB.out))); (case aL => have := LMc25.out; omega); intro v152 w28 ho hb hg hat; rw [← Ny151.out] at ho; replace HO_4 := aM (Kd.R_over' (by exact lR HO_4.out) (Kd.R_typed (by exact lR HO_143001.out)) (by decide) hg); replace BK138 := aM (blk_grown (g := gb138) (o := .cells #[.int .i64 0, .slice none 0 0] 27 (0, 0)) (by exact lK BK138.out) hg (Kd.R_ne HO_143001.out BK138.out (by decide))); replace BK142 := aM (blk_grown (g := gb142) (o := .cells #[.int .i64 x143000_2, u143001] 27 (0, 0)) (by exact lK BK142.out) hg (Kd.R_ne HO_143001.out BK142.out (by decide))); replace HB := aM (hb); have HO153 := aM (ho); clear HO_143001 ho hb hg hat; obtain ⟨Ao29, co29, eo29⟩ := Kd.R_slice HO153.out; subst eo29; obtain ⟨hcz30_0, hcz30_1, hfz30_0, hfz30_1⟩ := cf2 BK142.out)))
        go_roundg k2
        case measure => have := HJ2.out; have := HK2.out; omega
        case rel => exact ⟨(wrap64 (x8_2 + 1)), (y151), (.slice Ao29 y151.length co29), (by first | rfl | (simp; done) | (simp [*]; done)), H', ⟨by have := HJ2.out; have := HK2.out; omega⟩, ⟨by exact lR <| Kd.R_mono (Kd.R_far (p := ⟨gb142, 1, none⟩) (Kd.R_types HO_4.out BK142.out (by decide)) (fun _ hk => hk.2) (.slice Ao29 y151.length co29)) (fun _ hk => trivial)⟩, ⟨by exact lR <| Kd.R_mono (Kd.R_far (p := ⟨gb142, 1, none⟩) (Kd.R_types HO153.out BK142.out (by decide)) (fun _ hk => hk.2) (.slice Ao29 y151.length co29)) (fun _ hk => trivial)⟩, ⟨by (with_reducible repeat first | refine kN ?_ _ | refine kD ?_ | refine kA ?_ _); refine blk_far ?_ NB138_142.out _; exact lK <| BK138.out⟩, ⟨by (with_reducible repeat first | refine kN ?_ _ | refine kD ?_ | refine kA ?_ _); refine blk_put (cs := #[.int .i64 x143000_2, u143001]) ?_ 1 _ rfl; exact lK <| BK142.out⟩, ⟨by exact jB HB.out⟩⟩
       ·rw [if_neg c25] at H
        exact absurd H (by simp)
      ·rw [if_neg c23] at H
       exact absurd H (by simp)
     ·rw [if_neg c22] at H
      have c22b0 := decide_eq_false c22
      clear c22
      obtain ⟨t154, A31, H⟩ := bS H
      try dsimp only at H
      by_cases c32 : t154.toList = ([] : List UInt8)
      ·rw [if_pos c32] at H
       have c32b0 := beq_iff_eq.mpr c32
       have c32b1 := bne_eq_false_iff_eq.mpr c32
       clear c32
       simp only [Option.some.injEq, Prod.mk.injEq] at H
       obtain ⟨rfl, rfl, rfl⟩ := H
       have hnb33 := NB142_138.out
       have hnc33 := NB138_142.out
       obtain ⟨hcz34_0, hcz34_1, hfz34_0, hfz34_1⟩ := cf2 BK142.out
       obtain ⟨Ao35, co35, eo35⟩ := Kd.R_slice HO_143001.out
       subst eo35
       go_wp2_with (first | (go_at_call 8; (with_reducible refine (spec_ResText.calls k2 x143000_2 _ _ x143001_2 t154 _ ?side1 ?side2 A31.out).mono ?_); (case side1 => exact lC <| (Kd.R_reads' HO_143001.out).2.2); (case side2 => exact (Kd.R_reads' HO_143001.out).2.1); rintro e w36 ⟨rfl, hb⟩; replace HO_4 := aM (rb HO_4.out hb); replace HO_143001 := aM (rb HO_143001.out hb); replace BK138 := aM (bb BK138.out hb); replace BK142 := aM (bb BK142.out hb); replace HB := aM (bj HB.out hb); (try clear hb); obtain ⟨hcz37_0, hcz37_1, hfz37_0, hfz37_1⟩ := cf2 BK138.out))
       repeat (go_quiet (first | (go_at_call 8; (with_reducible refine (spec_ResText.calls k2 x143000_2 _ _ x143001_2 t154 _ ?side1 ?side2 A31.out).mono ?_); (case side1 => exact lC <| (Kd.R_reads' HO_143001.out).2.2); (case side2 => exact (Kd.R_reads' HO_143001.out).2.1); rintro e w36 ⟨rfl, hb⟩; replace HO_4 := aM (rb HO_4.out hb); replace HO_143001 := aM (rb HO_143001.out hb); replace BK138 := aM (bb BK138.out hb); replace BK142 := aM (bb BK142.out hb); replace HB := aM (bj HB.out hb); (try clear hb); obtain ⟨hcz37_0, hcz37_1, hfz37_0, hfz37_1⟩ := cf2 BK138.out)); try go_wp2_with (first | (go_at_call 8; (with_reducible refine (spec_ResText.calls k2 x143000_2 _ _ x143001_2 t154 _ ?side1 ?side2 A31.out).mono ?_); (case side1 => exact lC <| (Kd.R_reads' HO_143001.out).2.2); (case side2 => exact (Kd.R_reads' HO_143001.out).2.1); rintro e w36 ⟨rfl, hb⟩; replace HO_4 := aM (rb HO_4.out hb); replace HO_143001 := aM (rb HO_143001.out hb); replace BK138 := aM (bb BK138.out hb); replace BK142 := aM (bb BK142.out hb); replace HB := aM (bj HB.out hb); (try clear hb); obtain ⟨hcz37_0, hcz37_1, hfz37_0, hfz37_1⟩ := cf2 BK138.out)))
       refine bodyPost_ret (results_ct rfl _ _ gb138 27 #[.int .i64 0, .slice none 0 0] (0, 0) _ rfl (by exact p2 (lK BK138.out)) Tryd.underlying27 rfl (by kernel_rfl)) rfl ?_
       exact ⟨_, er, by first | exact Kd.R_nil _ _ _ _ _ | exact Kd.N_nil _ _ _ _ _ | exact Kd.V_nil _ _ _ _ _ | exact Kd.Q_nil _ _ _ _ _ | exact Kd.S_nil _ _ _ _ _, by exact jB HB.out⟩
      ·rw [if_neg c32] at H
       have c32b0 := beq_eq_false_iff_ne.mpr c32
       have c32b1 := bne_iff_ne.mpr c32
       obtain ⟨t155, A38, H⟩ := bS H
       try dsimp only at H
       by_cases c39 : t155.toList = a0.toList
       ·rw [if_pos c39] at H
        have c39b0 := beq_iff_eq.mpr c39
        have c39b1 := bne_eq_false_iff_eq.mpr c39
        clear c39
        simp only [Option.some.injEq, Prod.mk.injEq] at H
        obtain ⟨rfl, rfl, rfl⟩ := H
        have hnb40 := NB142_138.out
        have hnc40 := NB138_142.out
        obtain ⟨hcz41_0, hcz41_1, hfz41_0, hfz41_1⟩ := cf2 BK142.out
        obtain ⟨Ao42, co42, eo42⟩ := Kd.R_slice HO_143001.out
        subst eo42
        have e_t155 : t154 = t155 := Option.some.inj (A31.out.symm.trans A38.out)
        subst t155
        go_wp2_with (first | (go_at_call 8; (with_reducible refine (spec_ResText.calls k2 x143000_2 _ _ x143001_2 t154 _ ?side1 ?side2 A31.out).mono ?_); (case side1 => exact lC <| (Kd.R_reads' HO_143001.out).2.2); (case side2 => exact (Kd.R_reads' HO_143001.out).2.1); rintro e w43 ⟨rfl, hb⟩; replace HO_4 := aM (rb HO_4.out hb); replace HO_143001 := aM (rb HO_143001.out hb); replace BK138 := aM (bb BK138.out hb); replace BK142 := aM (bb BK142.out hb); replace HB := aM (bj HB.out hb); (try clear hb); obtain ⟨hcz44_0, hcz44_1, hfz44_0, hfz44_1⟩ := cf2 BK142.out; obtain ⟨hcz47_0, hcz47_1, hfz47_0, hfz47_1⟩ := cf2 BK138.out) | (go_at_call 8; (with_reducible refine (spec_ResText.calls k2 x143000_2 _ _ x143001_2 t154 _ ?side1 ?side2 A38.out).mono ?_); (case side1 => exact lC <| (Kd.R_reads' HO_143001.out).2.2); (case side2 => exact (Kd.R_reads' HO_143001.out).2.1); rintro e w45 ⟨rfl, hb⟩; replace HO_4 := aM (rb HO_4.out hb); replace HO_143001 := aM (rb HO_143001.out hb); replace BK138 := aM (bb BK138.out hb); replace BK142 := aM (bb BK142.out hb); replace HB := aM (bj HB.out hb); (try clear hb); obtain ⟨hcz46_0, hcz46_1, hfz46_0, hfz46_1⟩ := cf2 BK142.out; obtain ⟨hcz47_0, hcz47_1, hfz47_0, hfz47_1⟩ := cf2 BK138.out))
        repeat (go_quiet (first | (go_at_call 8; (with_reducible refine (spec_ResText.calls k2 x143000_2 _ _ x143001_2 t154 _ ?side1 ?side2 A31.out).mono ?_); (case side1 => exact lC <| (Kd.R_reads' HO_143001.out).2.2); (case side2 => exact (Kd.R_reads' HO_143001.out).2.1); rintro e w43 ⟨rfl, hb⟩; replace HO_4 := aM (rb HO_4.out hb); replace HO_143001 := aM (rb HO_143001.out hb); replace BK138 := aM (bb BK138.out hb); replace BK142 := aM (bb BK142.out hb); replace HB := aM (bj HB.out hb); (try clear hb); obtain ⟨hcz44_0, hcz44_1, hfz44_0, hfz44_1⟩ := cf2 BK142.out; obtain ⟨hcz47_0, hcz47_1, hfz47_0, hfz47_1⟩ := cf2 BK138.out) | (go_at_call 8; (with_reducible refine (spec_ResText.calls k2 x143000_2 _ _ x143001_2 t154 _ ?side1 ?side2 A38.out).mono ?_); (case side1 => exact lC <| (Kd.R_reads' HO_143001.out).2.2); (case side2 => exact (Kd.R_reads' HO_143001.out).2.1); rintro e w45 ⟨rfl, hb⟩; replace HO_4 := aM (rb HO_4.out hb); replace HO_143001 := aM (rb HO_143001.out hb); replace BK138 := aM (bb BK138.out hb); replace BK142 := aM (bb BK142.out hb); replace HB := aM (bj HB.out hb); (try clear hb); obtain ⟨hcz46_0, hcz46_1, hfz46_0, hfz46_1⟩ := cf2 BK142.out; obtain ⟨hcz47_0, hcz47_1, hfz47_0, hfz47_1⟩ := cf2 BK138.out)); try go_wp2_with (first | (go_at_call 8; (with_reducible refine (spec_ResText.calls k2 x143000_2 _ _ x143001_2 t154 _ ?side1 ?side2 A31.out).mono ?_); (case side1 => exact lC <| (Kd.R_reads' HO_143001.out).2.2); (case side2 => exact (Kd.R_reads' HO_143001.out).2.1); rintro e w43 ⟨rfl, hb⟩; replace HO_4 := aM (rb HO_4.out hb); replace HO_143001 := aM (rb HO_143001.out hb); replace BK138 := aM (bb BK138.out hb); replace BK142 := aM (bb BK142.out hb); replace HB := aM (bj HB.out hb); (try clear hb); obtain ⟨hcz44_0, hcz44_1, hfz44_0, hfz44_1⟩ := cf2 BK142.out) | (go_at_call 8; (with_reducible refine (spec_ResText.calls k2 x143000_2 _ _ x143001_2 t154 _ ?side1 ?side2 A38.out).mono ?_); (case side1 => exact lC <| (Kd.R_reads' HO_143001.out).2.2); (case side2 => exact (Kd.R_reads' HO_143001.out).2.1); rintro e w45 ⟨rfl, hb⟩; replace HO_4 := aM (rb HO_4.out hb); replace HO_143001 := aM (rb HO_143001.out hb); replace BK138 := aM (bb BK138.out hb); replace BK142 := aM (bb BK142.out hb); replace HB := aM (bj HB.out hb); (try clear hb); obtain ⟨hcz46_0, hcz46_1, hfz46_0, hfz46_1⟩ := cf2 BK142.out; obtain ⟨hcz47_0, hcz47_1, hfz47_0, hfz47_1⟩ := cf2 BK138.out)))
        refine bodyPost_ret (results_ct rfl _ _ gb138 27 #[.int .i64 x143000_2, .slice Ao42 x143001_2.length co42] (0, 0) _ rfl (by exact p2 (lK BK138.out)) Tryd.underlying27 rfl (by kernel_rfl)) rfl ?_
        exact ⟨_, er, by exact lR <| Kd.R_mono (Kd.R_far (p := ⟨gb138, 1, none⟩) (Kd.R_far (p := ⟨gb138, 0, none⟩) (Kd.R_types HO_143001.out BK138.out (by decide)) (fun _ hk => by first | exact hk.2 | exact fun e_ => hk.2 (e_.trans (ob _ _ _ _))) (.int .i64 x143000_2)) (fun _ hk => by first | exact hk.2 | exact fun e_ => hk.2 (e_.trans (ob _ _ _ _))) (.slice Ao42 x143001_2.length co42)) (fun _ hk => trivial), by exact jB HB.out⟩
       ·rw [if_neg c39] at H
        have c39b0 := beq_eq_false_iff_ne.mpr c39
        have c39b1 := bne_iff_ne.mpr c39
        simp only [Option.some.injEq, Prod.mk.injEq] at H
        obtain ⟨rfl, rfl, rfl⟩ := H
        have hnb48 := NB142_138.out
        have hnc48 := NB138_142.out
        obtain ⟨hcz49_0, hcz49_1, hfz49_0, hfz49_1⟩ := cf2 BK142.out
        obtain ⟨Ao50, co50, eo50⟩ := Kd.R_slice HO_143001.out
        subst eo50
        have e_t155 : t154 = t155 := Option.some.inj (A31.out.symm.trans A38.out)
        subst t155
        go_wp2_with (first | (go_at_call 8; (with_reducible refine (spec_ResText.calls k2 x143000_2 _ _ x143001_2 t154 _ ?side1 ?side2 A31.out).mono ?_); (case side1 => exact lC <| (Kd.R_reads' HO_143001.out).2.2); (case side2 => exact (Kd.R_reads' HO_143001.out).2.1); rintro e w51 ⟨rfl, hb⟩; replace HO_4 := aM (rb HO_4.out hb); replace HO_143001 := aM (rb HO_143001.out hb); replace BK138 := aM (bb BK138.out hb); replace BK142 := aM (bb BK142.out hb); replace HB := aM (bj HB.out hb); (try clear hb); obtain ⟨hcz52_0, hcz52_1, hfz52_0, hfz52_1⟩ := cf2 BK142.out; obtain ⟨hcz54_0, hcz54_1, hfz54_0, hfz54_1⟩ := cf2 BK138.out) | (go_at_call 8; (with_reducible refine (spec_ResText.calls k2 x143000_2 _ _ x143001_2 t154 _ ?side1 ?side2 A38.out).mono ?_); (case side1 => exact lC <| (Kd.R_reads' HO_143001.out).2.2); (case side2 => exact (Kd.R_reads' HO_143001.out).2.1); rintro e w53 ⟨rfl, hb⟩; replace HO_4 := aM (rb HO_4.out hb); replace HO_143001 := aM (rb HO_143001.out hb); replace BK138 := aM (bb BK138.out hb); replace BK142 := aM (bb BK142.out hb); replace HB := aM (bj HB.out hb); (try clear hb); obtain ⟨hcz54_0, hcz54_1, hfz54_0, hfz54_1⟩ := cf2 BK138.out))
        repeat (go_quiet (first | (go_at_call 8; (with_reducible refine (spec_ResText.calls k2 x143000_2 _ _ x143001_2 t154 _ ?side1 ?side2 A31.out).mono ?_); (case side1 => exact lC <| (Kd.R_reads' HO_143001.out).2.2); (case side2 => exact (Kd.R_reads' HO_143001.out).2.1); rintro e w51 ⟨rfl, hb⟩; replace HO_4 := aM (rb HO_4.out hb); replace HO_143001 := aM (rb HO_143001.out hb); replace BK138 := aM (bb BK138.out hb); replace BK142 := aM (bb BK142.out hb); replace HB := aM (bj HB.out hb); (try clear hb); obtain ⟨hcz52_0, hcz52_1, hfz52_0, hfz52_1⟩ := cf2 BK142.out; obtain ⟨hcz54_0, hcz54_1, hfz54_0, hfz54_1⟩ := cf2 BK138.out) | (go_at_call 8; (with_reducible refine (spec_ResText.calls k2 x143000_2 _ _ x143001_2 t154 _ ?side1 ?side2 A38.out).mono ?_); (case side1 => exact lC <| (Kd.R_reads' HO_143001.out).2.2); (case side2 => exact (Kd.R_reads' HO_143001.out).2.1); rintro e w53 ⟨rfl, hb⟩; replace HO_4 := aM (rb HO_4.out hb); replace HO_143001 := aM (rb HO_143001.out hb); replace BK138 := aM (bb BK138.out hb); replace BK142 := aM (bb BK142.out hb); replace HB := aM (bj HB.out hb); (try clear hb); obtain ⟨hcz54_0, hcz54_1, hfz54_0, hfz54_1⟩ := cf2 BK138.out)); try go_wp2_with (first | (go_at_call 8; (with_reducible refine (spec_ResText.calls k2 x143000_2 _ _ x143001_2 t154 _ ?side1 ?side2 A31.out).mono ?_); (case side1 => exact lC <| (Kd.R_reads' HO_143001.out).2.2); (case side2 => exact (Kd.R_reads' HO_143001.out).2.1); rintro e w51 ⟨rfl, hb⟩; replace HO_4 := aM (rb HO_4.out hb); replace HO_143001 := aM (rb HO_143001.out hb); replace BK138 := aM (bb BK138.out hb); replace BK142 := aM (bb BK142.out hb); replace HB := aM (bj HB.out hb); (try clear hb); obtain ⟨hcz52_0, hcz52_1, hfz52_0, hfz52_1⟩ := cf2 BK142.out) | (go_at_call 8; (with_reducible refine (spec_ResText.calls k2 x143000_2 _ _ x143001_2 t154 _ ?side1 ?side2 A38.out).mono ?_); (case side1 => exact lC <| (Kd.R_reads' HO_143001.out).2.2); (case side2 => exact (Kd.R_reads' HO_143001.out).2.1); rintro e w53 ⟨rfl, hb⟩; replace HO_4 := aM (rb HO_4.out hb); replace HO_143001 := aM (rb HO_143001.out hb); replace BK138 := aM (bb BK138.out hb); replace BK142 := aM (bb BK142.out hb); replace HB := aM (bj HB.out hb); (try clear hb); obtain ⟨hcz54_0, hcz54_1, hfz54_0, hfz54_1⟩ := cf2 BK138.out)))
        refine bodyPost_ret (results_ct rfl _ _ gb138 27 #[.int .i64 0, .slice none 0 0] (0, 0) _ rfl (by exact p2 (lK BK138.out)) Tryd.underlying27 rfl (by kernel_rfl)) rfl ?_
        exact ⟨_, er, by first | exact Kd.R_nil _ _ _ _ _ | exact Kd.N_nil _ _ _ _ _ | exact Kd.V_nil _ _ _ _ _ | exact Kd.Q_nil _ _ _ _ _ | exact Kd.S_nil _ _ _ _ _, by exact jB HB.out⟩

/-! ### impl_in: function 26 -/
def impl_in.f (a0 : Int) (a1 : Int) (a2 : Int) : Option (Bool) := if a0 ≥ a1 then (some (decide (a0 ≤ a2))) else (some false)
theorem impl_in.calls (a0 : Int) (a1 : Int) (a2 : Int) (r : Bool) (w : World) (h : impl_in.f a0 a1 a2 = some r) :
  Calls Tryd.prog 26 #[.int .i64 a0, .int .i64 a1, .int .i64 a2] w fun e w' => e = .returned (.bool r) ∧ Drawn0 w w' := by
 have H : (if a0 ≥ a1 then (some (decide (a0 ≤ a2))) else (some false)) = some r := h
 clear h
 by_cases c4 : a0 ≥ a1
 ·rw [if_pos c4] at H
  have c4b0 := decide_eq_true c4
  clear c4
  obtain rfl := Option.some.inj H
  go_enter Tryd.func26, Tryd.ntmps26
  go_wp2
  go_ret
  exact ⟨by first | rfl | (simp; done) | (simp [*]; done), by repeat (first | exact Drawn0.refl _ | apply Drawn0.step)⟩
 ·rw [if_neg c4] at H
  have c4b0 := decide_eq_false c4
  clear c4
  obtain rfl := Option.some.inj H
  go_enter Tryd.func26, Tryd.ntmps26
  go_wp2
  go_ret
  exact ⟨by first | rfl | (simp; done) | (simp [*]; done), by repeat (first | exact Drawn0.refl _ | apply Drawn0.step)⟩

-- NOT PRINTED: function 51 (slices_IndexFunc_int_int)

-- NOT PRINTED: function 42 (slices_ContainsFunc_int_int)

-- NOT PRINTED: function 43 (impl_within_1)

/-! ### impl_within: function 27, by hand -/
set_option maxHeartbeats 1000000 in
theorem idx_ints (q : Int → Bool) (g : Nat) (lb : Array Value) (eg : ∀ args w, (callFunc g args).run Tryd.prog w = .ok (.enter g args) w) (A0 : Option Addr) (c0 : Nat) (xs : List Int) (w : World)
  (hr : Kd.C (Kd.int .i64) w A0 xs.length xs) (hp : ∀ x, x ∈ xs → ∀ W : World, Below w.heap.size w W → Calls Tryd.prog g (#[.int .i64 x] ++ lb) W fun e w' => e = .returned (.bool (q x)) ∧ Below W.heap.size W w') :
  Calls Tryd.prog 51 #[.slice A0 xs.length c0, .func (.func g) #[] lb] w fun e w' => e = .returned (.int .i64 (idxOf q xs)) ∧ Below w.heap.size w w' := by
 have hm := Kd.C_max hr
 have HR := aM hr
 have HP := aM hp
 clear hr hp
 go_enter Tryd.func51, Tryd.ntmps51
 go_wp2
 go_loopg [5, 8] xs.length (fun gg _ s8 wr => ∃ x : Int, s8 = .int .i64 x ∧ Aside0 (0 ≤ x ∧ x ≤ xs.length ∧ (xs.length : Int) - x ≤ gg) ∧ Aside0 (Below w.heap.size w wr) ∧ Aside0 (∀ j : Int, 0 ≤ j → j < x → q (xs.getD j.toNat 0) = false))
 case atStart => exact ⟨0, rfl, ⟨by omega, by omega, by omega⟩, ⟨Below.refl _ _⟩, ⟨fun j h0 h1 => by omega⟩⟩
 case round =>
  obtain ⟨x, rfl, HX, HB, HN⟩ := hrel
  have p1 := HX.out.1
  by_cases hlt : x < (xs.length : Int)
  ·obtain ⟨ad, e1, hx⟩ := Kd.at_int (Kd.C_below HR.out HB.out) x p1 hlt
   cases e1
   have hcall := HP.out (rd xs x) (mem_rd 0 xs x p1 hlt) _ HB.out
   cases hq : q (rd xs x) with
   | true =>
    rw [hq] at hcall
    have HQ := aM hq
    clear hq
    have HC := aM hcall
    clear hcall
    go_wp2_with (go_at_fn g; refine HC.out.mono ?_; rintro e w' ⟨rfl, hb⟩)
    go_ret
    refine ⟨?_, below_then HB.out HB.out.size hb⟩
    rw [idxOf_hit 0 x p1 hlt HQ.out HN.out]
    rfl
   | false =>
    rw [hq] at hcall
    have HQ := aM hq
    clear hq
    have HC := aM hcall
    clear hcall
    go_wp2_with (go_at_fn g; refine HC.out.mono ?_; rintro e w' ⟨rfl, hb⟩)
    go_roundg (xs.length - (x.toNat + 1))
    case measure => have := HX.out; omega
    case rel =>
     refine ⟨x + 1, by go_num, ⟨by have := HX.out; omega, by have := HX.out; omega, by have := HX.out; omega⟩, ⟨below_then HB.out HB.out.size hb⟩, ⟨fun j h0 h1 => ?_⟩⟩
     by_cases e : j = x
     ·subst e; exact HQ.out
     ·exact HN.out j h0 (by omega)
  ·go_wp2
   go_ret
   refine ⟨?_, HB.out⟩
   rw [idxOf_miss 0 (fun j h0 h1 => HN.out j h0 (by have := HX.out; omega))]
   rfl
set_option maxHeartbeats 1000000 in
theorem has_ints (q : Int → Bool) (g : Nat) (lb : Array Value) (eg : ∀ args w, (callFunc g args).run Tryd.prog w = .ok (.enter g args) w) (A0 : Option Addr) (c0 : Nat) (xs : List Int) (w : World)
  (hr : Kd.C (Kd.int .i64) w A0 xs.length xs) (hp : ∀ x, x ∈ xs → ∀ W : World, Below w.heap.size w W → Calls Tryd.prog g (#[.int .i64 x] ++ lb) W fun e w' => e = .returned (.bool (q x)) ∧ Below W.heap.size W w') :
  Calls Tryd.prog 42 #[.slice A0 xs.length c0, .func (.func g) #[] lb] w fun e w' => e = .returned (.bool (xs.any q)) ∧ Below w.heap.size w w' := by
 have HC := aM (idx_ints q g lb eg A0 c0 xs w hr hp)
 rw [← idxOf_any q xs]
 generalize idxOf q xs = n at HC
 clear hr hp
 go_enter Tryd.func42, Tryd.ntmps42
 go_wp2_with (go_at_call 51; refine HC.out.mono ?_; rintro e w' ⟨rfl, hb⟩)
 go_ret
 exact ⟨rfl, hb⟩
def inB (n lo hi : Int) : Bool := decide (lo ≤ n) && decide (n ≤ hi)
theorem in_inB (n lo hi : Int) : impl_in.f n lo hi = some (inB n lo hi) := by
 unfold impl_in.f inB
 by_cases h : n ≥ lo
 ·rw [if_pos h]; simp [h]
 ·rw [if_neg h]; simp [h]
set_option maxHeartbeats 1000000 in
theorem within_pred (most : Int) (B : Nat) (W : World) (x : Int) (hc : W.cell? ⟨B, 0, none⟩ = some (.int .i64 most)) :
  Calls Tryd.prog 43 (#[.int .i64 x] ++ #[.pointer (some ⟨B, 0, none⟩)]) W fun e w' => e = .returned (.bool (!inB x (wrap64 (-most)) most)) ∧ Below W.heap.size W w' := by
 show Calls Tryd.prog 43 #[.int .i64 x, .pointer (some ⟨B, 0, none⟩)] W _
 have HI := aM (impl_in.calls x (wrap64 (-most)) most (inB x (wrap64 (-most)) most) W (in_inB _ _ _))
 go_enter Tryd.func43, Tryd.ntmps43
 go_wp2_with (go_at_call 26; refine HI.out.mono ?_; rintro e w' ⟨rfl, hd⟩)
 go_ret
 exact ⟨rfl, hd.below⟩
def impl_within.f (l0 : List Int) (a1 : Int) (a2 : Int) : Option (Bool) := some (decide ((l0.length : Int) = a1) && !(l0.any fun x => !inB x (wrap64 (-a2)) a2))
theorem impl_within.calls (A0 : Option Addr) (c0 : Nat) (l0 : List Int) (a1 : Int) (a2 : Int) (r : Bool) (w : World) (hr0 : Kd.C (Kd.int .i64) w A0 l0.length l0) (hc0 : l0.length ≤ c0) (h : impl_within.f l0 a1 a2 = some r) :
  Calls Tryd.prog 27 #[.slice A0 l0.length c0, .int .i64 a1, .int .i64 a2] w fun e w' => e = .returned (.bool r) ∧ Below w.heap.size w w' := by
 obtain rfl := Option.some.inj h
 clear h
 have eg : ∀ args w, (callFunc 43 args).run Tryd.prog w = .ok (.enter 43 args) w := enters_of Tryd.func43 (by kernel_rfl) rfl
 have HC := aM (has_ints (fun x => !inB x (wrap64 (-a2)) a2) 43 #[.pointer (some ⟨w.heap.size, 0, none⟩)] eg A0 c0 l0 (w.alloc (.cells #[.int .i64 a2] 3)) (Kd.C_alloc hr0 _)
  (fun x _ W hb => within_pred a2 w.heap.size W x ((hb.cell (p := ⟨w.heap.size, 0, none⟩) (by simp)).trans (by simp))))
 clear hr0
 by_cases hn : (l0.length : Int) = a1
 ·have hb1 : ((l0.length : Int) == a1) = true := beq_iff_eq.mpr hn
  have hd : decide ((l0.length : Int) = a1) = true := decide_eq_true hn
  rw [hd]
  clear hn hd
  generalize l0.any (fun x => !inB x (wrap64 (-a2)) a2) = b at HC
  go_enter Tryd.func27, Tryd.ntmps27
  go_wp2_with (go_at_call 42; refine HC.out.mono ?_; rintro e w' ⟨rfl, hb⟩)
  go_ret
  exact ⟨by simp, below_then (below_alloc (Below.refl _ _) _) (by simp) hb⟩
 ·have hb1 : ((l0.length : Int) == a1) = false := beq_eq_false_iff_ne.mpr hn
  have hd : decide ((l0.length : Int) = a1) = false := decide_eq_false hn
  rw [hd]
  clear hn hd HC
  go_enter Tryd.func27, Tryd.ntmps27
  go_wp2
  go_ret
  exact ⟨by simp, below_alloc (Below.refl _ _) _⟩

/-! ### impl_codeWords: function 28 -/
def impl_codeWords.f  : Option (List ByteArray) := some (([(⟨#[]⟩ : ByteArray), (⟨#[100, 111, 110, 101]⟩ : ByteArray), (⟨#[115, 116, 111, 112, 112, 101, 100]⟩ : ByteArray), (⟨#[111, 118, 101, 114]⟩ : ByteArray)] : List ByteArray))
theorem impl_codeWords.calls  (r : List ByteArray) (w : World) (h : impl_codeWords.f  = some r) :
  Calls Tryd.prog 28 #[] w fun e w' => ∃ v0_ : Value, e = .returned (v0_) ∧ Kd.R Kd.string 9 w' w.heap.size (fun _ => True) v0_ r ∧ Below w.heap.size w w' := by
 have HB := aM (Below.refl w.heap.size w)
 have H : (some (([(⟨#[]⟩ : ByteArray), (⟨#[100, 111, 110, 101]⟩ : ByteArray), (⟨#[115, 116, 111, 112, 112, 101, 100]⟩ : ByteArray), (⟨#[111, 118, 101, 114]⟩ : ByteArray)] : List ByteArray))) = some r := h
 clear h
 obtain ⟨y156, hy156⟩ : ∃ y_ : List ByteArray, y_ = (([(⟨#[]⟩ : ByteArray), (⟨#[100, 111, 110, 101]⟩ : ByteArray), (⟨#[115, 116, 111, 112, 112, 101, 100]⟩ : ByteArray), (⟨#[111, 118, 101, 114]⟩ : ByteArray)] : List ByteArray)) := ⟨_, rfl⟩
 replace H : (some y156) = some r := by first | (rw [hy156]; exact H) | exact H
 have Ny156 := aM hy156
 clear hy156
 obtain rfl := Option.some.inj H
 go_enter Tryd.func28, Tryd.ntmps28
 go_wp2_with (first | ((with_reducible refine gate_dst (N := 1) rfl ?_); refine Kd.R_lit Kd.string _ 9 ?hg (N := 1) ?hd (xs := ([(⟨#[]⟩ : ByteArray), (⟨#[100, 111, 110, 101]⟩ : ByteArray), (⟨#[115, 116, 111, 112, 112, 101, 100]⟩ : ByteArray), (⟨#[111, 118, 101, 114]⟩ : ByteArray)] : List ByteArray)) (inner := [.string (⟨#[]⟩ : ByteArray), .string (⟨#[100, 111, 110, 101]⟩ : ByteArray), .string (⟨#[115, 116, 111, 112, 112, 101, 100]⟩ : ByteArray), .string (⟨#[111, 118, 101, 114]⟩ : ByteArray)]) (ok := fun _ => True) (okp := fun _ => True) ?hr ?hp (fun _ hk => hk) trivial (Below.refl _ _) (Nat.le_refl _) (by simp) ?_; (case hd => rfl); (case hg => rfl); (case hr => first | (go_simp; done) | (go_simp; rfl)); (case hp => exact (Reps.one (show Kd.M Kd.string _ _ _ (⟨#[]⟩ : ByteArray) [.string (⟨#[]⟩ : ByteArray)] from rfl) (Reps.one (show Kd.M Kd.string _ _ _ (⟨#[100, 111, 110, 101]⟩ : ByteArray) [.string (⟨#[100, 111, 110, 101]⟩ : ByteArray)] from rfl) (Reps.one (show Kd.M Kd.string _ _ _ (⟨#[115, 116, 111, 112, 112, 101, 100]⟩ : ByteArray) [.string (⟨#[115, 116, 111, 112, 112, 101, 100]⟩ : ByteArray)] from rfl) (Reps.one (show Kd.M Kd.string _ _ _ (⟨#[111, 118, 101, 114]⟩ : ByteArray) [.string (⟨#[111, 118, 101, 114]⟩ : ByteArray)] from rfl) (Reps.none _ _)))))); intro v157 w1 ho2 hb hg_ hnew_; clear hg_ hnew_; (first | rw [← Ny156.out] at ho2 | (simp only [Int.reduceToNat] at ho2; rw [← Ny156.out] at ho2)); have HO158 := aM (Kd.R_lower ho2 (below_size (by exact lB HB.out))); replace HB := aM (bj HB.out hb); clear hb ho2))
 go_ret
 exact ⟨_, er, by exact lR <| HO158.out, by exact lB HB.out⟩

-- NOT PRINTED: function 59 (abi_NoEscape)

-- NOT PRINTED: function 52 (strings_Builder_copyCheck)

-- NOT PRINTED: function 44 (strings_Builder_WriteString)

-- NOT PRINTED: function 68 (strconv_small)

-- NOT PRINTED: function 83 (strconv_log10Pow2)

-- NOT PRINTED: function 84 (bits_Len64)

-- NOT PRINTED: function 85 (strconv_bool2_int)

-- NOT PRINTED: function 69 (strconv_numDigits)

-- NOT PRINTED: function 70 (strconv_formatBase10)

-- NOT PRINTED: function 86 (strconv_isPowerOfTwo)

-- NOT PRINTED: function 93 (bits_TrailingZeros32)

-- NOT PRINTED: function 94 (bits_TrailingZeros64)

-- NOT PRINTED: function 87 (bits_TrailingZeros)

-- NOT PRINTED: function 71 (strconv_formatBits)

-- NOT PRINTED: function 60 (strconv_FormatInt)

-- NOT PRINTED: function 53 (strconv_Itoa_53)

-- NOT PRINTED: function 45 (strconv_Itoa_45)

-- NOT PRINTED: function 46 (strings_Builder_String)

/-! ### impl_joined: function 29, by hand -/
/-- Behind a call the region may be told to keep more than ahead of it. -/
theorem stronger_ {P : Program} {md : Region.Mode} {ops : Array Oper} {Q : Exit → Act → World → Prop} {S S2 : World → Prop} (hs : ∀ w, S2 w → S w) :
  ∀ (fuel : Nat) (l : Array Bool) (a : Act) (w : World), S2 w → wpAnyLast P md ops Q S2 [] fuel l a w → wpAnyLast P md ops Q S [] fuel l a w
 | 0, _, _, _, _, h => h
 | fuel + 1, _, _, _, h2, h => ⟨h.1, fun i hi => wpOp_mono (fun a' w' h' => ⟨fun _ _ => hs _ (h'.1 (by simp) h2), stronger_ hs fuel _ a' w' (h'.1 (by simp) h2) h'.2⟩) (h.2 i hi)⟩
def joinedL (l : List Int) : List UInt8 := (l.map fun n => 32 :: Go.Lib.itoa n).flatten
theorem joinedL_snoc (l : List Int) (n : Int) : joinedL (l ++ [n]) = joinedL l ++ (32 :: Go.Lib.itoa n) := by simp [joinedL]
theorem joinedL_len (l : List Int) (h : ∀ x ∈ l, -9223372036854775808 ≤ x ∧ x ≤ 9223372036854775807) : (joinedL l).length ≤ 22 * l.length := by
 induction l with
 | nil => simp [joinedL]
 | cons a l ih =>
  have h1 := Go.Lib.itoa_length_le a (h a (by simp)).1 (h a (by simp)).2
  have h2 := ih (fun x hx => h x (by simp [hx]))
  simp only [joinedL, List.map_cons, List.flatten_cons, List.length_append, List.length_cons] at *
  omega
theorem isB_grow {T e : TypeId} {B b : Nat} {bs : List Value} {w : World} (h : Go.Lib.IsBuilder T e B b bs w) (k : Nat) (os : Array Obj) : Go.Lib.IsBuilder T e B b bs (Go.Sort.grow (w.drewN k) os) := by
 have go : ∀ p, Go.Lib.BuilderAt T e B b p bs w → Go.Lib.BuilderAt T e B b p bs (Go.Sort.grow (w.drewN k) os) := by
  intro p hp
  have hlt := hp.lt
  obtain ⟨hB, v, hb, hown, hne⟩ := hp
  refine ⟨hB, v, (Go.Sort.heap_grow_old (w.drewN k) os (by exact hlt)).trans hb, hown.kept (row := none) ⟨rfl, rfl, rfl, by simp [Go.Sort.grow, World.drewN], fun j hj _ => Go.Sort.heap_grow_old (w.drewN k) os (by exact hj)⟩ ?_, hne⟩
  cases v.ownBlock with
  | none => exact .inl rfl
  | some _ => exact .inr (by simp)
 rcases h with h | h
 ·exact .inl (go _ h)
 ·exact .inr (go _ h)
theorem below_grown {B : Nat} {w0 w : World} (h : Below B w0 w) (hB : B ≤ w.heap.size) (k : Nat) (os : Array Obj) : Below B w0 (Go.Sort.grow (w.drewN k) os) :=
 ⟨h.os, h.tape, h.output, Nat.le_trans h.size (by simp [Go.Sort.grow, World.drewN]), fun j hj => (Go.Sort.heap_grow_old (w.drewN k) os (Nat.lt_of_lt_of_le hj hB)).trans (h.block j hj)⟩
theorem take_snoc (d : Int) (l : List Int) (x : Int) (h0 : 0 ≤ x) (h : x < (l.length : Int)) : l.take (x + 1).toNat = l.take x.toNat ++ [rd l x] := by
 have e : (x + 1).toNat = x.toNat + 1 := by omega
 rw [e, List.take_add_one, List.getElem?_eq_getElem (by omega)]
 simp only [Option.toList_some]
 congr 2
 unfold rd
 simp [List.getD_eq_getElem?_getD, List.getElem?_eq_getElem (show x.toNat < l.length by omega)]
theorem inB_of (l : List Int) (lo hi : Int) (h : (l.all fun x => inB x lo hi) = true) (x : Int) (hx : x ∈ l) : lo ≤ x ∧ x ≤ hi := by
 have := List.all_eq_true.mp h x hx
 simpa [inB] using this
def impl_joined.f (l0 : List Int) : Option (ByteArray) := if l0.length ≤ 6 ∧ (l0.all fun x => inB x (-999999999999) 999999999999) = true then some ⟨(joinedL l0).toArray⟩ else none
theorem impl_joined.calls (A0 : Option Addr) (c0 : Nat) (l0 : List Int) (r : ByteArray) (w : World) (hr0 : Kd.C (Kd.int .i64) w A0 l0.length l0) (hc0 : l0.length ≤ c0) (h : impl_joined.f l0 = some r) (htab : Tryd.TB w) :
  Calls Tryd.prog 29 #[.slice A0 l0.length c0] w fun e w' => e = .returned (.string r) ∧ Below w.heap.size w w' := by
 unfold impl_joined.f at h
 by_cases hL : l0.length ≤ 6 ∧ (l0.all fun x => inB x (-999999999999) 999999999999) = true
 case neg => rw [if_neg hL] at h; exact absurd h (by simp)
 case pos =>
  rw [if_pos hL] at h
  obtain rfl := Option.some.inj h
  clear h
  have hA := inB_of l0 _ _ hL.2
  have hlen := hL.1
  clear hL
  have HT := aM (Go.Lib.tabBelow_of_tabIs htab.tab)
  have HR := aM hr0
  have HA := aM hA
  have HN := aM hlen
  clear htab hr0 hA hlen
  have HF := aM (Go.Lib.fresh_isBuilder 64 5 w)
  go_enter Tryd.func29, Tryd.ntmps29
  go_wp2
  go_loopg [5, 8] l0.length (fun gg _ s8 wr => ∃ x : Int, s8 = .int .i64 x ∧ Aside0 (0 ≤ x ∧ x ≤ l0.length ∧ (l0.length : Int) - x ≤ gg) ∧ Aside0 (Below w.heap.size w wr) ∧ Aside0 (Go.Lib.IsBuilder 64 5 w.heap.size w.heap.size (Go.Lib.byteCells (joinedL (l0.take x.toNat))) wr))
  case atStart => exact ⟨0, rfl, ⟨by omega, by omega, by omega⟩, ⟨below_alloc (Below.refl _ _) _⟩, ⟨HF.out⟩⟩
  case round =>
   obtain ⟨x, rfl, HX, HB, HO⟩ := hrel
   have p1 := HX.out.1
   by_cases hlt : x < (l0.length : Int)
   ·obtain ⟨ad, e1, hx⟩ := Kd.at_int (Kd.C_below HR.out HB.out) x p1 hlt
    cases e1
    have hmem := HA.out (rd l0 x) (mem_rd 0 l0 x p1 hlt)
    have HM := aM hmem
    clear hmem
    have HI := aM (Tryd.strconv_Itoa (rd l0 x) (by have := HM.out; omega) (by have := HM.out; omega))
    have hil := Go.Lib.itoa_length_le (rd l0 x) (by have := HM.out; omega) (by have := HM.out; omega)
    have hs : ((⟨#[32]⟩ : ByteArray).size + (⟨(Go.Lib.itoa (rd l0 x)).toArray⟩ : ByteArray).size ≤ 9223372036854775807) = True := eq_true (by simp [ByteArray.size]; omega)
    have hs2 : decide ((⟨#[32]⟩ : ByteArray).size + (⟨(Go.Lib.itoa (rd l0 x)).toArray⟩ : ByteArray).size ≤ 9223372036854775807) = true := decide_eq_true (of_eq_true hs)
    have HZ : Aside0 ((Go.Lib.byteCells (joinedL (l0.take x.toNat))).length + ((⟨#[32]⟩ : ByteArray) ++ (⟨(Go.Lib.itoa (rd l0 x)).toArray⟩ : ByteArray)).size ≤ 140737488355328) := by
     refine ⟨?_⟩
     have h1 := joinedL_len (l0.take x.toNat) (fun y hy => by have := HA.out y (List.mem_of_mem_take hy); omega)
     have h2 : (l0.take x.toNat).length ≤ 6 := Nat.le_trans (by simp; omega) HN.out
     have h3 : ((⟨#[32]⟩ : ByteArray) ++ (⟨(Go.Lib.itoa (rd l0 x)).toArray⟩ : ByteArray)).size = 1 + (Go.Lib.itoa (rd l0 x)).length := by rw [ByteArray.size_append]; simp [ByteArray.size]
     rw [Go.Lib.byteCells_length, h3]
     omega
    go_wp2_with (first
     | (go_at_call 45; refine (HI.out _ (HT.out _ HB.out)).mono ?_; rintro e w' ⟨rfl, kk, os, rfl⟩; have HB2 := aM (below_grown HB.out HB.out.size kk os); have HO2 := aM (isB_grow HO.out kk os))
     | (go_at_call 44; refine (Tryd.Builder_WriteString w.heap.size w.heap.size _ _ _ HO2.out (HZ.out) HB2.out.size).mono ?_; rintro e w3 ⟨rfl, hb3, hn3⟩; have HB3 := aM (HB2.out.trans hn3); have HO3 := aM hb3; clear hb3 hn3))
    go_roundg (l0.length - (x.toNat + 1))
    case measure => have := HX.out; omega
    case rel =>
     refine ⟨x + 1, congrArg _ (by have := HN.out; have := HX.out; unfold wrap64; omega), ⟨by have := HX.out; omega, by have := HX.out; omega, by have := HX.out; omega⟩, ⟨HB3.out⟩, ⟨?_⟩⟩
     refine .inr ?_
     have h3 := HO3.out
     rw [Go.Lib.strCells_eq, ← Go.Lib.byteCells_append] at h3
     have e2 : joinedL (l0.take (x + 1).toNat) = joinedL (l0.take x.toNat) ++ ((⟨#[32]⟩ : ByteArray) ++ (⟨(Go.Lib.itoa (rd l0 x)).toArray⟩ : ByteArray)).data.toList := by
      rw [take_snoc 0 l0 x p1 hlt, joinedL_snoc]
      simp
     rw [e2]
     exact h3
   ·have e3 : l0.take x.toNat = l0 := List.take_of_length_le (by have := HX.out; omega)
    have ho := HO.out
    rw [e3] at ho
    have HO4 := aM ho
    clear ho e3
    go_wp2_with (go_at_call 46; refine (Tryd.Builder_String_any w.heap.size w.heap.size (joinedL l0) _ HO4.out HB.out.size).mono ?_; rintro e w4 ⟨rfl, hn4⟩; have HB4 := aM (HB.out.trans hn4); clear hn4)
    go_ret
    exact ⟨rfl, HB4.out⟩

end Go.Proofs.YtcafmfmlnfaogaaDoor.QFnExactResRead

-- shorter
