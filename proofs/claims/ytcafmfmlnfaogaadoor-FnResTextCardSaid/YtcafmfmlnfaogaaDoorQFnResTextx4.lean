/- Plain functions, and that the Go code computes them: written by a program of this session over the seat's translation; the conditions stand in each theorem. -/
import Derived.Test.YtcafmfmlnfaogaaDoorQFnResTextx0
import Derived.Test.YtcafmfmlnfaogaaDoorQFnResTextx1
import Derived.Test.YtcafmfmlnfaogaaDoorQFnResTextx2
import Derived.Test.YtcafmfmlnfaogaaDoorQFnResTextx3
namespace Go.Proofs.YtcafmfmlnfaogaaDoor.QFnResText
open Go.RowKit Go.Proofs.YtcafmfmlnfaogaaDoorW.PrintWords Go.Proofs.YtcafmfmlnfaogaaDoorW.PrintLast Go.Proofs.YtcafmfmlnfaogaaDoorW.PrintMore Go.Proofs.YtcafmfmlnfaogaaDoor.HWords
attribute [local go_sem] max2_int min2_int max_two min_two max_three min_three max_four min_four   -- for this text's walks alone
set_option maxRecDepth 100000
set_option maxHeartbeats 8000000
set_option linter.unusedVariables false
set_option linter.unusedSimpArgs false

/-! ### spec_ResRead: function 14 -/
mutual
def spec_ResRead.j1 : Nat → ByteArray → List ByteArray → Int → Option (Int × List Int × Bool)
 | 0, _, _, _ => none
 | k + 1, x0, x4, x152000 => spec_ResRead.l1 k x0 x4 1 x152000 ([] : List Int)
def spec_ResRead.l1 : Nat → ByteArray → List ByteArray → Int → Int → List Int → Option (Int × List Int × Bool)
 | 0, _, _, _, _, _ => none
 | k + 1, x0, x4, x8, x152000, x152001 => if x8 < (x4.length : Int) then (if 0 ≤ x8 then ((spec_l1Number.f k (rdOf ByteArray.empty x4 x8)).bind fun bt158 => (if x152001.length < 17592186044416 then (spec_ResRead.l1 k x0 x4 (wrap64 (x8 + 1)) x152000 (x152001 ++ [bt158.1])) else (none))) else (none)) else ((spec_ResText.f k x152000 x152001).bind fun t163 => (if t163.toList = ([] : List UInt8) then (some (0, ([] : List Int), false)) else ((spec_ResText.f k x152000 x152001).bind fun t164 => (if t164.toList = x0.toList then (some (x152000, x152001, true)) else (some (0, ([] : List Int), false))))))
def spec_ResRead.l0 : Nat → ByteArray → List ByteArray → List ByteArray → Int → Int → Option (Int × List Int × Bool)
 | 0, _, _, _, _, _ => none
 | k + 1, x0, x4, x6, x7, x152000 => if x7 < (x6.length : Int) then (if 0 ≤ x7 then (if 0 < (x4.length : Int) then (if (rdOf ByteArray.empty x6 x7).toList = (rdOf ByteArray.empty x4 0).toList then (spec_ResRead.l0 k x0 x4 x6 (wrap64 (x7 + 1)) x7) else (spec_ResRead.l0 k x0 x4 x6 (wrap64 (x7 + 1)) x152000)) else (none)) else (none)) else (spec_ResRead.j1 k x0 x4 x152000)
end
def spec_ResRead.f (k : Nat) (a0 : ByteArray) : Option (Int × List Int × Bool) := (spec_l1Words.f k a0).bind fun t148 => (if (t148.length : Int) > 0 then (spec_ResRead.l0 k a0 t148 (([(⟨#[]⟩ : ByteArray), (⟨#[100, 111, 110, 101]⟩ : ByteArray), (⟨#[115, 116, 111, 112, 112, 101, 100]⟩ : ByteArray), (⟨#[111, 118, 101, 114]⟩ : ByteArray)] : List ByteArray)) 1 0) else (spec_ResRead.j1 k a0 t148 0))
theorem spec_ResRead.mono_l : ∀ k, (∀ y0 y1 y2, LeO (spec_ResRead.j1 k y0 y1 y2) (spec_ResRead.j1 (k + 1) y0 y1 y2)) ∧ (∀ y0 y1 y2 y3 y4, LeO (spec_ResRead.l1 k y0 y1 y2 y3 y4) (spec_ResRead.l1 (k + 1) y0 y1 y2 y3 y4)) ∧ (∀ y0 y1 y2 y3 y4, LeO (spec_ResRead.l0 k y0 y1 y2 y3 y4) (spec_ResRead.l0 (k + 1) y0 y1 y2 y3 y4))
 | 0 => ⟨fun _ _ _ r h => by simp [spec_ResRead.j1] at h, fun _ _ _ _ _ r h => by simp [spec_ResRead.l1] at h, fun _ _ _ _ _ r h => by simp [spec_ResRead.l0] at h⟩
 | k + 1 => by
  obtain ⟨ih0, ih1, ih2⟩ := spec_ResRead.mono_l k
  refine ⟨?_, ?_, ?_⟩
  ·intro y0 y1 y2
   unfold spec_ResRead.j1
   repeat' first
   | (with_reducible exact ih0 _ _ _)
   | (with_reducible exact ih1 _ _ _ _ _)
   | (with_reducible exact ih2 _ _ _ _ _)
   | (with_reducible exact spec_ResText.mono _ _ _)
   | (with_reducible exact spec_l1Number.mono _ _)
   | (with_reducible exact spec_l1Words.mono _ _)
   | (with_reducible exact LeO.refl _)
   | (with_reducible exact LeO.none _)
   | (with_reducible refine LeO.ite ?_ ?_)
   | (with_reducible refine LeO.bind ?_ (fun _ => ?_))
   | exact LeO.none _
   | refine LeO.ite ?_ ?_
   | refine LeO.bind ?_ (fun _ => ?_)
  ·intro y0 y1 y2 y3 y4
   unfold spec_ResRead.l1
   repeat' first
   | (with_reducible exact ih0 _ _ _)
   | (with_reducible exact ih1 _ _ _ _ _)
   | (with_reducible exact ih2 _ _ _ _ _)
   | (with_reducible exact spec_ResText.mono _ _ _)
   | (with_reducible exact spec_l1Number.mono _ _)
   | (with_reducible exact spec_l1Words.mono _ _)
   | (with_reducible exact LeO.refl _)
   | (with_reducible exact LeO.none _)
   | (with_reducible refine LeO.ite ?_ ?_)
   | (with_reducible refine LeO.bind ?_ (fun _ => ?_))
   | exact LeO.none _
   | refine LeO.ite ?_ ?_
   | refine LeO.bind ?_ (fun _ => ?_)
  ·intro y0 y1 y2 y3 y4
   unfold spec_ResRead.l0
   repeat' first
   | (with_reducible exact ih0 _ _ _)
   | (with_reducible exact ih1 _ _ _ _ _)
   | (with_reducible exact ih2 _ _ _ _ _)
   | (with_reducible exact spec_ResText.mono _ _ _)
   | (with_reducible exact spec_l1Number.mono _ _)
   | (with_reducible exact spec_l1Words.mono _ _)
   | (with_reducible exact LeO.refl _)
   | (with_reducible exact LeO.none _)
   | (with_reducible refine LeO.ite ?_ ?_)
   | (with_reducible refine LeO.bind ?_ (fun _ => ?_))
   | exact LeO.none _
   | refine LeO.ite ?_ ?_
   | refine LeO.bind ?_ (fun _ => ?_)
theorem spec_ResRead.mono : ∀ a0 k, LeO (spec_ResRead.f k a0) (spec_ResRead.f (k + 1) a0) := by
 intro a0 k
 obtain ⟨ih0, ih1, ih2⟩ := spec_ResRead.mono_l k
 unfold spec_ResRead.f
 repeat' first
   | (with_reducible exact ih0 _ _ _)
   | (with_reducible exact ih1 _ _ _ _ _)
   | (with_reducible exact ih2 _ _ _ _ _)
   | (with_reducible exact spec_ResText.mono _ _ _)
   | (with_reducible exact spec_l1Number.mono _ _)
   | (with_reducible exact spec_l1Words.mono _ _)
   | (with_reducible exact LeO.refl _)
   | (with_reducible exact LeO.none _)
   | (with_reducible refine LeO.ite ?_ ?_)
   | (with_reducible refine LeO.bind ?_ (fun _ => ?_))
   | exact LeO.none _
   | refine LeO.ite ?_ ?_
   | refine LeO.bind ?_ (fun _ => ?_)
theorem spec_ResRead.calls (k : Nat) (a0 : ByteArray) (r1 : Int) (r2 : List Int) (r3 : Bool) (w : World) (h : spec_ResRead.f k a0 = some (r1, r2, r3)) :
  Calls Tryd.prog 14 #[.string a0] w fun e w' => ∃ v1_ : Value, e = .returned (.tuple #[.agg #[.int .i64 r1, v1_], .bool r3]) ∧ Kd.R (Kd.int .i64) 3 w' w.heap.size (fun _ => True) v1_ r2 ∧ Below w.heap.size w w' := by
 have hu27 := Tryd.underlying27
 have HB := aM (Below.refl w.heap.size w)
 have H : ((spec_l1Words.f k a0).bind fun t148 => (if (t148.length : Int) > 0 then (spec_ResRead.l0 k a0 t148 (([(⟨#[]⟩ : ByteArray), (⟨#[100, 111, 110, 101]⟩ : ByteArray), (⟨#[115, 116, 111, 112, 112, 101, 100]⟩ : ByteArray), (⟨#[111, 118, 101, 114]⟩ : ByteArray)] : List ByteArray)) 1 0) else (spec_ResRead.j1 k a0 t148 0))) = some (r1, r2, r3) := h
 clear h
 obtain ⟨t148, A2, H⟩ := bS H
 try dsimp only at H
 have HC3 := aM H
 clear H
 go_enter Tryd.func14, Tryd.ntmps14
 go_upto_if 16 with (first | ((with_reducible refine gate_dst (N := 2) rfl ?_); refine bx 2 #[.int .i64 0, .slice none 0 0] 27 ?_; intro gb147 hg w4 hbox hb; have BK147 := aM (hbox); have GW147 := aM ((gz hg HB.out)); have IGW147 : Nonempty _ := ⟨GW147.out⟩; have GE147 := aM ((gz hg HB.out)); have IGE147 : Nonempty _ := ⟨GE147.out⟩; replace HB := aM (bj HB.out hb); clear hb hbox hg) | (go_at_call 31; (with_reducible refine (spec_l1Words.calls k a0 t148 _ A2.out).mono ?_); rintro e w5 ⟨v149, rfl, ho0, hb⟩; have HO150 := aM (Kd.R_lower ho0 (below_size (by exact jB HB.out))); replace BK147 := aM (bb BK147.out hb); replace HB := aM (bj HB.out hb); (try clear hb); (try clear ho0)) | ((with_reducible refine gate_dst (N := 5) rfl ?_); refine bx 5 #[.int .i64 0, .slice none 0 0] 27 ?_; intro gb151 hg w6 hbox hb; replace HO150 := aM (rb HO150.out hb); have BK151 := aM (hbox); have GW151 := aM ((gz hg HB.out)); have IGW151 : Nonempty _ := ⟨GW151.out⟩; have GE151 := aM ((gz hg HB.out)); have IGE151 : Nonempty _ := ⟨GE151.out⟩; replace HB := aM (bj HB.out hb); have NB147_151 := aM ((neL hg (lK BK147.out) : gb147 ≠ gb151)); have NB151_147 := aM ((neG hg (lK BK147.out) : gb151 ≠ gb147)); replace BK147 := aM (bb BK147.out hb); clear hb hbox hg; have hnb7 := NB151_147.out; have hnc7 := NB147_151.out; obtain ⟨hcz8_0, hcz8_1, hfz8_0, hfz8_1⟩ := cf2 BK151.out; obtain ⟨Ao9, co9, eo9⟩ := Kd.R_slice HO150.out; subst eo9))
 repeat (go_quiet (first | ((with_reducible refine gate_dst (N := 2) rfl ?_); refine bx 2 #[.int .i64 0, .slice none 0 0] 27 ?_; intro gb147 hg w4 hbox hb; have BK147 := aM (hbox); have GW147 := aM ((gz hg HB.out)); have IGW147 : Nonempty _ := ⟨GW147.out⟩; have GE147 := aM ((gz hg HB.out)); have IGE147 : Nonempty _ := ⟨GE147.out⟩; replace HB := aM (bj HB.out hb); clear hb hbox hg) | (go_at_call 31; (with_reducible refine (spec_l1Words.calls k a0 t148 _ A2.out).mono ?_); rintro e w5 ⟨v149, rfl, ho0, hb⟩; have HO150 := aM (Kd.R_lower ho0 (below_size (by exact jB HB.out))); replace BK147 := aM (bb BK147.out hb); replace HB := aM (bj HB.out hb); (try clear hb); (try clear ho0)) | ((with_reducible refine gate_dst (N := 5) rfl ?_); refine bx 5 #[.int .i64 0, .slice none 0 0] 27 ?_; intro gb151 hg w6 hbox hb; replace HO150 := aM (rb HO150.out hb); have BK151 := aM (hbox); have GW151 := aM ((gz hg HB.out)); have IGW151 : Nonempty _ := ⟨GW151.out⟩; have GE151 := aM ((gz hg HB.out)); have IGE151 : Nonempty _ := ⟨GE151.out⟩; replace HB := aM (bj HB.out hb); have NB147_151 := aM ((neL hg (lK BK147.out) : gb147 ≠ gb151)); have NB151_147 := aM ((neG hg (lK BK147.out) : gb151 ≠ gb147)); replace BK147 := aM (bb BK147.out hb); clear hb hbox hg; have hnb7 := NB151_147.out; have hnc7 := NB147_151.out; obtain ⟨hcz8_0, hcz8_1, hfz8_0, hfz8_1⟩ := cf2 BK151.out; obtain ⟨Ao9, co9, eo9⟩ := Kd.R_slice HO150.out; subst eo9)); go_upto_if 16 with (first | ((with_reducible refine gate_dst (N := 2) rfl ?_); refine bx 2 #[.int .i64 0, .slice none 0 0] 27 ?_; intro gb147 hg w4 hbox hb; have BK147 := aM (hbox); have GW147 := aM ((gz hg HB.out)); have IGW147 : Nonempty _ := ⟨GW147.out⟩; have GE147 := aM ((gz hg HB.out)); have IGE147 : Nonempty _ := ⟨GE147.out⟩; replace HB := aM (bj HB.out hb); clear hb hbox hg) | (go_at_call 31; (with_reducible refine (spec_l1Words.calls k a0 t148 _ A2.out).mono ?_); rintro e w5 ⟨v149, rfl, ho0, hb⟩; have HO150 := aM (Kd.R_lower ho0 (below_size (by exact jB HB.out))); replace BK147 := aM (bb BK147.out hb); replace HB := aM (bj HB.out hb); (try clear hb); (try clear ho0)) | ((with_reducible refine gate_dst (N := 5) rfl ?_); refine bx 5 #[.int .i64 0, .slice none 0 0] 27 ?_; intro gb151 hg w6 hbox hb; replace HO150 := aM (rb HO150.out hb); have BK151 := aM (hbox); have GW151 := aM ((gz hg HB.out)); have IGW151 : Nonempty _ := ⟨GW151.out⟩; have GE151 := aM ((gz hg HB.out)); have IGE151 : Nonempty _ := ⟨GE151.out⟩; replace HB := aM (bj HB.out hb); have NB147_151 := aM ((neL hg (lK BK147.out) : gb147 ≠ gb151)); have NB151_147 := aM ((neG hg (lK BK147.out) : gb151 ≠ gb147)); replace BK147 := aM (bb BK147.out hb); clear hb hbox hg; have hnb7 := NB151_147.out; have hnc7 := NB147_151.out; obtain ⟨hcz8_0, hcz8_1, hfz8_0, hfz8_1⟩ := cf2 BK151.out; obtain ⟨Ao9, co9, eo9⟩ := Kd.R_slice HO150.out; subst eo9)))
 (try simp only [Act.put, sA, s0, sS])
 go_cut [] (fun wc => ∃ (kq : Nat) (x152000_2 : Int), Aside0 (spec_ResRead.j1 kq a0 t148 x152000_2 = some (r1, r2, r3)) ∧ Aside0 (kq ≤ k) ∧ Aside0 (Kd.R Kd.string 9 wc w.heap.size (fun _ => True) (.slice Ao9 t148.length co9) t148) ∧ Aside0 (wc.heap[gb147]? = some (.cells #[.int .i64 0, (.slice none 0 0)] 27 (0, 0))) ∧ Aside0 (wc.heap[gb151]? = some (.cells #[.int .i64 x152000_2, (.slice none 0 0)] 27 (0, 0))) ∧ Aside0 (Below w.heap.size w wc))
 case first =>
  have H := HC3.out
  clear HC3
  by_cases c10 : (t148.length : Int) > 0
  ·rw [if_pos c10] at H
   have c10b0 := decide_eq_true c10
   have c10b1 : decide (0 < t148.length) = true := decide_eq_true (by omega)
   clear c10
   (first | rw [c10b0] | (simp only [i64_w, i32_w]; rw [c10b0]) | rw [c10b1] | skip)
   obtain ⟨y152, hy152⟩ : ∃ y_ : List ByteArray, y_ = (([(⟨#[]⟩ : ByteArray), (⟨#[100, 111, 110, 101]⟩ : ByteArray), (⟨#[115, 116, 111, 112, 112, 101, 100]⟩ : ByteArray), (⟨#[111, 118, 101, 114]⟩ : ByteArray)] : List ByteArray)) := ⟨_, rfl⟩
   try rw [← hy152] at H
   try dsimp only [Option.bind_some] at H
   have Ny152 := aM hy152
   clear hy152
   have H' := aM H
   clear H
   go_wp2_with (first | ((with_reducible refine gate_dst (N := 17) rfl ?_); refine Kd.R_lit Kd.string _ 9 ?hg (N := 17) ?hd (xs := ([(⟨#[]⟩ : ByteArray), (⟨#[100, 111, 110, 101]⟩ : ByteArray), (⟨#[115, 116, 111, 112, 112, 101, 100]⟩ : ByteArray), (⟨#[111, 118, 101, 114]⟩ : ByteArray)] : List ByteArray)) (inner := [.string (⟨#[]⟩ : ByteArray), .string (⟨#[100, 111, 110, 101]⟩ : ByteArray), .string (⟨#[115, 116, 111, 112, 112, 101, 100]⟩ : ByteArray), .string (⟨#[111, 118, 101, 114]⟩ : ByteArray)]) (ok := fun _ => True) (okp := fun _ => True) ?hr ?hp (fun _ hk => hk) trivial (Below.refl _ _) (Nat.le_refl _) (by simp) ?_; (case hd => rfl); (case hg => rfl); (case hr => first | (go_simp; done) | (go_simp; rfl)); (case hp => exact (Reps.one (show Kd.M Kd.string _ _ _ (⟨#[]⟩ : ByteArray) [.string (⟨#[]⟩ : ByteArray)] from rfl) (Reps.one (show Kd.M Kd.string _ _ _ (⟨#[100, 111, 110, 101]⟩ : ByteArray) [.string (⟨#[100, 111, 110, 101]⟩ : ByteArray)] from rfl) (Reps.one (show Kd.M Kd.string _ _ _ (⟨#[115, 116, 111, 112, 112, 101, 100]⟩ : ByteArray) [.string (⟨#[115, 116, 111, 112, 112, 101, 100]⟩ : ByteArray)] from rfl) (Reps.one (show Kd.M Kd.string _ _ _ (⟨#[111, 118, 101, 114]⟩ : ByteArray) [.string (⟨#[111, 118, 101, 114]⟩ : ByteArray)] from rfl) (Reps.none _ _)))))); intro v153 w11 ho12 hb hg_ hnew_; clear hg_ hnew_; (first | rw [← Ny152.out] at ho12 | (simp only [Int.reduceToNat] at ho12; rw [← Ny152.out] at ho12)); have HO154 := aM (Kd.R_lower (Kd.R_new' ho12 (Kd.R_lt (qp (R2 HO150.out BK151.out)))) (below_size (by exact jB HB.out))); replace HO150 := aM (Kd.R_elder' (qp (R2 HO150.out BK151.out)) (Kd.R_base ho12) hb); replace BK147 := aM (blk_below (f2 (lK BK147.out) NB147_151.out) hb); replace BK151 := aM (blk_below (g := gb151) (o := .cells #[.int .i64 0, .slice none 0 0] 27 (0, 0)) (by exact p2 (lK BK151.out)) hb); replace HB := aM (bj HB.out hb); clear hb ho12))
   repeat (go_quiet (first | ((with_reducible refine gate_dst (N := 17) rfl ?_); refine Kd.R_lit Kd.string _ 9 ?hg (N := 17) ?hd (xs := ([(⟨#[]⟩ : ByteArray), (⟨#[100, 111, 110, 101]⟩ : ByteArray), (⟨#[115, 116, 111, 112, 112, 101, 100]⟩ : ByteArray), (⟨#[111, 118, 101, 114]⟩ : ByteArray)] : List ByteArray)) (inner := [.string (⟨#[]⟩ : ByteArray), .string (⟨#[100, 111, 110, 101]⟩ : ByteArray), .string (⟨#[115, 116, 111, 112, 112, 101, 100]⟩ : ByteArray), .string (⟨#[111, 118, 101, 114]⟩ : ByteArray)]) (ok := fun _ => True) (okp := fun _ => True) ?hr ?hp (fun _ hk => hk) trivial (Below.refl _ _) (Nat.le_refl _) (by simp) ?_; (case hd => rfl); (case hg => rfl); (case hr => first | (go_simp; done) | (go_simp; rfl)); (case hp => exact (Reps.one (show Kd.M Kd.string _ _ _ (⟨#[]⟩ : ByteArray) [.string (⟨#[]⟩ : ByteArray)] from rfl) (Reps.one (show Kd.M Kd.string _ _ _ (⟨#[100, 111, 110, 101]⟩ : ByteArray) [.string (⟨#[100, 111, 110, 101]⟩ : ByteArray)] from rfl) (Reps.one (show Kd.M Kd.string _ _ _ (⟨#[115, 116, 111, 112, 112, 101, 100]⟩ : ByteArray) [.string (⟨#[115, 116, 111, 112, 112, 101, 100]⟩ : ByteArray)] from rfl) (Reps.one (show Kd.M Kd.string _ _ _ (⟨#[111, 118, 101, 114]⟩ : ByteArray) [.string (⟨#[111, 118, 101, 114]⟩ : ByteArray)] from rfl) (Reps.none _ _)))))); intro v153 w11 ho12 hb hg_ hnew_; clear hg_ hnew_; (first | rw [← Ny152.out] at ho12 | (simp only [Int.reduceToNat] at ho12; rw [← Ny152.out] at ho12)); have HO154 := aM (Kd.R_lower (Kd.R_new' ho12 (Kd.R_lt (qp (R2 HO150.out BK151.out)))) (below_size (by exact jB HB.out))); replace HO150 := aM (Kd.R_elder' (qp (R2 HO150.out BK151.out)) (Kd.R_base ho12) hb); replace BK147 := aM (blk_below (f2 (lK BK147.out) NB147_151.out) hb); replace BK151 := aM (blk_below (g := gb151) (o := .cells #[.int .i64 0, .slice none 0 0] 27 (0, 0)) (by exact p2 (lK BK151.out)) hb); replace HB := aM (bj HB.out hb); clear hb ho12)); try go_wp2_with (first | ((with_reducible refine gate_dst (N := 17) rfl ?_); refine Kd.R_lit Kd.string _ 9 ?hg (N := 17) ?hd (xs := ([(⟨#[]⟩ : ByteArray), (⟨#[100, 111, 110, 101]⟩ : ByteArray), (⟨#[115, 116, 111, 112, 112, 101, 100]⟩ : ByteArray), (⟨#[111, 118, 101, 114]⟩ : ByteArray)] : List ByteArray)) (inner := [.string (⟨#[]⟩ : ByteArray), .string (⟨#[100, 111, 110, 101]⟩ : ByteArray), .string (⟨#[115, 116, 111, 112, 112, 101, 100]⟩ : ByteArray), .string (⟨#[111, 118, 101, 114]⟩ : ByteArray)]) (ok := fun _ => True) (okp := fun _ => True) ?hr ?hp (fun _ hk => hk) trivial (Below.refl _ _) (Nat.le_refl _) (by simp) ?_; (case hd => rfl); (case hg => rfl); (case hr => first | (go_simp; done) | (go_simp; rfl)); (case hp => exact (Reps.one (show Kd.M Kd.string _ _ _ (⟨#[]⟩ : ByteArray) [.string (⟨#[]⟩ : ByteArray)] from rfl) (Reps.one (show Kd.M Kd.string _ _ _ (⟨#[100, 111, 110, 101]⟩ : ByteArray) [.string (⟨#[100, 111, 110, 101]⟩ : ByteArray)] from rfl) (Reps.one (show Kd.M Kd.string _ _ _ (⟨#[115, 116, 111, 112, 112, 101, 100]⟩ : ByteArray) [.string (⟨#[115, 116, 111, 112, 112, 101, 100]⟩ : ByteArray)] from rfl) (Reps.one (show Kd.M Kd.string _ _ _ (⟨#[111, 118, 101, 114]⟩ : ByteArray) [.string (⟨#[111, 118, 101, 114]⟩ : ByteArray)] from rfl) (Reps.none _ _)))))); intro v153 w11 ho12 hb hg_ hnew_; clear hg_ hnew_; (first | rw [← Ny152.out] at ho12 | (simp only [Int.reduceToNat] at ho12; rw [← Ny152.out] at ho12)); have HO154 := aM (Kd.R_lower (Kd.R_new' ho12 (Kd.R_lt (qp (R2 HO150.out BK151.out)))) (below_size (by exact jB HB.out))); replace HO150 := aM (Kd.R_elder' (qp (R2 HO150.out BK151.out)) (Kd.R_base ho12) hb); replace BK147 := aM (blk_below (f2 (lK BK147.out) NB147_151.out) hb); replace BK151 := aM (blk_below (g := gb151) (o := .cells #[.int .i64 0, .slice none 0 0] 27 (0, 0)) (by exact p2 (lK BK151.out)) hb); replace HB := aM (bj HB.out hb); clear hb ho12)))
   go_loopg [7] k (fun kq v7 w' => ∃ (x7_1 : Int) (x152000_1 : Int), v7 = .int .i64 x7_1 ∧ Aside0 (spec_ResRead.l0 kq a0 t148 y152 x7_1 x152000_1 = some (r1, r2, r3)) ∧ Aside0 (kq ≤ k) ∧ Aside0 (Kd.R Kd.string 9 w' w.heap.size (fun k_ => some k_ ≠ v153.ownBlock) (.slice Ao9 t148.length co9) t148) ∧ Aside0 (Kd.R Kd.string 9 w' w.heap.size (fun k_ => some k_ ≠ ((.slice Ao9 t148.length co9) : Value).ownBlock) v153 y152) ∧ Aside0 (w'.heap[gb147]? = some (.cells #[.int .i64 0, (.slice none 0 0)] 27 (0, 0))) ∧ Aside0 (w'.heap[gb151]? = some (.cells #[.int .i64 x152000_1, (.slice none 0 0)] 27 (0, 0))) ∧ Aside0 (Below w.heap.size w w'))
   case atStart => exact ⟨(1), (0), (by first | rfl | (simp; done) | (simp [*]; done)), H', ⟨Nat.le_refl _⟩, ⟨by exact lR <| Kd.R_mono HO150.out (fun _ hk => hk.2)⟩, ⟨by exact lR <| Kd.R_mono HO154.out (fun _ hk => hk.2)⟩, ⟨by exact lK <| BK147.out⟩, ⟨by exact lK <| BK151.out⟩, ⟨by exact jB HB.out⟩⟩
   case round =>
    clear H'
    try clear c1
    try clear p2
    try clear c7
    try clear c10
    try clear c10b0
    try clear c10b1
    try clear hcz8_0
    try clear hcz8_1
    try clear hfz8_0
    try clear hfz8_1
    obtain ⟨x7_1, x152000_1, rfl, HA, HK1, HO_4, HO_6, BK147, BK151, HB⟩ := hrel
    cases gk with
    | zero => exact absurd HA.out (by simp [spec_ResRead.l0])
    | succ k1 =>
     have H := HA.out
     clear HA
     simp only [spec_ResRead.l0] at H
     by_cases c13 : x7_1 < (y152.length : Int)
     ·rw [if_pos c13] at H
      have c13b0 := decide_eq_true c13
      clear c13
      by_cases c14 : 0 ≤ x7_1
      ·rw [if_pos c14] at H
       have c14b0 := decide_eq_true c14
       clear c14
       by_cases c15 : 0 < (t148.length : Int)
       ·rw [if_pos c15] at H
        have c15b0 := decide_eq_true c15
        have c15b1 : decide (0 < t148.length) = true := decide_eq_true (by omega)
        clear c15
        by_cases c16 : (rdOf ByteArray.empty y152 x7_1).toList = (rdOf ByteArray.empty t148 0).toList
        ·rw [if_pos c16] at H
         have c16b0 := beq_iff_eq.mpr c16
         have c16b1 := bne_eq_false_iff_eq.mpr c16
         clear c16
         have H' := aM H
         clear H
         obtain ⟨Ao17, co17, eo17⟩ := Kd.R_slice HO_6.out
         subst eo17
         have p155 : 0 ≤ (x7_1 : Int) := of_decide_eq_true (by first | (with_reducible assumption) | assumption)
         have q155 : x7_1 < (y152.length : Int) := of_decide_eq_true (by first | (with_reducible assumption) | assumption)
         obtain ⟨ad155, e155, hx155_0⟩ := Kd.at_string (Kd.R_reads' HO_6.out).2.2 x7_1 p155 q155
         cases e155
         replace p155 := eq_true p155
         replace q155 := eq_true q155
         have p156 : 0 ≤ (0 : Int) := (by omega)
         have q156 : 0 < (t148.length : Int) := of_decide_eq_true (by first | (with_reducible assumption) | assumption)
         obtain ⟨ad156, e156, hx156_0⟩ := Kd.at_string (Kd.R_reads' HO_4.out).2.2 0 p156 q156
         cases e156
         have qi156 : (0 < t148.length) = True := eq_true (by omega)
         (try rw [show ((0 : Int)).toNat = 0 from rfl] at hx156_0)
         (try rw [Addr.add_zero'] at hx156_0)
         replace p156 := eq_true p156
         replace q156 := eq_true q156
         have hnb18 := NB151_147.out
         have hnc18 := NB147_151.out
         obtain ⟨hcz19_0, hcz19_1, hfz19_0, hfz19_1⟩ := cf2 BK151.out
         go_wp2
         repeat (go_quiet (fail); try go_wp2)
         go_roundg k1
         case measure => have := HK1.out; omega
         case rel => exact ⟨(wrap64 (x7_1 + 1)), (x7_1), (by first | rfl | (simp; done) | (simp [*]; done)), H', ⟨by have := HK1.out; omega⟩, ⟨by exact lR <| Kd.R_mono (Kd.R_far (p := ⟨gb151, 0, none⟩) (Kd.R_types HO_4.out BK151.out (by decide)) (fun _ hk => hk.2) (.int .i64 x7_1)) (fun _ hk => hk.1)⟩, ⟨by exact lR <| Kd.R_mono (Kd.R_far (p := ⟨gb151, 0, none⟩) (Kd.R_types HO_6.out BK151.out (by decide)) (fun _ hk => hk.2) (.int .i64 x7_1)) (fun _ hk => hk.1)⟩, ⟨by (with_reducible repeat first | refine kN ?_ _ | refine kD ?_ | refine kA ?_ _); refine blk_far ?_ NB147_151.out _; exact lK <| BK147.out⟩, ⟨by (with_reducible repeat first | refine kN ?_ _ | refine kD ?_ | refine kA ?_ _); refine blk_put (cs := #[.int .i64 x152000_1, .slice none 0 0]) ?_ 0 _ rfl; exact lK <| BK151.out⟩, ⟨by exact jB HB.out⟩⟩
        ·rw [if_neg c16] at H
         have c16b0 := beq_eq_false_iff_ne.mpr c16
         have c16b1 := bne_iff_ne.mpr c16
         have H' := aM H
         clear H
         obtain ⟨Ao20, co20, eo20⟩ := Kd.R_slice HO_6.out
         subst eo20
         have p155 : 0 ≤ (x7_1 : Int) := of_decide_eq_true (by first | (with_reducible assumption) | assumption)
         have q155 : x7_1 < (y152.length : Int) := of_decide_eq_true (by first | (with_reducible assumption) | assumption)
         obtain ⟨ad155, e155, hx155_0⟩ := Kd.at_string (Kd.R_reads' HO_6.out).2.2 x7_1 p155 q155
         cases e155
         replace p155 := eq_true p155
         replace q155 := eq_true q155
         have p156 : 0 ≤ (0 : Int) := (by omega)
         have q156 : 0 < (t148.length : Int) := of_decide_eq_true (by first | (with_reducible assumption) | assumption)
         obtain ⟨ad156, e156, hx156_0⟩ := Kd.at_string (Kd.R_reads' HO_4.out).2.2 0 p156 q156
         cases e156
         have qi156 : (0 < t148.length) = True := eq_true (by omega)
         (try rw [show ((0 : Int)).toNat = 0 from rfl] at hx156_0)
         (try rw [Addr.add_zero'] at hx156_0)
         replace p156 := eq_true p156
         replace q156 := eq_true q156
         go_wp2
         repeat (go_quiet (fail); try go_wp2)
         go_roundg k1
         case measure => have := HK1.out; omega
         case rel => exact ⟨(wrap64 (x7_1 + 1)), (x152000_1), (by first | rfl | (simp; done) | (simp [*]; done)), H', ⟨by have := HK1.out; omega⟩, ⟨by exact lR <| HO_4.out⟩, ⟨by exact lR <| HO_6.out⟩, ⟨by exact lK <| BK147.out⟩, ⟨by exact lK <| BK151.out⟩, ⟨by exact jB HB.out⟩⟩
       ·rw [if_neg c15] at H
        exact absurd H (by simp)
      ·rw [if_neg c14] at H
       exact absurd H (by simp)
     ·rw [if_neg c13] at H
      have c13b0 := decide_eq_false c13
      clear c13
      have H' := aM H
      clear H
      obtain ⟨Ao21, co21, eo21⟩ := Kd.R_slice HO_6.out
      subst eo21
      go_wp2
      repeat (go_quiet (fail); try go_wp2)
      go_meet
      case rel => exact ⟨_, (x152000_1), H', ⟨by have := HK1.out; first | omega | exact Nat.le_refl _⟩, ⟨by exact lR <| Kd.R_mono HO_4.out (fun _ hk => trivial)⟩, ⟨by exact lK <| BK147.out⟩, ⟨by exact lK <| BK151.out⟩, ⟨by exact jB HB.out⟩⟩
  ·rw [if_neg c10] at H
   have c10b0 := decide_eq_false c10
   have c10b1 : decide (0 < t148.length) = false := decide_eq_false (by omega)
   clear c10
   (first | rw [c10b0] | (simp only [i64_w, i32_w]; rw [c10b0]) | rw [c10b1] | skip)
   have H' := aM H
   clear H
   go_wp2
   repeat (go_quiet (fail); try go_wp2)
   go_meet
   case rel => exact ⟨_, (0), H', ⟨by first | omega | exact Nat.le_refl _⟩, ⟨by (with_reducible repeat first | apply ra | apply rn | apply re); exact Kd.R_mono (R2 HO150.out BK151.out) (fun _ hk => trivial)⟩, ⟨by exact f2 (lK BK147.out) NB147_151.out⟩, ⟨by exact p2 (lK BK151.out)⟩, ⟨by exact jB HB.out⟩⟩
 case rest =>
  clear HC3
  try clear c1
  try clear p1
  try clear q1
  try clear hx1
  try clear qi1
  try clear p2
  try clear p6
  try clear c7
  try clear c10
  try clear c10b0
  try clear c10b1
  try clear c13
  try clear c13b0
  try clear c14
  try clear c14b0
  try clear c15
  try clear c15b0
  try clear c15b1
  try clear p15
  try clear q15
  try clear hx15
  try clear qi15
  try clear c16
  try clear c16b0
  try clear c16b1
  try clear c18
  try clear hcz19_0
  try clear hcz19_1
  try clear hcz8_0
  try clear hcz8_1
  try clear hfz19_0
  try clear hfz19_1
  try clear hfz8_0
  try clear hfz8_1
  try clear hx155_0
  try clear hx156_0
  try clear p155
  try clear p156
  try clear p2
  try clear q155
  try clear q156
  obtain ⟨kq, x152000_2, HA, HJ2, HO_4, BK147, BK151, HB⟩ := hcut
  cases kq with
  | zero => exact absurd HA.out (by simp [spec_ResRead.j1])
  | succ kj2 =>
   have H := HA.out
   clear HA
   simp only [spec_ResRead.j1] at H
   have H' := aM H
   clear H
   go_wp2
   repeat (go_quiet (fail); try go_wp2)
   go_loopg [8] kj2 (fun kq v8 w' => ∃ (x8_2 : Int) (x152001_2 : List Int) (u152001 : Value), v8 = .int .i64 x8_2 ∧ Aside0 (spec_ResRead.l1 kq a0 t148 x8_2 x152000_2 x152001_2 = some (r1, r2, r3)) ∧ Aside0 (kq ≤ kj2) ∧ Aside0 (Kd.R Kd.string 9 w' w.heap.size (fun _ => True) (.slice Ao9 t148.length co9) t148) ∧ Aside0 (Kd.R (Kd.int .i64) 3 w' w.heap.size (fun _ => True) u152001 x152001_2) ∧ Aside0 (w'.heap[gb147]? = some (.cells #[.int .i64 0, (.slice none 0 0)] 27 (0, 0))) ∧ Aside0 (w'.heap[gb151]? = some (.cells #[.int .i64 x152000_2, u152001] 27 (0, 0))) ∧ Aside0 (Below w.heap.size w w'))
   case atStart => exact ⟨(1), (([] : List Int)), (.slice none 0 0), (by first | rfl | (simp; done) | (simp [*]; done)), H', ⟨Nat.le_refl _⟩, ⟨by exact lR <| HO_4.out⟩, ⟨by first | exact Kd.R_nil _ _ _ _ _ | exact Kd.N_nil _ _ _ _ _ | exact Kd.V_nil _ _ _ _ _ | exact Kd.Q_nil _ _ _ _ _ | exact Kd.S_nil _ _ _ _ _⟩, ⟨by exact lK <| BK147.out⟩, ⟨by exact lK <| BK151.out⟩, ⟨by exact jB HB.out⟩⟩
   case round =>
    clear H'
    try clear c1
    try clear p1
    try clear q1
    try clear hx1
    try clear qi1
    try clear p2
    try clear p6
    try clear c7
    try clear c10
    try clear c10b0
    try clear c10b1
    try clear c13
    try clear c13b0
    try clear c14
    try clear c14b0
    try clear c15
    try clear c15b0
    try clear c15b1
    try clear p15
    try clear q15
    try clear hx15
    try clear qi15
    try clear c16
    try clear c16b0
    try clear c16b1
    try clear c18
    try clear hcz19_0
    try clear hcz19_1
    try clear hcz8_0
    try clear hcz8_1
    try clear hfz19_0
    try clear hfz19_1
    try clear hfz8_0
    try clear hfz8_1
    try clear hx155_0
    try clear hx156_0
    try clear p1
    try clear p15
    try clear p155
    try clear p156
    try clear p2
    try clear p6
    try clear q1
    try clear q15
    try clear q155
    try clear q156
    obtain ⟨x8_2, x152001_2, u152001, rfl, HA, HK2, HO_4, HO_152001, BK147, BK151, HB⟩ := hrel
    cases gk with
    | zero => exact absurd HA.out (by simp [spec_ResRead.l1])
    | succ k2 =>
     have H := HA.out
     clear HA
     simp only [spec_ResRead.l1] at H
     by_cases c22 : x8_2 < (t148.length : Int)
     ·rw [if_pos c22] at H
      have c22b0 := decide_eq_true c22
      clear c22
      by_cases c23 : 0 ≤ x8_2
      ·rw [if_pos c23] at H
       have c23b0 := decide_eq_true c23
       clear c23
       obtain ⟨⟨t158, t159⟩, A24, H⟩ := bS H
       try dsimp only at H
       by_cases c25 : x152001_2.length < 17592186044416
       ·rw [if_pos c25] at H
        have LMc25 := aM c25
        clear c25
        obtain ⟨y160, hy160⟩ : ∃ y_ : List Int, y_ = (x152001_2 ++ [t158]) := ⟨_, rfl⟩
        try rw [← hy160] at H
        try dsimp only [Option.bind_some] at H
        have Ny160 := aM hy160
        clear hy160
        have H' := aM H
        clear H
        have p157 : 0 ≤ (x8_2 : Int) := of_decide_eq_true (by first | (with_reducible assumption) | assumption)
        have q157 : x8_2 < (t148.length : Int) := of_decide_eq_true (by first | (with_reducible assumption) | assumption)
        obtain ⟨ad157, e157, hx157_0⟩ := Kd.at_string (Kd.R_reads' HO_4.out).2.2 x8_2 p157 q157
        cases e157
        replace p157 := eq_true p157
        replace q157 := eq_true q157
        go_wp2_with (first | (go_at_call 32; (with_reducible refine (spec_l1Number.calls k2 (rdOf ByteArray.empty t148 x8_2) t158 t159 _ A24.out).mono ?_); rintro e w' ⟨rfl, ⟨nd, rfl⟩⟩; (try first | exact ⟨rfl, _, World.drewN_drewN _ _ _⟩ | exact ⟨rfl, _, Eq.trans (World.drewN_drewN _ _ _) (congrArg (World.drewN _) (Nat.add_assoc _ _ _))⟩); have hnb26 := NB151_147.out; have hnc26 := NB147_151.out; obtain ⟨hcz27_0, hcz27_1, hfz27_0, hfz27_1⟩ := cf2 BK151.out) | ((with_reducible refine gate_builtin (b := .append) (xs := #[.tmp 49, .tmp 51]) rfl ?_); at_builtin; refine Kd.R_append (Kd.int .i64) (w0 := w) w.heap.size rfl (.tmp 49) (.tmp 51) 22 3 (.int .i64 0) 8 rfl Tryd.underlying22 info3 rfl (by decide) (by omega) u152001 x152001_2 t158 [.int .i64 t158] (fun _ => True) (fun _ => False) rfl rfl ?aP (fun _ hk => hk.elim) ?aF ?aO ?aB ?aS ?aL ?_; (case aP => exact rfl); (case aB => exact (by exact jB HB.out)); (case aF => exact (fun _ _ => trivial)); (case aO => exact (by exact lR HO_152001.out)); (case aS => exact (below_size (by exact jB HB.out))); (case aL => have := LMc25.out; omega); intro v161 w28 ho hb hg hat; rw [← Ny160.out] at ho; replace HO_4 := aM (Kd.R_over' (by exact lR HO_4.out) (Kd.R_typed (by exact lR HO_152001.out)) (by decide) hg); replace BK147 := aM (blk_grown (g := gb147) (o := .cells #[.int .i64 0, .slice none 0 0] 27 (0, 0)) (by exact lK BK147.out) hg (Kd.R_ne HO_152001.out BK147.out (by decide))); replace BK151 := aM (blk_grown (g := gb151) (o := .cells #[.int .i64 x152000_2, u152001] 27 (0, 0)) (by exact lK BK151.out) hg (Kd.R_ne HO_152001.out BK151.out (by decide))); replace HB := aM (hb); have HO162 := aM (ho); clear HO_152001 ho hb hg hat; obtain ⟨Ao29, co29, eo29⟩ := Kd.R_slice HO162.out; subst eo29; obtain ⟨hcz30_0, hcz30_1, hfz30_0, hfz30_1⟩ := cf2 BK151.out))
        try (have hnb26 := NB151_147.out; have hnc26 := NB147_151.out; obtain ⟨hcz27_0, hcz27_1, hfz27_0, hfz27_1⟩ := cf2 BK151.out)
        repeat (go_quiet (first | (go_at_call 32; (with_reducible refine (spec_l1Number.calls k2 (rdOf ByteArray.empty t148 x8_2) t158 t159 _ A24.out).mono ?_); rintro e w' ⟨rfl, ⟨nd, rfl⟩⟩; (try first | exact ⟨rfl, _, World.drewN_drewN _ _ _⟩ | exact ⟨rfl, _, Eq.trans (World.drewN_drewN _ _ _) (congrArg (World.drewN _) (Nat.add_assoc _ _ _))⟩); obtain ⟨hcz27_0, hcz27_1, hfz27_0, hfz27_1⟩ := cf2 BK151.out) | ((with_reducible refine gate_builtin (b := .append) (xs := #[.tmp 49, .tmp 51]) rfl ?_); at_builtin; refine Kd.R_append (Kd.int .i64) (w0 := w) w.heap.size rfl (.tmp 49) (.tmp 51) 22 3 (.int .i64 0) 8 rfl Tryd.underlying22 info3 rfl (by decide) (by omega) u152001 x152001_2 t158 [.int .i64 t158] (fun _ => True) (fun _ => False) rfl rfl ?aP (fun _ hk => hk.elim) ?aF ?aO ?aB ?aS ?aL ?_; (case aP => exact rfl); (case aB => exact (by exact jB HB.out)); (case aF => exact (fun _ _ => trivial)); (case aO => exact (by exact lR HO_152001.out)); (case aS => exact (below_size (by exact jB HB.out))); (case aL => have := LMc25.out; omega); intro v161 w28 ho hb hg hat; rw [← Ny160.out] at ho; replace HO_4 := aM (Kd.R_over' (by exact lR HO_4.out) (Kd.R_typed (by exact lR HO_152001.out)) (by decide) hg); replace BK147 := aM (blk_grown (g := gb147) (o := .cells #[.int .i64 0, .slice none 0 0] 27 (0, 0)) (by exact lK BK147.out) hg (Kd.R_ne HO_152001.out BK147.out (by decide))); replace BK151 := aM (blk_grown (g := gb151) (o := .cells #[.int .i64 x152000_2, u152001] 27 (0, 0)) (by exact lK BK151.out) hg (Kd.R_ne HO_152001.out BK151.out (by decide))); replace HB := aM (hb); have HO162 := aM (ho); clear HO_152001 ho hb hg hat; obtain ⟨Ao29, co29, eo29⟩ := Kd.R_slice HO162.out; subst eo29; obtain ⟨hcz30_0, hcz30_1, hfz30_0, hfz30_1⟩ := cf2 BK151.out)); try go_wp2_with (first | (go_at_call 32; (with_reducible refine (spec_l1Number.calls k2 (rdOf ByteArray.empty t148 x8_2) t158 t159 _ A24.out).mono ?_); rintro e w' ⟨rfl, ⟨nd, rfl⟩⟩; (try first | exact ⟨rfl, _, World.drewN_drewN _ _ _⟩ | exact ⟨rfl, _, Eq.trans (World.drewN_drewN _ _ _) (congrArg (World.drewN _) (Nat.add_assoc _ _ _))⟩); have hnb26 := NB151_147.out; have hnc26 := NB147_151.out; obtain ⟨hcz27_0, hcz27_1, hfz27_0, hfz27_1⟩ := cf2 BK151.out) | ((with_reducible refine gate_builtin (b := .append) (xs := #[.tmp 49, .tmp 51]) rfl ?_); at_builtin; refine Kd.R_append (Kd.int .i64) (w0 := w) w.heap.size rfl (.tmp 49) (.tmp 51) 22 3 (.int .i64 0) 8 rfl Tryd.underlying22 info3 rfl (by decide) (by omega) u152001 x152001_2 t158 [.int .i64 t158] (fun _ => True) (fun _ => False) rfl rfl ?aP (fun _ hk => hk.elim) ?aF ?aO ?aB ?aS ?aL ?_; (case aP => exact rfl); (case aB => exact (by exact jB HB.out)); (case aF => exact (fun _ _ => trivial)); (case aO => exact (by exact lR HO_152001.out)); (case aS => exact (below_size (by exact jB HB.out))); (case aL => have := LMc25.out; omega); intro v161 w28 ho hb hg hat; rw [← Ny160.out] at ho; replace HO_4 := aM (Kd.R_over' (by exact lR HO_4.out) (Kd.R_typed (by exact lR HO_152001.out)) (by decide) hg); replace BK147 := aM (blk_grown (g := gb147) (o := .cells #[.int .i64 0, .slice none 0 0] 27 (0, 0)) (by exact lK BK147.out) hg (Kd.R_ne HO_152001.out BK147.out (by decide))); replace BK151 := aM (blk_grown (g := gb151) (o := .cells #[.int .i64 x152000_2, u152001] 27 (0, 0)) (by exact lK BK151.out) hg (Kd.R_ne HO_152001.out BK151.out (by decide))); replace HB := aM (hb); have HO162 := aM (ho); clear HO_152001 ho hb hg hat; obtain ⟨Ao29, co29, eo29⟩ := Kd.R_slice HO162.out; subst eo29; obtain ⟨hcz30_0, hcz30_1, hfz30_0, hfz30_1⟩ := cf2 BK151.out)))
        go_roundg k2
        case measure => have := HJ2.out; have := HK2.out; omega
        case rel => exact ⟨(wrap64 (x8_2 + 1)), (y160), (.slice Ao29 y160.length co29), (by first | rfl | (simp; done) | (simp [*]; done)), H', ⟨by have := HJ2.out; have := HK2.out; omega⟩, ⟨by exact lR <| Kd.R_mono (Kd.R_far (p := ⟨gb151, 1, none⟩) (Kd.R_types HO_4.out BK151.out (by decide)) (fun _ hk => hk.2) (.slice Ao29 y160.length co29)) (fun _ hk => trivial)⟩, ⟨by exact lR <| Kd.R_mono (Kd.R_far (p := ⟨gb151, 1, none⟩) (Kd.R_types HO162.out BK151.out (by decide)) (fun _ hk => hk.2) (.slice Ao29 y160.length co29)) (fun _ hk => trivial)⟩, ⟨by (with_reducible repeat first | refine kN ?_ _ | refine kD ?_ | refine kA ?_ _); refine blk_far ?_ NB147_151.out _; exact lK <| BK147.out⟩, ⟨by (with_reducible repeat first | refine kN ?_ _ | refine kD ?_ | refine kA ?_ _); refine blk_put (cs := #[.int .i64 x152000_2, u152001]) ?_ 1 _ rfl; exact lK <| BK151.out⟩, ⟨by exact jB HB.out⟩⟩
       ·rw [if_neg c25] at H
        exact absurd H (by simp)
      ·rw [if_neg c23] at H
       exact absurd H (by simp)
     ·rw [if_neg c22] at H
      have c22b0 := decide_eq_false c22
      clear c22
      obtain ⟨t163, A31, H⟩ := bS H
      try dsimp only at H
      by_cases c32 : t163.toList = ([] : List UInt8)
      ·rw [if_pos c32] at H
       have c32b0 := beq_iff_eq.mpr c32
       have c32b1 := bne_eq_false_iff_eq.mpr c32
       clear c32
       simp only [Option.some.injEq, Prod.mk.injEq] at H
       obtain ⟨rfl, rfl, rfl⟩ := H
       have hnb33 := NB151_147.out
       have hnc33 := NB147_151.out
       obtain ⟨hcz34_0, hcz34_1, hfz34_0, hfz34_1⟩ := cf2 BK151.out
       obtain ⟨Ao35, co35, eo35⟩ := Kd.R_slice HO_152001.out
       subst eo35
       go_wp2_with (first | (go_at_call 8; (with_reducible refine (spec_ResText.calls k2 x152000_2 _ _ x152001_2 t163 _ ?side1 ?side2 A31.out).mono ?_); (case side1 => exact lC <| (Kd.R_reads' HO_152001.out).2.2); (case side2 => exact (Kd.R_reads' HO_152001.out).2.1); rintro e w36 ⟨rfl, hb⟩; replace HO_4 := aM (rb HO_4.out hb); replace HO_152001 := aM (rb HO_152001.out hb); replace BK147 := aM (bb BK147.out hb); replace BK151 := aM (bb BK151.out hb); replace HB := aM (bj HB.out hb); (try clear hb); obtain ⟨hcz37_0, hcz37_1, hfz37_0, hfz37_1⟩ := cf2 BK147.out))
       repeat (go_quiet (first | (go_at_call 8; (with_reducible refine (spec_ResText.calls k2 x152000_2 _ _ x152001_2 t163 _ ?side1 ?side2 A31.out).mono ?_); (case side1 => exact lC <| (Kd.R_reads' HO_152001.out).2.2); (case side2 => exact (Kd.R_reads' HO_152001.out).2.1); rintro e w36 ⟨rfl, hb⟩; replace HO_4 := aM (rb HO_4.out hb); replace HO_152001 := aM (rb HO_152001.out hb); replace BK147 := aM (bb BK147.out hb); replace BK151 := aM (bb BK151.out hb); replace HB := aM (bj HB.out hb); (try clear hb); obtain ⟨hcz37_0, hcz37_1, hfz37_0, hfz37_1⟩ := cf2 BK147.out)); try go_wp2_with (first | (go_at_call 8; (with_reducible refine (spec_ResText.calls k2 x152000_2 _ _ x152001_2 t163 _ ?side1 ?side2 A31.out).mono ?_); (case side1 => exact lC <| (Kd.R_reads' HO_152001.out).2.2); (case side2 => exact (Kd.R_reads' HO_152001.out).2.1); rintro e w36 ⟨rfl, hb⟩; replace HO_4 := aM (rb HO_4.out hb); replace HO_152001 := aM (rb HO_152001.out hb); replace BK147 := aM (bb BK147.out hb); replace BK151 := aM (bb BK151.out hb); replace HB := aM (bj HB.out hb); (try clear hb); obtain ⟨hcz37_0, hcz37_1, hfz37_0, hfz37_1⟩ := cf2 BK147.out)))
       refine bodyPost_ret (results_ct rfl _ _ gb147 27 #[.int .i64 0, .slice none 0 0] (0, 0) _ rfl (by exact p2 (lK BK147.out)) Tryd.underlying27 rfl (by kernel_rfl)) rfl ?_
       exact ⟨_, er, by first | exact Kd.R_nil _ _ _ _ _ | exact Kd.N_nil _ _ _ _ _ | exact Kd.V_nil _ _ _ _ _ | exact Kd.Q_nil _ _ _ _ _ | exact Kd.S_nil _ _ _ _ _, by exact jB HB.out⟩
      ·rw [if_neg c32] at H
       have c32b0 := beq_eq_false_iff_ne.mpr c32
       have c32b1 := bne_iff_ne.mpr c32
       obtain ⟨t164, A38, H⟩ := bS H
       try dsimp only at H
       by_cases c39 : t164.toList = a0.toList
       ·rw [if_pos c39] at H
        have c39b0 := beq_iff_eq.mpr c39
        have c39b1 := bne_eq_false_iff_eq.mpr c39
        clear c39
        simp only [Option.some.injEq, Prod.mk.injEq] at H
        obtain ⟨rfl, rfl, rfl⟩ := H
        have hnb40 := NB151_147.out
        have hnc40 := NB147_151.out
        obtain ⟨hcz41_0, hcz41_1, hfz41_0, hfz41_1⟩ := cf2 BK151.out
        obtain ⟨Ao42, co42, eo42⟩ := Kd.R_slice HO_152001.out
        subst eo42
        have e_t164 : t163 = t164 := Option.some.inj (A31.out.symm.trans A38.out)
        subst t164
        go_wp2_with (first | (go_at_call 8; (with_reducible refine (spec_ResText.calls k2 x152000_2 _ _ x152001_2 t163 _ ?side1 ?side2 A31.out).mono ?_); (case side1 => exact lC <| (Kd.R_reads' HO_152001.out).2.2); (case side2 => exact (Kd.R_reads' HO_152001.out).2.1); rintro e w43 ⟨rfl, hb⟩; replace HO_4 := aM (rb HO_4.out hb); replace HO_152001 := aM (rb HO_152001.out hb); replace BK147 := aM (bb BK147.out hb); replace BK151 := aM (bb BK151.out hb); replace HB := aM (bj HB.out hb); (try clear hb); obtain ⟨hcz44_0, hcz44_1, hfz44_0, hfz44_1⟩ := cf2 BK151.out; obtain ⟨hcz47_0, hcz47_1, hfz47_0, hfz47_1⟩ := cf2 BK147.out) | (go_at_call 8; (with_reducible refine (spec_ResText.calls k2 x152000_2 _ _ x152001_2 t163 _ ?side1 ?side2 A38.out).mono ?_); (case side1 => exact lC <| (Kd.R_reads' HO_152001.out).2.2); (case side2 => exact (Kd.R_reads' HO_152001.out).2.1); rintro e w45 ⟨rfl, hb⟩; replace HO_4 := aM (rb HO_4.out hb); replace HO_152001 := aM (rb HO_152001.out hb); replace BK147 := aM (bb BK147.out hb); replace BK151 := aM (bb BK151.out hb); replace HB := aM (bj HB.out hb); (try clear hb); obtain ⟨hcz46_0, hcz46_1, hfz46_0, hfz46_1⟩ := cf2 BK151.out; obtain ⟨hcz47_0, hcz47_1, hfz47_0, hfz47_1⟩ := cf2 BK147.out))
        repeat (go_quiet (first | (go_at_call 8; (with_reducible refine (spec_ResText.calls k2 x152000_2 _ _ x152001_2 t163 _ ?side1 ?side2 A31.out).mono ?_); (case side1 => exact lC <| (Kd.R_reads' HO_152001.out).2.2); (case side2 => exact (Kd.R_reads' HO_152001.out).2.1); rintro e w43 ⟨rfl, hb⟩; replace HO_4 := aM (rb HO_4.out hb); replace HO_152001 := aM (rb HO_152001.out hb); replace BK147 := aM (bb BK147.out hb); replace BK151 := aM (bb BK151.out hb); replace HB := aM (bj HB.out hb); (try clear hb); obtain ⟨hcz44_0, hcz44_1, hfz44_0, hfz44_1⟩ := cf2 BK151.out; obtain ⟨hcz47_0, hcz47_1, hfz47_0, hfz47_1⟩ := cf2 BK147.out) | (go_at_call 8; (with_reducible refine (spec_ResText.calls k2 x152000_2 _ _ x152001_2 t163 _ ?side1 ?side2 A38.out).mono ?_); (case side1 => exact lC <| (Kd.R_reads' HO_152001.out).2.2); (case side2 => exact (Kd.R_reads' HO_152001.out).2.1); rintro e w45 ⟨rfl, hb⟩; replace HO_4 := aM (rb HO_4.out hb); replace HO_152001 := aM (rb HO_152001.out hb); replace BK147 := aM (bb BK147.out hb); replace BK151 := aM (bb BK151.out hb); replace HB := aM (bj HB.out hb); (try clear hb); obtain ⟨hcz46_0, hcz46_1, hfz46_0, hfz46_1⟩ := cf2 BK151.out; obtain ⟨hcz47_0, hcz47_1, hfz47_0, hfz47_1⟩ := cf2 BK147.out)); try go_wp2_with (first | (go_at_call 8; (with_reducible refine (spec_ResText.calls k2 x152000_2 _ _ x152001_2 t163 _ ?side1 ?side2 A31.out).mono ?_); (case side1 => exact lC <| (Kd.R_reads' HO_152001.out).2.2); (case side2 => exact (Kd.R_reads' HO_152001.out).2.1); rintro e w43 ⟨rfl, hb⟩; replace HO_4 := aM (rb HO_4.out hb); replace HO_152001 := aM (rb HO_152001.out hb); replace BK147 := aM (bb BK147.out hb); replace BK151 := aM (bb BK151.out hb); replace HB := aM (bj HB.out hb); (try clear hb); obtain ⟨hcz44_0, hcz44_1, hfz44_0, hfz44_1⟩ := cf2 BK151.out) | (go_at_call 8; (with_reducible refine (spec_ResText.calls k2 x152000_2 _ _ x152001_2 t163 _ ?side1 ?side2 A38.out).mono ?_); (case side1 => exact lC <| (Kd.R_reads' HO_152001.out).2.2); (case side2 => exact (Kd.R_reads' HO_152001.out).2.1); rintro e w45 ⟨rfl, hb⟩; replace HO_4 := aM (rb HO_4.out hb); replace HO_152001 := aM (rb HO_152001.out hb); replace BK147 := aM (bb BK147.out hb); replace BK151 := aM (bb BK151.out hb); replace HB := aM (bj HB.out hb); (try clear hb); obtain ⟨hcz46_0, hcz46_1, hfz46_0, hfz46_1⟩ := cf2 BK151.out; obtain ⟨hcz47_0, hcz47_1, hfz47_0, hfz47_1⟩ := cf2 BK147.out)))
        refine bodyPost_ret (results_ct rfl _ _ gb147 27 #[.int .i64 x152000_2, .slice Ao42 x152001_2.length co42] (0, 0) _ rfl (by exact p2 (lK BK147.out)) Tryd.underlying27 rfl (by kernel_rfl)) rfl ?_
        exact ⟨_, er, by exact lR <| Kd.R_mono (Kd.R_far (p := ⟨gb147, 1, none⟩) (Kd.R_far (p := ⟨gb147, 0, none⟩) (Kd.R_types HO_152001.out BK147.out (by decide)) (fun _ hk => by first | exact hk.2 | exact fun e_ => hk.2 (e_.trans (ob _ _ _ _))) (.int .i64 x152000_2)) (fun _ hk => by first | exact hk.2 | exact fun e_ => hk.2 (e_.trans (ob _ _ _ _))) (.slice Ao42 x152001_2.length co42)) (fun _ hk => trivial), by exact jB HB.out⟩
       ·rw [if_neg c39] at H
        have c39b0 := beq_eq_false_iff_ne.mpr c39
        have c39b1 := bne_iff_ne.mpr c39
        simp only [Option.some.injEq, Prod.mk.injEq] at H
        obtain ⟨rfl, rfl, rfl⟩ := H
        have hnb48 := NB151_147.out
        have hnc48 := NB147_151.out
        obtain ⟨hcz49_0, hcz49_1, hfz49_0, hfz49_1⟩ := cf2 BK151.out
        obtain ⟨Ao50, co50, eo50⟩ := Kd.R_slice HO_152001.out
        subst eo50
        have e_t164 : t163 = t164 := Option.some.inj (A31.out.symm.trans A38.out)
        subst t164
        go_wp2_with (first | (go_at_call 8; (with_reducible refine (spec_ResText.calls k2 x152000_2 _ _ x152001_2 t163 _ ?side1 ?side2 A31.out).mono ?_); (case side1 => exact lC <| (Kd.R_reads' HO_152001.out).2.2); (case side2 => exact (Kd.R_reads' HO_152001.out).2.1); rintro e w51 ⟨rfl, hb⟩; replace HO_4 := aM (rb HO_4.out hb); replace HO_152001 := aM (rb HO_152001.out hb); replace BK147 := aM (bb BK147.out hb); replace BK151 := aM (bb BK151.out hb); replace HB := aM (bj HB.out hb); (try clear hb); obtain ⟨hcz52_0, hcz52_1, hfz52_0, hfz52_1⟩ := cf2 BK151.out; obtain ⟨hcz54_0, hcz54_1, hfz54_0, hfz54_1⟩ := cf2 BK147.out) | (go_at_call 8; (with_reducible refine (spec_ResText.calls k2 x152000_2 _ _ x152001_2 t163 _ ?side1 ?side2 A38.out).mono ?_); (case side1 => exact lC <| (Kd.R_reads' HO_152001.out).2.2); (case side2 => exact (Kd.R_reads' HO_152001.out).2.1); rintro e w53 ⟨rfl, hb⟩; replace HO_4 := aM (rb HO_4.out hb); replace HO_152001 := aM (rb HO_152001.out hb); replace BK147 := aM (bb BK147.out hb); replace BK151 := aM (bb BK151.out hb); replace HB := aM (bj HB.out hb); (try clear hb); obtain ⟨hcz54_0, hcz54_1, hfz54_0, hfz54_1⟩ := cf2 BK147.out))
        repeat (go_quiet (first | (go_at_call 8; (with_reducible refine (spec_ResText.calls k2 x152000_2 _ _ x152001_2 t163 _ ?side1 ?side2 A31.out).mono ?_); (case side1 => exact lC <| (Kd.R_reads' HO_152001.out).2.2); (case side2 => exact (Kd.R_reads' HO_152001.out).2.1); rintro e w51 ⟨rfl, hb⟩; replace HO_4 := aM (rb HO_4.out hb); replace HO_152001 := aM (rb HO_152001.out hb); replace BK147 := aM (bb BK147.out hb); replace BK151 := aM (bb BK151.out hb); replace HB := aM (bj HB.out hb); (try clear hb); obtain ⟨hcz52_0, hcz52_1, hfz52_0, hfz52_1⟩ := cf2 BK151.out; obtain ⟨hcz54_0, hcz54_1, hfz54_0, hfz54_1⟩ := cf2 BK147.out) | (go_at_call 8; (with_reducible refine (spec_ResText.calls k2 x152000_2 _ _ x152001_2 t163 _ ?side1 ?side2 A38.out).mono ?_); (case side1 => exact lC <| (Kd.R_reads' HO_152001.out).2.2); (case side2 => exact (Kd.R_reads' HO_152001.out).2.1); rintro e w53 ⟨rfl, hb⟩; replace HO_4 := aM (rb HO_4.out hb); replace HO_152001 := aM (rb HO_152001.out hb); replace BK147 := aM (bb BK147.out hb); replace BK151 := aM (bb BK151.out hb); replace HB := aM (bj HB.out hb); (try clear hb); obtain ⟨hcz54_0, hcz54_1, hfz54_0, hfz54_1⟩ := cf2 BK147.out)); try go_wp2_with (first | (go_at_call 8; (with_reducible refine (spec_ResText.calls k2 x152000_2 _ _ x152001_2 t163 _ ?side1 ?side2 A31.out).mono ?_); (case side1 => exact lC <| (Kd.R_reads' HO_152001.out).2.2); (case side2 => exact (Kd.R_reads' HO_152001.out).2.1); rintro e w51 ⟨rfl, hb⟩; replace HO_4 := aM (rb HO_4.out hb); replace HO_152001 := aM (rb HO_152001.out hb); replace BK147 := aM (bb BK147.out hb); replace BK151 := aM (bb BK151.out hb); replace HB := aM (bj HB.out hb); (try clear hb); obtain ⟨hcz52_0, hcz52_1, hfz52_0, hfz52_1⟩ := cf2 BK151.out) | (go_at_call 8; (with_reducible refine (spec_ResText.calls k2 x152000_2 _ _ x152001_2 t163 _ ?side1 ?side2 A38.out).mono ?_); (case side1 => exact lC <| (Kd.R_reads' HO_152001.out).2.2); (case side2 => exact (Kd.R_reads' HO_152001.out).2.1); rintro e w53 ⟨rfl, hb⟩; replace HO_4 := aM (rb HO_4.out hb); replace HO_152001 := aM (rb HO_152001.out hb); replace BK147 := aM (bb BK147.out hb); replace BK151 := aM (bb BK151.out hb); replace HB := aM (bj HB.out hb); (try clear hb); obtain ⟨hcz54_0, hcz54_1, hfz54_0, hfz54_1⟩ := cf2 BK147.out)))
        refine bodyPost_ret (results_ct rfl _ _ gb147 27 #[.int .i64 0, .slice none 0 0] (0, 0) _ rfl (by exact p2 (lK BK147.out)) Tryd.underlying27 rfl (by kernel_rfl)) rfl ?_
        exact ⟨_, er, by first | exact Kd.R_nil _ _ _ _ _ | exact Kd.N_nil _ _ _ _ _ | exact Kd.V_nil _ _ _ _ _ | exact Kd.Q_nil _ _ _ _ _ | exact Kd.S_nil _ _ _ _ _, by exact jB HB.out⟩

-- NOT PRINTED: function 61 (utf8_RuneCountInString)

-- NOT PRINTED: function 72 (utf8_decodeRuneInStringSlow)

-- NOT PRINTED: function 62 (utf8_DecodeRuneInString)

-- NOT PRINTED: function 54 (strings_explode)

-- NOT PRINTED: function 88 (bytealg_IndexByteString)

-- NOT PRINTED: function 73 (stringslite_IndexByte)

-- NOT PRINTED: function 74 (bytealg_IndexString)

-- NOT PRINTED: function 75 (bytealg_Cutover)

-- NOT PRINTED: function 89 (bytealg_hashStr_string)

-- NOT PRINTED: function 76 (bytealg_IndexRabinKarp_string)

-- NOT PRINTED: function 64 (stringslite_Index)

-- NOT PRINTED: function 56 (strings_Index)

-- NOT PRINTED: function 63 (bytealg_CountString)

-- NOT PRINTED: function 55 (strings_Count)

-- NOT PRINTED: function 47 (strings_genSplit)

/-! ### strings_Split: function 33, by hand -/
theorem str_row (w : World) (xs : List ByteArray) (hl : xs.length ≤ 4611686018427387904) :
  Kd.R Kd.string 9 (w.alloc (.cells (xs.map Value.string).toArray 9)) w.heap.size (fun _ => True) (.slice (some ⟨w.heap.size, 0, none⟩) xs.length xs.length) xs := by
 refine ⟨fun _ _ => trivial, xs.map Value.string, ⟨?_, .inr ⟨w.heap.size, xs.length, (xs.map Value.string).toArray, rfl, Nat.le_refl _, (by show (w.heap.push _)[w.heap.size]? = _; simp), Nat.le_refl _, ?_, ?_, ?_⟩⟩, ?_, fun j p h => ?_⟩
 ·show (xs.map Value.string).length = xs.length * 1
  simp
 ·unfold maxLen
  omega
 ·show (xs.map Value.string).toArray.size = xs.length * 1
  simp
 ·show List.take (xs.length * 1) (xs.map Value.string).toArray.toList = _
  rw [Nat.mul_one]
  exact List.take_of_length_le (by simp)
 ·show (xs.map Value.string).length = xs.length * 1
  simp
 ·show List.take 1 (List.drop (j * 1) (xs.map Value.string)) = [Value.string p]
  obtain ⟨hj, e⟩ := List.getElem?_eq_some_iff.mp h
  rw [Nat.mul_one, List.drop_eq_getElem_cons (by simpa using hj), List.take_succ_cons, List.take_zero, List.getElem_map, e]
def strings_Split.f (a0 : ByteArray) (a1 : ByteArray) : Option (List ByteArray) := if a1.size = 1 ∧ a0.size ≤ 1048576 then some (Go.Lib.splitB a1 0 (Go.Lib.countB a0 a1) a0) else none
theorem strings_Split.calls (a0 : ByteArray) (a1 : ByteArray) (r : List ByteArray) (w : World) (h : strings_Split.f a0 a1 = some r) (htab : Tryd.TB w) :
  Calls Tryd.prog 33 #[.string a0, .string a1] w fun e w' => ∃ v0_ : Value, e = .returned (v0_) ∧ Kd.R Kd.string 9 w' w.heap.size (fun _ => True) v0_ r ∧ Below w.heap.size w w' := by
 unfold strings_Split.f at h
 by_cases hL : a1.size = 1 ∧ a0.size ≤ 1048576
 case neg => rw [if_neg hL] at h; exact absurd h (by simp)
 case pos =>
  rw [if_pos hL] at h
  obtain rfl := Option.some.inj h
  clear h
  obtain ⟨m, hm⟩ := htab.maxLen
  have hlen := Go.Lib.splitB_all a1 (by omega) 0 _ a0 rfl
  have hcnt := Go.Lib.countB_le a1 (by omega) _ a0 (Nat.le_refl _)
  refine (Tryd.strings_Split a0 a1 m w (by omega) hm (by omega)).mono ?_
  rintro e w' ⟨rfl, rfl⟩
  refine ⟨.slice (some ⟨w.heap.size, 0, none⟩) (Go.Lib.splitB a1 0 (Go.Lib.countB a0 a1) a0).length (Go.Lib.splitB a1 0 (Go.Lib.countB a0 a1) a0).length, by rw [hlen], str_row w _ (by omega), below_alloc (Below.refl _ _) _⟩

-- NOT PRINTED: function 95 (strconv_lower)

-- NOT PRINTED: function 96 (strconv_underscoreOK)

-- NOT PRINTED: function 90 (strconv_ParseUint)

-- NOT PRINTED: function 77 (strconv_ParseInt)

-- NOT PRINTED: function 65 (strconv_Atoi_65)

-- NOT PRINTED: function 91 (stringslite_Clone)

-- NOT PRINTED: function 78 (strconv_syntaxError)

-- NOT PRINTED: function 79 (strconv_rangeError)

-- NOT PRINTED: function 92 (errors_New)

-- NOT PRINTED: function 80 (strconv_baseError)

-- NOT PRINTED: function 81 (strconv_bitSizeError)

-- NOT PRINTED: function 66 (strconv_toError)

-- NOT PRINTED: function 57 (strconv_Atoi_57)

-- NOT PRINTED: function 82 (stringslite_HasPrefix)

-- NOT PRINTED: function 67 (stringslite_TrimPrefix)

-- NOT PRINTED: function 58 (strings_TrimPrefix)

/-! ### impl_numberOf: function 48, by hand -/
/-- A word's number, and whether it is one. -/
def numV (s : ByteArray) : Int × Bool :=
 match Go.Lib.atoiAll s.data.toList with
 | .ok v => (v, (Go.Lib.itoa v == s.toList) && decide (((Go.Lib.trimPrefix s.data.toList [45]).length : Int) ≤ 12))
 | .range => (Go.Lib.atoiSat s.data.toList, false)
 | _ => (0, false)
theorem numB {w w' : World} (h : w' = w ∨ ∃ t, w' = Go.Lib.bytesWorld w 5 t) : Below w.heap.size w w' := by
 rcases h with rfl | ⟨t, rfl⟩
 ·exact Below.refl _ _
 ·exact Go.Lib.bytesWorld_below _ _ _
def impl_numberOf.f (a0 : ByteArray) : Option (Int × Bool) := if a0.size ≤ 1048576 then some (numV a0) else none
theorem impl_numberOf.calls (a0 : ByteArray) (r1 : Int) (r2 : Bool) (w : World) (h : impl_numberOf.f a0 = some (r1, r2)) (htab : Tryd.TB w) :
  Calls Tryd.prog 48 #[.string a0] w fun e w' => e = .returned (.tuple #[.int .i64 r1, .bool r2]) ∧ Below w.heap.size w w' := by
 unfold impl_numberOf.f at h
 by_cases hL : a0.size ≤ 1048576
 case neg => rw [if_neg hL] at h; exact absurd h (by simp)
 case pos =>
  rw [if_pos hL] at h
  have h := Option.some.inj h
  have HT := aM htab
  clear htab
  unfold numV at h
  cases ha : Go.Lib.atoiAll a0.data.toList with
  | ok v =>
   rw [ha] at h
   obtain ⟨rfl, rfl⟩ := Prod.mk.inj h
   clear h
   have hv := Go.Lib.atoiAll_bounds ha
   have HA := aM (Tryd.strconv_Atoi_ok a0 (by omega) v ha w)
   have HI := aM (Tryd.strconv_Itoa v hv.1 hv.2)
   clear ha hv
   go_enter Tryd.func48, Tryd.ntmps48
   go_wp2_with (first
    | (go_at_call 57; refine HA.out.mono ?_; rintro e w1 ⟨rfl, hw⟩; have HB1 := aM (numB hw); clear hw)
    | (go_at_call 45; refine (HI.out _ (Tryd.TB.below HT.out HB1.out).tab).mono ?_; rintro e w2 ⟨rfl, kk, os, rfl⟩; have HB2 := aM (below_grown HB1.out HB1.out.size kk os))
    | (go_at_call 58; refine (Tryd.strings_TrimPrefix _ _ _).mono ?_; rintro e w3 ⟨rfl, rfl⟩))
   all_goals go_ret2
   all_goals refine ⟨?_, HB2.out⟩
   all_goals first | rfl | (simp [*]; done) | skip
  | range =>
   rw [ha] at h
   obtain ⟨rfl, rfl⟩ := Prod.mk.inj h
   clear h
   obtain ⟨tp, p, hvar⟩ := HT.out.ran
   have HA := aM (Tryd.strconv_Atoi_range_var a0 (by omega) ha tp p w hvar)
   clear ha hvar
   go_enter Tryd.func48, Tryd.ntmps48
   go_wp2_with (first
    | (go_at_call 57; refine HA.out.mono ?_; rintro e w1 ⟨N_, rfl, hN, hb, hw⟩; have HB1 := aM hw; clear hN hb hw))
   go_ret2
   exact ⟨rfl, HB1.out⟩
  | _ =>
   rw [ha] at h
   obtain ⟨rfl, rfl⟩ := Prod.mk.inj h
   clear h
   obtain ⟨tp, p, hvar⟩ := HT.out.syn
   have HA := aM (Tryd.strconv_Atoi_bad a0 (by omega) (fun v e => by rw [ha] at e; cases e) (fun e => by rw [ha] at e; cases e) tp p w hvar)
   clear ha hvar
   go_enter Tryd.func48, Tryd.ntmps48
   go_wp2_with (first
    | (go_at_call 57; refine HA.out.mono ?_; rintro e w1 ⟨N_, rfl, hN, hb, hw⟩; have HB1 := aM hw; clear hN hb hw))
   go_ret2
   exact ⟨rfl, HB1.out⟩

/-! ### impl_numbersOf: function 34 -/
def impl_numbersOf.l0 : Nat → List Int → List ByteArray → Int → Int → Option (List Int × Bool)
 | 0, _, _, _, _ => none
 | k + 1, x4, x9, x10, x11 => if x11 < x10 then (if 0 ≤ x11 then (if x11 < (x9.length : Int) then ((impl_numberOf.f (rdOf ByteArray.empty x9 x11)).bind fun bt166 => (if bt166.2 = true then (if x4.length < 17592186044416 then (impl_numbersOf.l0 k (x4 ++ [bt166.1]) x9 x10 (wrap64 (x11 + 1))) else (none)) else (some (([] : List Int), false)))) else (none)) else (none)) else (some (x4, true))
def impl_numbersOf.f (k : Nat) (l0 : List ByteArray) : Option (List Int × Bool) := impl_numbersOf.l0 k ([] : List Int) l0 (l0.length : Int) 0
theorem impl_numbersOf.mono_l : ∀ k, (∀ y0 y1 y2 y3, LeO (impl_numbersOf.l0 k y0 y1 y2 y3) (impl_numbersOf.l0 (k + 1) y0 y1 y2 y3))
 | 0 => fun _ _ _ _ r h => by simp [impl_numbersOf.l0] at h
 | k + 1 => by
  have ih0 := impl_numbersOf.mono_l k
  ·intro y0 y1 y2 y3
   unfold impl_numbersOf.l0
   repeat' first
   | (with_reducible exact ih0 _ _ _ _)
   | (with_reducible exact LeO.refl _)
   | (with_reducible exact LeO.none _)
   | (with_reducible refine LeO.ite ?_ ?_)
   | (with_reducible refine LeO.bind ?_ (fun _ => ?_))
   | exact LeO.none _
   | refine LeO.ite ?_ ?_
   | refine LeO.bind ?_ (fun _ => ?_)
theorem impl_numbersOf.mono : ∀ a0 k, LeO (impl_numbersOf.f k a0) (impl_numbersOf.f (k + 1) a0) := by
 intro a0 k
 have ih0 := impl_numbersOf.mono_l k
 unfold impl_numbersOf.f
 repeat' first
   | (with_reducible exact ih0 _ _ _ _)
   | (with_reducible exact LeO.refl _)
   | (with_reducible exact LeO.none _)
   | (with_reducible refine LeO.ite ?_ ?_)
   | (with_reducible refine LeO.bind ?_ (fun _ => ?_))
   | exact LeO.none _
   | refine LeO.ite ?_ ?_
   | refine LeO.bind ?_ (fun _ => ?_)
theorem impl_numbersOf.calls (k : Nat) (A0 : Option Addr) (c0 : Nat) (l0 : List ByteArray) (r1 : List Int) (r2 : Bool) (w : World) (hr0 : Kd.C Kd.string w A0 l0.length l0) (hc0 : l0.length ≤ c0) (h : impl_numbersOf.f k l0 = some (r1, r2)) (htab : Tryd.TB w) :
  Calls Tryd.prog 34 #[.slice A0 l0.length c0] w fun e w' => ∃ v0_ : Value, e = .returned (.tuple #[v0_, .bool r2]) ∧ Kd.R (Kd.int .i64) 3 w' w.heap.size (fun _ => True) v0_ r1 ∧ Below w.heap.size w w' := by
 have HTAB : Aside0 (∀ w', Below w.heap.size w w' → Tryd.TB w') := ⟨fun w' hb => Tryd.TB.below htab hb⟩
 clear htab
 have HR0 := aM hr0
 have HC0 := aM hc0
 clear hr0 hc0
 have HB := aM (Below.refl w.heap.size w)
 have H : (impl_numbersOf.l0 k ([] : List Int) l0 (l0.length : Int) 0) = some (r1, r2) := h
 clear h
 have H' := aM H
 clear H
 go_enter Tryd.func34, Tryd.ntmps34
 go_wp2
 go_loopg [4, 11] k (fun kq v4 v11 w' => ∃ (x4_1 : List Int) (x11_1 : Int), v11 = .int .i64 x11_1 ∧ Aside0 (impl_numbersOf.l0 kq x4_1 l0 (l0.length : Int) x11_1 = some (r1, r2)) ∧ Aside0 (kq ≤ k) ∧ Aside0 (Kd.R (Kd.int .i64) 3 w' w.heap.size (fun _ => True) v4 x4_1) ∧ Aside0 (Below w.heap.size w w'))
 case atStart => exact ⟨(([] : List Int)), (0), (by first | rfl | (simp; done) | (simp [*]; done)), H', ⟨Nat.le_refl _⟩, ⟨by first | exact Kd.R_nil _ _ _ _ _ | exact Kd.N_nil _ _ _ _ _ | exact Kd.V_nil _ _ _ _ _ | exact Kd.Q_nil _ _ _ _ _ | exact Kd.S_nil _ _ _ _ _⟩, ⟨by exact lB HB.out⟩⟩
 case round =>
  clear H'
  obtain ⟨x4_1, x11_1, rfl, HA, HK1, HO_4, HB⟩ := hrel
  cases gk with
  | zero => exact absurd HA.out (by simp [impl_numbersOf.l0])
  | succ k1 =>
   have H := HA.out
   clear HA
   simp only [impl_numbersOf.l0] at H
   by_cases c2 : x11_1 < (l0.length : Int)
   ·rw [if_pos c2] at H
    have c2b0 := decide_eq_true c2
    clear c2
    by_cases c3 : 0 ≤ x11_1
    ·rw [if_pos c3] at H
     have c3b0 := decide_eq_true c3
     clear c3
     by_cases c4 : x11_1 < (l0.length : Int)
     ·rw [if_pos c4] at H
      have c4b0 := decide_eq_true c4
      clear c4
      obtain ⟨⟨t166, t167⟩, A5, H⟩ := bS H
      try dsimp only at H
      by_cases c6 : t167 = true
      ·subst c6
       rw [if_pos rfl] at H
       try dsimp only at H
       by_cases c7 : x4_1.length < 17592186044416
       ·rw [if_pos c7] at H
        have LMc7 := aM c7
        clear c7
        obtain ⟨y168, hy168⟩ : ∃ y_ : List Int, y_ = (x4_1 ++ [t166]) := ⟨_, rfl⟩
        try rw [← hy168] at H
        try dsimp only [Option.bind_some] at H
        have Ny168 := aM hy168
        clear hy168
        have H' := aM H
        clear H
        have p165 : 0 ≤ (x11_1 : Int) := of_decide_eq_true (by first | (with_reducible assumption) | assumption)
        have q165 : x11_1 < (l0.length : Int) := of_decide_eq_true (by first | (with_reducible assumption) | assumption)
        obtain ⟨ad165, e165, hx165_0⟩ := Kd.at_string HR0.out x11_1 p165 q165
        cases e165
        replace hx165_0 := cl HB.out hx165_0
        replace p165 := eq_true p165
        replace q165 := eq_true q165
        go_wp2_with (first | ((with_reducible refine gate_callee (f := 48) rfl ?_); refine gL (some 17) Tryd.func48 #[.string (rdOf ByteArray.empty l0 x11_1)] ?_; (with_reducible refine (impl_numberOf.calls (rdOf ByteArray.empty l0 x11_1) t166 true _ A5.out (HTAB.out _ (by exact jB HB.out))).mono ?_); rintro e w8 ⟨rfl, hb⟩; refine ⟨_, rfl, ?_⟩; replace HO_4 := aM (rb HO_4.out hb); replace HB := aM (bj HB.out hb); (try clear hb)) | ((with_reducible refine gate_builtin (b := .append) (xs := #[.tmp 22, .tmp 24]) rfl ?_); at_builtin; refine Kd.R_append (Kd.int .i64) (w0 := w) w.heap.size rfl (.tmp 22) (.tmp 24) 22 3 (.int .i64 0) 8 rfl Tryd.underlying22 info3 rfl (by decide) (by omega) u4 x4_1 t166 [.int .i64 t166] (fun _ => True) (fun _ => False) rfl rfl ?aP (fun _ hk => hk.elim) ?aF ?aO ?aB ?aS ?aL ?_; (case aP => exact rfl); (case aB => exact (by exact lB HB.out)); (case aF => exact (fun _ _ => trivial)); (case aO => exact (by exact lR HO_4.out)); (case aS => exact (below_size (by exact lB HB.out))); (case aL => have := LMc7.out; omega); intro v169 w9 ho hb hg hat; rw [← Ny168.out] at ho; replace HB := aM (hb); have HO170 := aM (ho); clear HO_4 ho hb hg hat))
        go_roundg k1
        case measure => have := HK1.out; omega
        case rel => exact ⟨(y168), (wrap64 (x11_1 + 1)), (by first | rfl | (simp; done) | (simp [*]; done)), H', ⟨by have := HK1.out; omega⟩, ⟨by exact lR <| HO170.out⟩, ⟨by exact lB HB.out⟩⟩
       ·rw [if_neg c7] at H
        exact absurd H (by simp)
      ·replace c6 := Bool.eq_false_iff.mpr c6
       subst c6
       rw [if_neg nf] at H
       try dsimp only at H
       simp only [Option.some.injEq, Prod.mk.injEq] at H
       obtain ⟨rfl, rfl⟩ := H
       have p165 : 0 ≤ (x11_1 : Int) := of_decide_eq_true (by first | (with_reducible assumption) | assumption)
       have q165 : x11_1 < (l0.length : Int) := of_decide_eq_true (by first | (with_reducible assumption) | assumption)
       obtain ⟨ad165, e165, hx165_0⟩ := Kd.at_string HR0.out x11_1 p165 q165
       cases e165
       replace hx165_0 := cl HB.out hx165_0
       replace p165 := eq_true p165
       replace q165 := eq_true q165
       go_wp2_with (first | ((with_reducible refine gate_callee (f := 48) rfl ?_); refine gL (some 17) Tryd.func48 #[.string (rdOf ByteArray.empty l0 x11_1)] ?_; (with_reducible refine (impl_numberOf.calls (rdOf ByteArray.empty l0 x11_1) t166 false _ A5.out (HTAB.out _ (by exact jB HB.out))).mono ?_); rintro e w10 ⟨rfl, hb⟩; refine ⟨_, rfl, ?_⟩; replace HO_4 := aM (rb HO_4.out hb); replace HB := aM (bj HB.out hb); (try clear hb)))
       go_ret2
       exact ⟨_, er, by first | exact Kd.R_nil _ _ _ _ _ | exact Kd.N_nil _ _ _ _ _ | exact Kd.V_nil _ _ _ _ _ | exact Kd.Q_nil _ _ _ _ _ | exact Kd.S_nil _ _ _ _ _, by exact lB HB.out⟩
     ·rw [if_neg c4] at H
      exact absurd H (by simp)
    ·rw [if_neg c3] at H
     exact absurd H (by simp)
   ·rw [if_neg c2] at H
    have c2b0 := decide_eq_false c2
    clear c2
    simp only [Option.some.injEq, Prod.mk.injEq] at H
    obtain ⟨rfl, rfl⟩ := H
    go_wp2
    go_ret2
    exact ⟨_, er, by exact lR <| HO_4.out, by exact lB HB.out⟩

/-! ### slices_Index_string_string: function 35, by hand -/
def slices_Index_string_string.f (l0 : List ByteArray) (a1 : ByteArray) : Option (Int) := some (Go.Lib.idxOfS l0 a1)
theorem slices_Index_string_string.calls (A0 : Option Addr) (c0 : Nat) (l0 : List ByteArray) (a1 : ByteArray) (r : Int) (w : World) (hr0 : Kd.C Kd.string w A0 l0.length l0) (hc0 : l0.length ≤ c0) (h : slices_Index_string_string.f l0 a1 = some r) :
  Calls Tryd.prog 35 #[.slice A0 l0.length c0, .string a1] w fun e w' => e = .returned (.int .i64 r) ∧ Below w.heap.size w w' := by
 obtain rfl := Option.some.inj h
 clear h
 by_cases hl : l0 = []
 ·subst hl
  refine (Tryd.slices_Index_string_empty A0 c0 a1 w).mono ?_
  rintro e w' ⟨rfl, rfl⟩
  exact ⟨rfl, Below.refl _ _⟩
 ·have hpos : 0 < l0.length := List.length_pos_iff.mpr hl
  obtain ⟨ad, e1, hx⟩ := Kd.at_string hr0 0 (by omega) (by omega)
  subst e1
  obtain ⟨b, off, sp⟩ := ad
  have hsp : sp = none := by
   cases sp with
   | none => rfl
   | some x =>
    exfalso
    simp only [Addr.add, Int.toNat_zero, if_true, World.cell?] at hx
    split at hx
    ·simp at hx
    ·cases hx
  subst hsp
  have hc : ∀ j, j < l0.length → w.cell? ⟨b, off + j, none⟩ = some (.string (l0.getD j ByteArray.empty)) := by
   intro j hj
   obtain ⟨ad', e', hx'⟩ := Kd.at_string hr0 (j : Int) (by omega) (by omega)
   cases e'
   have e3 : (Addr.mk b off none).add j = ⟨b, off + j, none⟩ := by
    unfold Addr.add
    split
    ·subst_vars; rfl
    ·rfl
   rw [show ((j : Int)).toNat = j by omega, e3] at hx'
   simpa [rdOf] using hx'
  refine (Tryd.slices_Index_string b off l0.length c0 l0 a1 w (Nat.le_refl _) hr0.2.1 hc).mono ?_
  rintro e w' ⟨rfl, rfl⟩
  rw [List.take_length]
  exact ⟨rfl, Below.refl _ _⟩

end Go.Proofs.YtcafmfmlnfaogaaDoor.QFnResText

-- shorter
