/- Plain functions, and that the Go code computes them: written by a program of this session over the seat's translation; the conditions stand in each theorem. -/
import Derived.Test.YtcafmfmlnfaogaaDoorQFnResTextx0
import Derived.Test.YtcafmfmlnfaogaaDoorQFnResTextx1
import Derived.Test.YtcafmfmlnfaogaaDoorQFnResTextx2
import Derived.Test.YtcafmfmlnfaogaaDoorQFnResTextx4
namespace Go.Proofs.YtcafmfmlnfaogaaDoor.QFnResText
open Go.RowKit Go.Proofs.YtcafmfmlnfaogaaDoorW.PrintWords Go.Proofs.YtcafmfmlnfaogaaDoorW.PrintLast Go.Proofs.YtcafmfmlnfaogaaDoorW.PrintMore Go.Proofs.YtcafmfmlnfaogaaDoor.HWords
open Value (ownBlock)
attribute [local go_sem] max2_int min2_int max_two min_two max_three min_three max_four min_four   -- for this text's walks alone
set_option linter.unusedVariables false
set_option linter.unusedSimpArgs false

/-! ### impl_ResRead: function 15 -/
def impl_ResRead.f (k : Nat) (a0 : ByteArray) : Option (Int × List Int × Bool) := (strings_Split.f a0 (⟨#[32]⟩ : ByteArray)).bind fun t172 => (if 1 ≤ (t172.length : Int) then ((impl_numbersOf.f k (t172.drop 1)).bind fun bt179 => ((impl_codeWords.f).bind fun t183 => (if 0 < (t172.length : Int) then ((slices_Index_string_string.f t183 (rdOf ByteArray.empty t172 0)).bind fun t187 => (if (a0.size : Int) > 120 then (some (0, ([] : List Int), false)) else (if bt179.2 = true then (if a0.toList = ([] : List UInt8) then (some (0, ([] : List Int), false)) else ((impl_ResText.f k t187 bt179.1).bind fun t189 => (if t189.toList = a0.toList then (some (t187, bt179.1, true)) else (some (0, ([] : List Int), false))))) else (some (0, ([] : List Int), false))))) else (none)))) else (none))
theorem impl_ResRead.mono : ∀ a0 k, LeO (impl_ResRead.f k a0) (impl_ResRead.f (k + 1) a0) := by
 intro a0 k
 unfold impl_ResRead.f
 repeat' first
   | (with_reducible exact impl_ResText.mono _ _ _)
   | (with_reducible exact impl_numbersOf.mono _ _)
   | (with_reducible exact LeO.refl _)
   | (with_reducible exact LeO.none _)
   | (with_reducible refine LeO.ite ?_ ?_)
   | (with_reducible refine LeO.bind ?_ (fun _ => ?_))
   | exact LeO.none _
   | refine LeO.ite ?_ ?_
   | refine LeO.bind ?_ (fun _ => ?_)
def impl_ResRead.T3 : Bool × List (List Nat × List Nat) := (true, [([], []), ([], []), ([1], [1]), ([2], [2]), ([0, 3, 0], [0, 3]), ([], []), ([4, 5], [4, 5]), ([], []), ([7, 6, 4, 0, 1, 2, 3, 4, 5, 6, 7], [6, 7])])
def impl_ResRead.B3 : List Nat := [0, 0, 2, 6, 15, 0, 63, 0, 255]
theorem impl_ResRead.tab3 : rtab .any (opsOf Tryd.f15 3) = impl_ResRead.T3 := by kernel_rfl
theorem impl_ResRead.bits3 : waitsOk impl_ResRead.T3.2 impl_ResRead.B3 = true := by kernel_rfl
set_option maxHeartbeats 8000000 in
set_option maxRecDepth 100000 in
theorem impl_ResRead.calls (k : Nat) (a0 : ByteArray) (r1 : Int) (r2 : List Int) (r3 : Bool) (w : World) (h : impl_ResRead.f k a0 = some (r1, r2, r3)) (htab : Tryd.TB w) :
  Calls Tryd.prog 15 #[.string a0] w fun e w' => ∃ v1_ : Value, e = .returned (.tuple #[.agg #[.int .i64 r1, v1_], .bool r3]) ∧ Kd.R (Kd.int .i64) 3 w' w.heap.size (fun _ => True) v1_ r2 ∧ Below w.heap.size w w' := by
 have HTAB : Aside0 (∀ w', Below w.heap.size w w' → Tryd.TB w') := ⟨fun w' hb => Tryd.TB.below htab hb⟩
 clear htab
 have hu27 := Tryd.underlying27
 have HB := aM (Below.refl w.heap.size w)
 have H : ((strings_Split.f a0 (⟨#[32]⟩ : ByteArray)).bind fun t172 => (if 1 ≤ (t172.length : Int) then ((impl_numbersOf.f k (t172.drop 1)).bind fun bt179 => ((impl_codeWords.f).bind fun t183 => (if 0 < (t172.length : Int) then ((slices_Index_string_string.f t183 (rdOf ByteArray.empty t172 0)).bind fun t187 => (if (a0.size : Int) > 120 then (some (0, ([] : List Int), false)) else (if bt179.2 = true then (if a0.toList = ([] : List UInt8) then (some (0, ([] : List Int), false)) else ((impl_ResText.f k t187 bt179.1).bind fun t189 => (if t189.toList = a0.toList then (some (t187, bt179.1, true)) else (some (0, ([] : List Int), false))))) else (some (0, ([] : List Int), false))))) else (none)))) else (none))) = some (r1, r2, r3) := h
 clear h
 obtain ⟨t172, A2, H⟩ := bS H
 try dsimp only at H
 by_cases c3 : 1 ≤ (t172.length : Int)
 ·rw [if_pos c3] at H
  have c3b0 := eq_true c3
  have c3b1 := decide_eq_true c3
  clear c3
  obtain ⟨y175, hy175⟩ : ∃ y_ : List ByteArray, y_ = (t172.drop 1) := ⟨_, rfl⟩
  try rw [← hy175] at H
  try dsimp only [Option.bind_some] at H
  have Ny175 := aM hy175
  clear hy175
  obtain ⟨⟨t179, t180⟩, A4, H⟩ := bS H
  try dsimp only at H
  obtain ⟨t183, A5, H⟩ := bS H
  try dsimp only at H
  by_cases c6 : 0 < (t172.length : Int)
  ·rw [if_pos c6] at H
   have c6b0 := decide_eq_true c6
   have c6b1 : decide (0 < t172.length) = true := decide_eq_true (by omega)
   clear c6
   obtain ⟨t187, A7, H⟩ := bS H
   try dsimp only at H
   by_cases c8 : (a0.size : Int) > 120
   ·rw [if_pos c8] at H
    have c8b0 := decide_eq_true c8
    have c8b1 : decide (120 < a0.size) = true := decide_eq_true (by omega)
    clear c8
    simp only [Option.some.injEq, Prod.mk.injEq] at H
    obtain ⟨rfl, rfl, rfl⟩ := H
    go_enter Tryd.func15, Tryd.ntmps15
    try go_wp2_with (first | ((with_reducible refine gate_dst (N := 2) rfl ?_); refine bx 2 #[.int .i64 0, .slice none 0 0] 27 ?_; intro gb171 hg w9 hbox hb; have BK171 := aM (hbox); have GW171 := aM ((gz hg HB.out)); have IGW171 : Nonempty _ := ⟨GW171.out⟩; have GE171 := aM ((gz hg HB.out)); have IGE171 : Nonempty _ := ⟨GE171.out⟩; replace HB := aM (bj HB.out hb); clear hb hbox hg) | ((with_reducible refine gate_callee (f := 33) rfl ?_); refine gL (some 9) Tryd.func33 #[.string a0, .string (⟨#[32]⟩ : ByteArray)] ?_; (with_reducible refine (strings_Split.calls a0 (⟨#[32]⟩ : ByteArray) t172 _ A2.out (HTAB.out _ (by exact jB HB.out))).mono ?_); rintro e w10 ⟨v173, rfl, ho0, hb⟩; refine ⟨_, rfl, ?_⟩; have HO174 := aM (Kd.R_lower ho0 (below_size (by exact jB HB.out))); replace BK171 := aM (bb BK171.out hb); replace HB := aM (bj HB.out hb); (try clear hb); (try clear ho0); obtain ⟨Ao12, co12, eo12⟩ := Kd.R_slice HO174.out; subst eo12; have q11 : (1 : Int) ≤ ((t172.length : Int) : Int) := of_decide_eq_true (by first | (with_reducible assumption) | assumption); obtain ⟨i011, hi011, _, hsz11, _⟩ := info_parts info9; have hroom11 : t172.length ≤ co12 := (Kd.R_reads' HO174.out).2.1; have hC11 : Kd.C Kd.string _ Ao12 t172.length t172 := (Kd.R_reads' HO174.out).2.2; have hcut11 := cut_from (P := Tryd.prog) 41 9 .i64 Tryd.underlying41 hi011 1 hsz11 Ao12 t172.length co12 1 (by omega) q11; have hr11 := Kd.C_drop (m := (1 : Int).toNat) (c := co12) hC11 (by omega) hroom11; obtain ⟨A11, hA11⟩ : ∃ A1, A1 = (if co12 = (1 : Int).toNat then Ao12 else (Ao12 : Option Addr).map (·.add ((1 : Int).toNat * 1))) := ⟨_, rfl⟩; obtain ⟨c11, hc11⟩ : ∃ c1, c1 = co12 - (1 : Int).toNat := ⟨_, rfl⟩; have hy11 : y175.length = t172.length - (1 : Int).toNat := (by rw [Ny175.out, List.length_drop] <;> omega); rw [show (t172).drop (1 : Int).toNat = y175 from Ny175.out.symm] at hr11; replace hr11 : Kd.C Kd.string _ A11 y175.length y175 := (by rw [hA11]; exact hr11); rw [← hy11, ← hA11, ← hc11] at hcut11; have HR178 := aM hr11; have HC178 := aM (show y175.length ≤ c11 from by rw [hy11, hc11]; exact Nat.sub_le_sub_right hroom11 _); clear hr11 hC11 hroom11 hi011 hsz11 hc11; have KY11 := aM hy11; have KA11 := aM hA11; clear hy11 hA11; have KL11 := aM (show 1 ≤ t172.length from by omega); replace q11 := eq_true q11) | ((with_reducible refine gate_callee (f := 34) rfl ?_); refine gL (some 13) Tryd.func34 #[.slice A11 y175.length c11] ?_; (with_reducible refine (impl_numbersOf.calls k _ _ y175 t179 t180 _ ?side1 ?side2 A4.out (HTAB.out _ (by exact jB HB.out))).mono ?_); (case side1 => repeat (first | exact (by repeat (first | (with_reducible exact HR178.out) | (with_reducible refine Kd.C_alloc ?_ _) | (with_reducible refine Kd.C_drewN ?_ _) | (with_reducible refine Kd.C_drew ?_) | exact HR178.out)) | (with_reducible refine Kd.C_alloc ?_ _) | (with_reducible refine Kd.C_drewN ?_ _) | (with_reducible refine Kd.C_drew ?_))); (case side2 => exact HC178.out); rintro e w13 ⟨v181, rfl, ho0, hb⟩; refine ⟨_, rfl, ?_⟩; replace HO174 := aM (rb HO174.out hb); have HO182 := aM (Kd.R_lower ho0 (below_size (by exact jB HB.out))); replace BK171 := aM (bb BK171.out hb); replace HR178 := aM (Kd.C_below (by repeat (first | (with_reducible exact HR178.out) | (with_reducible refine Kd.C_alloc ?_ _) | (with_reducible refine Kd.C_drewN ?_ _) | (with_reducible refine Kd.C_drew ?_) | exact HR178.out)) hb); replace HB := aM (bj HB.out hb); (try clear hb); (try clear ho0)))
    replace HO174 := aM (Kd.R_drew HO174.out)
    replace HO182 := aM (Kd.R_drew HO182.out)
    replace BK171 := aM (blk_drew BK171.out)
    replace HR178 := aM (Kd.C_drew HR178.out)
    replace HB := aM (below_drew1 HB.out)
    have p186 : 0 ≤ (0 : Int) := (by omega)
    have q186 : 0 < (t172.length : Int) := of_decide_eq_true (by first | (with_reducible assumption) | assumption)
    obtain ⟨ad186, e186, hx186_0⟩ := Kd.at_string (Kd.R_reads' HO174.out).2.2 0 p186 q186
    cases e186
    have qi186 : (0 < t172.length) = True := eq_true (by omega)
    (try rw [show ((0 : Int)).toNat = 0 from rfl] at hx186_0)
    (try rw [Addr.add_zero'] at hx186_0)
    replace p186 := eq_true p186
    replace q186 := eq_true q186
    obtain ⟨Ao18, co18, eo18⟩ := Kd.R_slice HO182.out
    subst eo18
    refine start_ (n := 9) (S := fun w' => w'.cell? ad186 = some (.string (rdOf ByteArray.empty t172 0))) (ds := []) #[false, false, false, false, false, false, false, false, false] (by kernel_rfl) rfl rfl (hx186_0) (fun hHeld => ?_); refine with_tabW impl_ResRead.tab3 impl_ResRead.bits3 (fun HT_ HW_ => ?_)
    generalize w13.drew = w14 at HO174 HO182 BK171 HR178 HB hx186_0 hHeld ⊢
    refine pure_ (i := 1) (N := some 17) (v := ?_) (a' := ?_) #[false, true, false, false, false, false, false, false, false] rfl rfl (any_of HT_.out (by kernel_rfl)) (fun _ _ _ h => h) (Or.inl ⟨by rfl, ?_⟩) ?_ ?_
    rotate_left
    ·intro w'
     go_simp
     with_reducible rfl
    rotate_left
    ·simp only [Act.put, sA, s0, sS, i64_w, i32_w]
     rfl
    refine pure_ (i := 2) (N := some 18) (v := ?_) (a' := ?_) #[false, true, true, false, false, false, false, false, false] rfl rfl (any_of HT_.out (by kernel_rfl)) (fun _ _ _ h => h) (Or.inl ⟨by rfl, ?_⟩) ?_ ?_
    rotate_left
    ·intro w'
     go_simp
     with_reducible rfl
    rotate_left
    ·simp only [Act.put, sA, s0, sS, i64_w, i32_w]
     rfl
    refine pure_ (i := 5) (N := some 21) (v := ?_) (a' := ?_) #[false, true, true, false, false, true, false, false, false] rfl rfl (any_of HT_.out (by kernel_rfl)) (fun _ _ _ h => h) (Or.inl ⟨by rfl, ?_⟩) ?_ ?_
    rotate_left
    ·intro w'
     go_simp
     with_reducible rfl
    rotate_left
    ·simp only [Act.put, sA, s0, sS, i64_w, i32_w]
     rfl
    refine take_ (i := 3) (N := some 19) (v := ?_) (a' := ?_) #[false, true, true, true, false, true, false, false, false] rfl rfl (take_ofW HT_.out HW_.out (by kernel_rfl)) (fun _ _ _ h => h) (Or.inl ⟨by rfl, ?_⟩) hHeld ?_ ?_
    rotate_left
    ·intro w' s0
     go_simp
     with_reducible rfl
    rotate_left
    ·simp only [Act.put, sA, s0, sS, i64_w, i32_w]
     rfl
    refine join_ (σ := Value × Nat) 1 #[true, true, true, true, true, true, true, true, false] (fun s_ => [(16, s_.1), (20, .int .i64 t187), (7, .pointer (some ⟨s_.2, 0, none⟩)), (22, .agg #[.int .i64 t187, .slice Ao18 t179.length co18])]) (fun s_ w' => (w'.cell? ad186 = some (.string (rdOf ByteArray.empty t172 0))) ∧ (Kd.R Kd.string 9 w' w.heap.size (fun k_ => some k_ ≠ (s_.1 : Value).ownBlock) (.slice (some ad186) t172.length co12) t172) ∧ (Kd.R (Kd.int .i64) 3 w' w.heap.size (fun _ => True) (.slice Ao18 t179.length co18) t179) ∧ (Kd.R Kd.string 9 w' w.heap.size (fun k_ => some k_ ≠ ownBlock (.slice (some ad186) t172.length co12)) s_.1 t183) ∧ (w'.heap[gb171]? = some (.cells #[.int .i64 0, .slice none 0 0] 27 (0, 0))) ∧ (w'.heap[s_.2]? = some (.cells #[.int .i64 0, .slice none 0 0] 27 (0, 0))) ∧ (w.heap.size ≤ s_.2) ∧ (w.heap.size ≤ s_.2) ∧ (gb171 ≠ s_.2) ∧ (s_.2 ≠ gb171) ∧ (Below w.heap.size w w')) ?_ ?_
    rotate_left
    ·intro hCont
     refine two_ (i := 0) (j := 7) (Ni := some 16) (Nj := some 7) #[true, true, true, true, false, true, false, false, false] #[false, true, true, true, false, true, false, true, false] rfl rfl rfl rfl (two_of HT_.out (by kernel_rfl)) (by decide) (by decide) (fun K hK => ?_) (fun K hK => ?_)
     ·skip
      refine goes_ Tryd.func28 (by kernel_rfl) rfl #[] (by rfl) rfl rfl (by (try simp only [mA, mC, mN]); first | done | rfl | (simp only [ld, lt]; rfl)) ?_
      with_reducible refine (impl_codeWords.calls  t183 _ A5.out).mono ?_
      rintro e w15 ⟨v184, rfl, ho0, hb⟩
      have HS0_ := (hb.cell (World.block_lt_of_cell? _ _ (hHeld))).trans (hHeld)
      refine ⟨_, rfl, ?_⟩
      replace HO182 := aM (rb HO182.out hb)
      have HO185 := aM (Kd.R_lower (Kd.R_new' ho0 (rl HO174.out)) (below_size (by exact jB HB.out)))
      replace HO174 := aM (Kd.R_elder' (by exact lR HO174.out) (Kd.R_base ho0) hb)
      replace BK171 := aM (bb BK171.out hb)
      replace HR178 := aM (Kd.C_below (by repeat (first | (with_reducible exact HR178.out) | (with_reducible refine Kd.C_alloc ?_ _) | (with_reducible refine Kd.C_drewN ?_ _) | (with_reducible refine Kd.C_drew ?_) | exact HR178.out)) hb)
      replace HB := aM (bj HB.out hb)
      (try clear hb)
      (try clear hb2)
      (try clear hk)
      (try clear hi)
      (try clear ho0)
      obtain ⟨Ao16, co16, eo16⟩ := Kd.R_slice HO185.out
      (first | subst eo16 | (injection eo16 with f1_ f2_ f3_; have f4_ := f1_.symm; have f5_ := f3_.symm; clear f1_ f2_ f3_; subst f4_; subst f5_))
      refine hK.out _ _ (HS0_) (fun hHeld => ?_)
      clear hK K
      refine norm_ (a' := ?_) ?_ ?_
      rotate_left
      ·show Act.put _ (some 16) _ = _
       simp only [Act.put, sA, s0, sS, i64_w, i32_w]
       rfl
      refine two_ (i := 4) (j := 7) (Ni := some 20) (Nj := some 7) #[true, true, true, true, true, true, false, false, false] #[true, true, true, true, false, true, false, true, false] rfl rfl rfl rfl (two_of HT_.out (by kernel_rfl)) (by decide) (by decide) (fun K hK => ?_) (fun K hK => ?_)
      ·skip
       refine goes_ Tryd.func35 (by kernel_rfl) rfl #[.slice Ao16 t183.length co16, .string (rdOf ByteArray.empty t172 0)] (by rfl) rfl rfl (by (try simp only [mA, mC, mN]); first | done | rfl | (simp only [ld, lt]; rfl)) ?_
       with_reducible refine (slices_Index_string_string.calls _ _ t183 (rdOf ByteArray.empty t172 0) t187 _ ?side1 ?side2 A7.out).mono ?_
       (case side1 => exact lC <| (Kd.R_reads' HO185.out).2.2)
       (case side2 => exact (Kd.R_reads' HO185.out).2.1)
       rintro e w17 ⟨rfl, hb⟩
       have HS0_ := (hb.cell (World.block_lt_of_cell? _ _ (hHeld))).trans (hHeld)
       refine ⟨_, rfl, ?_⟩
       replace HO174 := aM (rb HO174.out hb)
       replace HO182 := aM (rb HO182.out hb)
       replace HO185 := aM (rb HO185.out hb)
       replace BK171 := aM (bb BK171.out hb)
       replace HR178 := aM (Kd.C_below (by repeat (first | (with_reducible exact HR178.out) | (with_reducible refine Kd.C_alloc ?_ _) | (with_reducible refine Kd.C_drewN ?_ _) | (with_reducible refine Kd.C_drew ?_) | exact HR178.out)) hb)
       replace HB := aM (bj HB.out hb)
       (try clear hb)
       (try clear hb2)
       (try clear hk)
       (try clear hi)
       obtain ⟨Ao18, co18, eo18⟩ := Kd.R_slice HO182.out
       (first | subst eo18 | (injection eo18 with f1_ f2_ f3_; have f4_ := f1_.symm; have f5_ := f3_.symm; clear f1_ f2_ f3_; subst f4_; subst f5_))
       refine hK.out _ _ (HS0_) (fun hHeld => ?_)
       clear hK K
       refine norm_ (a' := ?_) ?_ ?_
       rotate_left
       ·show Act.put _ (some 20) _ = _
        simp only [Act.put, sA, s0, sS, i64_w, i32_w]
        rfl
       refine pure_ (i := 6) (N := some 22) (v := ?_) (a' := ?_) #[true, true, true, true, true, true, true, false, false] rfl rfl (any_of HT_.out (by kernel_rfl)) (fun _ _ _ h => h) (Or.inl ⟨by rfl, ?_⟩) ?_ ?_
       rotate_left
       ·intro w'
        go_simp
        with_reducible rfl
       rotate_left
       ·simp only [Act.put, sA, s0, sS, i64_w, i32_w]
        rfl
       refine one_ (i := 7) (N := some 7) #[true, true, true, true, true, true, true, true, false] rfl rfl (one_of HT_.out (by kernel_rfl)) (by decide) (fun K hK => ?_)
       refine box_step ?hg (N := 7) ?hd (cs := #[.int .i64 0, .slice none 0 0]) (t := 27) ?hr ?_; (case hd => rfl); (case hg => rfl); (case hr => first | (go_simp; done) | (go_simp; rfl))
       intro gb188 hg w19 hbox hb
       have HS0_ := (hb.cell (World.block_lt_of_cell? _ _ (hHeld))).trans (hHeld)
       replace HO174 := aM (rb HO174.out hb)
       replace HO182 := aM (rb HO182.out hb)
       replace HO185 := aM (rb HO185.out hb)
       replace HR178 := aM (Kd.C_below (by repeat (first | (with_reducible exact HR178.out) | (with_reducible refine Kd.C_alloc ?_ _) | (with_reducible refine Kd.C_drewN ?_ _) | (with_reducible refine Kd.C_drew ?_) | exact HR178.out)) hb)
       have BK188 := aM (hbox)
       have GW188 := aM ((gz hg HB.out))
       have IGW188 : Nonempty _ := ⟨GW188.out⟩
       have GE188 := aM ((gz hg HB.out))
       have IGE188 : Nonempty _ := ⟨GE188.out⟩
       replace HB := aM (bj HB.out hb)
       have NB171_188 := aM ((neL hg (lK BK171.out) : gb171 ≠ gb188))
       have NB188_171 := aM ((neG hg (lK BK171.out) : gb188 ≠ gb171))
       replace BK171 := aM (bb BK171.out hb)
       clear hb hbox hg
       refine hK.out _ _ (HS0_) (fun hHeld => ?_)
       clear hK K
       refine norm_ (a' := ?_) ?_ ?_
       rotate_left
       ·show Act.put _ (some 7) _ = _
        simp only [Act.put, sA, s0, sS, i64_w, i32_w]
        rfl
       exact norm_ (by simp only [putAll, Act.put, List.setIfInBounds_toArray, List.set_cons_zero, List.set_cons_succ]) (hCont (.slice Ao16 t183.length co16, gb188) _ ⟨hHeld, (by exact lR <| Kd.R_mono HO174.out (fun _ hk => hk.2)), (by exact lR HO182.out), (by exact lR <| Kd.R_mono HO185.out (fun _ hk => hk.2)), (by exact lK BK171.out), (by exact lK BK188.out), GW188.out, GE188.out, NB171_188.out, NB188_171.out, (by exact jB HB.out)⟩)
      ·skip
       refine box_step ?hg (N := 7) ?hd (cs := #[.int .i64 0, .slice none 0 0]) (t := 27) ?hr ?_; (case hd => rfl); (case hg => rfl); (case hr => first | (go_simp; done) | (go_simp; rfl))
       intro gb188 hg w16 hbox hb
       have HS0_ := (hb.cell (World.block_lt_of_cell? _ _ (hHeld))).trans (hHeld)
       replace HO174 := aM (rb HO174.out hb)
       replace HO182 := aM (rb HO182.out hb)
       replace HO185 := aM (rb HO185.out hb)
       replace HR178 := aM (Kd.C_below (by repeat (first | (with_reducible exact HR178.out) | (with_reducible refine Kd.C_alloc ?_ _) | (with_reducible refine Kd.C_drewN ?_ _) | (with_reducible refine Kd.C_drew ?_) | exact HR178.out)) hb)
       have BK188 := aM (hbox)
       have GW188 := aM ((gz hg HB.out))
       have IGW188 : Nonempty _ := ⟨GW188.out⟩
       have GE188 := aM ((gz hg HB.out))
       have IGE188 : Nonempty _ := ⟨GE188.out⟩
       replace HB := aM (bj HB.out hb)
       have NB171_188 := aM ((neL hg (lK BK171.out) : gb171 ≠ gb188))
       have NB188_171 := aM ((neG hg (lK BK171.out) : gb188 ≠ gb171))
       replace BK171 := aM (bb BK171.out hb)
       clear hb hbox hg
       obtain ⟨Ao17, co17, eo17⟩ := Kd.R_slice HO185.out
       (first | subst eo17 | (injection eo17 with f1_ f2_ f3_; have f4_ := f1_.symm; have f5_ := f3_.symm; clear f1_ f2_ f3_; subst f4_; subst f5_))
       refine hK.out _ _ (HS0_) (fun hHeld => ?_)
       clear hK K
       refine norm_ (a' := ?_) ?_ ?_
       rotate_left
       ·show Act.put _ (some 7) _ = _
        simp only [Act.put, sA, s0, sS, i64_w, i32_w]
        rfl
       refine one_ (i := 4) (N := some 20) #[true, true, true, true, true, true, false, true, false] rfl rfl (one_of HT_.out (by kernel_rfl)) (by decide) (fun K hK => ?_)
       refine goes_ Tryd.func35 (by kernel_rfl) rfl #[.slice Ao17 t183.length co17, .string (rdOf ByteArray.empty t172 0)] (by rfl) rfl rfl (by (try simp only [mA, mC, mN]); first | done | rfl | (simp only [ld, lt]; rfl)) ?_
       with_reducible refine (slices_Index_string_string.calls _ _ t183 (rdOf ByteArray.empty t172 0) t187 _ ?side1 ?side2 A7.out).mono ?_
       (case side1 => exact lC <| (Kd.R_reads' HO185.out).2.2)
       (case side2 => exact (Kd.R_reads' HO185.out).2.1)
       rintro e w18 ⟨rfl, hb⟩
       have HS0_ := (hb.cell (World.block_lt_of_cell? _ _ (hHeld))).trans (hHeld)
       refine ⟨_, rfl, ?_⟩
       replace HO174 := aM (rb HO174.out hb)
       replace HO182 := aM (rb HO182.out hb)
       replace HO185 := aM (rb HO185.out hb)
       replace BK171 := aM (bb BK171.out hb)
       replace HR178 := aM (Kd.C_below (by repeat (first | (with_reducible exact HR178.out) | (with_reducible refine Kd.C_alloc ?_ _) | (with_reducible refine Kd.C_drewN ?_ _) | (with_reducible refine Kd.C_drew ?_) | exact HR178.out)) hb)
       replace BK188 := aM (bb BK188.out hb)
       replace HB := aM (bj HB.out hb)
       (try clear hb)
       (try clear hb2)
       (try clear hk)
       (try clear hi)
       obtain ⟨Ao19, co19, eo19⟩ := Kd.R_slice HO182.out
       (first | subst eo19 | (injection eo19 with f1_ f2_ f3_; have f4_ := f1_.symm; have f5_ := f3_.symm; clear f1_ f2_ f3_; subst f4_; subst f5_))
       refine hK.out _ _ (HS0_) (fun hHeld => ?_)
       clear hK K
       refine norm_ (a' := ?_) ?_ ?_
       rotate_left
       ·show Act.put _ (some 20) _ = _
        simp only [Act.put, sA, s0, sS, i64_w, i32_w]
        rfl
       refine pure_ (i := 6) (N := some 22) (v := ?_) (a' := ?_) #[true, true, true, true, true, true, true, true, false] rfl rfl (any_of HT_.out (by kernel_rfl)) (fun _ _ _ h => h) (Or.inl ⟨by rfl, ?_⟩) ?_ ?_
       rotate_left
       ·intro w'
        go_simp
        with_reducible rfl
       rotate_left
       ·simp only [Act.put, sA, s0, sS, i64_w, i32_w]
        rfl
       exact norm_ (by simp only [putAll, Act.put, List.setIfInBounds_toArray, List.set_cons_zero, List.set_cons_succ]) (hCont (.slice Ao17 t183.length co17, gb188) _ ⟨hHeld, (by exact lR <| Kd.R_mono HO174.out (fun _ hk => hk.2)), (by exact lR HO182.out), (by exact lR <| Kd.R_mono HO185.out (fun _ hk => hk.2)), (by exact lK BK171.out), (by exact lK BK188.out), GW188.out, GE188.out, NB171_188.out, NB188_171.out, (by exact jB HB.out)⟩)
     ·skip
      refine box_step ?hg (N := 7) ?hd (cs := #[.int .i64 0, .slice none 0 0]) (t := 27) ?hr ?_; (case hd => rfl); (case hg => rfl); (case hr => first | (go_simp; done) | (go_simp; rfl))
      intro gb188 hg w15 hbox hb
      have HS0_ := (hb.cell (World.block_lt_of_cell? _ _ (hHeld))).trans (hHeld)
      replace HO174 := aM (rb HO174.out hb)
      replace HO182 := aM (rb HO182.out hb)
      replace HR178 := aM (Kd.C_below (by repeat (first | (with_reducible exact HR178.out) | (with_reducible refine Kd.C_alloc ?_ _) | (with_reducible refine Kd.C_drewN ?_ _) | (with_reducible refine Kd.C_drew ?_) | exact HR178.out)) hb)
      have BK188 := aM (hbox)
      have GW188 := aM ((gz hg HB.out))
      have IGW188 : Nonempty _ := ⟨GW188.out⟩
      have GE188 := aM ((gz hg HB.out))
      have IGE188 : Nonempty _ := ⟨GE188.out⟩
      replace HB := aM (bj HB.out hb)
      have NB171_188 := aM ((neL hg (lK BK171.out) : gb171 ≠ gb188))
      have NB188_171 := aM ((neG hg (lK BK171.out) : gb188 ≠ gb171))
      replace BK171 := aM (bb BK171.out hb)
      clear hb hbox hg
      refine hK.out _ _ (HS0_) (fun hHeld => ?_)
      clear hK K
      refine norm_ (a' := ?_) ?_ ?_
      rotate_left
      ·show Act.put _ (some 7) _ = _
       simp only [Act.put, sA, s0, sS, i64_w, i32_w]
       rfl
      refine one_ (i := 0) (N := some 16) #[true, true, true, true, false, true, false, true, false] rfl rfl (one_of HT_.out (by kernel_rfl)) (by decide) (fun K hK => ?_)
      refine goes_ Tryd.func28 (by kernel_rfl) rfl #[] (by rfl) rfl rfl (by (try simp only [mA, mC, mN]); first | done | rfl | (simp only [ld, lt]; rfl)) ?_
      with_reducible refine (impl_codeWords.calls  t183 _ A5.out).mono ?_
      rintro e w16 ⟨v184, rfl, ho0, hb⟩
      have HS0_ := (hb.cell (World.block_lt_of_cell? _ _ (hHeld))).trans (hHeld)
      refine ⟨_, rfl, ?_⟩
      replace HO182 := aM (rb HO182.out hb)
      have HO185 := aM (Kd.R_lower (Kd.R_new' ho0 (rl HO174.out)) (below_size (by exact jB HB.out)))
      replace HO174 := aM (Kd.R_elder' (by exact lR HO174.out) (Kd.R_base ho0) hb)
      replace BK171 := aM (bb BK171.out hb)
      replace HR178 := aM (Kd.C_below (by repeat (first | (with_reducible exact HR178.out) | (with_reducible refine Kd.C_alloc ?_ _) | (with_reducible refine Kd.C_drewN ?_ _) | (with_reducible refine Kd.C_drew ?_) | exact HR178.out)) hb)
      replace BK188 := aM (bb BK188.out hb)
      replace HB := aM (bj HB.out hb)
      (try clear hb)
      (try clear hb2)
      (try clear hk)
      (try clear hi)
      (try clear ho0)
      obtain ⟨Ao17, co17, eo17⟩ := Kd.R_slice HO185.out
      (first | subst eo17 | (injection eo17 with f1_ f2_ f3_; have f4_ := f1_.symm; have f5_ := f3_.symm; clear f1_ f2_ f3_; subst f4_; subst f5_))
      refine hK.out _ _ (HS0_) (fun hHeld => ?_)
      clear hK K
      refine norm_ (a' := ?_) ?_ ?_
      rotate_left
      ·show Act.put _ (some 16) _ = _
       simp only [Act.put, sA, s0, sS, i64_w, i32_w]
       rfl
      refine one_ (i := 4) (N := some 20) #[true, true, true, true, true, true, false, true, false] rfl rfl (one_of HT_.out (by kernel_rfl)) (by decide) (fun K hK => ?_)
      refine goes_ Tryd.func35 (by kernel_rfl) rfl #[.slice Ao17 t183.length co17, .string (rdOf ByteArray.empty t172 0)] (by rfl) rfl rfl (by (try simp only [mA, mC, mN]); first | done | rfl | (simp only [ld, lt]; rfl)) ?_
      with_reducible refine (slices_Index_string_string.calls _ _ t183 (rdOf ByteArray.empty t172 0) t187 _ ?side1 ?side2 A7.out).mono ?_
      (case side1 => exact lC <| (Kd.R_reads' HO185.out).2.2)
      (case side2 => exact (Kd.R_reads' HO185.out).2.1)
      rintro e w18 ⟨rfl, hb⟩
      have HS0_ := (hb.cell (World.block_lt_of_cell? _ _ (hHeld))).trans (hHeld)
      refine ⟨_, rfl, ?_⟩
      replace HO174 := aM (rb HO174.out hb)
      replace HO182 := aM (rb HO182.out hb)
      replace HO185 := aM (rb HO185.out hb)
      replace BK171 := aM (bb BK171.out hb)
      replace HR178 := aM (Kd.C_below (by repeat (first | (with_reducible exact HR178.out) | (with_reducible refine Kd.C_alloc ?_ _) | (with_reducible refine Kd.C_drewN ?_ _) | (with_reducible refine Kd.C_drew ?_) | exact HR178.out)) hb)
      replace BK188 := aM (bb BK188.out hb)
      replace HB := aM (bj HB.out hb)
      (try clear hb)
      (try clear hb2)
      (try clear hk)
      (try clear hi)
      obtain ⟨Ao19, co19, eo19⟩ := Kd.R_slice HO182.out
      (first | subst eo19 | (injection eo19 with f1_ f2_ f3_; have f4_ := f1_.symm; have f5_ := f3_.symm; clear f1_ f2_ f3_; subst f4_; subst f5_))
      refine hK.out _ _ (HS0_) (fun hHeld => ?_)
      clear hK K
      refine norm_ (a' := ?_) ?_ ?_
      rotate_left
      ·show Act.put _ (some 20) _ = _
       simp only [Act.put, sA, s0, sS, i64_w, i32_w]
       rfl
      refine pure_ (i := 6) (N := some 22) (v := ?_) (a' := ?_) #[true, true, true, true, true, true, true, true, false] rfl rfl (any_of HT_.out (by kernel_rfl)) (fun _ _ _ h => h) (Or.inl ⟨by rfl, ?_⟩) ?_ ?_
      rotate_left
      ·intro w'
       go_simp
       with_reducible rfl
      rotate_left
      ·simp only [Act.put, sA, s0, sS, i64_w, i32_w]
       rfl
      exact norm_ (by simp only [putAll, Act.put, List.setIfInBounds_toArray, List.set_cons_zero, List.set_cons_succ]) (hCont (.slice Ao17 t183.length co17, gb188) _ ⟨hHeld, (by exact lR <| Kd.R_mono HO174.out (fun _ hk => hk.2)), (by exact lR HO182.out), (by exact lR <| Kd.R_mono HO185.out (fun _ hk => hk.2)), (by exact lK BK171.out), (by exact lK BK188.out), GW188.out, GE188.out, NB171_188.out, NB188_171.out, (by exact jB HB.out)⟩)
    rintro ⟨v184, gb188⟩ w20 ⟨hS_, h0_, h1_, h2_, h3_, h4_, h5_, h6_, h7_, h8_, h9_⟩
    replace HO174 : Aside0 (Kd.R Kd.string 9 w20 w.heap.size (fun k_ => some k_ ≠ v184.ownBlock) (.slice (some ad186) t172.length co12) t172) := ⟨h0_⟩
    replace HO182 : Aside0 (Kd.R (Kd.int .i64) 3 w20 w.heap.size (fun _ => True) (.slice Ao18 t179.length co18) t179) := ⟨h1_⟩
    have HO185 : Aside0 (Kd.R Kd.string 9 w20 w.heap.size (fun k_ => some k_ ≠ ownBlock (.slice (some ad186) t172.length co12)) v184 t183) := ⟨h2_⟩
    replace BK171 : Aside0 (w20.heap[gb171]? = some (.cells #[.int .i64 0, .slice none 0 0] 27 (0, 0))) := ⟨h3_⟩
    have BK188 : Aside0 (w20.heap[gb188]? = some (.cells #[.int .i64 0, .slice none 0 0] 27 (0, 0))) := ⟨h4_⟩
    have GW188 : Aside0 (w.heap.size ≤ gb188) := ⟨h5_⟩
    have IGW188 : Nonempty _ := ⟨GW188.out⟩
    have GE188 : Aside0 (w.heap.size ≤ gb188) := ⟨h6_⟩
    have IGE188 : Nonempty _ := ⟨GE188.out⟩
    have NB171_188 : Aside0 (gb171 ≠ gb188) := ⟨h7_⟩
    have NB188_171 : Aside0 (gb188 ≠ gb171) := ⟨h8_⟩
    replace HB : Aside0 (Below w.heap.size w w20) := ⟨h9_⟩
    clear HR178 h0_ h1_ h2_ h3_ h4_ h5_ h6_ h7_ h8_ h9_
    have hHeld : w20.cell? ad186 = some (.string (rdOf ByteArray.empty t172 0)) := hS_
    refine norm_ (a' := ?_) ?_ ?_
    rotate_left
    ·simp only [putAll, Act.put, List.setIfInBounds_toArray, List.set_cons_zero, List.set_cons_succ]
     rfl
    refine one_ (i := 8) (N := none) #[true, true, true, true, true, true, true, true, true] rfl rfl (one_of HT_.out (by kernel_rfl)) (by decide) (fun K hK => ?_)
    have hs21 : w20.cell? ⟨gb188, 0, none⟩ = some (.int .i64 0) := (blk_cell BK188.out 0).trans rfl
    have hfs21 := blk_frozen BK188.out 0
    have hns21_0 := NB171_188.out
    have hms21_0 := NB188_171.out
    have hs22 : w20.cell? ⟨gb188, 1, none⟩ = some (.slice none 0 0) := (blk_cell BK188.out 1).trans rfl
    have hfs22 := blk_frozen BK188.out 1
    have hns22_0 := NB171_188.out
    have hms22_0 := NB188_171.out
    refine skip_ (w1 := ?_) (by rfl) rfl ?_ ?_
    rotate_left
    ·go_simp
     rfl
    refine hK.out _ _ (((cell_far (p := ⟨gb188, _, none⟩) (by first | exact Kd.own_blk (Kd.R_ne HO174.out BK188.out (by decide)) | (rw [add_block]; exact Kd.own_blk (Kd.R_ne HO174.out BK188.out (by decide))) | (show (Addr.add _ _).block ≠ _; rw [add_block]; exact Kd.own_blk (Kd.R_ne HO174.out BK188.out (by decide))) | (dsimp only; exact Kd.own_blk (Kd.R_ne HO174.out BK188.out (by decide)))) _).trans (((cell_far (p := ⟨gb188, _, none⟩) (by first | exact Kd.own_blk (Kd.R_ne HO174.out BK188.out (by decide)) | (rw [add_block]; exact Kd.own_blk (Kd.R_ne HO174.out BK188.out (by decide))) | (show (Addr.add _ _).block ≠ _; rw [add_block]; exact Kd.own_blk (Kd.R_ne HO174.out BK188.out (by decide))) | (dsimp only; exact Kd.own_blk (Kd.R_ne HO174.out BK188.out (by decide)))) _).trans (hHeld))))) (fun hHeld => ?_)
    clear hK K
    refine done_ (done_of HT_.out (by kernel_rfl)) ?_
    have hnb23 := NB171_188.out
    have hnc23 := NB188_171.out
    obtain ⟨hcz24_0, hcz24_1, hfz24_0, hfz24_1⟩ := cf2 BK171.out
    try go_wp2
    refine bodyPost_ret (results_ct rfl _ _ gb171 27 #[.int .i64 0, .slice none 0 0] (0, 0) _ rfl (by (with_reducible repeat first | refine kN ?_ _ | refine kD ?_ | refine kA ?_ _); refine blk_put (cs := #[.int .i64 0, .slice none 0 0]) ?_ 1 _ rfl; (with_reducible repeat first | refine kN ?_ _ | refine kD ?_ | refine kA ?_ _); refine blk_put (cs := #[.int .i64 0, .slice none 0 0]) ?_ 0 _ rfl; (with_reducible repeat first | refine kN ?_ _ | refine kD ?_ | refine kA ?_ _); refine blk_far ?_ NB171_188.out _; (with_reducible repeat first | refine kN ?_ _ | refine kD ?_ | refine kA ?_ _); refine blk_far ?_ NB171_188.out _; exact lK BK171.out) Tryd.underlying27 rfl (by kernel_rfl)) rfl ?_
    exact ⟨_, er, by first | exact Kd.R_nil _ _ _ _ _ | exact Kd.N_nil _ _ _ _ _ | exact Kd.V_nil _ _ _ _ _ | exact Kd.Q_nil _ _ _ _ _ | exact Kd.S_nil _ _ _ _ _, by exact jB HB.out⟩
   ·rw [if_neg c8] at H
    have c8b0 := decide_eq_false c8
    have c8b1 : decide (120 < a0.size) = false := decide_eq_false (by omega)
    clear c8
    by_cases c25 : t180 = true
    ·subst c25
     rw [if_pos rfl] at H
     try dsimp only at H
     by_cases c26 : a0.toList = ([] : List UInt8)
     ·rw [if_pos c26] at H
      have c26b0 := beq_iff_eq.mpr c26
      have c26b1 := bne_eq_false_iff_eq.mpr c26
      clear c26
      simp only [Option.some.injEq, Prod.mk.injEq] at H
      obtain ⟨rfl, rfl, rfl⟩ := H
      go_enter Tryd.func15, Tryd.ntmps15
      try go_wp2_with (first | ((with_reducible refine gate_dst (N := 2) rfl ?_); refine bx 2 #[.int .i64 0, .slice none 0 0] 27 ?_; intro gb171 hg w27 hbox hb; have BK171 := aM (hbox); have GW171 := aM ((gz hg HB.out)); have IGW171 : Nonempty _ := ⟨GW171.out⟩; have GE171 := aM ((gz hg HB.out)); have IGE171 : Nonempty _ := ⟨GE171.out⟩; replace HB := aM (bj HB.out hb); clear hb hbox hg) | ((with_reducible refine gate_callee (f := 33) rfl ?_); refine gL (some 9) Tryd.func33 #[.string a0, .string (⟨#[32]⟩ : ByteArray)] ?_; (with_reducible refine (strings_Split.calls a0 (⟨#[32]⟩ : ByteArray) t172 _ A2.out (HTAB.out _ (by exact jB HB.out))).mono ?_); rintro e w28 ⟨v173, rfl, ho0, hb⟩; refine ⟨_, rfl, ?_⟩; have HO174 := aM (Kd.R_lower ho0 (below_size (by exact jB HB.out))); replace BK171 := aM (bb BK171.out hb); replace HB := aM (bj HB.out hb); (try clear hb); (try clear ho0); obtain ⟨Ao30, co30, eo30⟩ := Kd.R_slice HO174.out; subst eo30; have q29 : (1 : Int) ≤ ((t172.length : Int) : Int) := of_decide_eq_true (by first | (with_reducible assumption) | assumption); obtain ⟨i029, hi029, _, hsz29, _⟩ := info_parts info9; have hroom29 : t172.length ≤ co30 := (Kd.R_reads' HO174.out).2.1; have hC29 : Kd.C Kd.string _ Ao30 t172.length t172 := (Kd.R_reads' HO174.out).2.2; have hcut29 := cut_from (P := Tryd.prog) 41 9 .i64 Tryd.underlying41 hi029 1 hsz29 Ao30 t172.length co30 1 (by omega) q29; have hr29 := Kd.C_drop (m := (1 : Int).toNat) (c := co30) hC29 (by omega) hroom29; obtain ⟨A29, hA29⟩ : ∃ A1, A1 = (if co30 = (1 : Int).toNat then Ao30 else (Ao30 : Option Addr).map (·.add ((1 : Int).toNat * 1))) := ⟨_, rfl⟩; obtain ⟨c29, hc29⟩ : ∃ c1, c1 = co30 - (1 : Int).toNat := ⟨_, rfl⟩; have hy29 : y175.length = t172.length - (1 : Int).toNat := (by rw [Ny175.out, List.length_drop] <;> omega); rw [show (t172).drop (1 : Int).toNat = y175 from Ny175.out.symm] at hr29; replace hr29 : Kd.C Kd.string _ A29 y175.length y175 := (by rw [hA29]; exact hr29); rw [← hy29, ← hA29, ← hc29] at hcut29; have HR178 := aM hr29; have HC178 := aM (show y175.length ≤ c29 from by rw [hy29, hc29]; exact Nat.sub_le_sub_right hroom29 _); clear hr29 hC29 hroom29 hi029 hsz29 hc29; have KY29 := aM hy29; have KA29 := aM hA29; clear hy29 hA29; have KL29 := aM (show 1 ≤ t172.length from by omega); replace q29 := eq_true q29) | ((with_reducible refine gate_callee (f := 34) rfl ?_); refine gL (some 13) Tryd.func34 #[.slice A29 y175.length c29] ?_; (with_reducible refine (impl_numbersOf.calls k _ _ y175 t179 true _ ?side1 ?side2 A4.out (HTAB.out _ (by exact jB HB.out))).mono ?_); (case side1 => repeat (first | exact (by repeat (first | (with_reducible exact HR178.out) | (with_reducible refine Kd.C_alloc ?_ _) | (with_reducible refine Kd.C_drewN ?_ _) | (with_reducible refine Kd.C_drew ?_) | exact HR178.out)) | (with_reducible refine Kd.C_alloc ?_ _) | (with_reducible refine Kd.C_drewN ?_ _) | (with_reducible refine Kd.C_drew ?_))); (case side2 => exact HC178.out); rintro e w31 ⟨v181, rfl, ho0, hb⟩; refine ⟨_, rfl, ?_⟩; replace HO174 := aM (rb HO174.out hb); have HO182 := aM (Kd.R_lower ho0 (below_size (by exact jB HB.out))); replace BK171 := aM (bb BK171.out hb); replace HR178 := aM (Kd.C_below (by repeat (first | (with_reducible exact HR178.out) | (with_reducible refine Kd.C_alloc ?_ _) | (with_reducible refine Kd.C_drewN ?_ _) | (with_reducible refine Kd.C_drew ?_) | exact HR178.out)) hb); replace HB := aM (bj HB.out hb); (try clear hb); (try clear ho0)))
      replace HO174 := aM (Kd.R_drew HO174.out)
      replace HO182 := aM (Kd.R_drew HO182.out)
      replace BK171 := aM (blk_drew BK171.out)
      replace HR178 := aM (Kd.C_drew HR178.out)
      replace HB := aM (below_drew1 HB.out)
      have p186 : 0 ≤ (0 : Int) := (by omega)
      have q186 : 0 < (t172.length : Int) := of_decide_eq_true (by first | (with_reducible assumption) | assumption)
      obtain ⟨ad186, e186, hx186_0⟩ := Kd.at_string (Kd.R_reads' HO174.out).2.2 0 p186 q186
      cases e186
      have qi186 : (0 < t172.length) = True := eq_true (by omega)
      (try rw [show ((0 : Int)).toNat = 0 from rfl] at hx186_0)
      (try rw [Addr.add_zero'] at hx186_0)
      replace p186 := eq_true p186
      replace q186 := eq_true q186
      obtain ⟨Ao36, co36, eo36⟩ := Kd.R_slice HO182.out
      subst eo36
      refine start_ (n := 9) (S := fun w' => w'.cell? ad186 = some (.string (rdOf ByteArray.empty t172 0))) (ds := []) #[false, false, false, false, false, false, false, false, false] (by kernel_rfl) rfl rfl (hx186_0) (fun hHeld => ?_); refine with_tabW impl_ResRead.tab3 impl_ResRead.bits3 (fun HT_ HW_ => ?_)
      generalize w31.drew = w32 at HO174 HO182 BK171 HR178 HB hx186_0 hHeld ⊢
      refine pure_ (i := 1) (N := some 17) (v := ?_) (a' := ?_) #[false, true, false, false, false, false, false, false, false] rfl rfl (any_of HT_.out (by kernel_rfl)) (fun _ _ _ h => h) (Or.inl ⟨by rfl, ?_⟩) ?_ ?_
      rotate_left
      ·intro w'
       go_simp
       with_reducible rfl
      rotate_left
      ·simp only [Act.put, sA, s0, sS, i64_w, i32_w]
       rfl
      refine pure_ (i := 2) (N := some 18) (v := ?_) (a' := ?_) #[false, true, true, false, false, false, false, false, false] rfl rfl (any_of HT_.out (by kernel_rfl)) (fun _ _ _ h => h) (Or.inl ⟨by rfl, ?_⟩) ?_ ?_
      rotate_left
      ·intro w'
       go_simp
       with_reducible rfl
      rotate_left
      ·simp only [Act.put, sA, s0, sS, i64_w, i32_w]
       rfl
      refine pure_ (i := 5) (N := some 21) (v := ?_) (a' := ?_) #[false, true, true, false, false, true, false, false, false] rfl rfl (any_of HT_.out (by kernel_rfl)) (fun _ _ _ h => h) (Or.inl ⟨by rfl, ?_⟩) ?_ ?_
      rotate_left
      ·intro w'
       go_simp
       with_reducible rfl
      rotate_left
      ·simp only [Act.put, sA, s0, sS, i64_w, i32_w]
       rfl
      refine take_ (i := 3) (N := some 19) (v := ?_) (a' := ?_) #[false, true, true, true, false, true, false, false, false] rfl rfl (take_ofW HT_.out HW_.out (by kernel_rfl)) (fun _ _ _ h => h) (Or.inl ⟨by rfl, ?_⟩) hHeld ?_ ?_
      rotate_left
      ·intro w' s0
       go_simp
       with_reducible rfl
      rotate_left
      ·simp only [Act.put, sA, s0, sS, i64_w, i32_w]
       rfl
      refine join_ (σ := Value × Nat) 1 #[true, true, true, true, true, true, true, true, false] (fun s_ => [(16, s_.1), (20, .int .i64 t187), (7, .pointer (some ⟨s_.2, 0, none⟩)), (22, .agg #[.int .i64 t187, .slice Ao36 t179.length co36])]) (fun s_ w' => (w'.cell? ad186 = some (.string (rdOf ByteArray.empty t172 0))) ∧ (Kd.R Kd.string 9 w' w.heap.size (fun k_ => some k_ ≠ (s_.1 : Value).ownBlock) (.slice (some ad186) t172.length co30) t172) ∧ (Kd.R (Kd.int .i64) 3 w' w.heap.size (fun _ => True) (.slice Ao36 t179.length co36) t179) ∧ (Kd.R Kd.string 9 w' w.heap.size (fun k_ => some k_ ≠ ownBlock (.slice (some ad186) t172.length co30)) s_.1 t183) ∧ (w'.heap[gb171]? = some (.cells #[.int .i64 0, .slice none 0 0] 27 (0, 0))) ∧ (w'.heap[s_.2]? = some (.cells #[.int .i64 0, .slice none 0 0] 27 (0, 0))) ∧ (w.heap.size ≤ s_.2) ∧ (w.heap.size ≤ s_.2) ∧ (gb171 ≠ s_.2) ∧ (s_.2 ≠ gb171) ∧ (Below w.heap.size w w')) ?_ ?_
      rotate_left
      ·intro hCont
       refine two_ (i := 0) (j := 7) (Ni := some 16) (Nj := some 7) #[true, true, true, true, false, true, false, false, false] #[false, true, true, true, false, true, false, true, false] rfl rfl rfl rfl (two_of HT_.out (by kernel_rfl)) (by decide) (by decide) (fun K hK => ?_) (fun K hK => ?_)
       ·skip
        refine goes_ Tryd.func28 (by kernel_rfl) rfl #[] (by rfl) rfl rfl (by (try simp only [mA, mC, mN]); first | done | rfl | (simp only [ld, lt]; rfl)) ?_
        with_reducible refine (impl_codeWords.calls  t183 _ A5.out).mono ?_
        rintro e w33 ⟨v184, rfl, ho0, hb⟩
        have HS0_ := (hb.cell (World.block_lt_of_cell? _ _ (hHeld))).trans (hHeld)
        refine ⟨_, rfl, ?_⟩
        replace HO182 := aM (rb HO182.out hb)
        have HO185 := aM (Kd.R_lower (Kd.R_new' ho0 (rl HO174.out)) (below_size (by exact jB HB.out)))
        replace HO174 := aM (Kd.R_elder' (by exact lR HO174.out) (Kd.R_base ho0) hb)
        replace BK171 := aM (bb BK171.out hb)
        replace HR178 := aM (Kd.C_below (by repeat (first | (with_reducible exact HR178.out) | (with_reducible refine Kd.C_alloc ?_ _) | (with_reducible refine Kd.C_drewN ?_ _) | (with_reducible refine Kd.C_drew ?_) | exact HR178.out)) hb)
        replace HB := aM (bj HB.out hb)
        (try clear hb)
        (try clear hb2)
        (try clear hk)
        (try clear hi)
        (try clear ho0)
        obtain ⟨Ao34, co34, eo34⟩ := Kd.R_slice HO185.out
        (first | subst eo34 | (injection eo34 with f1_ f2_ f3_; have f4_ := f1_.symm; have f5_ := f3_.symm; clear f1_ f2_ f3_; subst f4_; subst f5_))
        refine hK.out _ _ (HS0_) (fun hHeld => ?_)
        clear hK K
        refine norm_ (a' := ?_) ?_ ?_
        rotate_left
        ·show Act.put _ (some 16) _ = _
         simp only [Act.put, sA, s0, sS, i64_w, i32_w]
         rfl
        refine two_ (i := 4) (j := 7) (Ni := some 20) (Nj := some 7) #[true, true, true, true, true, true, false, false, false] #[true, true, true, true, false, true, false, true, false] rfl rfl rfl rfl (two_of HT_.out (by kernel_rfl)) (by decide) (by decide) (fun K hK => ?_) (fun K hK => ?_)
        ·skip
         refine goes_ Tryd.func35 (by kernel_rfl) rfl #[.slice Ao34 t183.length co34, .string (rdOf ByteArray.empty t172 0)] (by rfl) rfl rfl (by (try simp only [mA, mC, mN]); first | done | rfl | (simp only [ld, lt]; rfl)) ?_
         with_reducible refine (slices_Index_string_string.calls _ _ t183 (rdOf ByteArray.empty t172 0) t187 _ ?side1 ?side2 A7.out).mono ?_
         (case side1 => exact lC <| (Kd.R_reads' HO185.out).2.2)
         (case side2 => exact (Kd.R_reads' HO185.out).2.1)
         rintro e w35 ⟨rfl, hb⟩
         have HS0_ := (hb.cell (World.block_lt_of_cell? _ _ (hHeld))).trans (hHeld)
         refine ⟨_, rfl, ?_⟩
         replace HO174 := aM (rb HO174.out hb)
         replace HO182 := aM (rb HO182.out hb)
         replace HO185 := aM (rb HO185.out hb)
         replace BK171 := aM (bb BK171.out hb)
         replace HR178 := aM (Kd.C_below (by repeat (first | (with_reducible exact HR178.out) | (with_reducible refine Kd.C_alloc ?_ _) | (with_reducible refine Kd.C_drewN ?_ _) | (with_reducible refine Kd.C_drew ?_) | exact HR178.out)) hb)
         replace HB := aM (bj HB.out hb)
         (try clear hb)
         (try clear hb2)
         (try clear hk)
         (try clear hi)
         obtain ⟨Ao36, co36, eo36⟩ := Kd.R_slice HO182.out
         (first | subst eo36 | (injection eo36 with f1_ f2_ f3_; have f4_ := f1_.symm; have f5_ := f3_.symm; clear f1_ f2_ f3_; subst f4_; subst f5_))
         refine hK.out _ _ (HS0_) (fun hHeld => ?_)
         clear hK K
         refine norm_ (a' := ?_) ?_ ?_
         rotate_left
         ·show Act.put _ (some 20) _ = _
          simp only [Act.put, sA, s0, sS, i64_w, i32_w]
          rfl
         refine pure_ (i := 6) (N := some 22) (v := ?_) (a' := ?_) #[true, true, true, true, true, true, true, false, false] rfl rfl (any_of HT_.out (by kernel_rfl)) (fun _ _ _ h => h) (Or.inl ⟨by rfl, ?_⟩) ?_ ?_
         rotate_left
         ·intro w'
          go_simp
          with_reducible rfl
         rotate_left
         ·simp only [Act.put, sA, s0, sS, i64_w, i32_w]
          rfl
         refine one_ (i := 7) (N := some 7) #[true, true, true, true, true, true, true, true, false] rfl rfl (one_of HT_.out (by kernel_rfl)) (by decide) (fun K hK => ?_)
         refine box_step ?hg (N := 7) ?hd (cs := #[.int .i64 0, .slice none 0 0]) (t := 27) ?hr ?_; (case hd => rfl); (case hg => rfl); (case hr => first | (go_simp; done) | (go_simp; rfl))
         intro gb188 hg w37 hbox hb
         have HS0_ := (hb.cell (World.block_lt_of_cell? _ _ (hHeld))).trans (hHeld)
         replace HO174 := aM (rb HO174.out hb)
         replace HO182 := aM (rb HO182.out hb)
         replace HO185 := aM (rb HO185.out hb)
         replace HR178 := aM (Kd.C_below (by repeat (first | (with_reducible exact HR178.out) | (with_reducible refine Kd.C_alloc ?_ _) | (with_reducible refine Kd.C_drewN ?_ _) | (with_reducible refine Kd.C_drew ?_) | exact HR178.out)) hb)
         have BK188 := aM (hbox)
         have GW188 := aM ((gz hg HB.out))
         have IGW188 : Nonempty _ := ⟨GW188.out⟩
         have GE188 := aM ((gz hg HB.out))
         have IGE188 : Nonempty _ := ⟨GE188.out⟩
         replace HB := aM (bj HB.out hb)
         have NB171_188 := aM ((neL hg (lK BK171.out) : gb171 ≠ gb188))
         have NB188_171 := aM ((neG hg (lK BK171.out) : gb188 ≠ gb171))
         replace BK171 := aM (bb BK171.out hb)
         clear hb hbox hg
         refine hK.out _ _ (HS0_) (fun hHeld => ?_)
         clear hK K
         refine norm_ (a' := ?_) ?_ ?_
         rotate_left
         ·show Act.put _ (some 7) _ = _
          simp only [Act.put, sA, s0, sS, i64_w, i32_w]
          rfl
         exact norm_ (by simp only [putAll, Act.put, List.setIfInBounds_toArray, List.set_cons_zero, List.set_cons_succ]) (hCont (.slice Ao34 t183.length co34, gb188) _ ⟨hHeld, (by exact lR <| Kd.R_mono HO174.out (fun _ hk => hk.2)), (by exact lR HO182.out), (by exact lR <| Kd.R_mono HO185.out (fun _ hk => hk.2)), (by exact lK BK171.out), (by exact lK BK188.out), GW188.out, GE188.out, NB171_188.out, NB188_171.out, (by exact jB HB.out)⟩)
        ·skip
         refine box_step ?hg (N := 7) ?hd (cs := #[.int .i64 0, .slice none 0 0]) (t := 27) ?hr ?_; (case hd => rfl); (case hg => rfl); (case hr => first | (go_simp; done) | (go_simp; rfl))
         intro gb188 hg w34 hbox hb
         have HS0_ := (hb.cell (World.block_lt_of_cell? _ _ (hHeld))).trans (hHeld)
         replace HO174 := aM (rb HO174.out hb)
         replace HO182 := aM (rb HO182.out hb)
         replace HO185 := aM (rb HO185.out hb)
         replace HR178 := aM (Kd.C_below (by repeat (first | (with_reducible exact HR178.out) | (with_reducible refine Kd.C_alloc ?_ _) | (with_reducible refine Kd.C_drewN ?_ _) | (with_reducible refine Kd.C_drew ?_) | exact HR178.out)) hb)
         have BK188 := aM (hbox)
         have GW188 := aM ((gz hg HB.out))
         have IGW188 : Nonempty _ := ⟨GW188.out⟩
         have GE188 := aM ((gz hg HB.out))
         have IGE188 : Nonempty _ := ⟨GE188.out⟩
         replace HB := aM (bj HB.out hb)
         have NB171_188 := aM ((neL hg (lK BK171.out) : gb171 ≠ gb188))
         have NB188_171 := aM ((neG hg (lK BK171.out) : gb188 ≠ gb171))
         replace BK171 := aM (bb BK171.out hb)
         clear hb hbox hg
         obtain ⟨Ao35, co35, eo35⟩ := Kd.R_slice HO185.out
         (first | subst eo35 | (injection eo35 with f1_ f2_ f3_; have f4_ := f1_.symm; have f5_ := f3_.symm; clear f1_ f2_ f3_; subst f4_; subst f5_))
         refine hK.out _ _ (HS0_) (fun hHeld => ?_)
         clear hK K
         refine norm_ (a' := ?_) ?_ ?_
         rotate_left
         ·show Act.put _ (some 7) _ = _
          simp only [Act.put, sA, s0, sS, i64_w, i32_w]
          rfl
         refine one_ (i := 4) (N := some 20) #[true, true, true, true, true, true, false, true, false] rfl rfl (one_of HT_.out (by kernel_rfl)) (by decide) (fun K hK => ?_)
         refine goes_ Tryd.func35 (by kernel_rfl) rfl #[.slice Ao35 t183.length co35, .string (rdOf ByteArray.empty t172 0)] (by rfl) rfl rfl (by (try simp only [mA, mC, mN]); first | done | rfl | (simp only [ld, lt]; rfl)) ?_
         with_reducible refine (slices_Index_string_string.calls _ _ t183 (rdOf ByteArray.empty t172 0) t187 _ ?side1 ?side2 A7.out).mono ?_
         (case side1 => exact lC <| (Kd.R_reads' HO185.out).2.2)
         (case side2 => exact (Kd.R_reads' HO185.out).2.1)
         rintro e w36 ⟨rfl, hb⟩
         have HS0_ := (hb.cell (World.block_lt_of_cell? _ _ (hHeld))).trans (hHeld)
         refine ⟨_, rfl, ?_⟩
         replace HO174 := aM (rb HO174.out hb)
         replace HO182 := aM (rb HO182.out hb)
         replace HO185 := aM (rb HO185.out hb)
         replace BK171 := aM (bb BK171.out hb)
         replace HR178 := aM (Kd.C_below (by repeat (first | (with_reducible exact HR178.out) | (with_reducible refine Kd.C_alloc ?_ _) | (with_reducible refine Kd.C_drewN ?_ _) | (with_reducible refine Kd.C_drew ?_) | exact HR178.out)) hb)
         replace BK188 := aM (bb BK188.out hb)
         replace HB := aM (bj HB.out hb)
         (try clear hb)
         (try clear hb2)
         (try clear hk)
         (try clear hi)
         obtain ⟨Ao37, co37, eo37⟩ := Kd.R_slice HO182.out
         (first | subst eo37 | (injection eo37 with f1_ f2_ f3_; have f4_ := f1_.symm; have f5_ := f3_.symm; clear f1_ f2_ f3_; subst f4_; subst f5_))
         refine hK.out _ _ (HS0_) (fun hHeld => ?_)
         clear hK K
         refine norm_ (a' := ?_) ?_ ?_
         rotate_left
         ·show Act.put _ (some 20) _ = _
          simp only [Act.put, sA, s0, sS, i64_w, i32_w]
          rfl
         refine pure_ (i := 6) (N := some 22) (v := ?_) (a' := ?_) #[true, true, true, true, true, true, true, true, false] rfl rfl (any_of HT_.out (by kernel_rfl)) (fun _ _ _ h => h) (Or.inl ⟨by rfl, ?_⟩) ?_ ?_
         rotate_left
         ·intro w'
          go_simp
          with_reducible rfl
         rotate_left
         ·simp only [Act.put, sA, s0, sS, i64_w, i32_w]
          rfl
         exact norm_ (by simp only [putAll, Act.put, List.setIfInBounds_toArray, List.set_cons_zero, List.set_cons_succ]) (hCont (.slice Ao35 t183.length co35, gb188) _ ⟨hHeld, (by exact lR <| Kd.R_mono HO174.out (fun _ hk => hk.2)), (by exact lR HO182.out), (by exact lR <| Kd.R_mono HO185.out (fun _ hk => hk.2)), (by exact lK BK171.out), (by exact lK BK188.out), GW188.out, GE188.out, NB171_188.out, NB188_171.out, (by exact jB HB.out)⟩)
       ·skip
        refine box_step ?hg (N := 7) ?hd (cs := #[.int .i64 0, .slice none 0 0]) (t := 27) ?hr ?_; (case hd => rfl); (case hg => rfl); (case hr => first | (go_simp; done) | (go_simp; rfl))
        intro gb188 hg w33 hbox hb
        have HS0_ := (hb.cell (World.block_lt_of_cell? _ _ (hHeld))).trans (hHeld)
        replace HO174 := aM (rb HO174.out hb)
        replace HO182 := aM (rb HO182.out hb)
        replace HR178 := aM (Kd.C_below (by repeat (first | (with_reducible exact HR178.out) | (with_reducible refine Kd.C_alloc ?_ _) | (with_reducible refine Kd.C_drewN ?_ _) | (with_reducible refine Kd.C_drew ?_) | exact HR178.out)) hb)
        have BK188 := aM (hbox)
        have GW188 := aM ((gz hg HB.out))
        have IGW188 : Nonempty _ := ⟨GW188.out⟩
        have GE188 := aM ((gz hg HB.out))
        have IGE188 : Nonempty _ := ⟨GE188.out⟩
        replace HB := aM (bj HB.out hb)
        have NB171_188 := aM ((neL hg (lK BK171.out) : gb171 ≠ gb188))
        have NB188_171 := aM ((neG hg (lK BK171.out) : gb188 ≠ gb171))
        replace BK171 := aM (bb BK171.out hb)
        clear hb hbox hg
        refine hK.out _ _ (HS0_) (fun hHeld => ?_)
        clear hK K
        refine norm_ (a' := ?_) ?_ ?_
        rotate_left
        ·show Act.put _ (some 7) _ = _
         simp only [Act.put, sA, s0, sS, i64_w, i32_w]
         rfl
        refine one_ (i := 0) (N := some 16) #[true, true, true, true, false, true, false, true, false] rfl rfl (one_of HT_.out (by kernel_rfl)) (by decide) (fun K hK => ?_)
        refine goes_ Tryd.func28 (by kernel_rfl) rfl #[] (by rfl) rfl rfl (by (try simp only [mA, mC, mN]); first | done | rfl | (simp only [ld, lt]; rfl)) ?_
        with_reducible refine (impl_codeWords.calls  t183 _ A5.out).mono ?_
        rintro e w34 ⟨v184, rfl, ho0, hb⟩
        have HS0_ := (hb.cell (World.block_lt_of_cell? _ _ (hHeld))).trans (hHeld)
        refine ⟨_, rfl, ?_⟩
        replace HO182 := aM (rb HO182.out hb)
        have HO185 := aM (Kd.R_lower (Kd.R_new' ho0 (rl HO174.out)) (below_size (by exact jB HB.out)))
        replace HO174 := aM (Kd.R_elder' (by exact lR HO174.out) (Kd.R_base ho0) hb)
        replace BK171 := aM (bb BK171.out hb)
        replace HR178 := aM (Kd.C_below (by repeat (first | (with_reducible exact HR178.out) | (with_reducible refine Kd.C_alloc ?_ _) | (with_reducible refine Kd.C_drewN ?_ _) | (with_reducible refine Kd.C_drew ?_) | exact HR178.out)) hb)
        replace BK188 := aM (bb BK188.out hb)
        replace HB := aM (bj HB.out hb)
        (try clear hb)
        (try clear hb2)
        (try clear hk)
        (try clear hi)
        (try clear ho0)
        obtain ⟨Ao35, co35, eo35⟩ := Kd.R_slice HO185.out
        (first | subst eo35 | (injection eo35 with f1_ f2_ f3_; have f4_ := f1_.symm; have f5_ := f3_.symm; clear f1_ f2_ f3_; subst f4_; subst f5_))
        refine hK.out _ _ (HS0_) (fun hHeld => ?_)
        clear hK K
        refine norm_ (a' := ?_) ?_ ?_
        rotate_left
        ·show Act.put _ (some 16) _ = _
         simp only [Act.put, sA, s0, sS, i64_w, i32_w]
         rfl
        refine one_ (i := 4) (N := some 20) #[true, true, true, true, true, true, false, true, false] rfl rfl (one_of HT_.out (by kernel_rfl)) (by decide) (fun K hK => ?_)
        refine goes_ Tryd.func35 (by kernel_rfl) rfl #[.slice Ao35 t183.length co35, .string (rdOf ByteArray.empty t172 0)] (by rfl) rfl rfl (by (try simp only [mA, mC, mN]); first | done | rfl | (simp only [ld, lt]; rfl)) ?_
        with_reducible refine (slices_Index_string_string.calls _ _ t183 (rdOf ByteArray.empty t172 0) t187 _ ?side1 ?side2 A7.out).mono ?_
        (case side1 => exact lC <| (Kd.R_reads' HO185.out).2.2)
        (case side2 => exact (Kd.R_reads' HO185.out).2.1)
        rintro e w36 ⟨rfl, hb⟩
        have HS0_ := (hb.cell (World.block_lt_of_cell? _ _ (hHeld))).trans (hHeld)
        refine ⟨_, rfl, ?_⟩
        replace HO174 := aM (rb HO174.out hb)
        replace HO182 := aM (rb HO182.out hb)
        replace HO185 := aM (rb HO185.out hb)
        replace BK171 := aM (bb BK171.out hb)
        replace HR178 := aM (Kd.C_below (by repeat (first | (with_reducible exact HR178.out) | (with_reducible refine Kd.C_alloc ?_ _) | (with_reducible refine Kd.C_drewN ?_ _) | (with_reducible refine Kd.C_drew ?_) | exact HR178.out)) hb)
        replace BK188 := aM (bb BK188.out hb)
        replace HB := aM (bj HB.out hb)
        (try clear hb)
        (try clear hb2)
        (try clear hk)
        (try clear hi)
        obtain ⟨Ao37, co37, eo37⟩ := Kd.R_slice HO182.out
        (first | subst eo37 | (injection eo37 with f1_ f2_ f3_; have f4_ := f1_.symm; have f5_ := f3_.symm; clear f1_ f2_ f3_; subst f4_; subst f5_))
        refine hK.out _ _ (HS0_) (fun hHeld => ?_)
        clear hK K
        refine norm_ (a' := ?_) ?_ ?_
        rotate_left
        ·show Act.put _ (some 20) _ = _
         simp only [Act.put, sA, s0, sS, i64_w, i32_w]
         rfl
        refine pure_ (i := 6) (N := some 22) (v := ?_) (a' := ?_) #[true, true, true, true, true, true, true, true, false] rfl rfl (any_of HT_.out (by kernel_rfl)) (fun _ _ _ h => h) (Or.inl ⟨by rfl, ?_⟩) ?_ ?_
        rotate_left
        ·intro w'
         go_simp
         with_reducible rfl
        rotate_left
        ·simp only [Act.put, sA, s0, sS, i64_w, i32_w]
         rfl
        exact norm_ (by simp only [putAll, Act.put, List.setIfInBounds_toArray, List.set_cons_zero, List.set_cons_succ]) (hCont (.slice Ao35 t183.length co35, gb188) _ ⟨hHeld, (by exact lR <| Kd.R_mono HO174.out (fun _ hk => hk.2)), (by exact lR HO182.out), (by exact lR <| Kd.R_mono HO185.out (fun _ hk => hk.2)), (by exact lK BK171.out), (by exact lK BK188.out), GW188.out, GE188.out, NB171_188.out, NB188_171.out, (by exact jB HB.out)⟩)
      rintro ⟨v184, gb188⟩ w38 ⟨hS_, h0_, h1_, h2_, h3_, h4_, h5_, h6_, h7_, h8_, h9_⟩
      replace HO174 : Aside0 (Kd.R Kd.string 9 w38 w.heap.size (fun k_ => some k_ ≠ v184.ownBlock) (.slice (some ad186) t172.length co30) t172) := ⟨h0_⟩
      replace HO182 : Aside0 (Kd.R (Kd.int .i64) 3 w38 w.heap.size (fun _ => True) (.slice Ao36 t179.length co36) t179) := ⟨h1_⟩
      have HO185 : Aside0 (Kd.R Kd.string 9 w38 w.heap.size (fun k_ => some k_ ≠ ownBlock (.slice (some ad186) t172.length co30)) v184 t183) := ⟨h2_⟩
      replace BK171 : Aside0 (w38.heap[gb171]? = some (.cells #[.int .i64 0, .slice none 0 0] 27 (0, 0))) := ⟨h3_⟩
      have BK188 : Aside0 (w38.heap[gb188]? = some (.cells #[.int .i64 0, .slice none 0 0] 27 (0, 0))) := ⟨h4_⟩
      have GW188 : Aside0 (w.heap.size ≤ gb188) := ⟨h5_⟩
      have IGW188 : Nonempty _ := ⟨GW188.out⟩
      have GE188 : Aside0 (w.heap.size ≤ gb188) := ⟨h6_⟩
      have IGE188 : Nonempty _ := ⟨GE188.out⟩
      have NB171_188 : Aside0 (gb171 ≠ gb188) := ⟨h7_⟩
      have NB188_171 : Aside0 (gb188 ≠ gb171) := ⟨h8_⟩
      replace HB : Aside0 (Below w.heap.size w w38) := ⟨h9_⟩
      clear HR178 h0_ h1_ h2_ h3_ h4_ h5_ h6_ h7_ h8_ h9_
      have hHeld : w38.cell? ad186 = some (.string (rdOf ByteArray.empty t172 0)) := hS_
      refine norm_ (a' := ?_) ?_ ?_
      rotate_left
      ·simp only [putAll, Act.put, List.setIfInBounds_toArray, List.set_cons_zero, List.set_cons_succ]
       rfl
      refine one_ (i := 8) (N := none) #[true, true, true, true, true, true, true, true, true] rfl rfl (one_of HT_.out (by kernel_rfl)) (by decide) (fun K hK => ?_)
      have hs39 : w38.cell? ⟨gb188, 0, none⟩ = some (.int .i64 0) := (blk_cell BK188.out 0).trans rfl
      have hfs39 := blk_frozen BK188.out 0
      have hns39_0 := NB171_188.out
      have hms39_0 := NB188_171.out
      have hs40 : w38.cell? ⟨gb188, 1, none⟩ = some (.slice none 0 0) := (blk_cell BK188.out 1).trans rfl
      have hfs40 := blk_frozen BK188.out 1
      have hns40_0 := NB171_188.out
      have hms40_0 := NB188_171.out
      refine skip_ (w1 := ?_) (by rfl) rfl ?_ ?_
      rotate_left
      ·go_simp
       rfl
      refine hK.out _ _ (((cell_far (p := ⟨gb188, _, none⟩) (by first | exact Kd.own_blk (Kd.R_ne HO174.out BK188.out (by decide)) | (rw [add_block]; exact Kd.own_blk (Kd.R_ne HO174.out BK188.out (by decide))) | (show (Addr.add _ _).block ≠ _; rw [add_block]; exact Kd.own_blk (Kd.R_ne HO174.out BK188.out (by decide))) | (dsimp only; exact Kd.own_blk (Kd.R_ne HO174.out BK188.out (by decide)))) _).trans (((cell_far (p := ⟨gb188, _, none⟩) (by first | exact Kd.own_blk (Kd.R_ne HO174.out BK188.out (by decide)) | (rw [add_block]; exact Kd.own_blk (Kd.R_ne HO174.out BK188.out (by decide))) | (show (Addr.add _ _).block ≠ _; rw [add_block]; exact Kd.own_blk (Kd.R_ne HO174.out BK188.out (by decide))) | (dsimp only; exact Kd.own_blk (Kd.R_ne HO174.out BK188.out (by decide)))) _).trans (hHeld))))) (fun hHeld => ?_)
      clear hK K
      refine done_ (done_of HT_.out (by kernel_rfl)) ?_
      have hnb41 := NB171_188.out
      have hnc41 := NB188_171.out
      obtain ⟨hcz42_0, hcz42_1, hfz42_0, hfz42_1⟩ := cf2 BK171.out
      try go_wp2
      refine bodyPost_ret (results_ct rfl _ _ gb171 27 #[.int .i64 0, .slice none 0 0] (0, 0) _ rfl (by (with_reducible repeat first | refine kN ?_ _ | refine kD ?_ | refine kA ?_ _); refine blk_put (cs := #[.int .i64 0, .slice none 0 0]) ?_ 1 _ rfl; (with_reducible repeat first | refine kN ?_ _ | refine kD ?_ | refine kA ?_ _); refine blk_put (cs := #[.int .i64 0, .slice none 0 0]) ?_ 0 _ rfl; (with_reducible repeat first | refine kN ?_ _ | refine kD ?_ | refine kA ?_ _); refine blk_far ?_ NB171_188.out _; (with_reducible repeat first | refine kN ?_ _ | refine kD ?_ | refine kA ?_ _); refine blk_far ?_ NB171_188.out _; exact lK BK171.out) Tryd.underlying27 rfl (by kernel_rfl)) rfl ?_
      exact ⟨_, er, by first | exact Kd.R_nil _ _ _ _ _ | exact Kd.N_nil _ _ _ _ _ | exact Kd.V_nil _ _ _ _ _ | exact Kd.Q_nil _ _ _ _ _ | exact Kd.S_nil _ _ _ _ _, by exact jB HB.out⟩
     ·rw [if_neg c26] at H
      have c26b0 := beq_eq_false_iff_ne.mpr c26
      have c26b1 := bne_iff_ne.mpr c26
      obtain ⟨t189, A43, H⟩ := bS H
      try dsimp only at H
      by_cases c44 : t189.toList = a0.toList
      ·rw [if_pos c44] at H
       have c44b0 := beq_iff_eq.mpr c44
       have c44b1 := bne_eq_false_iff_eq.mpr c44
       clear c44
       simp only [Option.some.injEq, Prod.mk.injEq] at H
       obtain ⟨rfl, rfl, rfl⟩ := H
       go_enter Tryd.func15, Tryd.ntmps15
       try go_wp2_with (first | ((with_reducible refine gate_dst (N := 2) rfl ?_); refine bx 2 #[.int .i64 0, .slice none 0 0] 27 ?_; intro gb171 hg w45 hbox hb; have BK171 := aM (hbox); have GW171 := aM ((gz hg HB.out)); have IGW171 : Nonempty _ := ⟨GW171.out⟩; have GE171 := aM ((gz hg HB.out)); have IGE171 : Nonempty _ := ⟨GE171.out⟩; replace HB := aM (bj HB.out hb); clear hb hbox hg) | ((with_reducible refine gate_callee (f := 33) rfl ?_); refine gL (some 9) Tryd.func33 #[.string a0, .string (⟨#[32]⟩ : ByteArray)] ?_; (with_reducible refine (strings_Split.calls a0 (⟨#[32]⟩ : ByteArray) t172 _ A2.out (HTAB.out _ (by exact jB HB.out))).mono ?_); rintro e w46 ⟨v173, rfl, ho0, hb⟩; refine ⟨_, rfl, ?_⟩; have HO174 := aM (Kd.R_lower ho0 (below_size (by exact jB HB.out))); replace BK171 := aM (bb BK171.out hb); replace HB := aM (bj HB.out hb); (try clear hb); (try clear ho0); obtain ⟨Ao48, co48, eo48⟩ := Kd.R_slice HO174.out; subst eo48; have q47 : (1 : Int) ≤ ((t172.length : Int) : Int) := of_decide_eq_true (by first | (with_reducible assumption) | assumption); obtain ⟨i047, hi047, _, hsz47, _⟩ := info_parts info9; have hroom47 : t172.length ≤ co48 := (Kd.R_reads' HO174.out).2.1; have hC47 : Kd.C Kd.string _ Ao48 t172.length t172 := (Kd.R_reads' HO174.out).2.2; have hcut47 := cut_from (P := Tryd.prog) 41 9 .i64 Tryd.underlying41 hi047 1 hsz47 Ao48 t172.length co48 1 (by omega) q47; have hr47 := Kd.C_drop (m := (1 : Int).toNat) (c := co48) hC47 (by omega) hroom47; obtain ⟨A47, hA47⟩ : ∃ A1, A1 = (if co48 = (1 : Int).toNat then Ao48 else (Ao48 : Option Addr).map (·.add ((1 : Int).toNat * 1))) := ⟨_, rfl⟩; obtain ⟨c47, hc47⟩ : ∃ c1, c1 = co48 - (1 : Int).toNat := ⟨_, rfl⟩; have hy47 : y175.length = t172.length - (1 : Int).toNat := (by rw [Ny175.out, List.length_drop] <;> omega); rw [show (t172).drop (1 : Int).toNat = y175 from Ny175.out.symm] at hr47; replace hr47 : Kd.C Kd.string _ A47 y175.length y175 := (by rw [hA47]; exact hr47); rw [← hy47, ← hA47, ← hc47] at hcut47; have HR178 := aM hr47; have HC178 := aM (show y175.length ≤ c47 from by rw [hy47, hc47]; exact Nat.sub_le_sub_right hroom47 _); clear hr47 hC47 hroom47 hi047 hsz47 hc47; have KY47 := aM hy47; have KA47 := aM hA47; clear hy47 hA47; have KL47 := aM (show 1 ≤ t172.length from by omega); replace q47 := eq_true q47) | ((with_reducible refine gate_callee (f := 34) rfl ?_); refine gL (some 13) Tryd.func34 #[.slice A47 y175.length c47] ?_; (with_reducible refine (impl_numbersOf.calls k _ _ y175 t179 true _ ?side1 ?side2 A4.out (HTAB.out _ (by exact jB HB.out))).mono ?_); (case side1 => repeat (first | exact (by repeat (first | (with_reducible exact HR178.out) | (with_reducible refine Kd.C_alloc ?_ _) | (with_reducible refine Kd.C_drewN ?_ _) | (with_reducible refine Kd.C_drew ?_) | exact HR178.out)) | (with_reducible refine Kd.C_alloc ?_ _) | (with_reducible refine Kd.C_drewN ?_ _) | (with_reducible refine Kd.C_drew ?_))); (case side2 => exact HC178.out); rintro e w49 ⟨v181, rfl, ho0, hb⟩; refine ⟨_, rfl, ?_⟩; replace HO174 := aM (rb HO174.out hb); have HO182 := aM (Kd.R_lower ho0 (below_size (by exact jB HB.out))); replace BK171 := aM (bb BK171.out hb); replace HR178 := aM (Kd.C_below (by repeat (first | (with_reducible exact HR178.out) | (with_reducible refine Kd.C_alloc ?_ _) | (with_reducible refine Kd.C_drewN ?_ _) | (with_reducible refine Kd.C_drew ?_) | exact HR178.out)) hb); replace HB := aM (bj HB.out hb); (try clear hb); (try clear ho0)))
       replace HO174 := aM (Kd.R_drew HO174.out)
       replace HO182 := aM (Kd.R_drew HO182.out)
       replace BK171 := aM (blk_drew BK171.out)
       replace HR178 := aM (Kd.C_drew HR178.out)
       replace HB := aM (below_drew1 HB.out)
       have p186 : 0 ≤ (0 : Int) := (by omega)
       have q186 : 0 < (t172.length : Int) := of_decide_eq_true (by first | (with_reducible assumption) | assumption)
       obtain ⟨ad186, e186, hx186_0⟩ := Kd.at_string (Kd.R_reads' HO174.out).2.2 0 p186 q186
       cases e186
       have qi186 : (0 < t172.length) = True := eq_true (by omega)
       (try rw [show ((0 : Int)).toNat = 0 from rfl] at hx186_0)
       (try rw [Addr.add_zero'] at hx186_0)
       replace p186 := eq_true p186
       replace q186 := eq_true q186
       obtain ⟨Ao54, co54, eo54⟩ := Kd.R_slice HO182.out
       subst eo54
       refine start_ (n := 9) (S := fun w' => w'.cell? ad186 = some (.string (rdOf ByteArray.empty t172 0))) (ds := []) #[false, false, false, false, false, false, false, false, false] (by kernel_rfl) rfl rfl (hx186_0) (fun hHeld => ?_); refine with_tabW impl_ResRead.tab3 impl_ResRead.bits3 (fun HT_ HW_ => ?_)
       generalize w49.drew = w50 at HO174 HO182 BK171 HR178 HB hx186_0 hHeld ⊢
       refine pure_ (i := 1) (N := some 17) (v := ?_) (a' := ?_) #[false, true, false, false, false, false, false, false, false] rfl rfl (any_of HT_.out (by kernel_rfl)) (fun _ _ _ h => h) (Or.inl ⟨by rfl, ?_⟩) ?_ ?_
       rotate_left
       ·intro w'
        go_simp
        with_reducible rfl
       rotate_left
       ·simp only [Act.put, sA, s0, sS, i64_w, i32_w]
        rfl
       refine pure_ (i := 2) (N := some 18) (v := ?_) (a' := ?_) #[false, true, true, false, false, false, false, false, false] rfl rfl (any_of HT_.out (by kernel_rfl)) (fun _ _ _ h => h) (Or.inl ⟨by rfl, ?_⟩) ?_ ?_
       rotate_left
       ·intro w'
        go_simp
        with_reducible rfl
       rotate_left
       ·simp only [Act.put, sA, s0, sS, i64_w, i32_w]
        rfl
       refine pure_ (i := 5) (N := some 21) (v := ?_) (a' := ?_) #[false, true, true, false, false, true, false, false, false] rfl rfl (any_of HT_.out (by kernel_rfl)) (fun _ _ _ h => h) (Or.inl ⟨by rfl, ?_⟩) ?_ ?_
       rotate_left
       ·intro w'
        go_simp
        with_reducible rfl
       rotate_left
       ·simp only [Act.put, sA, s0, sS, i64_w, i32_w]
        rfl
       refine take_ (i := 3) (N := some 19) (v := ?_) (a' := ?_) #[false, true, true, true, false, true, false, false, false] rfl rfl (take_ofW HT_.out HW_.out (by kernel_rfl)) (fun _ _ _ h => h) (Or.inl ⟨by rfl, ?_⟩) hHeld ?_ ?_
       rotate_left
       ·intro w' s0
        go_simp
        with_reducible rfl
       rotate_left
       ·simp only [Act.put, sA, s0, sS, i64_w, i32_w]
        rfl
       refine join_ (σ := Value × Nat) 1 #[true, true, true, true, true, true, true, true, false] (fun s_ => [(16, s_.1), (20, .int .i64 t187), (7, .pointer (some ⟨s_.2, 0, none⟩)), (22, .agg #[.int .i64 t187, .slice Ao54 t179.length co54])]) (fun s_ w' => (w'.cell? ad186 = some (.string (rdOf ByteArray.empty t172 0))) ∧ (Kd.R Kd.string 9 w' w.heap.size (fun k_ => some k_ ≠ (s_.1 : Value).ownBlock) (.slice (some ad186) t172.length co48) t172) ∧ (Kd.R (Kd.int .i64) 3 w' w.heap.size (fun _ => True) (.slice Ao54 t179.length co54) t179) ∧ (Kd.R Kd.string 9 w' w.heap.size (fun k_ => some k_ ≠ ownBlock (.slice (some ad186) t172.length co48)) s_.1 t183) ∧ (w'.heap[gb171]? = some (.cells #[.int .i64 0, .slice none 0 0] 27 (0, 0))) ∧ (w'.heap[s_.2]? = some (.cells #[.int .i64 0, .slice none 0 0] 27 (0, 0))) ∧ (w.heap.size ≤ s_.2) ∧ (w.heap.size ≤ s_.2) ∧ (gb171 ≠ s_.2) ∧ (s_.2 ≠ gb171) ∧ (Below w.heap.size w w')) ?_ ?_
       rotate_left
       ·intro hCont
        refine two_ (i := 0) (j := 7) (Ni := some 16) (Nj := some 7) #[true, true, true, true, false, true, false, false, false] #[false, true, true, true, false, true, false, true, false] rfl rfl rfl rfl (two_of HT_.out (by kernel_rfl)) (by decide) (by decide) (fun K hK => ?_) (fun K hK => ?_)
        ·skip
         refine goes_ Tryd.func28 (by kernel_rfl) rfl #[] (by rfl) rfl rfl (by (try simp only [mA, mC, mN]); first | done | rfl | (simp only [ld, lt]; rfl)) ?_
         with_reducible refine (impl_codeWords.calls  t183 _ A5.out).mono ?_
         rintro e w51 ⟨v184, rfl, ho0, hb⟩
         have HS0_ := (hb.cell (World.block_lt_of_cell? _ _ (hHeld))).trans (hHeld)
         refine ⟨_, rfl, ?_⟩
         replace HO182 := aM (rb HO182.out hb)
         have HO185 := aM (Kd.R_lower (Kd.R_new' ho0 (rl HO174.out)) (below_size (by exact jB HB.out)))
         replace HO174 := aM (Kd.R_elder' (by exact lR HO174.out) (Kd.R_base ho0) hb)
         replace BK171 := aM (bb BK171.out hb)
         replace HR178 := aM (Kd.C_below (by repeat (first | (with_reducible exact HR178.out) | (with_reducible refine Kd.C_alloc ?_ _) | (with_reducible refine Kd.C_drewN ?_ _) | (with_reducible refine Kd.C_drew ?_) | exact HR178.out)) hb)
         replace HB := aM (bj HB.out hb)
         (try clear hb)
         (try clear hb2)
         (try clear hk)
         (try clear hi)
         (try clear ho0)
         obtain ⟨Ao52, co52, eo52⟩ := Kd.R_slice HO185.out
         (first | subst eo52 | (injection eo52 with f1_ f2_ f3_; have f4_ := f1_.symm; have f5_ := f3_.symm; clear f1_ f2_ f3_; subst f4_; subst f5_))
         refine hK.out _ _ (HS0_) (fun hHeld => ?_)
         clear hK K
         refine norm_ (a' := ?_) ?_ ?_
         rotate_left
         ·show Act.put _ (some 16) _ = _
          simp only [Act.put, sA, s0, sS, i64_w, i32_w]
          rfl
         refine two_ (i := 4) (j := 7) (Ni := some 20) (Nj := some 7) #[true, true, true, true, true, true, false, false, false] #[true, true, true, true, false, true, false, true, false] rfl rfl rfl rfl (two_of HT_.out (by kernel_rfl)) (by decide) (by decide) (fun K hK => ?_) (fun K hK => ?_)
         ·skip
          refine goes_ Tryd.func35 (by kernel_rfl) rfl #[.slice Ao52 t183.length co52, .string (rdOf ByteArray.empty t172 0)] (by rfl) rfl rfl (by (try simp only [mA, mC, mN]); first | done | rfl | (simp only [ld, lt]; rfl)) ?_
          with_reducible refine (slices_Index_string_string.calls _ _ t183 (rdOf ByteArray.empty t172 0) t187 _ ?side1 ?side2 A7.out).mono ?_
          (case side1 => exact lC <| (Kd.R_reads' HO185.out).2.2)
          (case side2 => exact (Kd.R_reads' HO185.out).2.1)
          rintro e w53 ⟨rfl, hb⟩
          have HS0_ := (hb.cell (World.block_lt_of_cell? _ _ (hHeld))).trans (hHeld)
          refine ⟨_, rfl, ?_⟩
          replace HO174 := aM (rb HO174.out hb)
          replace HO182 := aM (rb HO182.out hb)
          replace HO185 := aM (rb HO185.out hb)
          replace BK171 := aM (bb BK171.out hb)
          replace HR178 := aM (Kd.C_below (by repeat (first | (with_reducible exact HR178.out) | (with_reducible refine Kd.C_alloc ?_ _) | (with_reducible refine Kd.C_drewN ?_ _) | (with_reducible refine Kd.C_drew ?_) | exact HR178.out)) hb)
          replace HB := aM (bj HB.out hb)
          (try clear hb)
          (try clear hb2)
          (try clear hk)
          (try clear hi)
          obtain ⟨Ao54, co54, eo54⟩ := Kd.R_slice HO182.out
          (first | subst eo54 | (injection eo54 with f1_ f2_ f3_; have f4_ := f1_.symm; have f5_ := f3_.symm; clear f1_ f2_ f3_; subst f4_; subst f5_))
          refine hK.out _ _ (HS0_) (fun hHeld => ?_)
          clear hK K
          refine norm_ (a' := ?_) ?_ ?_
          rotate_left
          ·show Act.put _ (some 20) _ = _
           simp only [Act.put, sA, s0, sS, i64_w, i32_w]
           rfl
          refine pure_ (i := 6) (N := some 22) (v := ?_) (a' := ?_) #[true, true, true, true, true, true, true, false, false] rfl rfl (any_of HT_.out (by kernel_rfl)) (fun _ _ _ h => h) (Or.inl ⟨by rfl, ?_⟩) ?_ ?_
          rotate_left
          ·intro w'
           go_simp
           with_reducible rfl
          rotate_left
          ·simp only [Act.put, sA, s0, sS, i64_w, i32_w]
           rfl
          refine one_ (i := 7) (N := some 7) #[true, true, true, true, true, true, true, true, false] rfl rfl (one_of HT_.out (by kernel_rfl)) (by decide) (fun K hK => ?_)
          refine box_step ?hg (N := 7) ?hd (cs := #[.int .i64 0, .slice none 0 0]) (t := 27) ?hr ?_; (case hd => rfl); (case hg => rfl); (case hr => first | (go_simp; done) | (go_simp; rfl))
          intro gb188 hg w55 hbox hb
          have HS0_ := (hb.cell (World.block_lt_of_cell? _ _ (hHeld))).trans (hHeld)
          replace HO174 := aM (rb HO174.out hb)
          replace HO182 := aM (rb HO182.out hb)
          replace HO185 := aM (rb HO185.out hb)
          replace HR178 := aM (Kd.C_below (by repeat (first | (with_reducible exact HR178.out) | (with_reducible refine Kd.C_alloc ?_ _) | (with_reducible refine Kd.C_drewN ?_ _) | (with_reducible refine Kd.C_drew ?_) | exact HR178.out)) hb)
          have BK188 := aM (hbox)
          have GW188 := aM ((gz hg HB.out))
          have IGW188 : Nonempty _ := ⟨GW188.out⟩
          have GE188 := aM ((gz hg HB.out))
          have IGE188 : Nonempty _ := ⟨GE188.out⟩
          replace HB := aM (bj HB.out hb)
          have NB171_188 := aM ((neL hg (lK BK171.out) : gb171 ≠ gb188))
          have NB188_171 := aM ((neG hg (lK BK171.out) : gb188 ≠ gb171))
          replace BK171 := aM (bb BK171.out hb)
          clear hb hbox hg
          refine hK.out _ _ (HS0_) (fun hHeld => ?_)
          clear hK K
          refine norm_ (a' := ?_) ?_ ?_
          rotate_left
          ·show Act.put _ (some 7) _ = _
           simp only [Act.put, sA, s0, sS, i64_w, i32_w]
           rfl
          exact norm_ (by simp only [putAll, Act.put, List.setIfInBounds_toArray, List.set_cons_zero, List.set_cons_succ]) (hCont (.slice Ao52 t183.length co52, gb188) _ ⟨hHeld, (by exact lR <| Kd.R_mono HO174.out (fun _ hk => hk.2)), (by exact lR HO182.out), (by exact lR <| Kd.R_mono HO185.out (fun _ hk => hk.2)), (by exact lK BK171.out), (by exact lK BK188.out), GW188.out, GE188.out, NB171_188.out, NB188_171.out, (by exact jB HB.out)⟩)
         ·skip
          refine box_step ?hg (N := 7) ?hd (cs := #[.int .i64 0, .slice none 0 0]) (t := 27) ?hr ?_; (case hd => rfl); (case hg => rfl); (case hr => first | (go_simp; done) | (go_simp; rfl))
          intro gb188 hg w52 hbox hb
          have HS0_ := (hb.cell (World.block_lt_of_cell? _ _ (hHeld))).trans (hHeld)
          replace HO174 := aM (rb HO174.out hb)
          replace HO182 := aM (rb HO182.out hb)
          replace HO185 := aM (rb HO185.out hb)
          replace HR178 := aM (Kd.C_below (by repeat (first | (with_reducible exact HR178.out) | (with_reducible refine Kd.C_alloc ?_ _) | (with_reducible refine Kd.C_drewN ?_ _) | (with_reducible refine Kd.C_drew ?_) | exact HR178.out)) hb)
          have BK188 := aM (hbox)
          have GW188 := aM ((gz hg HB.out))
          have IGW188 : Nonempty _ := ⟨GW188.out⟩
          have GE188 := aM ((gz hg HB.out))
          have IGE188 : Nonempty _ := ⟨GE188.out⟩
          replace HB := aM (bj HB.out hb)
          have NB171_188 := aM ((neL hg (lK BK171.out) : gb171 ≠ gb188))
          have NB188_171 := aM ((neG hg (lK BK171.out) : gb188 ≠ gb171))
          replace BK171 := aM (bb BK171.out hb)
          clear hb hbox hg
          obtain ⟨Ao53, co53, eo53⟩ := Kd.R_slice HO185.out
          (first | subst eo53 | (injection eo53 with f1_ f2_ f3_; have f4_ := f1_.symm; have f5_ := f3_.symm; clear f1_ f2_ f3_; subst f4_; subst f5_))
          refine hK.out _ _ (HS0_) (fun hHeld => ?_)
          clear hK K
          refine norm_ (a' := ?_) ?_ ?_
          rotate_left
          ·show Act.put _ (some 7) _ = _
           simp only [Act.put, sA, s0, sS, i64_w, i32_w]
           rfl
          refine one_ (i := 4) (N := some 20) #[true, true, true, true, true, true, false, true, false] rfl rfl (one_of HT_.out (by kernel_rfl)) (by decide) (fun K hK => ?_)
          refine goes_ Tryd.func35 (by kernel_rfl) rfl #[.slice Ao53 t183.length co53, .string (rdOf ByteArray.empty t172 0)] (by rfl) rfl rfl (by (try simp only [mA, mC, mN]); first | done | rfl | (simp only [ld, lt]; rfl)) ?_
          with_reducible refine (slices_Index_string_string.calls _ _ t183 (rdOf ByteArray.empty t172 0) t187 _ ?side1 ?side2 A7.out).mono ?_
          (case side1 => exact lC <| (Kd.R_reads' HO185.out).2.2)
          (case side2 => exact (Kd.R_reads' HO185.out).2.1)
          rintro e w54 ⟨rfl, hb⟩
          have HS0_ := (hb.cell (World.block_lt_of_cell? _ _ (hHeld))).trans (hHeld)
          refine ⟨_, rfl, ?_⟩
          replace HO174 := aM (rb HO174.out hb)
          replace HO182 := aM (rb HO182.out hb)
          replace HO185 := aM (rb HO185.out hb)
          replace BK171 := aM (bb BK171.out hb)
          replace HR178 := aM (Kd.C_below (by repeat (first | (with_reducible exact HR178.out) | (with_reducible refine Kd.C_alloc ?_ _) | (with_reducible refine Kd.C_drewN ?_ _) | (with_reducible refine Kd.C_drew ?_) | exact HR178.out)) hb)
          replace BK188 := aM (bb BK188.out hb)
          replace HB := aM (bj HB.out hb)
          (try clear hb)
          (try clear hb2)
          (try clear hk)
          (try clear hi)
          obtain ⟨Ao55, co55, eo55⟩ := Kd.R_slice HO182.out
          (first | subst eo55 | (injection eo55 with f1_ f2_ f3_; have f4_ := f1_.symm; have f5_ := f3_.symm; clear f1_ f2_ f3_; subst f4_; subst f5_))
          refine hK.out _ _ (HS0_) (fun hHeld => ?_)
          clear hK K
          refine norm_ (a' := ?_) ?_ ?_
          rotate_left
          ·show Act.put _ (some 20) _ = _
           simp only [Act.put, sA, s0, sS, i64_w, i32_w]
           rfl
          refine pure_ (i := 6) (N := some 22) (v := ?_) (a' := ?_) #[true, true, true, true, true, true, true, true, false] rfl rfl (any_of HT_.out (by kernel_rfl)) (fun _ _ _ h => h) (Or.inl ⟨by rfl, ?_⟩) ?_ ?_
          rotate_left
          ·intro w'
           go_simp
           with_reducible rfl
          rotate_left
          ·simp only [Act.put, sA, s0, sS, i64_w, i32_w]
           rfl
          exact norm_ (by simp only [putAll, Act.put, List.setIfInBounds_toArray, List.set_cons_zero, List.set_cons_succ]) (hCont (.slice Ao53 t183.length co53, gb188) _ ⟨hHeld, (by exact lR <| Kd.R_mono HO174.out (fun _ hk => hk.2)), (by exact lR HO182.out), (by exact lR <| Kd.R_mono HO185.out (fun _ hk => hk.2)), (by exact lK BK171.out), (by exact lK BK188.out), GW188.out, GE188.out, NB171_188.out, NB188_171.out, (by exact jB HB.out)⟩)
        ·skip
         refine box_step ?hg (N := 7) ?hd (cs := #[.int .i64 0, .slice none 0 0]) (t := 27) ?hr ?_; (case hd => rfl); (case hg => rfl); (case hr => first | (go_simp; done) | (go_simp; rfl))
         intro gb188 hg w51 hbox hb
         have HS0_ := (hb.cell (World.block_lt_of_cell? _ _ (hHeld))).trans (hHeld)
         replace HO174 := aM (rb HO174.out hb)
         replace HO182 := aM (rb HO182.out hb)
         replace HR178 := aM (Kd.C_below (by repeat (first | (with_reducible exact HR178.out) | (with_reducible refine Kd.C_alloc ?_ _) | (with_reducible refine Kd.C_drewN ?_ _) | (with_reducible refine Kd.C_drew ?_) | exact HR178.out)) hb)
         have BK188 := aM (hbox)
         have GW188 := aM ((gz hg HB.out))
         have IGW188 : Nonempty _ := ⟨GW188.out⟩
         have GE188 := aM ((gz hg HB.out))
         have IGE188 : Nonempty _ := ⟨GE188.out⟩
         replace HB := aM (bj HB.out hb)
         have NB171_188 := aM ((neL hg (lK BK171.out) : gb171 ≠ gb188))
         have NB188_171 := aM ((neG hg (lK BK171.out) : gb188 ≠ gb171))
         replace BK171 := aM (bb BK171.out hb)
         clear hb hbox hg
         refine hK.out _ _ (HS0_) (fun hHeld => ?_)
         clear hK K
         refine norm_ (a' := ?_) ?_ ?_
         rotate_left
         ·show Act.put _ (some 7) _ = _
          simp only [Act.put, sA, s0, sS, i64_w, i32_w]
          rfl
         refine one_ (i := 0) (N := some 16) #[true, true, true, true, false, true, false, true, false] rfl rfl (one_of HT_.out (by kernel_rfl)) (by decide) (fun K hK => ?_)
         refine goes_ Tryd.func28 (by kernel_rfl) rfl #[] (by rfl) rfl rfl (by (try simp only [mA, mC, mN]); first | done | rfl | (simp only [ld, lt]; rfl)) ?_
         with_reducible refine (impl_codeWords.calls  t183 _ A5.out).mono ?_
         rintro e w52 ⟨v184, rfl, ho0, hb⟩
         have HS0_ := (hb.cell (World.block_lt_of_cell? _ _ (hHeld))).trans (hHeld)
         refine ⟨_, rfl, ?_⟩
         replace HO182 := aM (rb HO182.out hb)
         have HO185 := aM (Kd.R_lower (Kd.R_new' ho0 (rl HO174.out)) (below_size (by exact jB HB.out)))
         replace HO174 := aM (Kd.R_elder' (by exact lR HO174.out) (Kd.R_base ho0) hb)
         replace BK171 := aM (bb BK171.out hb)
         replace HR178 := aM (Kd.C_below (by repeat (first | (with_reducible exact HR178.out) | (with_reducible refine Kd.C_alloc ?_ _) | (with_reducible refine Kd.C_drewN ?_ _) | (with_reducible refine Kd.C_drew ?_) | exact HR178.out)) hb)
         replace BK188 := aM (bb BK188.out hb)
         replace HB := aM (bj HB.out hb)
         (try clear hb)
         (try clear hb2)
         (try clear hk)
         (try clear hi)
         (try clear ho0)
         obtain ⟨Ao53, co53, eo53⟩ := Kd.R_slice HO185.out
         (first | subst eo53 | (injection eo53 with f1_ f2_ f3_; have f4_ := f1_.symm; have f5_ := f3_.symm; clear f1_ f2_ f3_; subst f4_; subst f5_))
         refine hK.out _ _ (HS0_) (fun hHeld => ?_)
         clear hK K
         refine norm_ (a' := ?_) ?_ ?_
         rotate_left
         ·show Act.put _ (some 16) _ = _
          simp only [Act.put, sA, s0, sS, i64_w, i32_w]
          rfl
         refine one_ (i := 4) (N := some 20) #[true, true, true, true, true, true, false, true, false] rfl rfl (one_of HT_.out (by kernel_rfl)) (by decide) (fun K hK => ?_)
         refine goes_ Tryd.func35 (by kernel_rfl) rfl #[.slice Ao53 t183.length co53, .string (rdOf ByteArray.empty t172 0)] (by rfl) rfl rfl (by (try simp only [mA, mC, mN]); first | done | rfl | (simp only [ld, lt]; rfl)) ?_
         with_reducible refine (slices_Index_string_string.calls _ _ t183 (rdOf ByteArray.empty t172 0) t187 _ ?side1 ?side2 A7.out).mono ?_
         (case side1 => exact lC <| (Kd.R_reads' HO185.out).2.2)
         (case side2 => exact (Kd.R_reads' HO185.out).2.1)
         rintro e w54 ⟨rfl, hb⟩
         have HS0_ := (hb.cell (World.block_lt_of_cell? _ _ (hHeld))).trans (hHeld)
         refine ⟨_, rfl, ?_⟩
         replace HO174 := aM (rb HO174.out hb)
         replace HO182 := aM (rb HO182.out hb)
         replace HO185 := aM (rb HO185.out hb)
         replace BK171 := aM (bb BK171.out hb)
         replace HR178 := aM (Kd.C_below (by repeat (first | (with_reducible exact HR178.out) | (with_reducible refine Kd.C_alloc ?_ _) | (with_reducible refine Kd.C_drewN ?_ _) | (with_reducible refine Kd.C_drew ?_) | exact HR178.out)) hb)
         replace BK188 := aM (bb BK188.out hb)
         replace HB := aM (bj HB.out hb)
         (try clear hb)
         (try clear hb2)
         (try clear hk)
         (try clear hi)
         obtain ⟨Ao55, co55, eo55⟩ := Kd.R_slice HO182.out
         (first | subst eo55 | (injection eo55 with f1_ f2_ f3_; have f4_ := f1_.symm; have f5_ := f3_.symm; clear f1_ f2_ f3_; subst f4_; subst f5_))
         refine hK.out _ _ (HS0_) (fun hHeld => ?_)
         clear hK K
         refine norm_ (a' := ?_) ?_ ?_
         rotate_left
         ·show Act.put _ (some 20) _ = _
          simp only [Act.put, sA, s0, sS, i64_w, i32_w]
          rfl
         refine pure_ (i := 6) (N := some 22) (v := ?_) (a' := ?_) #[true, true, true, true, true, true, true, true, false] rfl rfl (any_of HT_.out (by kernel_rfl)) (fun _ _ _ h => h) (Or.inl ⟨by rfl, ?_⟩) ?_ ?_
         rotate_left
         ·intro w'
          go_simp
          with_reducible rfl
         rotate_left
         ·simp only [Act.put, sA, s0, sS, i64_w, i32_w]
          rfl
         exact norm_ (by simp only [putAll, Act.put, List.setIfInBounds_toArray, List.set_cons_zero, List.set_cons_succ]) (hCont (.slice Ao53 t183.length co53, gb188) _ ⟨hHeld, (by exact lR <| Kd.R_mono HO174.out (fun _ hk => hk.2)), (by exact lR HO182.out), (by exact lR <| Kd.R_mono HO185.out (fun _ hk => hk.2)), (by exact lK BK171.out), (by exact lK BK188.out), GW188.out, GE188.out, NB171_188.out, NB188_171.out, (by exact jB HB.out)⟩)
       rintro ⟨v184, gb188⟩ w56 ⟨hS_, h0_, h1_, h2_, h3_, h4_, h5_, h6_, h7_, h8_, h9_⟩
       replace HO174 : Aside0 (Kd.R Kd.string 9 w56 w.heap.size (fun k_ => some k_ ≠ v184.ownBlock) (.slice (some ad186) t172.length co48) t172) := ⟨h0_⟩
       replace HO182 : Aside0 (Kd.R (Kd.int .i64) 3 w56 w.heap.size (fun _ => True) (.slice Ao54 t179.length co54) t179) := ⟨h1_⟩
       have HO185 : Aside0 (Kd.R Kd.string 9 w56 w.heap.size (fun k_ => some k_ ≠ ownBlock (.slice (some ad186) t172.length co48)) v184 t183) := ⟨h2_⟩
       replace BK171 : Aside0 (w56.heap[gb171]? = some (.cells #[.int .i64 0, .slice none 0 0] 27 (0, 0))) := ⟨h3_⟩
       have BK188 : Aside0 (w56.heap[gb188]? = some (.cells #[.int .i64 0, .slice none 0 0] 27 (0, 0))) := ⟨h4_⟩
       have GW188 : Aside0 (w.heap.size ≤ gb188) := ⟨h5_⟩
       have IGW188 : Nonempty _ := ⟨GW188.out⟩
       have GE188 : Aside0 (w.heap.size ≤ gb188) := ⟨h6_⟩
       have IGE188 : Nonempty _ := ⟨GE188.out⟩
       have NB171_188 : Aside0 (gb171 ≠ gb188) := ⟨h7_⟩
       have NB188_171 : Aside0 (gb188 ≠ gb171) := ⟨h8_⟩
       replace HB : Aside0 (Below w.heap.size w w56) := ⟨h9_⟩
       clear HR178 h0_ h1_ h2_ h3_ h4_ h5_ h6_ h7_ h8_ h9_
       have hHeld : w56.cell? ad186 = some (.string (rdOf ByteArray.empty t172 0)) := hS_
       refine norm_ (a' := ?_) ?_ ?_
       rotate_left
       ·simp only [putAll, Act.put, List.setIfInBounds_toArray, List.set_cons_zero, List.set_cons_succ]
        rfl
       refine one_ (i := 8) (N := none) #[true, true, true, true, true, true, true, true, true] rfl rfl (one_of HT_.out (by kernel_rfl)) (by decide) (fun K hK => ?_)
       have hs57 : w56.cell? ⟨gb188, 0, none⟩ = some (.int .i64 0) := (blk_cell BK188.out 0).trans rfl
       have hfs57 := blk_frozen BK188.out 0
       have hns57_0 := NB171_188.out
       have hms57_0 := NB188_171.out
       have hs58 : w56.cell? ⟨gb188, 1, none⟩ = some (.slice none 0 0) := (blk_cell BK188.out 1).trans rfl
       have hfs58 := blk_frozen BK188.out 1
       have hns58_0 := NB171_188.out
       have hms58_0 := NB188_171.out
       refine skip_ (w1 := ?_) (by rfl) rfl ?_ ?_
       rotate_left
       ·go_simp
        rfl
       refine hK.out _ _ (((cell_far (p := ⟨gb188, _, none⟩) (by first | exact Kd.own_blk (Kd.R_ne HO174.out BK188.out (by decide)) | (rw [add_block]; exact Kd.own_blk (Kd.R_ne HO174.out BK188.out (by decide))) | (show (Addr.add _ _).block ≠ _; rw [add_block]; exact Kd.own_blk (Kd.R_ne HO174.out BK188.out (by decide))) | (dsimp only; exact Kd.own_blk (Kd.R_ne HO174.out BK188.out (by decide)))) _).trans (((cell_far (p := ⟨gb188, _, none⟩) (by first | exact Kd.own_blk (Kd.R_ne HO174.out BK188.out (by decide)) | (rw [add_block]; exact Kd.own_blk (Kd.R_ne HO174.out BK188.out (by decide))) | (show (Addr.add _ _).block ≠ _; rw [add_block]; exact Kd.own_blk (Kd.R_ne HO174.out BK188.out (by decide))) | (dsimp only; exact Kd.own_blk (Kd.R_ne HO174.out BK188.out (by decide)))) _).trans (hHeld))))) (fun hHeld => ?_)
       clear hK K
       refine done_ (done_of HT_.out (by kernel_rfl)) ?_
       have hnb59 := NB188_171.out
       have hnc59 := NB171_188.out
       obtain ⟨hcz60_0, hcz60_1, hfz60_0, hfz60_1⟩ := cf2 BK188.out
       try go_wp2_with (first | (go_at_call 10; (with_reducible refine (impl_ResText.calls k t187 _ _ t179 t189 _ ?side1 ?side2 A43.out (HTAB.out _ (by exact jB HB.out))).mono ?_); (case side1 => refine (Kd.R_reads' (e := 3) (base := w.heap.size) (ok := fun k_ => True) (n := t179.length) (c := co54) ?_).2.2; exact (qp (R2 HO182.out BK188.out))); (case side2 => exact (Kd.R_reads' HO182.out).2.1); rintro e w61 ⟨rfl, hb⟩; replace HO174 := aM (Kd.R_below (qp (R2 HO174.out BK188.out)) hb); replace HO182 := aM (Kd.R_below (qp (R2 HO182.out BK188.out)) hb); replace HO185 := aM (Kd.R_below (qp (R2 HO185.out BK188.out)) hb); replace BK171 := aM (blk_below (f2 (lK BK171.out) NB171_188.out) hb); replace BK188 := aM (blk_below (g := gb188) (o := .cells #[.int .i64 t187, .slice Ao54 t179.length co54] 27 (0, 0)) (by exact p2 (lK BK188.out)) hb); replace HB := aM (bj HB.out hb); (try clear hb); obtain ⟨hcz62_0, hcz62_1, hfz62_0, hfz62_1⟩ := cf2 BK188.out; obtain ⟨hcz63_0, hcz63_1, hfz63_0, hfz63_1⟩ := cf2 BK171.out))
       refine bodyPost_ret (results_ct rfl _ _ gb171 27 #[.int .i64 t187, .slice Ao54 t179.length co54] (0, 0) _ rfl (by exact p2 (lK BK171.out)) Tryd.underlying27 rfl (by kernel_rfl)) rfl ?_
       exact ⟨_, er, by exact lR <| Kd.R_mono (Kd.R_far (p := ⟨gb171, 1, none⟩) (Kd.R_far (p := ⟨gb171, 0, none⟩) (Kd.R_types HO182.out BK171.out (by decide)) (fun _ hk => by first | exact hk.2 | exact fun e_ => hk.2 (e_.trans (ob _ _ _ _))) (.int .i64 t187)) (fun _ hk => by first | exact hk.2 | exact fun e_ => hk.2 (e_.trans (ob _ _ _ _))) (.slice Ao54 t179.length co54)) (fun _ hk => trivial), by exact jB HB.out⟩
      ·rw [if_neg c44] at H
       have c44b0 := beq_eq_false_iff_ne.mpr c44
       have c44b1 := bne_iff_ne.mpr c44
       simp only [Option.some.injEq, Prod.mk.injEq] at H
       obtain ⟨rfl, rfl, rfl⟩ := H
       go_enter Tryd.func15, Tryd.ntmps15
       try go_wp2_with (first | ((with_reducible refine gate_dst (N := 2) rfl ?_); refine bx 2 #[.int .i64 0, .slice none 0 0] 27 ?_; intro gb171 hg w64 hbox hb; have BK171 := aM (hbox); have GW171 := aM ((gz hg HB.out)); have IGW171 : Nonempty _ := ⟨GW171.out⟩; have GE171 := aM ((gz hg HB.out)); have IGE171 : Nonempty _ := ⟨GE171.out⟩; replace HB := aM (bj HB.out hb); clear hb hbox hg) | ((with_reducible refine gate_callee (f := 33) rfl ?_); refine gL (some 9) Tryd.func33 #[.string a0, .string (⟨#[32]⟩ : ByteArray)] ?_; (with_reducible refine (strings_Split.calls a0 (⟨#[32]⟩ : ByteArray) t172 _ A2.out (HTAB.out _ (by exact jB HB.out))).mono ?_); rintro e w65 ⟨v173, rfl, ho0, hb⟩; refine ⟨_, rfl, ?_⟩; have HO174 := aM (Kd.R_lower ho0 (below_size (by exact jB HB.out))); replace BK171 := aM (bb BK171.out hb); replace HB := aM (bj HB.out hb); (try clear hb); (try clear ho0); obtain ⟨Ao67, co67, eo67⟩ := Kd.R_slice HO174.out; subst eo67; have q66 : (1 : Int) ≤ ((t172.length : Int) : Int) := of_decide_eq_true (by first | (with_reducible assumption) | assumption); obtain ⟨i066, hi066, _, hsz66, _⟩ := info_parts info9; have hroom66 : t172.length ≤ co67 := (Kd.R_reads' HO174.out).2.1; have hC66 : Kd.C Kd.string _ Ao67 t172.length t172 := (Kd.R_reads' HO174.out).2.2; have hcut66 := cut_from (P := Tryd.prog) 41 9 .i64 Tryd.underlying41 hi066 1 hsz66 Ao67 t172.length co67 1 (by omega) q66; have hr66 := Kd.C_drop (m := (1 : Int).toNat) (c := co67) hC66 (by omega) hroom66; obtain ⟨A66, hA66⟩ : ∃ A1, A1 = (if co67 = (1 : Int).toNat then Ao67 else (Ao67 : Option Addr).map (·.add ((1 : Int).toNat * 1))) := ⟨_, rfl⟩; obtain ⟨c66, hc66⟩ : ∃ c1, c1 = co67 - (1 : Int).toNat := ⟨_, rfl⟩; have hy66 : y175.length = t172.length - (1 : Int).toNat := (by rw [Ny175.out, List.length_drop] <;> omega); rw [show (t172).drop (1 : Int).toNat = y175 from Ny175.out.symm] at hr66; replace hr66 : Kd.C Kd.string _ A66 y175.length y175 := (by rw [hA66]; exact hr66); rw [← hy66, ← hA66, ← hc66] at hcut66; have HR178 := aM hr66; have HC178 := aM (show y175.length ≤ c66 from by rw [hy66, hc66]; exact Nat.sub_le_sub_right hroom66 _); clear hr66 hC66 hroom66 hi066 hsz66 hc66; have KY66 := aM hy66; have KA66 := aM hA66; clear hy66 hA66; have KL66 := aM (show 1 ≤ t172.length from by omega); replace q66 := eq_true q66) | ((with_reducible refine gate_callee (f := 34) rfl ?_); refine gL (some 13) Tryd.func34 #[.slice A66 y175.length c66] ?_; (with_reducible refine (impl_numbersOf.calls k _ _ y175 t179 true _ ?side1 ?side2 A4.out (HTAB.out _ (by exact jB HB.out))).mono ?_); (case side1 => repeat (first | exact (by repeat (first | (with_reducible exact HR178.out) | (with_reducible refine Kd.C_alloc ?_ _) | (with_reducible refine Kd.C_drewN ?_ _) | (with_reducible refine Kd.C_drew ?_) | exact HR178.out)) | (with_reducible refine Kd.C_alloc ?_ _) | (with_reducible refine Kd.C_drewN ?_ _) | (with_reducible refine Kd.C_drew ?_))); (case side2 => exact HC178.out); rintro e w68 ⟨v181, rfl, ho0, hb⟩; refine ⟨_, rfl, ?_⟩; replace HO174 := aM (rb HO174.out hb); have HO182 := aM (Kd.R_lower ho0 (below_size (by exact jB HB.out))); replace BK171 := aM (bb BK171.out hb); replace HR178 := aM (Kd.C_below (by repeat (first | (with_reducible exact HR178.out) | (with_reducible refine Kd.C_alloc ?_ _) | (with_reducible refine Kd.C_drewN ?_ _) | (with_reducible refine Kd.C_drew ?_) | exact HR178.out)) hb); replace HB := aM (bj HB.out hb); (try clear hb); (try clear ho0)))
       replace HO174 := aM (Kd.R_drew HO174.out)
       replace HO182 := aM (Kd.R_drew HO182.out)
       replace BK171 := aM (blk_drew BK171.out)
       replace HR178 := aM (Kd.C_drew HR178.out)
       replace HB := aM (below_drew1 HB.out)
       have p186 : 0 ≤ (0 : Int) := (by omega)
       have q186 : 0 < (t172.length : Int) := of_decide_eq_true (by first | (with_reducible assumption) | assumption)
       obtain ⟨ad186, e186, hx186_0⟩ := Kd.at_string (Kd.R_reads' HO174.out).2.2 0 p186 q186
       cases e186
       have qi186 : (0 < t172.length) = True := eq_true (by omega)
       (try rw [show ((0 : Int)).toNat = 0 from rfl] at hx186_0)
       (try rw [Addr.add_zero'] at hx186_0)
       replace p186 := eq_true p186
       replace q186 := eq_true q186
       obtain ⟨Ao73, co73, eo73⟩ := Kd.R_slice HO182.out
       subst eo73
       refine start_ (n := 9) (S := fun w' => w'.cell? ad186 = some (.string (rdOf ByteArray.empty t172 0))) (ds := []) #[false, false, false, false, false, false, false, false, false] (by kernel_rfl) rfl rfl (hx186_0) (fun hHeld => ?_); refine with_tabW impl_ResRead.tab3 impl_ResRead.bits3 (fun HT_ HW_ => ?_)
       generalize w68.drew = w69 at HO174 HO182 BK171 HR178 HB hx186_0 hHeld ⊢
       refine pure_ (i := 1) (N := some 17) (v := ?_) (a' := ?_) #[false, true, false, false, false, false, false, false, false] rfl rfl (any_of HT_.out (by kernel_rfl)) (fun _ _ _ h => h) (Or.inl ⟨by rfl, ?_⟩) ?_ ?_
       rotate_left
       ·intro w'
        go_simp
        with_reducible rfl
       rotate_left
       ·simp only [Act.put, sA, s0, sS, i64_w, i32_w]
        rfl
       refine pure_ (i := 2) (N := some 18) (v := ?_) (a' := ?_) #[false, true, true, false, false, false, false, false, false] rfl rfl (any_of HT_.out (by kernel_rfl)) (fun _ _ _ h => h) (Or.inl ⟨by rfl, ?_⟩) ?_ ?_
       rotate_left
       ·intro w'
        go_simp
        with_reducible rfl
       rotate_left
       ·simp only [Act.put, sA, s0, sS, i64_w, i32_w]
        rfl
       refine pure_ (i := 5) (N := some 21) (v := ?_) (a' := ?_) #[false, true, true, false, false, true, false, false, false] rfl rfl (any_of HT_.out (by kernel_rfl)) (fun _ _ _ h => h) (Or.inl ⟨by rfl, ?_⟩) ?_ ?_
       rotate_left
       ·intro w'
        go_simp
        with_reducible rfl
       rotate_left
       ·simp only [Act.put, sA, s0, sS, i64_w, i32_w]
        rfl
       refine take_ (i := 3) (N := some 19) (v := ?_) (a' := ?_) #[false, true, true, true, false, true, false, false, false] rfl rfl (take_ofW HT_.out HW_.out (by kernel_rfl)) (fun _ _ _ h => h) (Or.inl ⟨by rfl, ?_⟩) hHeld ?_ ?_
       rotate_left
       ·intro w' s0
        go_simp
        with_reducible rfl
       rotate_left
       ·simp only [Act.put, sA, s0, sS, i64_w, i32_w]
        rfl
       refine join_ (σ := Value × Nat) 1 #[true, true, true, true, true, true, true, true, false] (fun s_ => [(16, s_.1), (20, .int .i64 t187), (7, .pointer (some ⟨s_.2, 0, none⟩)), (22, .agg #[.int .i64 t187, .slice Ao73 t179.length co73])]) (fun s_ w' => (w'.cell? ad186 = some (.string (rdOf ByteArray.empty t172 0))) ∧ (Kd.R Kd.string 9 w' w.heap.size (fun k_ => some k_ ≠ (s_.1 : Value).ownBlock) (.slice (some ad186) t172.length co67) t172) ∧ (Kd.R (Kd.int .i64) 3 w' w.heap.size (fun _ => True) (.slice Ao73 t179.length co73) t179) ∧ (Kd.R Kd.string 9 w' w.heap.size (fun k_ => some k_ ≠ ownBlock (.slice (some ad186) t172.length co67)) s_.1 t183) ∧ (w'.heap[gb171]? = some (.cells #[.int .i64 0, .slice none 0 0] 27 (0, 0))) ∧ (w'.heap[s_.2]? = some (.cells #[.int .i64 0, .slice none 0 0] 27 (0, 0))) ∧ (w.heap.size ≤ s_.2) ∧ (w.heap.size ≤ s_.2) ∧ (gb171 ≠ s_.2) ∧ (s_.2 ≠ gb171) ∧ (Below w.heap.size w w')) ?_ ?_
       rotate_left
       ·intro hCont
        refine two_ (i := 0) (j := 7) (Ni := some 16) (Nj := some 7) #[true, true, true, true, false, true, false, false, false] #[false, true, true, true, false, true, false, true, false] rfl rfl rfl rfl (two_of HT_.out (by kernel_rfl)) (by decide) (by decide) (fun K hK => ?_) (fun K hK => ?_)
        ·skip
         refine goes_ Tryd.func28 (by kernel_rfl) rfl #[] (by rfl) rfl rfl (by (try simp only [mA, mC, mN]); first | done | rfl | (simp only [ld, lt]; rfl)) ?_
         with_reducible refine (impl_codeWords.calls  t183 _ A5.out).mono ?_
         rintro e w70 ⟨v184, rfl, ho0, hb⟩
         have HS0_ := (hb.cell (World.block_lt_of_cell? _ _ (hHeld))).trans (hHeld)
         refine ⟨_, rfl, ?_⟩
         replace HO182 := aM (rb HO182.out hb)
         have HO185 := aM (Kd.R_lower (Kd.R_new' ho0 (rl HO174.out)) (below_size (by exact jB HB.out)))
         replace HO174 := aM (Kd.R_elder' (by exact lR HO174.out) (Kd.R_base ho0) hb)
         replace BK171 := aM (bb BK171.out hb)
         replace HR178 := aM (Kd.C_below (by repeat (first | (with_reducible exact HR178.out) | (with_reducible refine Kd.C_alloc ?_ _) | (with_reducible refine Kd.C_drewN ?_ _) | (with_reducible refine Kd.C_drew ?_) | exact HR178.out)) hb)
         replace HB := aM (bj HB.out hb)
         (try clear hb)
         (try clear hb2)
         (try clear hk)
         (try clear hi)
         (try clear ho0)
         obtain ⟨Ao71, co71, eo71⟩ := Kd.R_slice HO185.out
         (first | subst eo71 | (injection eo71 with f1_ f2_ f3_; have f4_ := f1_.symm; have f5_ := f3_.symm; clear f1_ f2_ f3_; subst f4_; subst f5_))
         refine hK.out _ _ (HS0_) (fun hHeld => ?_)
         clear hK K
         refine norm_ (a' := ?_) ?_ ?_
         rotate_left
         ·show Act.put _ (some 16) _ = _
          simp only [Act.put, sA, s0, sS, i64_w, i32_w]
          rfl
         refine two_ (i := 4) (j := 7) (Ni := some 20) (Nj := some 7) #[true, true, true, true, true, true, false, false, false] #[true, true, true, true, false, true, false, true, false] rfl rfl rfl rfl (two_of HT_.out (by kernel_rfl)) (by decide) (by decide) (fun K hK => ?_) (fun K hK => ?_)
         ·skip
          refine goes_ Tryd.func35 (by kernel_rfl) rfl #[.slice Ao71 t183.length co71, .string (rdOf ByteArray.empty t172 0)] (by rfl) rfl rfl (by (try simp only [mA, mC, mN]); first | done | rfl | (simp only [ld, lt]; rfl)) ?_
          with_reducible refine (slices_Index_string_string.calls _ _ t183 (rdOf ByteArray.empty t172 0) t187 _ ?side1 ?side2 A7.out).mono ?_
          (case side1 => exact lC <| (Kd.R_reads' HO185.out).2.2)
          (case side2 => exact (Kd.R_reads' HO185.out).2.1)
          rintro e w72 ⟨rfl, hb⟩
          have HS0_ := (hb.cell (World.block_lt_of_cell? _ _ (hHeld))).trans (hHeld)
          refine ⟨_, rfl, ?_⟩
          replace HO174 := aM (rb HO174.out hb)
          replace HO182 := aM (rb HO182.out hb)
          replace HO185 := aM (rb HO185.out hb)
          replace BK171 := aM (bb BK171.out hb)
          replace HR178 := aM (Kd.C_below (by repeat (first | (with_reducible exact HR178.out) | (with_reducible refine Kd.C_alloc ?_ _) | (with_reducible refine Kd.C_drewN ?_ _) | (with_reducible refine Kd.C_drew ?_) | exact HR178.out)) hb)
          replace HB := aM (bj HB.out hb)
          (try clear hb)
          (try clear hb2)
          (try clear hk)
          (try clear hi)
          obtain ⟨Ao73, co73, eo73⟩ := Kd.R_slice HO182.out
          (first | subst eo73 | (injection eo73 with f1_ f2_ f3_; have f4_ := f1_.symm; have f5_ := f3_.symm; clear f1_ f2_ f3_; subst f4_; subst f5_))
          refine hK.out _ _ (HS0_) (fun hHeld => ?_)
          clear hK K
          refine norm_ (a' := ?_) ?_ ?_
          rotate_left
          ·show Act.put _ (some 20) _ = _
           simp only [Act.put, sA, s0, sS, i64_w, i32_w]
           rfl
          refine pure_ (i := 6) (N := some 22) (v := ?_) (a' := ?_) #[true, true, true, true, true, true, true, false, false] rfl rfl (any_of HT_.out (by kernel_rfl)) (fun _ _ _ h => h) (Or.inl ⟨by rfl, ?_⟩) ?_ ?_
          rotate_left
          ·intro w'
           go_simp
           with_reducible rfl
          rotate_left
          ·simp only [Act.put, sA, s0, sS, i64_w, i32_w]
           rfl
          refine one_ (i := 7) (N := some 7) #[true, true, true, true, true, true, true, true, false] rfl rfl (one_of HT_.out (by kernel_rfl)) (by decide) (fun K hK => ?_)
          refine box_step ?hg (N := 7) ?hd (cs := #[.int .i64 0, .slice none 0 0]) (t := 27) ?hr ?_; (case hd => rfl); (case hg => rfl); (case hr => first | (go_simp; done) | (go_simp; rfl))
          intro gb188 hg w74 hbox hb
          have HS0_ := (hb.cell (World.block_lt_of_cell? _ _ (hHeld))).trans (hHeld)
          replace HO174 := aM (rb HO174.out hb)
          replace HO182 := aM (rb HO182.out hb)
          replace HO185 := aM (rb HO185.out hb)
          replace HR178 := aM (Kd.C_below (by repeat (first | (with_reducible exact HR178.out) | (with_reducible refine Kd.C_alloc ?_ _) | (with_reducible refine Kd.C_drewN ?_ _) | (with_reducible refine Kd.C_drew ?_) | exact HR178.out)) hb)
          have BK188 := aM (hbox)
          have GW188 := aM ((gz hg HB.out))
          have IGW188 : Nonempty _ := ⟨GW188.out⟩
          have GE188 := aM ((gz hg HB.out))
          have IGE188 : Nonempty _ := ⟨GE188.out⟩
          replace HB := aM (bj HB.out hb)
          have NB171_188 := aM ((neL hg (lK BK171.out) : gb171 ≠ gb188))
          have NB188_171 := aM ((neG hg (lK BK171.out) : gb188 ≠ gb171))
          replace BK171 := aM (bb BK171.out hb)
          clear hb hbox hg
          refine hK.out _ _ (HS0_) (fun hHeld => ?_)
          clear hK K
          refine norm_ (a' := ?_) ?_ ?_
          rotate_left
          ·show Act.put _ (some 7) _ = _
           simp only [Act.put, sA, s0, sS, i64_w, i32_w]
           rfl
          exact norm_ (by simp only [putAll, Act.put, List.setIfInBounds_toArray, List.set_cons_zero, List.set_cons_succ]) (hCont (.slice Ao71 t183.length co71, gb188) _ ⟨hHeld, (by exact lR <| Kd.R_mono HO174.out (fun _ hk => hk.2)), (by exact lR HO182.out), (by exact lR <| Kd.R_mono HO185.out (fun _ hk => hk.2)), (by exact lK BK171.out), (by exact lK BK188.out), GW188.out, GE188.out, NB171_188.out, NB188_171.out, (by exact jB HB.out)⟩)
         ·skip
          refine box_step ?hg (N := 7) ?hd (cs := #[.int .i64 0, .slice none 0 0]) (t := 27) ?hr ?_; (case hd => rfl); (case hg => rfl); (case hr => first | (go_simp; done) | (go_simp; rfl))
          intro gb188 hg w71 hbox hb
          have HS0_ := (hb.cell (World.block_lt_of_cell? _ _ (hHeld))).trans (hHeld)
          replace HO174 := aM (rb HO174.out hb)
          replace HO182 := aM (rb HO182.out hb)
          replace HO185 := aM (rb HO185.out hb)
          replace HR178 := aM (Kd.C_below (by repeat (first | (with_reducible exact HR178.out) | (with_reducible refine Kd.C_alloc ?_ _) | (with_reducible refine Kd.C_drewN ?_ _) | (with_reducible refine Kd.C_drew ?_) | exact HR178.out)) hb)
          have BK188 := aM (hbox)
          have GW188 := aM ((gz hg HB.out))
          have IGW188 : Nonempty _ := ⟨GW188.out⟩
          have GE188 := aM ((gz hg HB.out))
          have IGE188 : Nonempty _ := ⟨GE188.out⟩
          replace HB := aM (bj HB.out hb)
          have NB171_188 := aM ((neL hg (lK BK171.out) : gb171 ≠ gb188))
          have NB188_171 := aM ((neG hg (lK BK171.out) : gb188 ≠ gb171))
          replace BK171 := aM (bb BK171.out hb)
          clear hb hbox hg
          obtain ⟨Ao72, co72, eo72⟩ := Kd.R_slice HO185.out
          (first | subst eo72 | (injection eo72 with f1_ f2_ f3_; have f4_ := f1_.symm; have f5_ := f3_.symm; clear f1_ f2_ f3_; subst f4_; subst f5_))
          refine hK.out _ _ (HS0_) (fun hHeld => ?_)
          clear hK K
          refine norm_ (a' := ?_) ?_ ?_
          rotate_left
          ·show Act.put _ (some 7) _ = _
           simp only [Act.put, sA, s0, sS, i64_w, i32_w]
           rfl
          refine one_ (i := 4) (N := some 20) #[true, true, true, true, true, true, false, true, false] rfl rfl (one_of HT_.out (by kernel_rfl)) (by decide) (fun K hK => ?_)
          refine goes_ Tryd.func35 (by kernel_rfl) rfl #[.slice Ao72 t183.length co72, .string (rdOf ByteArray.empty t172 0)] (by rfl) rfl rfl (by (try simp only [mA, mC, mN]); first | done | rfl | (simp only [ld, lt]; rfl)) ?_
          with_reducible refine (slices_Index_string_string.calls _ _ t183 (rdOf ByteArray.empty t172 0) t187 _ ?side1 ?side2 A7.out).mono ?_
          (case side1 => exact lC <| (Kd.R_reads' HO185.out).2.2)
          (case side2 => exact (Kd.R_reads' HO185.out).2.1)
          rintro e w73 ⟨rfl, hb⟩
          have HS0_ := (hb.cell (World.block_lt_of_cell? _ _ (hHeld))).trans (hHeld)
          refine ⟨_, rfl, ?_⟩
          replace HO174 := aM (rb HO174.out hb)
          replace HO182 := aM (rb HO182.out hb)
          replace HO185 := aM (rb HO185.out hb)
          replace BK171 := aM (bb BK171.out hb)
          replace HR178 := aM (Kd.C_below (by repeat (first | (with_reducible exact HR178.out) | (with_reducible refine Kd.C_alloc ?_ _) | (with_reducible refine Kd.C_drewN ?_ _) | (with_reducible refine Kd.C_drew ?_) | exact HR178.out)) hb)
          replace BK188 := aM (bb BK188.out hb)
          replace HB := aM (bj HB.out hb)
          (try clear hb)
          (try clear hb2)
          (try clear hk)
          (try clear hi)
          obtain ⟨Ao74, co74, eo74⟩ := Kd.R_slice HO182.out
          (first | subst eo74 | (injection eo74 with f1_ f2_ f3_; have f4_ := f1_.symm; have f5_ := f3_.symm; clear f1_ f2_ f3_; subst f4_; subst f5_))
          refine hK.out _ _ (HS0_) (fun hHeld => ?_)
          clear hK K
          refine norm_ (a' := ?_) ?_ ?_
          rotate_left
          ·show Act.put _ (some 20) _ = _
           simp only [Act.put, sA, s0, sS, i64_w, i32_w]
           rfl
          refine pure_ (i := 6) (N := some 22) (v := ?_) (a' := ?_) #[true, true, true, true, true, true, true, true, false] rfl rfl (any_of HT_.out (by kernel_rfl)) (fun _ _ _ h => h) (Or.inl ⟨by rfl, ?_⟩) ?_ ?_
          rotate_left
          ·intro w'
           go_simp
           with_reducible rfl
          rotate_left
          ·simp only [Act.put, sA, s0, sS, i64_w, i32_w]
           rfl
          exact norm_ (by simp only [putAll, Act.put, List.setIfInBounds_toArray, List.set_cons_zero, List.set_cons_succ]) (hCont (.slice Ao72 t183.length co72, gb188) _ ⟨hHeld, (by exact lR <| Kd.R_mono HO174.out (fun _ hk => hk.2)), (by exact lR HO182.out), (by exact lR <| Kd.R_mono HO185.out (fun _ hk => hk.2)), (by exact lK BK171.out), (by exact lK BK188.out), GW188.out, GE188.out, NB171_188.out, NB188_171.out, (by exact jB HB.out)⟩)
        ·skip
         refine box_step ?hg (N := 7) ?hd (cs := #[.int .i64 0, .slice none 0 0]) (t := 27) ?hr ?_; (case hd => rfl); (case hg => rfl); (case hr => first | (go_simp; done) | (go_simp; rfl))
         intro gb188 hg w70 hbox hb
         have HS0_ := (hb.cell (World.block_lt_of_cell? _ _ (hHeld))).trans (hHeld)
         replace HO174 := aM (rb HO174.out hb)
         replace HO182 := aM (rb HO182.out hb)
         replace HR178 := aM (Kd.C_below (by repeat (first | (with_reducible exact HR178.out) | (with_reducible refine Kd.C_alloc ?_ _) | (with_reducible refine Kd.C_drewN ?_ _) | (with_reducible refine Kd.C_drew ?_) | exact HR178.out)) hb)
         have BK188 := aM (hbox)
         have GW188 := aM ((gz hg HB.out))
         have IGW188 : Nonempty _ := ⟨GW188.out⟩
         have GE188 := aM ((gz hg HB.out))
         have IGE188 : Nonempty _ := ⟨GE188.out⟩
         replace HB := aM (bj HB.out hb)
         have NB171_188 := aM ((neL hg (lK BK171.out) : gb171 ≠ gb188))
         have NB188_171 := aM ((neG hg (lK BK171.out) : gb188 ≠ gb171))
         replace BK171 := aM (bb BK171.out hb)
         clear hb hbox hg
         refine hK.out _ _ (HS0_) (fun hHeld => ?_)
         clear hK K
         refine norm_ (a' := ?_) ?_ ?_
         rotate_left
         ·show Act.put _ (some 7) _ = _
          simp only [Act.put, sA, s0, sS, i64_w, i32_w]
          rfl
         refine one_ (i := 0) (N := some 16) #[true, true, true, true, false, true, false, true, false] rfl rfl (one_of HT_.out (by kernel_rfl)) (by decide) (fun K hK => ?_)
         refine goes_ Tryd.func28 (by kernel_rfl) rfl #[] (by rfl) rfl rfl (by (try simp only [mA, mC, mN]); first | done | rfl | (simp only [ld, lt]; rfl)) ?_
         with_reducible refine (impl_codeWords.calls  t183 _ A5.out).mono ?_
         rintro e w71 ⟨v184, rfl, ho0, hb⟩
         have HS0_ := (hb.cell (World.block_lt_of_cell? _ _ (hHeld))).trans (hHeld)
         refine ⟨_, rfl, ?_⟩
         replace HO182 := aM (rb HO182.out hb)
         have HO185 := aM (Kd.R_lower (Kd.R_new' ho0 (rl HO174.out)) (below_size (by exact jB HB.out)))
         replace HO174 := aM (Kd.R_elder' (by exact lR HO174.out) (Kd.R_base ho0) hb)
         replace BK171 := aM (bb BK171.out hb)
         replace HR178 := aM (Kd.C_below (by repeat (first | (with_reducible exact HR178.out) | (with_reducible refine Kd.C_alloc ?_ _) | (with_reducible refine Kd.C_drewN ?_ _) | (with_reducible refine Kd.C_drew ?_) | exact HR178.out)) hb)
         replace BK188 := aM (bb BK188.out hb)
         replace HB := aM (bj HB.out hb)
         (try clear hb)
         (try clear hb2)
         (try clear hk)
         (try clear hi)
         (try clear ho0)
         obtain ⟨Ao72, co72, eo72⟩ := Kd.R_slice HO185.out
         (first | subst eo72 | (injection eo72 with f1_ f2_ f3_; have f4_ := f1_.symm; have f5_ := f3_.symm; clear f1_ f2_ f3_; subst f4_; subst f5_))
         refine hK.out _ _ (HS0_) (fun hHeld => ?_)
         clear hK K
         refine norm_ (a' := ?_) ?_ ?_
         rotate_left
         ·show Act.put _ (some 16) _ = _
          simp only [Act.put, sA, s0, sS, i64_w, i32_w]
          rfl
         refine one_ (i := 4) (N := some 20) #[true, true, true, true, true, true, false, true, false] rfl rfl (one_of HT_.out (by kernel_rfl)) (by decide) (fun K hK => ?_)
         refine goes_ Tryd.func35 (by kernel_rfl) rfl #[.slice Ao72 t183.length co72, .string (rdOf ByteArray.empty t172 0)] (by rfl) rfl rfl (by (try simp only [mA, mC, mN]); first | done | rfl | (simp only [ld, lt]; rfl)) ?_
         with_reducible refine (slices_Index_string_string.calls _ _ t183 (rdOf ByteArray.empty t172 0) t187 _ ?side1 ?side2 A7.out).mono ?_
         (case side1 => exact lC <| (Kd.R_reads' HO185.out).2.2)
         (case side2 => exact (Kd.R_reads' HO185.out).2.1)
         rintro e w73 ⟨rfl, hb⟩
         have HS0_ := (hb.cell (World.block_lt_of_cell? _ _ (hHeld))).trans (hHeld)
         refine ⟨_, rfl, ?_⟩
         replace HO174 := aM (rb HO174.out hb)
         replace HO182 := aM (rb HO182.out hb)
         replace HO185 := aM (rb HO185.out hb)
         replace BK171 := aM (bb BK171.out hb)
         replace HR178 := aM (Kd.C_below (by repeat (first | (with_reducible exact HR178.out) | (with_reducible refine Kd.C_alloc ?_ _) | (with_reducible refine Kd.C_drewN ?_ _) | (with_reducible refine Kd.C_drew ?_) | exact HR178.out)) hb)
         replace BK188 := aM (bb BK188.out hb)
         replace HB := aM (bj HB.out hb)
         (try clear hb)
         (try clear hb2)
         (try clear hk)
         (try clear hi)
         obtain ⟨Ao74, co74, eo74⟩ := Kd.R_slice HO182.out
         (first | subst eo74 | (injection eo74 with f1_ f2_ f3_; have f4_ := f1_.symm; have f5_ := f3_.symm; clear f1_ f2_ f3_; subst f4_; subst f5_))
         refine hK.out _ _ (HS0_) (fun hHeld => ?_)
         clear hK K
         refine norm_ (a' := ?_) ?_ ?_
         rotate_left
         ·show Act.put _ (some 20) _ = _
          simp only [Act.put, sA, s0, sS, i64_w, i32_w]
          rfl
         refine pure_ (i := 6) (N := some 22) (v := ?_) (a' := ?_) #[true, true, true, true, true, true, true, true, false] rfl rfl (any_of HT_.out (by kernel_rfl)) (fun _ _ _ h => h) (Or.inl ⟨by rfl, ?_⟩) ?_ ?_
         rotate_left
         ·intro w'
          go_simp
          with_reducible rfl
         rotate_left
         ·simp only [Act.put, sA, s0, sS, i64_w, i32_w]
          rfl
         exact norm_ (by simp only [putAll, Act.put, List.setIfInBounds_toArray, List.set_cons_zero, List.set_cons_succ]) (hCont (.slice Ao72 t183.length co72, gb188) _ ⟨hHeld, (by exact lR <| Kd.R_mono HO174.out (fun _ hk => hk.2)), (by exact lR HO182.out), (by exact lR <| Kd.R_mono HO185.out (fun _ hk => hk.2)), (by exact lK BK171.out), (by exact lK BK188.out), GW188.out, GE188.out, NB171_188.out, NB188_171.out, (by exact jB HB.out)⟩)
       rintro ⟨v184, gb188⟩ w75 ⟨hS_, h0_, h1_, h2_, h3_, h4_, h5_, h6_, h7_, h8_, h9_⟩
       replace HO174 : Aside0 (Kd.R Kd.string 9 w75 w.heap.size (fun k_ => some k_ ≠ v184.ownBlock) (.slice (some ad186) t172.length co67) t172) := ⟨h0_⟩
       replace HO182 : Aside0 (Kd.R (Kd.int .i64) 3 w75 w.heap.size (fun _ => True) (.slice Ao73 t179.length co73) t179) := ⟨h1_⟩
       have HO185 : Aside0 (Kd.R Kd.string 9 w75 w.heap.size (fun k_ => some k_ ≠ ownBlock (.slice (some ad186) t172.length co67)) v184 t183) := ⟨h2_⟩
       replace BK171 : Aside0 (w75.heap[gb171]? = some (.cells #[.int .i64 0, .slice none 0 0] 27 (0, 0))) := ⟨h3_⟩
       have BK188 : Aside0 (w75.heap[gb188]? = some (.cells #[.int .i64 0, .slice none 0 0] 27 (0, 0))) := ⟨h4_⟩
       have GW188 : Aside0 (w.heap.size ≤ gb188) := ⟨h5_⟩
       have IGW188 : Nonempty _ := ⟨GW188.out⟩
       have GE188 : Aside0 (w.heap.size ≤ gb188) := ⟨h6_⟩
       have IGE188 : Nonempty _ := ⟨GE188.out⟩
       have NB171_188 : Aside0 (gb171 ≠ gb188) := ⟨h7_⟩
       have NB188_171 : Aside0 (gb188 ≠ gb171) := ⟨h8_⟩
       replace HB : Aside0 (Below w.heap.size w w75) := ⟨h9_⟩
       clear HR178 h0_ h1_ h2_ h3_ h4_ h5_ h6_ h7_ h8_ h9_
       have hHeld : w75.cell? ad186 = some (.string (rdOf ByteArray.empty t172 0)) := hS_
       refine norm_ (a' := ?_) ?_ ?_
       rotate_left
       ·simp only [putAll, Act.put, List.setIfInBounds_toArray, List.set_cons_zero, List.set_cons_succ]
        rfl
       refine one_ (i := 8) (N := none) #[true, true, true, true, true, true, true, true, true] rfl rfl (one_of HT_.out (by kernel_rfl)) (by decide) (fun K hK => ?_)
       have hs76 : w75.cell? ⟨gb188, 0, none⟩ = some (.int .i64 0) := (blk_cell BK188.out 0).trans rfl
       have hfs76 := blk_frozen BK188.out 0
       have hns76_0 := NB171_188.out
       have hms76_0 := NB188_171.out
       have hs77 : w75.cell? ⟨gb188, 1, none⟩ = some (.slice none 0 0) := (blk_cell BK188.out 1).trans rfl
       have hfs77 := blk_frozen BK188.out 1
       have hns77_0 := NB171_188.out
       have hms77_0 := NB188_171.out
       refine skip_ (w1 := ?_) (by rfl) rfl ?_ ?_
       rotate_left
       ·go_simp
        rfl
       refine hK.out _ _ (((cell_far (p := ⟨gb188, _, none⟩) (by first | exact Kd.own_blk (Kd.R_ne HO174.out BK188.out (by decide)) | (rw [add_block]; exact Kd.own_blk (Kd.R_ne HO174.out BK188.out (by decide))) | (show (Addr.add _ _).block ≠ _; rw [add_block]; exact Kd.own_blk (Kd.R_ne HO174.out BK188.out (by decide))) | (dsimp only; exact Kd.own_blk (Kd.R_ne HO174.out BK188.out (by decide)))) _).trans (((cell_far (p := ⟨gb188, _, none⟩) (by first | exact Kd.own_blk (Kd.R_ne HO174.out BK188.out (by decide)) | (rw [add_block]; exact Kd.own_blk (Kd.R_ne HO174.out BK188.out (by decide))) | (show (Addr.add _ _).block ≠ _; rw [add_block]; exact Kd.own_blk (Kd.R_ne HO174.out BK188.out (by decide))) | (dsimp only; exact Kd.own_blk (Kd.R_ne HO174.out BK188.out (by decide)))) _).trans (hHeld))))) (fun hHeld => ?_)
       clear hK K
       refine done_ (done_of HT_.out (by kernel_rfl)) ?_
       have hnb78 := NB188_171.out
       have hnc78 := NB171_188.out
       obtain ⟨hcz79_0, hcz79_1, hfz79_0, hfz79_1⟩ := cf2 BK188.out
       try go_wp2_with (first | (go_at_call 10; (with_reducible refine (impl_ResText.calls k t187 _ _ t179 t189 _ ?side1 ?side2 A43.out (HTAB.out _ (by exact jB HB.out))).mono ?_); (case side1 => refine (Kd.R_reads' (e := 3) (base := w.heap.size) (ok := fun k_ => True) (n := t179.length) (c := co73) ?_).2.2; exact (qp (R2 HO182.out BK188.out))); (case side2 => exact (Kd.R_reads' HO182.out).2.1); rintro e w80 ⟨rfl, hb⟩; replace HO174 := aM (Kd.R_below (qp (R2 HO174.out BK188.out)) hb); replace HO182 := aM (Kd.R_below (qp (R2 HO182.out BK188.out)) hb); replace HO185 := aM (Kd.R_below (qp (R2 HO185.out BK188.out)) hb); replace BK171 := aM (blk_below (f2 (lK BK171.out) NB171_188.out) hb); replace BK188 := aM (blk_below (g := gb188) (o := .cells #[.int .i64 t187, .slice Ao73 t179.length co73] 27 (0, 0)) (by exact p2 (lK BK188.out)) hb); replace HB := aM (bj HB.out hb); (try clear hb); obtain ⟨hcz81_0, hcz81_1, hfz81_0, hfz81_1⟩ := cf2 BK171.out))
       refine bodyPost_ret (results_ct rfl _ _ gb171 27 #[.int .i64 0, .slice none 0 0] (0, 0) _ rfl (by exact p2 (lK BK171.out)) Tryd.underlying27 rfl (by kernel_rfl)) rfl ?_
       exact ⟨_, er, by first | exact Kd.R_nil _ _ _ _ _ | exact Kd.N_nil _ _ _ _ _ | exact Kd.V_nil _ _ _ _ _ | exact Kd.Q_nil _ _ _ _ _ | exact Kd.S_nil _ _ _ _ _, by exact jB HB.out⟩
    ·replace c25 := Bool.eq_false_iff.mpr c25
     subst c25
     rw [if_neg nf] at H
     try dsimp only at H
     simp only [Option.some.injEq, Prod.mk.injEq] at H
     obtain ⟨rfl, rfl, rfl⟩ := H
     go_enter Tryd.func15, Tryd.ntmps15
     try go_wp2_with (first | ((with_reducible refine gate_dst (N := 2) rfl ?_); refine bx 2 #[.int .i64 0, .slice none 0 0] 27 ?_; intro gb171 hg w82 hbox hb; have BK171 := aM (hbox); have GW171 := aM ((gz hg HB.out)); have IGW171 : Nonempty _ := ⟨GW171.out⟩; have GE171 := aM ((gz hg HB.out)); have IGE171 : Nonempty _ := ⟨GE171.out⟩; replace HB := aM (bj HB.out hb); clear hb hbox hg) | ((with_reducible refine gate_callee (f := 33) rfl ?_); refine gL (some 9) Tryd.func33 #[.string a0, .string (⟨#[32]⟩ : ByteArray)] ?_; (with_reducible refine (strings_Split.calls a0 (⟨#[32]⟩ : ByteArray) t172 _ A2.out (HTAB.out _ (by exact jB HB.out))).mono ?_); rintro e w83 ⟨v173, rfl, ho0, hb⟩; refine ⟨_, rfl, ?_⟩; have HO174 := aM (Kd.R_lower ho0 (below_size (by exact jB HB.out))); replace BK171 := aM (bb BK171.out hb); replace HB := aM (bj HB.out hb); (try clear hb); (try clear ho0); obtain ⟨Ao85, co85, eo85⟩ := Kd.R_slice HO174.out; subst eo85; have q84 : (1 : Int) ≤ ((t172.length : Int) : Int) := of_decide_eq_true (by first | (with_reducible assumption) | assumption); obtain ⟨i084, hi084, _, hsz84, _⟩ := info_parts info9; have hroom84 : t172.length ≤ co85 := (Kd.R_reads' HO174.out).2.1; have hC84 : Kd.C Kd.string _ Ao85 t172.length t172 := (Kd.R_reads' HO174.out).2.2; have hcut84 := cut_from (P := Tryd.prog) 41 9 .i64 Tryd.underlying41 hi084 1 hsz84 Ao85 t172.length co85 1 (by omega) q84; have hr84 := Kd.C_drop (m := (1 : Int).toNat) (c := co85) hC84 (by omega) hroom84; obtain ⟨A84, hA84⟩ : ∃ A1, A1 = (if co85 = (1 : Int).toNat then Ao85 else (Ao85 : Option Addr).map (·.add ((1 : Int).toNat * 1))) := ⟨_, rfl⟩; obtain ⟨c84, hc84⟩ : ∃ c1, c1 = co85 - (1 : Int).toNat := ⟨_, rfl⟩; have hy84 : y175.length = t172.length - (1 : Int).toNat := (by rw [Ny175.out, List.length_drop] <;> omega); rw [show (t172).drop (1 : Int).toNat = y175 from Ny175.out.symm] at hr84; replace hr84 : Kd.C Kd.string _ A84 y175.length y175 := (by rw [hA84]; exact hr84); rw [← hy84, ← hA84, ← hc84] at hcut84; have HR178 := aM hr84; have HC178 := aM (show y175.length ≤ c84 from by rw [hy84, hc84]; exact Nat.sub_le_sub_right hroom84 _); clear hr84 hC84 hroom84 hi084 hsz84 hc84; have KY84 := aM hy84; have KA84 := aM hA84; clear hy84 hA84; have KL84 := aM (show 1 ≤ t172.length from by omega); replace q84 := eq_true q84) | ((with_reducible refine gate_callee (f := 34) rfl ?_); refine gL (some 13) Tryd.func34 #[.slice A84 y175.length c84] ?_; (with_reducible refine (impl_numbersOf.calls k _ _ y175 t179 false _ ?side1 ?side2 A4.out (HTAB.out _ (by exact jB HB.out))).mono ?_); (case side1 => repeat (first | exact (by repeat (first | (with_reducible exact HR178.out) | (with_reducible refine Kd.C_alloc ?_ _) | (with_reducible refine Kd.C_drewN ?_ _) | (with_reducible refine Kd.C_drew ?_) | exact HR178.out)) | (with_reducible refine Kd.C_alloc ?_ _) | (with_reducible refine Kd.C_drewN ?_ _) | (with_reducible refine Kd.C_drew ?_))); (case side2 => exact HC178.out); rintro e w86 ⟨v181, rfl, ho0, hb⟩; refine ⟨_, rfl, ?_⟩; replace HO174 := aM (rb HO174.out hb); have HO182 := aM (Kd.R_lower ho0 (below_size (by exact jB HB.out))); replace BK171 := aM (bb BK171.out hb); replace HR178 := aM (Kd.C_below (by repeat (first | (with_reducible exact HR178.out) | (with_reducible refine Kd.C_alloc ?_ _) | (with_reducible refine Kd.C_drewN ?_ _) | (with_reducible refine Kd.C_drew ?_) | exact HR178.out)) hb); replace HB := aM (bj HB.out hb); (try clear hb); (try clear ho0)))
     replace HO174 := aM (Kd.R_drew HO174.out)
     replace HO182 := aM (Kd.R_drew HO182.out)
     replace BK171 := aM (blk_drew BK171.out)
     replace HR178 := aM (Kd.C_drew HR178.out)
     replace HB := aM (below_drew1 HB.out)
     have p186 : 0 ≤ (0 : Int) := (by omega)
     have q186 : 0 < (t172.length : Int) := of_decide_eq_true (by first | (with_reducible assumption) | assumption)
     obtain ⟨ad186, e186, hx186_0⟩ := Kd.at_string (Kd.R_reads' HO174.out).2.2 0 p186 q186
     cases e186
     have qi186 : (0 < t172.length) = True := eq_true (by omega)
     (try rw [show ((0 : Int)).toNat = 0 from rfl] at hx186_0)
     (try rw [Addr.add_zero'] at hx186_0)
     replace p186 := eq_true p186
     replace q186 := eq_true q186
     obtain ⟨Ao91, co91, eo91⟩ := Kd.R_slice HO182.out
     subst eo91
     refine start_ (n := 9) (S := fun w' => w'.cell? ad186 = some (.string (rdOf ByteArray.empty t172 0))) (ds := []) #[false, false, false, false, false, false, false, false, false] (by kernel_rfl) rfl rfl (hx186_0) (fun hHeld => ?_); refine with_tabW impl_ResRead.tab3 impl_ResRead.bits3 (fun HT_ HW_ => ?_)
     generalize w86.drew = w87 at HO174 HO182 BK171 HR178 HB hx186_0 hHeld ⊢
     refine pure_ (i := 1) (N := some 17) (v := ?_) (a' := ?_) #[false, true, false, false, false, false, false, false, false] rfl rfl (any_of HT_.out (by kernel_rfl)) (fun _ _ _ h => h) (Or.inl ⟨by rfl, ?_⟩) ?_ ?_
     rotate_left
     ·intro w'
      go_simp
      with_reducible rfl
     rotate_left
     ·simp only [Act.put, sA, s0, sS, i64_w, i32_w]
      rfl
     refine pure_ (i := 2) (N := some 18) (v := ?_) (a' := ?_) #[false, true, true, false, false, false, false, false, false] rfl rfl (any_of HT_.out (by kernel_rfl)) (fun _ _ _ h => h) (Or.inl ⟨by rfl, ?_⟩) ?_ ?_
     rotate_left
     ·intro w'
      go_simp
      with_reducible rfl
     rotate_left
     ·simp only [Act.put, sA, s0, sS, i64_w, i32_w]
      rfl
     refine pure_ (i := 5) (N := some 21) (v := ?_) (a' := ?_) #[false, true, true, false, false, true, false, false, false] rfl rfl (any_of HT_.out (by kernel_rfl)) (fun _ _ _ h => h) (Or.inl ⟨by rfl, ?_⟩) ?_ ?_
     rotate_left
     ·intro w'
      go_simp
      with_reducible rfl
     rotate_left
     ·simp only [Act.put, sA, s0, sS, i64_w, i32_w]
      rfl
     refine take_ (i := 3) (N := some 19) (v := ?_) (a' := ?_) #[false, true, true, true, false, true, false, false, false] rfl rfl (take_ofW HT_.out HW_.out (by kernel_rfl)) (fun _ _ _ h => h) (Or.inl ⟨by rfl, ?_⟩) hHeld ?_ ?_
     rotate_left
     ·intro w' s0
      go_simp
      with_reducible rfl
     rotate_left
     ·simp only [Act.put, sA, s0, sS, i64_w, i32_w]
      rfl
     refine join_ (σ := Value × Nat) 1 #[true, true, true, true, true, true, true, true, false] (fun s_ => [(16, s_.1), (20, .int .i64 t187), (7, .pointer (some ⟨s_.2, 0, none⟩)), (22, .agg #[.int .i64 t187, .slice Ao91 t179.length co91])]) (fun s_ w' => (w'.cell? ad186 = some (.string (rdOf ByteArray.empty t172 0))) ∧ (Kd.R Kd.string 9 w' w.heap.size (fun k_ => some k_ ≠ (s_.1 : Value).ownBlock) (.slice (some ad186) t172.length co85) t172) ∧ (Kd.R (Kd.int .i64) 3 w' w.heap.size (fun _ => True) (.slice Ao91 t179.length co91) t179) ∧ (Kd.R Kd.string 9 w' w.heap.size (fun k_ => some k_ ≠ ownBlock (.slice (some ad186) t172.length co85)) s_.1 t183) ∧ (w'.heap[gb171]? = some (.cells #[.int .i64 0, .slice none 0 0] 27 (0, 0))) ∧ (w'.heap[s_.2]? = some (.cells #[.int .i64 0, .slice none 0 0] 27 (0, 0))) ∧ (w.heap.size ≤ s_.2) ∧ (w.heap.size ≤ s_.2) ∧ (gb171 ≠ s_.2) ∧ (s_.2 ≠ gb171) ∧ (Below w.heap.size w w')) ?_ ?_
     rotate_left
     ·intro hCont
      refine two_ (i := 0) (j := 7) (Ni := some 16) (Nj := some 7) #[true, true, true, true, false, true, false, false, false] #[false, true, true, true, false, true, false, true, false] rfl rfl rfl rfl (two_of HT_.out (by kernel_rfl)) (by decide) (by decide) (fun K hK => ?_) (fun K hK => ?_)
      ·skip
       refine goes_ Tryd.func28 (by kernel_rfl) rfl #[] (by rfl) rfl rfl (by (try simp only [mA, mC, mN]); first | done | rfl | (simp only [ld, lt]; rfl)) ?_
       with_reducible refine (impl_codeWords.calls  t183 _ A5.out).mono ?_
       rintro e w88 ⟨v184, rfl, ho0, hb⟩
       have HS0_ := (hb.cell (World.block_lt_of_cell? _ _ (hHeld))).trans (hHeld)
       refine ⟨_, rfl, ?_⟩
       replace HO182 := aM (rb HO182.out hb)
       have HO185 := aM (Kd.R_lower (Kd.R_new' ho0 (rl HO174.out)) (below_size (by exact jB HB.out)))
       replace HO174 := aM (Kd.R_elder' (by exact lR HO174.out) (Kd.R_base ho0) hb)
       replace BK171 := aM (bb BK171.out hb)
       replace HR178 := aM (Kd.C_below (by repeat (first | (with_reducible exact HR178.out) | (with_reducible refine Kd.C_alloc ?_ _) | (with_reducible refine Kd.C_drewN ?_ _) | (with_reducible refine Kd.C_drew ?_) | exact HR178.out)) hb)
       replace HB := aM (bj HB.out hb)
       (try clear hb)
       (try clear hb2)
       (try clear hk)
       (try clear hi)
       (try clear ho0)
       obtain ⟨Ao89, co89, eo89⟩ := Kd.R_slice HO185.out
       (first | subst eo89 | (injection eo89 with f1_ f2_ f3_; have f4_ := f1_.symm; have f5_ := f3_.symm; clear f1_ f2_ f3_; subst f4_; subst f5_))
       refine hK.out _ _ (HS0_) (fun hHeld => ?_)
       clear hK K
       refine norm_ (a' := ?_) ?_ ?_
       rotate_left
       ·show Act.put _ (some 16) _ = _
        simp only [Act.put, sA, s0, sS, i64_w, i32_w]
        rfl
       refine two_ (i := 4) (j := 7) (Ni := some 20) (Nj := some 7) #[true, true, true, true, true, true, false, false, false] #[true, true, true, true, false, true, false, true, false] rfl rfl rfl rfl (two_of HT_.out (by kernel_rfl)) (by decide) (by decide) (fun K hK => ?_) (fun K hK => ?_)
       ·skip
        refine goes_ Tryd.func35 (by kernel_rfl) rfl #[.slice Ao89 t183.length co89, .string (rdOf ByteArray.empty t172 0)] (by rfl) rfl rfl (by (try simp only [mA, mC, mN]); first | done | rfl | (simp only [ld, lt]; rfl)) ?_
        with_reducible refine (slices_Index_string_string.calls _ _ t183 (rdOf ByteArray.empty t172 0) t187 _ ?side1 ?side2 A7.out).mono ?_
        (case side1 => exact lC <| (Kd.R_reads' HO185.out).2.2)
        (case side2 => exact (Kd.R_reads' HO185.out).2.1)
        rintro e w90 ⟨rfl, hb⟩
        have HS0_ := (hb.cell (World.block_lt_of_cell? _ _ (hHeld))).trans (hHeld)
        refine ⟨_, rfl, ?_⟩
        replace HO174 := aM (rb HO174.out hb)
        replace HO182 := aM (rb HO182.out hb)
        replace HO185 := aM (rb HO185.out hb)
        replace BK171 := aM (bb BK171.out hb)
        replace HR178 := aM (Kd.C_below (by repeat (first | (with_reducible exact HR178.out) | (with_reducible refine Kd.C_alloc ?_ _) | (with_reducible refine Kd.C_drewN ?_ _) | (with_reducible refine Kd.C_drew ?_) | exact HR178.out)) hb)
        replace HB := aM (bj HB.out hb)
        (try clear hb)
        (try clear hb2)
        (try clear hk)
        (try clear hi)
        obtain ⟨Ao91, co91, eo91⟩ := Kd.R_slice HO182.out
        (first | subst eo91 | (injection eo91 with f1_ f2_ f3_; have f4_ := f1_.symm; have f5_ := f3_.symm; clear f1_ f2_ f3_; subst f4_; subst f5_))
        refine hK.out _ _ (HS0_) (fun hHeld => ?_)
        clear hK K
        refine norm_ (a' := ?_) ?_ ?_
        rotate_left
        ·show Act.put _ (some 20) _ = _
         simp only [Act.put, sA, s0, sS, i64_w, i32_w]
         rfl
        refine pure_ (i := 6) (N := some 22) (v := ?_) (a' := ?_) #[true, true, true, true, true, true, true, false, false] rfl rfl (any_of HT_.out (by kernel_rfl)) (fun _ _ _ h => h) (Or.inl ⟨by rfl, ?_⟩) ?_ ?_
        rotate_left
        ·intro w'
         go_simp
         with_reducible rfl
        rotate_left
        ·simp only [Act.put, sA, s0, sS, i64_w, i32_w]
         rfl
        refine one_ (i := 7) (N := some 7) #[true, true, true, true, true, true, true, true, false] rfl rfl (one_of HT_.out (by kernel_rfl)) (by decide) (fun K hK => ?_)
        refine box_step ?hg (N := 7) ?hd (cs := #[.int .i64 0, .slice none 0 0]) (t := 27) ?hr ?_; (case hd => rfl); (case hg => rfl); (case hr => first | (go_simp; done) | (go_simp; rfl))
        intro gb188 hg w92 hbox hb
        have HS0_ := (hb.cell (World.block_lt_of_cell? _ _ (hHeld))).trans (hHeld)
        replace HO174 := aM (rb HO174.out hb)
        replace HO182 := aM (rb HO182.out hb)
        replace HO185 := aM (rb HO185.out hb)
        replace HR178 := aM (Kd.C_below (by repeat (first | (with_reducible exact HR178.out) | (with_reducible refine Kd.C_alloc ?_ _) | (with_reducible refine Kd.C_drewN ?_ _) | (with_reducible refine Kd.C_drew ?_) | exact HR178.out)) hb)
        have BK188 := aM (hbox)
        have GW188 := aM ((gz hg HB.out))
        have IGW188 : Nonempty _ := ⟨GW188.out⟩
        have GE188 := aM ((gz hg HB.out))
        have IGE188 : Nonempty _ := ⟨GE188.out⟩
        replace HB := aM (bj HB.out hb)
        have NB171_188 := aM ((neL hg (lK BK171.out) : gb171 ≠ gb188))
        have NB188_171 := aM ((neG hg (lK BK171.out) : gb188 ≠ gb171))
        replace BK171 := aM (bb BK171.out hb)
        clear hb hbox hg
        refine hK.out _ _ (HS0_) (fun hHeld => ?_)
        clear hK K
        refine norm_ (a' := ?_) ?_ ?_
        rotate_left
        ·show Act.put _ (some 7) _ = _
         simp only [Act.put, sA, s0, sS, i64_w, i32_w]
         rfl
        exact norm_ (by simp only [putAll, Act.put, List.setIfInBounds_toArray, List.set_cons_zero, List.set_cons_succ]) (hCont (.slice Ao89 t183.length co89, gb188) _ ⟨hHeld, (by exact lR <| Kd.R_mono HO174.out (fun _ hk => hk.2)), (by exact lR HO182.out), (by exact lR <| Kd.R_mono HO185.out (fun _ hk => hk.2)), (by exact lK BK171.out), (by exact lK BK188.out), GW188.out, GE188.out, NB171_188.out, NB188_171.out, (by exact jB HB.out)⟩)
       ·skip
        refine box_step ?hg (N := 7) ?hd (cs := #[.int .i64 0, .slice none 0 0]) (t := 27) ?hr ?_; (case hd => rfl); (case hg => rfl); (case hr => first | (go_simp; done) | (go_simp; rfl))
        intro gb188 hg w89 hbox hb
        have HS0_ := (hb.cell (World.block_lt_of_cell? _ _ (hHeld))).trans (hHeld)
        replace HO174 := aM (rb HO174.out hb)
        replace HO182 := aM (rb HO182.out hb)
        replace HO185 := aM (rb HO185.out hb)
        replace HR178 := aM (Kd.C_below (by repeat (first | (with_reducible exact HR178.out) | (with_reducible refine Kd.C_alloc ?_ _) | (with_reducible refine Kd.C_drewN ?_ _) | (with_reducible refine Kd.C_drew ?_) | exact HR178.out)) hb)
        have BK188 := aM (hbox)
        have GW188 := aM ((gz hg HB.out))
        have IGW188 : Nonempty _ := ⟨GW188.out⟩
        have GE188 := aM ((gz hg HB.out))
        have IGE188 : Nonempty _ := ⟨GE188.out⟩
        replace HB := aM (bj HB.out hb)
        have NB171_188 := aM ((neL hg (lK BK171.out) : gb171 ≠ gb188))
        have NB188_171 := aM ((neG hg (lK BK171.out) : gb188 ≠ gb171))
        replace BK171 := aM (bb BK171.out hb)
        clear hb hbox hg
        obtain ⟨Ao90, co90, eo90⟩ := Kd.R_slice HO185.out
        (first | subst eo90 | (injection eo90 with f1_ f2_ f3_; have f4_ := f1_.symm; have f5_ := f3_.symm; clear f1_ f2_ f3_; subst f4_; subst f5_))
        refine hK.out _ _ (HS0_) (fun hHeld => ?_)
        clear hK K
        refine norm_ (a' := ?_) ?_ ?_
        rotate_left
        ·show Act.put _ (some 7) _ = _
         simp only [Act.put, sA, s0, sS, i64_w, i32_w]
         rfl
        refine one_ (i := 4) (N := some 20) #[true, true, true, true, true, true, false, true, false] rfl rfl (one_of HT_.out (by kernel_rfl)) (by decide) (fun K hK => ?_)
        refine goes_ Tryd.func35 (by kernel_rfl) rfl #[.slice Ao90 t183.length co90, .string (rdOf ByteArray.empty t172 0)] (by rfl) rfl rfl (by (try simp only [mA, mC, mN]); first | done | rfl | (simp only [ld, lt]; rfl)) ?_
        with_reducible refine (slices_Index_string_string.calls _ _ t183 (rdOf ByteArray.empty t172 0) t187 _ ?side1 ?side2 A7.out).mono ?_
        (case side1 => exact lC <| (Kd.R_reads' HO185.out).2.2)
        (case side2 => exact (Kd.R_reads' HO185.out).2.1)
        rintro e w91 ⟨rfl, hb⟩
        have HS0_ := (hb.cell (World.block_lt_of_cell? _ _ (hHeld))).trans (hHeld)
        refine ⟨_, rfl, ?_⟩
        replace HO174 := aM (rb HO174.out hb)
        replace HO182 := aM (rb HO182.out hb)
        replace HO185 := aM (rb HO185.out hb)
        replace BK171 := aM (bb BK171.out hb)
        replace HR178 := aM (Kd.C_below (by repeat (first | (with_reducible exact HR178.out) | (with_reducible refine Kd.C_alloc ?_ _) | (with_reducible refine Kd.C_drewN ?_ _) | (with_reducible refine Kd.C_drew ?_) | exact HR178.out)) hb)
        replace BK188 := aM (bb BK188.out hb)
        replace HB := aM (bj HB.out hb)
        (try clear hb)
        (try clear hb2)
        (try clear hk)
        (try clear hi)
        obtain ⟨Ao92, co92, eo92⟩ := Kd.R_slice HO182.out
        (first | subst eo92 | (injection eo92 with f1_ f2_ f3_; have f4_ := f1_.symm; have f5_ := f3_.symm; clear f1_ f2_ f3_; subst f4_; subst f5_))
        refine hK.out _ _ (HS0_) (fun hHeld => ?_)
        clear hK K
        refine norm_ (a' := ?_) ?_ ?_
        rotate_left
        ·show Act.put _ (some 20) _ = _
         simp only [Act.put, sA, s0, sS, i64_w, i32_w]
         rfl
        refine pure_ (i := 6) (N := some 22) (v := ?_) (a' := ?_) #[true, true, true, true, true, true, true, true, false] rfl rfl (any_of HT_.out (by kernel_rfl)) (fun _ _ _ h => h) (Or.inl ⟨by rfl, ?_⟩) ?_ ?_
        rotate_left
        ·intro w'
         go_simp
         with_reducible rfl
        rotate_left
        ·simp only [Act.put, sA, s0, sS, i64_w, i32_w]
         rfl
        exact norm_ (by simp only [putAll, Act.put, List.setIfInBounds_toArray, List.set_cons_zero, List.set_cons_succ]) (hCont (.slice Ao90 t183.length co90, gb188) _ ⟨hHeld, (by exact lR <| Kd.R_mono HO174.out (fun _ hk => hk.2)), (by exact lR HO182.out), (by exact lR <| Kd.R_mono HO185.out (fun _ hk => hk.2)), (by exact lK BK171.out), (by exact lK BK188.out), GW188.out, GE188.out, NB171_188.out, NB188_171.out, (by exact jB HB.out)⟩)
      ·skip
       refine box_step ?hg (N := 7) ?hd (cs := #[.int .i64 0, .slice none 0 0]) (t := 27) ?hr ?_; (case hd => rfl); (case hg => rfl); (case hr => first | (go_simp; done) | (go_simp; rfl))
       intro gb188 hg w88 hbox hb
       have HS0_ := (hb.cell (World.block_lt_of_cell? _ _ (hHeld))).trans (hHeld)
       replace HO174 := aM (rb HO174.out hb)
       replace HO182 := aM (rb HO182.out hb)
       replace HR178 := aM (Kd.C_below (by repeat (first | (with_reducible exact HR178.out) | (with_reducible refine Kd.C_alloc ?_ _) | (with_reducible refine Kd.C_drewN ?_ _) | (with_reducible refine Kd.C_drew ?_) | exact HR178.out)) hb)
       have BK188 := aM (hbox)
       have GW188 := aM ((gz hg HB.out))
       have IGW188 : Nonempty _ := ⟨GW188.out⟩
       have GE188 := aM ((gz hg HB.out))
       have IGE188 : Nonempty _ := ⟨GE188.out⟩
       replace HB := aM (bj HB.out hb)
       have NB171_188 := aM ((neL hg (lK BK171.out) : gb171 ≠ gb188))
       have NB188_171 := aM ((neG hg (lK BK171.out) : gb188 ≠ gb171))
       replace BK171 := aM (bb BK171.out hb)
       clear hb hbox hg
       refine hK.out _ _ (HS0_) (fun hHeld => ?_)
       clear hK K
       refine norm_ (a' := ?_) ?_ ?_
       rotate_left
       ·show Act.put _ (some 7) _ = _
        simp only [Act.put, sA, s0, sS, i64_w, i32_w]
        rfl
       refine one_ (i := 0) (N := some 16) #[true, true, true, true, false, true, false, true, false] rfl rfl (one_of HT_.out (by kernel_rfl)) (by decide) (fun K hK => ?_)
       refine goes_ Tryd.func28 (by kernel_rfl) rfl #[] (by rfl) rfl rfl (by (try simp only [mA, mC, mN]); first | done | rfl | (simp only [ld, lt]; rfl)) ?_
       with_reducible refine (impl_codeWords.calls  t183 _ A5.out).mono ?_
       rintro e w89 ⟨v184, rfl, ho0, hb⟩
       have HS0_ := (hb.cell (World.block_lt_of_cell? _ _ (hHeld))).trans (hHeld)
       refine ⟨_, rfl, ?_⟩
       replace HO182 := aM (rb HO182.out hb)
       have HO185 := aM (Kd.R_lower (Kd.R_new' ho0 (rl HO174.out)) (below_size (by exact jB HB.out)))
       replace HO174 := aM (Kd.R_elder' (by exact lR HO174.out) (Kd.R_base ho0) hb)
       replace BK171 := aM (bb BK171.out hb)
       replace HR178 := aM (Kd.C_below (by repeat (first | (with_reducible exact HR178.out) | (with_reducible refine Kd.C_alloc ?_ _) | (with_reducible refine Kd.C_drewN ?_ _) | (with_reducible refine Kd.C_drew ?_) | exact HR178.out)) hb)
       replace BK188 := aM (bb BK188.out hb)
       replace HB := aM (bj HB.out hb)
       (try clear hb)
       (try clear hb2)
       (try clear hk)
       (try clear hi)
       (try clear ho0)
       obtain ⟨Ao90, co90, eo90⟩ := Kd.R_slice HO185.out
       (first | subst eo90 | (injection eo90 with f1_ f2_ f3_; have f4_ := f1_.symm; have f5_ := f3_.symm; clear f1_ f2_ f3_; subst f4_; subst f5_))
       refine hK.out _ _ (HS0_) (fun hHeld => ?_)
       clear hK K
       refine norm_ (a' := ?_) ?_ ?_
       rotate_left
       ·show Act.put _ (some 16) _ = _
        simp only [Act.put, sA, s0, sS, i64_w, i32_w]
        rfl
       refine one_ (i := 4) (N := some 20) #[true, true, true, true, true, true, false, true, false] rfl rfl (one_of HT_.out (by kernel_rfl)) (by decide) (fun K hK => ?_)
       refine goes_ Tryd.func35 (by kernel_rfl) rfl #[.slice Ao90 t183.length co90, .string (rdOf ByteArray.empty t172 0)] (by rfl) rfl rfl (by (try simp only [mA, mC, mN]); first | done | rfl | (simp only [ld, lt]; rfl)) ?_
       with_reducible refine (slices_Index_string_string.calls _ _ t183 (rdOf ByteArray.empty t172 0) t187 _ ?side1 ?side2 A7.out).mono ?_
       (case side1 => exact lC <| (Kd.R_reads' HO185.out).2.2)
       (case side2 => exact (Kd.R_reads' HO185.out).2.1)
       rintro e w91 ⟨rfl, hb⟩
       have HS0_ := (hb.cell (World.block_lt_of_cell? _ _ (hHeld))).trans (hHeld)
       refine ⟨_, rfl, ?_⟩
       replace HO174 := aM (rb HO174.out hb)
       replace HO182 := aM (rb HO182.out hb)
       replace HO185 := aM (rb HO185.out hb)
       replace BK171 := aM (bb BK171.out hb)
       replace HR178 := aM (Kd.C_below (by repeat (first | (with_reducible exact HR178.out) | (with_reducible refine Kd.C_alloc ?_ _) | (with_reducible refine Kd.C_drewN ?_ _) | (with_reducible refine Kd.C_drew ?_) | exact HR178.out)) hb)
       replace BK188 := aM (bb BK188.out hb)
       replace HB := aM (bj HB.out hb)
       (try clear hb)
       (try clear hb2)
       (try clear hk)
       (try clear hi)
       obtain ⟨Ao92, co92, eo92⟩ := Kd.R_slice HO182.out
       (first | subst eo92 | (injection eo92 with f1_ f2_ f3_; have f4_ := f1_.symm; have f5_ := f3_.symm; clear f1_ f2_ f3_; subst f4_; subst f5_))
       refine hK.out _ _ (HS0_) (fun hHeld => ?_)
       clear hK K
       refine norm_ (a' := ?_) ?_ ?_
       rotate_left
       ·show Act.put _ (some 20) _ = _
        simp only [Act.put, sA, s0, sS, i64_w, i32_w]
        rfl
       refine pure_ (i := 6) (N := some 22) (v := ?_) (a' := ?_) #[true, true, true, true, true, true, true, true, false] rfl rfl (any_of HT_.out (by kernel_rfl)) (fun _ _ _ h => h) (Or.inl ⟨by rfl, ?_⟩) ?_ ?_
       rotate_left
       ·intro w'
        go_simp
        with_reducible rfl
       rotate_left
       ·simp only [Act.put, sA, s0, sS, i64_w, i32_w]
        rfl
       exact norm_ (by simp only [putAll, Act.put, List.setIfInBounds_toArray, List.set_cons_zero, List.set_cons_succ]) (hCont (.slice Ao90 t183.length co90, gb188) _ ⟨hHeld, (by exact lR <| Kd.R_mono HO174.out (fun _ hk => hk.2)), (by exact lR HO182.out), (by exact lR <| Kd.R_mono HO185.out (fun _ hk => hk.2)), (by exact lK BK171.out), (by exact lK BK188.out), GW188.out, GE188.out, NB171_188.out, NB188_171.out, (by exact jB HB.out)⟩)
     rintro ⟨v184, gb188⟩ w93 ⟨hS_, h0_, h1_, h2_, h3_, h4_, h5_, h6_, h7_, h8_, h9_⟩
     replace HO174 : Aside0 (Kd.R Kd.string 9 w93 w.heap.size (fun k_ => some k_ ≠ v184.ownBlock) (.slice (some ad186) t172.length co85) t172) := ⟨h0_⟩
     replace HO182 : Aside0 (Kd.R (Kd.int .i64) 3 w93 w.heap.size (fun _ => True) (.slice Ao91 t179.length co91) t179) := ⟨h1_⟩
     have HO185 : Aside0 (Kd.R Kd.string 9 w93 w.heap.size (fun k_ => some k_ ≠ ownBlock (.slice (some ad186) t172.length co85)) v184 t183) := ⟨h2_⟩
     replace BK171 : Aside0 (w93.heap[gb171]? = some (.cells #[.int .i64 0, .slice none 0 0] 27 (0, 0))) := ⟨h3_⟩
     have BK188 : Aside0 (w93.heap[gb188]? = some (.cells #[.int .i64 0, .slice none 0 0] 27 (0, 0))) := ⟨h4_⟩
     have GW188 : Aside0 (w.heap.size ≤ gb188) := ⟨h5_⟩
     have IGW188 : Nonempty _ := ⟨GW188.out⟩
     have GE188 : Aside0 (w.heap.size ≤ gb188) := ⟨h6_⟩
     have IGE188 : Nonempty _ := ⟨GE188.out⟩
     have NB171_188 : Aside0 (gb171 ≠ gb188) := ⟨h7_⟩
     have NB188_171 : Aside0 (gb188 ≠ gb171) := ⟨h8_⟩
     replace HB : Aside0 (Below w.heap.size w w93) := ⟨h9_⟩
     clear HR178 h0_ h1_ h2_ h3_ h4_ h5_ h6_ h7_ h8_ h9_
     have hHeld : w93.cell? ad186 = some (.string (rdOf ByteArray.empty t172 0)) := hS_
     refine norm_ (a' := ?_) ?_ ?_
     rotate_left
     ·simp only [putAll, Act.put, List.setIfInBounds_toArray, List.set_cons_zero, List.set_cons_succ]
      rfl
     refine one_ (i := 8) (N := none) #[true, true, true, true, true, true, true, true, true] rfl rfl (one_of HT_.out (by kernel_rfl)) (by decide) (fun K hK => ?_)
     have hs94 : w93.cell? ⟨gb188, 0, none⟩ = some (.int .i64 0) := (blk_cell BK188.out 0).trans rfl
     have hfs94 := blk_frozen BK188.out 0
     have hns94_0 := NB171_188.out
     have hms94_0 := NB188_171.out
     have hs95 : w93.cell? ⟨gb188, 1, none⟩ = some (.slice none 0 0) := (blk_cell BK188.out 1).trans rfl
     have hfs95 := blk_frozen BK188.out 1
     have hns95_0 := NB171_188.out
     have hms95_0 := NB188_171.out
     refine skip_ (w1 := ?_) (by rfl) rfl ?_ ?_
     rotate_left
     ·go_simp
      rfl
     refine hK.out _ _ (((cell_far (p := ⟨gb188, _, none⟩) (by first | exact Kd.own_blk (Kd.R_ne HO174.out BK188.out (by decide)) | (rw [add_block]; exact Kd.own_blk (Kd.R_ne HO174.out BK188.out (by decide))) | (show (Addr.add _ _).block ≠ _; rw [add_block]; exact Kd.own_blk (Kd.R_ne HO174.out BK188.out (by decide))) | (dsimp only; exact Kd.own_blk (Kd.R_ne HO174.out BK188.out (by decide)))) _).trans (((cell_far (p := ⟨gb188, _, none⟩) (by first | exact Kd.own_blk (Kd.R_ne HO174.out BK188.out (by decide)) | (rw [add_block]; exact Kd.own_blk (Kd.R_ne HO174.out BK188.out (by decide))) | (show (Addr.add _ _).block ≠ _; rw [add_block]; exact Kd.own_blk (Kd.R_ne HO174.out BK188.out (by decide))) | (dsimp only; exact Kd.own_blk (Kd.R_ne HO174.out BK188.out (by decide)))) _).trans (hHeld))))) (fun hHeld => ?_)
     clear hK K
     refine done_ (done_of HT_.out (by kernel_rfl)) ?_
     have hnb96 := NB171_188.out
     have hnc96 := NB188_171.out
     obtain ⟨hcz97_0, hcz97_1, hfz97_0, hfz97_1⟩ := cf2 BK171.out
     try go_wp2
     refine bodyPost_ret (results_ct rfl _ _ gb171 27 #[.int .i64 0, .slice none 0 0] (0, 0) _ rfl (by (with_reducible repeat first | refine kN ?_ _ | refine kD ?_ | refine kA ?_ _); refine blk_put (cs := #[.int .i64 0, .slice none 0 0]) ?_ 1 _ rfl; (with_reducible repeat first | refine kN ?_ _ | refine kD ?_ | refine kA ?_ _); refine blk_put (cs := #[.int .i64 0, .slice none 0 0]) ?_ 0 _ rfl; (with_reducible repeat first | refine kN ?_ _ | refine kD ?_ | refine kA ?_ _); refine blk_far ?_ NB171_188.out _; (with_reducible repeat first | refine kN ?_ _ | refine kD ?_ | refine kA ?_ _); refine blk_far ?_ NB171_188.out _; exact lK BK171.out) Tryd.underlying27 rfl (by kernel_rfl)) rfl ?_
     exact ⟨_, er, by first | exact Kd.R_nil _ _ _ _ _ | exact Kd.N_nil _ _ _ _ _ | exact Kd.V_nil _ _ _ _ _ | exact Kd.Q_nil _ _ _ _ _ | exact Kd.S_nil _ _ _ _ _, by exact jB HB.out⟩
  ·rw [if_neg c6] at H
   exact absurd H (by simp)
 ·rw [if_neg c3] at H
  exact absurd H (by simp)

end Go.Proofs.YtcafmfmlnfaogaaDoor.QFnResText

-- shorter
