/- Plain functions, and that the Go code computes them: written by a program of this session over the seat's translation; the conditions stand in each theorem. -/
import Derived.Test.YtcafmfmlnfaogaaDoorQFnResTextx0
import Derived.Test.YtcafmfmlnfaogaaDoorQFnResTextx1
namespace Go.Proofs.YtcafmfmlnfaogaaDoor.QFnResText
open Go.RowKit Go.Proofs.YtcafmfmlnfaogaaDoorW.PrintWords Go.Proofs.YtcafmfmlnfaogaaDoorW.PrintLast Go.Proofs.YtcafmfmlnfaogaaDoorW.PrintMore Go.Proofs.YtcafmfmlnfaogaaDoor.HWords
attribute [local go_sem] max2_int min2_int max_two min_two max_three min_three max_four min_four   -- for this text's walks alone
set_option maxRecDepth 100000
set_option maxHeartbeats 8000000
set_option linter.unusedVariables false
set_option linter.unusedSimpArgs false

-- NOT PRINTED: function 87 (bits_TrailingZeros)

-- NOT PRINTED: function 71 (strconv_formatBits)

-- NOT PRINTED: function 60 (strconv_FormatInt)

-- NOT PRINTED: function 53 (strconv_Itoa_53)

-- NOT PRINTED: function 45 (strconv_Itoa_45)

-- NOT PRINTED: function 46 (strings_Builder_String)

/-! ### impl_joined: function 29, by hand -/
/-- Behind a call the region may be told to keep more than ahead of it. -/
theorem stronger_ {P : Program} {md : Region.Mode} {ops : Array Oper} {Q : Exit → Act → World → Prop} {S S2 : World → Prop} (hs : ∀ w, S2 w → S w) :
  ∀ (fuel : Nat) (l : Array Bool) (a : Act) (w : World), S2 w → wpAnyLast P md ops Q S2 [] fuel l a w → wpAnyLast P md ops Q S [] fuel l a w
 | 0, _, _, _, _, h => h
 | fuel + 1, _, _, _, h2, h => ⟨h.1, fun i hi => wpOp_mono (fun a' w' h' => ⟨fun _ _ => hs _ (h'.1 (by simp) h2), stronger_ hs fuel _ a' w' (h'.1 (by simp) h2) h'.2⟩) (h.2 i hi)⟩
def joinedL (l : List Int) : List UInt8 := (l.map fun n => 32 :: Go.Lib.itoa n).flatten
theorem joinedL_snoc (l : List Int) (n : Int) : joinedL (l ++ [n]) = joinedL l ++ (32 :: Go.Lib.itoa n) := by simp [joinedL]
theorem joinedL_len (l : List Int) (h : ∀ x ∈ l, -9223372036854775808 ≤ x ∧ x ≤ 9223372036854775807) : (joinedL l).length ≤ 22 * l.length := by
 induction l with
 | nil => simp [joinedL]
 | cons a l ih =>
  have h1 := Go.Lib.itoa_length_le a (h a (by simp)).1 (h a (by simp)).2
  have h2 := ih (fun x hx => h x (by simp [hx]))
  simp only [joinedL, List.map_cons, List.flatten_cons, List.length_append, List.length_cons] at *
  omega
theorem isB_grow {T e : TypeId} {B b : Nat} {bs : List Value} {w : World} (h : Go.Lib.IsBuilder T e B b bs w) (k : Nat) (os : Array Obj) : Go.Lib.IsBuilder T e B b bs (Go.Sort.grow (w.drewN k) os) := by
 have go : ∀ p, Go.Lib.BuilderAt T e B b p bs w → Go.Lib.BuilderAt T e B b p bs (Go.Sort.grow (w.drewN k) os) := by
  intro p hp
  have hlt := hp.lt
  obtain ⟨hB, v, hb, hown, hne⟩ := hp
  refine ⟨hB, v, (Go.Sort.heap_grow_old (w.drewN k) os (by exact hlt)).trans hb, hown.kept (row := none) ⟨rfl, rfl, rfl, by simp [Go.Sort.grow, World.drewN], fun j hj _ => Go.Sort.heap_grow_old (w.drewN k) os (by exact hj)⟩ ?_, hne⟩
  cases v.ownBlock with
  | none => exact .inl rfl
  | some _ => exact .inr (by simp)
 rcases h with h | h
 ·exact .inl (go _ h)
 ·exact .inr (go _ h)
theorem below_grown {B : Nat} {w0 w : World} (h : Below B w0 w) (hB : B ≤ w.heap.size) (k : Nat) (os : Array Obj) : Below B w0 (Go.Sort.grow (w.drewN k) os) :=
 ⟨h.os, h.tape, h.output, Nat.le_trans h.size (by simp [Go.Sort.grow, World.drewN]), fun j hj => (Go.Sort.heap_grow_old (w.drewN k) os (Nat.lt_of_lt_of_le hj hB)).trans (h.block j hj)⟩
theorem take_snoc (d : Int) (l : List Int) (x : Int) (h0 : 0 ≤ x) (h : x < (l.length : Int)) : l.take (x + 1).toNat = l.take x.toNat ++ [rd l x] := by
 have e : (x + 1).toNat = x.toNat + 1 := by omega
 rw [e, List.take_add_one, List.getElem?_eq_getElem (by omega)]
 simp only [Option.toList_some]
 congr 2
 unfold rd
 simp [List.getD_eq_getElem?_getD, List.getElem?_eq_getElem (show x.toNat < l.length by omega)]
theorem inB_of (l : List Int) (lo hi : Int) (h : (l.all fun x => inB x lo hi) = true) (x : Int) (hx : x ∈ l) : lo ≤ x ∧ x ≤ hi := by
 have := List.all_eq_true.mp h x hx
 simpa [inB] using this
def impl_joined.f (l0 : List Int) : Option (ByteArray) := if l0.length ≤ 6 ∧ (l0.all fun x => inB x (-999999999999) 999999999999) = true then some ⟨(joinedL l0).toArray⟩ else none
theorem impl_joined.calls (A0 : Option Addr) (c0 : Nat) (l0 : List Int) (r : ByteArray) (w : World) (hr0 : Kd.C (Kd.int .i64) w A0 l0.length l0) (hc0 : l0.length ≤ c0) (h : impl_joined.f l0 = some r) (htab : Tryd.TB w) :
  Calls Tryd.prog 29 #[.slice A0 l0.length c0] w fun e w' => e = .returned (.string r) ∧ Below w.heap.size w w' := by
 unfold impl_joined.f at h
 by_cases hL : l0.length ≤ 6 ∧ (l0.all fun x => inB x (-999999999999) 999999999999) = true
 case neg => rw [if_neg hL] at h; exact absurd h (by simp)
 case pos =>
  rw [if_pos hL] at h
  obtain rfl := Option.some.inj h
  clear h
  have hA := inB_of l0 _ _ hL.2
  have hlen := hL.1
  clear hL
  have HT := aM (Go.Lib.tabBelow_of_tabIs htab.tab)
  have HR := aM hr0
  have HA := aM hA
  have HN := aM hlen
  clear htab hr0 hA hlen
  have HF := aM (Go.Lib.fresh_isBuilder 64 5 w)
  go_enter Tryd.func29, Tryd.ntmps29
  go_wp2
  go_loopg [5, 8] l0.length (fun gg _ s8 wr => ∃ x : Int, s8 = .int .i64 x ∧ Aside0 (0 ≤ x ∧ x ≤ l0.length ∧ (l0.length : Int) - x ≤ gg) ∧ Aside0 (Below w.heap.size w wr) ∧ Aside0 (Go.Lib.IsBuilder 64 5 w.heap.size w.heap.size (Go.Lib.byteCells (joinedL (l0.take x.toNat))) wr))
  case atStart => exact ⟨0, rfl, ⟨by omega, by omega, by omega⟩, ⟨below_alloc (Below.refl _ _) _⟩, ⟨HF.out⟩⟩
  case round =>
   obtain ⟨x, rfl, HX, HB, HO⟩ := hrel
   have p1 := HX.out.1
   by_cases hlt : x < (l0.length : Int)
   ·obtain ⟨ad, e1, hx⟩ := Kd.at_int (Kd.C_below HR.out HB.out) x p1 hlt
    cases e1
    have hmem := HA.out (rd l0 x) (mem_rd 0 l0 x p1 hlt)
    have HM := aM hmem
    clear hmem
    have HI := aM (Tryd.strconv_Itoa (rd l0 x) (by have := HM.out; omega) (by have := HM.out; omega))
    have hil := Go.Lib.itoa_length_le (rd l0 x) (by have := HM.out; omega) (by have := HM.out; omega)
    have hs : ((⟨#[32]⟩ : ByteArray).size + (⟨(Go.Lib.itoa (rd l0 x)).toArray⟩ : ByteArray).size ≤ 9223372036854775807) = True := eq_true (by simp [ByteArray.size]; omega)
    have hs2 : decide ((⟨#[32]⟩ : ByteArray).size + (⟨(Go.Lib.itoa (rd l0 x)).toArray⟩ : ByteArray).size ≤ 9223372036854775807) = true := decide_eq_true (of_eq_true hs)
    have HZ : Aside0 ((Go.Lib.byteCells (joinedL (l0.take x.toNat))).length + ((⟨#[32]⟩ : ByteArray) ++ (⟨(Go.Lib.itoa (rd l0 x)).toArray⟩ : ByteArray)).size ≤ 140737488355328) := by
     refine ⟨?_⟩
     have h1 := joinedL_len (l0.take x.toNat) (fun y hy => by have := HA.out y (List.mem_of_mem_take hy); omega)
     have h2 : (l0.take x.toNat).length ≤ 6 := Nat.le_trans (by simp; omega) HN.out
     have h3 : ((⟨#[32]⟩ : ByteArray) ++ (⟨(Go.Lib.itoa (rd l0 x)).toArray⟩ : ByteArray)).size = 1 + (Go.Lib.itoa (rd l0 x)).length := by rw [ByteArray.size_append]; simp [ByteArray.size]
     rw [Go.Lib.byteCells_length, h3]
     omega
    go_wp2_with (first
     | (go_at_call 45; refine (HI.out _ (HT.out _ HB.out)).mono ?_; rintro e w' ⟨rfl, kk, os, rfl⟩; have HB2 := aM (below_grown HB.out HB.out.size kk os); have HO2 := aM (isB_grow HO.out kk os))
     | (go_at_call 44; refine (Tryd.Builder_WriteString w.heap.size w.heap.size _ _ _ HO2.out (HZ.out) HB2.out.size).mono ?_; rintro e w3 ⟨rfl, hb3, hn3⟩; have HB3 := aM (HB2.out.trans hn3); have HO3 := aM hb3; clear hb3 hn3))
    go_roundg (l0.length - (x.toNat + 1))
    case measure => have := HX.out; omega
    case rel =>
     refine ⟨x + 1, congrArg _ (by have := HN.out; have := HX.out; unfold wrap64; omega), ⟨by have := HX.out; omega, by have := HX.out; omega, by have := HX.out; omega⟩, ⟨HB3.out⟩, ⟨?_⟩⟩
     refine .inr ?_
     have h3 := HO3.out
     rw [Go.Lib.strCells_eq, ← Go.Lib.byteCells_append] at h3
     have e2 : joinedL (l0.take (x + 1).toNat) = joinedL (l0.take x.toNat) ++ ((⟨#[32]⟩ : ByteArray) ++ (⟨(Go.Lib.itoa (rd l0 x)).toArray⟩ : ByteArray)).data.toList := by
      rw [take_snoc 0 l0 x p1 hlt, joinedL_snoc]
      simp
     rw [e2]
     exact h3
   ·have e3 : l0.take x.toNat = l0 := List.take_of_length_le (by have := HX.out; omega)
    have ho := HO.out
    rw [e3] at ho
    have HO4 := aM ho
    clear ho e3
    go_wp2_with (go_at_call 46; refine (Tryd.Builder_String_any w.heap.size w.heap.size (joinedL l0) _ HO4.out HB.out.size).mono ?_; rintro e w4 ⟨rfl, hn4⟩; have HB4 := aM (HB.out.trans hn4); clear hn4)
    go_ret
    exact ⟨rfl, HB4.out⟩

/-! ### impl_ResText: function 10 -/
def impl_ResText.j0 : Nat → Bool → Int → List Int → Option (ByteArray)
 | 0, _, _, _ => none
 | k + 1, x32, x124000, x124001 => if x32 = true then (some (⟨#[]⟩ : ByteArray)) else ((impl_codeWords.f).bind fun t127 => (if 0 ≤ x124000 then (if x124000 < (t127.length : Int) then ((impl_joined.f x124001).bind fun t131 => (if (rdOf ByteArray.empty t127 x124000).size + t131.size ≤ 9223372036854775807 then (some ((rdOf ByteArray.empty t127 x124000) ++ t131)) else (none))) else (none)) else (none)))
def impl_ResText.f (k : Nat) (a0_0 : Int) (l0_1 : List Int) : Option (ByteArray) := (impl_in.f a0_0 1 3).bind fun t124 => (if t124 = true then (if (l0_1.length : Int) > 6 then (impl_ResText.j0 k true a0_0 l0_1) else (if a0_0 = 1 then ((impl_within.f l0_1 (l0_1.length : Int) 999999999999).bind fun t125 => (impl_ResText.j0 k (!t125) a0_0 l0_1)) else (if (l0_1.length : Int) > 0 then (impl_ResText.j0 k true a0_0 l0_1) else ((impl_within.f l0_1 (l0_1.length : Int) 999999999999).bind fun t126 => (impl_ResText.j0 k (!t126) a0_0 l0_1))))) else (impl_ResText.j0 k true a0_0 l0_1))
theorem impl_ResText.mono_l : ∀ k, (∀ y0 y1 y2, LeO (impl_ResText.j0 k y0 y1 y2) (impl_ResText.j0 (k + 1) y0 y1 y2))
 | 0 => fun _ _ _ r h => by simp [impl_ResText.j0] at h
 | k + 1 => by
  have ih0 := impl_ResText.mono_l k
  ·intro y0 y1 y2
   unfold impl_ResText.j0
   repeat' first
   | (with_reducible exact ih0 _ _ _)
   | (with_reducible exact LeO.refl _)
   | (with_reducible exact LeO.none _)
   | (with_reducible refine LeO.ite ?_ ?_)
   | (with_reducible refine LeO.bind ?_ (fun _ => ?_))
   | exact LeO.none _
   | refine LeO.ite ?_ ?_
   | refine LeO.bind ?_ (fun _ => ?_)
theorem impl_ResText.mono : ∀ a0 a1 k, LeO (impl_ResText.f k a0 a1) (impl_ResText.f (k + 1) a0 a1) := by
 intro a0 a1 k
 have ih0 := impl_ResText.mono_l k
 unfold impl_ResText.f
 repeat' first
   | (with_reducible exact ih0 _ _ _)
   | (with_reducible exact LeO.refl _)
   | (with_reducible exact LeO.none _)
   | (with_reducible refine LeO.ite ?_ ?_)
   | (with_reducible refine LeO.bind ?_ (fun _ => ?_))
   | exact LeO.none _
   | refine LeO.ite ?_ ?_
   | refine LeO.bind ?_ (fun _ => ?_)
def impl_ResText.T3 : Bool × List (List Nat × List Nat) := (true, [([], []), ([], []), ([1], [1]), ([0, 2], [0, 2]), ([3], [3]), ([], []), ([5], [5]), ([6, 0], [6]), ([4, 7], [4, 7]), ([8, 7, 0, 1, 2, 3, 4, 5, 6, 7, 8], [8])])
def impl_ResText.B3 : List Nat := [0, 0, 2, 7, 15, 0, 32, 97, 255, 511]
theorem impl_ResText.tab3 : rtab .any (opsOf Tryd.f10 3) = impl_ResText.T3 := by kernel_rfl
theorem impl_ResText.bits3 : waitsOk impl_ResText.T3.2 impl_ResText.B3 = true := by kernel_rfl
theorem impl_ResText.calls (k : Nat) (a0_0 : Int) (A0_1 : Option Addr) (c0_1 : Nat) (l0_1 : List Int) (r : ByteArray) (w : World) (hr0_1 : Kd.C (Kd.int .i64) w A0_1 l0_1.length l0_1) (hc0_1 : l0_1.length ≤ c0_1) (h : impl_ResText.f k a0_0 l0_1 = some r) (htab : Tryd.TB w) :
  Calls Tryd.prog 10 #[.agg #[.int .i64 a0_0, .slice A0_1 l0_1.length c0_1]] w fun e w' => e = .returned (.string r) ∧ Below w.heap.size w w' := by
 have HTAB : Aside0 (∀ w', Below w.heap.size w w' → Tryd.TB w') := ⟨fun w' hb => Tryd.TB.below htab hb⟩
 clear htab
 have hu27 := Tryd.underlying27
 have HR0_1 := aM hr0_1
 have HC0_1 := aM hc0_1
 clear hr0_1 hc0_1
 have HB := aM (Below.refl w.heap.size w)
 have H : ((impl_in.f a0_0 1 3).bind fun t124 => (if t124 = true then (if (l0_1.length : Int) > 6 then (impl_ResText.j0 k true a0_0 l0_1) else (if a0_0 = 1 then ((impl_within.f l0_1 (l0_1.length : Int) 999999999999).bind fun t125 => (impl_ResText.j0 k (!t125) a0_0 l0_1)) else (if (l0_1.length : Int) > 0 then (impl_ResText.j0 k true a0_0 l0_1) else ((impl_within.f l0_1 (l0_1.length : Int) 999999999999).bind fun t126 => (impl_ResText.j0 k (!t126) a0_0 l0_1))))) else (impl_ResText.j0 k true a0_0 l0_1))) = some r := h
 clear h
 have HC2 := aM H
 clear H
 go_enter Tryd.func10, Tryd.ntmps10
 go_upto_region 1 with (first | ((with_reducible refine gate_dst (N := 1) rfl ?_); (try (refine gate_guard (by rfl) ?_; dsimp only)); refine bx 1 #[.int .i64 a0_0, .slice A0_1 l0_1.length c0_1] 27 ?_; intro gb123 hg w3 hbox hb; have BK123 := aM (hbox); have GW123 := aM ((gz hg HB.out)); have IGW123 : Nonempty _ := ⟨GW123.out⟩; have GE123 := aM ((gz hg HB.out)); have IGE123 : Nonempty _ := ⟨GE123.out⟩; replace HB := aM (bj HB.out hb); clear hb hbox hg))
 (try simp only [Act.put, sA, s0, sS])
 go_cut [32] (fun v32 wc => ∃ (kq : Nat) (x32_1 : Bool), v32 = .bool x32_1 ∧ Aside0 (impl_ResText.j0 kq x32_1 a0_0 l0_1 = some r) ∧ Aside0 (kq ≤ k) ∧ Aside0 (wc.heap[gb123]? = some (.cells #[.int .i64 a0_0, (.slice A0_1 l0_1.length c0_1)] 27 (0, 0))) ∧ Aside0 (Below w.heap.size w wc))
 case first =>
  have H := HC2.out
  clear HC2
  obtain ⟨t124, A4, H⟩ := bS H
  try dsimp only at H
  by_cases c5 : t124 = true
  ·subst c5
   rw [if_pos rfl] at H
   try dsimp only at H
   by_cases c6 : (l0_1.length : Int) > 6
   ·rw [if_pos c6] at H
    have c6b0 := decide_eq_true c6
    have c6b1 : decide (6 < l0_1.length) = true := decide_eq_true (by omega)
    clear c6
    (first | rw [c6b0] | (simp only [i64_w, i32_w]; rw [c6b0]) | rw [c6b1] | skip)
    have H' := aM H
    clear H
    obtain ⟨hcz7_0, hcz7_1, hfz7_0, hfz7_1⟩ := cf2 BK123.out
    go_wp2_with (first | ((with_reducible refine gate_callee (f := 26) rfl ?_); refine gL (some 5) Tryd.func26 #[.int .i64 a0_0, .int .i64 1, .int .i64 3] ?_; (with_reducible refine (impl_in.calls a0_0 1 3 true _ A4.out).mono ?_); rintro e w' ⟨rfl, ⟨nd, rfl⟩⟩; refine ⟨_, rfl, ?_⟩))
    go_meet
    case rel => exact ⟨_, (true), (by first | rfl | (simp; done) | (simp [*]; done)), H', ⟨by first | omega | exact Nat.le_refl _⟩, ⟨by exact lK <| BK123.out⟩, ⟨by exact jB HB.out⟩⟩
   ·rw [if_neg c6] at H
    have c6b0 := decide_eq_false c6
    have c6b1 : decide (6 < l0_1.length) = false := decide_eq_false (by omega)
    clear c6
    (first | rw [c6b0] | (simp only [i64_w, i32_w]; rw [c6b0]) | rw [c6b1] | skip)
    by_cases c8 : a0_0 = 1
    ·rw [if_pos c8] at H
     have c8b0 := beq_iff_eq.mpr c8
     have c8b1 := bne_eq_false_iff_eq.mpr c8
     clear c8
     obtain ⟨t125, A9, H⟩ := bS H
     try dsimp only at H
     have H' := aM H
     clear H
     obtain ⟨hcz10_0, hcz10_1, hfz10_0, hfz10_1⟩ := cf2 BK123.out
     go_wp2_with (first | ((with_reducible refine gate_callee (f := 26) rfl ?_); refine gL (some 5) Tryd.func26 #[.int .i64 a0_0, .int .i64 1, .int .i64 3] ?_; (with_reducible refine (impl_in.calls a0_0 1 3 true _ A4.out).mono ?_); rintro e w' ⟨rfl, ⟨nd, rfl⟩⟩; refine ⟨_, rfl, ?_⟩) | (go_at_call 27; (with_reducible refine (impl_within.calls _ _ l0_1 (l0_1.length : Int) 999999999999 t125 _ ?side1 ?side2 A9.out).mono ?_); (case side1 => repeat (first | exact (Kd.C_below HR0_1.out (by exact jB HB.out)) | (with_reducible refine Kd.C_alloc ?_ _) | (with_reducible refine Kd.C_drewN ?_ _) | (with_reducible refine Kd.C_drew ?_))); (case side2 => exact HC0_1.out); rintro e w11 ⟨rfl, hb⟩; replace BK123 := aM (bb BK123.out hb); replace HB := aM (bj HB.out hb); (try clear hb)))
     go_meet
     case rel => exact ⟨_, (!t125), (by first | rfl | (simp; done) | (simp [*]; done)), H', ⟨by first | omega | exact Nat.le_refl _⟩, ⟨by exact lK <| BK123.out⟩, ⟨by exact jB HB.out⟩⟩
    ·rw [if_neg c8] at H
     have c8b0 := beq_eq_false_iff_ne.mpr c8
     have c8b1 := bne_iff_ne.mpr c8
     by_cases c12 : (l0_1.length : Int) > 0
     ·rw [if_pos c12] at H
      have c12b0 := decide_eq_true c12
      have c12b1 : decide (0 < l0_1.length) = true := decide_eq_true (by omega)
      clear c12
      have H' := aM H
      clear H
      obtain ⟨hcz13_0, hcz13_1, hfz13_0, hfz13_1⟩ := cf2 BK123.out
      go_wp2_with (first | ((with_reducible refine gate_callee (f := 26) rfl ?_); refine gL (some 5) Tryd.func26 #[.int .i64 a0_0, .int .i64 1, .int .i64 3] ?_; (with_reducible refine (impl_in.calls a0_0 1 3 true _ A4.out).mono ?_); rintro e w' ⟨rfl, ⟨nd, rfl⟩⟩; refine ⟨_, rfl, ?_⟩))
      go_meet
      case rel => exact ⟨_, (true), (by first | rfl | (simp; done) | (simp [*]; done)), H', ⟨by first | omega | exact Nat.le_refl _⟩, ⟨by exact lK <| BK123.out⟩, ⟨by exact jB HB.out⟩⟩
     ·rw [if_neg c12] at H
      have c12b0 := decide_eq_false c12
      have c12b1 : decide (0 < l0_1.length) = false := decide_eq_false (by omega)
      clear c12
      obtain ⟨t126, A14, H⟩ := bS H
      try dsimp only at H
      have H' := aM H
      clear H
      obtain ⟨hcz15_0, hcz15_1, hfz15_0, hfz15_1⟩ := cf2 BK123.out
      go_wp2_with (first | ((with_reducible refine gate_callee (f := 26) rfl ?_); refine gL (some 5) Tryd.func26 #[.int .i64 a0_0, .int .i64 1, .int .i64 3] ?_; (with_reducible refine (impl_in.calls a0_0 1 3 true _ A4.out).mono ?_); rintro e w' ⟨rfl, ⟨nd, rfl⟩⟩; refine ⟨_, rfl, ?_⟩) | (go_at_call 27; (with_reducible refine (impl_within.calls _ _ l0_1 (l0_1.length : Int) 999999999999 t126 _ ?side1 ?side2 A14.out).mono ?_); (case side1 => repeat (first | exact (Kd.C_below HR0_1.out (by exact jB HB.out)) | (with_reducible refine Kd.C_alloc ?_ _) | (with_reducible refine Kd.C_drewN ?_ _) | (with_reducible refine Kd.C_drew ?_))); (case side2 => exact HC0_1.out); rintro e w16 ⟨rfl, hb⟩; replace BK123 := aM (bb BK123.out hb); replace HB := aM (bj HB.out hb); (try clear hb)))
      go_meet
      case rel => exact ⟨_, (!t126), (by first | rfl | (simp; done) | (simp [*]; done)), H', ⟨by first | omega | exact Nat.le_refl _⟩, ⟨by exact lK <| BK123.out⟩, ⟨by exact jB HB.out⟩⟩
  ·replace c5 := Bool.eq_false_iff.mpr c5
   subst c5
   rw [if_neg nf] at H
   try dsimp only at H
   have H' := aM H
   clear H
   obtain ⟨hcz17_0, hcz17_1, hfz17_0, hfz17_1⟩ := cf2 BK123.out
   go_wp2_with (first | ((with_reducible refine gate_callee (f := 26) rfl ?_); refine gL (some 5) Tryd.func26 #[.int .i64 a0_0, .int .i64 1, .int .i64 3] ?_; (with_reducible refine (impl_in.calls a0_0 1 3 false _ A4.out).mono ?_); rintro e w' ⟨rfl, ⟨nd, rfl⟩⟩; refine ⟨_, rfl, ?_⟩))
   go_meet
   case rel => exact ⟨_, (true), (by first | rfl | (simp; done) | (simp [*]; done)), H', ⟨by first | omega | exact Nat.le_refl _⟩, ⟨by exact lK <| BK123.out⟩, ⟨by exact jB HB.out⟩⟩
 case rest =>
  clear HC2
  try clear c1
  try clear c2
  try clear p2
  try clear c5
  try clear c6
  try clear c6b0
  try clear c6b1
  try clear c8
  try clear c8b0
  try clear c8b1
  try clear c10
  try clear c12
  try clear c12b0
  try clear c12b1
  try clear hcz10_0
  try clear hcz10_1
  try clear hcz13_0
  try clear hcz13_1
  try clear hcz15_0
  try clear hcz15_1
  try clear hcz17_0
  try clear hcz17_1
  try clear hcz7_0
  try clear hcz7_1
  try clear hfz10_0
  try clear hfz10_1
  try clear hfz13_0
  try clear hfz13_1
  try clear hfz15_0
  try clear hfz15_1
  try clear hfz17_0
  try clear hfz17_1
  try clear hfz7_0
  try clear hfz7_1
  obtain ⟨kq, x32_1, rfl, HA, HJ1, BK123, HB⟩ := hcut
  cases kq with
  | zero => exact absurd HA.out (by simp [impl_ResText.j0])
  | succ kj1 =>
   have H := HA.out
   clear HA
   simp only [impl_ResText.j0] at H
   by_cases c18 : x32_1 = true
   ·subst c18
    rw [if_pos rfl] at H
    try dsimp only at H
    obtain rfl := Option.some.inj H
    go_wp2
    go_ret
    exact ⟨er, by exact jB HB.out⟩
   ·replace c18 := Bool.eq_false_iff.mpr c18
    subst c18
    rw [if_neg nf] at H
    try dsimp only at H
    obtain ⟨t127, A19, H⟩ := bS H
    try dsimp only at H
    by_cases c20 : 0 ≤ a0_0
    ·rw [if_pos c20] at H
     have c20b0 := decide_eq_true c20
     clear c20
     by_cases c21 : a0_0 < (t127.length : Int)
     ·rw [if_pos c21] at H
      have c21b0 := decide_eq_true c21
      clear c21
      obtain ⟨t131, A22, H⟩ := bS H
      try dsimp only at H
      by_cases c23 : (rdOf ByteArray.empty t127 a0_0).size + t131.size ≤ 9223372036854775807
      ·rw [if_pos c23] at H
       have c23b0 := eq_true c23
       have c23b1 := decide_eq_true c23
       try have c23b2 : (9223372036854775807 < (rdOf ByteArray.empty t127 a0_0).size + t131.size) = False := eq_false (Nat.not_lt.2 c23)
       obtain rfl := Option.some.inj H
       try go_wp2
       replace BK123 := aM (blk_drew BK123.out)
       replace HB := aM (below_drew1 HB.out)
       refine start_ (n := 10) (S := fun w' => w'.cell? ⟨gb123, 0, none⟩ = some (.int .i64 a0_0) ∧ w'.cell? ⟨gb123, 1, none⟩ = some (.slice A0_1 l0_1.length c0_1)) (ds := []) #[false, false, false, false, false, false, false, false, false, false] (by kernel_rfl) rfl rfl ⟨(blk_cell BK123.out 0).trans rfl, (blk_cell BK123.out 1).trans rfl⟩ (fun hHeld => ?_); refine with_tabW impl_ResText.tab3 impl_ResText.bits3 (fun HT_ HW_ => ?_)
       generalize wc.drew = w24 at BK123 HB hHeld ⊢
       refine pure_ (i := 1) (N := some 34) (v := ?_) (a' := ?_) #[false, true, false, false, false, false, false, false, false, false] rfl rfl (any_of HT_.out (by kernel_rfl)) (fun _ _ _ h => h) (Or.inl ⟨by rfl, ?_⟩) ?_ ?_
       rotate_left
       ·intro w'
        go_simp
        with_reducible rfl
       rotate_left
       ·simp only [Act.put, sA, s0, sS, i64_w, i32_w]
        rfl
       refine pure_ (i := 5) (N := some 38) (v := ?_) (a' := ?_) #[false, true, false, false, false, true, false, false, false, false] rfl rfl (any_of HT_.out (by kernel_rfl)) (fun _ _ _ h => h) (Or.inl ⟨by rfl, ?_⟩) ?_ ?_
       rotate_left
       ·intro w'
        go_simp
        with_reducible rfl
       rotate_left
       ·simp only [Act.put, sA, s0, sS, i64_w, i32_w]
        rfl
       refine take_ (i := 2) (N := some 35) (v := ?_) (a' := ?_) #[false, true, true, false, false, true, false, false, false, false] rfl rfl (take_ofW HT_.out HW_.out (by kernel_rfl)) (fun _ _ _ h => h) (Or.inl ⟨by rfl, ?_⟩) hHeld ?_ ?_
       rotate_left
       ·rintro w' ⟨s0, s1⟩
        go_simp
        with_reducible rfl
       rotate_left
       ·simp only [Act.put, sA, s0, sS, i64_w, i32_w]
        rfl
       refine take_ (i := 6) (N := some 39) (v := ?_) (a' := ?_) #[false, true, true, false, false, true, true, false, false, false] rfl rfl (take_ofW HT_.out HW_.out (by kernel_rfl)) (fun _ _ _ h => h) (Or.inl ⟨by rfl, ?_⟩) hHeld ?_ ?_
       rotate_left
       ·rintro w' ⟨s0, s1⟩
        go_simp
        with_reducible rfl
       rotate_left
       ·simp only [Act.put, sA, s0, sS, i64_w, i32_w]
        rfl
       refine one_ (i := 0) (N := some 33) #[true, true, true, false, false, true, true, false, false, false] rfl rfl (one_of HT_.out (by kernel_rfl)) (by decide) (fun K hK => ?_)
       refine goes_ Tryd.func28 (by kernel_rfl) rfl #[] (by rfl) rfl rfl (by (try simp only [mA, mC, mN]); first | done | rfl | (simp only [ld, lt]; rfl)) ?_
       with_reducible refine (impl_codeWords.calls  t127 _ A19.out).mono ?_
       rintro e w25 ⟨v128, rfl, ho0, hb⟩
       refine ⟨_, rfl, ?_⟩
       have HO129 := aM (Kd.R_lower ho0 (below_size (by exact jB HB.out)))
       replace BK123 := aM (bb BK123.out hb)
       replace HB := aM (bj HB.out hb)
       (try clear hb)
       (try clear hb2)
       (try clear hk)
       (try clear hi)
       (try clear ho0)
       obtain ⟨Ao26, co26, eo26⟩ := Kd.R_slice HO129.out
       (first | subst eo26 | (injection eo26 with f1_ f2_ f3_; have f4_ := f1_.symm; have f5_ := f3_.symm; clear f1_ f2_ f3_; subst f4_; subst f5_))
       have p130 : 0 ≤ (a0_0 : Int) := of_decide_eq_true (by first | (with_reducible assumption) | assumption)
       have q130 : a0_0 < (t127.length : Int) := of_decide_eq_true (by first | (with_reducible assumption) | assumption)
       obtain ⟨ad130, e130, hx130_0⟩ := Kd.at_string (Kd.R_reads' HO129.out).2.2 a0_0 p130 q130
       cases e130
       replace p130 := eq_true p130
       replace q130 := eq_true q130
       refine hK.out _ _ ⟨(blk_cell BK123.out 0).trans rfl, (blk_cell BK123.out 1).trans rfl⟩ (fun hHeld => ?_)
       refine stronger_ (S2 := fun w' => w'.cell? ⟨gb123, 0, none⟩ = some (.int .i64 a0_0) ∧ w'.cell? ⟨gb123, 1, none⟩ = some (.slice A0_1 l0_1.length c0_1) ∧ w'.cell? (ad130.add (a0_0).toNat) = some (.string (rdOf ByteArray.empty t127 a0_0))) (fun _ h => ⟨h.1, h.2.1⟩) _ _ _ _ ⟨hHeld.1, hHeld.2, hx130_0⟩ ?_
       replace hHeld := And.intro hHeld.1 (And.intro hHeld.2 hx130_0)
       clear hK K
       refine norm_ (a' := ?_) ?_ ?_
       rotate_left
       ·show Act.put _ (some 33) _ = _
        simp only [Act.put, sA, s0, sS, i64_w, i32_w]
        rfl
       refine pure_ (i := 3) (N := some 36) (v := ?_) (a' := ?_) #[true, true, true, true, false, true, true, false, false, false] rfl rfl (any_of HT_.out (by kernel_rfl)) (fun _ _ _ h => h) (Or.inl ⟨by rfl, ?_⟩) ?_ ?_
       rotate_left
       ·intro w'
        go_simp
        with_reducible rfl
       rotate_left
       ·simp only [Act.put, sA, s0, sS, i64_w, i32_w]
        rfl
       refine take_ (i := 4) (N := some 37) (v := ?_) (a' := ?_) #[true, true, true, true, true, true, true, false, false, false] rfl rfl (take_ofW HT_.out HW_.out (by kernel_rfl)) (fun _ _ _ h => h) (Or.inl ⟨by rfl, ?_⟩) hHeld ?_ ?_
       rotate_left
       ·rintro w' ⟨s0, s1, s2⟩
        go_simp
        with_reducible rfl
       rotate_left
       ·simp only [Act.put, sA, s0, sS, i64_w, i32_w]
        rfl
       refine one_ (i := 7) (N := some 40) #[true, true, true, true, true, true, true, true, false, false] rfl rfl (one_of HT_.out (by kernel_rfl)) (by decide) (fun K hK => ?_)
       refine goes_ Tryd.func29 (by kernel_rfl) rfl #[.slice A0_1 l0_1.length c0_1] (by rfl) rfl rfl (by (try simp only [mA, mC, mN]); first | done | rfl | (simp only [ld, lt]; rfl)) ?_
       with_reducible refine (impl_joined.calls _ _ l0_1 t131 _ ?side1 ?side2 A22.out (HTAB.out _ (by exact jB HB.out))).mono ?_
       (case side1 => exact lC <| (Kd.C_below HR0_1.out HB.out))
       (case side2 => exact HC0_1.out)
       rintro e w27 ⟨rfl, hb⟩
       have HS2_ := (hb.cell (World.block_lt_of_cell? _ _ (hHeld.2.2))).trans (hHeld.2.2)
       refine ⟨_, rfl, ?_⟩
       replace HO129 := aM (rb HO129.out hb)
       replace BK123 := aM (bb BK123.out hb)
       replace HB := aM (bj HB.out hb)
       (try clear hb)
       (try clear hb2)
       (try clear hk)
       (try clear hi)
       refine hK.out _ _ ⟨(blk_cell BK123.out 0).trans rfl, (blk_cell BK123.out 1).trans rfl, HS2_⟩ (fun hHeld => ?_)
       clear hK K
       refine norm_ (a' := ?_) ?_ ?_
       rotate_left
       ·show Act.put _ (some 40) _ = _
        simp only [Act.put, sA, s0, sS, i64_w, i32_w]
        rfl
       refine pure_ (i := 8) (N := some 41) (v := ?_) (a' := ?_) #[true, true, true, true, true, true, true, true, true, false] rfl rfl (any_of HT_.out (by kernel_rfl)) (fun _ _ _ h => h) (Or.inl ⟨by rfl, ?_⟩) ?_ ?_
       rotate_left
       ·intro w'
        go_simp
        with_reducible rfl
       rotate_left
       ·simp only [Act.put, sA, s0, sS, i64_w, i32_w]
        rfl
       refine pure_ (i := 9) (N := some 2) (v := ?_) (a' := ?_) #[true, true, true, true, true, true, true, true, true, true] rfl rfl (any_of HT_.out (by kernel_rfl)) (fun _ _ _ h => h) (Or.inl ⟨by rfl, ?_⟩) ?_ ?_
       rotate_left
       ·intro w'
        go_simp
        with_reducible rfl
       rotate_left
       ·simp only [Act.put, sA, s0, sS, i64_w, i32_w]
        rfl
       refine done_ (done_of HT_.out (by kernel_rfl)) ?_
       try go_wp2
       go_ret
       exact ⟨er, by exact jB HB.out⟩
      ·rw [if_neg c23] at H
       exact absurd H (by simp)
     ·rw [if_neg c21] at H
      exact absurd H (by simp)
    ·rw [if_neg c20] at H
     exact absurd H (by simp)

/-! ### impl_ResOk: function 13 -/
def impl_ResOk.f (k : Nat) (a0_0 : Int) (l0_1 : List Int) : Option (Bool) := (impl_ResText.f k a0_0 l0_1).bind fun t133 => (some (t133.toList != ([] : List UInt8)))
theorem impl_ResOk.mono : ∀ a0 a1 k, LeO (impl_ResOk.f k a0 a1) (impl_ResOk.f (k + 1) a0 a1) := by
 intro a0 a1 k
 unfold impl_ResOk.f
 repeat' first
   | (with_reducible exact impl_ResText.mono _ _ _)
   | (with_reducible exact LeO.refl _)
   | (with_reducible exact LeO.none _)
   | (with_reducible refine LeO.ite ?_ ?_)
   | (with_reducible refine LeO.bind ?_ (fun _ => ?_))
   | exact LeO.none _
   | refine LeO.ite ?_ ?_
   | refine LeO.bind ?_ (fun _ => ?_)
theorem impl_ResOk.calls (k : Nat) (a0_0 : Int) (A0_1 : Option Addr) (c0_1 : Nat) (l0_1 : List Int) (r : Bool) (w : World) (hr0_1 : Kd.C (Kd.int .i64) w A0_1 l0_1.length l0_1) (hc0_1 : l0_1.length ≤ c0_1) (h : impl_ResOk.f k a0_0 l0_1 = some r) (htab : Tryd.TB w) :
  Calls Tryd.prog 13 #[.agg #[.int .i64 a0_0, .slice A0_1 l0_1.length c0_1]] w fun e w' => e = .returned (.bool r) ∧ Below w.heap.size w w' := by
 have HTAB : Aside0 (∀ w', Below w.heap.size w w' → Tryd.TB w') := ⟨fun w' hb => Tryd.TB.below htab hb⟩
 clear htab
 have hu27 := Tryd.underlying27
 have HR0_1 := aM hr0_1
 have HC0_1 := aM hc0_1
 clear hr0_1 hc0_1
 have HB := aM (Below.refl w.heap.size w)
 have H : ((impl_ResText.f k a0_0 l0_1).bind fun t133 => (some (t133.toList != ([] : List UInt8)))) = some r := h
 clear h
 obtain ⟨t133, A2, H⟩ := bS H
 try dsimp only at H
 obtain rfl := Option.some.inj H
 go_enter Tryd.func13, Tryd.ntmps13
 go_wp2_with (first | ((with_reducible refine gate_dst (N := 1) rfl ?_); refine bx 1 #[.int .i64 a0_0, .slice A0_1 l0_1.length c0_1] 27 ?_; intro gb132 hg w3 hbox hb; have BK132 := aM (hbox); have GW132 := aM ((gz hg HB.out)); have IGW132 : Nonempty _ := ⟨GW132.out⟩; have GE132 := aM ((gz hg HB.out)); have IGE132 : Nonempty _ := ⟨GE132.out⟩; replace HB := aM (bj HB.out hb); clear hb hbox hg; obtain ⟨hcz4_0, hcz4_1, hfz4_0, hfz4_1⟩ := cf2 BK132.out) | ((with_reducible refine gate_callee (f := 10) rfl ?_); refine gL (some 4) Tryd.func10 #[.agg #[.int .i64 a0_0, .slice A0_1 l0_1.length c0_1]] ?_; (with_reducible refine (impl_ResText.calls k a0_0 _ _ l0_1 t133 _ ?side1 ?side2 A2.out (HTAB.out _ (by exact jB HB.out))).mono ?_); (case side1 => exact lC <| (Kd.C_below HR0_1.out HB.out)); (case side2 => exact HC0_1.out); rintro e w5 ⟨rfl, hb⟩; refine ⟨_, rfl, ?_⟩; replace BK132 := aM (bb BK132.out hb); replace HB := aM (bj HB.out hb); (try clear hb)))
 go_ret
 exact ⟨by first | exact er | (have hl_ : (t133.toList != ([] : List UInt8)) = !t133.toList.isEmpty := (by cases t133.toList <;> rfl); rw [hl_]; first | done | rfl | simp), by exact jB HB.out⟩

/-! ### spec_l1Words: function 31 -/
def spec_l1Words.l0 : Nat → ByteArray → List ByteArray → ByteArray → Int → Option (List ByteArray)
 | 0, _, _, _, _ => none
 | k + 1, x0, x3, x4, x5 => if x5 < (x0.size : Int) then (if 0 ≤ x5 then (if (bt x0 x5) = 32 then (if x3.length < 8796093022208 then (spec_l1Words.l0 k x0 (x3 ++ [x4]) (⟨#[]⟩ : ByteArray) (wrap64 (x5 + 1))) else (none)) else ((some (([bt x0 x5] : List Int) : List Int)).bind fun y140 => (if x4.size + (strOfNums y140).size ≤ 9223372036854775807 then (spec_l1Words.l0 k x0 x3 (x4 ++ (strOfNums y140)) (wrap64 (x5 + 1))) else (none)))) else (none)) else (if x3.length < 8796093022208 then (some (x3 ++ [x4])) else (none))
def spec_l1Words.f (k : Nat) (a0 : ByteArray) : Option (List ByteArray) := (some (([] : List ByteArray) : List ByteArray)).bind fun y134 => (if (a0.size : Int) > 120 then (some y134) else (spec_l1Words.l0 k a0 y134 (⟨#[]⟩ : ByteArray) 0))
theorem spec_l1Words.mono_l : ∀ k, (∀ y0 y1 y2 y3, LeO (spec_l1Words.l0 k y0 y1 y2 y3) (spec_l1Words.l0 (k + 1) y0 y1 y2 y3))
 | 0 => fun _ _ _ _ r h => by simp [spec_l1Words.l0] at h
 | k + 1 => by
  have ih0 := spec_l1Words.mono_l k
  ·intro y0 y1 y2 y3
   unfold spec_l1Words.l0
   repeat' first
   | (with_reducible exact ih0 _ _ _ _)
   | (with_reducible exact LeO.refl _)
   | (with_reducible exact LeO.none _)
   | (with_reducible refine LeO.ite ?_ ?_)
   | (with_reducible refine LeO.bind ?_ (fun _ => ?_))
   | exact LeO.none _
   | refine LeO.ite ?_ ?_
   | refine LeO.bind ?_ (fun _ => ?_)
theorem spec_l1Words.mono : ∀ a0 k, LeO (spec_l1Words.f k a0) (spec_l1Words.f (k + 1) a0) := by
 intro a0 k
 have ih0 := spec_l1Words.mono_l k
 unfold spec_l1Words.f
 repeat' first
   | (with_reducible exact ih0 _ _ _ _)
   | (with_reducible exact LeO.refl _)
   | (with_reducible exact LeO.none _)
   | (with_reducible refine LeO.ite ?_ ?_)
   | (with_reducible refine LeO.bind ?_ (fun _ => ?_))
   | exact LeO.none _
   | refine LeO.ite ?_ ?_
   | refine LeO.bind ?_ (fun _ => ?_)
theorem spec_l1Words.calls (k : Nat) (a0 : ByteArray) (r : List ByteArray) (w : World) (h : spec_l1Words.f k a0 = some r) :
  Calls Tryd.prog 31 #[.string a0] w fun e w' => ∃ v0_ : Value, e = .returned (v0_) ∧ Kd.R Kd.string 9 w' w.heap.size (fun _ => True) v0_ r ∧ Below w.heap.size w w' := by
 have HB := aM (Below.refl w.heap.size w)
 have H : ((some (([] : List ByteArray) : List ByteArray)).bind fun y134 => (if (a0.size : Int) > 120 then (some y134) else (spec_l1Words.l0 k a0 y134 (⟨#[]⟩ : ByteArray) 0))) = some r := h
 clear h
 obtain ⟨y134, hy134⟩ : ∃ y_ : List ByteArray, y_ = (([] : List ByteArray)) := ⟨_, rfl⟩
 replace H : (if (a0.size : Int) > 120 then (some y134) else (spec_l1Words.l0 k a0 y134 (⟨#[]⟩ : ByteArray) 0)) = some r := by first | (rw [hy134]; exact H) | exact H
 have Ny134 := aM hy134
 clear hy134
 by_cases c2 : (a0.size : Int) > 120
 ·rw [if_pos c2] at H
  have c2b0 := decide_eq_true c2
  have c2b1 : decide (120 < a0.size) = true := decide_eq_true (by omega)
  clear c2
  obtain rfl := Option.some.inj H
  go_enter Tryd.func31, Tryd.ntmps31
  go_wp2_with (first | ((with_reducible refine gate_dst (N := 6) rfl ?_); refine Kd.R_lit Kd.string _ 9 ?hg (N := 6) ?hd (xs := ([] : List ByteArray)) (inner := []) (ok := fun _ => True) (okp := fun _ => True) ?hr ?hp (fun _ hk => hk) trivial (Below.refl _ _) (Nat.le_refl _) (by simp) ?_; (case hd => rfl); (case hg => rfl); (case hr => first | (go_simp; done) | (go_simp; rfl)); (case hp => exact (Reps.none _ _)); intro v135 w3 ho4 hb hg_ hnew_; clear hg_ hnew_; (first | rw [← Ny134.out] at ho4 | (simp only [Int.reduceToNat] at ho4; rw [← Ny134.out] at ho4)); have HO136 := aM (Kd.R_lower ho4 (below_size (by exact lB HB.out))); replace HB := aM (bj HB.out hb); clear hb ho4))
  go_ret
  exact ⟨_, er, by exact lR <| HO136.out, by exact lB HB.out⟩
 ·rw [if_neg c2] at H
  have c2b0 := decide_eq_false c2
  have c2b1 : decide (120 < a0.size) = false := decide_eq_false (by omega)
  clear c2
  have H' := aM H
  clear H
  go_enter Tryd.func31, Tryd.ntmps31
  go_wp2_with (first | ((with_reducible refine gate_dst (N := 6) rfl ?_); refine Kd.R_lit Kd.string _ 9 ?hg (N := 6) ?hd (xs := ([] : List ByteArray)) (inner := []) (ok := fun _ => True) (okp := fun _ => True) ?hr ?hp (fun _ hk => hk) trivial (Below.refl _ _) (Nat.le_refl _) (by simp) ?_; (case hd => rfl); (case hg => rfl); (case hr => first | (go_simp; done) | (go_simp; rfl)); (case hp => exact (Reps.none _ _)); intro v135 w5 ho6 hb hg_ hnew_; clear hg_ hnew_; (first | rw [← Ny134.out] at ho6 | (simp only [Int.reduceToNat] at ho6; rw [← Ny134.out] at ho6)); have HO136 := aM (Kd.R_lower ho6 (below_size (by exact lB HB.out))); replace HB := aM (bj HB.out hb); clear hb ho6))
  go_loopg [3, 4, 5] k (fun kq v3 v4 v5 w' => ∃ (x3_1 : List ByteArray) (x4_1 : ByteArray) (x5_1 : Int), v4 = .string x4_1 ∧ v5 = .int .i64 x5_1 ∧ Aside0 (spec_l1Words.l0 kq a0 x3_1 x4_1 x5_1 = some r) ∧ Aside0 (kq ≤ k) ∧ Aside0 (Kd.R Kd.string 9 w' w.heap.size (fun _ => True) v3 x3_1) ∧ Aside0 (Below w.heap.size w w'))
  case atStart => exact ⟨(y134), ((⟨#[]⟩ : ByteArray)), (0), (by first | rfl | (simp; done) | (simp [*]; done)), (by first | rfl | (simp; done) | (simp [*]; done)), H', ⟨Nat.le_refl _⟩, ⟨by exact lR <| HO136.out⟩, ⟨by exact lB HB.out⟩⟩
  case round =>
   clear H'
   try clear c2
   try clear c2b0
   try clear c2b1
   try clear p2
   try clear c3
   obtain ⟨x3_1, x4_1, x5_1, rfl, rfl, HA, HK1, HO_3, HB⟩ := hrel
   cases gk with
   | zero => exact absurd HA.out (by simp [spec_l1Words.l0])
   | succ k1 =>
    have H := HA.out
    clear HA
    simp only [spec_l1Words.l0] at H
    by_cases c7 : x5_1 < (a0.size : Int)
    ·rw [if_pos c7] at H
     have c7b0 := decide_eq_true c7
     clear c7
     by_cases c8 : 0 ≤ x5_1
     ·rw [if_pos c8] at H
      have c8b0 := decide_eq_true c8
      clear c8
      by_cases c10 : (bt a0 x5_1) = 32
      ·rw [if_pos c10] at H
       have c10b0 := beq_iff_eq.mpr c10
       have c10b1 := bne_eq_false_iff_eq.mpr c10
       clear c10
       by_cases c11 : x3_1.length < 8796093022208
       ·rw [if_pos c11] at H
        have LMc11 := aM c11
        clear c11
        obtain ⟨y137, hy137⟩ : ∃ y_ : List ByteArray, y_ = (x3_1 ++ [x4_1]) := ⟨_, rfl⟩
        replace H : (spec_l1Words.l0 k1 a0 y137 (⟨#[]⟩ : ByteArray) (wrap64 (x5_1 + 1))) = some r := by first | (rw [hy137]; exact H) | exact H
        have Ny137 := aM hy137
        clear hy137
        have H' := aM H
        clear H
        have p9 : 0 ≤ (x5_1 : Int) := of_decide_eq_true (by first | (with_reducible assumption) | assumption)
        have q9 : x5_1 < (a0.size : Int) := of_decide_eq_true (by first | (with_reducible assumption) | assumption)
        have hx9 := bt_at a0 x5_1
        replace p9 := eq_true p9
        replace q9 := eq_true q9
        go_wp2_with (first | ((with_reducible refine gate_builtin (b := .append) (xs := #[.tmp 21, .tmp 23]) rfl ?_); at_builtin; refine Kd.R_append Kd.string (w0 := w) w.heap.size rfl (.tmp 21) (.tmp 23) 41 9 (.string ⟨#[]⟩) 16 rfl Tryd.underlying41 info9 rfl (by decide) (by omega) u3 x3_1 x4_1 [.string x4_1] (fun _ => True) (fun _ => False) rfl rfl ?aP (fun _ hk => hk.elim) ?aF ?aO ?aB ?aS ?aL ?_; (case aP => exact rfl); (case aB => exact (by exact lB HB.out)); (case aF => exact (fun _ _ => trivial)); (case aO => exact (by exact lR HO_3.out)); (case aS => exact (below_size (by exact lB HB.out))); (case aL => have := LMc11.out; omega); intro v138 w12 ho hb hg hat; rw [← Ny137.out] at ho; replace HB := aM (hb); have HO139 := aM (ho); clear HO_3 ho hb hg hat))
        go_roundg k1
        case measure => have := HK1.out; omega
        case rel => exact ⟨(y137), ((⟨#[]⟩ : ByteArray)), (wrap64 (x5_1 + 1)), (by first | rfl | (simp; done) | (simp [*]; done)), (by first | rfl | (simp; done) | (simp [*]; done)), H', ⟨by have := HK1.out; omega⟩, ⟨by exact lR <| HO139.out⟩, ⟨by exact lB HB.out⟩⟩
       ·rw [if_neg c11] at H
        exact absurd H (by simp)
      ·rw [if_neg c10] at H
       have c10b0 := beq_eq_false_iff_ne.mpr c10
       have c10b1 := bne_iff_ne.mpr c10
       obtain ⟨y140, hy140⟩ : ∃ y_ : List Int, y_ = (([bt a0 x5_1] : List Int)) := ⟨_, rfl⟩
       try rw [← hy140] at H
       try dsimp only [Option.bind_some] at H
       have Ny140 := aM hy140
       clear hy140
       by_cases c14 : x4_1.size + (strOfNums y140).size ≤ 9223372036854775807
       ·rw [if_pos c14] at H
        have c14b0 := eq_true c14
        have c14b1 := decide_eq_true c14
        try have c14b2 : (9223372036854775807 < x4_1.size + (strOfNums y140).size) = False := eq_false (Nat.not_lt.2 c14)
        have H' := aM H
        clear H
        have p9 : 0 ≤ (x5_1 : Int) := of_decide_eq_true (by first | (with_reducible assumption) | assumption)
        have q9 : x5_1 < (a0.size : Int) := of_decide_eq_true (by first | (with_reducible assumption) | assumption)
        have hx9 := bt_at a0 x5_1
        replace p9 := eq_true p9
        replace q9 := eq_true q9
        have p13 : 0 ≤ (x5_1 : Int) := of_decide_eq_true (by first | (with_reducible assumption) | assumption)
        have q13 : x5_1 < (a0.size : Int) := of_decide_eq_true (by first | (with_reducible assumption) | assumption)
        have hx13 := bt_at a0 x5_1
        replace p13 := eq_true p13
        replace q13 := eq_true q13
        go_wp2_with (first | ((with_reducible refine gate_dst (N := 29) rfl ?_); refine Kd.R_lit (Kd.int .u8) _ 5 ?hg (N := 29) ?hd (xs := ([bt a0 x5_1] : List Int)) (inner := [.int .u8 (bt a0 x5_1)]) (ok := fun _ => True) (okp := fun _ => True) ?hr ?hp (fun _ hk => hk) trivial (Below.refl _ _) (Nat.le_refl _) (by simp) ?_; (case hd => rfl); (case hg => rfl); (case hr => first | (go_simp; done) | (go_simp; rfl)); (case hp => exact (Reps.one (show Kd.M (Kd.int .u8) _ _ _ (bt a0 x5_1) [.int .u8 (bt a0 x5_1)] from rfl) (Reps.none _ _))); intro v141 w15 ho16 hb hg_ hnew_; clear hg_ hnew_; (first | rw [← Ny140.out] at ho16 | (simp only [Int.reduceToNat] at ho16; rw [← Ny140.out] at ho16)); replace HO_3 := aM (rb HO_3.out hb); have HO142 := aM (Kd.R_lower ho16 (below_size (by exact lB HB.out))); replace HB := aM (bj HB.out hb); clear hb ho16; have hcv17 := own_string (P := Tryd.prog) Tryd.underlying36 Tryd.underlying5 Tryd.underlying9 (Kd.own_of_R HO142.out)))
        go_roundg k1
        case measure => have := HK1.out; omega
        case rel => exact ⟨(x3_1), (x4_1 ++ (strOfNums y140)), (wrap64 (x5_1 + 1)), (by first | rfl | (simp; done) | (simp [*]; done)), (by first | rfl | (simp; done) | (simp [*]; done)), H', ⟨by have := HK1.out; omega⟩, ⟨by exact lR <| HO_3.out⟩, ⟨by exact lB HB.out⟩⟩
       ·rw [if_neg c14] at H
        exact absurd H (by simp)
     ·rw [if_neg c8] at H
      exact absurd H (by simp)
    ·rw [if_neg c7] at H
     have c7b0 := decide_eq_false c7
     clear c7
     by_cases c18 : x3_1.length < 8796093022208
     ·rw [if_pos c18] at H
      have LMc18 := aM c18
      clear c18
      obtain ⟨y143, hy143⟩ : ∃ y_ : List ByteArray, y_ = (x3_1 ++ [x4_1]) := ⟨_, rfl⟩
      replace H : (some y143) = some r := by first | (rw [hy143]; exact H) | exact H
      have Ny143 := aM hy143
      clear hy143
      obtain rfl := Option.some.inj H
      go_wp2_with (first | ((with_reducible refine gate_builtin (b := .append) (xs := #[.tmp 32, .tmp 34]) rfl ?_); at_builtin; refine Kd.R_append Kd.string (w0 := w) w.heap.size rfl (.tmp 32) (.tmp 34) 41 9 (.string ⟨#[]⟩) 16 rfl Tryd.underlying41 info9 rfl (by decide) (by omega) u3 x3_1 x4_1 [.string x4_1] (fun _ => True) (fun _ => False) rfl rfl ?aP (fun _ hk => hk.elim) ?aF ?aO ?aB ?aS ?aL ?_; (case aP => exact rfl); (case aB => exact (by exact lB HB.out)); (case aF => exact (fun _ _ => trivial)); (case aO => exact (by exact lR HO_3.out)); (case aS => exact (below_size (by exact lB HB.out))); (case aL => have := LMc18.out; omega); intro v144 w19 ho hb hg hat; rw [← Ny143.out] at ho; replace HB := aM (hb); have HO145 := aM (ho); clear HO_3 ho hb hg hat))
      go_ret
      exact ⟨_, er, by exact lR <| HO145.out, by exact lB HB.out⟩
     ·rw [if_neg c18] at H
      exact absurd H (by simp)

end Go.Proofs.YtcafmfmlnfaogaaDoor.QFnResText

-- shorter
