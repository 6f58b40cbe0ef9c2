/- Plain functions, and that the Go code computes them: written by a program of this session over the seat's translation; the conditions stand in each theorem. -/
import Derived.Test.YtpmkbblibingiaaQFnExactActRunx0
import Derived.Test.YtpmkbblibingiaaQFnExactActRunx7
namespace Go.Proofs.Ytpmkbblibingiaa.QFnExactActRun
open Go.RowKit Go.Proofs.YtpmkbblibingiaaW.PrintWords Go.Proofs.YtpmkbblibingiaaW.PrintLast Go.Proofs.YtpmkbblibingiaaW.PrintMore Go.Proofs.Ytpmkbblibingiaa.HWords
attribute [local go_sem] max2_int min2_int max_two min_two max_three min_three max_four min_four   -- for this text's walks alone
set_option linter.unusedVariables false
set_option linter.unusedSimpArgs false

/-! ### laws_markActLineS: function 12, by hand -/
/-- What marking leaves of a world: blocks of whole numbers and of forms keep their sizes, forms their slices; all but P's blocks are as they were. -/
structure Marked (w0 : World) (P : Nat → Prop) (w W : World) : Prop where
  below : Below w0.heap.size w0 W
  kept : Kept w W P
  ints : ∀ (k : Nat) (cs : Array Value), w.heap[k]? = some (.cells cs 3 (0, 0)) → ∃ cs' : Array Value, W.heap[k]? = some (.cells cs' 3 (0, 0)) ∧ cs'.size = cs.size
  rows : ∀ (k : Nat) (cs : Array Value), w.heap[k]? = some (.cells cs 48 (0, 0)) → ∃ cs' : Array Value, W.heap[k]? = some (.cells cs' 48 (0, 0)) ∧ cs'.size = cs.size ∧ ∀ j, (j % 6 = 3 ∨ j % 6 = 4) → cs'[j]? = cs[j]?
theorem Marked.refl {w0 : World} {P : Nat → Prop} {w : World} (hB : Below w0.heap.size w0 w) : Marked w0 P w w := ⟨hB, Kept.refl _ _, fun _ cs h => ⟨cs, h, rfl⟩, fun _ cs h => ⟨cs, h, rfl, fun _ _ => rfl⟩⟩
theorem Marked.later {w0 : World} {P : Nat → Prop} {w W W' : World} (h : Marked w0 P w W) (hb : Below W.heap.size W W') : Marked w0 P w W' :=
  ⟨below_step h.below hb, h.kept.below hb, fun k cs hk => by obtain ⟨c, a, b⟩ := h.ints k cs hk; exact ⟨c, blk_below a hb, b⟩, fun k cs hk => by obtain ⟨c, a, b⟩ := h.rows k cs hk; exact ⟨c, blk_below a hb, b⟩⟩
theorem Marked.trans {w0 : World} {P : Nat → Prop} {w W W' : World} (h : Marked w0 P w W) (h' : Marked w0 P W W') : Marked w0 P w W' :=
  ⟨h'.below, h.kept.then_ h'.kept (fun _ hk => .inl hk), fun k cs hk => by obtain ⟨c, a, b⟩ := h.ints k cs hk; obtain ⟨c', a', b'⟩ := h'.ints k c a; exact ⟨c', a', b'.trans b⟩,
    fun k cs hk => by obtain ⟨c, a, b, d⟩ := h.rows k cs hk; obtain ⟨c', a', b', d'⟩ := h'.rows k c a; exact ⟨c', a', b'.trans b, fun j hj => (d' j hj).trans (d j hj)⟩⟩
theorem Marked.putInt {w0 : World} {P : Nat → Prop} {w W : World} (h : Marked w0 P w W) {b : Nat} (i : Nat) {cs : Array Value} (hc : W.heap[b]? = some (.cells cs 3 (0, 0))) (hb : w0.heap.size ≤ b) (hP : P b) (u : Value) : Marked w0 P w (W.setCell ⟨b, i, none⟩ u) :=
  ⟨h.below.setCell (p := ⟨b, i, none⟩) hb u, Kept.setCell (p := ⟨b, i, none⟩) h.kept (.inl hP) u,
   fun k cs0 hk => by
    obtain ⟨c, a, s⟩ := h.ints k cs0 hk
    by_cases e : k = b
    · subst e
      exact ⟨_, blk_put a i u rfl, by rw [Array.size_setIfInBounds, s]⟩
    · exact ⟨c, blk_far a (p := ⟨b, i, none⟩) e u, s⟩,
   fun k cs0 hk => by
    obtain ⟨c, a, s⟩ := h.rows k cs0 hk
    have e : k ≠ b := fun e => by subst e; rw [hc] at a; simp at a
    exact ⟨c, blk_far a (p := ⟨b, i, none⟩) e u, s⟩⟩
theorem Marked.putRow {w0 : World} {P : Nat → Prop} {w W : World} (h : Marked w0 P w W) {b : Nat} (i : Nat) {cs : Array Value} (hc : W.heap[b]? = some (.cells cs 48 (0, 0))) (hb : w0.heap.size ≤ b) (hP : P b) (hi : i % 6 ≠ 3 ∧ i % 6 ≠ 4) (u : Value) : Marked w0 P w (W.setCell ⟨b, i, none⟩ u) :=
  ⟨h.below.setCell (p := ⟨b, i, none⟩) hb u, Kept.setCell (p := ⟨b, i, none⟩) h.kept (.inl hP) u,
   fun k cs0 hk => by
    obtain ⟨c, a, s⟩ := h.ints k cs0 hk
    have e : k ≠ b := fun e => by subst e; rw [hc] at a; simp at a
    exact ⟨c, blk_far a (p := ⟨b, i, none⟩) e u, s⟩,
   fun k cs0 hk => by
    obtain ⟨c, a, s, d⟩ := h.rows k cs0 hk
    by_cases e : k = b
    · subst e
      refine ⟨_, blk_put a i u rfl, by rw [Array.size_setIfInBounds, s], fun j hj => ?_⟩
      rw [Array.getElem?_setIfInBounds_ne (fun e => by omega)]
      exact d j hj
    · exact ⟨c, blk_far a (p := ⟨b, i, none⟩) e u, s, d⟩⟩
/-- A slice of n whole numbers of one's own, by its shape alone. -/
def slotOk (w : World) (base : Nat) (P : Nat → Prop) (v : Value) (n : Nat) : Prop :=
  ∃ A c, v = .slice A n c ∧ n ≤ 9223372036854775807 ∧ (0 < n → ∃ (b : Nat) (cs : Array Value), A = some ⟨b, 0, none⟩ ∧ base ≤ b ∧ P b ∧ w.heap[b]? = some (.cells cs 3 (0, 0)) ∧ n ≤ cs.size)
theorem slotOk.go {w0 : World} {P Q : Nat → Prop} {w W : World} {base : Nat} {v : Value} {n : Nat} (hs : slotOk w base P v n) (h : Marked w0 Q w W) : slotOk W base P v n := by
  obtain ⟨A, c, e, hn, hp⟩ := hs
  refine ⟨A, c, e, hn, fun h0 => ?_⟩
  obtain ⟨b, cs, h1, h2, h3, h4, h5⟩ := hp h0
  obtain ⟨cs', a, s⟩ := h.ints b cs h4
  exact ⟨b, cs', h1, h2, h3, a, by omega⟩
theorem slotOk.mono {P Q : Nat → Prop} {w : World} {base : Nat} {v : Value} {n : Nat} (hs : slotOk w base P v n) (h : ∀ k, P k → Q k) : slotOk w base Q v n := by
  obtain ⟨A, c, e, hn, hp⟩ := hs
  exact ⟨A, c, e, hn, fun h0 => by obtain ⟨b, cs, h1, h2, h3, h4, h5⟩ := hp h0; exact ⟨b, cs, h1, h2, h _ h3, h4, h5⟩⟩
theorem slotOk.of_R {w : World} {base : Nat} {ok : Nat → Prop} {v : Value} {xs : List Int} (h : Kd.R (Kd.int .i64) 3 w base ok v xs) : slotOk w base ok v xs.length := by
  obtain ⟨A, c, rfl⟩ := Kd.R_slice h
  have hm := Kd.C_max (Kd.R_reads' h).2.2
  refine ⟨A, c, rfl, hm, fun h0 => ?_⟩
  obtain ⟨b, cap, e, hb, hl, cells, hc⟩ := Kd.R_form h h0
  injection e with e1 e2 e3
  subst e1
  obtain ⟨hx, _⟩ := Kd.R_celln 0 h ((xs.length - 1 : Nat) : Int) (by omega) (by omega)
  rw [show (((xs.length - 1 : Nat) : Int)).toNat = xs.length - 1 from by omega] at hx
  have hx' : w.cell? ⟨b, xs.length - 1, none⟩ = some (.int .i64 (rd xs ((xs.length - 1 : Nat) : Int))) := hx
  rw [blk_cell hc] at hx'
  have := (Array.getElem?_eq_some_iff.1 hx').1
  exact ⟨b, cells, rfl, hb, h.1 b rfl, hc, by omega⟩
set_option maxHeartbeats 2000000 in
theorem markI (P : Nat → Prop) (v : Value) (n : Nat) (a : Int) (w0 W : World) (hB : Below w0.heap.size w0 W) (hs : slotOk W w0.heap.size P v n) (ha : 0 ≤ a) (hb : a + n ≤ 4611686018427387904) :
    Calls Try.prog 13 #[v, .int .i64 a] W fun e W' => e = .returned (.int .i64 (a + n)) ∧ Marked w0 P W W' := by
  obtain ⟨A, c, rfl, hn, hp⟩ := hs
  have HP := Aside0.mk hp
  have HM := Aside0.mk (Marked.refl (P := P) hB)
  clear hp hB
  go_enter Try.func13, Try.ntmps13
  go_wp2
  go_loopg [1, 5] n (fun gg v1 v5 wr => ∃ x : Int, v5 = .int .i64 x ∧ v1 = .int .i64 (a + x) ∧ Aside0 (0 ≤ x ∧ x ≤ n ∧ (n : Int) - x ≤ gg) ∧ Aside0 (Marked w0 P W wr))
  case atStart => exact ⟨0, rfl, by rw [Int.add_zero], ⟨by omega, by omega, by omega⟩, HM⟩
  case round =>
    clear HM
    obtain ⟨x, rfl, rfl, HX, HM⟩ := hrel
    have p1 := HX.out.1
    by_cases hlt : x < (n : Int)
    · obtain ⟨b, cs, hA, hb1, hPb, hW, hsz⟩ := HP.out (by omega)
      cases hA
      obtain ⟨cs', h1, h2⟩ := HM.out.ints b cs hW
      have hi : x.toNat < cs'.size := by omega
      have hx : wr.cell? ⟨b, x.toNat, none⟩ = some cs'[x.toNat] := (blk_cell h1 _).trans (Array.getElem?_eq_getElem hi)
      have hz := blk_frozen h1 x.toNat
      have H1 := Aside0.mk h1
      generalize cs'[x.toNat] = u at hx
      have hw1 : wrap64 (a + x + 1) = a + (x + 1) := by unfold wrap64; omega
      clear h1 h2 hi hW hsz
      go_wp2
      go_roundg (n - (x.toNat + 1))
      case measure => have := HX.out; omega
      case rel => exact ⟨x + 1, by go_num, by first | rfl | rw [hw1] | rw [Int.add_assoc], ⟨by have := HX.out; omega, by have := HX.out; omega, by have := HX.out; omega⟩, ⟨HM.out.putInt _ H1.out hb1 hPb _⟩⟩
    · have hx9 : x = n := by have := HX.out; omega
      subst hx9
      go_wp2
      go_ret
      exact ⟨rfl, HM.out⟩
/-- So many numbers are in an act's lines. -/
def totA : List (S48) → Int
  | [] => 0
  | x :: l => (x.f3.f0.length : Int) + (x.f3.f1.length : Int) + 4 + totA l
theorem totA_append : ∀ (a b : List (S48)), totA (a ++ b) = totA a + totA b
  | [], b => by simp [totA]
  | x :: a, b => by simp only [List.cons_append, totA, totA_append a b]; omega
theorem totA_nn : ∀ (a : List (S48)), 0 ≤ totA a
  | [] => by simp [totA]
  | x :: a => by have := totA_nn a; simp only [totA]; omega
theorem totA_take (l : List (S48)) (n : Nat) : totA (l.take n) ≤ totA l := by
  have e := totA_append (l.take n) (l.drop n)
  rw [List.take_append_drop] at e
  have := totA_nn (l.drop n)
  omega
theorem totA_step (l : List (S48)) (x : Int) (h0 : 0 ≤ x) (h1 : x < (l.length : Int)) : totA (l.take (x + 1).toNat) = totA (l.take x.toNat) + ((rd_T48 l x).f3.f0.length : Int) + ((rd_T48 l x).f3.f1.length : Int) + 4 := by
  have hl : x.toNat < l.length := by omega
  rw [show (x + 1).toNat = x.toNat + 1 from by omega, List.take_succ_eq_append_getElem hl, totA_append, show rd_T48 l x = l[x.toNat] from by unfold rd_T48; rw [List.getD_eq_getElem?_getD, List.getElem?_eq_getElem hl]; rfl]
  simp only [totA]
  omega
/-- A row of lines of one's own, by its shape alone. -/
def rowOkA (w : World) (base : Nat) (P : Nat → Prop) (v : Value) (l : List (S48)) : Prop :=
  ∃ A c, v = .slice A l.length c ∧ l.length ≤ 9223372036854775807 ∧ (0 < l.length → ∃ (g : Nat) (cs : Array Value), A = some ⟨g, 0, none⟩ ∧ base ≤ g ∧ P g ∧ w.heap[g]? = some (.cells cs 48 (0, 0)) ∧
    ∀ x : Int, 0 ≤ x → x < (l.length : Int) → ∃ v0 v1 : Value, cs[x.toNat * 6 + 3]? = some v0 ∧ cs[x.toNat * 6 + 4]? = some v1 ∧ x.toNat * 6 + 5 < cs.size ∧ slotOk w base P v0 (rd_T48 l x).f3.f0.length ∧ slotOk w base P v1 (rd_T48 l x).f3.f1.length)
theorem rowOkA.go {w0 : World} {P Q : Nat → Prop} {w W : World} {base : Nat} {v : Value} {l : List (S48)} (hs : rowOkA w base P v l) (h : Marked w0 Q w W) : rowOkA W base P v l := by
  obtain ⟨A, c, e, hn, hp⟩ := hs
  refine ⟨A, c, e, hn, fun h0 => ?_⟩
  obtain ⟨g, cs, h1, h2, h3, h4, h5⟩ := hp h0
  obtain ⟨cs', a, s, d⟩ := h.rows g cs h4
  refine ⟨g, cs', h1, h2, h3, a, fun x x0 x1 => ?_⟩
  obtain ⟨v0, v1, q0, q1, q2, q3, q4⟩ := h5 x x0 x1
  exact ⟨v0, v1, (d _ (by omega)).trans q0, (d _ (by omega)).trans q1, by omega, q3.go h, q4.go h⟩
theorem rowOkA.of_S {w : World} {base : Nat} {ok : Nat → Prop} {v : Value} {l : List (S48)} (hS : Kd.S k48 48 w base ok v l) : rowOkA w base ok v l := by
  have h := Kd.S_R hS
  obtain ⟨A, c, rfl⟩ := Kd.R_slice h
  have hm := Kd.C_max (Kd.R_reads' h).2.2
  refine ⟨A, c, rfl, hm, fun h0 => ?_⟩
  obtain ⟨b, cap, e, hb, hl, cells, hc⟩ := Kd.R_form h h0
  injection e with e1 e2 e3
  subst e1
  refine ⟨b, cells, rfl, hb, h.1 b rfl, hc, fun x x0 x1 => ?_⟩
  obtain ⟨ce, hcl, hM, hcc, _⟩ := Kd.R_elem h z48 x x0 x1
  obtain ⟨v0, v1, rfl, g0, g1⟩ := k48_openM hM
  have q0' : w.cell? ⟨b, x.toNat * 6 + 3, none⟩ = some v0 := hcc 3 _ rfl
  have q1' : w.cell? ⟨b, x.toNat * 6 + 4, none⟩ = some v1 := hcc 4 _ rfl
  have q2' : ∃ u, w.cell? ⟨b, x.toNat * 6 + 5, none⟩ = some u := ⟨_, hcc 5 _ rfl⟩
  rw [blk_cell hc] at q0' q1' q2'
  obtain ⟨u, q2'⟩ := q2'
  exact ⟨v0, v1, q0', q1', (Array.getElem?_eq_some_iff.1 q2').1, (slotOk.of_R g0).mono (fun _ hk => hk.1), (slotOk.of_R g1).mono (fun _ hk => hk.1)⟩
theorem marked_upd {w0 : World} {P : Nat → Prop} {w W : World} (h : Marked w0 P w W) {b : Nat} {cs : Array Value} (i : Nat) (hc : W.heap[b]? = some (.cells cs 48 (0, 0))) (hb : w0.heap.size ≤ b) (hP : P b) (hi : i % 6 ≠ 3 ∧ i % 6 ≠ 4) (u : Value) {W1 : World} (hw : W1 = W.setCell ⟨b, i, none⟩ u) :
    Marked w0 P w W1 ∧ W1.heap[b]? = some (.cells (cs.setIfInBounds i u) 48 (0, 0)) := by
  subst hw
  exact ⟨h.putRow i hc hb hP hi u, blk_put hc i u rfl⟩
theorem cell_in {W : World} {g : Nat} {cs : Array Value} {T : Nat} (h : W.heap[g]? = some (.cells cs T (0, 0))) (i : Nat) (hi : i < cs.size) : ∃ u, W.cell? ⟨g, i, none⟩ = some u := ⟨cs[i], (blk_cell h _).trans (Array.getElem?_eq_getElem hi)⟩
set_option maxHeartbeats 4000000 in
set_option maxRecDepth 100000 in
theorem markA (P : Nat → Prop) (v : Value) (l : List (S48)) (a : Int) (w0 W : World) (hB : Below w0.heap.size w0 W) (hs : rowOkA W w0.heap.size P v l) (ha : 0 ≤ a) (hb : a + totA l ≤ 4611686018427387904) :
    Calls Try.prog 12 #[v, .int .i64 a] W fun e W' => e = .returned (.int .i64 (a + totA l)) ∧ Marked w0 P W W' := by
  have HS := Aside0.mk hs
  obtain ⟨A, c, rfl, hn, hp⟩ := hs
  have HM := Aside0.mk (Marked.refl (P := P) hB)
  clear hp hB
  go_enter Try.func12, Try.ntmps12
  go_wp2
  go_loopg [1, 5] l.length (fun gg v1 v5 wr => ∃ (x : Int) (s : Int), v5 = .int .i64 x ∧ v1 = .int .i64 (a + s) ∧ Aside0 (s = totA (l.take x.toNat)) ∧ Aside0 (0 ≤ x ∧ x ≤ l.length ∧ (l.length : Int) - x ≤ gg) ∧ Aside0 (Marked w0 P W wr))
  case atStart => exact ⟨0, 0, rfl, by rw [Int.add_zero], ⟨by simp [totA]⟩, ⟨by omega, by omega, by omega⟩, HM⟩
  case round =>
    clear HM
    obtain ⟨x, s, rfl, rfl, HE, HX, HM⟩ := hrel
    have p1 := HX.out.1
    by_cases hlt : x < (l.length : Int)
    · have hs2 := HS.out.go HM.out
      obtain ⟨A9, c9, e9, hn9, hp9⟩ := hs2
      injection e9 with e1 e2 e3
      subst e1 e3
      obtain ⟨g, cs, hA, hb1, hPb, hW, hsl⟩ := hp9 (by omega)
      cases hA
      obtain ⟨v0, v1, q0, q1, q2, q3, q4⟩ := hsl x p1 hlt
      have hst := totA_step l x p1 hlt
      have htk := totA_take l (x + 1).toNat
      have hnn := totA_nn (l.take x.toNat)
      rw [← HE.out] at hst hnn
      generalize (rd_T48 l x).f3.f0.length = n0 at q3 hst
      generalize (rd_T48 l x).f3.f1.length = n1 at q4 hst
      have ST := Aside0.mk (fun (W1 : World) (cs1 : Array Value) (i : Nat) (u : Value) (W2 : World) (M : Marked w0 P wr W1) (h : W1.heap[g]? = some (.cells cs1 48 (0, 0))) (hi : i % 6 ≠ 3 ∧ i % 6 ≠ 4) (hw : W2 = W1.setCell ⟨g, i, none⟩ u) => marked_upd M i h hb1 hPb hi u hw)
      have H0 := Aside0.mk (fun (W1 : World) (M1 : Marked w0 P wr W1) => markI P v0 n0 (a + s + 1 + 1 + 1) w0 W1 M1.below (q3.go M1) (by omega) (by omega))
      have H1 := Aside0.mk (fun (W1 : World) (M1 : Marked w0 P wr W1) => markI P v1 n1 (a + s + 1 + 1 + 1 + n0) w0 W1 M1.below (q4.go M1) (by omega) (by omega))
      have M0 := Aside0.mk (Marked.refl (P := P) HM.out.below)
      obtain ⟨u0, hx0⟩ := cell_in hW (x.toNat * 6) (by omega)
      have hz0 := blk_frozen hW (x.toNat * 6)
      obtain ⟨W1, hW1⟩ : ∃ W1, W1 = wr.setCell ⟨g, x.toNat * 6, none⟩ (.int .i64 (a + s)) := ⟨_, rfl⟩
      obtain ⟨W2, hW2⟩ : ∃ W2, W2 = W1.setCell ⟨g, x.toNat * 6 + 1, none⟩ (.int .i64 (a + s + 1)) := ⟨_, rfl⟩
      obtain ⟨W3, hW3⟩ : ∃ W3, W3 = W2.setCell ⟨g, x.toNat * 6 + 2, none⟩ (.int .i64 (a + s + 1 + 1)) := ⟨_, rfl⟩
      have s1 := ST.out _ _ _ _ _ M0.out hW (by omega) hW1
      have s2 := ST.out _ _ _ _ _ s1.1 s1.2 (by omega) hW2
      have s3 := ST.out _ _ _ _ _ s2.1 s2.2 (by omega) hW3
      obtain ⟨u1, hx1⟩ := cell_in s1.2 (x.toNat * 6 + 1) (by simp only [Array.size_setIfInBounds]; omega)
      have hz1 := blk_frozen s1.2 (x.toNat * 6 + 1)
      obtain ⟨u2, hx2⟩ := cell_in s2.2 (x.toNat * 6 + 2) (by simp only [Array.size_setIfInBounds]; omega)
      have hz2 := blk_frozen s2.2 (x.toNat * 6 + 2)
      have q0' : (((cs.setIfInBounds (x.toNat * 6) (.int .i64 (a + s))).setIfInBounds (x.toNat * 6 + 1) (.int .i64 (a + s + 1))).setIfInBounds (x.toNat * 6 + 2) (.int .i64 (a + s + 1 + 1)))[x.toNat * 6 + 3]? = some v0 := by
        rw [Array.getElem?_setIfInBounds_ne (by omega), Array.getElem?_setIfInBounds_ne (by omega), Array.getElem?_setIfInBounds_ne (by omega)]
        exact q0
      have hx3 : W3.cell? ⟨g, x.toNat * 6 + 3, none⟩ = some v0 := (blk_cell s3.2 _).trans q0'
      have q1' : (((cs.setIfInBounds (x.toNat * 6) (.int .i64 (a + s))).setIfInBounds (x.toNat * 6 + 1) (.int .i64 (a + s + 1))).setIfInBounds (x.toNat * 6 + 2) (.int .i64 (a + s + 1 + 1)))[x.toNat * 6 + 4]? = some v1 := by
        rw [Array.getElem?_setIfInBounds_ne (by omega), Array.getElem?_setIfInBounds_ne (by omega), Array.getElem?_setIfInBounds_ne (by omega)]
        exact q1
      have HM3 := Aside0.mk s3.1
      have HW := Aside0.mk s3.2
      have HQ2 := Aside0.mk (show x.toNat * 6 + 5 < (((cs.setIfInBounds (x.toNat * 6) (.int .i64 (a + s))).setIfInBounds (x.toNat * 6 + 1) (.int .i64 (a + s + 1))).setIfInBounds (x.toNat * 6 + 2) (.int .i64 (a + s + 1 + 1))).size from by simp only [Array.size_setIfInBounds]; exact q2)
      have HQ1 := Aside0.mk (show (((cs.setIfInBounds (x.toNat * 6) (.int .i64 (a + s))).setIfInBounds (x.toNat * 6 + 1) (.int .i64 (a + s + 1))).setIfInBounds (x.toNat * 6 + 2) (.int .i64 (a + s + 1 + 1)))[x.toNat * 6 + 4]? = some v1 from q1')
      rw [hW3, hW2, hW1] at hx3 HM3 HW
      rw [hW2, hW1] at hx2 hz2
      rw [hW1] at hx1 hz1
      clear q0' q1' s1 s2 s3 hW1 hW2 hW3 W1 W2 W3
      have HST := Aside0.mk hst
      have HN := Aside0.mk (show (0 : Int) ≤ a + s ∧ a + s + n0 + n1 + 4 ≤ 4611686018427387904 from by omega)
      have hw1 : wrap64 (a + s + 1) = a + s + 1 := by unfold wrap64; omega
      have hw2 : wrap64 (a + s + 1 + 1) = a + s + 1 + 1 := by unfold wrap64; omega
      have hw3 : wrap64 (a + s + 1 + 1 + 1) = a + s + 1 + 1 + 1 := by unfold wrap64; omega
      clear q0 q1 q2 q3 q4 hW hsl hst htk hnn hp9 e2 hn9 hPb hb1
      go_wp2_with (first
        | (go_at_call 13; refine (H0.out _ HM3.out).mono ?_; rintro e wa ⟨rfl, m1⟩; clear H0 hx0 hx1 hx2 hx3 hz0 hz1 hz2; have n1_ := Aside0.mk (HM3.out.trans m1); obtain ⟨ca, a1, s1, d1⟩ := m1.rows g _ HW.out; have hx4 : wa.cell? ⟨g, x.toNat * 6 + 4, none⟩ = some v1 := (blk_cell a1 _).trans ((d1 _ (by omega)).trans HQ1.out); have n2_ := Aside0.mk a1; have n3_ := Aside0.mk (show x.toNat * 6 + 5 < ca.size by have := HQ2.out; omega); clear M0 HW HQ2 HQ1 m1 a1 s1 d1; have M0 := n1_; have HW := n2_; have HQ2 := n3_; clear n1_ n2_ n3_)
        | (go_at_call 13; refine (H1.out _ M0.out).mono ?_; rintro e wb ⟨rfl, m1⟩; clear H1 hx4; have n1_ := Aside0.mk (M0.out.trans m1); obtain ⟨cb, a1, s1, d1⟩ := m1.rows g _ HW.out; obtain ⟨u5, hx5⟩ := cell_in a1 (x.toNat * 6 + 5) (by have := HQ2.out; omega); have hz5 := blk_frozen a1 (x.toNat * 6 + 5); have n2_ := Aside0.mk a1; clear M0 HW HQ2 m1 a1 s1 d1; have M0 := n1_; have HW := n2_; clear n1_ n2_))
      go_roundg (l.length - (x.toNat + 1))
      case measure => have := HX.out; omega
      case rel =>
        refine ⟨x + 1, s + n0 + n1 + 4, by go_num, ?_, ⟨by have := HST.out; omega⟩, ⟨by have := HX.out; omega, by have := HX.out; omega, by have := HX.out; omega⟩, ⟨HM.out.trans (ST.out _ _ _ _ _ M0.out HW.out (by omega) rfl).1⟩⟩
        have := HN.out
        rw [show wrap64 (a + s + 1 + 1 + 1 + n0 + n1 + 1) = a + (s + n0 + n1 + 4) from by unfold wrap64; omega]
    · have hx9 : x = l.length := by have := HX.out; omega
      subst hx9
      have hE := HE.out
      rw [show ((l.length : Nat) : Int).toNat = l.length from by omega, List.take_length] at hE
      subst hE
      go_wp2
      go_ret
      exact ⟨rfl, HM.out⟩
def laws_markActLineS.f (l0 : List (S48)) (a1 : Int) : Option (Int) := if 0 ≤ a1 ∧ a1 + totA l0 ≤ 4611686018427387904 then some (a1 + totA l0) else none
set_option maxHeartbeats 8000000 in
set_option maxRecDepth 100000 in
theorem laws_markActLineS.calls (P0_ : Nat → Prop) (u9000_ : Value) (l0 : List (S48)) (a1 : Int) (r : Int) (w0 w : World) (hB : Below w0.heap.size w0 w) (ho0 : Kd.S k48 48 w w0.heap.size P0_ u9000_ l0) (h : laws_markActLineS.f l0 a1 = some r) :
    Calls Try.prog 12 #[u9000_, .int .i64 a1] w fun e w' => e = .returned (.int .i64 r) ∧ Below w0.heap.size w0 w' ∧ Kept w w' (fun k_ => P0_ k_) := by
  unfold laws_markActLineS.f at h
  by_cases hA : 0 ≤ a1 ∧ a1 + totA l0 ≤ 4611686018427387904
  case neg => rw [if_neg hA] at h; exact absurd h (by simp)
  case pos =>
    rw [if_pos hA] at h
    obtain rfl := Option.some.inj h
    refine (markA P0_ u9000_ l0 a1 w0 w hB (rowOkA.of_S ho0) hA.1 hA.2).mono ?_
    rintro e w' ⟨rfl, m⟩
    exact ⟨rfl, m.below, m.kept⟩

/-! ### laws_markResResult: function 14 -/
def laws_markResResult.f (k : Nat) (a0_0 : Int) (l0_1 : List Int) (a1 : Int) : Option (Int × List Int) := (laws_markIntS.f k l0_1 a1).bind fun bt282 => (some (bt282.1, bt282.2))
theorem laws_markResResult.mono : ∀ a0 a1 a2 k, LeO (laws_markResResult.f k a0 a1 a2) (laws_markResResult.f (k + 1) a0 a1 a2) := by
  intro a0 a1 a2 k
  unfold laws_markResResult.f
  repeat' first
      | (with_reducible exact laws_markIntS.mono _ _ _)
      | (with_reducible exact LeO.refl _)
      | (with_reducible exact LeO.none _)
      | (with_reducible refine LeO.ite ?_ ?_)
      | (with_reducible refine LeO.bind ?_ (fun _ => ?_))
      | exact laws_markIntS.mono _ _ _
      | exact LeO.none _
      | refine LeO.ite ?_ ?_
      | refine LeO.bind ?_ (fun _ => ?_)
set_option maxHeartbeats 8000000 in
set_option maxRecDepth 100000 in
theorem laws_markResResult.calls (k : Nat) (a0_0 : Int) (P0_1_ : Nat → Prop) (u9000_ : Value) (l0_1 : List Int) (a1 : Int) (r1 : Int) (r2 : List Int) (w0 w : World) (hB : Below w0.heap.size w0 w) (ho0_1 : Kd.R (Kd.int .i64) 3 w w0.heap.size P0_1_ u9000_ l0_1) (h : laws_markResResult.f k a0_0 l0_1 a1 = some (r1, r2)) :
    Calls Try.prog 14 #[.agg #[.int .i64 a0_0, u9000_], .int .i64 a1] w fun e w' => e = .returned (.int .i64 r1) ∧ Kd.R (Kd.int .i64) 3 w' w0.heap.size (fun k_ => (P0_1_ k_ ∨ w.heap.size ≤ k_)) u9000_ r2 ∧ Below w0.heap.size w0 w' ∧ Kept w w' (fun k_ => P0_1_ k_) := by
  have hu26 := Try.underlying26
  have HO0_1 := Aside0.mk (show Kd.R (Kd.int .i64) 3 w w0.heap.size (fun k_ => (P0_1_ k_ ∨ w.heap.size ≤ k_)) u9000_ l0_1 from Kd.R_mono ho0_1 (fun k_ hk => (.inl hk)))
  have HK := Aside0.mk (Kept.refl w (fun k_ => P0_1_ k_))
  have HW0 := Aside0.mk hB.size
  have HB := Aside0.mk hB
  clear hB
  have H : ((laws_markIntS.f k l0_1 a1).bind fun bt282 => (some (bt282.1, bt282.2))) = some (r1, r2) := h
  clear h
  replace H := Option.bind_eq_some_iff.mp H
  obtain ⟨⟨t282, t283⟩, A30, H⟩ := H
  replace H : (some (t282, t283)) = some (r1, r2) := H
  have A3 := Aside0.mk A30
  clear A30
  simp only [Option.some.injEq, Prod.mk.injEq] at H
  obtain ⟨rfl, rfl⟩ := H
  obtain ⟨Ao4, co4, eo4⟩ := Kd.R_slice HO0_1.out
  subst eo4
  go_enter Try.func14, Try.ntmps14
  go_wp2_with (first | ((with_reducible refine gate_dst (N := 2) rfl ?_); refine box_event ?hg (N := 2) ?hd (cs := #[.int .i64 a0_0, .slice Ao4 l0_1.length co4]) (t := 26) ?hr ?_; (case hd => rfl); (case hg => rfl); (case hr => first | (go_simp; done) | (go_simp; rfl)); intro gb281 hg w5 hbox hb; have n0_ := Aside0.mk (Kd.R_below (by exact lR HO0_1.out) hb); have n1_ := Aside0.mk (Kept.below (S := (fun k_ => P0_1_ k_)) (by repeat (first | (with_reducible first | exact HK.out | apply Kept.alloc | apply Kept.drewN | apply Kept.drew) | exact HK.out)) hb); have n2_ := Aside0.mk (below_step (by exact lB HB.out) hb); have n3_ := Aside0.mk (hbox); have n4_ := Aside0.mk ((by rw [hg]; exact (by first | exact HK.out.1 | exact (show Kept w _ (fun k_ => P0_1_ k_) from by repeat (first | (with_reducible first | exact HK.out | apply Kept.alloc | apply Kept.drewN | apply Kept.drew) | exact HK.out)).1) : w.heap.size ≤ gb281)); have n5_ := Aside0.mk ((by rw [hg]; exact (below_size (by exact lB HB.out)) : w0.heap.size ≤ gb281)); clear HO0_1; clear HK; clear HB; have HO0_1 := n0_; have HK := n1_; have HB := n2_; have BK281 := n3_; have GW281 := n4_; have GE281 := n5_; clear n0_ n1_ n2_ n3_ n4_ n5_; clear hb hbox hg; have hcz6_0 : w5.cell? ⟨gb281, 0, none⟩ = some (.int .i64 a0_0) := (blk_cell BK281.out 0).trans rfl; have hcz6_1 : w5.cell? ⟨gb281, 1, none⟩ = some (.slice Ao4 l0_1.length co4) := (blk_cell BK281.out 1).trans rfl; have hfz6_0 := blk_frozen BK281.out 0; have hfz6_1 := blk_frozen BK281.out 1) | ((with_reducible refine gate_callee (f := 13) rfl ?_); refine goesL_ (some 8) rfl rfl Try.func13 (by kernel_rfl) rfl #[.slice Ao4 l0_1.length co4, .int .i64 a1] rfl (by (try simp only [List.map_toArray, List.map_cons, List.map_nil]); first | done | rfl | (simp only [List.length_drop, List.length_take]; rfl)) ?_; (with_reducible refine (laws_markIntS.calls k (fun k_ => some k_ = (.slice Ao4 l0_1.length co4 : Value).ownBlock) (.slice Ao4 l0_1.length co4) l0_1 a1 t282 t283 w0 _ ?side1 ?side2 A3.out).mono ?_); (case side1 => repeat (first | (with_reducible first | exact HB.out | apply below_alloc | apply pw_below_drewN | apply below_drew1 | refine below_set ?_ GE281.out) | exact HB.out)); (case side2 => exact Kd.R_tight rfl HO0_1.out); rintro e w7 ⟨rfl, hy0, hb, hkp⟩; refine ⟨_, rfl, ?_⟩; have n0_ := Aside0.mk (Kd.R_reok rfl hy0 (fun k_ e_ => HO0_1.out.1 k_ e_)); have n1_ := Aside0.mk (blk_kept (by exact lK BK281.out) hkp (fun hs_ => (fun e_ => (Kd.R_ne HO0_1.out BK281.out (by decide)) e_) hs_)); have n2_ := Aside0.mk (Kept.then_ (S := (fun k_ => P0_1_ k_)) (by repeat (first | (with_reducible first | exact HK.out | apply Kept.alloc | apply Kept.drewN | apply Kept.drew | refine Kept.setCell ?_ (.inr GW281.out) _) | exact HK.out)) hkp (fun k_ hs_ => (fun e_ => (HO0_1.out.1 k_ e_.symm)) hs_)); have n3_ := Aside0.mk (hb); clear HO0_1; clear BK281; clear HK; clear HB; have HO0_1 := n0_; have BK281 := n1_; have HK := n2_; have HB := n3_; clear n0_ n1_ n2_ n3_; (try clear hb); (try clear hkp); (try clear hy0)))
  go_ret
  exact ⟨by first | rfl | (simp [errW_none, errW_some] <;> rfl) | (simp [*, errW_none, errW_some] <;> rfl), by exact lR <| HO0_1.out, by repeat (first | (with_reducible first | exact HB.out | apply below_alloc | apply pw_below_drewN | apply below_drew1 | refine below_set ?_ GE281.out) | exact HB.out), by repeat (first | (with_reducible first | exact HK.out | apply Kept.alloc | apply Kept.drewN | apply Kept.drew | refine Kept.setCell ?_ (.inr GW281.out) _) | exact HK.out)⟩

/-! ### laws_heldIntS: function 16 -/
def laws_heldIntS.l0 : Nat → List Int → Int → Int → Option (Int)
  | 0, _, _, _ => none
  | k + 1, x0, x1, x5 => if x5 < (x0.length : Int) then (if 0 ≤ x5 then (if (rd x0 x5) = x1 then (laws_heldIntS.l0 k x0 (wrap64 (x1 + 1)) (wrap64 (x5 + 1))) else (some (-1))) else (none)) else (some x1)
def laws_heldIntS.f (k : Nat) (l0 : List Int) (a1 : Int) : Option (Int) := laws_heldIntS.l0 k l0 a1 0
theorem laws_heldIntS.mono_l : ∀ k, (∀ y0 y1 y2, LeO (laws_heldIntS.l0 k y0 y1 y2) (laws_heldIntS.l0 (k + 1) y0 y1 y2))
  | 0 => fun _ _ _ r h => by simp [laws_heldIntS.l0] at h
  | k + 1 => by
    have ih0 := laws_heldIntS.mono_l k
    · intro y0 y1 y2
      unfold laws_heldIntS.l0
      repeat' first
      | (with_reducible exact ih0 _ _ _)
      | (with_reducible exact LeO.refl _)
      | (with_reducible exact LeO.none _)
      | (with_reducible refine LeO.ite ?_ ?_)
      | (with_reducible refine LeO.bind ?_ (fun _ => ?_))
      | exact ih0 _ _ _
      | exact LeO.none _
      | refine LeO.ite ?_ ?_
      | refine LeO.bind ?_ (fun _ => ?_)
theorem laws_heldIntS.mono : ∀ a0 a1 k, LeO (laws_heldIntS.f k a0 a1) (laws_heldIntS.f (k + 1) a0 a1) := by
  intro a0 a1 k
  have ih0 := laws_heldIntS.mono_l k
  unfold laws_heldIntS.f
  repeat' first
      | (with_reducible exact ih0 _ _ _)
      | (with_reducible exact LeO.refl _)
      | (with_reducible exact LeO.none _)
      | (with_reducible refine LeO.ite ?_ ?_)
      | (with_reducible refine LeO.bind ?_ (fun _ => ?_))
      | exact ih0 _ _ _
      | exact LeO.none _
      | refine LeO.ite ?_ ?_
      | refine LeO.bind ?_ (fun _ => ?_)
set_option maxHeartbeats 8000000 in
set_option maxRecDepth 100000 in
theorem laws_heldIntS.calls (k : Nat) (A0 : Option Addr) (c0 : Nat) (l0 : List Int) (a1 : Int) (r : Int) (w : World) (hr0 : Kd.C (Kd.int .i64) w A0 l0.length l0) (hc0 : l0.length ≤ c0) (h : laws_heldIntS.f k l0 a1 = some r) :
    Calls Try.prog 16 #[.slice A0 l0.length c0, .int .i64 a1] w fun e w' => e = .returned (.int .i64 r) ∧ Drawn0 w w' := by
  have HR0 := Aside0.mk hr0
  have HC0 := Aside0.mk hc0
  clear hr0 hc0
  have H : (laws_heldIntS.l0 k l0 a1 0) = some r := h
  clear h
  have H' := Aside0.mk H
  clear H
  go_enter Try.func16, Try.ntmps16
  go_wp2
  go_loopg [1, 5] k (fun kq v1 v5 w' => ∃ (x1_1 : Int) (x5_1 : Int), v1 = .int .i64 x1_1 ∧ v5 = .int .i64 x5_1 ∧ Aside0 (laws_heldIntS.l0 kq l0 x1_1 x5_1 = some r) ∧ Aside0 (kq ≤ k) ∧ Drawn0 w w')
  case atStart => exact ⟨(a1), (0), (by first | rfl | (simp; done) | (simp [*]; done)), (by first | rfl | (simp; done) | (simp [*]; done)), H', ⟨Nat.le_refl _⟩, by repeat (first | exact Drawn0.refl _ | apply Drawn0.step)⟩
  case round =>
    clear H'
    try clear c1
    try clear p2
    obtain ⟨x1_1, x5_1, rfl, rfl, HA, HK1, ⟨m1, rfl⟩⟩ := hrel
    cases gk with
    | zero => exact absurd HA.out (by simp [laws_heldIntS.l0])
    | succ k1 =>
      have H := HA.out
      clear HA
      simp only [laws_heldIntS.l0] at H
      by_cases c3 : x5_1 < (l0.length : Int)
      · rw [if_pos c3] at H
        have c3b0 : decide (x5_1 < (l0.length : Int)) = true := decide_eq_true c3
        clear c3
        by_cases c4 : 0 ≤ x5_1
        · rw [if_pos c4] at H
          have c4b0 : decide (0 ≤ x5_1) = true := decide_eq_true c4
          clear c4
          by_cases c5 : (rd l0 x5_1) = x1_1
          · rw [if_pos c5] at H
            have c5b0 : ((rd l0 x5_1) == x1_1) = true := beq_iff_eq.mpr c5
            have c5b1 : ((rd l0 x5_1) != x1_1) = false := bne_eq_false_iff_eq.mpr c5
            clear c5
            have H' := Aside0.mk H
            clear H
            have p284 : 0 ≤ (x5_1 : Int) := of_decide_eq_true (by first | (with_reducible assumption) | assumption)
            have q284 : x5_1 < (l0.length : Int) := of_decide_eq_true (by first | (with_reducible assumption) | assumption)
            obtain ⟨ad284, e284, hx284_0⟩ := Kd.at_int HR0.out x5_1 p284 q284
            cases e284
            replace p284 := eq_true p284
            replace q284 := eq_true q284
            go_wp2
            go_roundg k1
            case measure => have := HK1.out; omega
            case rel => exact ⟨(wrap64 (x1_1 + 1)), (wrap64 (x5_1 + 1)), (by first | rfl | (simp; done) | (simp [*]; done)), (by first | rfl | (simp; done) | (simp [*]; done)), H', ⟨by have := HK1.out; omega⟩, by repeat (first | exact Drawn0.refl _ | apply Drawn0.step)⟩
          · rw [if_neg c5] at H
            have c5b0 : ((rd l0 x5_1) == x1_1) = false := beq_eq_false_iff_ne.mpr c5
            have c5b1 : ((rd l0 x5_1) != x1_1) = true := bne_iff_ne.mpr c5
            obtain rfl := Option.some.inj H
            have p284 : 0 ≤ (x5_1 : Int) := of_decide_eq_true (by first | (with_reducible assumption) | assumption)
            have q284 : x5_1 < (l0.length : Int) := of_decide_eq_true (by first | (with_reducible assumption) | assumption)
            obtain ⟨ad284, e284, hx284_0⟩ := Kd.at_int HR0.out x5_1 p284 q284
            cases e284
            replace p284 := eq_true p284
            replace q284 := eq_true q284
            go_wp2
            go_ret
            exact ⟨by first | rfl | (simp; done) | (simp [*]; done), by repeat (first | exact Drawn0.refl _ | apply Drawn0.step)⟩
        · rw [if_neg c4] at H
          exact absurd H (by simp)
      · rw [if_neg c3] at H
        have c3b0 : decide (x5_1 < (l0.length : Int)) = false := decide_eq_false c3
        clear c3
        obtain rfl := Option.some.inj H
        go_wp2
        go_ret
        exact ⟨by first | rfl | (simp; done) | (simp [*]; done), by repeat (first | exact Drawn0.refl _ | apply Drawn0.step)⟩

/-! ### laws_heldResResult: function 15 -/
def laws_heldResResult.f (k : Nat) (a0_0 : Int) (l0_1 : List Int) (a1 : Int) : Option (Int) := (laws_heldIntS.f k l0_1 a1).bind fun t286 => (if t286 < 0 then (some (-1)) else (some t286))
theorem laws_heldResResult.mono : ∀ a0 a1 a2 k, LeO (laws_heldResResult.f k a0 a1 a2) (laws_heldResResult.f (k + 1) a0 a1 a2) := by
  intro a0 a1 a2 k
  unfold laws_heldResResult.f
  repeat' first
      | (with_reducible exact laws_heldIntS.mono _ _ _)
      | (with_reducible exact LeO.refl _)
      | (with_reducible exact LeO.none _)
      | (with_reducible refine LeO.ite ?_ ?_)
      | (with_reducible refine LeO.bind ?_ (fun _ => ?_))
      | exact laws_heldIntS.mono _ _ _
      | exact LeO.none _
      | refine LeO.ite ?_ ?_
      | refine LeO.bind ?_ (fun _ => ?_)
set_option maxHeartbeats 8000000 in
set_option maxRecDepth 100000 in
theorem laws_heldResResult.calls (k : Nat) (a0_0 : Int) (A0_1 : Option Addr) (c0_1 : Nat) (l0_1 : List Int) (a1 : Int) (r : Int) (w : World) (hr0_1 : Kd.C (Kd.int .i64) w A0_1 l0_1.length l0_1) (hc0_1 : l0_1.length ≤ c0_1) (h : laws_heldResResult.f k a0_0 l0_1 a1 = some r) :
    Calls Try.prog 15 #[.agg #[.int .i64 a0_0, .slice A0_1 l0_1.length c0_1], .int .i64 a1] w fun e w' => e = .returned (.int .i64 r) ∧ Below w.heap.size w w' := by
  have hu26 := Try.underlying26
  have HR0_1 := Aside0.mk hr0_1
  have HC0_1 := Aside0.mk hc0_1
  clear hr0_1 hc0_1
  have HB := Aside0.mk (Below.refl w.heap.size w)
  have H : ((laws_heldIntS.f k l0_1 a1).bind fun t286 => (if t286 < 0 then (some (-1)) else (some t286))) = some r := h
  clear h
  replace H := Option.bind_eq_some_iff.mp H
  obtain ⟨t286, A30, H⟩ := H
  replace H : (if t286 < 0 then (some (-1)) else (some t286)) = some r := H
  have A3 := Aside0.mk A30
  clear A30
  by_cases c4 : t286 < 0
  · rw [if_pos c4] at H
    have c4b0 : decide (t286 < 0) = true := decide_eq_true c4
    clear c4
    obtain rfl := Option.some.inj H
    go_enter Try.func15, Try.ntmps15
    go_wp2_with (first | ((with_reducible refine gate_dst (N := 2) rfl ?_); refine box_event ?hg (N := 2) ?hd (cs := #[.int .i64 a0_0, .slice A0_1 l0_1.length c0_1]) (t := 26) ?hr ?_; (case hd => rfl); (case hg => rfl); (case hr => first | (go_simp; done) | (go_simp; rfl)); intro gb285 hg w5 hbox hb; have n0_ := Aside0.mk (below_step (by exact lB HB.out) hb); have n1_ := Aside0.mk (hbox); have n2_ := Aside0.mk ((by rw [hg]; exact (below_size (by exact lB HB.out)) : w.heap.size ≤ gb285)); have n3_ := Aside0.mk ((by rw [hg]; exact (below_size (by exact lB HB.out)) : w.heap.size ≤ gb285)); clear HB; have HB := n0_; have BK285 := n1_; have GW285 := n2_; have GE285 := n3_; clear n0_ n1_ n2_ n3_; clear hb hbox hg; have hcz6_0 : w5.cell? ⟨gb285, 0, none⟩ = some (.int .i64 a0_0) := (blk_cell BK285.out 0).trans rfl; have hcz6_1 : w5.cell? ⟨gb285, 1, none⟩ = some (.slice A0_1 l0_1.length c0_1) := (blk_cell BK285.out 1).trans rfl; have hfz6_0 := blk_frozen BK285.out 0; have hfz6_1 := blk_frozen BK285.out 1) | ((with_reducible refine gate_callee (f := 16) rfl ?_); refine goesL_ (some 8) rfl rfl Try.func16 (by kernel_rfl) rfl #[.slice A0_1 l0_1.length c0_1, .int .i64 a1] rfl (by (try simp only [List.map_toArray, List.map_cons, List.map_nil]); first | done | rfl | (simp only [List.length_drop, List.length_take]; rfl)) ?_; (with_reducible refine (laws_heldIntS.calls k _ _ l0_1 a1 t286 _ ?side1 ?side2 A3.out).mono ?_); (case side1 => exact lC <| (Kd.C_below HR0_1.out HB.out)); (case side2 => exact HC0_1.out); rintro e w' ⟨rfl, ⟨nd, rfl⟩⟩; refine ⟨_, rfl, ?_⟩))
    go_ret
    exact ⟨by first | rfl | (simp [errW_none, errW_some] <;> rfl) | (simp [*, errW_none, errW_some] <;> rfl), by repeat (first | (with_reducible first | exact HB.out | apply below_alloc | apply pw_below_drewN | apply below_drew1 | refine below_set ?_ GE285.out) | exact HB.out)⟩
  · rw [if_neg c4] at H
    have c4b0 : decide (t286 < 0) = false := decide_eq_false c4
    clear c4
    obtain rfl := Option.some.inj H
    go_enter Try.func15, Try.ntmps15
    go_wp2_with (first | ((with_reducible refine gate_dst (N := 2) rfl ?_); refine box_event ?hg (N := 2) ?hd (cs := #[.int .i64 a0_0, .slice A0_1 l0_1.length c0_1]) (t := 26) ?hr ?_; (case hd => rfl); (case hg => rfl); (case hr => first | (go_simp; done) | (go_simp; rfl)); intro gb285 hg w7 hbox hb; have n0_ := Aside0.mk (below_step (by exact lB HB.out) hb); have n1_ := Aside0.mk (hbox); have n2_ := Aside0.mk ((by rw [hg]; exact (below_size (by exact lB HB.out)) : w.heap.size ≤ gb285)); have n3_ := Aside0.mk ((by rw [hg]; exact (below_size (by exact lB HB.out)) : w.heap.size ≤ gb285)); clear HB; have HB := n0_; have BK285 := n1_; have GW285 := n2_; have GE285 := n3_; clear n0_ n1_ n2_ n3_; clear hb hbox hg; have hcz8_0 : w7.cell? ⟨gb285, 0, none⟩ = some (.int .i64 a0_0) := (blk_cell BK285.out 0).trans rfl; have hcz8_1 : w7.cell? ⟨gb285, 1, none⟩ = some (.slice A0_1 l0_1.length c0_1) := (blk_cell BK285.out 1).trans rfl; have hfz8_0 := blk_frozen BK285.out 0; have hfz8_1 := blk_frozen BK285.out 1) | ((with_reducible refine gate_callee (f := 16) rfl ?_); refine goesL_ (some 8) rfl rfl Try.func16 (by kernel_rfl) rfl #[.slice A0_1 l0_1.length c0_1, .int .i64 a1] rfl (by (try simp only [List.map_toArray, List.map_cons, List.map_nil]); first | done | rfl | (simp only [List.length_drop, List.length_take]; rfl)) ?_; (with_reducible refine (laws_heldIntS.calls k _ _ l0_1 a1 t286 _ ?side1 ?side2 A3.out).mono ?_); (case side1 => exact lC <| (Kd.C_below HR0_1.out HB.out)); (case side2 => exact HC0_1.out); rintro e w' ⟨rfl, ⟨nd, rfl⟩⟩; refine ⟨_, rfl, ?_⟩))
    go_ret
    exact ⟨by first | rfl | (simp [errW_none, errW_some] <;> rfl) | (simp [*, errW_none, errW_some] <;> rfl), by repeat (first | (with_reducible first | exact HB.out | apply below_alloc | apply pw_below_drewN | apply below_drew1 | refine below_set ?_ GE285.out) | exact HB.out)⟩

end Go.Proofs.Ytpmkbblibingiaa.QFnExactActRun
