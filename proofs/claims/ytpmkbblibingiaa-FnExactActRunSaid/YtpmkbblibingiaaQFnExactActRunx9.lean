/- Plain functions, and that the Go code computes them: written by a program of this session over the seat's translation; the conditions stand in each theorem. -/
import Derived.Test.YtpmkbblibingiaaQFnExactActRunx0
import Derived.Test.YtpmkbblibingiaaQFnExactActRunx1
import Derived.Test.YtpmkbblibingiaaQFnExactActRunx3
import Derived.Test.YtpmkbblibingiaaQFnExactActRunx4
import Derived.Test.YtpmkbblibingiaaQFnExactActRunx6
import Derived.Test.YtpmkbblibingiaaQFnExactActRunx7
import Derived.Test.YtpmkbblibingiaaQFnExactActRunx8
namespace Go.Proofs.Ytpmkbblibingiaa.QFnExactActRun
open Go.RowKit Go.Proofs.YtpmkbblibingiaaW.PrintWords Go.Proofs.YtpmkbblibingiaaW.PrintLast Go.Proofs.YtpmkbblibingiaaW.PrintMore Go.Proofs.Ytpmkbblibingiaa.HWords
attribute [local go_sem] max2_int min2_int max_two min_two max_three min_three max_four min_four   -- for this text's walks alone
set_option linter.unusedVariables false
set_option linter.unusedSimpArgs false

/-! ### laws_FnExactActRun: function 3 -/
mutual
def laws_FnExactActRun.j0 : Nat → List (S43) → List Int → List Int → List Int → List (S48) → List Int → List Int → List Int → Bool → Int → List Int → Int → List Int → Option (Bool)
  | 0, _, _, _, _, _, _, _, _, _, _, _, _, _ => none
  | k + 1, x0, x1, x2, x9, x10, x11, x12, x14, x63, x305000, x305001, x322000, x322001 => if x63 = true then (some false) else ((laws_toActLineS.f k x0).bind fun t324 => ((laws_eqActLineS.f k x10 t324).bind fun t327 => (if t327 = true then ((laws_toIntS.f k x1).bind fun t328 => ((laws_eqIntS.f k x11 t328).bind fun t331 => (if t331 = true then ((laws_toIntS.f k x2).bind fun t332 => ((laws_eqIntS.f k x12 t332).bind fun t335 => (if t335 = true then ((laws_markActLineS.f x10 1).bind fun t336 => ((laws_markIntS.f k x11 t336).bind fun bt337 => ((laws_markIntS.f k x12 bt337.1).bind fun bt339 => (if bt339.1 < 0 then (laws_FnExactActRun.j1 k x0 x1 x2 x9 x14 true x305000 x305001 x322000 x322001) else ((laws_eqResResult.f k x322000 x322001 x305000 x305001).bind fun t341 => (if t341 = true then ((laws_eqIntS.f k x14 x9).bind fun t342 => (laws_FnExactActRun.j1 k x0 x1 x2 x9 x14 (!t342) x305000 x305001 x322000 x322001)) else (laws_FnExactActRun.j1 k x0 x1 x2 x9 x14 true x305000 x305001 x322000 x322001))))))) else (some false)))) else (some false)))) else (some false))))
def laws_FnExactActRun.j1 : Nat → List (S43) → List Int → List Int → List Int → List Int → Bool → Int → List Int → Int → List Int → Option (Bool)
  | 0, _, _, _, _, _, _, _, _, _, _ => none
  | k + 1, x0, x1, x2, x9, x14, x101, x305000, x305001, x322000, x322001 => if x101 = true then (some false) else ((laws_markResResult.f k x322000 x322001 1).bind fun bt343 => ((laws_markIntS.f k x14 bt343.1).bind fun bt345 => ((laws_heldResResult.f k x322000 bt343.2 1).bind fun t347 => (if t347 < 0 then (some false) else ((laws_heldIntS.f k bt345.2 t347).bind fun t348 => (if t348 < 0 then (some false) else (if t348 = bt345.1 then ((laws_toActLineS.f k x0).bind fun t349 => ((laws_toIntS.f k x1).bind fun t352 => ((laws_toIntS.f k x2).bind fun t355 => ((impl_ActRun.f k t349 t352 t355).bind fun bt358 => ((laws_eqResResult.f k bt358.1 bt358.2.1 x305000 x305001).bind fun t366 => (if t366 = true then ((laws_eqIntS.f k bt358.2.2 x9).bind fun t367 => (laws_FnExactActRun.j2 k bt345.2 bt345.1 (!t367) x322000 bt343.2)) else (laws_FnExactActRun.j2 k bt345.2 bt345.1 true x322000 bt343.2))))))) else (some false))))))))
def laws_FnExactActRun.j2 : Nat → List Int → Int → Bool → Int → List Int → Option (Bool)
  | 0, _, _, _, _, _ => none
  | k + 1, x14, x16, x140, x322000, x322001 => if x140 = true then (some false) else ((laws_heldResResult.f k x322000 x322001 1).bind fun t368 => (if t368 < 0 then (some false) else ((laws_heldIntS.f k x14 t368).bind fun t369 => (if t369 < 0 then (some false) else (if t369 = x16 then (some true) else (some false))))))
end
def laws_FnExactActRun.f (k : Nat) (l0 : List (S43)) (l1 : List Int) (l2 : List Int) : Option (Bool) := if (l1.length : Int) > 1048576 then (some true) else (if (l2.length : Int) > 1048576 then (some true) else ((laws_szActLineS.f k l0 1048576).bind fun t287 => (if t287 < 0 then (some true) else ((laws_toActLineS.f k l0).bind fun t288 => ((laws_toIntS.f k l1).bind fun t291 => ((laws_toIntS.f k l2).bind fun t294 => ((spec_ActRun.f k t288 t291 t294).bind fun bt297 => ((laws_toActLineS.f k l0).bind fun t305 => ((laws_toIntS.f k l1).bind fun t308 => ((laws_toIntS.f k l2).bind fun t311 => ((impl_ActRun.f k t305 t308 t311).bind fun bt314 => ((laws_eqResResult.f k bt314.1 bt314.2.1 bt297.1 bt297.2.1).bind fun t322 => (if t322 = true then ((laws_eqIntS.f k bt314.2.2 bt297.2.2).bind fun t323 => (laws_FnExactActRun.j0 k l0 l1 l2 bt297.2.2 t305 t308 t311 bt314.2.2 (!t323) bt297.1 bt297.2.1 bt314.1 bt314.2.1)) else (laws_FnExactActRun.j0 k l0 l1 l2 bt297.2.2 t305 t308 t311 bt314.2.2 true bt297.1 bt297.2.1 bt314.1 bt314.2.1))))))))))))))
theorem laws_FnExactActRun.mono_l : ∀ k, (∀ y0 y1 y2 y3 y4 y5 y6 y7 y8 y9 y10 y11 y12, LeO (laws_FnExactActRun.j0 k y0 y1 y2 y3 y4 y5 y6 y7 y8 y9 y10 y11 y12) (laws_FnExactActRun.j0 (k + 1) y0 y1 y2 y3 y4 y5 y6 y7 y8 y9 y10 y11 y12)) ∧ (∀ y0 y1 y2 y3 y4 y5 y6 y7 y8 y9, LeO (laws_FnExactActRun.j1 k y0 y1 y2 y3 y4 y5 y6 y7 y8 y9) (laws_FnExactActRun.j1 (k + 1) y0 y1 y2 y3 y4 y5 y6 y7 y8 y9)) ∧ (∀ y0 y1 y2 y3 y4, LeO (laws_FnExactActRun.j2 k y0 y1 y2 y3 y4) (laws_FnExactActRun.j2 (k + 1) y0 y1 y2 y3 y4))
  | 0 => ⟨fun _ _ _ _ _ _ _ _ _ _ _ _ _ r h => by simp [laws_FnExactActRun.j0] at h, fun _ _ _ _ _ _ _ _ _ _ r h => by simp [laws_FnExactActRun.j1] at h, fun _ _ _ _ _ r h => by simp [laws_FnExactActRun.j2] at h⟩
  | k + 1 => by
    obtain ⟨ih0, ih1, ih2⟩ := laws_FnExactActRun.mono_l k
    refine ⟨?_, ?_, ?_⟩
    · intro y0 y1 y2 y3 y4 y5 y6 y7 y8 y9 y10 y11 y12
      unfold laws_FnExactActRun.j0
      repeat' first
      | (with_reducible exact ih0 _ _ _ _ _ _ _ _ _ _ _ _ _)
      | (with_reducible exact ih1 _ _ _ _ _ _ _ _ _ _)
      | (with_reducible exact ih2 _ _ _ _ _)
      | (with_reducible exact impl_ActRun.mono _ _ _ _)
      | (with_reducible exact laws_eqActLineS.mono _ _ _)
      | (with_reducible exact laws_eqIntS.mono _ _ _)
      | (with_reducible exact laws_eqResResult.mono _ _ _ _ _)
      | (with_reducible exact laws_heldIntS.mono _ _ _)
      | (with_reducible exact laws_heldResResult.mono _ _ _ _)
      | (with_reducible exact laws_markIntS.mono _ _ _)
      | (with_reducible exact laws_markResResult.mono _ _ _ _)
      | (with_reducible exact laws_szActLineS.mono _ _ _)
      | (with_reducible exact laws_toActLineS.mono _ _)
      | (with_reducible exact laws_toIntS.mono _ _)
      | (with_reducible exact spec_ActRun.mono _ _ _ _)
      | (with_reducible exact LeO.refl _)
      | (with_reducible exact LeO.none _)
      | (with_reducible refine LeO.ite ?_ ?_)
      | (with_reducible refine LeO.bind ?_ (fun _ => ?_))
      | exact ih0 _ _ _ _ _ _ _ _ _ _ _ _ _
      | exact ih1 _ _ _ _ _ _ _ _ _ _
      | exact ih2 _ _ _ _ _
      | exact impl_ActRun.mono _ _ _ _
      | exact laws_eqActLineS.mono _ _ _
      | exact laws_eqIntS.mono _ _ _
      | exact laws_eqResResult.mono _ _ _ _ _
      | exact laws_heldIntS.mono _ _ _
      | exact laws_heldResResult.mono _ _ _ _
      | exact laws_markIntS.mono _ _ _
      | exact laws_markResResult.mono _ _ _ _
      | exact laws_szActLineS.mono _ _ _
      | exact laws_toActLineS.mono _ _
      | exact laws_toIntS.mono _ _
      | exact spec_ActRun.mono _ _ _ _
      | exact LeO.none _
      | refine LeO.ite ?_ ?_
      | refine LeO.bind ?_ (fun _ => ?_)
    · intro y0 y1 y2 y3 y4 y5 y6 y7 y8 y9
      unfold laws_FnExactActRun.j1
      repeat' first
      | (with_reducible exact ih0 _ _ _ _ _ _ _ _ _ _ _ _ _)
      | (with_reducible exact ih1 _ _ _ _ _ _ _ _ _ _)
      | (with_reducible exact ih2 _ _ _ _ _)
      | (with_reducible exact impl_ActRun.mono _ _ _ _)
      | (with_reducible exact laws_eqActLineS.mono _ _ _)
      | (with_reducible exact laws_eqIntS.mono _ _ _)
      | (with_reducible exact laws_eqResResult.mono _ _ _ _ _)
      | (with_reducible exact laws_heldIntS.mono _ _ _)
      | (with_reducible exact laws_heldResResult.mono _ _ _ _)
      | (with_reducible exact laws_markIntS.mono _ _ _)
      | (with_reducible exact laws_markResResult.mono _ _ _ _)
      | (with_reducible exact laws_szActLineS.mono _ _ _)
      | (with_reducible exact laws_toActLineS.mono _ _)
      | (with_reducible exact laws_toIntS.mono _ _)
      | (with_reducible exact spec_ActRun.mono _ _ _ _)
      | (with_reducible exact LeO.refl _)
      | (with_reducible exact LeO.none _)
      | (with_reducible refine LeO.ite ?_ ?_)
      | (with_reducible refine LeO.bind ?_ (fun _ => ?_))
      | exact ih0 _ _ _ _ _ _ _ _ _ _ _ _ _
      | exact ih1 _ _ _ _ _ _ _ _ _ _
      | exact ih2 _ _ _ _ _
      | exact impl_ActRun.mono _ _ _ _
      | exact laws_eqActLineS.mono _ _ _
      | exact laws_eqIntS.mono _ _ _
      | exact laws_eqResResult.mono _ _ _ _ _
      | exact laws_heldIntS.mono _ _ _
      | exact laws_heldResResult.mono _ _ _ _
      | exact laws_markIntS.mono _ _ _
      | exact laws_markResResult.mono _ _ _ _
      | exact laws_szActLineS.mono _ _ _
      | exact laws_toActLineS.mono _ _
      | exact laws_toIntS.mono _ _
      | exact spec_ActRun.mono _ _ _ _
      | exact LeO.none _
      | refine LeO.ite ?_ ?_
      | refine LeO.bind ?_ (fun _ => ?_)
    · intro y0 y1 y2 y3 y4
      unfold laws_FnExactActRun.j2
      repeat' first
      | (with_reducible exact ih0 _ _ _ _ _ _ _ _ _ _ _ _ _)
      | (with_reducible exact ih1 _ _ _ _ _ _ _ _ _ _)
      | (with_reducible exact ih2 _ _ _ _ _)
      | (with_reducible exact impl_ActRun.mono _ _ _ _)
      | (with_reducible exact laws_eqActLineS.mono _ _ _)
      | (with_reducible exact laws_eqIntS.mono _ _ _)
      | (with_reducible exact laws_eqResResult.mono _ _ _ _ _)
      | (with_reducible exact laws_heldIntS.mono _ _ _)
      | (with_reducible exact laws_heldResResult.mono _ _ _ _)
      | (with_reducible exact laws_markIntS.mono _ _ _)
      | (with_reducible exact laws_markResResult.mono _ _ _ _)
      | (with_reducible exact laws_szActLineS.mono _ _ _)
      | (with_reducible exact laws_toActLineS.mono _ _)
      | (with_reducible exact laws_toIntS.mono _ _)
      | (with_reducible exact spec_ActRun.mono _ _ _ _)
      | (with_reducible exact LeO.refl _)
      | (with_reducible exact LeO.none _)
      | (with_reducible refine LeO.ite ?_ ?_)
      | (with_reducible refine LeO.bind ?_ (fun _ => ?_))
      | exact ih0 _ _ _ _ _ _ _ _ _ _ _ _ _
      | exact ih1 _ _ _ _ _ _ _ _ _ _
      | exact ih2 _ _ _ _ _
      | exact impl_ActRun.mono _ _ _ _
      | exact laws_eqActLineS.mono _ _ _
      | exact laws_eqIntS.mono _ _ _
      | exact laws_eqResResult.mono _ _ _ _ _
      | exact laws_heldIntS.mono _ _ _
      | exact laws_heldResResult.mono _ _ _ _
      | exact laws_markIntS.mono _ _ _
      | exact laws_markResResult.mono _ _ _ _
      | exact laws_szActLineS.mono _ _ _
      | exact laws_toActLineS.mono _ _
      | exact laws_toIntS.mono _ _
      | exact spec_ActRun.mono _ _ _ _
      | exact LeO.none _
      | refine LeO.ite ?_ ?_
      | refine LeO.bind ?_ (fun _ => ?_)
theorem laws_FnExactActRun.mono : ∀ a0 a1 a2 k, LeO (laws_FnExactActRun.f k a0 a1 a2) (laws_FnExactActRun.f (k + 1) a0 a1 a2) := by
  intro a0 a1 a2 k
  obtain ⟨ih0, ih1, ih2⟩ := laws_FnExactActRun.mono_l k
  unfold laws_FnExactActRun.f
  repeat' first
      | (with_reducible exact ih0 _ _ _ _ _ _ _ _ _ _ _ _ _)
      | (with_reducible exact ih1 _ _ _ _ _ _ _ _ _ _)
      | (with_reducible exact ih2 _ _ _ _ _)
      | (with_reducible exact impl_ActRun.mono _ _ _ _)
      | (with_reducible exact laws_eqActLineS.mono _ _ _)
      | (with_reducible exact laws_eqIntS.mono _ _ _)
      | (with_reducible exact laws_eqResResult.mono _ _ _ _ _)
      | (with_reducible exact laws_heldIntS.mono _ _ _)
      | (with_reducible exact laws_heldResResult.mono _ _ _ _)
      | (with_reducible exact laws_markIntS.mono _ _ _)
      | (with_reducible exact laws_markResResult.mono _ _ _ _)
      | (with_reducible exact laws_szActLineS.mono _ _ _)
      | (with_reducible exact laws_toActLineS.mono _ _)
      | (with_reducible exact laws_toIntS.mono _ _)
      | (with_reducible exact spec_ActRun.mono _ _ _ _)
      | (with_reducible exact LeO.refl _)
      | (with_reducible exact LeO.none _)
      | (with_reducible refine LeO.ite ?_ ?_)
      | (with_reducible refine LeO.bind ?_ (fun _ => ?_))
      | exact ih0 _ _ _ _ _ _ _ _ _ _ _ _ _
      | exact ih1 _ _ _ _ _ _ _ _ _ _
      | exact ih2 _ _ _ _ _
      | exact impl_ActRun.mono _ _ _ _
      | exact laws_eqActLineS.mono _ _ _
      | exact laws_eqIntS.mono _ _ _
      | exact laws_eqResResult.mono _ _ _ _ _
      | exact laws_heldIntS.mono _ _ _
      | exact laws_heldResResult.mono _ _ _ _
      | exact laws_markIntS.mono _ _ _
      | exact laws_markResResult.mono _ _ _ _
      | exact laws_szActLineS.mono _ _ _
      | exact laws_toActLineS.mono _ _
      | exact laws_toIntS.mono _ _
      | exact spec_ActRun.mono _ _ _ _
      | exact LeO.none _
      | refine LeO.ite ?_ ?_
      | refine LeO.bind ?_ (fun _ => ?_)
set_option maxHeartbeats 8000000 in
set_option maxRecDepth 100000 in
theorem laws_FnExactActRun.calls (k : Nat) (A0 : Option Addr) (c0 : Nat) (l0 : List (S43)) (A1 : Option Addr) (c1 : Nat) (l1 : List Int) (A2 : Option Addr) (c2 : Nat) (l2 : List Int) (r : Bool) (w : World) (hr : Aside0 (r = true)) (hr0 : Kd.C k43 w A0 l0.length l0) (hc0 : l0.length ≤ c0) (hr1 : Kd.C (Kd.int .i64) w A1 l1.length l1) (hc1 : l1.length ≤ c1) (hr2 : Kd.C (Kd.int .i64) w A2 l2.length l2) (hc2 : l2.length ≤ c2) (h : laws_FnExactActRun.f k l0 l1 l2 = some r) :
    Calls Try.prog 3 #[.slice A0 l0.length c0, .slice A1 l1.length c1, .slice A2 l2.length c2] w fun e w' => e = .returned (.bool r) ∧ Below w.heap.size w w' := by
  have hu26 := Try.underlying26
  have HR0 := Aside0.mk hr0
  have HC0 := Aside0.mk hc0
  clear hr0 hc0
  have HR1 := Aside0.mk hr1
  have HC1 := Aside0.mk hc1
  clear hr1 hc1
  have HR2 := Aside0.mk hr2
  have HC2 := Aside0.mk hc2
  clear hr2 hc2
  have HB := Aside0.mk (Below.refl w.heap.size w)
  have H : (if (l1.length : Int) > 1048576 then (some true) else (if (l2.length : Int) > 1048576 then (some true) else ((laws_szActLineS.f k l0 1048576).bind fun t287 => (if t287 < 0 then (some true) else ((laws_toActLineS.f k l0).bind fun t288 => ((laws_toIntS.f k l1).bind fun t291 => ((laws_toIntS.f k l2).bind fun t294 => ((spec_ActRun.f k t288 t291 t294).bind fun bt297 => ((laws_toActLineS.f k l0).bind fun t305 => ((laws_toIntS.f k l1).bind fun t308 => ((laws_toIntS.f k l2).bind fun t311 => ((impl_ActRun.f k t305 t308 t311).bind fun bt314 => ((laws_eqResResult.f k bt314.1 bt314.2.1 bt297.1 bt297.2.1).bind fun t322 => (if t322 = true then ((laws_eqIntS.f k bt314.2.2 bt297.2.2).bind fun t323 => (laws_FnExactActRun.j0 k l0 l1 l2 bt297.2.2 t305 t308 t311 bt314.2.2 (!t323) bt297.1 bt297.2.1 bt314.1 bt314.2.1)) else (laws_FnExactActRun.j0 k l0 l1 l2 bt297.2.2 t305 t308 t311 bt314.2.2 true bt297.1 bt297.2.1 bt314.1 bt314.2.1))))))))))))))) = some r := h
  clear h
  by_cases c4 : (l1.length : Int) > 1048576
  · rw [if_pos c4] at H
    have c4b0 : decide (1048576 < (l1.length : Int)) = true := decide_eq_true c4
    have c4b1 : decide (1048576 < l1.length) = true := decide_eq_true (by omega)
    clear c4
    obtain rfl := Option.some.inj H
    go_enter Try.func3, Try.ntmps3
    go_wp2
    go_ret
    exact ⟨by first | rfl | (simp [errW_none, errW_some] <;> rfl) | (simp [*, errW_none, errW_some] <;> rfl), by exact lB HB.out⟩
  · rw [if_neg c4] at H
    have c4b0 : decide (1048576 < (l1.length : Int)) = false := decide_eq_false c4
    have c4b1 : decide (1048576 < l1.length) = false := decide_eq_false (by omega)
    clear c4
    by_cases c5 : (l2.length : Int) > 1048576
    · rw [if_pos c5] at H
      have c5b0 : decide (1048576 < (l2.length : Int)) = true := decide_eq_true c5
      have c5b1 : decide (1048576 < l2.length) = true := decide_eq_true (by omega)
      clear c5
      obtain rfl := Option.some.inj H
      go_enter Try.func3, Try.ntmps3
      go_wp2
      go_ret
      exact ⟨by first | rfl | (simp [errW_none, errW_some] <;> rfl) | (simp [*, errW_none, errW_some] <;> rfl), by exact lB HB.out⟩
    · rw [if_neg c5] at H
      have c5b0 : decide (1048576 < (l2.length : Int)) = false := decide_eq_false c5
      have c5b1 : decide (1048576 < l2.length) = false := decide_eq_false (by omega)
      clear c5
      replace H := Option.bind_eq_some_iff.mp H
      obtain ⟨t287, A60, H⟩ := H
      replace H : (if t287 < 0 then (some true) else ((laws_toActLineS.f k l0).bind fun t288 => ((laws_toIntS.f k l1).bind fun t291 => ((laws_toIntS.f k l2).bind fun t294 => ((spec_ActRun.f k t288 t291 t294).bind fun bt297 => ((laws_toActLineS.f k l0).bind fun t305 => ((laws_toIntS.f k l1).bind fun t308 => ((laws_toIntS.f k l2).bind fun t311 => ((impl_ActRun.f k t305 t308 t311).bind fun bt314 => ((laws_eqResResult.f k bt314.1 bt314.2.1 bt297.1 bt297.2.1).bind fun t322 => (if t322 = true then ((laws_eqIntS.f k bt314.2.2 bt297.2.2).bind fun t323 => (laws_FnExactActRun.j0 k l0 l1 l2 bt297.2.2 t305 t308 t311 bt314.2.2 (!t323) bt297.1 bt297.2.1 bt314.1 bt314.2.1)) else (laws_FnExactActRun.j0 k l0 l1 l2 bt297.2.2 t305 t308 t311 bt314.2.2 true bt297.1 bt297.2.1 bt314.1 bt314.2.1)))))))))))) = some r := H
      have A6 := Aside0.mk A60
      clear A60
      by_cases c7 : t287 < 0
      · rw [if_pos c7] at H
        have c7b0 : decide (t287 < 0) = true := decide_eq_true c7
        clear c7
        obtain rfl := Option.some.inj H
        go_enter Try.func3, Try.ntmps3
        go_wp2_with (first | ((with_reducible refine gate_callee (f := 4) rfl ?_); refine goesL_ (some 28) rfl rfl Try.func4 (by kernel_rfl) rfl #[.slice A0 l0.length c0, .int .i64 1048576] rfl (by (try simp only [List.map_toArray, List.map_cons, List.map_nil]); first | done | rfl | (simp only [List.length_drop, List.length_take]; rfl)) ?_; (with_reducible refine (laws_szActLineS.calls k _ _ l0 1048576 t287 _ ?side1 ?side2 A6.out).mono ?_); (case side1 => exact lC HR0.out); (case side2 => exact HC0.out); rintro e w8 ⟨rfl, hb⟩; refine ⟨_, rfl, ?_⟩; have n0_ := Aside0.mk (below_step (by exact lB HB.out) hb); clear HB; have HB := n0_; clear n0_; (try clear hb); (try clear hb2); (try clear hk); (try clear hi)))
        go_ret
        exact ⟨by first | rfl | (simp [errW_none, errW_some] <;> rfl) | (simp [*, errW_none, errW_some] <;> rfl), by exact lB HB.out⟩
      · rw [if_neg c7] at H
        have c7b0 : decide (t287 < 0) = false := decide_eq_false c7
        clear c7
        replace H := Option.bind_eq_some_iff.mp H
        obtain ⟨t288, A90, H⟩ := H
        replace H : ((laws_toIntS.f k l1).bind fun t291 => ((laws_toIntS.f k l2).bind fun t294 => ((spec_ActRun.f k t288 t291 t294).bind fun bt297 => ((laws_toActLineS.f k l0).bind fun t305 => ((laws_toIntS.f k l1).bind fun t308 => ((laws_toIntS.f k l2).bind fun t311 => ((impl_ActRun.f k t305 t308 t311).bind fun bt314 => ((laws_eqResResult.f k bt314.1 bt314.2.1 bt297.1 bt297.2.1).bind fun t322 => (if t322 = true then ((laws_eqIntS.f k bt314.2.2 bt297.2.2).bind fun t323 => (laws_FnExactActRun.j0 k l0 l1 l2 bt297.2.2 t305 t308 t311 bt314.2.2 (!t323) bt297.1 bt297.2.1 bt314.1 bt314.2.1)) else (laws_FnExactActRun.j0 k l0 l1 l2 bt297.2.2 t305 t308 t311 bt314.2.2 true bt297.1 bt297.2.1 bt314.1 bt314.2.1)))))))))) = some r := H
        have A9 := Aside0.mk A90
        clear A90
        replace H := Option.bind_eq_some_iff.mp H
        obtain ⟨t291, A100, H⟩ := H
        replace H : ((laws_toIntS.f k l2).bind fun t294 => ((spec_ActRun.f k t288 t291 t294).bind fun bt297 => ((laws_toActLineS.f k l0).bind fun t305 => ((laws_toIntS.f k l1).bind fun t308 => ((laws_toIntS.f k l2).bind fun t311 => ((impl_ActRun.f k t305 t308 t311).bind fun bt314 => ((laws_eqResResult.f k bt314.1 bt314.2.1 bt297.1 bt297.2.1).bind fun t322 => (if t322 = true then ((laws_eqIntS.f k bt314.2.2 bt297.2.2).bind fun t323 => (laws_FnExactActRun.j0 k l0 l1 l2 bt297.2.2 t305 t308 t311 bt314.2.2 (!t323) bt297.1 bt297.2.1 bt314.1 bt314.2.1)) else (laws_FnExactActRun.j0 k l0 l1 l2 bt297.2.2 t305 t308 t311 bt314.2.2 true bt297.1 bt297.2.1 bt314.1 bt314.2.1))))))))) = some r := H
        have A10 := Aside0.mk A100
        clear A100
        replace H := Option.bind_eq_some_iff.mp H
        obtain ⟨t294, A110, H⟩ := H
        replace H : ((spec_ActRun.f k t288 t291 t294).bind fun bt297 => ((laws_toActLineS.f k l0).bind fun t305 => ((laws_toIntS.f k l1).bind fun t308 => ((laws_toIntS.f k l2).bind fun t311 => ((impl_ActRun.f k t305 t308 t311).bind fun bt314 => ((laws_eqResResult.f k bt314.1 bt314.2.1 bt297.1 bt297.2.1).bind fun t322 => (if t322 = true then ((laws_eqIntS.f k bt314.2.2 bt297.2.2).bind fun t323 => (laws_FnExactActRun.j0 k l0 l1 l2 bt297.2.2 t305 t308 t311 bt314.2.2 (!t323) bt297.1 bt297.2.1 bt314.1 bt314.2.1)) else (laws_FnExactActRun.j0 k l0 l1 l2 bt297.2.2 t305 t308 t311 bt314.2.2 true bt297.1 bt297.2.1 bt314.1 bt314.2.1)))))))) = some r := H
        have A11 := Aside0.mk A110
        clear A110
        replace H := Option.bind_eq_some_iff.mp H
        obtain ⟨⟨t297, t298, t301⟩, A120, H⟩ := H
        replace H : ((laws_toActLineS.f k l0).bind fun t305 => ((laws_toIntS.f k l1).bind fun t308 => ((laws_toIntS.f k l2).bind fun t311 => ((impl_ActRun.f k t305 t308 t311).bind fun bt314 => ((laws_eqResResult.f k bt314.1 bt314.2.1 t297 t298).bind fun t322 => (if t322 = true then ((laws_eqIntS.f k bt314.2.2 t301).bind fun t323 => (laws_FnExactActRun.j0 k l0 l1 l2 t301 t305 t308 t311 bt314.2.2 (!t323) t297 t298 bt314.1 bt314.2.1)) else (laws_FnExactActRun.j0 k l0 l1 l2 t301 t305 t308 t311 bt314.2.2 true t297 t298 bt314.1 bt314.2.1))))))) = some r := H
        have A12 := Aside0.mk A120
        clear A120
        replace H := Option.bind_eq_some_iff.mp H
        obtain ⟨t305, A130, H⟩ := H
        replace H : ((laws_toIntS.f k l1).bind fun t308 => ((laws_toIntS.f k l2).bind fun t311 => ((impl_ActRun.f k t305 t308 t311).bind fun bt314 => ((laws_eqResResult.f k bt314.1 bt314.2.1 t297 t298).bind fun t322 => (if t322 = true then ((laws_eqIntS.f k bt314.2.2 t301).bind fun t323 => (laws_FnExactActRun.j0 k l0 l1 l2 t301 t305 t308 t311 bt314.2.2 (!t323) t297 t298 bt314.1 bt314.2.1)) else (laws_FnExactActRun.j0 k l0 l1 l2 t301 t305 t308 t311 bt314.2.2 true t297 t298 bt314.1 bt314.2.1)))))) = some r := H
        have A13 := Aside0.mk A130
        clear A130
        replace H := Option.bind_eq_some_iff.mp H
        obtain ⟨t308, A140, H⟩ := H
        replace H : ((laws_toIntS.f k l2).bind fun t311 => ((impl_ActRun.f k t305 t308 t311).bind fun bt314 => ((laws_eqResResult.f k bt314.1 bt314.2.1 t297 t298).bind fun t322 => (if t322 = true then ((laws_eqIntS.f k bt314.2.2 t301).bind fun t323 => (laws_FnExactActRun.j0 k l0 l1 l2 t301 t305 t308 t311 bt314.2.2 (!t323) t297 t298 bt314.1 bt314.2.1)) else (laws_FnExactActRun.j0 k l0 l1 l2 t301 t305 t308 t311 bt314.2.2 true t297 t298 bt314.1 bt314.2.1))))) = some r := H
        have A14 := Aside0.mk A140
        clear A140
        replace H := Option.bind_eq_some_iff.mp H
        obtain ⟨t311, A150, H⟩ := H
        replace H : ((impl_ActRun.f k t305 t308 t311).bind fun bt314 => ((laws_eqResResult.f k bt314.1 bt314.2.1 t297 t298).bind fun t322 => (if t322 = true then ((laws_eqIntS.f k bt314.2.2 t301).bind fun t323 => (laws_FnExactActRun.j0 k l0 l1 l2 t301 t305 t308 t311 bt314.2.2 (!t323) t297 t298 bt314.1 bt314.2.1)) else (laws_FnExactActRun.j0 k l0 l1 l2 t301 t305 t308 t311 bt314.2.2 true t297 t298 bt314.1 bt314.2.1)))) = some r := H
        have A15 := Aside0.mk A150
        clear A150
        replace H := Option.bind_eq_some_iff.mp H
        obtain ⟨⟨t314, t315, t318⟩, A160, H⟩ := H
        replace H : ((laws_eqResResult.f k t314 t315 t297 t298).bind fun t322 => (if t322 = true then ((laws_eqIntS.f k t318 t301).bind fun t323 => (laws_FnExactActRun.j0 k l0 l1 l2 t301 t305 t308 t311 t318 (!t323) t297 t298 t314 t315)) else (laws_FnExactActRun.j0 k l0 l1 l2 t301 t305 t308 t311 t318 true t297 t298 t314 t315))) = some r := H
        have A16 := Aside0.mk A160
        clear A160
        have HC17 := Aside0.mk H
        clear H
        go_enter Try.func3, Try.ntmps3
        go_upto_region 14 with (first | ((with_reducible refine gate_callee (f := 4) rfl ?_); refine goesL_ (some 28) rfl rfl Try.func4 (by kernel_rfl) rfl #[.slice A0 l0.length c0, .int .i64 1048576] rfl (by (try simp only [List.map_toArray, List.map_cons, List.map_nil]); first | done | rfl | (simp only [List.length_drop, List.length_take]; rfl)) ?_; (with_reducible refine (laws_szActLineS.calls k _ _ l0 1048576 t287 _ ?side1 ?side2 A6.out).mono ?_); (case side1 => exact lC HR0.out); (case side2 => exact HC0.out); rintro e w18 ⟨rfl, hb⟩; refine ⟨_, rfl, ?_⟩; have n0_ := Aside0.mk (below_step (by exact lB HB.out) hb); clear HB; have HB := n0_; clear n0_; (try clear hb); (try clear hb2); (try clear hk); (try clear hi)) | ((with_reducible refine gate_callee (f := 6) rfl ?_); refine goesL_ (some 33) rfl rfl Try.func6 (by kernel_rfl) rfl #[.slice A0 l0.length c0] rfl (by (try simp only [List.map_toArray, List.map_cons, List.map_nil]); first | done | rfl | (simp only [List.length_drop, List.length_take]; rfl)) ?_; (with_reducible refine (laws_toActLineS.calls k _ _ l0 t288 _ ?side1 ?side2 A9.out).mono ?_); (case side1 => exact lC <| (Kd.C_below HR0.out HB.out)); (case side2 => exact HC0.out); rintro e w19 ⟨v289, rfl, ho0, hb⟩; refine ⟨_, rfl, ?_⟩; have n0_ := Aside0.mk (Kd.S_lower ho0 (below_size (by exact lB HB.out))); have n1_ := Aside0.mk (below_step (by exact lB HB.out) hb); clear HB; have HO290 := n0_; have HB := n1_; clear n0_ n1_; (try clear hb); (try clear hb2); (try clear hk); (try clear hi); (try clear ho0)) | ((with_reducible refine gate_callee (f := 7) rfl ?_); refine goesL_ (some 35) rfl rfl Try.func7 (by kernel_rfl) rfl #[.slice A1 l1.length c1] rfl (by (try simp only [List.map_toArray, List.map_cons, List.map_nil]); first | done | rfl | (simp only [List.length_drop, List.length_take]; rfl)) ?_; (with_reducible refine (laws_toIntS.calls k _ _ l1 t291 _ ?side1 ?side2 A10.out).mono ?_); (case side1 => exact lC <| (Kd.C_below HR1.out HB.out)); (case side2 => exact HC1.out); rintro e w20 ⟨v292, rfl, ho0, hb⟩; refine ⟨_, rfl, ?_⟩; have n0_ := Aside0.mk (Kd.S_elder' (by exact lS HO290.out) (Kd.R_base ho0) hb); have n1_ := Aside0.mk (Kd.R_lower ho0 (below_size (by exact lB HB.out))); have n2_ := Aside0.mk (below_step (by exact lB HB.out) hb); clear HO290; clear HB; have HO290 := n0_; have HO293 := n1_; have HB := n2_; clear n0_ n1_ n2_; (try clear hb); (try clear hb2); (try clear hk); (try clear hi); (try clear ho0)) | ((with_reducible refine gate_callee (f := 7) rfl ?_); refine goesL_ (some 37) rfl rfl Try.func7 (by kernel_rfl) rfl #[.slice A2 l2.length c2] rfl (by (try simp only [List.map_toArray, List.map_cons, List.map_nil]); first | done | rfl | (simp only [List.length_drop, List.length_take]; rfl)) ?_; (with_reducible refine (laws_toIntS.calls k _ _ l2 t294 _ ?side1 ?side2 A11.out).mono ?_); (case side1 => exact lC <| (Kd.C_below HR2.out HB.out)); (case side2 => exact HC2.out); rintro e w21 ⟨v295, rfl, ho0, hb⟩; refine ⟨_, rfl, ?_⟩; have n0_ := Aside0.mk (Kd.S_elder' (by exact lS HO290.out) (Kd.R_base ho0) hb); have n1_ := Aside0.mk (Kd.R_elder' (by exact lR HO293.out) (Kd.R_base ho0) hb); have n2_ := Aside0.mk (Kd.R_lower (Kd.R_new' ho0 (Kd.R_lt (by exact lR HO293.out))) (below_size (by exact lB HB.out))); have n3_ := Aside0.mk (below_step (by exact lB HB.out) hb); clear HO290; clear HO293; clear HB; have HO290 := n0_; have HO293 := n1_; have HO296 := n2_; have HB := n3_; clear n0_ n1_ n2_ n3_; (try clear hb); (try clear hb2); (try clear hk); (try clear hi); (try clear ho0); obtain ⟨Ao22, co22, eo22⟩ := Kd.S_slice HO290.out; subst eo22; obtain ⟨Ao23, co23, eo23⟩ := Kd.R_slice HO293.out; subst eo23; obtain ⟨Ao24, co24, eo24⟩ := Kd.R_slice HO296.out; subst eo24) | ((with_reducible refine gate_callee (f := 5) rfl ?_); refine goesL_ (some 38) rfl rfl Try.func5 (by kernel_rfl) rfl #[.slice Ao22 t288.length co22, .slice Ao23 t291.length co23, .slice Ao24 t294.length co24] rfl (by (try simp only [List.map_toArray, List.map_cons, List.map_nil]); first | done | rfl | (simp only [List.length_drop, List.length_take]; rfl)) ?_; (with_reducible refine (spec_ActRun.calls k _ _ t288 _ _ t291 _ _ t294 t297 t298 t301 _ ?side1 ?side2 ?side3 ?side4 ?side5 ?side6 A12.out).mono ?_); (case side1 => exact lC <| (Kd.S_reads' HO290.out).2.2); (case side2 => exact (Kd.S_reads' HO290.out).2.1); (case side3 => exact lC <| (Kd.R_reads' HO293.out).2.2); (case side4 => exact (Kd.R_reads' HO293.out).2.1); (case side5 => exact lC <| (Kd.R_reads' HO296.out).2.2); (case side6 => exact (Kd.R_reads' HO296.out).2.1); rintro e w25 ⟨v299, v302, rfl, ho0, ho1, hb⟩; refine ⟨_, rfl, ?_⟩; have n0_ := Aside0.mk (Kd.S_mono (Kd.S_told (Kd.S_told (Kd.S_old (by exact lS HO290.out) hb) (Kd.R_base ho0)) (Kd.R_base ho1)) (fun _ h_ => h_.1)); have n1_ := Aside0.mk (Kd.R_mono (Kd.R_told (Kd.R_told (Kd.R_old (by exact lR HO293.out) hb) (Kd.R_base ho0)) (Kd.R_base ho1)) (fun _ h_ => h_.1)); have n2_ := Aside0.mk (Kd.R_mono (Kd.R_told (Kd.R_told (Kd.R_old (by exact lR HO296.out) hb) (Kd.R_base ho0)) (Kd.R_base ho1)) (fun _ h_ => h_.1)); have n3_ := Aside0.mk (Kd.R_lower (Kd.R_new' (Kd.R_new' ho0 (Kd.R_lt (by exact lR HO293.out))) (Kd.R_lt (by exact lR HO296.out))) (below_size (by exact lB HB.out))); have n4_ := Aside0.mk (Kd.R_lower (Kd.R_new' (Kd.R_new' ho1 (Kd.R_lt (by exact lR HO293.out))) (Kd.R_lt (by exact lR HO296.out))) (below_size (by exact lB HB.out))); have n5_ := Aside0.mk (below_step (by exact lB HB.out) hb); clear HO290; clear HO293; clear HO296; clear HB; have HO290 := n0_; have HO293 := n1_; have HO296 := n2_; have HO300 := n3_; have HO303 := n4_; have HB := n5_; clear n0_ n1_ n2_ n3_ n4_ n5_; (try clear hb); (try clear hb2); (try clear hk); (try clear hi); (try clear ho0); (try clear ho1); have n_ := Aside0.mk (Kd.R_mono (ok' := fun k_ => some k_ ≠ (v302 : Value).ownBlock) HO300.out (fun _ hk => hk.1.1)); clear HO300; have HO300 := n_; clear n_; have n_ := Aside0.mk (Kd.R_mono (ok' := fun k_ => some k_ ≠ (v299 : Value).ownBlock) HO303.out (fun _ hk => hk.1.1)); clear HO303; have HO303 := n_; clear n_) | ((with_reducible refine gate_dst (N := 8) rfl ?_); refine box_event ?hg (N := 8) ?hd (cs := #[.int .i64 0, .slice none 0 0]) (t := 26) ?hr ?_; (case hd => rfl); (case hg => rfl); (case hr => first | (go_simp; done) | (go_simp; rfl)); intro gb304 hg w26 hbox hb; have n0_ := Aside0.mk (Kd.R_below (by exact lR HO300.out) hb); have n1_ := Aside0.mk (Kd.R_below (by exact lR HO303.out) hb); have n2_ := Aside0.mk (below_step (by exact lB HB.out) hb); have n3_ := Aside0.mk (hbox); have n4_ := Aside0.mk ((by rw [hg]; exact (below_size (by exact lB HB.out)) : w.heap.size ≤ gb304)); have n5_ := Aside0.mk ((by rw [hg]; exact (below_size (by exact lB HB.out)) : w.heap.size ≤ gb304)); clear HO300; clear HO303; clear HB; have HO300 := n0_; have HO303 := n1_; have HB := n2_; have BK304 := n3_; have GW304 := n4_; have GE304 := n5_; clear n0_ n1_ n2_ n3_ n4_ n5_; clear hb hbox hg; have hcz27_0 : w26.cell? ⟨gb304, 0, none⟩ = some (.int .i64 0) := (blk_cell BK304.out 0).trans rfl; have hcz27_1 : w26.cell? ⟨gb304, 1, none⟩ = some (.slice none 0 0) := (blk_cell BK304.out 1).trans rfl; have hfz27_0 := blk_frozen BK304.out 0; have hfz27_1 := blk_frozen BK304.out 1; obtain ⟨Ao28, co28, eo28⟩ := Kd.R_slice HO300.out; subst eo28) | ((with_reducible refine gate_callee (f := 6) rfl ?_); refine goesL_ (some 42) rfl rfl Try.func6 (by kernel_rfl) rfl #[.slice A0 l0.length c0] rfl (by (try simp only [List.map_toArray, List.map_cons, List.map_nil]); first | done | rfl | (simp only [List.length_drop, List.length_take]; rfl)) ?_; (with_reducible refine (laws_toActLineS.calls k _ _ l0 t305 _ ?side1 ?side2 A13.out).mono ?_); (case side1 => exact Kd.C_below HR0.out (by repeat (first | (with_reducible first | exact HB.out | apply below_alloc | apply pw_below_drewN | apply below_drew1 | refine below_set ?_ GE304.out) | exact HB.out))); (case side2 => exact HC0.out); rintro e w29 ⟨v306, rfl, ho0, hb⟩; refine ⟨_, rfl, ?_⟩; have n0_ := Aside0.mk (Kd.R_below (by exact lR <| (Kd.R_mono (Kd.R_far (p := ⟨gb304, 1, none⟩) (Kd.R_far (p := ⟨gb304, 0, none⟩) (Kd.R_types HO300.out BK304.out (by decide)) (fun _ hk => hk.2) (.int .i64 t297)) (fun _ hk => hk.2) (.slice Ao28 t298.length co28)) (fun _ h_ => h_.1))) hb); have n1_ := Aside0.mk (Kd.R_below (by exact lR <| (Kd.R_mono (Kd.R_far (p := ⟨gb304, 1, none⟩) (Kd.R_far (p := ⟨gb304, 0, none⟩) (Kd.R_types HO303.out BK304.out (by decide)) (fun _ hk => hk.2) (.int .i64 t297)) (fun _ hk => hk.2) (.slice Ao28 t298.length co28)) (fun _ h_ => h_.1))) hb); have n2_ := Aside0.mk (Kd.S_lower (Kd.S_new' (Kd.S_new' ho0 (Kd.R_lt (by exact lR <| (Kd.R_mono (Kd.R_far (p := ⟨gb304, 1, none⟩) (Kd.R_far (p := ⟨gb304, 0, none⟩) (Kd.R_types HO300.out BK304.out (by decide)) (fun _ hk => hk.2) (.int .i64 t297)) (fun _ hk => hk.2) (.slice Ao28 t298.length co28)) (fun _ h_ => h_.1))))) (Kd.R_lt (by exact lR <| (Kd.R_mono (Kd.R_far (p := ⟨gb304, 1, none⟩) (Kd.R_far (p := ⟨gb304, 0, none⟩) (Kd.R_types HO303.out BK304.out (by decide)) (fun _ hk => hk.2) (.int .i64 t297)) (fun _ hk => hk.2) (.slice Ao28 t298.length co28)) (fun _ h_ => h_.1))))) (below_size (by repeat (first | (with_reducible first | exact HB.out | apply below_alloc | apply pw_below_drewN | apply below_drew1 | refine below_set ?_ GE304.out) | exact HB.out)))); have n3_ := Aside0.mk (blk_below (g := gb304) (o := .cells #[.int .i64 t297, .slice Ao28 t298.length co28] 26 (0, 0)) (by (with_reducible repeat (first | refine blk_drewN ?_ _ | refine blk_drew ?_ | refine blk_alloc ?_ _)); refine blk_put (cs := #[.int .i64 t297, .slice none 0 0]) ?_ 1 _ rfl; (with_reducible repeat (first | refine blk_drewN ?_ _ | refine blk_drew ?_ | refine blk_alloc ?_ _)); refine blk_put (cs := #[.int .i64 0, .slice none 0 0]) ?_ 0 _ rfl; exact lK BK304.out) hb); have n4_ := Aside0.mk (below_step (by repeat (first | (with_reducible first | exact HB.out | apply below_alloc | apply pw_below_drewN | apply below_drew1 | refine below_set ?_ GE304.out) | exact HB.out)) hb); clear HO300; clear HO303; clear BK304; clear HB; have HO300 := n0_; have HO303 := n1_; have HO307 := n2_; have BK304 := n3_; have HB := n4_; clear n0_ n1_ n2_ n3_ n4_; (try clear hb); (try clear hb2); (try clear hk); (try clear hi); (try clear ho0)) | ((with_reducible refine gate_callee (f := 7) rfl ?_); refine goesL_ (some 44) rfl rfl Try.func7 (by kernel_rfl) rfl #[.slice A1 l1.length c1] rfl (by (try simp only [List.map_toArray, List.map_cons, List.map_nil]); first | done | rfl | (simp only [List.length_drop, List.length_take]; rfl)) ?_; (with_reducible refine (laws_toIntS.calls k _ _ l1 t308 _ ?side1 ?side2 A14.out).mono ?_); (case side1 => exact lC <| (Kd.C_below HR1.out HB.out)); (case side2 => exact HC1.out); rintro e w30 ⟨v309, rfl, ho0, hb⟩; refine ⟨_, rfl, ?_⟩; have n0_ := Aside0.mk (Kd.R_elder' (by exact lR HO300.out) (Kd.R_base ho0) hb); have n1_ := Aside0.mk (Kd.R_elder' (by exact lR HO303.out) (Kd.R_base ho0) hb); have n2_ := Aside0.mk (Kd.S_elder' (by exact lS HO307.out) (Kd.R_base ho0) hb); have n3_ := Aside0.mk (Kd.R_lower (Kd.R_new' (Kd.R_new' ho0 (Kd.R_lt (by exact lR HO300.out))) (Kd.R_lt (by exact lR HO303.out))) (below_size (by repeat (first | (with_reducible first | exact HB.out | apply below_alloc | apply pw_below_drewN | apply below_drew1 | refine below_set ?_ GE304.out) | exact HB.out)))); have n4_ := Aside0.mk (blk_below (g := gb304) (o := .cells #[.int .i64 t297, .slice Ao28 t298.length co28] 26 (0, 0)) (by exact lK BK304.out) hb); have n5_ := Aside0.mk (below_step (by repeat (first | (with_reducible first | exact HB.out | apply below_alloc | apply pw_below_drewN | apply below_drew1 | refine below_set ?_ GE304.out) | exact HB.out)) hb); clear HO300; clear HO303; clear HO307; clear BK304; clear HB; have HO300 := n0_; have HO303 := n1_; have HO307 := n2_; have HO310 := n3_; have BK304 := n4_; have HB := n5_; clear n0_ n1_ n2_ n3_ n4_ n5_; (try clear hb); (try clear hb2); (try clear hk); (try clear hi); (try clear ho0)) | ((with_reducible refine gate_callee (f := 7) rfl ?_); refine goesL_ (some 46) rfl rfl Try.func7 (by kernel_rfl) rfl #[.slice A2 l2.length c2] rfl (by (try simp only [List.map_toArray, List.map_cons, List.map_nil]); first | done | rfl | (simp only [List.length_drop, List.length_take]; rfl)) ?_; (with_reducible refine (laws_toIntS.calls k _ _ l2 t311 _ ?side1 ?side2 A15.out).mono ?_); (case side1 => exact lC <| (Kd.C_below HR2.out HB.out)); (case side2 => exact HC2.out); rintro e w31 ⟨v312, rfl, ho0, hb⟩; refine ⟨_, rfl, ?_⟩; have n0_ := Aside0.mk (Kd.R_elder' (by exact lR HO300.out) (Kd.R_base ho0) hb); have n1_ := Aside0.mk (Kd.R_elder' (by exact lR HO303.out) (Kd.R_base ho0) hb); have n2_ := Aside0.mk (Kd.S_elder' (by exact lS HO307.out) (Kd.R_base ho0) hb); have n3_ := Aside0.mk (Kd.R_elder' (by exact lR HO310.out) (Kd.R_base ho0) hb); have n4_ := Aside0.mk (Kd.R_lower (Kd.R_new' (Kd.R_new' (Kd.R_new' ho0 (Kd.R_lt (by exact lR HO300.out))) (Kd.R_lt (by exact lR HO303.out))) (Kd.R_lt (by exact lR HO310.out))) (below_size (by repeat (first | (with_reducible first | exact HB.out | apply below_alloc | apply pw_below_drewN | apply below_drew1 | refine below_set ?_ GE304.out) | exact HB.out)))); have n5_ := Aside0.mk (blk_below (g := gb304) (o := .cells #[.int .i64 t297, .slice Ao28 t298.length co28] 26 (0, 0)) (by exact lK BK304.out) hb); have n6_ := Aside0.mk (below_step (by repeat (first | (with_reducible first | exact HB.out | apply below_alloc | apply pw_below_drewN | apply below_drew1 | refine below_set ?_ GE304.out) | exact HB.out)) hb); clear HO300; clear HO303; clear HO307; clear HO310; clear BK304; clear HB; have HO300 := n0_; have HO303 := n1_; have HO307 := n2_; have HO310 := n3_; have HO313 := n4_; have BK304 := n5_; have HB := n6_; clear n0_ n1_ n2_ n3_ n4_ n5_ n6_; (try clear hb); (try clear hb2); (try clear hk); (try clear hi); (try clear ho0); obtain ⟨Ao32, co32, eo32⟩ := Kd.S_slice HO307.out; subst eo32; obtain ⟨Ao33, co33, eo33⟩ := Kd.R_slice HO310.out; subst eo33; obtain ⟨Ao34, co34, eo34⟩ := Kd.R_slice HO313.out; subst eo34) | ((with_reducible refine gate_callee (f := 8) rfl ?_); refine goesL_ (some 51) rfl rfl Try.func8 (by kernel_rfl) rfl #[.slice Ao32 t305.length co32, .slice Ao33 t308.length co33, .slice Ao34 t311.length co34] rfl (by (try simp only [List.map_toArray, List.map_cons, List.map_nil]); first | done | rfl | (simp only [List.length_drop, List.length_take]; rfl)) ?_; (with_reducible refine (impl_ActRun.calls k _ _ t305 _ _ t308 _ _ t311 t314 t315 t318 _ ?side1 ?side2 ?side3 ?side4 ?side5 ?side6 A16.out).mono ?_); (case side1 => exact lC <| (Kd.S_reads' HO307.out).2.2); (case side2 => exact (Kd.S_reads' HO307.out).2.1); (case side3 => exact lC <| (Kd.R_reads' HO310.out).2.2); (case side4 => exact (Kd.R_reads' HO310.out).2.1); (case side5 => exact lC <| (Kd.R_reads' HO313.out).2.2); (case side6 => exact (Kd.R_reads' HO313.out).2.1); rintro e w35 ⟨v316, v319, rfl, ho0, ho1, hb⟩; refine ⟨_, rfl, ?_⟩; have n0_ := Aside0.mk (Kd.R_mono (Kd.R_told (Kd.R_told (Kd.R_old (by exact lR HO300.out) hb) (Kd.R_base ho0)) (Kd.R_base ho1)) (fun _ h_ => h_.1)); have n1_ := Aside0.mk (Kd.R_mono (Kd.R_told (Kd.R_told (Kd.R_old (by exact lR HO303.out) hb) (Kd.R_base ho0)) (Kd.R_base ho1)) (fun _ h_ => h_.1)); have n2_ := Aside0.mk (Kd.S_mono (Kd.S_told (Kd.S_told (Kd.S_old (by exact lS HO307.out) hb) (Kd.R_base ho0)) (Kd.R_base ho1)) (fun _ h_ => h_.1)); have n3_ := Aside0.mk (Kd.R_mono (Kd.R_told (Kd.R_told (Kd.R_old (by exact lR HO310.out) hb) (Kd.R_base ho0)) (Kd.R_base ho1)) (fun _ h_ => h_.1)); have n4_ := Aside0.mk (Kd.R_mono (Kd.R_told (Kd.R_told (Kd.R_old (by exact lR HO313.out) hb) (Kd.R_base ho0)) (Kd.R_base ho1)) (fun _ h_ => h_.1)); have n5_ := Aside0.mk (Kd.R_lower (Kd.R_new' (Kd.R_new' (Kd.R_new' (Kd.R_new' ho0 (Kd.R_lt (by exact lR HO300.out))) (Kd.R_lt (by exact lR HO303.out))) (Kd.R_lt (by exact lR HO310.out))) (Kd.R_lt (by exact lR HO313.out))) (below_size (by repeat (first | (with_reducible first | exact HB.out | apply below_alloc | apply pw_below_drewN | apply below_drew1 | refine below_set ?_ GE304.out) | exact HB.out)))); have n6_ := Aside0.mk (Kd.R_lower (Kd.R_new' (Kd.R_new' (Kd.R_new' (Kd.R_new' ho1 (Kd.R_lt (by exact lR HO300.out))) (Kd.R_lt (by exact lR HO303.out))) (Kd.R_lt (by exact lR HO310.out))) (Kd.R_lt (by exact lR HO313.out))) (below_size (by repeat (first | (with_reducible first | exact HB.out | apply below_alloc | apply pw_below_drewN | apply below_drew1 | refine below_set ?_ GE304.out) | exact HB.out)))); have n7_ := Aside0.mk (blk_below (g := gb304) (o := .cells #[.int .i64 t297, .slice Ao28 t298.length co28] 26 (0, 0)) (by exact lK BK304.out) hb); have n8_ := Aside0.mk (below_step (by repeat (first | (with_reducible first | exact HB.out | apply below_alloc | apply pw_below_drewN | apply below_drew1 | refine below_set ?_ GE304.out) | exact HB.out)) hb); clear HO300; clear HO303; clear HO307; clear HO310; clear HO313; clear BK304; clear HB; have HO300 := n0_; have HO303 := n1_; have HO307 := n2_; have HO310 := n3_; have HO313 := n4_; have HO317 := n5_; have HO320 := n6_; have BK304 := n7_; have HB := n8_; clear n0_ n1_ n2_ n3_ n4_ n5_ n6_ n7_ n8_; (try clear hb); (try clear hb2); (try clear hk); (try clear hi); (try clear ho0); (try clear ho1)) | ((with_reducible refine gate_dst (N := 13) rfl ?_); refine box_event ?hg (N := 13) ?hd (cs := #[.int .i64 0, .slice none 0 0]) (t := 26) ?hr ?_; (case hd => rfl); (case hg => rfl); (case hr => first | (go_simp; done) | (go_simp; rfl)); intro gb321 hg w36 hbox hb; have n0_ := Aside0.mk (Kd.R_below (by exact lR HO300.out) hb); have n1_ := Aside0.mk (Kd.R_below (by exact lR HO303.out) hb); have n2_ := Aside0.mk (Kd.S_below (by exact lS HO307.out) hb); have n3_ := Aside0.mk (Kd.R_below (by exact lR HO310.out) hb); have n4_ := Aside0.mk (Kd.R_below (by exact lR HO313.out) hb); have n5_ := Aside0.mk (Kd.R_below (by exact lR HO317.out) hb); have n6_ := Aside0.mk (Kd.R_below (by exact lR HO320.out) hb); have n7_ := Aside0.mk (blk_below (g := gb304) (o := .cells #[.int .i64 t297, .slice Ao28 t298.length co28] 26 (0, 0)) (by exact lK BK304.out) hb); have n8_ := Aside0.mk (below_step (by repeat (first | (with_reducible first | exact HB.out | apply below_alloc | apply pw_below_drewN | apply below_drew1 | refine below_set ?_ GE304.out) | exact HB.out)) hb); have n9_ := Aside0.mk (hbox); have n10_ := Aside0.mk ((by rw [hg]; exact (below_size (by repeat (first | (with_reducible first | exact HB.out | apply below_alloc | apply pw_below_drewN | apply below_drew1 | refine below_set ?_ GE304.out) | exact HB.out))) : w.heap.size ≤ gb321)); have n11_ := Aside0.mk ((by rw [hg]; exact (below_size (by repeat (first | (with_reducible first | exact HB.out | apply below_alloc | apply pw_below_drewN | apply below_drew1 | refine below_set ?_ GE304.out) | exact HB.out))) : w.heap.size ≤ gb321)); have n12_ := Aside0.mk ((by rw [hg]; exact Nat.ne_of_lt (blk_lt (g := gb304) (o := .cells #[.int .i64 t297, .slice Ao28 t298.length co28] 26 (0, 0)) (by exact lK BK304.out)) : gb304 ≠ gb321)); have n13_ := Aside0.mk ((by rw [hg]; exact Nat.ne_of_gt (blk_lt (g := gb304) (o := .cells #[.int .i64 t297, .slice Ao28 t298.length co28] 26 (0, 0)) (by exact lK BK304.out)) : gb321 ≠ gb304)); clear HO300; clear HO303; clear HO307; clear HO310; clear HO313; clear HO317; clear HO320; clear BK304; clear HB; have HO300 := n0_; have HO303 := n1_; have HO307 := n2_; have HO310 := n3_; have HO313 := n4_; have HO317 := n5_; have HO320 := n6_; have BK304 := n7_; have HB := n8_; have BK321 := n9_; have GW321 := n10_; have GE321 := n11_; have NB304_321 := n12_; have NB321_304 := n13_; clear n0_ n1_ n2_ n3_ n4_ n5_ n6_ n7_ n8_ n9_ n10_ n11_ n12_ n13_; clear hb hbox hg; have hnb37 := NB321_304.out; have hnc37 := NB304_321.out; have hcz38_0 : w36.cell? ⟨gb321, 0, none⟩ = some (.int .i64 0) := (blk_cell BK321.out 0).trans rfl; have hcz38_1 : w36.cell? ⟨gb321, 1, none⟩ = some (.slice none 0 0) := (blk_cell BK321.out 1).trans rfl; have hfz38_0 := blk_frozen BK321.out 0; have hfz38_1 := blk_frozen BK321.out 1; obtain ⟨Ao39, co39, eo39⟩ := Kd.R_slice HO317.out; subst eo39))
        (try simp only [Act.put, List.setIfInBounds_toArray, List.set_cons_zero, List.set_cons_succ])
        go_cut [63] (fun v63 wc => ∃ (kq : Nat) (x63_16 : Bool), v63 = .bool x63_16 ∧ Aside0 (laws_FnExactActRun.j0 kq l0 l1 l2 t301 t305 t308 t311 t318 x63_16 t297 t298 t314 t315 = some r) ∧ Aside0 (kq ≤ k) ∧ Aside0 (Kd.R (Kd.int .i64) 3 wc w.heap.size (fun k_ => some k_ ≠ ((.slice Ao33 t308.length co33) : Value).ownBlock ∧ some k_ ≠ ((.slice Ao34 t311.length co34) : Value).ownBlock ∧ some k_ ≠ (v319 : Value).ownBlock ∧ some k_ ≠ ((.slice Ao28 t298.length co28) : Value).ownBlock ∧ some k_ ≠ ((.slice Ao39 t315.length co39) : Value).ownBlock) v302 t301) ∧ Aside0 (Kd.S k48 48 wc w.heap.size (fun k_ => some k_ ≠ (v302 : Value).ownBlock ∧ some k_ ≠ ((.slice Ao33 t308.length co33) : Value).ownBlock ∧ some k_ ≠ ((.slice Ao34 t311.length co34) : Value).ownBlock ∧ some k_ ≠ (v319 : Value).ownBlock ∧ some k_ ≠ ((.slice Ao28 t298.length co28) : Value).ownBlock ∧ some k_ ≠ ((.slice Ao39 t315.length co39) : Value).ownBlock) (.slice Ao32 t305.length co32) t305) ∧ Aside0 (Kd.R (Kd.int .i64) 3 wc w.heap.size (fun k_ => some k_ ≠ (v302 : Value).ownBlock ∧ some k_ ≠ ((.slice Ao34 t311.length co34) : Value).ownBlock ∧ some k_ ≠ (v319 : Value).ownBlock ∧ some k_ ≠ ((.slice Ao28 t298.length co28) : Value).ownBlock ∧ some k_ ≠ ((.slice Ao39 t315.length co39) : Value).ownBlock) (.slice Ao33 t308.length co33) t308) ∧ Aside0 (Kd.R (Kd.int .i64) 3 wc w.heap.size (fun k_ => some k_ ≠ (v302 : Value).ownBlock ∧ some k_ ≠ ((.slice Ao33 t308.length co33) : Value).ownBlock ∧ some k_ ≠ (v319 : Value).ownBlock ∧ some k_ ≠ ((.slice Ao28 t298.length co28) : Value).ownBlock ∧ some k_ ≠ ((.slice Ao39 t315.length co39) : Value).ownBlock) (.slice Ao34 t311.length co34) t311) ∧ Aside0 (Kd.R (Kd.int .i64) 3 wc w.heap.size (fun k_ => some k_ ≠ (v302 : Value).ownBlock ∧ some k_ ≠ ((.slice Ao33 t308.length co33) : Value).ownBlock ∧ some k_ ≠ ((.slice Ao34 t311.length co34) : Value).ownBlock ∧ some k_ ≠ ((.slice Ao28 t298.length co28) : Value).ownBlock ∧ some k_ ≠ ((.slice Ao39 t315.length co39) : Value).ownBlock) v319 t318) ∧ Aside0 (Kd.R (Kd.int .i64) 3 wc w.heap.size (fun k_ => some k_ ≠ (v302 : Value).ownBlock ∧ some k_ ≠ ((.slice Ao33 t308.length co33) : Value).ownBlock ∧ some k_ ≠ ((.slice Ao34 t311.length co34) : Value).ownBlock ∧ some k_ ≠ (v319 : Value).ownBlock ∧ some k_ ≠ ((.slice Ao39 t315.length co39) : Value).ownBlock) (.slice Ao28 t298.length co28) t298) ∧ Aside0 (Kd.R (Kd.int .i64) 3 wc w.heap.size (fun k_ => some k_ ≠ (v302 : Value).ownBlock ∧ some k_ ≠ ((.slice Ao33 t308.length co33) : Value).ownBlock ∧ some k_ ≠ ((.slice Ao34 t311.length co34) : Value).ownBlock ∧ some k_ ≠ (v319 : Value).ownBlock ∧ some k_ ≠ ((.slice Ao28 t298.length co28) : Value).ownBlock) (.slice Ao39 t315.length co39) t315) ∧ Aside0 (wc.heap[gb304]? = some (.cells #[.int .i64 t297, (.slice Ao28 t298.length co28)] 26 (0, 0))) ∧ Aside0 (wc.heap[gb321]? = some (.cells #[.int .i64 t314, (.slice Ao39 t315.length co39)] 26 (0, 0))) ∧ Aside0 (Below w.heap.size w wc))
        case first =>
          have H := HC17.out
          clear HC17
          replace H := Option.bind_eq_some_iff.mp H
          obtain ⟨t322, A400, H⟩ := H
          replace H : (if t322 = true then ((laws_eqIntS.f k t318 t301).bind fun t323 => (laws_FnExactActRun.j0 k l0 l1 l2 t301 t305 t308 t311 t318 (!t323) t297 t298 t314 t315)) else (laws_FnExactActRun.j0 k l0 l1 l2 t301 t305 t308 t311 t318 true t297 t298 t314 t315)) = some r := H
          have A40 := Aside0.mk A400
          clear A400
          by_cases c41 : t322 = true
          · subst c41
            have H1 : ((laws_eqIntS.f k t318 t301).bind fun t323 => (laws_FnExactActRun.j0 k l0 l1 l2 t301 t305 t308 t311 t318 (!t323) t297 t298 t314 t315)) = some r := by rw [if_pos rfl] at H; exact H
            clear H
            have H := H1
            clear H1
            replace H := Option.bind_eq_some_iff.mp H
            obtain ⟨t323, A420, H⟩ := H
            replace H : (laws_FnExactActRun.j0 k l0 l1 l2 t301 t305 t308 t311 t318 (!t323) t297 t298 t314 t315) = some r := H
            have A42 := Aside0.mk A420
            clear A420
            have H' := Aside0.mk H
            clear H
            have hnb43 := NB321_304.out
            have hnc43 := NB304_321.out
            have hcz44_0 : w36.cell? ⟨gb321, 0, none⟩ = some (.int .i64 0) := (blk_cell BK321.out 0).trans rfl
            have hcz44_1 : w36.cell? ⟨gb321, 1, none⟩ = some (.slice none 0 0) := (blk_cell BK321.out 1).trans rfl
            have hfz44_0 := blk_frozen BK321.out 0
            have hfz44_1 := blk_frozen BK321.out 1
            have hcz45_0 : w36.cell? ⟨gb304, 0, none⟩ = some (.int .i64 t297) := (blk_cell BK304.out 0).trans rfl
            have hcz45_1 : w36.cell? ⟨gb304, 1, none⟩ = some (.slice Ao28 t298.length co28) := (blk_cell BK304.out 1).trans rfl
            have hfz45_0 := blk_frozen BK304.out 0
            have hfz45_1 := blk_frozen BK304.out 1
            go_wp2_with (first | ((with_reducible refine gate_callee (f := 9) rfl ?_); refine goesL_ (some 56) rfl rfl Try.func9 (by kernel_rfl) rfl #[.agg #[.int .i64 t314, .slice Ao39 t315.length co39], .agg #[.int .i64 t297, .slice Ao28 t298.length co28]] rfl (by (try simp only [List.map_toArray, List.map_cons, List.map_nil]); first | done | rfl | (simp only [List.length_drop, List.length_take]; rfl)) ?_; (with_reducible refine (laws_eqResResult.calls k t314 _ _ t315 t297 _ _ t298 true _ ?side1 ?side2 ?side3 ?side4 A40.out).mono ?_); (case side1 => refine (Kd.R_reads' (e := 3) (base := w.heap.size) (ok := fun k_ => ((((some k_ ≠ (v319 : Value).ownBlock ∧ some k_ ≠ (.slice Ao28 t298.length co28 : Value).ownBlock) ∧ some k_ ≠ (v302 : Value).ownBlock) ∧ some k_ ≠ (.slice Ao33 t308.length co33 : Value).ownBlock) ∧ some k_ ≠ (.slice Ao34 t311.length co34 : Value).ownBlock)) (n := t315.length) (c := co39) ?_).2.2; exact (by exact lR <| (Kd.R_mono (Kd.R_far (p := ⟨gb321, 1, none⟩) (Kd.R_far (p := ⟨gb321, 0, none⟩) (Kd.R_types HO317.out BK321.out (by decide)) (fun _ hk => hk.2) (.int .i64 t314)) (fun _ hk => hk.2) (.slice Ao39 t315.length co39)) (fun _ h_ => h_.1)))); (case side2 => exact (Kd.R_reads' HO317.out).2.1); (case side3 => refine (Kd.R_reads' (e := 3) (base := w.heap.size) (ok := fun k_ => ((((some k_ ≠ (v302 : Value).ownBlock ∧ some k_ ≠ (.slice Ao33 t308.length co33 : Value).ownBlock) ∧ some k_ ≠ (.slice Ao34 t311.length co34 : Value).ownBlock) ∧ some k_ ≠ (.slice Ao39 t315.length co39 : Value).ownBlock) ∧ some k_ ≠ (v319 : Value).ownBlock)) (n := t298.length) (c := co28) ?_).2.2; exact (by exact lR <| (Kd.R_mono (Kd.R_far (p := ⟨gb321, 1, none⟩) (Kd.R_far (p := ⟨gb321, 0, none⟩) (Kd.R_types HO300.out BK321.out (by decide)) (fun _ hk => hk.2) (.int .i64 t314)) (fun _ hk => hk.2) (.slice Ao39 t315.length co39)) (fun _ h_ => h_.1)))); (case side4 => exact (Kd.R_reads' HO300.out).2.1); rintro e w46 ⟨rfl, hb⟩; refine ⟨_, rfl, ?_⟩; have n0_ := Aside0.mk (Kd.R_below (by exact lR <| (Kd.R_mono (Kd.R_far (p := ⟨gb321, 1, none⟩) (Kd.R_far (p := ⟨gb321, 0, none⟩) (Kd.R_types HO300.out BK321.out (by decide)) (fun _ hk => hk.2) (.int .i64 t314)) (fun _ hk => hk.2) (.slice Ao39 t315.length co39)) (fun _ h_ => h_.1))) hb); have n1_ := Aside0.mk (Kd.R_below (by exact lR <| (Kd.R_mono (Kd.R_far (p := ⟨gb321, 1, none⟩) (Kd.R_far (p := ⟨gb321, 0, none⟩) (Kd.R_types HO303.out BK321.out (by decide)) (fun _ hk => hk.2) (.int .i64 t314)) (fun _ hk => hk.2) (.slice Ao39 t315.length co39)) (fun _ h_ => h_.1))) hb); have n2_ := Aside0.mk (Kd.S_below (by exact lS <| (Kd.S_mono (Kd.S_far (p := ⟨gb321, 1, none⟩) (Kd.S_far (p := ⟨gb321, 0, none⟩) (Kd.S_types HO307.out BK321.out (by decide)) (fun _ hk => hk.2) (.int .i64 t314)) (fun _ hk => hk.2) (.slice Ao39 t315.length co39)) (fun _ h_ => h_.1))) hb); have n3_ := Aside0.mk (Kd.R_below (by exact lR <| (Kd.R_mono (Kd.R_far (p := ⟨gb321, 1, none⟩) (Kd.R_far (p := ⟨gb321, 0, none⟩) (Kd.R_types HO310.out BK321.out (by decide)) (fun _ hk => hk.2) (.int .i64 t314)) (fun _ hk => hk.2) (.slice Ao39 t315.length co39)) (fun _ h_ => h_.1))) hb); have n4_ := Aside0.mk (Kd.R_below (by exact lR <| (Kd.R_mono (Kd.R_far (p := ⟨gb321, 1, none⟩) (Kd.R_far (p := ⟨gb321, 0, none⟩) (Kd.R_types HO313.out BK321.out (by decide)) (fun _ hk => hk.2) (.int .i64 t314)) (fun _ hk => hk.2) (.slice Ao39 t315.length co39)) (fun _ h_ => h_.1))) hb); have n5_ := Aside0.mk (Kd.R_below (by exact lR <| (Kd.R_mono (Kd.R_far (p := ⟨gb321, 1, none⟩) (Kd.R_far (p := ⟨gb321, 0, none⟩) (Kd.R_types HO317.out BK321.out (by decide)) (fun _ hk => hk.2) (.int .i64 t314)) (fun _ hk => hk.2) (.slice Ao39 t315.length co39)) (fun _ h_ => h_.1))) hb); have n6_ := Aside0.mk (Kd.R_below (by exact lR <| (Kd.R_mono (Kd.R_far (p := ⟨gb321, 1, none⟩) (Kd.R_far (p := ⟨gb321, 0, none⟩) (Kd.R_types HO320.out BK321.out (by decide)) (fun _ hk => hk.2) (.int .i64 t314)) (fun _ hk => hk.2) (.slice Ao39 t315.length co39)) (fun _ h_ => h_.1))) hb); have n7_ := Aside0.mk (blk_below (g := gb304) (o := .cells #[.int .i64 t297, .slice Ao28 t298.length co28] 26 (0, 0)) (by (with_reducible repeat (first | refine blk_drewN ?_ _ | refine blk_drew ?_ | refine blk_alloc ?_ _)); refine blk_far ?_ NB304_321.out _; (with_reducible repeat (first | refine blk_drewN ?_ _ | refine blk_drew ?_ | refine blk_alloc ?_ _)); refine blk_far ?_ NB304_321.out _; exact lK BK304.out) hb); have n8_ := Aside0.mk (blk_below (g := gb321) (o := .cells #[.int .i64 t314, .slice Ao39 t315.length co39] 26 (0, 0)) (by (with_reducible repeat (first | refine blk_drewN ?_ _ | refine blk_drew ?_ | refine blk_alloc ?_ _)); refine blk_put (cs := #[.int .i64 t314, .slice none 0 0]) ?_ 1 _ rfl; (with_reducible repeat (first | refine blk_drewN ?_ _ | refine blk_drew ?_ | refine blk_alloc ?_ _)); refine blk_put (cs := #[.int .i64 0, .slice none 0 0]) ?_ 0 _ rfl; exact lK BK321.out) hb); have n9_ := Aside0.mk (below_step (by repeat (first | (with_reducible first | exact HB.out | apply below_alloc | apply pw_below_drewN | apply below_drew1 | refine below_set ?_ GE304.out | refine below_set ?_ GE321.out) | exact HB.out)) hb); clear HO300; clear HO303; clear HO307; clear HO310; clear HO313; clear HO317; clear HO320; clear BK304; clear BK321; clear HB; have HO300 := n0_; have HO303 := n1_; have HO307 := n2_; have HO310 := n3_; have HO313 := n4_; have HO317 := n5_; have HO320 := n6_; have BK304 := n7_; have BK321 := n8_; have HB := n9_; clear n0_ n1_ n2_ n3_ n4_ n5_ n6_ n7_ n8_ n9_; (try clear hb); (try clear hb2); (try clear hk); (try clear hi); obtain ⟨Ao47, co47, eo47⟩ := Kd.R_slice HO320.out; subst eo47; obtain ⟨Ao48, co48, eo48⟩ := Kd.R_slice HO303.out; subst eo48) | (go_at_call 10; (with_reducible refine (laws_eqIntS.calls k _ _ t318 _ _ t301 t323 _ ?side1 ?side2 ?side3 ?side4 A42.out).mono ?_); (case side1 => exact lC <| (Kd.R_reads' HO320.out).2.2); (case side2 => exact (Kd.R_reads' HO320.out).2.1); (case side3 => exact lC <| (Kd.R_reads' HO303.out).2.2); (case side4 => exact (Kd.R_reads' HO303.out).2.1); rintro e w' ⟨rfl, ⟨nd, rfl⟩⟩))
            go_meet
            case rel => exact ⟨_, (!t323), (by first | rfl | (simp; done) | (simp [*]; done)), H', ⟨by first | omega | exact Nat.le_refl _⟩, ⟨by exact lR <| Kd.R_mono HO303.out (fun _ hk => ⟨hk.1.1.1.2, ⟨hk.1.1.2, ⟨hk.2, ⟨hk.1.1.1.1, hk.1.2⟩⟩⟩⟩)⟩, ⟨by exact lS <| Kd.S_mono HO307.out (fun _ hk => ⟨hk.1.1.1.1.2, ⟨hk.1.1.1.2, ⟨hk.1.1.2, ⟨hk.2, ⟨hk.1.1.1.1.1.2, hk.1.2⟩⟩⟩⟩⟩)⟩, ⟨by exact lR <| Kd.R_mono HO310.out (fun _ hk => ⟨hk.1.1.1.2, ⟨hk.1.1.2, ⟨hk.2, ⟨hk.1.1.1.1.2, hk.1.2⟩⟩⟩⟩)⟩, ⟨by exact lR <| Kd.R_mono HO313.out (fun _ hk => ⟨hk.1.1.1.2, ⟨hk.1.1.2, ⟨hk.2, ⟨hk.1.1.1.1.2, hk.1.2⟩⟩⟩⟩)⟩, ⟨by exact lR <| Kd.R_mono HO320.out (fun _ hk => ⟨hk.1.1.2, ⟨hk.1.2, ⟨hk.2, ⟨hk.1.1.1.2, hk.1.1.1.1⟩⟩⟩⟩)⟩, ⟨by exact lR <| Kd.R_mono HO300.out (fun _ hk => ⟨hk.1.1.1.1, ⟨hk.1.1.1.2, ⟨hk.1.1.2, ⟨hk.2, hk.1.2⟩⟩⟩⟩)⟩, ⟨by exact lR <| Kd.R_mono HO317.out (fun _ hk => ⟨hk.1.1.2, ⟨hk.1.2, ⟨hk.2, ⟨hk.1.1.1.1, hk.1.1.1.2⟩⟩⟩⟩)⟩, ⟨by exact lK <| BK304.out⟩, ⟨by exact lK <| BK321.out⟩, ⟨by repeat (first | (with_reducible first | exact HB.out | apply below_alloc | apply pw_below_drewN | apply below_drew1 | refine below_set ?_ GE304.out | refine below_set ?_ GE321.out) | exact HB.out)⟩⟩
          · replace c41 := Bool.eq_false_iff.mpr c41
            subst c41
            have H1 : (laws_FnExactActRun.j0 k l0 l1 l2 t301 t305 t308 t311 t318 true t297 t298 t314 t315) = some r := by rw [if_neg (show ¬ (false = true) by decide)] at H; exact H
            clear H
            have H := H1
            clear H1
            have H' := Aside0.mk H
            clear H
            have hnb49 := NB321_304.out
            have hnc49 := NB304_321.out
            have hcz50_0 : w36.cell? ⟨gb321, 0, none⟩ = some (.int .i64 0) := (blk_cell BK321.out 0).trans rfl
            have hcz50_1 : w36.cell? ⟨gb321, 1, none⟩ = some (.slice none 0 0) := (blk_cell BK321.out 1).trans rfl
            have hfz50_0 := blk_frozen BK321.out 0
            have hfz50_1 := blk_frozen BK321.out 1
            have hcz51_0 : w36.cell? ⟨gb304, 0, none⟩ = some (.int .i64 t297) := (blk_cell BK304.out 0).trans rfl
            have hcz51_1 : w36.cell? ⟨gb304, 1, none⟩ = some (.slice Ao28 t298.length co28) := (blk_cell BK304.out 1).trans rfl
            have hfz51_0 := blk_frozen BK304.out 0
            have hfz51_1 := blk_frozen BK304.out 1
            go_wp2_with (first | ((with_reducible refine gate_callee (f := 9) rfl ?_); refine goesL_ (some 56) rfl rfl Try.func9 (by kernel_rfl) rfl #[.agg #[.int .i64 t314, .slice Ao39 t315.length co39], .agg #[.int .i64 t297, .slice Ao28 t298.length co28]] rfl (by (try simp only [List.map_toArray, List.map_cons, List.map_nil]); first | done | rfl | (simp only [List.length_drop, List.length_take]; rfl)) ?_; (with_reducible refine (laws_eqResResult.calls k t314 _ _ t315 t297 _ _ t298 false _ ?side1 ?side2 ?side3 ?side4 A40.out).mono ?_); (case side1 => refine (Kd.R_reads' (e := 3) (base := w.heap.size) (ok := fun k_ => ((((some k_ ≠ (v319 : Value).ownBlock ∧ some k_ ≠ (.slice Ao28 t298.length co28 : Value).ownBlock) ∧ some k_ ≠ (v302 : Value).ownBlock) ∧ some k_ ≠ (.slice Ao33 t308.length co33 : Value).ownBlock) ∧ some k_ ≠ (.slice Ao34 t311.length co34 : Value).ownBlock)) (n := t315.length) (c := co39) ?_).2.2; exact (by exact lR <| (Kd.R_mono (Kd.R_far (p := ⟨gb321, 1, none⟩) (Kd.R_far (p := ⟨gb321, 0, none⟩) (Kd.R_types HO317.out BK321.out (by decide)) (fun _ hk => hk.2) (.int .i64 t314)) (fun _ hk => hk.2) (.slice Ao39 t315.length co39)) (fun _ h_ => h_.1)))); (case side2 => exact (Kd.R_reads' HO317.out).2.1); (case side3 => refine (Kd.R_reads' (e := 3) (base := w.heap.size) (ok := fun k_ => ((((some k_ ≠ (v302 : Value).ownBlock ∧ some k_ ≠ (.slice Ao33 t308.length co33 : Value).ownBlock) ∧ some k_ ≠ (.slice Ao34 t311.length co34 : Value).ownBlock) ∧ some k_ ≠ (.slice Ao39 t315.length co39 : Value).ownBlock) ∧ some k_ ≠ (v319 : Value).ownBlock)) (n := t298.length) (c := co28) ?_).2.2; exact (by exact lR <| (Kd.R_mono (Kd.R_far (p := ⟨gb321, 1, none⟩) (Kd.R_far (p := ⟨gb321, 0, none⟩) (Kd.R_types HO300.out BK321.out (by decide)) (fun _ hk => hk.2) (.int .i64 t314)) (fun _ hk => hk.2) (.slice Ao39 t315.length co39)) (fun _ h_ => h_.1)))); (case side4 => exact (Kd.R_reads' HO300.out).2.1); rintro e w52 ⟨rfl, hb⟩; refine ⟨_, rfl, ?_⟩; have n0_ := Aside0.mk (Kd.R_below (by exact lR <| (Kd.R_mono (Kd.R_far (p := ⟨gb321, 1, none⟩) (Kd.R_far (p := ⟨gb321, 0, none⟩) (Kd.R_types HO300.out BK321.out (by decide)) (fun _ hk => hk.2) (.int .i64 t314)) (fun _ hk => hk.2) (.slice Ao39 t315.length co39)) (fun _ h_ => h_.1))) hb); have n1_ := Aside0.mk (Kd.R_below (by exact lR <| (Kd.R_mono (Kd.R_far (p := ⟨gb321, 1, none⟩) (Kd.R_far (p := ⟨gb321, 0, none⟩) (Kd.R_types HO303.out BK321.out (by decide)) (fun _ hk => hk.2) (.int .i64 t314)) (fun _ hk => hk.2) (.slice Ao39 t315.length co39)) (fun _ h_ => h_.1))) hb); have n2_ := Aside0.mk (Kd.S_below (by exact lS <| (Kd.S_mono (Kd.S_far (p := ⟨gb321, 1, none⟩) (Kd.S_far (p := ⟨gb321, 0, none⟩) (Kd.S_types HO307.out BK321.out (by decide)) (fun _ hk => hk.2) (.int .i64 t314)) (fun _ hk => hk.2) (.slice Ao39 t315.length co39)) (fun _ h_ => h_.1))) hb); have n3_ := Aside0.mk (Kd.R_below (by exact lR <| (Kd.R_mono (Kd.R_far (p := ⟨gb321, 1, none⟩) (Kd.R_far (p := ⟨gb321, 0, none⟩) (Kd.R_types HO310.out BK321.out (by decide)) (fun _ hk => hk.2) (.int .i64 t314)) (fun _ hk => hk.2) (.slice Ao39 t315.length co39)) (fun _ h_ => h_.1))) hb); have n4_ := Aside0.mk (Kd.R_below (by exact lR <| (Kd.R_mono (Kd.R_far (p := ⟨gb321, 1, none⟩) (Kd.R_far (p := ⟨gb321, 0, none⟩) (Kd.R_types HO313.out BK321.out (by decide)) (fun _ hk => hk.2) (.int .i64 t314)) (fun _ hk => hk.2) (.slice Ao39 t315.length co39)) (fun _ h_ => h_.1))) hb); have n5_ := Aside0.mk (Kd.R_below (by exact lR <| (Kd.R_mono (Kd.R_far (p := ⟨gb321, 1, none⟩) (Kd.R_far (p := ⟨gb321, 0, none⟩) (Kd.R_types HO317.out BK321.out (by decide)) (fun _ hk => hk.2) (.int .i64 t314)) (fun _ hk => hk.2) (.slice Ao39 t315.length co39)) (fun _ h_ => h_.1))) hb); have n6_ := Aside0.mk (Kd.R_below (by exact lR <| (Kd.R_mono (Kd.R_far (p := ⟨gb321, 1, none⟩) (Kd.R_far (p := ⟨gb321, 0, none⟩) (Kd.R_types HO320.out BK321.out (by decide)) (fun _ hk => hk.2) (.int .i64 t314)) (fun _ hk => hk.2) (.slice Ao39 t315.length co39)) (fun _ h_ => h_.1))) hb); have n7_ := Aside0.mk (blk_below (g := gb304) (o := .cells #[.int .i64 t297, .slice Ao28 t298.length co28] 26 (0, 0)) (by (with_reducible repeat (first | refine blk_drewN ?_ _ | refine blk_drew ?_ | refine blk_alloc ?_ _)); refine blk_far ?_ NB304_321.out _; (with_reducible repeat (first | refine blk_drewN ?_ _ | refine blk_drew ?_ | refine blk_alloc ?_ _)); refine blk_far ?_ NB304_321.out _; exact lK BK304.out) hb); have n8_ := Aside0.mk (blk_below (g := gb321) (o := .cells #[.int .i64 t314, .slice Ao39 t315.length co39] 26 (0, 0)) (by (with_reducible repeat (first | refine blk_drewN ?_ _ | refine blk_drew ?_ | refine blk_alloc ?_ _)); refine blk_put (cs := #[.int .i64 t314, .slice none 0 0]) ?_ 1 _ rfl; (with_reducible repeat (first | refine blk_drewN ?_ _ | refine blk_drew ?_ | refine blk_alloc ?_ _)); refine blk_put (cs := #[.int .i64 0, .slice none 0 0]) ?_ 0 _ rfl; exact lK BK321.out) hb); have n9_ := Aside0.mk (below_step (by repeat (first | (with_reducible first | exact HB.out | apply below_alloc | apply pw_below_drewN | apply below_drew1 | refine below_set ?_ GE304.out | refine below_set ?_ GE321.out) | exact HB.out)) hb); clear HO300; clear HO303; clear HO307; clear HO310; clear HO313; clear HO317; clear HO320; clear BK304; clear BK321; clear HB; have HO300 := n0_; have HO303 := n1_; have HO307 := n2_; have HO310 := n3_; have HO313 := n4_; have HO317 := n5_; have HO320 := n6_; have BK304 := n7_; have BK321 := n8_; have HB := n9_; clear n0_ n1_ n2_ n3_ n4_ n5_ n6_ n7_ n8_ n9_; (try clear hb); (try clear hb2); (try clear hk); (try clear hi)))
            go_meet
            case rel => exact ⟨_, (true), (by first | rfl | (simp; done) | (simp [*]; done)), H', ⟨by first | omega | exact Nat.le_refl _⟩, ⟨by exact lR <| Kd.R_mono HO303.out (fun _ hk => ⟨hk.1.1.1.2, ⟨hk.1.1.2, ⟨hk.2, ⟨hk.1.1.1.1, hk.1.2⟩⟩⟩⟩)⟩, ⟨by exact lS <| Kd.S_mono HO307.out (fun _ hk => ⟨hk.1.1.1.1.2, ⟨hk.1.1.1.2, ⟨hk.1.1.2, ⟨hk.2, ⟨hk.1.1.1.1.1.2, hk.1.2⟩⟩⟩⟩⟩)⟩, ⟨by exact lR <| Kd.R_mono HO310.out (fun _ hk => ⟨hk.1.1.1.2, ⟨hk.1.1.2, ⟨hk.2, ⟨hk.1.1.1.1.2, hk.1.2⟩⟩⟩⟩)⟩, ⟨by exact lR <| Kd.R_mono HO313.out (fun _ hk => ⟨hk.1.1.1.2, ⟨hk.1.1.2, ⟨hk.2, ⟨hk.1.1.1.1.2, hk.1.2⟩⟩⟩⟩)⟩, ⟨by exact lR <| Kd.R_mono HO320.out (fun _ hk => ⟨hk.1.1.2, ⟨hk.1.2, ⟨hk.2, ⟨hk.1.1.1.2, hk.1.1.1.1⟩⟩⟩⟩)⟩, ⟨by exact lR <| Kd.R_mono HO300.out (fun _ hk => ⟨hk.1.1.1.1, ⟨hk.1.1.1.2, ⟨hk.1.1.2, ⟨hk.2, hk.1.2⟩⟩⟩⟩)⟩, ⟨by exact lR <| Kd.R_mono HO317.out (fun _ hk => ⟨hk.1.1.2, ⟨hk.1.2, ⟨hk.2, ⟨hk.1.1.1.1, hk.1.1.1.2⟩⟩⟩⟩)⟩, ⟨by exact lK <| BK304.out⟩, ⟨by exact lK <| BK321.out⟩, ⟨by repeat (first | (with_reducible first | exact HB.out | apply below_alloc | apply pw_below_drewN | apply below_drew1 | refine below_set ?_ GE304.out | refine below_set ?_ GE321.out) | exact HB.out)⟩⟩
        case rest =>
          clear HC17
          try clear c1
          try clear c2
          try clear p2
          try clear c3
          try clear c4
          try clear c4b0
          try clear c4b1
          try clear c5
          try clear c5b0
          try clear c5b1
          try clear c6
          try clear c7
          try clear c7b0
          try clear c8
          try clear c9
          try clear c37
          try clear c41
          try clear c43
          try clear c49
          try clear hcz27_0
          try clear hcz27_1
          try clear hcz38_0
          try clear hcz38_1
          try clear hcz44_0
          try clear hcz44_1
          try clear hcz45_0
          try clear hcz45_1
          try clear hcz50_0
          try clear hcz50_1
          try clear hcz51_0
          try clear hcz51_1
          try clear hfz27_0
          try clear hfz27_1
          try clear hfz38_0
          try clear hfz38_1
          try clear hfz44_0
          try clear hfz44_1
          try clear hfz45_0
          try clear hfz45_1
          try clear hfz50_0
          try clear hfz50_1
          try clear hfz51_0
          try clear hfz51_1
          obtain ⟨kq, x63_16, rfl, HA, HJ16, HO_9, HO_10, HO_11, HO_12, HO_14, HO_305001, HO_322001, BK304, BK321, HB⟩ := hcut
          cases kq with
          | zero => exact absurd HA.out (by simp [laws_FnExactActRun.j0])
          | succ kj16 =>
            have H := HA.out
            clear HA
            simp only [laws_FnExactActRun.j0] at H
            by_cases c53 : x63_16 = true
            · subst c53
              have H1 : (some false) = some r := by rw [if_pos rfl] at H; exact H
              clear H
              have H := H1
              clear H1
              exact absurd (Option.some.inj H) (by rw [hr.out]; decide)
            · replace c53 := Bool.eq_false_iff.mpr c53
              subst c53
              have H1 : ((laws_toActLineS.f kj16 l0).bind fun t324 => ((laws_eqActLineS.f kj16 t305 t324).bind fun t327 => (if t327 = true then ((laws_toIntS.f kj16 l1).bind fun t328 => ((laws_eqIntS.f kj16 t308 t328).bind fun t331 => (if t331 = true then ((laws_toIntS.f kj16 l2).bind fun t332 => ((laws_eqIntS.f kj16 t311 t332).bind fun t335 => (if t335 = true then ((laws_markActLineS.f t305 1).bind fun t336 => ((laws_markIntS.f kj16 t308 t336).bind fun bt337 => ((laws_markIntS.f kj16 t311 bt337.1).bind fun bt339 => (if bt339.1 < 0 then (laws_FnExactActRun.j1 kj16 l0 l1 l2 t301 t318 true t297 t298 t314 t315) else ((laws_eqResResult.f kj16 t314 t315 t297 t298).bind fun t341 => (if t341 = true then ((laws_eqIntS.f kj16 t318 t301).bind fun t342 => (laws_FnExactActRun.j1 kj16 l0 l1 l2 t301 t318 (!t342) t297 t298 t314 t315)) else (laws_FnExactActRun.j1 kj16 l0 l1 l2 t301 t318 true t297 t298 t314 t315))))))) else (some false)))) else (some false)))) else (some false)))) = some r := by rw [if_neg (show ¬ (false = true) by decide)] at H; exact H
              clear H
              have H := H1
              clear H1
              replace H := Option.bind_eq_some_iff.mp H
              obtain ⟨t324, A540, H⟩ := H
              replace H : ((laws_eqActLineS.f kj16 t305 t324).bind fun t327 => (if t327 = true then ((laws_toIntS.f kj16 l1).bind fun t328 => ((laws_eqIntS.f kj16 t308 t328).bind fun t331 => (if t331 = true then ((laws_toIntS.f kj16 l2).bind fun t332 => ((laws_eqIntS.f kj16 t311 t332).bind fun t335 => (if t335 = true then ((laws_markActLineS.f t305 1).bind fun t336 => ((laws_markIntS.f kj16 t308 t336).bind fun bt337 => ((laws_markIntS.f kj16 t311 bt337.1).bind fun bt339 => (if bt339.1 < 0 then (laws_FnExactActRun.j1 kj16 l0 l1 l2 t301 t318 true t297 t298 t314 t315) else ((laws_eqResResult.f kj16 t314 t315 t297 t298).bind fun t341 => (if t341 = true then ((laws_eqIntS.f kj16 t318 t301).bind fun t342 => (laws_FnExactActRun.j1 kj16 l0 l1 l2 t301 t318 (!t342) t297 t298 t314 t315)) else (laws_FnExactActRun.j1 kj16 l0 l1 l2 t301 t318 true t297 t298 t314 t315))))))) else (some false)))) else (some false)))) else (some false))) = some r := H
              have A54 := Aside0.mk A540
              clear A540
              replace H := Option.bind_eq_some_iff.mp H
              obtain ⟨t327, A550, H⟩ := H
              replace H : (if t327 = true then ((laws_toIntS.f kj16 l1).bind fun t328 => ((laws_eqIntS.f kj16 t308 t328).bind fun t331 => (if t331 = true then ((laws_toIntS.f kj16 l2).bind fun t332 => ((laws_eqIntS.f kj16 t311 t332).bind fun t335 => (if t335 = true then ((laws_markActLineS.f t305 1).bind fun t336 => ((laws_markIntS.f kj16 t308 t336).bind fun bt337 => ((laws_markIntS.f kj16 t311 bt337.1).bind fun bt339 => (if bt339.1 < 0 then (laws_FnExactActRun.j1 kj16 l0 l1 l2 t301 t318 true t297 t298 t314 t315) else ((laws_eqResResult.f kj16 t314 t315 t297 t298).bind fun t341 => (if t341 = true then ((laws_eqIntS.f kj16 t318 t301).bind fun t342 => (laws_FnExactActRun.j1 kj16 l0 l1 l2 t301 t318 (!t342) t297 t298 t314 t315)) else (laws_FnExactActRun.j1 kj16 l0 l1 l2 t301 t318 true t297 t298 t314 t315))))))) else (some false)))) else (some false)))) else (some false)) = some r := H
              have A55 := Aside0.mk A550
              clear A550
              by_cases c56 : t327 = true
              · subst c56
                have H1 : ((laws_toIntS.f kj16 l1).bind fun t328 => ((laws_eqIntS.f kj16 t308 t328).bind fun t331 => (if t331 = true then ((laws_toIntS.f kj16 l2).bind fun t332 => ((laws_eqIntS.f kj16 t311 t332).bind fun t335 => (if t335 = true then ((laws_markActLineS.f t305 1).bind fun t336 => ((laws_markIntS.f kj16 t308 t336).bind fun bt337 => ((laws_markIntS.f kj16 t311 bt337.1).bind fun bt339 => (if bt339.1 < 0 then (laws_FnExactActRun.j1 kj16 l0 l1 l2 t301 t318 true t297 t298 t314 t315) else ((laws_eqResResult.f kj16 t314 t315 t297 t298).bind fun t341 => (if t341 = true then ((laws_eqIntS.f kj16 t318 t301).bind fun t342 => (laws_FnExactActRun.j1 kj16 l0 l1 l2 t301 t318 (!t342) t297 t298 t314 t315)) else (laws_FnExactActRun.j1 kj16 l0 l1 l2 t301 t318 true t297 t298 t314 t315))))))) else (some false)))) else (some false)))) = some r := by rw [if_pos rfl] at H; exact H
                clear H
                have H := H1
                clear H1
                replace H := Option.bind_eq_some_iff.mp H
                obtain ⟨t328, A570, H⟩ := H
                replace H : ((laws_eqIntS.f kj16 t308 t328).bind fun t331 => (if t331 = true then ((laws_toIntS.f kj16 l2).bind fun t332 => ((laws_eqIntS.f kj16 t311 t332).bind fun t335 => (if t335 = true then ((laws_markActLineS.f t305 1).bind fun t336 => ((laws_markIntS.f kj16 t308 t336).bind fun bt337 => ((laws_markIntS.f kj16 t311 bt337.1).bind fun bt339 => (if bt339.1 < 0 then (laws_FnExactActRun.j1 kj16 l0 l1 l2 t301 t318 true t297 t298 t314 t315) else ((laws_eqResResult.f kj16 t314 t315 t297 t298).bind fun t341 => (if t341 = true then ((laws_eqIntS.f kj16 t318 t301).bind fun t342 => (laws_FnExactActRun.j1 kj16 l0 l1 l2 t301 t318 (!t342) t297 t298 t314 t315)) else (laws_FnExactActRun.j1 kj16 l0 l1 l2 t301 t318 true t297 t298 t314 t315))))))) else (some false)))) else (some false))) = some r := H
                have A57 := Aside0.mk A570
                clear A570
                replace H := Option.bind_eq_some_iff.mp H
                obtain ⟨t331, A580, H⟩ := H
                replace H : (if t331 = true then ((laws_toIntS.f kj16 l2).bind fun t332 => ((laws_eqIntS.f kj16 t311 t332).bind fun t335 => (if t335 = true then ((laws_markActLineS.f t305 1).bind fun t336 => ((laws_markIntS.f kj16 t308 t336).bind fun bt337 => ((laws_markIntS.f kj16 t311 bt337.1).bind fun bt339 => (if bt339.1 < 0 then (laws_FnExactActRun.j1 kj16 l0 l1 l2 t301 t318 true t297 t298 t314 t315) else ((laws_eqResResult.f kj16 t314 t315 t297 t298).bind fun t341 => (if t341 = true then ((laws_eqIntS.f kj16 t318 t301).bind fun t342 => (laws_FnExactActRun.j1 kj16 l0 l1 l2 t301 t318 (!t342) t297 t298 t314 t315)) else (laws_FnExactActRun.j1 kj16 l0 l1 l2 t301 t318 true t297 t298 t314 t315))))))) else (some false)))) else (some false)) = some r := H
                have A58 := Aside0.mk A580
                clear A580
                by_cases c59 : t331 = true
                · subst c59
                  have H1 : ((laws_toIntS.f kj16 l2).bind fun t332 => ((laws_eqIntS.f kj16 t311 t332).bind fun t335 => (if t335 = true then ((laws_markActLineS.f t305 1).bind fun t336 => ((laws_markIntS.f kj16 t308 t336).bind fun bt337 => ((laws_markIntS.f kj16 t311 bt337.1).bind fun bt339 => (if bt339.1 < 0 then (laws_FnExactActRun.j1 kj16 l0 l1 l2 t301 t318 true t297 t298 t314 t315) else ((laws_eqResResult.f kj16 t314 t315 t297 t298).bind fun t341 => (if t341 = true then ((laws_eqIntS.f kj16 t318 t301).bind fun t342 => (laws_FnExactActRun.j1 kj16 l0 l1 l2 t301 t318 (!t342) t297 t298 t314 t315)) else (laws_FnExactActRun.j1 kj16 l0 l1 l2 t301 t318 true t297 t298 t314 t315))))))) else (some false)))) = some r := by rw [if_pos rfl] at H; exact H
                  clear H
                  have H := H1
                  clear H1
                  replace H := Option.bind_eq_some_iff.mp H
                  obtain ⟨t332, A600, H⟩ := H
                  replace H : ((laws_eqIntS.f kj16 t311 t332).bind fun t335 => (if t335 = true then ((laws_markActLineS.f t305 1).bind fun t336 => ((laws_markIntS.f kj16 t308 t336).bind fun bt337 => ((laws_markIntS.f kj16 t311 bt337.1).bind fun bt339 => (if bt339.1 < 0 then (laws_FnExactActRun.j1 kj16 l0 l1 l2 t301 t318 true t297 t298 t314 t315) else ((laws_eqResResult.f kj16 t314 t315 t297 t298).bind fun t341 => (if t341 = true then ((laws_eqIntS.f kj16 t318 t301).bind fun t342 => (laws_FnExactActRun.j1 kj16 l0 l1 l2 t301 t318 (!t342) t297 t298 t314 t315)) else (laws_FnExactActRun.j1 kj16 l0 l1 l2 t301 t318 true t297 t298 t314 t315))))))) else (some false))) = some r := H
                  have A60 := Aside0.mk A600
                  clear A600
                  replace H := Option.bind_eq_some_iff.mp H
                  obtain ⟨t335, A610, H⟩ := H
                  replace H : (if t335 = true then ((laws_markActLineS.f t305 1).bind fun t336 => ((laws_markIntS.f kj16 t308 t336).bind fun bt337 => ((laws_markIntS.f kj16 t311 bt337.1).bind fun bt339 => (if bt339.1 < 0 then (laws_FnExactActRun.j1 kj16 l0 l1 l2 t301 t318 true t297 t298 t314 t315) else ((laws_eqResResult.f kj16 t314 t315 t297 t298).bind fun t341 => (if t341 = true then ((laws_eqIntS.f kj16 t318 t301).bind fun t342 => (laws_FnExactActRun.j1 kj16 l0 l1 l2 t301 t318 (!t342) t297 t298 t314 t315)) else (laws_FnExactActRun.j1 kj16 l0 l1 l2 t301 t318 true t297 t298 t314 t315))))))) else (some false)) = some r := H
                  have A61 := Aside0.mk A610
                  clear A610
                  by_cases c62 : t335 = true
                  · subst c62
                    have H1 : ((laws_markActLineS.f t305 1).bind fun t336 => ((laws_markIntS.f kj16 t308 t336).bind fun bt337 => ((laws_markIntS.f kj16 t311 bt337.1).bind fun bt339 => (if bt339.1 < 0 then (laws_FnExactActRun.j1 kj16 l0 l1 l2 t301 t318 true t297 t298 t314 t315) else ((laws_eqResResult.f kj16 t314 t315 t297 t298).bind fun t341 => (if t341 = true then ((laws_eqIntS.f kj16 t318 t301).bind fun t342 => (laws_FnExactActRun.j1 kj16 l0 l1 l2 t301 t318 (!t342) t297 t298 t314 t315)) else (laws_FnExactActRun.j1 kj16 l0 l1 l2 t301 t318 true t297 t298 t314 t315))))))) = some r := by rw [if_pos rfl] at H; exact H
                    clear H
                    have H := H1
                    clear H1
                    replace H := Option.bind_eq_some_iff.mp H
                    obtain ⟨t336, A630, H⟩ := H
                    replace H : ((laws_markIntS.f kj16 t308 t336).bind fun bt337 => ((laws_markIntS.f kj16 t311 bt337.1).bind fun bt339 => (if bt339.1 < 0 then (laws_FnExactActRun.j1 kj16 l0 l1 l2 t301 t318 true t297 t298 t314 t315) else ((laws_eqResResult.f kj16 t314 t315 t297 t298).bind fun t341 => (if t341 = true then ((laws_eqIntS.f kj16 t318 t301).bind fun t342 => (laws_FnExactActRun.j1 kj16 l0 l1 l2 t301 t318 (!t342) t297 t298 t314 t315)) else (laws_FnExactActRun.j1 kj16 l0 l1 l2 t301 t318 true t297 t298 t314 t315)))))) = some r := H
                    have A63 := Aside0.mk A630
                    clear A630
                    replace H := Option.bind_eq_some_iff.mp H
                    obtain ⟨⟨t337, t338⟩, A640, H⟩ := H
                    replace H : ((laws_markIntS.f kj16 t311 t337).bind fun bt339 => (if bt339.1 < 0 then (laws_FnExactActRun.j1 kj16 l0 l1 l2 t301 t318 true t297 t298 t314 t315) else ((laws_eqResResult.f kj16 t314 t315 t297 t298).bind fun t341 => (if t341 = true then ((laws_eqIntS.f kj16 t318 t301).bind fun t342 => (laws_FnExactActRun.j1 kj16 l0 l1 l2 t301 t318 (!t342) t297 t298 t314 t315)) else (laws_FnExactActRun.j1 kj16 l0 l1 l2 t301 t318 true t297 t298 t314 t315))))) = some r := H
                    have A64 := Aside0.mk A640
                    clear A640
                    replace H := Option.bind_eq_some_iff.mp H
                    obtain ⟨⟨t339, t340⟩, A650, H⟩ := H
                    replace H : (if t339 < 0 then (laws_FnExactActRun.j1 kj16 l0 l1 l2 t301 t318 true t297 t298 t314 t315) else ((laws_eqResResult.f kj16 t314 t315 t297 t298).bind fun t341 => (if t341 = true then ((laws_eqIntS.f kj16 t318 t301).bind fun t342 => (laws_FnExactActRun.j1 kj16 l0 l1 l2 t301 t318 (!t342) t297 t298 t314 t315)) else (laws_FnExactActRun.j1 kj16 l0 l1 l2 t301 t318 true t297 t298 t314 t315)))) = some r := H
                    have A65 := Aside0.mk A650
                    clear A650
                    have HC66 := Aside0.mk H
                    clear H
                    go_upto_region 26 with (first | ((with_reducible refine gate_callee (f := 6) rfl ?_); refine goesL_ (some 66) rfl rfl Try.func6 (by kernel_rfl) rfl #[.slice A0 l0.length c0] rfl (by (try simp only [List.map_toArray, List.map_cons, List.map_nil]); first | done | rfl | (simp only [List.length_drop, List.length_take]; rfl)) ?_; (with_reducible refine (laws_toActLineS.calls kj16 _ _ l0 t324 _ ?side1 ?side2 A54.out).mono ?_); (case side1 => exact lC <| (Kd.C_below HR0.out HB.out)); (case side2 => exact HC0.out); rintro e w67 ⟨v325, rfl, ho0, hb⟩; refine ⟨_, rfl, ?_⟩; have n0_ := Aside0.mk (Kd.R_below (by exact lR HO_9.out) hb); have n1_ := Aside0.mk (Kd.S_elder' (by exact lS HO_10.out) (Kd.S_base ho0) hb); have n2_ := Aside0.mk (Kd.R_below (by exact lR HO_11.out) hb); have n3_ := Aside0.mk (Kd.R_below (by exact lR HO_12.out) hb); have n4_ := Aside0.mk (Kd.R_below (by exact lR HO_14.out) hb); have n5_ := Aside0.mk (Kd.R_below (by exact lR HO_305001.out) hb); have n6_ := Aside0.mk (Kd.R_below (by exact lR HO_322001.out) hb); have n7_ := Aside0.mk (Kd.S_lower (Kd.S_new' (Kd.S_new' (Kd.S_new' (Kd.S_new' (Kd.S_new' (Kd.S_new' (Kd.S_new' ho0 (Kd.R_lt (by exact lR HO_9.out))) (Kd.S_lt (by exact lS HO_10.out))) (Kd.R_lt (by exact lR HO_11.out))) (Kd.R_lt (by exact lR HO_12.out))) (Kd.R_lt (by exact lR HO_14.out))) (Kd.R_lt (by exact lR HO_305001.out))) (Kd.R_lt (by exact lR HO_322001.out))) (below_size (by repeat (first | (with_reducible first | exact HB.out | apply below_alloc | apply pw_below_drewN | apply below_drew1 | refine below_set ?_ GE304.out | refine below_set ?_ GE321.out) | exact HB.out)))); have n8_ := Aside0.mk (blk_below (g := gb304) (o := .cells #[.int .i64 t297, .slice Ao28 t298.length co28] 26 (0, 0)) (by exact lK BK304.out) hb); have n9_ := Aside0.mk (blk_below (g := gb321) (o := .cells #[.int .i64 t314, .slice Ao39 t315.length co39] 26 (0, 0)) (by exact lK BK321.out) hb); have n10_ := Aside0.mk (below_step (by repeat (first | (with_reducible first | exact HB.out | apply below_alloc | apply pw_below_drewN | apply below_drew1 | refine below_set ?_ GE304.out | refine below_set ?_ GE321.out) | exact HB.out)) hb); clear HO_9; clear HO_10; clear HO_11; clear HO_12; clear HO_14; clear HO_305001; clear HO_322001; clear BK304; clear BK321; clear HB; have HO_9 := n0_; have HO_10 := n1_; have HO_11 := n2_; have HO_12 := n3_; have HO_14 := n4_; have HO_305001 := n5_; have HO_322001 := n6_; have HO326 := n7_; have BK304 := n8_; have BK321 := n9_; have HB := n10_; clear n0_ n1_ n2_ n3_ n4_ n5_ n6_ n7_ n8_ n9_ n10_; (try clear hb); (try clear hb2); (try clear hk); (try clear hi); (try clear ho0); obtain ⟨Ao68, co68, eo68⟩ := Kd.S_slice HO326.out; subst eo68) | ((with_reducible refine gate_callee (f := 11) rfl ?_); refine goesL_ (some 67) rfl rfl Try.func11 (by kernel_rfl) rfl #[.slice Ao32 t305.length co32, .slice Ao68 t324.length co68] rfl (by (try simp only [List.map_toArray, List.map_cons, List.map_nil]); first | done | rfl | (simp only [List.length_drop, List.length_take]; rfl)) ?_; (with_reducible refine (laws_eqActLineS.calls kj16 _ _ t305 _ _ t324 true _ ?side1 ?side2 ?side3 ?side4 A55.out).mono ?_); (case side1 => exact lC <| (Kd.S_reads' HO_10.out).2.2); (case side2 => exact (Kd.S_reads' HO_10.out).2.1); (case side3 => exact lC <| (Kd.S_reads' HO326.out).2.2); (case side4 => exact (Kd.S_reads' HO326.out).2.1); rintro e w69 ⟨rfl, hb⟩; refine ⟨_, rfl, ?_⟩; have n0_ := Aside0.mk (Kd.R_below (by exact lR HO_9.out) hb); have n1_ := Aside0.mk (Kd.S_below (by exact lS HO_10.out) hb); have n2_ := Aside0.mk (Kd.R_below (by exact lR HO_11.out) hb); have n3_ := Aside0.mk (Kd.R_below (by exact lR HO_12.out) hb); have n4_ := Aside0.mk (Kd.R_below (by exact lR HO_14.out) hb); have n5_ := Aside0.mk (Kd.R_below (by exact lR HO_305001.out) hb); have n6_ := Aside0.mk (Kd.R_below (by exact lR HO_322001.out) hb); have n7_ := Aside0.mk (Kd.S_below (by exact lS HO326.out) hb); have n8_ := Aside0.mk (blk_below (g := gb304) (o := .cells #[.int .i64 t297, .slice Ao28 t298.length co28] 26 (0, 0)) (by exact lK BK304.out) hb); have n9_ := Aside0.mk (blk_below (g := gb321) (o := .cells #[.int .i64 t314, .slice Ao39 t315.length co39] 26 (0, 0)) (by exact lK BK321.out) hb); have n10_ := Aside0.mk (below_step (by repeat (first | (with_reducible first | exact HB.out | apply below_alloc | apply pw_below_drewN | apply below_drew1 | refine below_set ?_ GE304.out | refine below_set ?_ GE321.out) | exact HB.out)) hb); clear HO_9; clear HO_10; clear HO_11; clear HO_12; clear HO_14; clear HO_305001; clear HO_322001; clear HO326; clear BK304; clear BK321; clear HB; have HO_9 := n0_; have HO_10 := n1_; have HO_11 := n2_; have HO_12 := n3_; have HO_14 := n4_; have HO_305001 := n5_; have HO_322001 := n6_; have HO326 := n7_; have BK304 := n8_; have BK321 := n9_; have HB := n10_; clear n0_ n1_ n2_ n3_ n4_ n5_ n6_ n7_ n8_ n9_ n10_; (try clear hb); (try clear hb2); (try clear hk); (try clear hi); have n_ := Aside0.mk (Kd.S_mono (ok' := fun k_ => (some k_ ≠ (v302 : Value).ownBlock ∧ (some k_ ≠ (.slice Ao33 t308.length co33 : Value).ownBlock ∧ (some k_ ≠ (.slice Ao34 t311.length co34 : Value).ownBlock ∧ (some k_ ≠ (v319 : Value).ownBlock ∧ (some k_ ≠ (.slice Ao28 t298.length co28 : Value).ownBlock ∧ some k_ ≠ (.slice Ao39 t315.length co39 : Value).ownBlock)))))) HO_10.out (fun _ hk => ⟨hk.1.1, ⟨hk.1.2.1, ⟨hk.1.2.2.1, ⟨hk.1.2.2.2.1, ⟨hk.1.2.2.2.2.1, hk.1.2.2.2.2.2⟩⟩⟩⟩⟩)); clear HO_10; have HO_10 := n_; clear n_) | ((with_reducible refine gate_callee (f := 7) rfl ?_); refine goesL_ (some 71) rfl rfl Try.func7 (by kernel_rfl) rfl #[.slice A1 l1.length c1] rfl (by (try simp only [List.map_toArray, List.map_cons, List.map_nil]); first | done | rfl | (simp only [List.length_drop, List.length_take]; rfl)) ?_; (with_reducible refine (laws_toIntS.calls kj16 _ _ l1 t328 _ ?side1 ?side2 A57.out).mono ?_); (case side1 => exact lC <| (Kd.C_below HR1.out HB.out)); (case side2 => exact HC1.out); rintro e w70 ⟨v329, rfl, ho0, hb⟩; refine ⟨_, rfl, ?_⟩; have n0_ := Aside0.mk (Kd.R_elder' (by exact lR HO_9.out) (Kd.R_base ho0) hb); have n1_ := Aside0.mk (Kd.S_elder' (by exact lS HO_10.out) (Kd.R_base ho0) hb); have n2_ := Aside0.mk (Kd.R_elder' (by exact lR HO_11.out) (Kd.R_base ho0) hb); have n3_ := Aside0.mk (Kd.R_elder' (by exact lR HO_12.out) (Kd.R_base ho0) hb); have n4_ := Aside0.mk (Kd.R_elder' (by exact lR HO_14.out) (Kd.R_base ho0) hb); have n5_ := Aside0.mk (Kd.R_elder' (by exact lR HO_305001.out) (Kd.R_base ho0) hb); have n6_ := Aside0.mk (Kd.R_elder' (by exact lR HO_322001.out) (Kd.R_base ho0) hb); have n7_ := Aside0.mk (Kd.R_lower (Kd.R_new' (Kd.R_new' (Kd.R_new' (Kd.R_new' (Kd.R_new' (Kd.R_new' ho0 (Kd.R_lt (by exact lR HO_9.out))) (Kd.R_lt (by exact lR HO_11.out))) (Kd.R_lt (by exact lR HO_12.out))) (Kd.R_lt (by exact lR HO_14.out))) (Kd.R_lt (by exact lR HO_305001.out))) (Kd.R_lt (by exact lR HO_322001.out))) (below_size (by repeat (first | (with_reducible first | exact HB.out | apply below_alloc | apply pw_below_drewN | apply below_drew1 | refine below_set ?_ GE304.out | refine below_set ?_ GE321.out) | exact HB.out)))); have n8_ := Aside0.mk (blk_below (g := gb304) (o := .cells #[.int .i64 t297, .slice Ao28 t298.length co28] 26 (0, 0)) (by exact lK BK304.out) hb); have n9_ := Aside0.mk (blk_below (g := gb321) (o := .cells #[.int .i64 t314, .slice Ao39 t315.length co39] 26 (0, 0)) (by exact lK BK321.out) hb); have n10_ := Aside0.mk (below_step (by repeat (first | (with_reducible first | exact HB.out | apply below_alloc | apply pw_below_drewN | apply below_drew1 | refine below_set ?_ GE304.out | refine below_set ?_ GE321.out) | exact HB.out)) hb); clear HO_9; clear HO_10; clear HO_11; clear HO_12; clear HO_14; clear HO_305001; clear HO_322001; clear BK304; clear BK321; clear HB; have HO_9 := n0_; have HO_10 := n1_; have HO_11 := n2_; have HO_12 := n3_; have HO_14 := n4_; have HO_305001 := n5_; have HO_322001 := n6_; have HO330 := n7_; have BK304 := n8_; have BK321 := n9_; have HB := n10_; clear n0_ n1_ n2_ n3_ n4_ n5_ n6_ n7_ n8_ n9_ n10_; (try clear hb); (try clear hb2); (try clear hk); (try clear hi); (try clear ho0); obtain ⟨Ao71, co71, eo71⟩ := Kd.R_slice HO330.out; subst eo71) | ((with_reducible refine gate_callee (f := 10) rfl ?_); refine goesL_ (some 72) rfl rfl Try.func10 (by kernel_rfl) rfl #[.slice Ao33 t308.length co33, .slice Ao71 t328.length co71] rfl (by (try simp only [List.map_toArray, List.map_cons, List.map_nil]); first | done | rfl | (simp only [List.length_drop, List.length_take]; rfl)) ?_; (with_reducible refine (laws_eqIntS.calls kj16 _ _ t308 _ _ t328 true _ ?side1 ?side2 ?side3 ?side4 A58.out).mono ?_); (case side1 => exact lC <| (Kd.R_reads' HO_11.out).2.2); (case side2 => exact (Kd.R_reads' HO_11.out).2.1); (case side3 => exact lC <| (Kd.R_reads' HO330.out).2.2); (case side4 => exact (Kd.R_reads' HO330.out).2.1); rintro e w' ⟨rfl, ⟨nd, rfl⟩⟩; refine ⟨_, rfl, ?_⟩; have n_ := Aside0.mk (Kd.R_mono (ok' := fun k_ => (some k_ ≠ (.slice Ao33 t308.length co33 : Value).ownBlock ∧ (some k_ ≠ (.slice Ao34 t311.length co34 : Value).ownBlock ∧ (some k_ ≠ (v319 : Value).ownBlock ∧ (some k_ ≠ (.slice Ao28 t298.length co28 : Value).ownBlock ∧ some k_ ≠ (.slice Ao39 t315.length co39 : Value).ownBlock))))) HO_9.out (fun _ hk => ⟨hk.1.1, ⟨hk.1.2.1, ⟨hk.1.2.2.1, ⟨hk.1.2.2.2.1, hk.1.2.2.2.2⟩⟩⟩⟩)); clear HO_9; have HO_9 := n_; clear n_; have n_ := Aside0.mk (Kd.S_mono (ok' := fun k_ => (some k_ ≠ (v302 : Value).ownBlock ∧ (some k_ ≠ (.slice Ao33 t308.length co33 : Value).ownBlock ∧ (some k_ ≠ (.slice Ao34 t311.length co34 : Value).ownBlock ∧ (some k_ ≠ (v319 : Value).ownBlock ∧ (some k_ ≠ (.slice Ao28 t298.length co28 : Value).ownBlock ∧ some k_ ≠ (.slice Ao39 t315.length co39 : Value).ownBlock)))))) HO_10.out (fun _ hk => ⟨hk.1.1, ⟨hk.1.2.1, ⟨hk.1.2.2.1, ⟨hk.1.2.2.2.1, ⟨hk.1.2.2.2.2.1, hk.1.2.2.2.2.2⟩⟩⟩⟩⟩)); clear HO_10; have HO_10 := n_; clear n_; have n_ := Aside0.mk (Kd.R_mono (ok' := fun k_ => (some k_ ≠ (v302 : Value).ownBlock ∧ (some k_ ≠ (.slice Ao34 t311.length co34 : Value).ownBlock ∧ (some k_ ≠ (v319 : Value).ownBlock ∧ (some k_ ≠ (.slice Ao28 t298.length co28 : Value).ownBlock ∧ some k_ ≠ (.slice Ao39 t315.length co39 : Value).ownBlock))))) HO_11.out (fun _ hk => ⟨hk.1.1, ⟨hk.1.2.1, ⟨hk.1.2.2.1, ⟨hk.1.2.2.2.1, hk.1.2.2.2.2⟩⟩⟩⟩)); clear HO_11; have HO_11 := n_; clear n_; have n_ := Aside0.mk (Kd.R_mono (ok' := fun k_ => (some k_ ≠ (v302 : Value).ownBlock ∧ (some k_ ≠ (.slice Ao33 t308.length co33 : Value).ownBlock ∧ (some k_ ≠ (v319 : Value).ownBlock ∧ (some k_ ≠ (.slice Ao28 t298.length co28 : Value).ownBlock ∧ some k_ ≠ (.slice Ao39 t315.length co39 : Value).ownBlock))))) HO_12.out (fun _ hk => ⟨hk.1.1, ⟨hk.1.2.1, ⟨hk.1.2.2.1, ⟨hk.1.2.2.2.1, hk.1.2.2.2.2⟩⟩⟩⟩)); clear HO_12; have HO_12 := n_; clear n_; have n_ := Aside0.mk (Kd.R_mono (ok' := fun k_ => (some k_ ≠ (v302 : Value).ownBlock ∧ (some k_ ≠ (.slice Ao33 t308.length co33 : Value).ownBlock ∧ (some k_ ≠ (.slice Ao34 t311.length co34 : Value).ownBlock ∧ (some k_ ≠ (.slice Ao28 t298.length co28 : Value).ownBlock ∧ some k_ ≠ (.slice Ao39 t315.length co39 : Value).ownBlock))))) HO_14.out (fun _ hk => ⟨hk.1.1, ⟨hk.1.2.1, ⟨hk.1.2.2.1, ⟨hk.1.2.2.2.1, hk.1.2.2.2.2⟩⟩⟩⟩)); clear HO_14; have HO_14 := n_; clear n_; have n_ := Aside0.mk (Kd.R_mono (ok' := fun k_ => (some k_ ≠ (v302 : Value).ownBlock ∧ (some k_ ≠ (.slice Ao33 t308.length co33 : Value).ownBlock ∧ (some k_ ≠ (.slice Ao34 t311.length co34 : Value).ownBlock ∧ (some k_ ≠ (v319 : Value).ownBlock ∧ some k_ ≠ (.slice Ao39 t315.length co39 : Value).ownBlock))))) HO_305001.out (fun _ hk => ⟨hk.1.1, ⟨hk.1.2.1, ⟨hk.1.2.2.1, ⟨hk.1.2.2.2.1, hk.1.2.2.2.2⟩⟩⟩⟩)); clear HO_305001; have HO_305001 := n_; clear n_; have n_ := Aside0.mk (Kd.R_mono (ok' := fun k_ => (some k_ ≠ (v302 : Value).ownBlock ∧ (some k_ ≠ (.slice Ao33 t308.length co33 : Value).ownBlock ∧ (some k_ ≠ (.slice Ao34 t311.length co34 : Value).ownBlock ∧ (some k_ ≠ (v319 : Value).ownBlock ∧ some k_ ≠ (.slice Ao28 t298.length co28 : Value).ownBlock))))) HO_322001.out (fun _ hk => ⟨hk.1.1, ⟨hk.1.2.1, ⟨hk.1.2.2.1, ⟨hk.1.2.2.2.1, hk.1.2.2.2.2⟩⟩⟩⟩)); clear HO_322001; have HO_322001 := n_; clear n_) | ((with_reducible refine gate_callee (f := 7) rfl ?_); refine goesL_ (some 76) rfl rfl Try.func7 (by kernel_rfl) rfl #[.slice A2 l2.length c2] rfl (by (try simp only [List.map_toArray, List.map_cons, List.map_nil]); first | done | rfl | (simp only [List.length_drop, List.length_take]; rfl)) ?_; (with_reducible refine (laws_toIntS.calls kj16 _ _ l2 t332 _ ?side1 ?side2 A60.out).mono ?_); (case side1 => repeat (first | exact (Kd.C_below HR2.out (by repeat (first | (with_reducible first | exact HB.out | apply below_alloc | apply pw_below_drewN | apply below_drew1 | refine below_set ?_ GE304.out | refine below_set ?_ GE321.out) | exact HB.out))) | (with_reducible refine Kd.C_alloc ?_ _) | (with_reducible refine Kd.C_drewN ?_ _) | (with_reducible refine Kd.C_drew ?_))); (case side2 => exact HC2.out); rintro e w72 ⟨v333, rfl, ho0, hb⟩; refine ⟨_, rfl, ?_⟩; have n0_ := Aside0.mk (Kd.R_elder' (by exact lR HO_9.out) (Kd.R_base ho0) hb); have n1_ := Aside0.mk (Kd.S_elder' (by exact lS HO_10.out) (Kd.R_base ho0) hb); have n2_ := Aside0.mk (Kd.R_elder' (by exact lR HO_11.out) (Kd.R_base ho0) hb); have n3_ := Aside0.mk (Kd.R_elder' (by exact lR HO_12.out) (Kd.R_base ho0) hb); have n4_ := Aside0.mk (Kd.R_elder' (by exact lR HO_14.out) (Kd.R_base ho0) hb); have n5_ := Aside0.mk (Kd.R_elder' (by exact lR HO_305001.out) (Kd.R_base ho0) hb); have n6_ := Aside0.mk (Kd.R_elder' (by exact lR HO_322001.out) (Kd.R_base ho0) hb); have n7_ := Aside0.mk (Kd.R_lower (Kd.R_new' (Kd.R_new' (Kd.R_new' (Kd.R_new' (Kd.R_new' (Kd.R_new' ho0 (Kd.R_lt (by exact lR HO_9.out))) (Kd.R_lt (by exact lR HO_11.out))) (Kd.R_lt (by exact lR HO_12.out))) (Kd.R_lt (by exact lR HO_14.out))) (Kd.R_lt (by exact lR HO_305001.out))) (Kd.R_lt (by exact lR HO_322001.out))) (below_size (by repeat (first | (with_reducible first | exact HB.out | apply below_alloc | apply pw_below_drewN | apply below_drew1 | refine below_set ?_ GE304.out | refine below_set ?_ GE321.out) | exact HB.out)))); have n8_ := Aside0.mk (blk_below (g := gb304) (o := .cells #[.int .i64 t297, .slice Ao28 t298.length co28] 26 (0, 0)) (by exact lK BK304.out) hb); have n9_ := Aside0.mk (blk_below (g := gb321) (o := .cells #[.int .i64 t314, .slice Ao39 t315.length co39] 26 (0, 0)) (by exact lK BK321.out) hb); have n10_ := Aside0.mk (below_step (by repeat (first | (with_reducible first | exact HB.out | apply below_alloc | apply pw_below_drewN | apply below_drew1 | refine below_set ?_ GE304.out | refine below_set ?_ GE321.out) | exact HB.out)) hb); clear HO_9; clear HO_10; clear HO_11; clear HO_12; clear HO_14; clear HO_305001; clear HO_322001; clear BK304; clear BK321; clear HB; have HO_9 := n0_; have HO_10 := n1_; have HO_11 := n2_; have HO_12 := n3_; have HO_14 := n4_; have HO_305001 := n5_; have HO_322001 := n6_; have HO334 := n7_; have BK304 := n8_; have BK321 := n9_; have HB := n10_; clear n0_ n1_ n2_ n3_ n4_ n5_ n6_ n7_ n8_ n9_ n10_; (try clear hb); (try clear hb2); (try clear hk); (try clear hi); (try clear ho0); obtain ⟨Ao73, co73, eo73⟩ := Kd.R_slice HO334.out; subst eo73) | ((with_reducible refine gate_callee (f := 10) rfl ?_); refine goesL_ (some 77) rfl rfl Try.func10 (by kernel_rfl) rfl #[.slice Ao34 t311.length co34, .slice Ao73 t332.length co73] rfl (by (try simp only [List.map_toArray, List.map_cons, List.map_nil]); first | done | rfl | (simp only [List.length_drop, List.length_take]; rfl)) ?_; (with_reducible refine (laws_eqIntS.calls kj16 _ _ t311 _ _ t332 true _ ?side1 ?side2 ?side3 ?side4 A61.out).mono ?_); (case side1 => exact lC <| (Kd.R_reads' HO_12.out).2.2); (case side2 => exact (Kd.R_reads' HO_12.out).2.1); (case side3 => exact lC <| (Kd.R_reads' HO334.out).2.2); (case side4 => exact (Kd.R_reads' HO334.out).2.1); rintro e w' ⟨rfl, ⟨nd, rfl⟩⟩; refine ⟨_, rfl, ?_⟩; have n_ := Aside0.mk (Kd.R_mono (ok' := fun k_ => (some k_ ≠ (.slice Ao33 t308.length co33 : Value).ownBlock ∧ (some k_ ≠ (.slice Ao34 t311.length co34 : Value).ownBlock ∧ (some k_ ≠ (v319 : Value).ownBlock ∧ (some k_ ≠ (.slice Ao28 t298.length co28 : Value).ownBlock ∧ some k_ ≠ (.slice Ao39 t315.length co39 : Value).ownBlock))))) HO_9.out (fun _ hk => ⟨hk.1.1, ⟨hk.1.2.1, ⟨hk.1.2.2.1, ⟨hk.1.2.2.2.1, hk.1.2.2.2.2⟩⟩⟩⟩)); clear HO_9; have HO_9 := n_; clear n_; have n_ := Aside0.mk (Kd.S_mono (ok' := fun k_ => (some k_ ≠ (v302 : Value).ownBlock ∧ (some k_ ≠ (.slice Ao33 t308.length co33 : Value).ownBlock ∧ (some k_ ≠ (.slice Ao34 t311.length co34 : Value).ownBlock ∧ (some k_ ≠ (v319 : Value).ownBlock ∧ (some k_ ≠ (.slice Ao28 t298.length co28 : Value).ownBlock ∧ some k_ ≠ (.slice Ao39 t315.length co39 : Value).ownBlock)))))) HO_10.out (fun _ hk => ⟨hk.1.1, ⟨hk.1.2.1, ⟨hk.1.2.2.1, ⟨hk.1.2.2.2.1, ⟨hk.1.2.2.2.2.1, hk.1.2.2.2.2.2⟩⟩⟩⟩⟩)); clear HO_10; have HO_10 := n_; clear n_; have n_ := Aside0.mk (Kd.R_mono (ok' := fun k_ => (some k_ ≠ (v302 : Value).ownBlock ∧ (some k_ ≠ (.slice Ao34 t311.length co34 : Value).ownBlock ∧ (some k_ ≠ (v319 : Value).ownBlock ∧ (some k_ ≠ (.slice Ao28 t298.length co28 : Value).ownBlock ∧ some k_ ≠ (.slice Ao39 t315.length co39 : Value).ownBlock))))) HO_11.out (fun _ hk => ⟨hk.1.1, ⟨hk.1.2.1, ⟨hk.1.2.2.1, ⟨hk.1.2.2.2.1, hk.1.2.2.2.2⟩⟩⟩⟩)); clear HO_11; have HO_11 := n_; clear n_; have n_ := Aside0.mk (Kd.R_mono (ok' := fun k_ => (some k_ ≠ (v302 : Value).ownBlock ∧ (some k_ ≠ (.slice Ao33 t308.length co33 : Value).ownBlock ∧ (some k_ ≠ (v319 : Value).ownBlock ∧ (some k_ ≠ (.slice Ao28 t298.length co28 : Value).ownBlock ∧ some k_ ≠ (.slice Ao39 t315.length co39 : Value).ownBlock))))) HO_12.out (fun _ hk => ⟨hk.1.1, ⟨hk.1.2.1, ⟨hk.1.2.2.1, ⟨hk.1.2.2.2.1, hk.1.2.2.2.2⟩⟩⟩⟩)); clear HO_12; have HO_12 := n_; clear n_; have n_ := Aside0.mk (Kd.R_mono (ok' := fun k_ => (some k_ ≠ (v302 : Value).ownBlock ∧ (some k_ ≠ (.slice Ao33 t308.length co33 : Value).ownBlock ∧ (some k_ ≠ (.slice Ao34 t311.length co34 : Value).ownBlock ∧ (some k_ ≠ (.slice Ao28 t298.length co28 : Value).ownBlock ∧ some k_ ≠ (.slice Ao39 t315.length co39 : Value).ownBlock))))) HO_14.out (fun _ hk => ⟨hk.1.1, ⟨hk.1.2.1, ⟨hk.1.2.2.1, ⟨hk.1.2.2.2.1, hk.1.2.2.2.2⟩⟩⟩⟩)); clear HO_14; have HO_14 := n_; clear n_; have n_ := Aside0.mk (Kd.R_mono (ok' := fun k_ => (some k_ ≠ (v302 : Value).ownBlock ∧ (some k_ ≠ (.slice Ao33 t308.length co33 : Value).ownBlock ∧ (some k_ ≠ (.slice Ao34 t311.length co34 : Value).ownBlock ∧ (some k_ ≠ (v319 : Value).ownBlock ∧ some k_ ≠ (.slice Ao39 t315.length co39 : Value).ownBlock))))) HO_305001.out (fun _ hk => ⟨hk.1.1, ⟨hk.1.2.1, ⟨hk.1.2.2.1, ⟨hk.1.2.2.2.1, hk.1.2.2.2.2⟩⟩⟩⟩)); clear HO_305001; have HO_305001 := n_; clear n_; have n_ := Aside0.mk (Kd.R_mono (ok' := fun k_ => (some k_ ≠ (v302 : Value).ownBlock ∧ (some k_ ≠ (.slice Ao33 t308.length co33 : Value).ownBlock ∧ (some k_ ≠ (.slice Ao34 t311.length co34 : Value).ownBlock ∧ (some k_ ≠ (v319 : Value).ownBlock ∧ some k_ ≠ (.slice Ao28 t298.length co28 : Value).ownBlock))))) HO_322001.out (fun _ hk => ⟨hk.1.1, ⟨hk.1.2.1, ⟨hk.1.2.2.1, ⟨hk.1.2.2.2.1, hk.1.2.2.2.2⟩⟩⟩⟩)); clear HO_322001; have HO_322001 := n_; clear n_) | ((with_reducible refine gate_callee (f := 12) rfl ?_); refine goesL_ (some 81) rfl rfl Try.func12 (by kernel_rfl) rfl #[.slice Ao32 t305.length co32, .int .i64 1] rfl (by (try simp only [List.map_toArray, List.map_cons, List.map_nil]); first | done | rfl | (simp only [List.length_drop, List.length_take]; rfl)) ?_; (with_reducible refine (laws_markActLineS.calls (fun k_ => ((some k_ ≠ (v302 : Value).ownBlock ∧ (some k_ ≠ (.slice Ao33 t308.length co33 : Value).ownBlock ∧ (some k_ ≠ (.slice Ao34 t311.length co34 : Value).ownBlock ∧ (some k_ ≠ (v319 : Value).ownBlock ∧ (some k_ ≠ (.slice Ao28 t298.length co28 : Value).ownBlock ∧ some k_ ≠ (.slice Ao39 t315.length co39 : Value).ownBlock)))))) ∧ w.heap.size ≤ k_ ∧ k_ < w72.heap.size ∧ ∃ q_, q_ ∈ 48 :: (k48).E ∧ ∃ cells_, w72.heap[k_]? = some (.cells cells_ q_ (0, 0))) (.slice Ao32 t305.length co32) t305 1 t336 w _ ?side1 ?side2 A63.out).mono ?_); (case side1 => repeat (first | (with_reducible first | exact HB.out | apply below_alloc | apply pw_below_drewN | apply below_drew1 | refine below_set ?_ GE304.out | refine below_set ?_ GE321.out) | exact HB.out)); (case side2 => exact lS (Kd.S_bound (HO_10.out))); rintro e w74 ⟨rfl, hb, hkp⟩; refine ⟨_, rfl, ?_⟩; have n0_ := Aside0.mk (Kd.R_mono (ok' := fun k_ => some k_ ≠ (.slice Ao33 t308.length co33 : Value).ownBlock ∧ some k_ ≠ (.slice Ao34 t311.length co34 : Value).ownBlock ∧ some k_ ≠ (v319 : Value).ownBlock ∧ some k_ ≠ (.slice Ao28 t298.length co28 : Value).ownBlock ∧ some k_ ≠ (.slice Ao39 t315.length co39 : Value).ownBlock) (R_marked (ok := fun k_ => (some k_ ≠ (.slice Ao33 t308.length co33 : Value).ownBlock ∧ (some k_ ≠ (.slice Ao34 t311.length co34 : Value).ownBlock ∧ (some k_ ≠ (v319 : Value).ownBlock ∧ (some k_ ≠ (.slice Ao28 t298.length co28 : Value).ownBlock ∧ some k_ ≠ (.slice Ao39 t315.length co39 : Value).ownBlock))))) (by exact lR HO_9.out) hkp (fun k_ e_ hp_ => (hp_.1.1) e_.symm)) (fun k_ hk_ => ⟨hk_.1, hk_.2.1, hk_.2.2.1, hk_.2.2.2.1, hk_.2.2.2.2⟩)); have n1_ := Aside0.mk (Kd.R_mono (ok' := fun k_ => some k_ ≠ (v302 : Value).ownBlock ∧ some k_ ≠ (.slice Ao34 t311.length co34 : Value).ownBlock ∧ some k_ ≠ (v319 : Value).ownBlock ∧ some k_ ≠ (.slice Ao28 t298.length co28 : Value).ownBlock ∧ some k_ ≠ (.slice Ao39 t315.length co39 : Value).ownBlock) (R_marked (ok := fun k_ => (some k_ ≠ (v302 : Value).ownBlock ∧ (some k_ ≠ (.slice Ao34 t311.length co34 : Value).ownBlock ∧ (some k_ ≠ (v319 : Value).ownBlock ∧ (some k_ ≠ (.slice Ao28 t298.length co28 : Value).ownBlock ∧ some k_ ≠ (.slice Ao39 t315.length co39 : Value).ownBlock))))) (by exact lR HO_11.out) hkp (fun k_ e_ hp_ => (hp_.1.2.1) e_.symm)) (fun k_ hk_ => ⟨hk_.1, hk_.2.1, hk_.2.2.1, hk_.2.2.2.1, hk_.2.2.2.2⟩)); have n2_ := Aside0.mk (Kd.R_mono (ok' := fun k_ => some k_ ≠ (v302 : Value).ownBlock ∧ some k_ ≠ (.slice Ao33 t308.length co33 : Value).ownBlock ∧ some k_ ≠ (v319 : Value).ownBlock ∧ some k_ ≠ (.slice Ao28 t298.length co28 : Value).ownBlock ∧ some k_ ≠ (.slice Ao39 t315.length co39 : Value).ownBlock) (R_marked (ok := fun k_ => (some k_ ≠ (v302 : Value).ownBlock ∧ (some k_ ≠ (.slice Ao33 t308.length co33 : Value).ownBlock ∧ (some k_ ≠ (v319 : Value).ownBlock ∧ (some k_ ≠ (.slice Ao28 t298.length co28 : Value).ownBlock ∧ some k_ ≠ (.slice Ao39 t315.length co39 : Value).ownBlock))))) (by exact lR HO_12.out) hkp (fun k_ e_ hp_ => (hp_.1.2.2.1) e_.symm)) (fun k_ hk_ => ⟨hk_.1, hk_.2.1, hk_.2.2.1, hk_.2.2.2.1, hk_.2.2.2.2⟩)); have n3_ := Aside0.mk (Kd.R_mono (ok' := fun k_ => some k_ ≠ (v302 : Value).ownBlock ∧ some k_ ≠ (.slice Ao33 t308.length co33 : Value).ownBlock ∧ some k_ ≠ (.slice Ao34 t311.length co34 : Value).ownBlock ∧ some k_ ≠ (.slice Ao28 t298.length co28 : Value).ownBlock ∧ some k_ ≠ (.slice Ao39 t315.length co39 : Value).ownBlock) (R_marked (ok := fun k_ => (some k_ ≠ (v302 : Value).ownBlock ∧ (some k_ ≠ (.slice Ao33 t308.length co33 : Value).ownBlock ∧ (some k_ ≠ (.slice Ao34 t311.length co34 : Value).ownBlock ∧ (some k_ ≠ (.slice Ao28 t298.length co28 : Value).ownBlock ∧ some k_ ≠ (.slice Ao39 t315.length co39 : Value).ownBlock))))) (by exact lR HO_14.out) hkp (fun k_ e_ hp_ => (hp_.1.2.2.2.1) e_.symm)) (fun k_ hk_ => ⟨hk_.1, hk_.2.1, hk_.2.2.1, hk_.2.2.2.1, hk_.2.2.2.2⟩)); have n4_ := Aside0.mk (Kd.R_mono (ok' := fun k_ => some k_ ≠ (v302 : Value).ownBlock ∧ some k_ ≠ (.slice Ao33 t308.length co33 : Value).ownBlock ∧ some k_ ≠ (.slice Ao34 t311.length co34 : Value).ownBlock ∧ some k_ ≠ (v319 : Value).ownBlock ∧ some k_ ≠ (.slice Ao39 t315.length co39 : Value).ownBlock) (R_marked (ok := fun k_ => (some k_ ≠ (v302 : Value).ownBlock ∧ (some k_ ≠ (.slice Ao33 t308.length co33 : Value).ownBlock ∧ (some k_ ≠ (.slice Ao34 t311.length co34 : Value).ownBlock ∧ (some k_ ≠ (v319 : Value).ownBlock ∧ some k_ ≠ (.slice Ao39 t315.length co39 : Value).ownBlock))))) (by exact lR HO_305001.out) hkp (fun k_ e_ hp_ => (hp_.1.2.2.2.2.1) e_.symm)) (fun k_ hk_ => ⟨hk_.1, hk_.2.1, hk_.2.2.1, hk_.2.2.2.1, hk_.2.2.2.2⟩)); have n5_ := Aside0.mk (Kd.R_mono (ok' := fun k_ => some k_ ≠ (v302 : Value).ownBlock ∧ some k_ ≠ (.slice Ao33 t308.length co33 : Value).ownBlock ∧ some k_ ≠ (.slice Ao34 t311.length co34 : Value).ownBlock ∧ some k_ ≠ (v319 : Value).ownBlock ∧ some k_ ≠ (.slice Ao28 t298.length co28 : Value).ownBlock) (R_marked (ok := fun k_ => (some k_ ≠ (v302 : Value).ownBlock ∧ (some k_ ≠ (.slice Ao33 t308.length co33 : Value).ownBlock ∧ (some k_ ≠ (.slice Ao34 t311.length co34 : Value).ownBlock ∧ (some k_ ≠ (v319 : Value).ownBlock ∧ some k_ ≠ (.slice Ao28 t298.length co28 : Value).ownBlock))))) (by exact lR HO_322001.out) hkp (fun k_ e_ hp_ => (hp_.1.2.2.2.2.2) e_.symm)) (fun k_ hk_ => ⟨hk_.1, hk_.2.1, hk_.2.2.1, hk_.2.2.2.1, hk_.2.2.2.2⟩)); have n6_ := Aside0.mk (blk_kept (by exact lK BK304.out) hkp (fun hs_ => (fun e_ => nest_ne e_.2.2.2 (by exact lK BK304.out) (by decide)) hs_)); have n7_ := Aside0.mk (blk_kept (by exact lK BK321.out) hkp (fun hs_ => (fun e_ => nest_ne e_.2.2.2 (by exact lK BK321.out) (by decide)) hs_)); have n8_ := Aside0.mk (hb); clear HO_9; clear HO_11; clear HO_12; clear HO_14; clear HO_305001; clear HO_322001; clear BK304; clear BK321; clear HB; clear HO_10; have HO_9 := n0_; have HO_11 := n1_; have HO_12 := n2_; have HO_14 := n3_; have HO_305001 := n4_; have HO_322001 := n5_; have BK304 := n6_; have BK321 := n7_; have HB := n8_; clear n0_ n1_ n2_ n3_ n4_ n5_ n6_ n7_ n8_; (try clear hb); (try clear hkp)) | ((with_reducible refine gate_callee (f := 13) rfl ?_); refine goesL_ (some 84) rfl rfl Try.func13 (by kernel_rfl) rfl #[.slice Ao33 t308.length co33, .int .i64 t336] rfl (by (try simp only [List.map_toArray, List.map_cons, List.map_nil]); first | done | rfl | (simp only [List.length_drop, List.length_take]; rfl)) ?_; (with_reducible refine (laws_markIntS.calls kj16 (fun k_ => some k_ = (.slice Ao33 t308.length co33 : Value).ownBlock) (.slice Ao33 t308.length co33) t308 t336 t337 t338 w _ ?side1 ?side2 A64.out).mono ?_); (case side1 => repeat (first | (with_reducible first | exact HB.out | apply below_alloc | apply pw_below_drewN | apply below_drew1 | refine below_set ?_ GE304.out | refine below_set ?_ GE321.out) | exact HB.out)); (case side2 => exact Kd.R_tight rfl HO_11.out); rintro e w75 ⟨rfl, hy0, hb, hkp⟩; refine ⟨_, rfl, ?_⟩; have n0_ := Aside0.mk (Kd.R_mono (ok' := fun k_ => some k_ ≠ (.slice Ao33 t308.length co33 : Value).ownBlock ∧ some k_ ≠ (.slice Ao34 t311.length co34 : Value).ownBlock ∧ some k_ ≠ (v319 : Value).ownBlock ∧ some k_ ≠ (.slice Ao28 t298.length co28 : Value).ownBlock ∧ some k_ ≠ (.slice Ao39 t315.length co39 : Value).ownBlock) (Kd.R_keptB (HO_9.out) hkp (fun k_ hk_ hs_ => (hk_.1) hs_)) (fun k_ hk_ => ⟨hk_.1.1, hk_.1.2.1, hk_.1.2.2.1, hk_.1.2.2.2.1, hk_.1.2.2.2.2⟩)); have n1_ := Aside0.mk (Kd.R_reok rfl hy0 (fun k_ e_ => HO_11.out.1 k_ e_)); have n2_ := Aside0.mk (Kd.R_mono (ok' := fun k_ => some k_ ≠ (v302 : Value).ownBlock ∧ some k_ ≠ (.slice Ao33 t308.length co33 : Value).ownBlock ∧ some k_ ≠ (v319 : Value).ownBlock ∧ some k_ ≠ (.slice Ao28 t298.length co28 : Value).ownBlock ∧ some k_ ≠ (.slice Ao39 t315.length co39 : Value).ownBlock) (Kd.R_keptB (HO_12.out) hkp (fun k_ hk_ hs_ => (hk_.2.1) hs_)) (fun k_ hk_ => ⟨hk_.1.1, hk_.1.2.1, hk_.1.2.2.1, hk_.1.2.2.2.1, hk_.1.2.2.2.2⟩)); have n3_ := Aside0.mk (Kd.R_mono (ok' := fun k_ => some k_ ≠ (v302 : Value).ownBlock ∧ some k_ ≠ (.slice Ao33 t308.length co33 : Value).ownBlock ∧ some k_ ≠ (.slice Ao34 t311.length co34 : Value).ownBlock ∧ some k_ ≠ (.slice Ao28 t298.length co28 : Value).ownBlock ∧ some k_ ≠ (.slice Ao39 t315.length co39 : Value).ownBlock) (Kd.R_keptB (HO_14.out) hkp (fun k_ hk_ hs_ => (hk_.2.1) hs_)) (fun k_ hk_ => ⟨hk_.1.1, hk_.1.2.1, hk_.1.2.2.1, hk_.1.2.2.2.1, hk_.1.2.2.2.2⟩)); have n4_ := Aside0.mk (Kd.R_mono (ok' := fun k_ => some k_ ≠ (v302 : Value).ownBlock ∧ some k_ ≠ (.slice Ao33 t308.length co33 : Value).ownBlock ∧ some k_ ≠ (.slice Ao34 t311.length co34 : Value).ownBlock ∧ some k_ ≠ (v319 : Value).ownBlock ∧ some k_ ≠ (.slice Ao39 t315.length co39 : Value).ownBlock) (Kd.R_keptB (HO_305001.out) hkp (fun k_ hk_ hs_ => (hk_.2.1) hs_)) (fun k_ hk_ => ⟨hk_.1.1, hk_.1.2.1, hk_.1.2.2.1, hk_.1.2.2.2.1, hk_.1.2.2.2.2⟩)); have n5_ := Aside0.mk (Kd.R_mono (ok' := fun k_ => some k_ ≠ (v302 : Value).ownBlock ∧ some k_ ≠ (.slice Ao33 t308.length co33 : Value).ownBlock ∧ some k_ ≠ (.slice Ao34 t311.length co34 : Value).ownBlock ∧ some k_ ≠ (v319 : Value).ownBlock ∧ some k_ ≠ (.slice Ao28 t298.length co28 : Value).ownBlock) (Kd.R_keptB (HO_322001.out) hkp (fun k_ hk_ hs_ => (hk_.2.1) hs_)) (fun k_ hk_ => ⟨hk_.1.1, hk_.1.2.1, hk_.1.2.2.1, hk_.1.2.2.2.1, hk_.1.2.2.2.2⟩)); have n6_ := Aside0.mk (blk_kept (by exact lK BK304.out) hkp (fun hs_ => (fun e_ => (Kd.R_ne HO_11.out BK304.out (by decide)) e_) hs_)); have n7_ := Aside0.mk (blk_kept (by exact lK BK321.out) hkp (fun hs_ => (fun e_ => (Kd.R_ne HO_11.out BK321.out (by decide)) e_) hs_)); have n8_ := Aside0.mk (hb); clear HO_9; clear HO_11; clear HO_12; clear HO_14; clear HO_305001; clear HO_322001; clear BK304; clear BK321; clear HB; have HO_9 := n0_; have HO_11 := n1_; have HO_12 := n2_; have HO_14 := n3_; have HO_305001 := n4_; have HO_322001 := n5_; have BK304 := n6_; have BK321 := n7_; have HB := n8_; clear n0_ n1_ n2_ n3_ n4_ n5_ n6_ n7_ n8_; (try clear hb); (try clear hkp); (try clear hy0); have n_ := Aside0.mk (Kd.R_mono (ok' := fun k_ => (some k_ ≠ (.slice Ao34 t311.length co34 : Value).ownBlock ∧ (some k_ ≠ (v319 : Value).ownBlock ∧ (some k_ ≠ (.slice Ao28 t298.length co28 : Value).ownBlock ∧ some k_ ≠ (.slice Ao39 t315.length co39 : Value).ownBlock)))) HO_9.out (fun _ hk => ⟨hk.2.1, ⟨hk.2.2.1, ⟨hk.2.2.2.1, hk.2.2.2.2⟩⟩⟩)); clear HO_9; have HO_9 := n_; clear n_; have n_ := Aside0.mk (Kd.R_mono (ok' := fun k_ => (some k_ ≠ (v302 : Value).ownBlock ∧ (some k_ ≠ (v319 : Value).ownBlock ∧ (some k_ ≠ (.slice Ao28 t298.length co28 : Value).ownBlock ∧ some k_ ≠ (.slice Ao39 t315.length co39 : Value).ownBlock)))) HO_12.out (fun _ hk => ⟨hk.1, ⟨hk.2.2.1, ⟨hk.2.2.2.1, hk.2.2.2.2⟩⟩⟩)); clear HO_12; have HO_12 := n_; clear n_; have n_ := Aside0.mk (Kd.R_mono (ok' := fun k_ => (some k_ ≠ (v302 : Value).ownBlock ∧ (some k_ ≠ (.slice Ao34 t311.length co34 : Value).ownBlock ∧ (some k_ ≠ (.slice Ao28 t298.length co28 : Value).ownBlock ∧ some k_ ≠ (.slice Ao39 t315.length co39 : Value).ownBlock)))) HO_14.out (fun _ hk => ⟨hk.1, ⟨hk.2.2.1, ⟨hk.2.2.2.1, hk.2.2.2.2⟩⟩⟩)); clear HO_14; have HO_14 := n_; clear n_; have n_ := Aside0.mk (Kd.R_mono (ok' := fun k_ => (some k_ ≠ (v302 : Value).ownBlock ∧ (some k_ ≠ (.slice Ao34 t311.length co34 : Value).ownBlock ∧ (some k_ ≠ (v319 : Value).ownBlock ∧ some k_ ≠ (.slice Ao39 t315.length co39 : Value).ownBlock)))) HO_305001.out (fun _ hk => ⟨hk.1, ⟨hk.2.2.1, ⟨hk.2.2.2.1, hk.2.2.2.2⟩⟩⟩)); clear HO_305001; have HO_305001 := n_; clear n_; have n_ := Aside0.mk (Kd.R_mono (ok' := fun k_ => (some k_ ≠ (v302 : Value).ownBlock ∧ (some k_ ≠ (.slice Ao34 t311.length co34 : Value).ownBlock ∧ (some k_ ≠ (v319 : Value).ownBlock ∧ some k_ ≠ (.slice Ao28 t298.length co28 : Value).ownBlock)))) HO_322001.out (fun _ hk => ⟨hk.1, ⟨hk.2.2.1, ⟨hk.2.2.2.1, hk.2.2.2.2⟩⟩⟩)); clear HO_322001; have HO_322001 := n_; clear n_) | ((with_reducible refine gate_callee (f := 13) rfl ?_); refine goesL_ (some 87) rfl rfl Try.func13 (by kernel_rfl) rfl #[.slice Ao34 t311.length co34, .int .i64 t337] rfl (by (try simp only [List.map_toArray, List.map_cons, List.map_nil]); first | done | rfl | (simp only [List.length_drop, List.length_take]; rfl)) ?_; (with_reducible refine (laws_markIntS.calls kj16 (fun k_ => some k_ = (.slice Ao34 t311.length co34 : Value).ownBlock) (.slice Ao34 t311.length co34) t311 t337 t339 t340 w _ ?side1 ?side2 A65.out).mono ?_); (case side1 => repeat (first | (with_reducible first | exact HB.out | apply below_alloc | apply pw_below_drewN | apply below_drew1 | refine below_set ?_ GE304.out | refine below_set ?_ GE321.out) | exact HB.out)); (case side2 => exact Kd.R_tight rfl HO_12.out); rintro e w76 ⟨rfl, hy0, hb, hkp⟩; refine ⟨_, rfl, ?_⟩; have n0_ := Aside0.mk (Kd.R_mono (ok' := fun k_ => some k_ ≠ (.slice Ao34 t311.length co34 : Value).ownBlock ∧ some k_ ≠ (v319 : Value).ownBlock ∧ some k_ ≠ (.slice Ao28 t298.length co28 : Value).ownBlock ∧ some k_ ≠ (.slice Ao39 t315.length co39 : Value).ownBlock) (Kd.R_keptB (HO_9.out) hkp (fun k_ hk_ hs_ => (hk_.1) hs_)) (fun k_ hk_ => ⟨hk_.1.1, hk_.1.2.1, hk_.1.2.2.1, hk_.1.2.2.2⟩)); have n1_ := Aside0.mk (Kd.R_reok rfl hy0 (fun k_ e_ => HO_12.out.1 k_ e_)); have n2_ := Aside0.mk (Kd.R_mono (ok' := fun k_ => some k_ ≠ (v302 : Value).ownBlock ∧ some k_ ≠ (.slice Ao34 t311.length co34 : Value).ownBlock ∧ some k_ ≠ (.slice Ao28 t298.length co28 : Value).ownBlock ∧ some k_ ≠ (.slice Ao39 t315.length co39 : Value).ownBlock) (Kd.R_keptB (HO_14.out) hkp (fun k_ hk_ hs_ => (hk_.2.1) hs_)) (fun k_ hk_ => ⟨hk_.1.1, hk_.1.2.1, hk_.1.2.2.1, hk_.1.2.2.2⟩)); have n3_ := Aside0.mk (Kd.R_mono (ok' := fun k_ => some k_ ≠ (v302 : Value).ownBlock ∧ some k_ ≠ (.slice Ao34 t311.length co34 : Value).ownBlock ∧ some k_ ≠ (v319 : Value).ownBlock ∧ some k_ ≠ (.slice Ao39 t315.length co39 : Value).ownBlock) (Kd.R_keptB (HO_305001.out) hkp (fun k_ hk_ hs_ => (hk_.2.1) hs_)) (fun k_ hk_ => ⟨hk_.1.1, hk_.1.2.1, hk_.1.2.2.1, hk_.1.2.2.2⟩)); have n4_ := Aside0.mk (Kd.R_mono (ok' := fun k_ => some k_ ≠ (v302 : Value).ownBlock ∧ some k_ ≠ (.slice Ao34 t311.length co34 : Value).ownBlock ∧ some k_ ≠ (v319 : Value).ownBlock ∧ some k_ ≠ (.slice Ao28 t298.length co28 : Value).ownBlock) (Kd.R_keptB (HO_322001.out) hkp (fun k_ hk_ hs_ => (hk_.2.1) hs_)) (fun k_ hk_ => ⟨hk_.1.1, hk_.1.2.1, hk_.1.2.2.1, hk_.1.2.2.2⟩)); have n5_ := Aside0.mk (blk_kept (by exact lK BK304.out) hkp (fun hs_ => (fun e_ => (Kd.R_ne HO_12.out BK304.out (by decide)) e_) hs_)); have n6_ := Aside0.mk (blk_kept (by exact lK BK321.out) hkp (fun hs_ => (fun e_ => (Kd.R_ne HO_12.out BK321.out (by decide)) e_) hs_)); have n7_ := Aside0.mk (hb); clear HO_9; clear HO_12; clear HO_14; clear HO_305001; clear HO_322001; clear BK304; clear BK321; clear HB; have HO_9 := n0_; have HO_12 := n1_; have HO_14 := n2_; have HO_305001 := n3_; have HO_322001 := n4_; have BK304 := n5_; have BK321 := n6_; have HB := n7_; clear n0_ n1_ n2_ n3_ n4_ n5_ n6_ n7_; (try clear hb); (try clear hkp); (try clear hy0)))
                    (try simp only [Act.put, List.setIfInBounds_toArray, List.set_cons_zero, List.set_cons_succ])
                    go_cut [101] (fun v101 wc => ∃ (kq : Nat) (x101_65 : Bool), v101 = .bool x101_65 ∧ Aside0 (laws_FnExactActRun.j1 kq l0 l1 l2 t301 t318 x101_65 t297 t298 t314 t315 = some r) ∧ Aside0 (kq ≤ kj16) ∧ Aside0 (Kd.R (Kd.int .i64) 3 wc w.heap.size (fun k_ => some k_ ≠ (v319 : Value).ownBlock ∧ some k_ ≠ ((.slice Ao28 t298.length co28) : Value).ownBlock ∧ some k_ ≠ ((.slice Ao39 t315.length co39) : Value).ownBlock) v302 t301) ∧ Aside0 (Kd.R (Kd.int .i64) 3 wc w.heap.size (fun k_ => some k_ ≠ (v302 : Value).ownBlock ∧ some k_ ≠ ((.slice Ao28 t298.length co28) : Value).ownBlock ∧ some k_ ≠ ((.slice Ao39 t315.length co39) : Value).ownBlock) v319 t318) ∧ Aside0 (Kd.R (Kd.int .i64) 3 wc w.heap.size (fun k_ => some k_ ≠ (v302 : Value).ownBlock ∧ some k_ ≠ (v319 : Value).ownBlock ∧ some k_ ≠ ((.slice Ao39 t315.length co39) : Value).ownBlock) (.slice Ao28 t298.length co28) t298) ∧ Aside0 (Kd.R (Kd.int .i64) 3 wc w.heap.size (fun k_ => some k_ ≠ (v302 : Value).ownBlock ∧ some k_ ≠ (v319 : Value).ownBlock ∧ some k_ ≠ ((.slice Ao28 t298.length co28) : Value).ownBlock) (.slice Ao39 t315.length co39) t315) ∧ Aside0 (wc.heap[gb304]? = some (.cells #[.int .i64 t297, (.slice Ao28 t298.length co28)] 26 (0, 0))) ∧ Aside0 (wc.heap[gb321]? = some (.cells #[.int .i64 t314, (.slice Ao39 t315.length co39)] 26 (0, 0))) ∧ Aside0 (Below w.heap.size w wc))
                    case first =>
                      have H := HC66.out
                      clear HC66
                      by_cases c77 : t339 < 0
                      · rw [if_pos c77] at H
                        have c77b0 : decide (t339 < 0) = true := decide_eq_true c77
                        clear c77
                        (first | rw [c77b0] | (simp only [i64_w, i32_w]; rw [c77b0]) | skip)
                        have H' := Aside0.mk H
                        clear H
                        go_wp2
                        go_meet
                        case rel => exact ⟨_, (true), (by first | rfl | (simp; done) | (simp [*]; done)), H', ⟨by have := HJ16.out; first | omega | exact Nat.le_refl _⟩, ⟨by exact lR <| Kd.R_mono HO_9.out (fun _ hk => ⟨hk.2.1, ⟨hk.2.2.1, hk.2.2.2⟩⟩)⟩, ⟨by exact lR <| Kd.R_mono HO_14.out (fun _ hk => ⟨hk.1, ⟨hk.2.2.1, hk.2.2.2⟩⟩)⟩, ⟨by exact lR <| Kd.R_mono HO_305001.out (fun _ hk => ⟨hk.1, ⟨hk.2.2.1, hk.2.2.2⟩⟩)⟩, ⟨by exact lR <| Kd.R_mono HO_322001.out (fun _ hk => ⟨hk.1, ⟨hk.2.2.1, hk.2.2.2⟩⟩)⟩, ⟨by exact lK <| BK304.out⟩, ⟨by exact lK <| BK321.out⟩, ⟨by repeat (first | (with_reducible first | exact HB.out | apply below_alloc | apply pw_below_drewN | apply below_drew1 | refine below_set ?_ GE304.out | refine below_set ?_ GE321.out) | exact HB.out)⟩⟩
                      · rw [if_neg c77] at H
                        have c77b0 : decide (t339 < 0) = false := decide_eq_false c77
                        clear c77
                        (first | rw [c77b0] | (simp only [i64_w, i32_w]; rw [c77b0]) | skip)
                        replace H := Option.bind_eq_some_iff.mp H
                        obtain ⟨t341, A780, H⟩ := H
                        replace H : (if t341 = true then ((laws_eqIntS.f kj16 t318 t301).bind fun t342 => (laws_FnExactActRun.j1 kj16 l0 l1 l2 t301 t318 (!t342) t297 t298 t314 t315)) else (laws_FnExactActRun.j1 kj16 l0 l1 l2 t301 t318 true t297 t298 t314 t315)) = some r := H
                        have A78 := Aside0.mk A780
                        clear A780
                        by_cases c79 : t341 = true
                        · subst c79
                          have H1 : ((laws_eqIntS.f kj16 t318 t301).bind fun t342 => (laws_FnExactActRun.j1 kj16 l0 l1 l2 t301 t318 (!t342) t297 t298 t314 t315)) = some r := by rw [if_pos rfl] at H; exact H
                          clear H
                          have H := H1
                          clear H1
                          replace H := Option.bind_eq_some_iff.mp H
                          obtain ⟨t342, A800, H⟩ := H
                          replace H : (laws_FnExactActRun.j1 kj16 l0 l1 l2 t301 t318 (!t342) t297 t298 t314 t315) = some r := H
                          have A80 := Aside0.mk A800
                          clear A800
                          have H' := Aside0.mk H
                          clear H
                          have n_ := Aside0.mk (Kd.R_mono (ok' := fun k_ => (some k_ ≠ (v319 : Value).ownBlock ∧ (some k_ ≠ (.slice Ao28 t298.length co28 : Value).ownBlock ∧ some k_ ≠ (.slice Ao39 t315.length co39 : Value).ownBlock))) HO_9.out (fun _ hk => ⟨hk.2.1, ⟨hk.2.2.1, hk.2.2.2⟩⟩))
                          clear HO_9
                          have HO_9 := n_
                          clear n_
                          have n_ := Aside0.mk (Kd.R_mono (ok' := fun k_ => (some k_ ≠ (v302 : Value).ownBlock ∧ (some k_ ≠ (.slice Ao28 t298.length co28 : Value).ownBlock ∧ some k_ ≠ (.slice Ao39 t315.length co39 : Value).ownBlock))) HO_14.out (fun _ hk => ⟨hk.1, ⟨hk.2.2.1, hk.2.2.2⟩⟩))
                          clear HO_14
                          have HO_14 := n_
                          clear n_
                          have n_ := Aside0.mk (Kd.R_mono (ok' := fun k_ => (some k_ ≠ (v302 : Value).ownBlock ∧ (some k_ ≠ (v319 : Value).ownBlock ∧ some k_ ≠ (.slice Ao39 t315.length co39 : Value).ownBlock))) HO_305001.out (fun _ hk => ⟨hk.1, ⟨hk.2.2.1, hk.2.2.2⟩⟩))
                          clear HO_305001
                          have HO_305001 := n_
                          clear n_
                          have n_ := Aside0.mk (Kd.R_mono (ok' := fun k_ => (some k_ ≠ (v302 : Value).ownBlock ∧ (some k_ ≠ (v319 : Value).ownBlock ∧ some k_ ≠ (.slice Ao28 t298.length co28 : Value).ownBlock))) HO_322001.out (fun _ hk => ⟨hk.1, ⟨hk.2.2.1, hk.2.2.2⟩⟩))
                          clear HO_322001
                          have HO_322001 := n_
                          clear n_
                          have hnb81 := NB321_304.out
                          have hnc81 := NB304_321.out
                          have hcz82_0 : w76.cell? ⟨gb321, 0, none⟩ = some (.int .i64 t314) := (blk_cell BK321.out 0).trans rfl
                          have hcz82_1 : w76.cell? ⟨gb321, 1, none⟩ = some (.slice Ao39 t315.length co39) := (blk_cell BK321.out 1).trans rfl
                          have hfz82_0 := blk_frozen BK321.out 0
                          have hfz82_1 := blk_frozen BK321.out 1
                          have hcz83_0 : w76.cell? ⟨gb304, 0, none⟩ = some (.int .i64 t297) := (blk_cell BK304.out 0).trans rfl
                          have hcz83_1 : w76.cell? ⟨gb304, 1, none⟩ = some (.slice Ao28 t298.length co28) := (blk_cell BK304.out 1).trans rfl
                          have hfz83_0 := blk_frozen BK304.out 0
                          have hfz83_1 := blk_frozen BK304.out 1
                          go_wp2_with (first | (go_at_call 9; (with_reducible refine (laws_eqResResult.calls kj16 t314 _ _ t315 t297 _ _ t298 true _ ?side1 ?side2 ?side3 ?side4 A78.out).mono ?_); (case side1 => exact lC <| (Kd.R_reads' HO_322001.out).2.2); (case side2 => exact (Kd.R_reads' HO_322001.out).2.1); (case side3 => exact lC <| (Kd.R_reads' HO_305001.out).2.2); (case side4 => exact (Kd.R_reads' HO_305001.out).2.1); rintro e w84 ⟨rfl, hb⟩; have n0_ := Aside0.mk (Kd.R_below (by exact lR HO_9.out) hb); have n1_ := Aside0.mk (Kd.R_below (by exact lR HO_14.out) hb); have n2_ := Aside0.mk (Kd.R_below (by exact lR HO_305001.out) hb); have n3_ := Aside0.mk (Kd.R_below (by exact lR HO_322001.out) hb); have n4_ := Aside0.mk (blk_below (g := gb304) (o := .cells #[.int .i64 t297, .slice Ao28 t298.length co28] 26 (0, 0)) (by exact lK BK304.out) hb); have n5_ := Aside0.mk (blk_below (g := gb321) (o := .cells #[.int .i64 t314, .slice Ao39 t315.length co39] 26 (0, 0)) (by exact lK BK321.out) hb); have n6_ := Aside0.mk (below_step (by repeat (first | (with_reducible first | exact HB.out | apply below_alloc | apply pw_below_drewN | apply below_drew1 | refine below_set ?_ GE304.out | refine below_set ?_ GE321.out) | exact HB.out)) hb); clear HO_9; clear HO_14; clear HO_305001; clear HO_322001; clear BK304; clear BK321; clear HB; have HO_9 := n0_; have HO_14 := n1_; have HO_305001 := n2_; have HO_322001 := n3_; have BK304 := n4_; have BK321 := n5_; have HB := n6_; clear n0_ n1_ n2_ n3_ n4_ n5_ n6_; (try clear hb); (try clear hb2); (try clear hk); (try clear hi); obtain ⟨Ao85, co85, eo85⟩ := Kd.R_slice HO_14.out; subst eo85; obtain ⟨Ao86, co86, eo86⟩ := Kd.R_slice HO_9.out; subst eo86) | (go_at_call 10; (with_reducible refine (laws_eqIntS.calls kj16 _ _ t318 _ _ t301 t342 _ ?side1 ?side2 ?side3 ?side4 A80.out).mono ?_); (case side1 => exact lC <| (Kd.R_reads' HO_14.out).2.2); (case side2 => exact (Kd.R_reads' HO_14.out).2.1); (case side3 => exact lC <| (Kd.R_reads' HO_9.out).2.2); (case side4 => exact (Kd.R_reads' HO_9.out).2.1); rintro e w' ⟨rfl, ⟨nd, rfl⟩⟩))
                          go_meet
                          case rel => exact ⟨_, (!t342), (by first | rfl | (simp; done) | (simp [*]; done)), H', ⟨by have := HJ16.out; first | omega | exact Nat.le_refl _⟩, ⟨by exact lR <| HO_9.out⟩, ⟨by exact lR <| HO_14.out⟩, ⟨by exact lR <| HO_305001.out⟩, ⟨by exact lR <| HO_322001.out⟩, ⟨by exact lK <| BK304.out⟩, ⟨by exact lK <| BK321.out⟩, ⟨by repeat (first | (with_reducible first | exact HB.out | apply below_alloc | apply pw_below_drewN | apply below_drew1 | refine below_set ?_ GE304.out | refine below_set ?_ GE321.out) | exact HB.out)⟩⟩
                        · replace c79 := Bool.eq_false_iff.mpr c79
                          subst c79
                          have H1 : (laws_FnExactActRun.j1 kj16 l0 l1 l2 t301 t318 true t297 t298 t314 t315) = some r := by rw [if_neg (show ¬ (false = true) by decide)] at H; exact H
                          clear H
                          have H := H1
                          clear H1
                          have H' := Aside0.mk H
                          clear H
                          have n_ := Aside0.mk (Kd.R_mono (ok' := fun k_ => (some k_ ≠ (v319 : Value).ownBlock ∧ (some k_ ≠ (.slice Ao28 t298.length co28 : Value).ownBlock ∧ some k_ ≠ (.slice Ao39 t315.length co39 : Value).ownBlock))) HO_9.out (fun _ hk => ⟨hk.2.1, ⟨hk.2.2.1, hk.2.2.2⟩⟩))
                          clear HO_9
                          have HO_9 := n_
                          clear n_
                          have n_ := Aside0.mk (Kd.R_mono (ok' := fun k_ => (some k_ ≠ (v302 : Value).ownBlock ∧ (some k_ ≠ (.slice Ao28 t298.length co28 : Value).ownBlock ∧ some k_ ≠ (.slice Ao39 t315.length co39 : Value).ownBlock))) HO_14.out (fun _ hk => ⟨hk.1, ⟨hk.2.2.1, hk.2.2.2⟩⟩))
                          clear HO_14
                          have HO_14 := n_
                          clear n_
                          have n_ := Aside0.mk (Kd.R_mono (ok' := fun k_ => (some k_ ≠ (v302 : Value).ownBlock ∧ (some k_ ≠ (v319 : Value).ownBlock ∧ some k_ ≠ (.slice Ao39 t315.length co39 : Value).ownBlock))) HO_305001.out (fun _ hk => ⟨hk.1, ⟨hk.2.2.1, hk.2.2.2⟩⟩))
                          clear HO_305001
                          have HO_305001 := n_
                          clear n_
                          have n_ := Aside0.mk (Kd.R_mono (ok' := fun k_ => (some k_ ≠ (v302 : Value).ownBlock ∧ (some k_ ≠ (v319 : Value).ownBlock ∧ some k_ ≠ (.slice Ao28 t298.length co28 : Value).ownBlock))) HO_322001.out (fun _ hk => ⟨hk.1, ⟨hk.2.2.1, hk.2.2.2⟩⟩))
                          clear HO_322001
                          have HO_322001 := n_
                          clear n_
                          have hnb87 := NB321_304.out
                          have hnc87 := NB304_321.out
                          have hcz88_0 : w76.cell? ⟨gb321, 0, none⟩ = some (.int .i64 t314) := (blk_cell BK321.out 0).trans rfl
                          have hcz88_1 : w76.cell? ⟨gb321, 1, none⟩ = some (.slice Ao39 t315.length co39) := (blk_cell BK321.out 1).trans rfl
                          have hfz88_0 := blk_frozen BK321.out 0
                          have hfz88_1 := blk_frozen BK321.out 1
                          have hcz89_0 : w76.cell? ⟨gb304, 0, none⟩ = some (.int .i64 t297) := (blk_cell BK304.out 0).trans rfl
                          have hcz89_1 : w76.cell? ⟨gb304, 1, none⟩ = some (.slice Ao28 t298.length co28) := (blk_cell BK304.out 1).trans rfl
                          have hfz89_0 := blk_frozen BK304.out 0
                          have hfz89_1 := blk_frozen BK304.out 1
                          go_wp2_with (first | (go_at_call 9; (with_reducible refine (laws_eqResResult.calls kj16 t314 _ _ t315 t297 _ _ t298 false _ ?side1 ?side2 ?side3 ?side4 A78.out).mono ?_); (case side1 => exact lC <| (Kd.R_reads' HO_322001.out).2.2); (case side2 => exact (Kd.R_reads' HO_322001.out).2.1); (case side3 => exact lC <| (Kd.R_reads' HO_305001.out).2.2); (case side4 => exact (Kd.R_reads' HO_305001.out).2.1); rintro e w90 ⟨rfl, hb⟩; have n0_ := Aside0.mk (Kd.R_below (by exact lR HO_9.out) hb); have n1_ := Aside0.mk (Kd.R_below (by exact lR HO_14.out) hb); have n2_ := Aside0.mk (Kd.R_below (by exact lR HO_305001.out) hb); have n3_ := Aside0.mk (Kd.R_below (by exact lR HO_322001.out) hb); have n4_ := Aside0.mk (blk_below (g := gb304) (o := .cells #[.int .i64 t297, .slice Ao28 t298.length co28] 26 (0, 0)) (by exact lK BK304.out) hb); have n5_ := Aside0.mk (blk_below (g := gb321) (o := .cells #[.int .i64 t314, .slice Ao39 t315.length co39] 26 (0, 0)) (by exact lK BK321.out) hb); have n6_ := Aside0.mk (below_step (by repeat (first | (with_reducible first | exact HB.out | apply below_alloc | apply pw_below_drewN | apply below_drew1 | refine below_set ?_ GE304.out | refine below_set ?_ GE321.out) | exact HB.out)) hb); clear HO_9; clear HO_14; clear HO_305001; clear HO_322001; clear BK304; clear BK321; clear HB; have HO_9 := n0_; have HO_14 := n1_; have HO_305001 := n2_; have HO_322001 := n3_; have BK304 := n4_; have BK321 := n5_; have HB := n6_; clear n0_ n1_ n2_ n3_ n4_ n5_ n6_; (try clear hb); (try clear hb2); (try clear hk); (try clear hi)))
                          go_meet
                          case rel => exact ⟨_, (true), (by first | rfl | (simp; done) | (simp [*]; done)), H', ⟨by have := HJ16.out; first | omega | exact Nat.le_refl _⟩, ⟨by exact lR <| HO_9.out⟩, ⟨by exact lR <| HO_14.out⟩, ⟨by exact lR <| HO_305001.out⟩, ⟨by exact lR <| HO_322001.out⟩, ⟨by exact lK <| BK304.out⟩, ⟨by exact lK <| BK321.out⟩, ⟨by repeat (first | (with_reducible first | exact HB.out | apply below_alloc | apply pw_below_drewN | apply below_drew1 | refine below_set ?_ GE304.out | refine below_set ?_ GE321.out) | exact HB.out)⟩⟩
                    case rest =>
                      clear HC66
                      try clear c1
                      try clear c2
                      try clear p2
                      try clear c3
                      try clear c4
                      try clear c4b0
                      try clear c4b1
                      try clear c5
                      try clear c5b0
                      try clear c5b1
                      try clear c6
                      try clear c7
                      try clear c7b0
                      try clear c8
                      try clear c9
                      try clear c10
                      try clear c11
                      try clear c12
                      try clear c13
                      try clear c37
                      try clear c41
                      try clear c43
                      try clear c49
                      try clear c53
                      try clear c56
                      try clear c59
                      try clear c62
                      try clear c77
                      try clear c77b0
                      try clear c79
                      try clear c81
                      try clear c87
                      try clear hcz27_0
                      try clear hcz27_1
                      try clear hcz38_0
                      try clear hcz38_1
                      try clear hcz44_0
                      try clear hcz44_1
                      try clear hcz45_0
                      try clear hcz45_1
                      try clear hcz50_0
                      try clear hcz50_1
                      try clear hcz51_0
                      try clear hcz51_1
                      try clear hcz82_0
                      try clear hcz82_1
                      try clear hcz83_0
                      try clear hcz83_1
                      try clear hcz88_0
                      try clear hcz88_1
                      try clear hcz89_0
                      try clear hcz89_1
                      try clear hfz27_0
                      try clear hfz27_1
                      try clear hfz38_0
                      try clear hfz38_1
                      try clear hfz44_0
                      try clear hfz44_1
                      try clear hfz45_0
                      try clear hfz45_1
                      try clear hfz50_0
                      try clear hfz50_1
                      try clear hfz51_0
                      try clear hfz51_1
                      try clear hfz82_0
                      try clear hfz82_1
                      try clear hfz83_0
                      try clear hfz83_1
                      try clear hfz88_0
                      try clear hfz88_1
                      try clear hfz89_0
                      try clear hfz89_1
                      try clear p2
                      obtain ⟨kq, x101_65, rfl, HA, HJ65, HO_9, HO_14, HO_305001, HO_322001, BK304, BK321, HB⟩ := hcut
                      cases kq with
                      | zero => exact absurd HA.out (by simp [laws_FnExactActRun.j1])
                      | succ kj65 =>
                        have H := HA.out
                        clear HA
                        simp only [laws_FnExactActRun.j1] at H
                        by_cases c91 : x101_65 = true
                        · subst c91
                          have H1 : (some false) = some r := by rw [if_pos rfl] at H; exact H
                          clear H
                          have H := H1
                          clear H1
                          exact absurd (Option.some.inj H) (by rw [hr.out]; decide)
                        · replace c91 := Bool.eq_false_iff.mpr c91
                          subst c91
                          have H1 : ((laws_markResResult.f kj65 t314 t315 1).bind fun bt343 => ((laws_markIntS.f kj65 t318 bt343.1).bind fun bt345 => ((laws_heldResResult.f kj65 t314 bt343.2 1).bind fun t347 => (if t347 < 0 then (some false) else ((laws_heldIntS.f kj65 bt345.2 t347).bind fun t348 => (if t348 < 0 then (some false) else (if t348 = bt345.1 then ((laws_toActLineS.f kj65 l0).bind fun t349 => ((laws_toIntS.f kj65 l1).bind fun t352 => ((laws_toIntS.f kj65 l2).bind fun t355 => ((impl_ActRun.f kj65 t349 t352 t355).bind fun bt358 => ((laws_eqResResult.f kj65 bt358.1 bt358.2.1 t297 t298).bind fun t366 => (if t366 = true then ((laws_eqIntS.f kj65 bt358.2.2 t301).bind fun t367 => (laws_FnExactActRun.j2 kj65 bt345.2 bt345.1 (!t367) t314 bt343.2)) else (laws_FnExactActRun.j2 kj65 bt345.2 bt345.1 true t314 bt343.2))))))) else (some false)))))))) = some r := by rw [if_neg (show ¬ (false = true) by decide)] at H; exact H
                          clear H
                          have H := H1
                          clear H1
                          replace H := Option.bind_eq_some_iff.mp H
                          obtain ⟨⟨t343, t344⟩, A920, H⟩ := H
                          replace H : ((laws_markIntS.f kj65 t318 t343).bind fun bt345 => ((laws_heldResResult.f kj65 t314 t344 1).bind fun t347 => (if t347 < 0 then (some false) else ((laws_heldIntS.f kj65 bt345.2 t347).bind fun t348 => (if t348 < 0 then (some false) else (if t348 = bt345.1 then ((laws_toActLineS.f kj65 l0).bind fun t349 => ((laws_toIntS.f kj65 l1).bind fun t352 => ((laws_toIntS.f kj65 l2).bind fun t355 => ((impl_ActRun.f kj65 t349 t352 t355).bind fun bt358 => ((laws_eqResResult.f kj65 bt358.1 bt358.2.1 t297 t298).bind fun t366 => (if t366 = true then ((laws_eqIntS.f kj65 bt358.2.2 t301).bind fun t367 => (laws_FnExactActRun.j2 kj65 bt345.2 bt345.1 (!t367) t314 t344)) else (laws_FnExactActRun.j2 kj65 bt345.2 bt345.1 true t314 t344))))))) else (some false))))))) = some r := H
                          have A92 := Aside0.mk A920
                          clear A920
                          replace H := Option.bind_eq_some_iff.mp H
                          obtain ⟨⟨t345, t346⟩, A930, H⟩ := H
                          replace H : ((laws_heldResResult.f kj65 t314 t344 1).bind fun t347 => (if t347 < 0 then (some false) else ((laws_heldIntS.f kj65 t346 t347).bind fun t348 => (if t348 < 0 then (some false) else (if t348 = t345 then ((laws_toActLineS.f kj65 l0).bind fun t349 => ((laws_toIntS.f kj65 l1).bind fun t352 => ((laws_toIntS.f kj65 l2).bind fun t355 => ((impl_ActRun.f kj65 t349 t352 t355).bind fun bt358 => ((laws_eqResResult.f kj65 bt358.1 bt358.2.1 t297 t298).bind fun t366 => (if t366 = true then ((laws_eqIntS.f kj65 bt358.2.2 t301).bind fun t367 => (laws_FnExactActRun.j2 kj65 t346 t345 (!t367) t314 t344)) else (laws_FnExactActRun.j2 kj65 t346 t345 true t314 t344))))))) else (some false)))))) = some r := H
                          have A93 := Aside0.mk A930
                          clear A930
                          replace H := Option.bind_eq_some_iff.mp H
                          obtain ⟨t347, A940, H⟩ := H
                          replace H : (if t347 < 0 then (some false) else ((laws_heldIntS.f kj65 t346 t347).bind fun t348 => (if t348 < 0 then (some false) else (if t348 = t345 then ((laws_toActLineS.f kj65 l0).bind fun t349 => ((laws_toIntS.f kj65 l1).bind fun t352 => ((laws_toIntS.f kj65 l2).bind fun t355 => ((impl_ActRun.f kj65 t349 t352 t355).bind fun bt358 => ((laws_eqResResult.f kj65 bt358.1 bt358.2.1 t297 t298).bind fun t366 => (if t366 = true then ((laws_eqIntS.f kj65 bt358.2.2 t301).bind fun t367 => (laws_FnExactActRun.j2 kj65 t346 t345 (!t367) t314 t344)) else (laws_FnExactActRun.j2 kj65 t346 t345 true t314 t344))))))) else (some false))))) = some r := H
                          have A94 := Aside0.mk A940
                          clear A940
                          by_cases c95 : t347 < 0
                          · rw [if_pos c95] at H
                            have c95b0 : decide (t347 < 0) = true := decide_eq_true c95
                            clear c95
                            exact absurd (Option.some.inj H) (by rw [hr.out]; decide)
                          · rw [if_neg c95] at H
                            have c95b0 : decide (t347 < 0) = false := decide_eq_false c95
                            clear c95
                            replace H := Option.bind_eq_some_iff.mp H
                            obtain ⟨t348, A960, H⟩ := H
                            replace H : (if t348 < 0 then (some false) else (if t348 = t345 then ((laws_toActLineS.f kj65 l0).bind fun t349 => ((laws_toIntS.f kj65 l1).bind fun t352 => ((laws_toIntS.f kj65 l2).bind fun t355 => ((impl_ActRun.f kj65 t349 t352 t355).bind fun bt358 => ((laws_eqResResult.f kj65 bt358.1 bt358.2.1 t297 t298).bind fun t366 => (if t366 = true then ((laws_eqIntS.f kj65 bt358.2.2 t301).bind fun t367 => (laws_FnExactActRun.j2 kj65 t346 t345 (!t367) t314 t344)) else (laws_FnExactActRun.j2 kj65 t346 t345 true t314 t344))))))) else (some false))) = some r := H
                            have A96 := Aside0.mk A960
                            clear A960
                            by_cases c97 : t348 < 0
                            · rw [if_pos c97] at H
                              have c97b0 : decide (t348 < 0) = true := decide_eq_true c97
                              clear c97
                              exact absurd (Option.some.inj H) (by rw [hr.out]; decide)
                            · rw [if_neg c97] at H
                              have c97b0 : decide (t348 < 0) = false := decide_eq_false c97
                              clear c97
                              by_cases c98 : t348 = t345
                              · rw [if_pos c98] at H
                                have c98b0 : (t348 == t345) = true := beq_iff_eq.mpr c98
                                have c98b1 : (t348 != t345) = false := bne_eq_false_iff_eq.mpr c98
                                clear c98
                                replace H := Option.bind_eq_some_iff.mp H
                                obtain ⟨t349, A990, H⟩ := H
                                replace H : ((laws_toIntS.f kj65 l1).bind fun t352 => ((laws_toIntS.f kj65 l2).bind fun t355 => ((impl_ActRun.f kj65 t349 t352 t355).bind fun bt358 => ((laws_eqResResult.f kj65 bt358.1 bt358.2.1 t297 t298).bind fun t366 => (if t366 = true then ((laws_eqIntS.f kj65 bt358.2.2 t301).bind fun t367 => (laws_FnExactActRun.j2 kj65 t346 t345 (!t367) t314 t344)) else (laws_FnExactActRun.j2 kj65 t346 t345 true t314 t344)))))) = some r := H
                                have A99 := Aside0.mk A990
                                clear A990
                                replace H := Option.bind_eq_some_iff.mp H
                                obtain ⟨t352, A1000, H⟩ := H
                                replace H : ((laws_toIntS.f kj65 l2).bind fun t355 => ((impl_ActRun.f kj65 t349 t352 t355).bind fun bt358 => ((laws_eqResResult.f kj65 bt358.1 bt358.2.1 t297 t298).bind fun t366 => (if t366 = true then ((laws_eqIntS.f kj65 bt358.2.2 t301).bind fun t367 => (laws_FnExactActRun.j2 kj65 t346 t345 (!t367) t314 t344)) else (laws_FnExactActRun.j2 kj65 t346 t345 true t314 t344))))) = some r := H
                                have A100 := Aside0.mk A1000
                                clear A1000
                                replace H := Option.bind_eq_some_iff.mp H
                                obtain ⟨t355, A1010, H⟩ := H
                                replace H : ((impl_ActRun.f kj65 t349 t352 t355).bind fun bt358 => ((laws_eqResResult.f kj65 bt358.1 bt358.2.1 t297 t298).bind fun t366 => (if t366 = true then ((laws_eqIntS.f kj65 bt358.2.2 t301).bind fun t367 => (laws_FnExactActRun.j2 kj65 t346 t345 (!t367) t314 t344)) else (laws_FnExactActRun.j2 kj65 t346 t345 true t314 t344)))) = some r := H
                                have A101 := Aside0.mk A1010
                                clear A1010
                                replace H := Option.bind_eq_some_iff.mp H
                                obtain ⟨⟨t358, t359, t362⟩, A1020, H⟩ := H
                                replace H : ((laws_eqResResult.f kj65 t358 t359 t297 t298).bind fun t366 => (if t366 = true then ((laws_eqIntS.f kj65 t362 t301).bind fun t367 => (laws_FnExactActRun.j2 kj65 t346 t345 (!t367) t314 t344)) else (laws_FnExactActRun.j2 kj65 t346 t345 true t314 t344))) = some r := H
                                have A102 := Aside0.mk A1020
                                clear A1020
                                have HC103 := Aside0.mk H
                                clear H
                                have hnb104 := NB321_304.out
                                have hnc104 := NB304_321.out
                                have hcz105_0 : wc.cell? ⟨gb321, 0, none⟩ = some (.int .i64 t314) := (blk_cell BK321.out 0).trans rfl
                                have hcz105_1 : wc.cell? ⟨gb321, 1, none⟩ = some (.slice Ao39 t315.length co39) := (blk_cell BK321.out 1).trans rfl
                                have hfz105_0 := blk_frozen BK321.out 0
                                have hfz105_1 := blk_frozen BK321.out 1
                                go_upto_region 41 with (first | ((with_reducible refine gate_callee (f := 14) rfl ?_); refine goesL_ (some 104) rfl rfl Try.func14 (by kernel_rfl) rfl #[.agg #[.int .i64 t314, .slice Ao39 t315.length co39], .int .i64 1] rfl (by (try simp only [List.map_toArray, List.map_cons, List.map_nil]); first | done | rfl | (simp only [List.length_drop, List.length_take]; rfl)) ?_; (with_reducible refine (laws_markResResult.calls kj65 t314 (fun k_ => some k_ = (.slice Ao39 t315.length co39 : Value).ownBlock) (.slice Ao39 t315.length co39) t315 1 t343 t344 w _ ?side1 ?side2 A92.out).mono ?_); (case side1 => repeat (first | (with_reducible first | exact HB.out | apply below_alloc | apply pw_below_drewN | apply below_drew1 | refine below_set ?_ GE304.out | refine below_set ?_ GE321.out) | exact HB.out)); (case side2 => exact Kd.R_tight rfl HO_322001.out); rintro e w106 ⟨rfl, hy0, hb, hkp⟩; refine ⟨_, rfl, ?_⟩; have n0_ := Aside0.mk (Kd.R_mono (ok' := fun k_ => some k_ ≠ (v319 : Value).ownBlock ∧ some k_ ≠ (.slice Ao28 t298.length co28 : Value).ownBlock ∧ some k_ ≠ (.slice Ao39 t315.length co39 : Value).ownBlock) (Kd.R_keptB (HO_9.out) hkp (fun k_ hk_ hs_ => (hk_.2.2) hs_)) (fun k_ hk_ => ⟨hk_.1.1, hk_.1.2.1, hk_.1.2.2⟩)); have n1_ := Aside0.mk (Kd.R_mono (ok' := fun k_ => some k_ ≠ (v302 : Value).ownBlock ∧ some k_ ≠ (.slice Ao28 t298.length co28 : Value).ownBlock ∧ some k_ ≠ (.slice Ao39 t315.length co39 : Value).ownBlock) (Kd.R_keptB (HO_14.out) hkp (fun k_ hk_ hs_ => (hk_.2.2) hs_)) (fun k_ hk_ => ⟨hk_.1.1, hk_.1.2.1, hk_.1.2.2⟩)); have n2_ := Aside0.mk (Kd.R_mono (ok' := fun k_ => some k_ ≠ (v302 : Value).ownBlock ∧ some k_ ≠ (v319 : Value).ownBlock ∧ some k_ ≠ (.slice Ao39 t315.length co39 : Value).ownBlock) (Kd.R_keptB (HO_305001.out) hkp (fun k_ hk_ hs_ => (hk_.2.2) hs_)) (fun k_ hk_ => ⟨hk_.1.1, hk_.1.2.1, hk_.1.2.2⟩)); have n3_ := Aside0.mk (Kd.R_reok rfl hy0 (fun k_ e_ => HO_322001.out.1 k_ e_)); have n4_ := Aside0.mk (blk_kept (by exact lK BK304.out) hkp (fun hs_ => (fun e_ => (Kd.R_ne HO_322001.out BK304.out (by decide)) e_) hs_)); have n5_ := Aside0.mk (blk_kept (by exact lK BK321.out) hkp (fun hs_ => (fun e_ => (Kd.R_ne HO_322001.out BK321.out (by decide)) e_) hs_)); have n6_ := Aside0.mk (hb); clear HO_9; clear HO_14; clear HO_305001; clear HO_322001; clear BK304; clear BK321; clear HB; have HO_9 := n0_; have HO_14 := n1_; have HO_305001 := n2_; have HO_322001 := n3_; have BK304 := n4_; have BK321 := n5_; have HB := n6_; clear n0_ n1_ n2_ n3_ n4_ n5_ n6_; (try clear hb); (try clear hkp); (try clear hy0); obtain ⟨Ao107, co107, eo107⟩ := Kd.R_slice HO_14.out; subst eo107) | ((with_reducible refine gate_callee (f := 13) rfl ?_); refine goesL_ (some 107) rfl rfl Try.func13 (by kernel_rfl) rfl #[.slice Ao107 t318.length co107, .int .i64 t343] rfl (by (try simp only [List.map_toArray, List.map_cons, List.map_nil]); first | done | rfl | (simp only [List.length_drop, List.length_take]; rfl)) ?_; (with_reducible refine (laws_markIntS.calls kj65 (fun k_ => some k_ = (.slice Ao107 t318.length co107 : Value).ownBlock) (.slice Ao107 t318.length co107) t318 t343 t345 t346 w _ ?side1 ?side2 A93.out).mono ?_); (case side1 => repeat (first | (with_reducible first | exact HB.out | apply below_alloc | apply pw_below_drewN | apply below_drew1 | refine below_set ?_ GE304.out | refine below_set ?_ GE321.out) | exact HB.out)); (case side2 => exact Kd.R_tight rfl HO_14.out); rintro e w108 ⟨rfl, hy0, hb, hkp⟩; refine ⟨_, rfl, ?_⟩; have n0_ := Aside0.mk (Kd.R_mono (ok' := fun k_ => some k_ ≠ (.slice Ao107 t318.length co107 : Value).ownBlock ∧ some k_ ≠ (.slice Ao28 t298.length co28 : Value).ownBlock ∧ some k_ ≠ (.slice Ao39 t315.length co39 : Value).ownBlock) (Kd.R_keptB (HO_9.out) hkp (fun k_ hk_ hs_ => (hk_.1) hs_)) (fun k_ hk_ => ⟨hk_.1.1, hk_.1.2.1, hk_.1.2.2⟩)); have n1_ := Aside0.mk (Kd.R_reok rfl hy0 (fun k_ e_ => HO_14.out.1 k_ e_)); have n2_ := Aside0.mk (Kd.R_mono (ok' := fun k_ => some k_ ≠ (v302 : Value).ownBlock ∧ some k_ ≠ (.slice Ao107 t318.length co107 : Value).ownBlock ∧ some k_ ≠ (.slice Ao39 t315.length co39 : Value).ownBlock) (Kd.R_keptB (HO_305001.out) hkp (fun k_ hk_ hs_ => (hk_.2.1) hs_)) (fun k_ hk_ => ⟨hk_.1.1, hk_.1.2.1, hk_.1.2.2⟩)); have n3_ := Aside0.mk (Kd.R_mono (ok' := fun k_ => some k_ ≠ (v302 : Value).ownBlock ∧ some k_ ≠ (.slice Ao107 t318.length co107 : Value).ownBlock ∧ some k_ ≠ (.slice Ao28 t298.length co28 : Value).ownBlock) (Kd.R_keptB (HO_322001.out) hkp (fun k_ hk_ hs_ => (hk_.2.1) hs_)) (fun k_ hk_ => ⟨hk_.1.1, hk_.1.2.1, hk_.1.2.2⟩)); have n4_ := Aside0.mk (blk_kept (by exact lK BK304.out) hkp (fun hs_ => (fun e_ => (Kd.R_ne HO_14.out BK304.out (by decide)) e_) hs_)); have n5_ := Aside0.mk (blk_kept (by exact lK BK321.out) hkp (fun hs_ => (fun e_ => (Kd.R_ne HO_14.out BK321.out (by decide)) e_) hs_)); have n6_ := Aside0.mk (hb); clear HO_9; clear HO_14; clear HO_305001; clear HO_322001; clear BK304; clear BK321; clear HB; have HO_9 := n0_; have HO_14 := n1_; have HO_305001 := n2_; have HO_322001 := n3_; have BK304 := n4_; have BK321 := n5_; have HB := n6_; clear n0_ n1_ n2_ n3_ n4_ n5_ n6_; (try clear hb); (try clear hkp); (try clear hy0); have hcz109_0 : w108.cell? ⟨gb321, 0, none⟩ = some (.int .i64 t314) := (blk_cell BK321.out 0).trans rfl; have hcz109_1 : w108.cell? ⟨gb321, 1, none⟩ = some (.slice Ao39 t315.length co39) := (blk_cell BK321.out 1).trans rfl; have hfz109_0 := blk_frozen BK321.out 0; have hfz109_1 := blk_frozen BK321.out 1) | ((with_reducible refine gate_callee (f := 15) rfl ?_); refine goesL_ (some 110) rfl rfl Try.func15 (by kernel_rfl) rfl #[.agg #[.int .i64 t314, .slice Ao39 t344.length co39], .int .i64 1] rfl (by (try simp only [List.map_toArray, List.map_cons, List.map_nil]); first | done | (rw [show t344.length = t315.length from (Kd.R_reads' HO_322001.out).1.symm] <;> rfl) | rfl | (simp only [List.length_drop, List.length_take]; rfl)) ?_; (with_reducible refine (laws_heldResResult.calls kj65 t314 _ _ t344 1 t347 _ ?side1 ?side2 A94.out).mono ?_); (case side1 => exact lC <| (Kd.R_reads' HO_322001.out).2.2); (case side2 => rw [show t344.length = t315.length from (Kd.R_reads' HO_322001.out).1.symm]; exact (Kd.R_reads' HO_322001.out).2.1); rintro e w110 ⟨rfl, hb⟩; refine ⟨_, rfl, ?_⟩; have n0_ := Aside0.mk (Kd.R_below (by exact lR HO_9.out) hb); have n1_ := Aside0.mk (Kd.R_below (by exact lR HO_14.out) hb); have n2_ := Aside0.mk (Kd.R_below (by exact lR HO_305001.out) hb); have n3_ := Aside0.mk (Kd.R_below (by exact lR HO_322001.out) hb); have n4_ := Aside0.mk (blk_below (g := gb304) (o := .cells #[.int .i64 t297, .slice Ao28 t298.length co28] 26 (0, 0)) (by exact lK BK304.out) hb); have n5_ := Aside0.mk (blk_below (g := gb321) (o := .cells #[.int .i64 t314, .slice Ao39 t315.length co39] 26 (0, 0)) (by exact lK BK321.out) hb); have n6_ := Aside0.mk (below_step (by repeat (first | (with_reducible first | exact HB.out | apply below_alloc | apply pw_below_drewN | apply below_drew1 | refine below_set ?_ GE304.out | refine below_set ?_ GE321.out) | exact HB.out)) hb); clear HO_9; clear HO_14; clear HO_305001; clear HO_322001; clear BK304; clear BK321; clear HB; have HO_9 := n0_; have HO_14 := n1_; have HO_305001 := n2_; have HO_322001 := n3_; have BK304 := n4_; have BK321 := n5_; have HB := n6_; clear n0_ n1_ n2_ n3_ n4_ n5_ n6_; (try clear hb); (try clear hb2); (try clear hk); (try clear hi)) | ((with_reducible refine gate_callee (f := 16) rfl ?_); refine goesL_ (some 115) rfl rfl Try.func16 (by kernel_rfl) rfl #[.slice Ao107 t346.length co107, .int .i64 t347] rfl (by (try simp only [List.map_toArray, List.map_cons, List.map_nil]); first | done | (rw [show t346.length = t318.length from (Kd.R_reads' HO_14.out).1.symm] <;> rfl) | rfl | (simp only [List.length_drop, List.length_take]; rfl)) ?_; (with_reducible refine (laws_heldIntS.calls kj65 _ _ t346 t347 t348 _ ?side1 ?side2 A96.out).mono ?_); (case side1 => exact lC <| (Kd.R_reads' HO_14.out).2.2); (case side2 => rw [show t346.length = t318.length from (Kd.R_reads' HO_14.out).1.symm]; exact (Kd.R_reads' HO_14.out).2.1); rintro e w' ⟨rfl, ⟨nd, rfl⟩⟩; refine ⟨_, rfl, ?_⟩; (try (rw [drewN_self w110]; generalize hq_ : World.drewN w110 _ = w110; have n0_ : Aside0 (Kd.R (Kd.int .i64) 3 w110 w.heap.size (fun k_ => (some k_ ≠ (v302 : Value).ownBlock ∧ (some k_ ≠ (.slice Ao28 t298.length co28 : Value).ownBlock ∧ some k_ ≠ (.slice Ao39 t315.length co39 : Value).ownBlock))) (.slice Ao107 t318.length co107) t346) := ⟨by rw [← hq_]; exact (by exact lR HO_14.out)⟩; have n1_ : Aside0 (Kd.R (Kd.int .i64) 3 w110 w.heap.size (fun k_ => (some k_ ≠ (v302 : Value).ownBlock ∧ (some k_ ≠ (.slice Ao107 t318.length co107 : Value).ownBlock ∧ some k_ ≠ (.slice Ao39 t315.length co39 : Value).ownBlock))) (.slice Ao28 t298.length co28) t298) := ⟨by rw [← hq_]; exact (by exact lR HO_305001.out)⟩; have n2_ : Aside0 (Kd.R (Kd.int .i64) 3 w110 w.heap.size (fun k_ => (some k_ ≠ (v302 : Value).ownBlock ∧ (some k_ ≠ (.slice Ao107 t318.length co107 : Value).ownBlock ∧ some k_ ≠ (.slice Ao28 t298.length co28 : Value).ownBlock))) (.slice Ao39 t315.length co39) t344) := ⟨by rw [← hq_]; exact (by exact lR HO_322001.out)⟩; have n3_ : Aside0 (Kd.R (Kd.int .i64) 3 w110 w.heap.size (fun k_ => (some k_ ≠ (.slice Ao107 t318.length co107 : Value).ownBlock ∧ (some k_ ≠ (.slice Ao28 t298.length co28 : Value).ownBlock ∧ some k_ ≠ (.slice Ao39 t315.length co39 : Value).ownBlock))) v302 t301) := ⟨by rw [← hq_]; exact (by exact lR HO_9.out)⟩; have n4_ : Aside0 (w110.heap[gb304]? = some (.cells #[.int .i64 t297, .slice Ao28 t298.length co28] 26 (0, 0))) := ⟨by rw [← hq_]; exact (by exact lK BK304.out)⟩; have n5_ : Aside0 (w110.heap[gb321]? = some (.cells #[.int .i64 t314, .slice Ao39 t315.length co39] 26 (0, 0))) := ⟨by rw [← hq_]; exact (by exact lK BK321.out)⟩; have n6_ : Aside0 (Below w.heap.size w w110) := ⟨by rw [← hq_]; exact (by repeat (first | (with_reducible first | exact HB.out | apply below_alloc | apply pw_below_drewN | apply below_drew1 | refine below_set ?_ GE304.out | refine below_set ?_ GE321.out) | exact HB.out))⟩; clear HO_14 HO_305001 HO_322001 HO_9 BK304 BK321 HB hq_; have HO_14 := n0_; have HO_305001 := n1_; have HO_322001 := n2_; have HO_9 := n3_; have BK304 := n4_; have BK321 := n5_; have HB := n6_; clear n0_ n1_ n2_ n3_ n4_ n5_ n6_))) | ((with_reducible refine gate_callee (f := 6) rfl ?_); refine goesL_ (some 123) rfl rfl Try.func6 (by kernel_rfl) rfl #[.slice A0 l0.length c0] rfl (by (try simp only [List.map_toArray, List.map_cons, List.map_nil]); first | done | rfl | (simp only [List.length_drop, List.length_take]; rfl)) ?_; (with_reducible refine (laws_toActLineS.calls kj65 _ _ l0 t349 _ ?side1 ?side2 A99.out).mono ?_); (case side1 => exact lC <| (Kd.C_below HR0.out HB.out)); (case side2 => exact HC0.out); rintro e w111 ⟨v350, rfl, ho0, hb⟩; refine ⟨_, rfl, ?_⟩; have n0_ := Aside0.mk (Kd.R_below (by exact lR HO_9.out) hb); have n1_ := Aside0.mk (Kd.R_below (by exact lR HO_14.out) hb); have n2_ := Aside0.mk (Kd.R_below (by exact lR HO_305001.out) hb); have n3_ := Aside0.mk (Kd.R_below (by exact lR HO_322001.out) hb); have n4_ := Aside0.mk (Kd.S_lower (Kd.S_new' (Kd.S_new' (Kd.S_new' (Kd.S_new' ho0 (Kd.R_lt (by exact lR HO_9.out))) (Kd.R_lt (by exact lR HO_14.out))) (Kd.R_lt (by exact lR HO_305001.out))) (Kd.R_lt (by exact lR HO_322001.out))) (below_size (by repeat (first | (with_reducible first | exact HB.out | apply below_alloc | apply pw_below_drewN | apply below_drew1 | refine below_set ?_ GE304.out | refine below_set ?_ GE321.out) | exact HB.out)))); have n5_ := Aside0.mk (blk_below (g := gb304) (o := .cells #[.int .i64 t297, .slice Ao28 t298.length co28] 26 (0, 0)) (by exact lK BK304.out) hb); have n6_ := Aside0.mk (blk_below (g := gb321) (o := .cells #[.int .i64 t314, .slice Ao39 t315.length co39] 26 (0, 0)) (by exact lK BK321.out) hb); have n7_ := Aside0.mk (below_step (by repeat (first | (with_reducible first | exact HB.out | apply below_alloc | apply pw_below_drewN | apply below_drew1 | refine below_set ?_ GE304.out | refine below_set ?_ GE321.out) | exact HB.out)) hb); clear HO_9; clear HO_14; clear HO_305001; clear HO_322001; clear BK304; clear BK321; clear HB; have HO_9 := n0_; have HO_14 := n1_; have HO_305001 := n2_; have HO_322001 := n3_; have HO351 := n4_; have BK304 := n5_; have BK321 := n6_; have HB := n7_; clear n0_ n1_ n2_ n3_ n4_ n5_ n6_ n7_; (try clear hb); (try clear hb2); (try clear hk); (try clear hi); (try clear ho0)) | ((with_reducible refine gate_callee (f := 7) rfl ?_); refine goesL_ (some 125) rfl rfl Try.func7 (by kernel_rfl) rfl #[.slice A1 l1.length c1] rfl (by (try simp only [List.map_toArray, List.map_cons, List.map_nil]); first | done | rfl | (simp only [List.length_drop, List.length_take]; rfl)) ?_; (with_reducible refine (laws_toIntS.calls kj65 _ _ l1 t352 _ ?side1 ?side2 A100.out).mono ?_); (case side1 => exact lC <| (Kd.C_below HR1.out HB.out)); (case side2 => exact HC1.out); rintro e w112 ⟨v353, rfl, ho0, hb⟩; refine ⟨_, rfl, ?_⟩; have n0_ := Aside0.mk (Kd.R_elder' (by exact lR HO_9.out) (Kd.R_base ho0) hb); have n1_ := Aside0.mk (Kd.R_elder' (by exact lR HO_14.out) (Kd.R_base ho0) hb); have n2_ := Aside0.mk (Kd.R_elder' (by exact lR HO_305001.out) (Kd.R_base ho0) hb); have n3_ := Aside0.mk (Kd.R_elder' (by exact lR HO_322001.out) (Kd.R_base ho0) hb); have n4_ := Aside0.mk (Kd.S_elder' (by exact lS HO351.out) (Kd.R_base ho0) hb); have n5_ := Aside0.mk (Kd.R_lower (Kd.R_new' (Kd.R_new' (Kd.R_new' (Kd.R_new' ho0 (Kd.R_lt (by exact lR HO_9.out))) (Kd.R_lt (by exact lR HO_14.out))) (Kd.R_lt (by exact lR HO_305001.out))) (Kd.R_lt (by exact lR HO_322001.out))) (below_size (by repeat (first | (with_reducible first | exact HB.out | apply below_alloc | apply pw_below_drewN | apply below_drew1 | refine below_set ?_ GE304.out | refine below_set ?_ GE321.out) | exact HB.out)))); have n6_ := Aside0.mk (blk_below (g := gb304) (o := .cells #[.int .i64 t297, .slice Ao28 t298.length co28] 26 (0, 0)) (by exact lK BK304.out) hb); have n7_ := Aside0.mk (blk_below (g := gb321) (o := .cells #[.int .i64 t314, .slice Ao39 t315.length co39] 26 (0, 0)) (by exact lK BK321.out) hb); have n8_ := Aside0.mk (below_step (by repeat (first | (with_reducible first | exact HB.out | apply below_alloc | apply pw_below_drewN | apply below_drew1 | refine below_set ?_ GE304.out | refine below_set ?_ GE321.out) | exact HB.out)) hb); clear HO_9; clear HO_14; clear HO_305001; clear HO_322001; clear HO351; clear BK304; clear BK321; clear HB; have HO_9 := n0_; have HO_14 := n1_; have HO_305001 := n2_; have HO_322001 := n3_; have HO351 := n4_; have HO354 := n5_; have BK304 := n6_; have BK321 := n7_; have HB := n8_; clear n0_ n1_ n2_ n3_ n4_ n5_ n6_ n7_ n8_; (try clear hb); (try clear hb2); (try clear hk); (try clear hi); (try clear ho0)) | ((with_reducible refine gate_callee (f := 7) rfl ?_); refine goesL_ (some 127) rfl rfl Try.func7 (by kernel_rfl) rfl #[.slice A2 l2.length c2] rfl (by (try simp only [List.map_toArray, List.map_cons, List.map_nil]); first | done | rfl | (simp only [List.length_drop, List.length_take]; rfl)) ?_; (with_reducible refine (laws_toIntS.calls kj65 _ _ l2 t355 _ ?side1 ?side2 A101.out).mono ?_); (case side1 => exact lC <| (Kd.C_below HR2.out HB.out)); (case side2 => exact HC2.out); rintro e w113 ⟨v356, rfl, ho0, hb⟩; refine ⟨_, rfl, ?_⟩; have n0_ := Aside0.mk (Kd.R_elder' (by exact lR HO_9.out) (Kd.R_base ho0) hb); have n1_ := Aside0.mk (Kd.R_elder' (by exact lR HO_14.out) (Kd.R_base ho0) hb); have n2_ := Aside0.mk (Kd.R_elder' (by exact lR HO_305001.out) (Kd.R_base ho0) hb); have n3_ := Aside0.mk (Kd.R_elder' (by exact lR HO_322001.out) (Kd.R_base ho0) hb); have n4_ := Aside0.mk (Kd.S_elder' (by exact lS HO351.out) (Kd.R_base ho0) hb); have n5_ := Aside0.mk (Kd.R_elder' (by exact lR HO354.out) (Kd.R_base ho0) hb); have n6_ := Aside0.mk (Kd.R_lower (Kd.R_new' (Kd.R_new' (Kd.R_new' (Kd.R_new' (Kd.R_new' ho0 (Kd.R_lt (by exact lR HO_9.out))) (Kd.R_lt (by exact lR HO_14.out))) (Kd.R_lt (by exact lR HO_305001.out))) (Kd.R_lt (by exact lR HO_322001.out))) (Kd.R_lt (by exact lR HO354.out))) (below_size (by repeat (first | (with_reducible first | exact HB.out | apply below_alloc | apply pw_below_drewN | apply below_drew1 | refine below_set ?_ GE304.out | refine below_set ?_ GE321.out) | exact HB.out)))); have n7_ := Aside0.mk (blk_below (g := gb304) (o := .cells #[.int .i64 t297, .slice Ao28 t298.length co28] 26 (0, 0)) (by exact lK BK304.out) hb); have n8_ := Aside0.mk (blk_below (g := gb321) (o := .cells #[.int .i64 t314, .slice Ao39 t315.length co39] 26 (0, 0)) (by exact lK BK321.out) hb); have n9_ := Aside0.mk (below_step (by repeat (first | (with_reducible first | exact HB.out | apply below_alloc | apply pw_below_drewN | apply below_drew1 | refine below_set ?_ GE304.out | refine below_set ?_ GE321.out) | exact HB.out)) hb); clear HO_9; clear HO_14; clear HO_305001; clear HO_322001; clear HO351; clear HO354; clear BK304; clear BK321; clear HB; have HO_9 := n0_; have HO_14 := n1_; have HO_305001 := n2_; have HO_322001 := n3_; have HO351 := n4_; have HO354 := n5_; have HO357 := n6_; have BK304 := n7_; have BK321 := n8_; have HB := n9_; clear n0_ n1_ n2_ n3_ n4_ n5_ n6_ n7_ n8_ n9_; (try clear hb); (try clear hb2); (try clear hk); (try clear hi); (try clear ho0); obtain ⟨Ao114, co114, eo114⟩ := Kd.S_slice HO351.out; subst eo114; obtain ⟨Ao115, co115, eo115⟩ := Kd.R_slice HO354.out; subst eo115; obtain ⟨Ao116, co116, eo116⟩ := Kd.R_slice HO357.out; subst eo116) | ((with_reducible refine gate_callee (f := 8) rfl ?_); refine goesL_ (some 128) rfl rfl Try.func8 (by kernel_rfl) rfl #[.slice Ao114 t349.length co114, .slice Ao115 t352.length co115, .slice Ao116 t355.length co116] rfl (by (try simp only [List.map_toArray, List.map_cons, List.map_nil]); first | done | rfl | (simp only [List.length_drop, List.length_take]; rfl)) ?_; (with_reducible refine (impl_ActRun.calls kj65 _ _ t349 _ _ t352 _ _ t355 t358 t359 t362 _ ?side1 ?side2 ?side3 ?side4 ?side5 ?side6 A102.out).mono ?_); (case side1 => exact lC <| (Kd.S_reads' HO351.out).2.2); (case side2 => exact (Kd.S_reads' HO351.out).2.1); (case side3 => exact lC <| (Kd.R_reads' HO354.out).2.2); (case side4 => exact (Kd.R_reads' HO354.out).2.1); (case side5 => exact lC <| (Kd.R_reads' HO357.out).2.2); (case side6 => exact (Kd.R_reads' HO357.out).2.1); rintro e w117 ⟨v360, v363, rfl, ho0, ho1, hb⟩; refine ⟨_, rfl, ?_⟩; have n0_ := Aside0.mk (Kd.R_mono (Kd.R_told (Kd.R_told (Kd.R_old (by exact lR HO_9.out) hb) (Kd.R_base ho0)) (Kd.R_base ho1)) (fun _ h_ => h_.1)); have n1_ := Aside0.mk (Kd.R_mono (Kd.R_told (Kd.R_told (Kd.R_old (by exact lR HO_14.out) hb) (Kd.R_base ho0)) (Kd.R_base ho1)) (fun _ h_ => h_.1)); have n2_ := Aside0.mk (Kd.R_mono (Kd.R_told (Kd.R_told (Kd.R_old (by exact lR HO_305001.out) hb) (Kd.R_base ho0)) (Kd.R_base ho1)) (fun _ h_ => h_.1)); have n3_ := Aside0.mk (Kd.R_mono (Kd.R_told (Kd.R_told (Kd.R_old (by exact lR HO_322001.out) hb) (Kd.R_base ho0)) (Kd.R_base ho1)) (fun _ h_ => h_.1)); have n4_ := Aside0.mk (Kd.S_mono (Kd.S_told (Kd.S_told (Kd.S_old (by exact lS HO351.out) hb) (Kd.R_base ho0)) (Kd.R_base ho1)) (fun _ h_ => h_.1)); have n5_ := Aside0.mk (Kd.R_mono (Kd.R_told (Kd.R_told (Kd.R_old (by exact lR HO354.out) hb) (Kd.R_base ho0)) (Kd.R_base ho1)) (fun _ h_ => h_.1)); have n6_ := Aside0.mk (Kd.R_mono (Kd.R_told (Kd.R_told (Kd.R_old (by exact lR HO357.out) hb) (Kd.R_base ho0)) (Kd.R_base ho1)) (fun _ h_ => h_.1)); have n7_ := Aside0.mk (Kd.R_lower (Kd.R_new' (Kd.R_new' (Kd.R_new' (Kd.R_new' (Kd.R_new' (Kd.R_new' ho0 (Kd.R_lt (by exact lR HO_9.out))) (Kd.R_lt (by exact lR HO_14.out))) (Kd.R_lt (by exact lR HO_305001.out))) (Kd.R_lt (by exact lR HO_322001.out))) (Kd.R_lt (by exact lR HO354.out))) (Kd.R_lt (by exact lR HO357.out))) (below_size (by repeat (first | (with_reducible first | exact HB.out | apply below_alloc | apply pw_below_drewN | apply below_drew1 | refine below_set ?_ GE304.out | refine below_set ?_ GE321.out) | exact HB.out)))); have n8_ := Aside0.mk (Kd.R_lower (Kd.R_new' (Kd.R_new' (Kd.R_new' (Kd.R_new' (Kd.R_new' (Kd.R_new' ho1 (Kd.R_lt (by exact lR HO_9.out))) (Kd.R_lt (by exact lR HO_14.out))) (Kd.R_lt (by exact lR HO_305001.out))) (Kd.R_lt (by exact lR HO_322001.out))) (Kd.R_lt (by exact lR HO354.out))) (Kd.R_lt (by exact lR HO357.out))) (below_size (by repeat (first | (with_reducible first | exact HB.out | apply below_alloc | apply pw_below_drewN | apply below_drew1 | refine below_set ?_ GE304.out | refine below_set ?_ GE321.out) | exact HB.out)))); have n9_ := Aside0.mk (blk_below (g := gb304) (o := .cells #[.int .i64 t297, .slice Ao28 t298.length co28] 26 (0, 0)) (by exact lK BK304.out) hb); have n10_ := Aside0.mk (blk_below (g := gb321) (o := .cells #[.int .i64 t314, .slice Ao39 t315.length co39] 26 (0, 0)) (by exact lK BK321.out) hb); have n11_ := Aside0.mk (below_step (by repeat (first | (with_reducible first | exact HB.out | apply below_alloc | apply pw_below_drewN | apply below_drew1 | refine below_set ?_ GE304.out | refine below_set ?_ GE321.out) | exact HB.out)) hb); clear HO_9; clear HO_14; clear HO_305001; clear HO_322001; clear HO351; clear HO354; clear HO357; clear BK304; clear BK321; clear HB; have HO_9 := n0_; have HO_14 := n1_; have HO_305001 := n2_; have HO_322001 := n3_; have HO351 := n4_; have HO354 := n5_; have HO357 := n6_; have HO361 := n7_; have HO364 := n8_; have BK304 := n9_; have BK321 := n10_; have HB := n11_; clear n0_ n1_ n2_ n3_ n4_ n5_ n6_ n7_ n8_ n9_ n10_ n11_; (try clear hb); (try clear hb2); (try clear hk); (try clear hi); (try clear ho0); (try clear ho1); have n_ := Aside0.mk (Kd.R_mono (ok' := fun k_ => (((some k_ ≠ (.slice Ao107 t318.length co107 : Value).ownBlock ∧ (some k_ ≠ (.slice Ao28 t298.length co28 : Value).ownBlock ∧ some k_ ≠ (.slice Ao39 t315.length co39 : Value).ownBlock)) ∧ some k_ ≠ (v360 : Value).ownBlock) ∧ some k_ ≠ (v363 : Value).ownBlock)) HO_9.out (fun _ hk => ⟨⟨⟨hk.1.1.1.1.1, ⟨hk.1.1.1.1.2.1, hk.1.1.1.1.2.2⟩⟩, hk.1.2⟩, hk.2⟩)); clear HO_9; have HO_9 := n_; clear n_; have n_ := Aside0.mk (Kd.R_mono (ok' := fun k_ => (((some k_ ≠ (v302 : Value).ownBlock ∧ (some k_ ≠ (.slice Ao28 t298.length co28 : Value).ownBlock ∧ some k_ ≠ (.slice Ao39 t315.length co39 : Value).ownBlock)) ∧ some k_ ≠ (v360 : Value).ownBlock) ∧ some k_ ≠ (v363 : Value).ownBlock)) HO_14.out (fun _ hk => ⟨⟨⟨hk.1.1.1.1.1, ⟨hk.1.1.1.1.2.1, hk.1.1.1.1.2.2⟩⟩, hk.1.2⟩, hk.2⟩)); clear HO_14; have HO_14 := n_; clear n_; have n_ := Aside0.mk (Kd.R_mono (ok' := fun k_ => (((some k_ ≠ (v302 : Value).ownBlock ∧ (some k_ ≠ (.slice Ao107 t318.length co107 : Value).ownBlock ∧ some k_ ≠ (.slice Ao39 t315.length co39 : Value).ownBlock)) ∧ some k_ ≠ (v360 : Value).ownBlock) ∧ some k_ ≠ (v363 : Value).ownBlock)) HO_305001.out (fun _ hk => ⟨⟨⟨hk.1.1.1.1.1, ⟨hk.1.1.1.1.2.1, hk.1.1.1.1.2.2⟩⟩, hk.1.2⟩, hk.2⟩)); clear HO_305001; have HO_305001 := n_; clear n_; have n_ := Aside0.mk (Kd.R_mono (ok' := fun k_ => (((some k_ ≠ (v302 : Value).ownBlock ∧ (some k_ ≠ (.slice Ao107 t318.length co107 : Value).ownBlock ∧ some k_ ≠ (.slice Ao28 t298.length co28 : Value).ownBlock)) ∧ some k_ ≠ (v360 : Value).ownBlock) ∧ some k_ ≠ (v363 : Value).ownBlock)) HO_322001.out (fun _ hk => ⟨⟨⟨hk.1.1.1.1.1, ⟨hk.1.1.1.1.2.1, hk.1.1.1.1.2.2⟩⟩, hk.1.2⟩, hk.2⟩)); clear HO_322001; have HO_322001 := n_; clear n_; have n_ := Aside0.mk (Kd.R_mono (ok' := fun k_ => ((((some k_ ≠ (v363 : Value).ownBlock ∧ some k_ ≠ (v302 : Value).ownBlock) ∧ some k_ ≠ (.slice Ao107 t318.length co107 : Value).ownBlock) ∧ some k_ ≠ (.slice Ao28 t298.length co28 : Value).ownBlock) ∧ some k_ ≠ (.slice Ao39 t315.length co39 : Value).ownBlock)) HO361.out (fun _ hk => ⟨⟨⟨⟨hk.1.1.1.1.1.1, hk.1.1.1.1.1.2⟩, hk.1.1.1.1.2⟩, hk.1.1.1.2⟩, hk.1.1.2⟩)); clear HO361; have HO361 := n_; clear n_; have n_ := Aside0.mk (Kd.R_mono (ok' := fun k_ => ((((some k_ ≠ (v360 : Value).ownBlock ∧ some k_ ≠ (v302 : Value).ownBlock) ∧ some k_ ≠ (.slice Ao107 t318.length co107 : Value).ownBlock) ∧ some k_ ≠ (.slice Ao28 t298.length co28 : Value).ownBlock) ∧ some k_ ≠ (.slice Ao39 t315.length co39 : Value).ownBlock)) HO364.out (fun _ hk => ⟨⟨⟨⟨hk.1.1.1.1.1.1, hk.1.1.1.1.1.2⟩, hk.1.1.1.1.2⟩, hk.1.1.1.2⟩, hk.1.1.2⟩)); clear HO364; have HO364 := n_; clear n_) | ((with_reducible refine gate_dst (N := 18) rfl ?_); refine box_event ?hg (N := 18) ?hd (cs := #[.int .i64 0, .slice none 0 0]) (t := 26) ?hr ?_; (case hd => rfl); (case hg => rfl); (case hr => first | (go_simp; done) | (go_simp; rfl)); intro gb365 hg w118 hbox hb; have n0_ := Aside0.mk (Kd.R_below (by exact lR HO_9.out) hb); have n1_ := Aside0.mk (Kd.R_below (by exact lR HO_14.out) hb); have n2_ := Aside0.mk (Kd.R_below (by exact lR HO_305001.out) hb); have n3_ := Aside0.mk (Kd.R_below (by exact lR HO_322001.out) hb); have n4_ := Aside0.mk (Kd.R_below (by exact lR HO361.out) hb); have n5_ := Aside0.mk (Kd.R_below (by exact lR HO364.out) hb); have n6_ := Aside0.mk (blk_below (g := gb304) (o := .cells #[.int .i64 t297, .slice Ao28 t298.length co28] 26 (0, 0)) (by exact lK BK304.out) hb); have n7_ := Aside0.mk (blk_below (g := gb321) (o := .cells #[.int .i64 t314, .slice Ao39 t315.length co39] 26 (0, 0)) (by exact lK BK321.out) hb); have n8_ := Aside0.mk (below_step (by repeat (first | (with_reducible first | exact HB.out | apply below_alloc | apply pw_below_drewN | apply below_drew1 | refine below_set ?_ GE304.out | refine below_set ?_ GE321.out) | exact HB.out)) hb); have n9_ := Aside0.mk (hbox); have n10_ := Aside0.mk ((by rw [hg]; exact (below_size (by repeat (first | (with_reducible first | exact HB.out | apply below_alloc | apply pw_below_drewN | apply below_drew1 | refine below_set ?_ GE304.out | refine below_set ?_ GE321.out) | exact HB.out))) : w.heap.size ≤ gb365)); have n11_ := Aside0.mk ((by rw [hg]; exact (below_size (by repeat (first | (with_reducible first | exact HB.out | apply below_alloc | apply pw_below_drewN | apply below_drew1 | refine below_set ?_ GE304.out | refine below_set ?_ GE321.out) | exact HB.out))) : w.heap.size ≤ gb365)); have n12_ := Aside0.mk ((by rw [hg]; exact Nat.ne_of_lt (blk_lt (g := gb304) (o := .cells #[.int .i64 t297, .slice Ao28 t298.length co28] 26 (0, 0)) (by exact lK BK304.out)) : gb304 ≠ gb365)); have n13_ := Aside0.mk ((by rw [hg]; exact Nat.ne_of_gt (blk_lt (g := gb304) (o := .cells #[.int .i64 t297, .slice Ao28 t298.length co28] 26 (0, 0)) (by exact lK BK304.out)) : gb365 ≠ gb304)); have n14_ := Aside0.mk ((by rw [hg]; exact Nat.ne_of_lt (blk_lt (g := gb321) (o := .cells #[.int .i64 t314, .slice Ao39 t315.length co39] 26 (0, 0)) (by exact lK BK321.out)) : gb321 ≠ gb365)); have n15_ := Aside0.mk ((by rw [hg]; exact Nat.ne_of_gt (blk_lt (g := gb321) (o := .cells #[.int .i64 t314, .slice Ao39 t315.length co39] 26 (0, 0)) (by exact lK BK321.out)) : gb365 ≠ gb321)); clear HO_9; clear HO_14; clear HO_305001; clear HO_322001; clear HO361; clear HO364; clear BK304; clear BK321; clear HB; have HO_9 := n0_; have HO_14 := n1_; have HO_305001 := n2_; have HO_322001 := n3_; have HO361 := n4_; have HO364 := n5_; have BK304 := n6_; have BK321 := n7_; have HB := n8_; have BK365 := n9_; have GW365 := n10_; have GE365 := n11_; have NB304_365 := n12_; have NB365_304 := n13_; have NB321_365 := n14_; have NB365_321 := n15_; clear n0_ n1_ n2_ n3_ n4_ n5_ n6_ n7_ n8_ n9_ n10_ n11_ n12_ n13_ n14_ n15_; clear hb hbox hg; have hnb119 := NB365_304.out; have hnc119 := NB304_365.out; have hnb120 := NB365_321.out; have hnc120 := NB321_365.out; have hcz121_0 : w118.cell? ⟨gb365, 0, none⟩ = some (.int .i64 0) := (blk_cell BK365.out 0).trans rfl; have hcz121_1 : w118.cell? ⟨gb365, 1, none⟩ = some (.slice none 0 0) := (blk_cell BK365.out 1).trans rfl; have hfz121_0 := blk_frozen BK365.out 0; have hfz121_1 := blk_frozen BK365.out 1; obtain ⟨Ao122, co122, eo122⟩ := Kd.R_slice HO361.out; subst eo122))
                                (try simp only [Act.put, List.setIfInBounds_toArray, List.set_cons_zero, List.set_cons_succ])
                                go_cut [140] (fun v140 wc => ∃ (kq : Nat) (x140_102 : Bool), v140 = .bool x140_102 ∧ Aside0 (laws_FnExactActRun.j2 kq t346 t345 x140_102 t314 t344 = some r) ∧ Aside0 (kq ≤ kj65) ∧ Aside0 (Kd.R (Kd.int .i64) 3 wc w.heap.size (fun k_ => some k_ ≠ ((.slice Ao28 t298.length co28) : Value).ownBlock ∧ some k_ ≠ ((.slice Ao39 t315.length co39) : Value).ownBlock ∧ some k_ ≠ ((.slice Ao122 t359.length co122) : Value).ownBlock) (.slice Ao107 t318.length co107) t346) ∧ Aside0 (Kd.R (Kd.int .i64) 3 wc w.heap.size (fun k_ => some k_ ≠ ((.slice Ao107 t318.length co107) : Value).ownBlock ∧ some k_ ≠ ((.slice Ao39 t315.length co39) : Value).ownBlock ∧ some k_ ≠ ((.slice Ao122 t359.length co122) : Value).ownBlock) (.slice Ao28 t298.length co28) t298) ∧ Aside0 (Kd.R (Kd.int .i64) 3 wc w.heap.size (fun k_ => some k_ ≠ ((.slice Ao107 t318.length co107) : Value).ownBlock ∧ some k_ ≠ ((.slice Ao28 t298.length co28) : Value).ownBlock ∧ some k_ ≠ ((.slice Ao122 t359.length co122) : Value).ownBlock) (.slice Ao39 t315.length co39) t344) ∧ Aside0 (Kd.R (Kd.int .i64) 3 wc w.heap.size (fun k_ => some k_ ≠ ((.slice Ao107 t318.length co107) : Value).ownBlock ∧ some k_ ≠ ((.slice Ao28 t298.length co28) : Value).ownBlock ∧ some k_ ≠ ((.slice Ao39 t315.length co39) : Value).ownBlock) (.slice Ao122 t359.length co122) t359) ∧ Aside0 (wc.heap[gb304]? = some (.cells #[.int .i64 t297, (.slice Ao28 t298.length co28)] 26 (0, 0))) ∧ Aside0 (wc.heap[gb321]? = some (.cells #[.int .i64 t314, (.slice Ao39 t315.length co39)] 26 (0, 0))) ∧ Aside0 (wc.heap[gb365]? = some (.cells #[.int .i64 t358, (.slice Ao122 t359.length co122)] 26 (0, 0))) ∧ Aside0 (Below w.heap.size w wc))
                                case first =>
                                  have H := HC103.out
                                  clear HC103
                                  replace H := Option.bind_eq_some_iff.mp H
                                  obtain ⟨t366, A1230, H⟩ := H
                                  replace H : (if t366 = true then ((laws_eqIntS.f kj65 t362 t301).bind fun t367 => (laws_FnExactActRun.j2 kj65 t346 t345 (!t367) t314 t344)) else (laws_FnExactActRun.j2 kj65 t346 t345 true t314 t344)) = some r := H
                                  have A123 := Aside0.mk A1230
                                  clear A1230
                                  by_cases c124 : t366 = true
                                  · subst c124
                                    have H1 : ((laws_eqIntS.f kj65 t362 t301).bind fun t367 => (laws_FnExactActRun.j2 kj65 t346 t345 (!t367) t314 t344)) = some r := by rw [if_pos rfl] at H; exact H
                                    clear H
                                    have H := H1
                                    clear H1
                                    replace H := Option.bind_eq_some_iff.mp H
                                    obtain ⟨t367, A1250, H⟩ := H
                                    replace H : (laws_FnExactActRun.j2 kj65 t346 t345 (!t367) t314 t344) = some r := H
                                    have A125 := Aside0.mk A1250
                                    clear A1250
                                    have H' := Aside0.mk H
                                    clear H
                                    have hnb126 := NB365_304.out
                                    have hnc126 := NB304_365.out
                                    have hnb127 := NB365_321.out
                                    have hnc127 := NB321_365.out
                                    have hcz128_0 : w118.cell? ⟨gb365, 0, none⟩ = some (.int .i64 0) := (blk_cell BK365.out 0).trans rfl
                                    have hcz128_1 : w118.cell? ⟨gb365, 1, none⟩ = some (.slice none 0 0) := (blk_cell BK365.out 1).trans rfl
                                    have hfz128_0 := blk_frozen BK365.out 0
                                    have hfz128_1 := blk_frozen BK365.out 1
                                    have hnb129 := NB304_321.out
                                    have hnc129 := NB321_304.out
                                    have hcz130_0 : w118.cell? ⟨gb304, 0, none⟩ = some (.int .i64 t297) := (blk_cell BK304.out 0).trans rfl
                                    have hcz130_1 : w118.cell? ⟨gb304, 1, none⟩ = some (.slice Ao28 t298.length co28) := (blk_cell BK304.out 1).trans rfl
                                    have hfz130_0 := blk_frozen BK304.out 0
                                    have hfz130_1 := blk_frozen BK304.out 1
                                    go_wp2_with (first | ((with_reducible refine gate_callee (f := 9) rfl ?_); refine goesL_ (some 133) rfl rfl Try.func9 (by kernel_rfl) rfl #[.agg #[.int .i64 t358, .slice Ao122 t359.length co122], .agg #[.int .i64 t297, .slice Ao28 t298.length co28]] rfl (by (try simp only [List.map_toArray, List.map_cons, List.map_nil]); first | done | rfl | (simp only [List.length_drop, List.length_take]; rfl)) ?_; (with_reducible refine (laws_eqResResult.calls kj65 t358 _ _ t359 t297 _ _ t298 true _ ?side1 ?side2 ?side3 ?side4 A123.out).mono ?_); (case side1 => refine (Kd.R_reads' (e := 3) (base := w.heap.size) (ok := fun k_ => ((((some k_ ≠ (v363 : Value).ownBlock ∧ some k_ ≠ (v302 : Value).ownBlock) ∧ some k_ ≠ (.slice Ao107 t318.length co107 : Value).ownBlock) ∧ some k_ ≠ (.slice Ao28 t298.length co28 : Value).ownBlock) ∧ some k_ ≠ (.slice Ao39 t315.length co39 : Value).ownBlock)) (n := t359.length) (c := co122) ?_).2.2; exact (by exact lR <| (Kd.R_mono (Kd.R_far (p := ⟨gb365, 1, none⟩) (Kd.R_far (p := ⟨gb365, 0, none⟩) (Kd.R_types HO361.out BK365.out (by decide)) (fun _ hk => hk.2) (.int .i64 t358)) (fun _ hk => hk.2) (.slice Ao122 t359.length co122)) (fun _ h_ => h_.1)))); (case side2 => exact (Kd.R_reads' HO361.out).2.1); (case side3 => refine (Kd.R_reads' (e := 3) (base := w.heap.size) (ok := fun k_ => (((some k_ ≠ (v302 : Value).ownBlock ∧ (some k_ ≠ (.slice Ao107 t318.length co107 : Value).ownBlock ∧ some k_ ≠ (.slice Ao39 t315.length co39 : Value).ownBlock)) ∧ some k_ ≠ (.slice Ao122 t359.length co122 : Value).ownBlock) ∧ some k_ ≠ (v363 : Value).ownBlock)) (n := t298.length) (c := co28) ?_).2.2; exact (by exact lR <| (Kd.R_mono (Kd.R_far (p := ⟨gb365, 1, none⟩) (Kd.R_far (p := ⟨gb365, 0, none⟩) (Kd.R_types HO_305001.out BK365.out (by decide)) (fun _ hk => hk.2) (.int .i64 t358)) (fun _ hk => hk.2) (.slice Ao122 t359.length co122)) (fun _ h_ => h_.1)))); (case side4 => exact (Kd.R_reads' HO_305001.out).2.1); rintro e w131 ⟨rfl, hb⟩; refine ⟨_, rfl, ?_⟩; have n0_ := Aside0.mk (Kd.R_below (by exact lR <| (Kd.R_mono (Kd.R_far (p := ⟨gb365, 1, none⟩) (Kd.R_far (p := ⟨gb365, 0, none⟩) (Kd.R_types HO_9.out BK365.out (by decide)) (fun _ hk => hk.2) (.int .i64 t358)) (fun _ hk => hk.2) (.slice Ao122 t359.length co122)) (fun _ h_ => h_.1))) hb); have n1_ := Aside0.mk (Kd.R_below (by exact lR <| (Kd.R_mono (Kd.R_far (p := ⟨gb365, 1, none⟩) (Kd.R_far (p := ⟨gb365, 0, none⟩) (Kd.R_types HO_14.out BK365.out (by decide)) (fun _ hk => hk.2) (.int .i64 t358)) (fun _ hk => hk.2) (.slice Ao122 t359.length co122)) (fun _ h_ => h_.1))) hb); have n2_ := Aside0.mk (Kd.R_below (by exact lR <| (Kd.R_mono (Kd.R_far (p := ⟨gb365, 1, none⟩) (Kd.R_far (p := ⟨gb365, 0, none⟩) (Kd.R_types HO_305001.out BK365.out (by decide)) (fun _ hk => hk.2) (.int .i64 t358)) (fun _ hk => hk.2) (.slice Ao122 t359.length co122)) (fun _ h_ => h_.1))) hb); have n3_ := Aside0.mk (Kd.R_below (by exact lR <| (Kd.R_mono (Kd.R_far (p := ⟨gb365, 1, none⟩) (Kd.R_far (p := ⟨gb365, 0, none⟩) (Kd.R_types HO_322001.out BK365.out (by decide)) (fun _ hk => hk.2) (.int .i64 t358)) (fun _ hk => hk.2) (.slice Ao122 t359.length co122)) (fun _ h_ => h_.1))) hb); have n4_ := Aside0.mk (Kd.R_below (by exact lR <| (Kd.R_mono (Kd.R_far (p := ⟨gb365, 1, none⟩) (Kd.R_far (p := ⟨gb365, 0, none⟩) (Kd.R_types HO361.out BK365.out (by decide)) (fun _ hk => hk.2) (.int .i64 t358)) (fun _ hk => hk.2) (.slice Ao122 t359.length co122)) (fun _ h_ => h_.1))) hb); have n5_ := Aside0.mk (Kd.R_below (by exact lR <| (Kd.R_mono (Kd.R_far (p := ⟨gb365, 1, none⟩) (Kd.R_far (p := ⟨gb365, 0, none⟩) (Kd.R_types HO364.out BK365.out (by decide)) (fun _ hk => hk.2) (.int .i64 t358)) (fun _ hk => hk.2) (.slice Ao122 t359.length co122)) (fun _ h_ => h_.1))) hb); have n6_ := Aside0.mk (blk_below (g := gb304) (o := .cells #[.int .i64 t297, .slice Ao28 t298.length co28] 26 (0, 0)) (by (with_reducible repeat (first | refine blk_drewN ?_ _ | refine blk_drew ?_ | refine blk_alloc ?_ _)); refine blk_far ?_ NB304_365.out _; (with_reducible repeat (first | refine blk_drewN ?_ _ | refine blk_drew ?_ | refine blk_alloc ?_ _)); refine blk_far ?_ NB304_365.out _; exact lK BK304.out) hb); have n7_ := Aside0.mk (blk_below (g := gb321) (o := .cells #[.int .i64 t314, .slice Ao39 t315.length co39] 26 (0, 0)) (by (with_reducible repeat (first | refine blk_drewN ?_ _ | refine blk_drew ?_ | refine blk_alloc ?_ _)); refine blk_far ?_ NB321_365.out _; (with_reducible repeat (first | refine blk_drewN ?_ _ | refine blk_drew ?_ | refine blk_alloc ?_ _)); refine blk_far ?_ NB321_365.out _; exact lK BK321.out) hb); have n8_ := Aside0.mk (blk_below (g := gb365) (o := .cells #[.int .i64 t358, .slice Ao122 t359.length co122] 26 (0, 0)) (by (with_reducible repeat (first | refine blk_drewN ?_ _ | refine blk_drew ?_ | refine blk_alloc ?_ _)); refine blk_put (cs := #[.int .i64 t358, .slice none 0 0]) ?_ 1 _ rfl; (with_reducible repeat (first | refine blk_drewN ?_ _ | refine blk_drew ?_ | refine blk_alloc ?_ _)); refine blk_put (cs := #[.int .i64 0, .slice none 0 0]) ?_ 0 _ rfl; exact lK BK365.out) hb); have n9_ := Aside0.mk (below_step (by repeat (first | (with_reducible first | exact HB.out | apply below_alloc | apply pw_below_drewN | apply below_drew1 | refine below_set ?_ (by first | exact GE304.out | exact GE321.out | exact GE365.out)) | exact HB.out)) hb); clear HO_9; clear HO_14; clear HO_305001; clear HO_322001; clear HO361; clear HO364; clear BK304; clear BK321; clear BK365; clear HB; have HO_9 := n0_; have HO_14 := n1_; have HO_305001 := n2_; have HO_322001 := n3_; have HO361 := n4_; have HO364 := n5_; have BK304 := n6_; have BK321 := n7_; have BK365 := n8_; have HB := n9_; clear n0_ n1_ n2_ n3_ n4_ n5_ n6_ n7_ n8_ n9_; (try clear hb); (try clear hb2); (try clear hk); (try clear hi); obtain ⟨Ao132, co132, eo132⟩ := Kd.R_slice HO364.out; subst eo132; obtain ⟨Ao133, co133, eo133⟩ := Kd.R_slice HO_9.out; subst eo133) | (go_at_call 10; (with_reducible refine (laws_eqIntS.calls kj65 _ _ t362 _ _ t301 t367 _ ?side1 ?side2 ?side3 ?side4 A125.out).mono ?_); (case side1 => exact lC <| (Kd.R_reads' HO364.out).2.2); (case side2 => exact (Kd.R_reads' HO364.out).2.1); (case side3 => exact lC <| (Kd.R_reads' HO_9.out).2.2); (case side4 => exact (Kd.R_reads' HO_9.out).2.1); rintro e w' ⟨rfl, ⟨nd, rfl⟩⟩))
                                    go_meet
                                    case rel => exact ⟨_, (!t367), (by first | rfl | (simp; done) | (simp [*]; done)), H', ⟨by have := HJ16.out; have := HJ65.out; first | omega | exact Nat.le_refl _⟩, ⟨by exact lR <| Kd.R_mono HO_14.out (fun _ hk => ⟨hk.1.1.2.1, ⟨hk.1.1.2.2, hk.1.2⟩⟩)⟩, ⟨by exact lR <| Kd.R_mono HO_305001.out (fun _ hk => ⟨hk.1.1.2.1, ⟨hk.1.1.2.2, hk.1.2⟩⟩)⟩, ⟨by exact lR <| Kd.R_mono HO_322001.out (fun _ hk => ⟨hk.1.1.2.1, ⟨hk.1.1.2.2, hk.1.2⟩⟩)⟩, ⟨by exact lR <| Kd.R_mono HO361.out (fun _ hk => ⟨hk.1.1.2, ⟨hk.1.2, hk.2⟩⟩)⟩, ⟨by exact lK <| BK304.out⟩, ⟨by exact lK <| BK321.out⟩, ⟨by exact lK <| BK365.out⟩, ⟨by repeat (first | (with_reducible first | exact HB.out | apply below_alloc | apply pw_below_drewN | apply below_drew1 | refine below_set ?_ (by first | exact GE304.out | exact GE321.out | exact GE365.out)) | exact HB.out)⟩⟩
                                  · replace c124 := Bool.eq_false_iff.mpr c124
                                    subst c124
                                    have H1 : (laws_FnExactActRun.j2 kj65 t346 t345 true t314 t344) = some r := by rw [if_neg (show ¬ (false = true) by decide)] at H; exact H
                                    clear H
                                    have H := H1
                                    clear H1
                                    have H' := Aside0.mk H
                                    clear H
                                    have hnb134 := NB365_304.out
                                    have hnc134 := NB304_365.out
                                    have hnb135 := NB365_321.out
                                    have hnc135 := NB321_365.out
                                    have hcz136_0 : w118.cell? ⟨gb365, 0, none⟩ = some (.int .i64 0) := (blk_cell BK365.out 0).trans rfl
                                    have hcz136_1 : w118.cell? ⟨gb365, 1, none⟩ = some (.slice none 0 0) := (blk_cell BK365.out 1).trans rfl
                                    have hfz136_0 := blk_frozen BK365.out 0
                                    have hfz136_1 := blk_frozen BK365.out 1
                                    have hnb137 := NB304_321.out
                                    have hnc137 := NB321_304.out
                                    have hcz138_0 : w118.cell? ⟨gb304, 0, none⟩ = some (.int .i64 t297) := (blk_cell BK304.out 0).trans rfl
                                    have hcz138_1 : w118.cell? ⟨gb304, 1, none⟩ = some (.slice Ao28 t298.length co28) := (blk_cell BK304.out 1).trans rfl
                                    have hfz138_0 := blk_frozen BK304.out 0
                                    have hfz138_1 := blk_frozen BK304.out 1
                                    go_wp2_with (first | ((with_reducible refine gate_callee (f := 9) rfl ?_); refine goesL_ (some 133) rfl rfl Try.func9 (by kernel_rfl) rfl #[.agg #[.int .i64 t358, .slice Ao122 t359.length co122], .agg #[.int .i64 t297, .slice Ao28 t298.length co28]] rfl (by (try simp only [List.map_toArray, List.map_cons, List.map_nil]); first | done | rfl | (simp only [List.length_drop, List.length_take]; rfl)) ?_; (with_reducible refine (laws_eqResResult.calls kj65 t358 _ _ t359 t297 _ _ t298 false _ ?side1 ?side2 ?side3 ?side4 A123.out).mono ?_); (case side1 => refine (Kd.R_reads' (e := 3) (base := w.heap.size) (ok := fun k_ => ((((some k_ ≠ (v363 : Value).ownBlock ∧ some k_ ≠ (v302 : Value).ownBlock) ∧ some k_ ≠ (.slice Ao107 t318.length co107 : Value).ownBlock) ∧ some k_ ≠ (.slice Ao28 t298.length co28 : Value).ownBlock) ∧ some k_ ≠ (.slice Ao39 t315.length co39 : Value).ownBlock)) (n := t359.length) (c := co122) ?_).2.2; exact (by exact lR <| (Kd.R_mono (Kd.R_far (p := ⟨gb365, 1, none⟩) (Kd.R_far (p := ⟨gb365, 0, none⟩) (Kd.R_types HO361.out BK365.out (by decide)) (fun _ hk => hk.2) (.int .i64 t358)) (fun _ hk => hk.2) (.slice Ao122 t359.length co122)) (fun _ h_ => h_.1)))); (case side2 => exact (Kd.R_reads' HO361.out).2.1); (case side3 => refine (Kd.R_reads' (e := 3) (base := w.heap.size) (ok := fun k_ => (((some k_ ≠ (v302 : Value).ownBlock ∧ (some k_ ≠ (.slice Ao107 t318.length co107 : Value).ownBlock ∧ some k_ ≠ (.slice Ao39 t315.length co39 : Value).ownBlock)) ∧ some k_ ≠ (.slice Ao122 t359.length co122 : Value).ownBlock) ∧ some k_ ≠ (v363 : Value).ownBlock)) (n := t298.length) (c := co28) ?_).2.2; exact (by exact lR <| (Kd.R_mono (Kd.R_far (p := ⟨gb365, 1, none⟩) (Kd.R_far (p := ⟨gb365, 0, none⟩) (Kd.R_types HO_305001.out BK365.out (by decide)) (fun _ hk => hk.2) (.int .i64 t358)) (fun _ hk => hk.2) (.slice Ao122 t359.length co122)) (fun _ h_ => h_.1)))); (case side4 => exact (Kd.R_reads' HO_305001.out).2.1); rintro e w139 ⟨rfl, hb⟩; refine ⟨_, rfl, ?_⟩; have n0_ := Aside0.mk (Kd.R_below (by exact lR <| (Kd.R_mono (Kd.R_far (p := ⟨gb365, 1, none⟩) (Kd.R_far (p := ⟨gb365, 0, none⟩) (Kd.R_types HO_9.out BK365.out (by decide)) (fun _ hk => hk.2) (.int .i64 t358)) (fun _ hk => hk.2) (.slice Ao122 t359.length co122)) (fun _ h_ => h_.1))) hb); have n1_ := Aside0.mk (Kd.R_below (by exact lR <| (Kd.R_mono (Kd.R_far (p := ⟨gb365, 1, none⟩) (Kd.R_far (p := ⟨gb365, 0, none⟩) (Kd.R_types HO_14.out BK365.out (by decide)) (fun _ hk => hk.2) (.int .i64 t358)) (fun _ hk => hk.2) (.slice Ao122 t359.length co122)) (fun _ h_ => h_.1))) hb); have n2_ := Aside0.mk (Kd.R_below (by exact lR <| (Kd.R_mono (Kd.R_far (p := ⟨gb365, 1, none⟩) (Kd.R_far (p := ⟨gb365, 0, none⟩) (Kd.R_types HO_305001.out BK365.out (by decide)) (fun _ hk => hk.2) (.int .i64 t358)) (fun _ hk => hk.2) (.slice Ao122 t359.length co122)) (fun _ h_ => h_.1))) hb); have n3_ := Aside0.mk (Kd.R_below (by exact lR <| (Kd.R_mono (Kd.R_far (p := ⟨gb365, 1, none⟩) (Kd.R_far (p := ⟨gb365, 0, none⟩) (Kd.R_types HO_322001.out BK365.out (by decide)) (fun _ hk => hk.2) (.int .i64 t358)) (fun _ hk => hk.2) (.slice Ao122 t359.length co122)) (fun _ h_ => h_.1))) hb); have n4_ := Aside0.mk (Kd.R_below (by exact lR <| (Kd.R_mono (Kd.R_far (p := ⟨gb365, 1, none⟩) (Kd.R_far (p := ⟨gb365, 0, none⟩) (Kd.R_types HO361.out BK365.out (by decide)) (fun _ hk => hk.2) (.int .i64 t358)) (fun _ hk => hk.2) (.slice Ao122 t359.length co122)) (fun _ h_ => h_.1))) hb); have n5_ := Aside0.mk (Kd.R_below (by exact lR <| (Kd.R_mono (Kd.R_far (p := ⟨gb365, 1, none⟩) (Kd.R_far (p := ⟨gb365, 0, none⟩) (Kd.R_types HO364.out BK365.out (by decide)) (fun _ hk => hk.2) (.int .i64 t358)) (fun _ hk => hk.2) (.slice Ao122 t359.length co122)) (fun _ h_ => h_.1))) hb); have n6_ := Aside0.mk (blk_below (g := gb304) (o := .cells #[.int .i64 t297, .slice Ao28 t298.length co28] 26 (0, 0)) (by (with_reducible repeat (first | refine blk_drewN ?_ _ | refine blk_drew ?_ | refine blk_alloc ?_ _)); refine blk_far ?_ NB304_365.out _; (with_reducible repeat (first | refine blk_drewN ?_ _ | refine blk_drew ?_ | refine blk_alloc ?_ _)); refine blk_far ?_ NB304_365.out _; exact lK BK304.out) hb); have n7_ := Aside0.mk (blk_below (g := gb321) (o := .cells #[.int .i64 t314, .slice Ao39 t315.length co39] 26 (0, 0)) (by (with_reducible repeat (first | refine blk_drewN ?_ _ | refine blk_drew ?_ | refine blk_alloc ?_ _)); refine blk_far ?_ NB321_365.out _; (with_reducible repeat (first | refine blk_drewN ?_ _ | refine blk_drew ?_ | refine blk_alloc ?_ _)); refine blk_far ?_ NB321_365.out _; exact lK BK321.out) hb); have n8_ := Aside0.mk (blk_below (g := gb365) (o := .cells #[.int .i64 t358, .slice Ao122 t359.length co122] 26 (0, 0)) (by (with_reducible repeat (first | refine blk_drewN ?_ _ | refine blk_drew ?_ | refine blk_alloc ?_ _)); refine blk_put (cs := #[.int .i64 t358, .slice none 0 0]) ?_ 1 _ rfl; (with_reducible repeat (first | refine blk_drewN ?_ _ | refine blk_drew ?_ | refine blk_alloc ?_ _)); refine blk_put (cs := #[.int .i64 0, .slice none 0 0]) ?_ 0 _ rfl; exact lK BK365.out) hb); have n9_ := Aside0.mk (below_step (by repeat (first | (with_reducible first | exact HB.out | apply below_alloc | apply pw_below_drewN | apply below_drew1 | refine below_set ?_ (by first | exact GE304.out | exact GE321.out | exact GE365.out)) | exact HB.out)) hb); clear HO_9; clear HO_14; clear HO_305001; clear HO_322001; clear HO361; clear HO364; clear BK304; clear BK321; clear BK365; clear HB; have HO_9 := n0_; have HO_14 := n1_; have HO_305001 := n2_; have HO_322001 := n3_; have HO361 := n4_; have HO364 := n5_; have BK304 := n6_; have BK321 := n7_; have BK365 := n8_; have HB := n9_; clear n0_ n1_ n2_ n3_ n4_ n5_ n6_ n7_ n8_ n9_; (try clear hb); (try clear hb2); (try clear hk); (try clear hi)))
                                    go_meet
                                    case rel => exact ⟨_, (true), (by first | rfl | (simp; done) | (simp [*]; done)), H', ⟨by have := HJ16.out; have := HJ65.out; first | omega | exact Nat.le_refl _⟩, ⟨by exact lR <| Kd.R_mono HO_14.out (fun _ hk => ⟨hk.1.1.2.1, ⟨hk.1.1.2.2, hk.1.2⟩⟩)⟩, ⟨by exact lR <| Kd.R_mono HO_305001.out (fun _ hk => ⟨hk.1.1.2.1, ⟨hk.1.1.2.2, hk.1.2⟩⟩)⟩, ⟨by exact lR <| Kd.R_mono HO_322001.out (fun _ hk => ⟨hk.1.1.2.1, ⟨hk.1.1.2.2, hk.1.2⟩⟩)⟩, ⟨by exact lR <| Kd.R_mono HO361.out (fun _ hk => ⟨hk.1.1.2, ⟨hk.1.2, hk.2⟩⟩)⟩, ⟨by exact lK <| BK304.out⟩, ⟨by exact lK <| BK321.out⟩, ⟨by exact lK <| BK365.out⟩, ⟨by repeat (first | (with_reducible first | exact HB.out | apply below_alloc | apply pw_below_drewN | apply below_drew1 | refine below_set ?_ (by first | exact GE304.out | exact GE321.out | exact GE365.out)) | exact HB.out)⟩⟩
                                case rest =>
                                  clear HC103
                                  try clear c1
                                  try clear c2
                                  try clear p2
                                  try clear c3
                                  try clear c4
                                  try clear c4b0
                                  try clear c4b1
                                  try clear c5
                                  try clear c5b0
                                  try clear c5b1
                                  try clear c6
                                  try clear c7
                                  try clear c7b0
                                  try clear c8
                                  try clear c9
                                  try clear c10
                                  try clear c11
                                  try clear c12
                                  try clear c13
                                  try clear c14
                                  try clear c15
                                  try clear c16
                                  try clear c37
                                  try clear c41
                                  try clear c43
                                  try clear c49
                                  try clear c53
                                  try clear c56
                                  try clear c59
                                  try clear c62
                                  try clear c77
                                  try clear c77b0
                                  try clear c79
                                  try clear c81
                                  try clear c87
                                  try clear c91
                                  try clear c95
                                  try clear c95b0
                                  try clear c97
                                  try clear c97b0
                                  try clear c98
                                  try clear c98b0
                                  try clear c98b1
                                  try clear c104
                                  try clear c119
                                  try clear c120
                                  try clear c124
                                  try clear c126
                                  try clear c127
                                  try clear c129
                                  try clear c134
                                  try clear c135
                                  try clear c137
                                  try clear hcz105_0
                                  try clear hcz105_1
                                  try clear hcz109_0
                                  try clear hcz109_1
                                  try clear hcz121_0
                                  try clear hcz121_1
                                  try clear hcz128_0
                                  try clear hcz128_1
                                  try clear hcz130_0
                                  try clear hcz130_1
                                  try clear hcz136_0
                                  try clear hcz136_1
                                  try clear hcz138_0
                                  try clear hcz138_1
                                  try clear hcz27_0
                                  try clear hcz27_1
                                  try clear hcz38_0
                                  try clear hcz38_1
                                  try clear hcz44_0
                                  try clear hcz44_1
                                  try clear hcz45_0
                                  try clear hcz45_1
                                  try clear hcz50_0
                                  try clear hcz50_1
                                  try clear hcz51_0
                                  try clear hcz51_1
                                  try clear hcz82_0
                                  try clear hcz82_1
                                  try clear hcz83_0
                                  try clear hcz83_1
                                  try clear hcz88_0
                                  try clear hcz88_1
                                  try clear hcz89_0
                                  try clear hcz89_1
                                  try clear hfz105_0
                                  try clear hfz105_1
                                  try clear hfz109_0
                                  try clear hfz109_1
                                  try clear hfz121_0
                                  try clear hfz121_1
                                  try clear hfz128_0
                                  try clear hfz128_1
                                  try clear hfz130_0
                                  try clear hfz130_1
                                  try clear hfz136_0
                                  try clear hfz136_1
                                  try clear hfz138_0
                                  try clear hfz138_1
                                  try clear hfz27_0
                                  try clear hfz27_1
                                  try clear hfz38_0
                                  try clear hfz38_1
                                  try clear hfz44_0
                                  try clear hfz44_1
                                  try clear hfz45_0
                                  try clear hfz45_1
                                  try clear hfz50_0
                                  try clear hfz50_1
                                  try clear hfz51_0
                                  try clear hfz51_1
                                  try clear hfz82_0
                                  try clear hfz82_1
                                  try clear hfz83_0
                                  try clear hfz83_1
                                  try clear hfz88_0
                                  try clear hfz88_1
                                  try clear hfz89_0
                                  try clear hfz89_1
                                  try clear p2
                                  obtain ⟨kq, x140_102, rfl, HA, HJ102, HO_14, HO_305001, HO_322001, HO_366001, BK304, BK321, BK365, HB⟩ := hcut
                                  have hl14_102 := (Kd.R_reads' HO_14.out).1
                                  rw [hl14_102] at HO_14
                                  (try simp only [hl14_102])
                                  (try simp only [hl14_102] at BK304)
                                  (try simp only [hl14_102] at BK321)
                                  (try simp only [hl14_102] at BK365)
                                  (try simp only [hl14_102] at HO_305001)
                                  (try simp only [hl14_102] at HO_322001)
                                  (try simp only [hl14_102] at HO_366001)
                                  have hl322001_102 := (Kd.R_reads' HO_322001.out).1
                                  rw [hl322001_102] at HO_322001
                                  (try simp only [hl322001_102])
                                  (try simp only [hl322001_102] at BK304)
                                  (try simp only [hl322001_102] at BK321)
                                  (try simp only [hl322001_102] at BK365)
                                  (try simp only [hl322001_102] at HO_14)
                                  (try simp only [hl322001_102] at HO_305001)
                                  (try simp only [hl322001_102] at HO_366001)
                                  cases kq with
                                  | zero => exact absurd HA.out (by simp [laws_FnExactActRun.j2])
                                  | succ kj102 =>
                                    have H := HA.out
                                    clear HA
                                    simp only [laws_FnExactActRun.j2] at H
                                    by_cases c140 : x140_102 = true
                                    · subst c140
                                      have H1 : (some false) = some r := by rw [if_pos rfl] at H; exact H
                                      clear H
                                      have H := H1
                                      clear H1
                                      exact absurd (Option.some.inj H) (by rw [hr.out]; decide)
                                    · replace c140 := Bool.eq_false_iff.mpr c140
                                      subst c140
                                      have H1 : ((laws_heldResResult.f kj102 t314 t344 1).bind fun t368 => (if t368 < 0 then (some false) else ((laws_heldIntS.f kj102 t346 t368).bind fun t369 => (if t369 < 0 then (some false) else (if t369 = t345 then (some true) else (some false)))))) = some r := by rw [if_neg (show ¬ (false = true) by decide)] at H; exact H
                                      clear H
                                      have H := H1
                                      clear H1
                                      replace H := Option.bind_eq_some_iff.mp H
                                      obtain ⟨t368, A1410, H⟩ := H
                                      replace H : (if t368 < 0 then (some false) else ((laws_heldIntS.f kj102 t346 t368).bind fun t369 => (if t369 < 0 then (some false) else (if t369 = t345 then (some true) else (some false))))) = some r := H
                                      have A141 := Aside0.mk A1410
                                      clear A1410
                                      by_cases c142 : t368 < 0
                                      · rw [if_pos c142] at H
                                        have c142b0 : decide (t368 < 0) = true := decide_eq_true c142
                                        clear c142
                                        exact absurd (Option.some.inj H) (by rw [hr.out]; decide)
                                      · rw [if_neg c142] at H
                                        have c142b0 : decide (t368 < 0) = false := decide_eq_false c142
                                        clear c142
                                        replace H := Option.bind_eq_some_iff.mp H
                                        obtain ⟨t369, A1430, H⟩ := H
                                        replace H : (if t369 < 0 then (some false) else (if t369 = t345 then (some true) else (some false))) = some r := H
                                        have A143 := Aside0.mk A1430
                                        clear A1430
                                        by_cases c144 : t369 < 0
                                        · rw [if_pos c144] at H
                                          have c144b0 : decide (t369 < 0) = true := decide_eq_true c144
                                          clear c144
                                          exact absurd (Option.some.inj H) (by rw [hr.out]; decide)
                                        · rw [if_neg c144] at H
                                          have c144b0 : decide (t369 < 0) = false := decide_eq_false c144
                                          clear c144
                                          by_cases c145 : t369 = t345
                                          · rw [if_pos c145] at H
                                            have c145b0 : (t369 == t345) = true := beq_iff_eq.mpr c145
                                            have c145b1 : (t369 != t345) = false := bne_eq_false_iff_eq.mpr c145
                                            clear c145
                                            obtain rfl := Option.some.inj H
                                            have n_ := Aside0.mk (Kd.R_mono (ok' := fun k_ => (some k_ ≠ (.slice Ao28 t298.length co28 : Value).ownBlock ∧ some k_ ≠ (.slice Ao39 t344.length co39 : Value).ownBlock)) HO_14.out (fun _ hk => ⟨hk.1, hk.2.1⟩))
                                            clear HO_14
                                            have HO_14 := n_
                                            clear n_
                                            have n_ := Aside0.mk (Kd.R_mono (ok' := fun k_ => (some k_ ≠ (.slice Ao107 t346.length co107 : Value).ownBlock ∧ some k_ ≠ (.slice Ao39 t344.length co39 : Value).ownBlock)) HO_305001.out (fun _ hk => ⟨hk.1, hk.2.1⟩))
                                            clear HO_305001
                                            have HO_305001 := n_
                                            clear n_
                                            have n_ := Aside0.mk (Kd.R_mono (ok' := fun k_ => (some k_ ≠ (.slice Ao107 t346.length co107 : Value).ownBlock ∧ some k_ ≠ (.slice Ao28 t298.length co28 : Value).ownBlock)) HO_322001.out (fun _ hk => ⟨hk.1, hk.2.1⟩))
                                            clear HO_322001
                                            have HO_322001 := n_
                                            clear n_
                                            have hnb146 := NB321_304.out
                                            have hnc146 := NB304_321.out
                                            have hnb147 := NB321_365.out
                                            have hnc147 := NB365_321.out
                                            have hcz148_0 : wc.cell? ⟨gb321, 0, none⟩ = some (.int .i64 t314) := (blk_cell BK321.out 0).trans rfl
                                            have hcz148_1 : wc.cell? ⟨gb321, 1, none⟩ = some (.slice Ao39 t344.length co39) := (blk_cell BK321.out 1).trans rfl
                                            have hfz148_0 := blk_frozen BK321.out 0
                                            have hfz148_1 := blk_frozen BK321.out 1
                                            go_wp2_with (first | ((with_reducible refine gate_callee (f := 15) rfl ?_); refine goesL_ (some 143) rfl rfl Try.func15 (by kernel_rfl) rfl #[.agg #[.int .i64 t314, .slice Ao39 t344.length co39], .int .i64 1] rfl (by (try simp only [List.map_toArray, List.map_cons, List.map_nil]); first | done | rfl | (simp only [List.length_drop, List.length_take]; rfl)) ?_; (with_reducible refine (laws_heldResResult.calls kj102 t314 _ _ t344 1 t368 _ ?side1 ?side2 A141.out).mono ?_); (case side1 => exact lC <| (Kd.R_reads' HO_322001.out).2.2); (case side2 => exact (Kd.R_reads' HO_322001.out).2.1); rintro e w149 ⟨rfl, hb⟩; refine ⟨_, rfl, ?_⟩; have n0_ := Aside0.mk (Kd.R_below (by exact lR HO_14.out) hb); have n1_ := Aside0.mk (Kd.R_below (by exact lR HO_305001.out) hb); have n2_ := Aside0.mk (Kd.R_below (by exact lR HO_322001.out) hb); have n3_ := Aside0.mk (blk_below (g := gb304) (o := .cells #[.int .i64 t297, .slice Ao28 t298.length co28] 26 (0, 0)) (by exact lK BK304.out) hb); have n4_ := Aside0.mk (blk_below (g := gb321) (o := .cells #[.int .i64 t314, .slice Ao39 t344.length co39] 26 (0, 0)) (by exact lK BK321.out) hb); have n5_ := Aside0.mk (blk_below (g := gb365) (o := .cells #[.int .i64 t358, .slice Ao122 t359.length co122] 26 (0, 0)) (by exact lK BK365.out) hb); have n6_ := Aside0.mk (below_step (by repeat (first | (with_reducible first | exact HB.out | apply below_alloc | apply pw_below_drewN | apply below_drew1 | refine below_set ?_ (by first | exact GE304.out | exact GE321.out | exact GE365.out)) | exact HB.out)) hb); clear HO_14; clear HO_305001; clear HO_322001; clear BK304; clear BK321; clear BK365; clear HB; have HO_14 := n0_; have HO_305001 := n1_; have HO_322001 := n2_; have BK304 := n3_; have BK321 := n4_; have BK365 := n5_; have HB := n6_; clear n0_ n1_ n2_ n3_ n4_ n5_ n6_; (try clear hb); (try clear hb2); (try clear hk); (try clear hi)) | ((with_reducible refine gate_callee (f := 16) rfl ?_); refine goesL_ (some 148) rfl rfl Try.func16 (by kernel_rfl) rfl #[.slice Ao107 t346.length co107, .int .i64 t368] rfl (by (try simp only [List.map_toArray, List.map_cons, List.map_nil]); first | done | rfl | (simp only [List.length_drop, List.length_take]; rfl)) ?_; (with_reducible refine (laws_heldIntS.calls kj102 _ _ t346 t368 t369 _ ?side1 ?side2 A143.out).mono ?_); (case side1 => exact lC <| (Kd.R_reads' HO_14.out).2.2); (case side2 => exact (Kd.R_reads' HO_14.out).2.1); rintro e w' ⟨rfl, ⟨nd, rfl⟩⟩; refine ⟨_, rfl, ?_⟩))
                                            go_ret
                                            exact ⟨by first | rfl | (simp [errW_none, errW_some] <;> rfl) | (simp [*, errW_none, errW_some] <;> rfl), by repeat (first | (with_reducible first | exact HB.out | apply below_alloc | apply pw_below_drewN | apply below_drew1 | refine below_set ?_ (by first | exact GE304.out | exact GE321.out | exact GE365.out)) | exact HB.out)⟩
                                          · rw [if_neg c145] at H
                                            have c145b0 : (t369 == t345) = false := beq_eq_false_iff_ne.mpr c145
                                            have c145b1 : (t369 != t345) = true := bne_iff_ne.mpr c145
                                            exact absurd (Option.some.inj H) (by rw [hr.out]; decide)
                              · rw [if_neg c98] at H
                                have c98b0 : (t348 == t345) = false := beq_eq_false_iff_ne.mpr c98
                                have c98b1 : (t348 != t345) = true := bne_iff_ne.mpr c98
                                exact absurd (Option.some.inj H) (by rw [hr.out]; decide)
                  · replace c62 := Bool.eq_false_iff.mpr c62
                    subst c62
                    have H1 : (some false) = some r := by rw [if_neg (show ¬ (false = true) by decide)] at H; exact H
                    clear H
                    have H := H1
                    clear H1
                    exact absurd (Option.some.inj H) (by rw [hr.out]; decide)
                · replace c59 := Bool.eq_false_iff.mpr c59
                  subst c59
                  have H1 : (some false) = some r := by rw [if_neg (show ¬ (false = true) by decide)] at H; exact H
                  clear H
                  have H := H1
                  clear H1
                  exact absurd (Option.some.inj H) (by rw [hr.out]; decide)
              · replace c56 := Bool.eq_false_iff.mpr c56
                subst c56
                have H1 : (some false) = some r := by rw [if_neg (show ¬ (false = true) by decide)] at H; exact H
                clear H
                have H := H1
                clear H1
                exact absurd (Option.some.inj H) (by rw [hr.out]; decide)

/-- THE ONE PURE STATEMENT of laws_FnExactActRun. -/
def laws_FnExactActRun.Pure : Prop := ∀ (l0 : List (S43)) (l1 : List Int) (l2 : List Int), (l0.length ≤ 9223372036854775807 ∧ ∀ x0 ∈ l0, ((Lit.int .i64 x0.f0).wf = true ∧ (Lit.int .i64 x0.f1).wf = true ∧ (Lit.int .i64 x0.f2).wf = true ∧ ((x0.f3.f0.length ≤ 9223372036854775807 ∧ ∀ x1 ∈ x0.f3.f0, (Lit.int .i64 x1).wf = true) ∧ (x0.f3.f1.length ≤ 9223372036854775807 ∧ ∀ x2 ∈ x0.f3.f1, (Lit.int .i64 x2).wf = true) ∧ (Lit.int .i64 x0.f3.f2).wf = true))) → (l1.length ≤ 9223372036854775807 ∧ ∀ x3 ∈ l1, (Lit.int .i64 x3).wf = true) → (l2.length ≤ 9223372036854775807 ∧ ∀ x4 ∈ l2, (Lit.int .i64 x4).wf = true) → ∃ k, laws_FnExactActRun.f k l0 l1 l2 = some true
theorem laws_FnExactActRun.walk (P : laws_FnExactActRun.Pure) (A0 : Option Addr) (c0 : Nat) (l0 : List (S43)) (A1 : Option Addr) (c1 : Nat) (l1 : List Int) (A2 : Option Addr) (c2 : Nat) (l2 : List Int) (w : World) (hr0 : Kd.C k43 w A0 l0.length l0) (hc0 : l0.length ≤ c0) (hr1 : Kd.C (Kd.int .i64) w A1 l1.length l1) (hc1 : l1.length ≤ c1) (hr2 : Kd.C (Kd.int .i64) w A2 l2.length l2) (hc2 : l2.length ≤ c2) (hw0 : (l0.length ≤ 9223372036854775807 ∧ ∀ x0 ∈ l0, ((Lit.int .i64 x0.f0).wf = true ∧ (Lit.int .i64 x0.f1).wf = true ∧ (Lit.int .i64 x0.f2).wf = true ∧ ((x0.f3.f0.length ≤ 9223372036854775807 ∧ ∀ x1 ∈ x0.f3.f0, (Lit.int .i64 x1).wf = true) ∧ (x0.f3.f1.length ≤ 9223372036854775807 ∧ ∀ x2 ∈ x0.f3.f1, (Lit.int .i64 x2).wf = true) ∧ (Lit.int .i64 x0.f3.f2).wf = true)))) (hw1 : (l1.length ≤ 9223372036854775807 ∧ ∀ x3 ∈ l1, (Lit.int .i64 x3).wf = true)) (hw2 : (l2.length ≤ 9223372036854775807 ∧ ∀ x4 ∈ l2, (Lit.int .i64 x4).wf = true)) :
    Calls Try.prog 3 #[.slice A0 l0.length c0, .slice A1 l1.length c1, .slice A2 l2.length c2] w fun e w' => e = .returned (.bool true) ∧ Below w.heap.size w w' := by
  obtain ⟨k, h⟩ := P l0 l1 l2 hw0 hw1 hw2
  refine (laws_FnExactActRun.calls k A0 c0 l0 A1 c1 l1 A2 c2 l2 true w ⟨rfl⟩ hr0 hc0 hr1 hc1 hr2 hc2 h).mono ?_
  rintro e w' ⟨rfl, hd⟩
  exact ⟨rfl, hd⟩

end Go.Proofs.Ytpmkbblibingiaa.QFnExactActRun
