/- Plain functions, and that the Go code computes them: written by a program of this session over the seat's translation; the conditions stand in each theorem. -/
import Derived.Test.YtfbdjimcjoddgaaQFnExactFrmAddx50
import Derived.Test.YtfbdjimcjoddgaaQFnExactFrmAddx0
import Derived.Test.YtfbdjimcjoddgaaQFnExactFrmAddx1
import Derived.Test.YtfbdjimcjoddgaaQFnExactFrmAddx3
import Derived.Test.YtfbdjimcjoddgaaQFnExactFrmAddx4
namespace Go.Proofs.Ytfbdjimcjoddgaa.QFnExactFrmAdd
open Go.RowKit Go.Proofs.YtfbdjimcjoddgaaW.PrintWords Go.Proofs.YtfbdjimcjoddgaaW.PrintLast Go.Proofs.YtfbdjimcjoddgaaW.PrintMore Go.Proofs.Ytfbdjimcjoddgaa.HWords
attribute [local go_sem] max2_int min2_int max_two min_two max_three min_three max_four min_four   -- for this text's walks alone
set_option linter.unusedVariables false
set_option linter.unusedSimpArgs false

/-- What such a code begins with, and what follows. -/
def hd1 : Code → Code
  | .seq a _ => a
  | c => c
def tl1 : Code → Code
  | .seq _ b => b
  | c => c
set_option maxHeartbeats 8000000 in
set_option maxRecDepth 100000 in
theorem laws_FnExactFrmAdd.rest (k : Nat) (A0_0 : Option Addr) (c0_0 : Nat) (l0_0 : List Int) (A0_1 : Option Addr) (c0_1 : Nat) (l0_1 : List Int) (a0_2 : Int) (A1_0 : Option Addr) (c1_0 : Nat) (l1_0 : List Int) (A1_1 : Option Addr) (c1_1 : Nat) (l1_1 : List Int) (a1_2 : Int) (r : Bool) (w : World) (hr : Aside0 (r = true)) (HR0_0 : Aside0 ((Kd.int IntKind.i64).C w A0_0 l0_0.length l0_0)) (HC0_0 : Aside0 (l0_0.length ≤ c0_0)) (HR0_1 : Aside0 ((Kd.int IntKind.i64).C w A0_1 l0_1.length l0_1)) (HC0_1 : Aside0 (l0_1.length ≤ c0_1)) (HR1_0 : Aside0 ((Kd.int IntKind.i64).C w A1_0 l1_0.length l1_0)) (HC1_0 : Aside0 (l1_0.length ≤ c1_0)) (HR1_1 : Aside0 ((Kd.int IntKind.i64).C w A1_1 l1_1.length l1_1)) (HC1_1 : Aside0 (l1_1.length ≤ c1_1)) (t198 : Int) (t213 t216 : List Int) (t219 : Int) (t221 t224 : List Int) (t227 : Int) (t229 t232 : List Int) (t235 : Int) (t237 t240 : List Int) (t243 : Int) (t263 t264 : List Int) (t265 : Int) (t266 t267 : List Int) (HC35 :  Aside0 ((if t265 < 0 then j0 k true l0_0 l0_1 a0_2 l1_0 l1_1 a1_2 t213 t216 t219 t237 t240 t243 else (laws_eqFrmForm.f k t237 t240 t243 t213 t216 t219).bind fun t268 => j0 k (!t268) l0_0 l0_1 a0_2 l1_0 l1_1 a1_2 t213 t216 t219 t237 t240 t243) = some r)) (gb195 : Nat) (GW195 GE195 : Aside0 (w.heap.size ≤ gb195)) (gb196 : Nat) (GW196 GE196 : Aside0 (w.heap.size ≤ gb196)) (gb220 : Nat) (w52 : World) (hS_ :  w52.cell? { block := gb195, off := 0 } = some (Value.slice A0_0 l0_0.length c0_0) ∧ w52.cell? { block := gb195, off := 1 } = some (Value.slice A0_1 l0_1.length c0_1) ∧ w52.cell? { block := gb195, off := 2 } = some (Value.int IntKind.i64 a0_2) ∧ w52.cell? { block := gb196, off := 0 } = some (Value.slice A1_0 l1_0.length c1_0) ∧ w52.cell? { block := gb196, off := 1 } = some (Value.slice A1_1 l1_1.length c1_1) ∧ w52.cell? { block := gb196, off := 2 } = some (Value.int IntKind.i64 a1_2)) (GW220 GE220 : Aside0 (w.heap.size ≤ gb220)) (NB195_220 : Aside0 (gb195 ≠ gb220)) (NB220_195 : Aside0 (gb220 ≠ gb195)) (NB196_220 : Aside0 (gb196 ≠ gb220)) (NB220_196 : Aside0 (gb220 ≠ gb196)) (Ao53 : Option Addr) (co53 : Nat) (Ao55 : Option Addr) (co55 : Nat) (gb228 : Nat) (GW228 GE228 : Aside0 (w.heap.size ≤ gb228)) (NB220_228 : Aside0 (gb220 ≠ gb228)) (NB228_220 : Aside0 (gb228 ≠ gb220)) (Ao62 : Option Addr) (co62 : Nat) (Ao67 : Option Addr) (co67 : Nat) (gb236 : Nat) (GW236 GE236 : Aside0 (w.heap.size ≤ gb236)) (NB220_236 : Aside0 (gb220 ≠ gb236)) (NB236_220 : Aside0 (gb236 ≠ gb220)) (Ao72 : Option Addr) (co72 : Nat) (Ao78 : Option Addr) (co78 : Nat) (gb244 : Nat) (GW244 GE244 : Aside0 (w.heap.size ≤ gb244)) (NB195_244 : Aside0 (gb195 ≠ gb244)) (NB244_195 : Aside0 (gb244 ≠ gb195)) (NB196_244 : Aside0 (gb196 ≠ gb244)) (NB244_196 : Aside0 (gb244 ≠ gb196)) (NB220_244 : Aside0 (gb220 ≠ gb244)) (NB244_220 : Aside0 (gb244 ≠ gb220)) (NB228_244 : Aside0 (gb228 ≠ gb244)) (NB244_228 : Aside0 (gb244 ≠ gb228)) (NB236_244 : Aside0 (gb236 ≠ gb244)) (NB244_236 : Aside0 (gb244 ≠ gb236)) (Ao82 : Option Addr) (co82 : Nat) (Ao89 : Option Addr) (co89 : Nat) (w101 : World) (hHeld :  w101.cell? { block := gb236, off := 0 } = some (Value.slice Ao72 t229.length co72) ∧ w101.cell? { block := gb236, off := 1 } = some (Value.slice Ao78 t232.length co78) ∧ w101.cell? { block := gb236, off := 2 } = some (Value.int IntKind.i64 t235) ∧ w101.cell? { block := gb196, off := 0 } = some (Value.slice A1_0 l1_0.length c1_0) ∧ w101.cell? { block := gb196, off := 1 } = some (Value.slice A1_1 l1_1.length c1_1) ∧ w101.cell? { block := gb196, off := 2 } = some (Value.int IntKind.i64 a1_2)) (hcz102_0 : w101.cell? { block := gb228, off := 0 } = some (Value.slice Ao62 t221.length co62)) (hcz102_1 : w101.cell? { block := gb228, off := 1 } = some (Value.slice Ao67 t224.length co67)) (hcz102_2 : w101.cell? { block := gb228, off := 2 } = some (Value.int IntKind.i64 t227)) (hfz102_0 : w101.frozen? { block := gb228, off := 0 } = false) (hfz102_1 : w101.frozen? { block := gb228, off := 1 } = false) (hfz102_2 : w101.frozen? { block := gb228, off := 2 } = false) (w103 : World) (hcz104_0 : w103.cell? { block := gb236, off := 0 } = some (Value.slice Ao72 t229.length co72)) (hcz104_1 : w103.cell? { block := gb236, off := 1 } = some (Value.slice Ao78 t232.length co78)) (hcz104_2 : w103.cell? { block := gb236, off := 2 } = some (Value.int IntKind.i64 t235)) (hfz104_0 : w103.frozen? { block := gb236, off := 0 } = false) (hfz104_1 : w103.frozen? { block := gb236, off := 1 } = false) (hfz104_2 : w103.frozen? { block := gb236, off := 2 } = false) (w105 : World) (BK195 :  Aside0 (w105.heap[gb195]? = some (Obj.cells #[Value.slice A0_0 l0_0.length c0_0, Value.slice A0_1 l0_1.length c0_1, Value.int IntKind.i64 a0_2] 24))) (BK196 :  Aside0 (w105.heap[gb196]? = some (Obj.cells #[Value.slice A1_0 l1_0.length c1_0, Value.slice A1_1 l1_1.length c1_1, Value.int IntKind.i64 a1_2] 24))) (BK220 :  Aside0 (w105.heap[gb220]? = some (Obj.cells #[Value.slice Ao53 t213.length co53, Value.slice Ao55 t216.length co55, Value.int IntKind.i64 t219] 26))) (BK228 :  Aside0 (w105.heap[gb228]? = some (Obj.cells #[Value.slice Ao62 t221.length co62, Value.slice Ao67 t224.length co67, Value.int IntKind.i64 t227] 26))) (BK236 :  Aside0 (w105.heap[gb236]? = some (Obj.cells #[Value.slice Ao72 t229.length co72, Value.slice Ao78 t232.length co78, Value.int IntKind.i64 t235] 26))) (BK244 :  Aside0 (w105.heap[gb244]? = some (Obj.cells #[Value.slice Ao82 t237.length co82, Value.slice Ao89 t240.length co89, Value.int IntKind.i64 t243] 26))) (HB : Aside0 (Below w.heap.size w w105)) (wc : World) (u14 u15 u16 u17 u18 u19 u20 u21 u22 u23 u24 u25 u26 u27 u28 u29 u30 u31 u32 u33 u34 u35 u36 u37 u38 u39 u40 u41 u42 u43 u44 u45 u46 u47 u48 u49 u50 u51 u52 u53 u54 u55 u56 u57 u58 u59 u60 u61 u62 u63 u64 u65 u66 u67 u68 u69 u70 u71 u72 u73 u74 u75 u76 u77 u78 u79 u80 u81 u82 u83 u84 u85 u86 u87 u88 u89 u90 u91 :  Value) (hcut : ((fun v63 wc => ∃ (kq : Nat) (x63_34 : Bool), v63 = .bool x63_34 ∧ Aside0 (laws_FnExactFrmAdd.j0 kq x63_34 l0_0 l0_1 a0_2 l1_0 l1_1 a1_2 t213 t216 t219 t237 t240 t243 = some r) ∧ Aside0 (kq ≤ k) ∧ Aside0 (Kd.R (Kd.int .i64) 3 wc w.heap.size (fun k_ => some k_ ≠ ((.slice Ao55 t216.length co55) : Value).ownBlock ∧ some k_ ≠ ((.slice Ao62 t221.length co62) : Value).ownBlock ∧ some k_ ≠ ((.slice Ao67 t224.length co67) : Value).ownBlock ∧ some k_ ≠ ((.slice Ao72 t229.length co72) : Value).ownBlock ∧ some k_ ≠ ((.slice Ao78 t232.length co78) : Value).ownBlock ∧ some k_ ≠ ((.slice Ao82 t237.length co82) : Value).ownBlock ∧ some k_ ≠ ((.slice Ao89 t240.length co89) : Value).ownBlock) (.slice Ao53 t213.length co53) t213) ∧ Aside0 (Kd.R (Kd.int .i64) 3 wc w.heap.size (fun k_ => some k_ ≠ ((.slice Ao53 t213.length co53) : Value).ownBlock ∧ some k_ ≠ ((.slice Ao62 t221.length co62) : Value).ownBlock ∧ some k_ ≠ ((.slice Ao67 t224.length co67) : Value).ownBlock ∧ some k_ ≠ ((.slice Ao72 t229.length co72) : Value).ownBlock ∧ some k_ ≠ ((.slice Ao78 t232.length co78) : Value).ownBlock ∧ some k_ ≠ ((.slice Ao82 t237.length co82) : Value).ownBlock ∧ some k_ ≠ ((.slice Ao89 t240.length co89) : Value).ownBlock) (.slice Ao55 t216.length co55) t216) ∧ Aside0 (Kd.R (Kd.int .i64) 3 wc w.heap.size (fun k_ => some k_ ≠ ((.slice Ao53 t213.length co53) : Value).ownBlock ∧ some k_ ≠ ((.slice Ao55 t216.length co55) : Value).ownBlock ∧ some k_ ≠ ((.slice Ao67 t224.length co67) : Value).ownBlock ∧ some k_ ≠ ((.slice Ao72 t229.length co72) : Value).ownBlock ∧ some k_ ≠ ((.slice Ao78 t232.length co78) : Value).ownBlock ∧ some k_ ≠ ((.slice Ao82 t237.length co82) : Value).ownBlock ∧ some k_ ≠ ((.slice Ao89 t240.length co89) : Value).ownBlock) (.slice Ao62 t221.length co62) t263) ∧ Aside0 (Kd.R (Kd.int .i64) 3 wc w.heap.size (fun k_ => some k_ ≠ ((.slice Ao53 t213.length co53) : Value).ownBlock ∧ some k_ ≠ ((.slice Ao55 t216.length co55) : Value).ownBlock ∧ some k_ ≠ ((.slice Ao62 t221.length co62) : Value).ownBlock ∧ some k_ ≠ ((.slice Ao72 t229.length co72) : Value).ownBlock ∧ some k_ ≠ ((.slice Ao78 t232.length co78) : Value).ownBlock ∧ some k_ ≠ ((.slice Ao82 t237.length co82) : Value).ownBlock ∧ some k_ ≠ ((.slice Ao89 t240.length co89) : Value).ownBlock) (.slice Ao67 t224.length co67) t264) ∧ Aside0 (Kd.R (Kd.int .i64) 3 wc w.heap.size (fun k_ => some k_ ≠ ((.slice Ao53 t213.length co53) : Value).ownBlock ∧ some k_ ≠ ((.slice Ao55 t216.length co55) : Value).ownBlock ∧ some k_ ≠ ((.slice Ao62 t221.length co62) : Value).ownBlock ∧ some k_ ≠ ((.slice Ao67 t224.length co67) : Value).ownBlock ∧ some k_ ≠ ((.slice Ao78 t232.length co78) : Value).ownBlock ∧ some k_ ≠ ((.slice Ao82 t237.length co82) : Value).ownBlock ∧ some k_ ≠ ((.slice Ao89 t240.length co89) : Value).ownBlock) (.slice Ao72 t229.length co72) t266) ∧ Aside0 (Kd.R (Kd.int .i64) 3 wc w.heap.size (fun k_ => some k_ ≠ ((.slice Ao53 t213.length co53) : Value).ownBlock ∧ some k_ ≠ ((.slice Ao55 t216.length co55) : Value).ownBlock ∧ some k_ ≠ ((.slice Ao62 t221.length co62) : Value).ownBlock ∧ some k_ ≠ ((.slice Ao67 t224.length co67) : Value).ownBlock ∧ some k_ ≠ ((.slice Ao72 t229.length co72) : Value).ownBlock ∧ some k_ ≠ ((.slice Ao82 t237.length co82) : Value).ownBlock ∧ some k_ ≠ ((.slice Ao89 t240.length co89) : Value).ownBlock) (.slice Ao78 t232.length co78) t267) ∧ Aside0 (Kd.R (Kd.int .i64) 3 wc w.heap.size (fun k_ => some k_ ≠ ((.slice Ao53 t213.length co53) : Value).ownBlock ∧ some k_ ≠ ((.slice Ao55 t216.length co55) : Value).ownBlock ∧ some k_ ≠ ((.slice Ao62 t221.length co62) : Value).ownBlock ∧ some k_ ≠ ((.slice Ao67 t224.length co67) : Value).ownBlock ∧ some k_ ≠ ((.slice Ao72 t229.length co72) : Value).ownBlock ∧ some k_ ≠ ((.slice Ao78 t232.length co78) : Value).ownBlock ∧ some k_ ≠ ((.slice Ao89 t240.length co89) : Value).ownBlock) (.slice Ao82 t237.length co82) t237) ∧ Aside0 (Kd.R (Kd.int .i64) 3 wc w.heap.size (fun k_ => some k_ ≠ ((.slice Ao53 t213.length co53) : Value).ownBlock ∧ some k_ ≠ ((.slice Ao55 t216.length co55) : Value).ownBlock ∧ some k_ ≠ ((.slice Ao62 t221.length co62) : Value).ownBlock ∧ some k_ ≠ ((.slice Ao67 t224.length co67) : Value).ownBlock ∧ some k_ ≠ ((.slice Ao72 t229.length co72) : Value).ownBlock ∧ some k_ ≠ ((.slice Ao78 t232.length co78) : Value).ownBlock ∧ some k_ ≠ ((.slice Ao82 t237.length co82) : Value).ownBlock) (.slice Ao89 t240.length co89) t240) ∧ Aside0 (wc.heap[gb195]? = some (.cells #[(.slice A0_0 l0_0.length c0_0), (.slice A0_1 l0_1.length c0_1), .int .i64 a0_2] 24 (0, 0))) ∧ Aside0 (wc.heap[gb196]? = some (.cells #[(.slice A1_0 l1_0.length c1_0), (.slice A1_1 l1_1.length c1_1), .int .i64 a1_2] 24 (0, 0))) ∧ Aside0 (wc.heap[gb220]? = some (.cells #[(.slice Ao53 t213.length co53), (.slice Ao55 t216.length co55), .int .i64 t219] 26 (0, 0))) ∧ Aside0 (wc.heap[gb228]? = some (.cells #[(.slice Ao62 t221.length co62), (.slice Ao67 t224.length co67), .int .i64 t227] 26 (0, 0))) ∧ Aside0 (wc.heap[gb236]? = some (.cells #[(.slice Ao72 t229.length co72), (.slice Ao78 t232.length co78), .int .i64 t235] 26 (0, 0))) ∧ Aside0 (wc.heap[gb244]? = some (.cells #[(.slice Ao82 t237.length co82), (.slice Ao89 t240.length co89), .int .i64 t243] 26 (0, 0))) ∧ Aside0 (Below w.heap.size w wc))) u63 wc) (K1 : Act → World → Prop) (hK1 : ∀ (a : Act) (w' : World), Code.wp Try.prog (tl1 (tl1 (tl1 (tl1 (tl1 (tl1 (tl1 (tl1 (tl1 (tl1 (tl1 (tl1 (tl1 (tl1 (tl1 (tl1 (tl1 (Try.f3.body.getD .skip)))))))))))))))))) (bodyPost Try.prog Try.f3 fun e w' => e = Ending.returned (Value.bool r) ∧ Below w.heap.size w w') a w' → K1 a w') :
    Code.wp Try.prog (tl1 (hd1 (tl1 (tl1 (tl1 (tl1 (tl1 (tl1 (tl1 (tl1 (tl1 (tl1 (tl1 (tl1 (tl1 (tl1 (tl1 (tl1 (Try.f3.body.getD .skip))))))))))))))))))) (Exit.then K1 (bodyPost Try.prog Try.f3 fun e w' => e = Ending.returned (Value.bool r) ∧ Below w.heap.size w w')) { tmps := #[Value.agg #[Value.slice A0_0 l0_0.length c0_0, Value.slice A0_1 l0_1.length c0_1, Value.int IntKind.i64 a0_2], Value.agg #[Value.slice A1_0 l1_0.length c1_0, Value.slice A1_1 l1_1.length c1_1, Value.int IntKind.i64 a1_2], Value.pointer (some { block := gb195, off := 0 }), Value.pointer (some { block := gb196, off := 0 }), Value.bool false, Value.int IntKind.i64 t198, Value.pointer (some { block := gb220, off := 0 }), Value.pointer (some { block := gb228, off := 0 }), Value.pointer (some { block := gb236, off := 0 }), Value.pointer (some { block := gb244, off := 0 }), Value.int IntKind.i64 t265, undef, undef, undef, u14, u15, u16, u17, u18, u19, u20, u21, u22, u23, u24, u25, u26, u27, u28, u29, u30, u31, u32, u33, u34, u35, u36, u37, u38, u39, u40, u41, u42, u43, u44, u45, u46, u47, u48, u49, u50, u51, u52, u53, u54, u55, u56, u57, u58, u59, u60, u61, u62, u63, u64, u65, u66, u67, u68, u69, u70, u71, u72, u73, u74, u75, u76, u77, u78, u79, u80, u81, u82, u83, u84, u85, u86, u87, u88, u89, u90, u91], defers := [] } wc := by
  try dsimp only at hcut
  revert hK1
  simp only [tl1, hd1, Try.f3, Option.getD_some]
  intro hK1
  clear HC35
  try clear c1
  try clear p2
  try clear c10
  try clear c11
  try clear c12
  try clear c13
  try clear c106
  try clear c106b0
  try clear c108
  try clear c109
  try clear c110
  try clear c111
  try clear c112
  try clear c114
  try clear c115
  try clear c116
  try clear c117
  try clear hcz102_0
  try clear hcz102_1
  try clear hcz102_2
  try clear hcz104_0
  try clear hcz104_1
  try clear hcz104_2
  try clear hcz113_0
  try clear hcz113_1
  try clear hcz113_2
  try clear hcz118_0
  try clear hcz118_1
  try clear hcz118_2
  try clear hfz102_0
  try clear hfz102_1
  try clear hfz102_2
  try clear hfz104_0
  try clear hfz104_1
  try clear hfz104_2
  try clear hfz113_0
  try clear hfz113_1
  try clear hfz113_2
  try clear hfz118_0
  try clear hfz118_1
  try clear hfz118_2
  obtain ⟨kq, x63_34, rfl, HA, HJ34, HO_221000, HO_221001, HO_229000, HO_229001, HO_237000, HO_237001, HO_245000, HO_245001, BK195, BK196, BK220, BK228, BK236, BK244, HB⟩ := hcut
  have hl229000_34 := (Kd.R_reads' HO_229000.out).1
  rw [hl229000_34] at HO_229000
  (try simp only [hl229000_34])
  (try simp only [hl229000_34] at BK195)
  (try simp only [hl229000_34] at BK196)
  (try simp only [hl229000_34] at BK220)
  (try simp only [hl229000_34] at BK228)
  (try simp only [hl229000_34] at BK236)
  (try simp only [hl229000_34] at BK244)
  (try simp only [hl229000_34] at HO_221000)
  (try simp only [hl229000_34] at HO_221001)
  (try simp only [hl229000_34] at HO_229001)
  (try simp only [hl229000_34] at HO_237000)
  (try simp only [hl229000_34] at HO_237001)
  (try simp only [hl229000_34] at HO_245000)
  (try simp only [hl229000_34] at HO_245001)
  have hl229001_34 := (Kd.R_reads' HO_229001.out).1
  rw [hl229001_34] at HO_229001
  (try simp only [hl229001_34])
  (try simp only [hl229001_34] at BK195)
  (try simp only [hl229001_34] at BK196)
  (try simp only [hl229001_34] at BK220)
  (try simp only [hl229001_34] at BK228)
  (try simp only [hl229001_34] at BK236)
  (try simp only [hl229001_34] at BK244)
  (try simp only [hl229001_34] at HO_221000)
  (try simp only [hl229001_34] at HO_221001)
  (try simp only [hl229001_34] at HO_229000)
  (try simp only [hl229001_34] at HO_237000)
  (try simp only [hl229001_34] at HO_237001)
  (try simp only [hl229001_34] at HO_245000)
  (try simp only [hl229001_34] at HO_245001)
  have hl237000_34 := (Kd.R_reads' HO_237000.out).1
  rw [hl237000_34] at HO_237000
  (try simp only [hl237000_34])
  (try simp only [hl237000_34] at BK195)
  (try simp only [hl237000_34] at BK196)
  (try simp only [hl237000_34] at BK220)
  (try simp only [hl237000_34] at BK228)
  (try simp only [hl237000_34] at BK236)
  (try simp only [hl237000_34] at BK244)
  (try simp only [hl237000_34] at HO_221000)
  (try simp only [hl237000_34] at HO_221001)
  (try simp only [hl237000_34] at HO_229000)
  (try simp only [hl237000_34] at HO_229001)
  (try simp only [hl237000_34] at HO_237001)
  (try simp only [hl237000_34] at HO_245000)
  (try simp only [hl237000_34] at HO_245001)
  have hl237001_34 := (Kd.R_reads' HO_237001.out).1
  rw [hl237001_34] at HO_237001
  (try simp only [hl237001_34])
  (try simp only [hl237001_34] at BK195)
  (try simp only [hl237001_34] at BK196)
  (try simp only [hl237001_34] at BK220)
  (try simp only [hl237001_34] at BK228)
  (try simp only [hl237001_34] at BK236)
  (try simp only [hl237001_34] at BK244)
  (try simp only [hl237001_34] at HO_221000)
  (try simp only [hl237001_34] at HO_221001)
  (try simp only [hl237001_34] at HO_229000)
  (try simp only [hl237001_34] at HO_229001)
  (try simp only [hl237001_34] at HO_237000)
  (try simp only [hl237001_34] at HO_245000)
  (try simp only [hl237001_34] at HO_245001)
  cases kq with
  | zero => exact absurd HA.out (by simp [laws_FnExactFrmAdd.j0])
  | succ kj34 =>
    have H := HA.out
    clear HA
    simp only [laws_FnExactFrmAdd.j0] at H
    by_cases c120 : x63_34 = true
    · subst c120
      have H1 : (some false) = some r := by rw [if_pos rfl] at H; exact H
      clear H
      have H := H1
      clear H1
      exact absurd (Option.some.inj H) (by rw [hr.out]; decide)
    · replace c120 := Bool.eq_false_iff.mpr c120
      subst c120
      have H1 : ((laws_markFrmForm.f kj34 t237 t240 t243 1).bind fun bt269 => ((laws_heldFrmForm.f kj34 bt269.2.1 bt269.2.2 t243 1).bind fun t272 => (if t272 < 0 then (some false) else (if t272 = bt269.1 then ((laws_toFrmForm.f kj34 l0_0 l0_1 a0_2).bind fun bt273 => ((laws_toFrmForm.f kj34 l1_0 l1_1 a1_2).bind fun bt280 => ((impl_FrmAdd.f bt273.1 bt273.2.1 bt273.2.2 bt280.1 bt280.2.1 bt280.2.2).bind fun bt287 => ((laws_eqFrmForm.f kj34 bt287.1 bt287.2.1 bt287.2.2 t213 t216 t219).bind fun t295 => (if t295 = true then ((laws_heldFrmForm.f kj34 bt269.2.1 bt269.2.2 t243 1).bind fun t296 => (if t296 < 0 then (some false) else (if t296 = bt269.1 then (some true) else (some false)))) else (some false)))))) else (some false))))) = some r := by rw [if_neg (show ¬ (false = true) by decide)] at H; exact H
      clear H
      have H := H1
      clear H1
      replace H := Option.bind_eq_some_iff.mp H
      obtain ⟨⟨t269, t270, t271⟩, A1210, H⟩ := H
      replace H : ((laws_heldFrmForm.f kj34 t270 t271 t243 1).bind fun t272 => (if t272 < 0 then (some false) else (if t272 = t269 then ((laws_toFrmForm.f kj34 l0_0 l0_1 a0_2).bind fun bt273 => ((laws_toFrmForm.f kj34 l1_0 l1_1 a1_2).bind fun bt280 => ((impl_FrmAdd.f bt273.1 bt273.2.1 bt273.2.2 bt280.1 bt280.2.1 bt280.2.2).bind fun bt287 => ((laws_eqFrmForm.f kj34 bt287.1 bt287.2.1 bt287.2.2 t213 t216 t219).bind fun t295 => (if t295 = true then ((laws_heldFrmForm.f kj34 t270 t271 t243 1).bind fun t296 => (if t296 < 0 then (some false) else (if t296 = t269 then (some true) else (some false)))) else (some false)))))) else (some false)))) = some r := H
      have A121 := Aside0.mk A1210
      clear A1210
      replace H := Option.bind_eq_some_iff.mp H
      obtain ⟨t272, A1220, H⟩ := H
      replace H : (if t272 < 0 then (some false) else (if t272 = t269 then ((laws_toFrmForm.f kj34 l0_0 l0_1 a0_2).bind fun bt273 => ((laws_toFrmForm.f kj34 l1_0 l1_1 a1_2).bind fun bt280 => ((impl_FrmAdd.f bt273.1 bt273.2.1 bt273.2.2 bt280.1 bt280.2.1 bt280.2.2).bind fun bt287 => ((laws_eqFrmForm.f kj34 bt287.1 bt287.2.1 bt287.2.2 t213 t216 t219).bind fun t295 => (if t295 = true then ((laws_heldFrmForm.f kj34 t270 t271 t243 1).bind fun t296 => (if t296 < 0 then (some false) else (if t296 = t269 then (some true) else (some false)))) else (some false)))))) else (some false))) = some r := H
      have A122 := Aside0.mk A1220
      clear A1220
      by_cases c123 : t272 < 0
      · rw [if_pos c123] at H
        have c123b0 : decide (t272 < 0) = true := decide_eq_true c123
        clear c123
        exact absurd (Option.some.inj H) (by rw [hr.out]; decide)
      · rw [if_neg c123] at H
        have c123b0 : decide (t272 < 0) = false := decide_eq_false c123
        clear c123
        by_cases c124 : t272 = t269
        · rw [if_pos c124] at H
          have c124b0 : (t272 == t269) = true := beq_iff_eq.mpr c124
          have c124b1 : (t272 != t269) = false := bne_eq_false_iff_eq.mpr c124
          clear c124
          replace H := Option.bind_eq_some_iff.mp H
          obtain ⟨⟨t273, t276, t279⟩, A1250, H⟩ := H
          replace H : ((laws_toFrmForm.f kj34 l1_0 l1_1 a1_2).bind fun bt280 => ((impl_FrmAdd.f t273 t276 t279 bt280.1 bt280.2.1 bt280.2.2).bind fun bt287 => ((laws_eqFrmForm.f kj34 bt287.1 bt287.2.1 bt287.2.2 t213 t216 t219).bind fun t295 => (if t295 = true then ((laws_heldFrmForm.f kj34 t270 t271 t243 1).bind fun t296 => (if t296 < 0 then (some false) else (if t296 = t269 then (some true) else (some false)))) else (some false))))) = some r := H
          have A125 := Aside0.mk A1250
          clear A1250
          replace H := Option.bind_eq_some_iff.mp H
          obtain ⟨⟨t280, t283, t286⟩, A1260, H⟩ := H
          replace H : ((impl_FrmAdd.f t273 t276 t279 t280 t283 t286).bind fun bt287 => ((laws_eqFrmForm.f kj34 bt287.1 bt287.2.1 bt287.2.2 t213 t216 t219).bind fun t295 => (if t295 = true then ((laws_heldFrmForm.f kj34 t270 t271 t243 1).bind fun t296 => (if t296 < 0 then (some false) else (if t296 = t269 then (some true) else (some false)))) else (some false)))) = some r := H
          have A126 := Aside0.mk A1260
          clear A1260
          replace H := Option.bind_eq_some_iff.mp H
          obtain ⟨⟨t287, t290, t293⟩, A1270, H⟩ := H
          replace H : ((laws_eqFrmForm.f kj34 t287 t290 t293 t213 t216 t219).bind fun t295 => (if t295 = true then ((laws_heldFrmForm.f kj34 t270 t271 t243 1).bind fun t296 => (if t296 < 0 then (some false) else (if t296 = t269 then (some true) else (some false)))) else (some false))) = some r := H
          have A127 := Aside0.mk A1270
          clear A1270
          replace H := Option.bind_eq_some_iff.mp H
          obtain ⟨t295, A1280, H⟩ := H
          replace H : (if t295 = true then ((laws_heldFrmForm.f kj34 t270 t271 t243 1).bind fun t296 => (if t296 < 0 then (some false) else (if t296 = t269 then (some true) else (some false)))) else (some false)) = some r := H
          have A128 := Aside0.mk A1280
          clear A1280
          by_cases c129 : t295 = true
          · subst c129
            have H1 : ((laws_heldFrmForm.f kj34 t270 t271 t243 1).bind fun t296 => (if t296 < 0 then (some false) else (if t296 = t269 then (some true) else (some false)))) = some r := by rw [if_pos rfl] at H; exact H
            clear H
            have H := H1
            clear H1
            replace H := Option.bind_eq_some_iff.mp H
            obtain ⟨t296, A1300, H⟩ := H
            replace H : (if t296 < 0 then (some false) else (if t296 = t269 then (some true) else (some false))) = some r := H
            have A130 := Aside0.mk A1300
            clear A1300
            by_cases c131 : t296 < 0
            · rw [if_pos c131] at H
              have c131b0 : decide (t296 < 0) = true := decide_eq_true c131
              clear c131
              exact absurd (Option.some.inj H) (by rw [hr.out]; decide)
            · rw [if_neg c131] at H
              have c131b0 : decide (t296 < 0) = false := decide_eq_false c131
              clear c131
              by_cases c132 : t296 = t269
              · rw [if_pos c132] at H
                have c132b0 : (t296 == t269) = true := beq_iff_eq.mpr c132
                have c132b1 : (t296 != t269) = false := bne_eq_false_iff_eq.mpr c132
                clear c132
                obtain rfl := Option.some.inj H
                have hnb133 := NB244_195.out
                have hnc133 := NB195_244.out
                have hnb134 := NB244_196.out
                have hnc134 := NB196_244.out
                have hnb135 := NB244_220.out
                have hnc135 := NB220_244.out
                have hnb136 := NB244_228.out
                have hnc136 := NB228_244.out
                have hnb137 := NB244_236.out
                have hnc137 := NB236_244.out
                have hcz138_0 : wc.cell? ⟨gb244, 0, none⟩ = some (.slice Ao82 t237.length co82) := (blk_cell BK244.out 0).trans rfl
                have hcz138_1 : wc.cell? ⟨gb244, 1, none⟩ = some (.slice Ao89 t240.length co89) := (blk_cell BK244.out 1).trans rfl
                have hcz138_2 : wc.cell? ⟨gb244, 2, none⟩ = some (.int .i64 t243) := (blk_cell BK244.out 2).trans rfl
                have hfz138_0 := blk_frozen BK244.out 0
                have hfz138_1 := blk_frozen BK244.out 1
                have hfz138_2 := blk_frozen BK244.out 2
                try go_wp2_with (first | ((with_reducible refine gate_callee (f := 13) rfl ?_); refine goesL_ (some 66) rfl rfl Try.func13 (by kernel_rfl) rfl #[.agg #[.slice Ao82 t237.length co82, .slice Ao89 t240.length co89, .int .i64 t243], .int .i64 1] rfl (by (try simp only [List.map_toArray, List.map_cons, List.map_nil]); first | done | rfl | (simp only [List.length_drop, List.length_take]; rfl)) ?_; (with_reducible refine (laws_markFrmForm.calls kj34 (fun k_ => some k_ = (.slice Ao82 t237.length co82 : Value).ownBlock) (.slice Ao82 t237.length co82) t237 (fun k_ => some k_ = (.slice Ao89 t240.length co89 : Value).ownBlock) (.slice Ao89 t240.length co89) t240 t243 1 t269 t270 t271 w _ ?side1 ?side2 ?side3 ?side4 ?side5 A121.out).mono ?_); (case side1 => repeat (first | (with_reducible first | exact HB.out | apply below_alloc | apply pw_below_drewN | apply below_drew1 | refine below_set ?_ (by first | exact GE195.out | exact GE196.out | exact GE220.out | exact GE228.out | exact GE236.out | exact GE244.out)) | exact HB.out)); (case side2 => exact Kd.R_tight rfl HO_245000.out); (case side3 => exact fun k_ e_ => (HO_245000.out.1 k_ e_.symm).2.2.2.2.2.2); (case side4 => exact Kd.R_tight rfl HO_245001.out); (case side5 => exact fun k_ e_ => (HO_245001.out.1 k_ e_.symm).2.2.2.2.2.2); rintro e w139 ⟨rfl, hy0, hy1, hb, hkp⟩; refine ⟨_, rfl, ?_⟩; have n0_ := Aside0.mk (Kd.R_mono (ok' := fun k_ => some k_ ≠ (.slice Ao55 t216.length co55 : Value).ownBlock ∧ some k_ ≠ (.slice Ao62 t263.length co62 : Value).ownBlock ∧ some k_ ≠ (.slice Ao67 t264.length co67 : Value).ownBlock ∧ some k_ ≠ (.slice Ao72 t266.length co72 : Value).ownBlock ∧ some k_ ≠ (.slice Ao78 t267.length co78 : Value).ownBlock ∧ some k_ ≠ (.slice Ao82 t237.length co82 : Value).ownBlock ∧ some k_ ≠ (.slice Ao89 t240.length co89 : Value).ownBlock) (Kd.R_keptB (HO_221000.out) hkp (fun k_ hk_ hs_ => Or.elim hs_ (fun e_ => (hk_.2.2.2.2.2.1) e_) (fun e_ => (hk_.2.2.2.2.2.2) e_))) (fun k_ hk_ => ⟨hk_.1.1, hk_.1.2.1, hk_.1.2.2.1, hk_.1.2.2.2.1, hk_.1.2.2.2.2.1, hk_.1.2.2.2.2.2.1, hk_.1.2.2.2.2.2.2⟩)); have n1_ := Aside0.mk (Kd.R_mono (ok' := fun k_ => some k_ ≠ (.slice Ao53 t213.length co53 : Value).ownBlock ∧ some k_ ≠ (.slice Ao62 t263.length co62 : Value).ownBlock ∧ some k_ ≠ (.slice Ao67 t264.length co67 : Value).ownBlock ∧ some k_ ≠ (.slice Ao72 t266.length co72 : Value).ownBlock ∧ some k_ ≠ (.slice Ao78 t267.length co78 : Value).ownBlock ∧ some k_ ≠ (.slice Ao82 t237.length co82 : Value).ownBlock ∧ some k_ ≠ (.slice Ao89 t240.length co89 : Value).ownBlock) (Kd.R_keptB (HO_221001.out) hkp (fun k_ hk_ hs_ => Or.elim hs_ (fun e_ => (hk_.2.2.2.2.2.1) e_) (fun e_ => (hk_.2.2.2.2.2.2) e_))) (fun k_ hk_ => ⟨hk_.1.1, hk_.1.2.1, hk_.1.2.2.1, hk_.1.2.2.2.1, hk_.1.2.2.2.2.1, hk_.1.2.2.2.2.2.1, hk_.1.2.2.2.2.2.2⟩)); have n2_ := Aside0.mk (Kd.R_mono (ok' := fun k_ => some k_ ≠ (.slice Ao53 t213.length co53 : Value).ownBlock ∧ some k_ ≠ (.slice Ao55 t216.length co55 : Value).ownBlock ∧ some k_ ≠ (.slice Ao67 t264.length co67 : Value).ownBlock ∧ some k_ ≠ (.slice Ao72 t266.length co72 : Value).ownBlock ∧ some k_ ≠ (.slice Ao78 t267.length co78 : Value).ownBlock ∧ some k_ ≠ (.slice Ao82 t237.length co82 : Value).ownBlock ∧ some k_ ≠ (.slice Ao89 t240.length co89 : Value).ownBlock) (Kd.R_keptB (HO_229000.out) hkp (fun k_ hk_ hs_ => Or.elim hs_ (fun e_ => (hk_.2.2.2.2.2.1) e_) (fun e_ => (hk_.2.2.2.2.2.2) e_))) (fun k_ hk_ => ⟨hk_.1.1, hk_.1.2.1, hk_.1.2.2.1, hk_.1.2.2.2.1, hk_.1.2.2.2.2.1, hk_.1.2.2.2.2.2.1, hk_.1.2.2.2.2.2.2⟩)); have n3_ := Aside0.mk (Kd.R_mono (ok' := fun k_ => some k_ ≠ (.slice Ao53 t213.length co53 : Value).ownBlock ∧ some k_ ≠ (.slice Ao55 t216.length co55 : Value).ownBlock ∧ some k_ ≠ (.slice Ao62 t263.length co62 : Value).ownBlock ∧ some k_ ≠ (.slice Ao72 t266.length co72 : Value).ownBlock ∧ some k_ ≠ (.slice Ao78 t267.length co78 : Value).ownBlock ∧ some k_ ≠ (.slice Ao82 t237.length co82 : Value).ownBlock ∧ some k_ ≠ (.slice Ao89 t240.length co89 : Value).ownBlock) (Kd.R_keptB (HO_229001.out) hkp (fun k_ hk_ hs_ => Or.elim hs_ (fun e_ => (hk_.2.2.2.2.2.1) e_) (fun e_ => (hk_.2.2.2.2.2.2) e_))) (fun k_ hk_ => ⟨hk_.1.1, hk_.1.2.1, hk_.1.2.2.1, hk_.1.2.2.2.1, hk_.1.2.2.2.2.1, hk_.1.2.2.2.2.2.1, hk_.1.2.2.2.2.2.2⟩)); have n4_ := Aside0.mk (Kd.R_mono (ok' := fun k_ => some k_ ≠ (.slice Ao53 t213.length co53 : Value).ownBlock ∧ some k_ ≠ (.slice Ao55 t216.length co55 : Value).ownBlock ∧ some k_ ≠ (.slice Ao62 t263.length co62 : Value).ownBlock ∧ some k_ ≠ (.slice Ao67 t264.length co67 : Value).ownBlock ∧ some k_ ≠ (.slice Ao78 t267.length co78 : Value).ownBlock ∧ some k_ ≠ (.slice Ao82 t237.length co82 : Value).ownBlock ∧ some k_ ≠ (.slice Ao89 t240.length co89 : Value).ownBlock) (Kd.R_keptB (HO_237000.out) hkp (fun k_ hk_ hs_ => Or.elim hs_ (fun e_ => (hk_.2.2.2.2.2.1) e_) (fun e_ => (hk_.2.2.2.2.2.2) e_))) (fun k_ hk_ => ⟨hk_.1.1, hk_.1.2.1, hk_.1.2.2.1, hk_.1.2.2.2.1, hk_.1.2.2.2.2.1, hk_.1.2.2.2.2.2.1, hk_.1.2.2.2.2.2.2⟩)); have n5_ := Aside0.mk (Kd.R_mono (ok' := fun k_ => some k_ ≠ (.slice Ao53 t213.length co53 : Value).ownBlock ∧ some k_ ≠ (.slice Ao55 t216.length co55 : Value).ownBlock ∧ some k_ ≠ (.slice Ao62 t263.length co62 : Value).ownBlock ∧ some k_ ≠ (.slice Ao67 t264.length co67 : Value).ownBlock ∧ some k_ ≠ (.slice Ao72 t266.length co72 : Value).ownBlock ∧ some k_ ≠ (.slice Ao82 t237.length co82 : Value).ownBlock ∧ some k_ ≠ (.slice Ao89 t240.length co89 : Value).ownBlock) (Kd.R_keptB (HO_237001.out) hkp (fun k_ hk_ hs_ => Or.elim hs_ (fun e_ => (hk_.2.2.2.2.2.1) e_) (fun e_ => (hk_.2.2.2.2.2.2) e_))) (fun k_ hk_ => ⟨hk_.1.1, hk_.1.2.1, hk_.1.2.2.1, hk_.1.2.2.2.1, hk_.1.2.2.2.2.1, hk_.1.2.2.2.2.2.1, hk_.1.2.2.2.2.2.2⟩)); have n6_ := Aside0.mk (Kd.R_reok rfl hy0 (fun k_ e_ => HO_245000.out.1 k_ e_)); have n7_ := Aside0.mk (Kd.R_reok rfl hy1 (fun k_ e_ => HO_245001.out.1 k_ e_)); have n8_ := Aside0.mk (blk_kept (by exact lK <| BK195.out) hkp (fun hs_ => Or.elim hs_ (fun e_ => (fun e_ => (Kd.R_ne HO_245000.out BK195.out (by decide)) e_) e_) (fun e_ => (fun e_ => (Kd.R_ne HO_245001.out BK195.out (by decide)) e_) e_))); have n9_ := Aside0.mk (blk_kept (by exact lK <| BK196.out) hkp (fun hs_ => Or.elim hs_ (fun e_ => (fun e_ => (Kd.R_ne HO_245000.out BK196.out (by decide)) e_) e_) (fun e_ => (fun e_ => (Kd.R_ne HO_245001.out BK196.out (by decide)) e_) e_))); have n10_ := Aside0.mk (blk_kept (by exact lK <| BK220.out) hkp (fun hs_ => Or.elim hs_ (fun e_ => (fun e_ => (Kd.R_ne HO_245000.out BK220.out (by decide)) e_) e_) (fun e_ => (fun e_ => (Kd.R_ne HO_245001.out BK220.out (by decide)) e_) e_))); have n11_ := Aside0.mk (blk_kept (by exact lK <| BK228.out) hkp (fun hs_ => Or.elim hs_ (fun e_ => (fun e_ => (Kd.R_ne HO_245000.out BK228.out (by decide)) e_) e_) (fun e_ => (fun e_ => (Kd.R_ne HO_245001.out BK228.out (by decide)) e_) e_))); have n12_ := Aside0.mk (blk_kept (by exact lK <| BK236.out) hkp (fun hs_ => Or.elim hs_ (fun e_ => (fun e_ => (Kd.R_ne HO_245000.out BK236.out (by decide)) e_) e_) (fun e_ => (fun e_ => (Kd.R_ne HO_245001.out BK236.out (by decide)) e_) e_))); have n13_ := Aside0.mk (blk_kept (by exact lK <| BK244.out) hkp (fun hs_ => Or.elim hs_ (fun e_ => (fun e_ => (Kd.R_ne HO_245000.out BK244.out (by decide)) e_) e_) (fun e_ => (fun e_ => (Kd.R_ne HO_245001.out BK244.out (by decide)) e_) e_))); have n14_ := Aside0.mk (hb); clear HO_221000; clear HO_221001; clear HO_229000; clear HO_229001; clear HO_237000; clear HO_237001; clear HO_245000; clear HO_245001; clear BK195; clear BK196; clear BK220; clear BK228; clear BK236; clear BK244; clear HB; have HO_221000 := n0_; have HO_221001 := n1_; have HO_229000 := n2_; have HO_229001 := n3_; have HO_237000 := n4_; have HO_237001 := n5_; have HO_245000 := n6_; have HO_245001 := n7_; have BK195 := n8_; have BK196 := n9_; have BK220 := n10_; have BK228 := n11_; have BK236 := n12_; have BK244 := n13_; have HB := n14_; clear n0_ n1_ n2_ n3_ n4_ n5_ n6_ n7_ n8_ n9_ n10_ n11_ n12_ n13_ n14_; (try clear hb); (try clear hkp); (try clear hy0); (try clear hy1); have hcz140_0 : w139.cell? ⟨gb244, 0, none⟩ = some (.slice Ao82 t237.length co82) := (blk_cell BK244.out 0).trans rfl; have hcz140_1 : w139.cell? ⟨gb244, 1, none⟩ = some (.slice Ao89 t240.length co89) := (blk_cell BK244.out 1).trans rfl; have hcz140_2 : w139.cell? ⟨gb244, 2, none⟩ = some (.int .i64 t243) := (blk_cell BK244.out 2).trans rfl; have hfz140_0 := blk_frozen BK244.out 0; have hfz140_1 := blk_frozen BK244.out 1; have hfz140_2 := blk_frozen BK244.out 2) | ((with_reducible refine gate_callee (f := 14) rfl ?_); refine goesL_ (some 69) rfl rfl Try.func14 (by kernel_rfl) rfl #[.agg #[.slice Ao82 t270.length co82, .slice Ao89 t271.length co89, .int .i64 t243], .int .i64 1] rfl (by (try simp only [List.map_toArray, List.map_cons, List.map_nil]); first | done | (rw [show t270.length = t237.length from (Kd.R_reads' HO_245000.out).1.symm, show t271.length = t240.length from (Kd.R_reads' HO_245001.out).1.symm] <;> rfl) | rfl | (simp only [List.length_drop, List.length_take]; rfl)) ?_; (with_reducible refine (laws_heldFrmForm.calls kj34 _ _ t270 _ _ t271 t243 1 t272 _ ?side1 ?side2 ?side3 ?side4 A122.out).mono ?_); (case side1 => exact lC <| (Kd.R_reads' HO_245000.out).2.2); (case side2 => rw [show t270.length = t237.length from (Kd.R_reads' HO_245000.out).1.symm]; exact (Kd.R_reads' HO_245000.out).2.1); (case side3 => exact lC <| (Kd.R_reads' HO_245001.out).2.2); (case side4 => rw [show t271.length = t240.length from (Kd.R_reads' HO_245001.out).1.symm]; exact (Kd.R_reads' HO_245001.out).2.1); rintro e w141 ⟨rfl, hb⟩; refine ⟨_, rfl, ?_⟩; have n0_ := Aside0.mk (Kd.R_below (by exact lR <| HO_221000.out) hb); have n1_ := Aside0.mk (Kd.R_below (by exact lR <| HO_221001.out) hb); have n2_ := Aside0.mk (Kd.R_below (by exact lR <| HO_229000.out) hb); have n3_ := Aside0.mk (Kd.R_below (by exact lR <| HO_229001.out) hb); have n4_ := Aside0.mk (Kd.R_below (by exact lR <| HO_237000.out) hb); have n5_ := Aside0.mk (Kd.R_below (by exact lR <| HO_237001.out) hb); have n6_ := Aside0.mk (Kd.R_below (by exact lR <| HO_245000.out) hb); have n7_ := Aside0.mk (Kd.R_below (by exact lR <| HO_245001.out) hb); have n8_ := Aside0.mk (blk_below (g := gb195) (o := .cells #[.slice A0_0 l0_0.length c0_0, .slice A0_1 l0_1.length c0_1, .int .i64 a0_2] 24 (0, 0)) (by exact lK <| BK195.out) hb); have n9_ := Aside0.mk (blk_below (g := gb196) (o := .cells #[.slice A1_0 l1_0.length c1_0, .slice A1_1 l1_1.length c1_1, .int .i64 a1_2] 24 (0, 0)) (by exact lK <| BK196.out) hb); have n10_ := Aside0.mk (blk_below (g := gb220) (o := .cells #[.slice Ao53 t213.length co53, .slice Ao55 t216.length co55, .int .i64 t219] 26 (0, 0)) (by exact lK <| BK220.out) hb); have n11_ := Aside0.mk (blk_below (g := gb228) (o := .cells #[.slice Ao62 t263.length co62, .slice Ao67 t264.length co67, .int .i64 t227] 26 (0, 0)) (by exact lK <| BK228.out) hb); have n12_ := Aside0.mk (blk_below (g := gb236) (o := .cells #[.slice Ao72 t266.length co72, .slice Ao78 t267.length co78, .int .i64 t235] 26 (0, 0)) (by exact lK <| BK236.out) hb); have n13_ := Aside0.mk (blk_below (g := gb244) (o := .cells #[.slice Ao82 t237.length co82, .slice Ao89 t240.length co89, .int .i64 t243] 26 (0, 0)) (by exact lK <| BK244.out) hb); have n14_ := Aside0.mk (below_step (by repeat (first | (with_reducible first | exact HB.out | apply below_alloc | apply pw_below_drewN | apply below_drew1 | refine below_set ?_ (by first | exact GE195.out | exact GE196.out | exact GE220.out | exact GE228.out | exact GE236.out | exact GE244.out)) | exact HB.out)) hb); clear HO_221000; clear HO_221001; clear HO_229000; clear HO_229001; clear HO_237000; clear HO_237001; clear HO_245000; clear HO_245001; clear BK195; clear BK196; clear BK220; clear BK228; clear BK236; clear BK244; clear HB; have HO_221000 := n0_; have HO_221001 := n1_; have HO_229000 := n2_; have HO_229001 := n3_; have HO_237000 := n4_; have HO_237001 := n5_; have HO_245000 := n6_; have HO_245001 := n7_; have BK195 := n8_; have BK196 := n9_; have BK220 := n10_; have BK228 := n11_; have BK236 := n12_; have BK244 := n13_; have HB := n14_; clear n0_ n1_ n2_ n3_ n4_ n5_ n6_ n7_ n8_ n9_ n10_ n11_ n12_ n13_ n14_; (try clear hb); (try clear hb2); (try clear hk); (try clear hi)))
                have n0_ := Aside0.mk (Kd.R_drew HO_221000.out)
                have n1_ := Aside0.mk (Kd.R_drew HO_221001.out)
                have n2_ := Aside0.mk (Kd.R_drew HO_229000.out)
                have n3_ := Aside0.mk (Kd.R_drew HO_229001.out)
                have n4_ := Aside0.mk (Kd.R_drew HO_237000.out)
                have n5_ := Aside0.mk (Kd.R_drew HO_237001.out)
                have n6_ := Aside0.mk (Kd.R_drew HO_245000.out)
                have n7_ := Aside0.mk (Kd.R_drew HO_245001.out)
                have n8_ := Aside0.mk (blk_drew BK195.out)
                have n9_ := Aside0.mk (blk_drew BK196.out)
                have n10_ := Aside0.mk (blk_drew BK220.out)
                have n11_ := Aside0.mk (blk_drew BK228.out)
                have n12_ := Aside0.mk (blk_drew BK236.out)
                have n13_ := Aside0.mk (blk_drew BK244.out)
                have n14_ := Aside0.mk (below_drew1 HB.out)
                clear HO_221000
                clear HO_221001
                clear HO_229000
                clear HO_229001
                clear HO_237000
                clear HO_237001
                clear HO_245000
                clear HO_245001
                clear BK195
                clear BK196
                clear BK220
                clear BK228
                clear BK236
                clear BK244
                clear HB
                have HO_221000 := n0_
                have HO_221001 := n1_
                have HO_229000 := n2_
                have HO_229001 := n3_
                have HO_237000 := n4_
                have HO_237001 := n5_
                have HO_245000 := n6_
                have HO_245001 := n7_
                have BK195 := n8_
                have BK196 := n9_
                have BK220 := n10_
                have BK228 := n11_
                have BK236 := n12_
                have BK244 := n13_
                have HB := n14_
                clear n0_ n1_ n2_ n3_ n4_ n5_ n6_ n7_ n8_ n9_ n10_ n11_ n12_ n13_ n14_
                refine start_ (n := 7) (S := fun w' => w'.cell? ⟨gb195, 0, none⟩ = some (.slice A0_0 l0_0.length c0_0) ∧ w'.cell? ⟨gb195, 1, none⟩ = some (.slice A0_1 l0_1.length c0_1) ∧ w'.cell? ⟨gb195, 2, none⟩ = some (.int .i64 a0_2) ∧ w'.cell? ⟨gb196, 0, none⟩ = some (.slice A1_0 l1_0.length c1_0) ∧ w'.cell? ⟨gb196, 1, none⟩ = some (.slice A1_1 l1_1.length c1_1) ∧ w'.cell? ⟨gb196, 2, none⟩ = some (.int .i64 a1_2)) (ds := []) #[false, false, false, false, false, false, false] (by kernel_rfl) rfl rfl ⟨(blk_cell BK195.out 0).trans rfl, (blk_cell BK195.out 1).trans rfl, (blk_cell BK195.out 2).trans rfl, (blk_cell BK196.out 0).trans rfl, (blk_cell BK196.out 1).trans rfl, (blk_cell BK196.out 2).trans rfl⟩ (fun hHeld => ?_)
                generalize w141.drew = w142 at HO_221000 HO_221001 HO_229000 HO_229001 HO_237000 HO_237001 HO_245000 HO_245001 BK195 BK196 BK220 BK228 BK236 BK244 HB hHeld ⊢
                refine take_ (i := 0) (N := some 75) (v := ?_) (a' := ?_) #[true, false, false, false, false, false, false] rfl rfl (by kernel_rfl) (fun _ _ _ h => h) (Or.inl ⟨by rfl, ?_⟩) hHeld ?_ ?_
                rotate_left
                · rintro w' ⟨s0, s1, s2, s3, s4, s5⟩
                  go_simp
                  with_reducible rfl
                rotate_left
                · simp only [Act.put, List.setIfInBounds_toArray, List.set_cons_zero, List.set_cons_succ, i64_w, i32_w]
                  rfl
                refine take_ (i := 2) (N := some 77) (v := ?_) (a' := ?_) #[true, false, true, false, false, false, false] rfl rfl (by kernel_rfl) (fun _ _ _ h => h) (Or.inl ⟨by rfl, ?_⟩) hHeld ?_ ?_
                rotate_left
                · rintro w' ⟨s0, s1, s2, s3, s4, s5⟩
                  go_simp
                  with_reducible rfl
                rotate_left
                · simp only [Act.put, List.setIfInBounds_toArray, List.set_cons_zero, List.set_cons_succ, i64_w, i32_w]
                  rfl
                refine join_ (σ := Value × Value × Value × Value × Value × Value × Nat) 1 #[true, true, true, true, true, true, false] (fun s_ => [(76, .agg #[s_.1, s_.2.1, .int .i64 t279]), (78, .agg #[s_.2.2.1, s_.2.2.2.1, .int .i64 t286]), (79, .agg #[s_.2.2.2.2.1, s_.2.2.2.2.2.1, .int .i64 t293]), (13, .pointer (some ⟨s_.2.2.2.2.2.2, 0, none⟩))]) (fun s_ w' => (w'.cell? ⟨gb195, 0, none⟩ = some (.slice A0_0 l0_0.length c0_0) ∧ w'.cell? ⟨gb195, 1, none⟩ = some (.slice A0_1 l0_1.length c0_1) ∧ w'.cell? ⟨gb195, 2, none⟩ = some (.int .i64 a0_2) ∧ w'.cell? ⟨gb196, 0, none⟩ = some (.slice A1_0 l1_0.length c1_0) ∧ w'.cell? ⟨gb196, 1, none⟩ = some (.slice A1_1 l1_1.length c1_1) ∧ w'.cell? ⟨gb196, 2, none⟩ = some (.int .i64 a1_2)) ∧ (Kd.R (Kd.int .i64) 3 w' w.heap.size (fun k_ => some k_ ≠ (s_.2.1 : Value).ownBlock ∧ some k_ ≠ (s_.2.2.1 : Value).ownBlock ∧ some k_ ≠ (s_.2.2.2.1 : Value).ownBlock ∧ some k_ ≠ (s_.2.2.2.2.1 : Value).ownBlock ∧ some k_ ≠ (s_.2.2.2.2.2.1 : Value).ownBlock ∧ some k_ ≠ (.slice Ao53 t213.length co53 : Value).ownBlock ∧ some k_ ≠ (.slice Ao55 t216.length co55 : Value).ownBlock ∧ some k_ ≠ (.slice Ao62 t263.length co62 : Value).ownBlock ∧ some k_ ≠ (.slice Ao67 t264.length co67 : Value).ownBlock ∧ some k_ ≠ (.slice Ao72 t266.length co72 : Value).ownBlock ∧ some k_ ≠ (.slice Ao78 t267.length co78 : Value).ownBlock ∧ some k_ ≠ (.slice Ao82 t237.length co82 : Value).ownBlock ∧ some k_ ≠ (.slice Ao89 t240.length co89 : Value).ownBlock) s_.1 t273) ∧ (Kd.R (Kd.int .i64) 3 w' w.heap.size (fun k_ => some k_ ≠ (s_.1 : Value).ownBlock ∧ some k_ ≠ (s_.2.2.1 : Value).ownBlock ∧ some k_ ≠ (s_.2.2.2.1 : Value).ownBlock ∧ some k_ ≠ (s_.2.2.2.2.1 : Value).ownBlock ∧ some k_ ≠ (s_.2.2.2.2.2.1 : Value).ownBlock ∧ some k_ ≠ (.slice Ao53 t213.length co53 : Value).ownBlock ∧ some k_ ≠ (.slice Ao55 t216.length co55 : Value).ownBlock ∧ some k_ ≠ (.slice Ao62 t263.length co62 : Value).ownBlock ∧ some k_ ≠ (.slice Ao67 t264.length co67 : Value).ownBlock ∧ some k_ ≠ (.slice Ao72 t266.length co72 : Value).ownBlock ∧ some k_ ≠ (.slice Ao78 t267.length co78 : Value).ownBlock ∧ some k_ ≠ (.slice Ao82 t237.length co82 : Value).ownBlock ∧ some k_ ≠ (.slice Ao89 t240.length co89 : Value).ownBlock) s_.2.1 t276) ∧ (Kd.R (Kd.int .i64) 3 w' w.heap.size (fun k_ => some k_ ≠ (s_.1 : Value).ownBlock ∧ some k_ ≠ (s_.2.1 : Value).ownBlock ∧ some k_ ≠ (s_.2.2.2.1 : Value).ownBlock ∧ some k_ ≠ (s_.2.2.2.2.1 : Value).ownBlock ∧ some k_ ≠ (s_.2.2.2.2.2.1 : Value).ownBlock ∧ some k_ ≠ (.slice Ao53 t213.length co53 : Value).ownBlock ∧ some k_ ≠ (.slice Ao55 t216.length co55 : Value).ownBlock ∧ some k_ ≠ (.slice Ao62 t263.length co62 : Value).ownBlock ∧ some k_ ≠ (.slice Ao67 t264.length co67 : Value).ownBlock ∧ some k_ ≠ (.slice Ao72 t266.length co72 : Value).ownBlock ∧ some k_ ≠ (.slice Ao78 t267.length co78 : Value).ownBlock ∧ some k_ ≠ (.slice Ao82 t237.length co82 : Value).ownBlock ∧ some k_ ≠ (.slice Ao89 t240.length co89 : Value).ownBlock) s_.2.2.1 t280) ∧ (Kd.R (Kd.int .i64) 3 w' w.heap.size (fun k_ => some k_ ≠ (s_.1 : Value).ownBlock ∧ some k_ ≠ (s_.2.1 : Value).ownBlock ∧ some k_ ≠ (s_.2.2.1 : Value).ownBlock ∧ some k_ ≠ (s_.2.2.2.2.1 : Value).ownBlock ∧ some k_ ≠ (s_.2.2.2.2.2.1 : Value).ownBlock ∧ some k_ ≠ (.slice Ao53 t213.length co53 : Value).ownBlock ∧ some k_ ≠ (.slice Ao55 t216.length co55 : Value).ownBlock ∧ some k_ ≠ (.slice Ao62 t263.length co62 : Value).ownBlock ∧ some k_ ≠ (.slice Ao67 t264.length co67 : Value).ownBlock ∧ some k_ ≠ (.slice Ao72 t266.length co72 : Value).ownBlock ∧ some k_ ≠ (.slice Ao78 t267.length co78 : Value).ownBlock ∧ some k_ ≠ (.slice Ao82 t237.length co82 : Value).ownBlock ∧ some k_ ≠ (.slice Ao89 t240.length co89 : Value).ownBlock) s_.2.2.2.1 t283) ∧ (Kd.R (Kd.int .i64) 3 w' w.heap.size (fun k_ => some k_ ≠ (s_.1 : Value).ownBlock ∧ some k_ ≠ (s_.2.1 : Value).ownBlock ∧ some k_ ≠ (s_.2.2.1 : Value).ownBlock ∧ some k_ ≠ (s_.2.2.2.1 : Value).ownBlock ∧ some k_ ≠ (s_.2.2.2.2.2.1 : Value).ownBlock ∧ some k_ ≠ (.slice Ao53 t213.length co53 : Value).ownBlock ∧ some k_ ≠ (.slice Ao55 t216.length co55 : Value).ownBlock ∧ some k_ ≠ (.slice Ao62 t263.length co62 : Value).ownBlock ∧ some k_ ≠ (.slice Ao67 t264.length co67 : Value).ownBlock ∧ some k_ ≠ (.slice Ao72 t266.length co72 : Value).ownBlock ∧ some k_ ≠ (.slice Ao78 t267.length co78 : Value).ownBlock ∧ some k_ ≠ (.slice Ao82 t237.length co82 : Value).ownBlock ∧ some k_ ≠ (.slice Ao89 t240.length co89 : Value).ownBlock) s_.2.2.2.2.1 t287) ∧ (Kd.R (Kd.int .i64) 3 w' w.heap.size (fun k_ => some k_ ≠ (s_.1 : Value).ownBlock ∧ some k_ ≠ (s_.2.1 : Value).ownBlock ∧ some k_ ≠ (s_.2.2.1 : Value).ownBlock ∧ some k_ ≠ (s_.2.2.2.1 : Value).ownBlock ∧ some k_ ≠ (s_.2.2.2.2.1 : Value).ownBlock ∧ some k_ ≠ (.slice Ao53 t213.length co53 : Value).ownBlock ∧ some k_ ≠ (.slice Ao55 t216.length co55 : Value).ownBlock ∧ some k_ ≠ (.slice Ao62 t263.length co62 : Value).ownBlock ∧ some k_ ≠ (.slice Ao67 t264.length co67 : Value).ownBlock ∧ some k_ ≠ (.slice Ao72 t266.length co72 : Value).ownBlock ∧ some k_ ≠ (.slice Ao78 t267.length co78 : Value).ownBlock ∧ some k_ ≠ (.slice Ao82 t237.length co82 : Value).ownBlock ∧ some k_ ≠ (.slice Ao89 t240.length co89 : Value).ownBlock) s_.2.2.2.2.2.1 t290) ∧ (Kd.R (Kd.int .i64) 3 w' w.heap.size (fun k_ => some k_ ≠ (s_.1 : Value).ownBlock ∧ some k_ ≠ (s_.2.1 : Value).ownBlock ∧ some k_ ≠ (s_.2.2.1 : Value).ownBlock ∧ some k_ ≠ (s_.2.2.2.1 : Value).ownBlock ∧ some k_ ≠ (s_.2.2.2.2.1 : Value).ownBlock ∧ some k_ ≠ (s_.2.2.2.2.2.1 : Value).ownBlock ∧ some k_ ≠ (.slice Ao55 t216.length co55 : Value).ownBlock ∧ some k_ ≠ (.slice Ao62 t263.length co62 : Value).ownBlock ∧ some k_ ≠ (.slice Ao67 t264.length co67 : Value).ownBlock ∧ some k_ ≠ (.slice Ao72 t266.length co72 : Value).ownBlock ∧ some k_ ≠ (.slice Ao78 t267.length co78 : Value).ownBlock ∧ some k_ ≠ (.slice Ao82 t237.length co82 : Value).ownBlock ∧ some k_ ≠ (.slice Ao89 t240.length co89 : Value).ownBlock) (.slice Ao53 t213.length co53) t213) ∧ (Kd.R (Kd.int .i64) 3 w' w.heap.size (fun k_ => some k_ ≠ (s_.1 : Value).ownBlock ∧ some k_ ≠ (s_.2.1 : Value).ownBlock ∧ some k_ ≠ (s_.2.2.1 : Value).ownBlock ∧ some k_ ≠ (s_.2.2.2.1 : Value).ownBlock ∧ some k_ ≠ (s_.2.2.2.2.1 : Value).ownBlock ∧ some k_ ≠ (s_.2.2.2.2.2.1 : Value).ownBlock ∧ some k_ ≠ (.slice Ao53 t213.length co53 : Value).ownBlock ∧ some k_ ≠ (.slice Ao62 t263.length co62 : Value).ownBlock ∧ some k_ ≠ (.slice Ao67 t264.length co67 : Value).ownBlock ∧ some k_ ≠ (.slice Ao72 t266.length co72 : Value).ownBlock ∧ some k_ ≠ (.slice Ao78 t267.length co78 : Value).ownBlock ∧ some k_ ≠ (.slice Ao82 t237.length co82 : Value).ownBlock ∧ some k_ ≠ (.slice Ao89 t240.length co89 : Value).ownBlock) (.slice Ao55 t216.length co55) t216) ∧ (Kd.R (Kd.int .i64) 3 w' w.heap.size (fun k_ => some k_ ≠ (s_.1 : Value).ownBlock ∧ some k_ ≠ (s_.2.1 : Value).ownBlock ∧ some k_ ≠ (s_.2.2.1 : Value).ownBlock ∧ some k_ ≠ (s_.2.2.2.1 : Value).ownBlock ∧ some k_ ≠ (s_.2.2.2.2.1 : Value).ownBlock ∧ some k_ ≠ (s_.2.2.2.2.2.1 : Value).ownBlock ∧ some k_ ≠ (.slice Ao53 t213.length co53 : Value).ownBlock ∧ some k_ ≠ (.slice Ao55 t216.length co55 : Value).ownBlock ∧ some k_ ≠ (.slice Ao67 t264.length co67 : Value).ownBlock ∧ some k_ ≠ (.slice Ao72 t266.length co72 : Value).ownBlock ∧ some k_ ≠ (.slice Ao78 t267.length co78 : Value).ownBlock ∧ some k_ ≠ (.slice Ao82 t237.length co82 : Value).ownBlock ∧ some k_ ≠ (.slice Ao89 t240.length co89 : Value).ownBlock) (.slice Ao62 t263.length co62) t263) ∧ (Kd.R (Kd.int .i64) 3 w' w.heap.size (fun k_ => some k_ ≠ (s_.1 : Value).ownBlock ∧ some k_ ≠ (s_.2.1 : Value).ownBlock ∧ some k_ ≠ (s_.2.2.1 : Value).ownBlock ∧ some k_ ≠ (s_.2.2.2.1 : Value).ownBlock ∧ some k_ ≠ (s_.2.2.2.2.1 : Value).ownBlock ∧ some k_ ≠ (s_.2.2.2.2.2.1 : Value).ownBlock ∧ some k_ ≠ (.slice Ao53 t213.length co53 : Value).ownBlock ∧ some k_ ≠ (.slice Ao55 t216.length co55 : Value).ownBlock ∧ some k_ ≠ (.slice Ao62 t263.length co62 : Value).ownBlock ∧ some k_ ≠ (.slice Ao72 t266.length co72 : Value).ownBlock ∧ some k_ ≠ (.slice Ao78 t267.length co78 : Value).ownBlock ∧ some k_ ≠ (.slice Ao82 t237.length co82 : Value).ownBlock ∧ some k_ ≠ (.slice Ao89 t240.length co89 : Value).ownBlock) (.slice Ao67 t264.length co67) t264) ∧ (Kd.R (Kd.int .i64) 3 w' w.heap.size (fun k_ => some k_ ≠ (s_.1 : Value).ownBlock ∧ some k_ ≠ (s_.2.1 : Value).ownBlock ∧ some k_ ≠ (s_.2.2.1 : Value).ownBlock ∧ some k_ ≠ (s_.2.2.2.1 : Value).ownBlock ∧ some k_ ≠ (s_.2.2.2.2.1 : Value).ownBlock ∧ some k_ ≠ (s_.2.2.2.2.2.1 : Value).ownBlock ∧ some k_ ≠ (.slice Ao53 t213.length co53 : Value).ownBlock ∧ some k_ ≠ (.slice Ao55 t216.length co55 : Value).ownBlock ∧ some k_ ≠ (.slice Ao62 t263.length co62 : Value).ownBlock ∧ some k_ ≠ (.slice Ao67 t264.length co67 : Value).ownBlock ∧ some k_ ≠ (.slice Ao78 t267.length co78 : Value).ownBlock ∧ some k_ ≠ (.slice Ao82 t237.length co82 : Value).ownBlock ∧ some k_ ≠ (.slice Ao89 t240.length co89 : Value).ownBlock) (.slice Ao72 t266.length co72) t266) ∧ (Kd.R (Kd.int .i64) 3 w' w.heap.size (fun k_ => some k_ ≠ (s_.1 : Value).ownBlock ∧ some k_ ≠ (s_.2.1 : Value).ownBlock ∧ some k_ ≠ (s_.2.2.1 : Value).ownBlock ∧ some k_ ≠ (s_.2.2.2.1 : Value).ownBlock ∧ some k_ ≠ (s_.2.2.2.2.1 : Value).ownBlock ∧ some k_ ≠ (s_.2.2.2.2.2.1 : Value).ownBlock ∧ some k_ ≠ (.slice Ao53 t213.length co53 : Value).ownBlock ∧ some k_ ≠ (.slice Ao55 t216.length co55 : Value).ownBlock ∧ some k_ ≠ (.slice Ao62 t263.length co62 : Value).ownBlock ∧ some k_ ≠ (.slice Ao67 t264.length co67 : Value).ownBlock ∧ some k_ ≠ (.slice Ao72 t266.length co72 : Value).ownBlock ∧ some k_ ≠ (.slice Ao82 t237.length co82 : Value).ownBlock ∧ some k_ ≠ (.slice Ao89 t240.length co89 : Value).ownBlock) (.slice Ao78 t267.length co78) t267) ∧ (Kd.R (Kd.int .i64) 3 w' w.heap.size (fun k_ => some k_ ≠ (s_.1 : Value).ownBlock ∧ some k_ ≠ (s_.2.1 : Value).ownBlock ∧ some k_ ≠ (s_.2.2.1 : Value).ownBlock ∧ some k_ ≠ (s_.2.2.2.1 : Value).ownBlock ∧ some k_ ≠ (s_.2.2.2.2.1 : Value).ownBlock ∧ some k_ ≠ (s_.2.2.2.2.2.1 : Value).ownBlock ∧ some k_ ≠ (.slice Ao53 t213.length co53 : Value).ownBlock ∧ some k_ ≠ (.slice Ao55 t216.length co55 : Value).ownBlock ∧ some k_ ≠ (.slice Ao62 t263.length co62 : Value).ownBlock ∧ some k_ ≠ (.slice Ao67 t264.length co67 : Value).ownBlock ∧ some k_ ≠ (.slice Ao72 t266.length co72 : Value).ownBlock ∧ some k_ ≠ (.slice Ao78 t267.length co78 : Value).ownBlock ∧ some k_ ≠ (.slice Ao89 t240.length co89 : Value).ownBlock) (.slice Ao82 t237.length co82) t270) ∧ (Kd.R (Kd.int .i64) 3 w' w.heap.size (fun k_ => some k_ ≠ (s_.1 : Value).ownBlock ∧ some k_ ≠ (s_.2.1 : Value).ownBlock ∧ some k_ ≠ (s_.2.2.1 : Value).ownBlock ∧ some k_ ≠ (s_.2.2.2.1 : Value).ownBlock ∧ some k_ ≠ (s_.2.2.2.2.1 : Value).ownBlock ∧ some k_ ≠ (s_.2.2.2.2.2.1 : Value).ownBlock ∧ some k_ ≠ (.slice Ao53 t213.length co53 : Value).ownBlock ∧ some k_ ≠ (.slice Ao55 t216.length co55 : Value).ownBlock ∧ some k_ ≠ (.slice Ao62 t263.length co62 : Value).ownBlock ∧ some k_ ≠ (.slice Ao67 t264.length co67 : Value).ownBlock ∧ some k_ ≠ (.slice Ao72 t266.length co72 : Value).ownBlock ∧ some k_ ≠ (.slice Ao78 t267.length co78 : Value).ownBlock ∧ some k_ ≠ (.slice Ao82 t237.length co82 : Value).ownBlock) (.slice Ao89 t240.length co89) t271) ∧ (w'.heap[gb195]? = some (.cells #[.slice A0_0 l0_0.length c0_0, .slice A0_1 l0_1.length c0_1, .int .i64 a0_2] 24 (0, 0))) ∧ (w'.heap[gb196]? = some (.cells #[.slice A1_0 l1_0.length c1_0, .slice A1_1 l1_1.length c1_1, .int .i64 a1_2] 24 (0, 0))) ∧ (w'.heap[gb220]? = some (.cells #[.slice Ao53 t213.length co53, .slice Ao55 t216.length co55, .int .i64 t219] 26 (0, 0))) ∧ (w'.heap[gb228]? = some (.cells #[.slice Ao62 t263.length co62, .slice Ao67 t264.length co67, .int .i64 t227] 26 (0, 0))) ∧ (w'.heap[gb236]? = some (.cells #[.slice Ao72 t266.length co72, .slice Ao78 t267.length co78, .int .i64 t235] 26 (0, 0))) ∧ (w'.heap[gb244]? = some (.cells #[.slice Ao82 t237.length co82, .slice Ao89 t240.length co89, .int .i64 t243] 26 (0, 0))) ∧ (w'.heap[s_.2.2.2.2.2.2]? = some (.cells #[.slice none 0 0, .slice none 0 0, .int .i64 0] 26 (0, 0))) ∧ (w.heap.size ≤ s_.2.2.2.2.2.2) ∧ (w.heap.size ≤ s_.2.2.2.2.2.2) ∧ (gb195 ≠ s_.2.2.2.2.2.2) ∧ (s_.2.2.2.2.2.2 ≠ gb195) ∧ (gb196 ≠ s_.2.2.2.2.2.2) ∧ (s_.2.2.2.2.2.2 ≠ gb196) ∧ (gb220 ≠ s_.2.2.2.2.2.2) ∧ (s_.2.2.2.2.2.2 ≠ gb220) ∧ (gb228 ≠ s_.2.2.2.2.2.2) ∧ (s_.2.2.2.2.2.2 ≠ gb228) ∧ (gb236 ≠ s_.2.2.2.2.2.2) ∧ (s_.2.2.2.2.2.2 ≠ gb236) ∧ (gb244 ≠ s_.2.2.2.2.2.2) ∧ (s_.2.2.2.2.2.2 ≠ gb244) ∧ (Below w.heap.size w w')) ?_ ?_
                rotate_left
                · intro hCont
                  refine two_ (i := 1) (j := 5) (Ni := some 76) (Nj := some 13) #[true, true, true, false, false, false, false] #[true, false, true, false, false, true, false] rfl rfl rfl rfl (by kernel_rfl) (by decide) (by decide) (fun K hK => ?_) (fun K hK => ?_)
                  · skip
                    refine goes_ Try.func10 (by kernel_rfl) rfl #[.agg #[.slice A0_0 l0_0.length c0_0, .slice A0_1 l0_1.length c0_1, .int .i64 a0_2]] (by rfl) rfl rfl (by (try simp only [List.map_toArray, List.map_cons, List.map_nil]); first | done | rfl | (simp only [List.length_drop, List.length_take]; rfl)) ?_
                    with_reducible refine (laws_toFrmForm.calls kj34 _ _ l0_0 _ _ l0_1 a0_2 t273 t276 t279 _ ?side1 ?side2 ?side3 ?side4 A125.out).mono ?_
                    (case side1 => exact lC <| (Kd.C_below HR0_0.out HB.out))
                    (case side2 => exact HC0_0.out)
                    (case side3 => exact lC <| (Kd.C_below HR0_1.out HB.out))
                    (case side4 => exact HC0_1.out)
                    rintro e w143 ⟨v274, v277, rfl, ho0, ho1, hb⟩
                    refine ⟨_, rfl, ?_⟩
                    have n0_ := Aside0.mk (Kd.R_mono (Kd.R_told (Kd.R_told (Kd.R_old (by exact lR <| HO_221000.out) hb) (Kd.R_base ho0)) (Kd.R_base ho1)) (fun _ h_ => h_.1))
                    have n1_ := Aside0.mk (Kd.R_mono (Kd.R_told (Kd.R_told (Kd.R_old (by exact lR <| HO_221001.out) hb) (Kd.R_base ho0)) (Kd.R_base ho1)) (fun _ h_ => h_.1))
                    have n2_ := Aside0.mk (Kd.R_mono (Kd.R_told (Kd.R_told (Kd.R_old (by exact lR <| HO_229000.out) hb) (Kd.R_base ho0)) (Kd.R_base ho1)) (fun _ h_ => h_.1))
                    have n3_ := Aside0.mk (Kd.R_mono (Kd.R_told (Kd.R_told (Kd.R_old (by exact lR <| HO_229001.out) hb) (Kd.R_base ho0)) (Kd.R_base ho1)) (fun _ h_ => h_.1))
                    have n4_ := Aside0.mk (Kd.R_mono (Kd.R_told (Kd.R_told (Kd.R_old (by exact lR <| HO_237000.out) hb) (Kd.R_base ho0)) (Kd.R_base ho1)) (fun _ h_ => h_.1))
                    have n5_ := Aside0.mk (Kd.R_mono (Kd.R_told (Kd.R_told (Kd.R_old (by exact lR <| HO_237001.out) hb) (Kd.R_base ho0)) (Kd.R_base ho1)) (fun _ h_ => h_.1))
                    have n6_ := Aside0.mk (Kd.R_mono (Kd.R_told (Kd.R_told (Kd.R_old (by exact lR <| HO_245000.out) hb) (Kd.R_base ho0)) (Kd.R_base ho1)) (fun _ h_ => h_.1))
                    have n7_ := Aside0.mk (Kd.R_mono (Kd.R_told (Kd.R_told (Kd.R_old (by exact lR <| HO_245001.out) hb) (Kd.R_base ho0)) (Kd.R_base ho1)) (fun _ h_ => h_.1))
                    have n8_ := Aside0.mk (Kd.R_lower (Kd.R_new' (Kd.R_new' (Kd.R_new' (Kd.R_new' (Kd.R_new' (Kd.R_new' (Kd.R_new' (Kd.R_new' ho0 (Kd.R_lt (by exact lR <| HO_221000.out))) (Kd.R_lt (by exact lR <| HO_221001.out))) (Kd.R_lt (by exact lR <| HO_229000.out))) (Kd.R_lt (by exact lR <| HO_229001.out))) (Kd.R_lt (by exact lR <| HO_237000.out))) (Kd.R_lt (by exact lR <| HO_237001.out))) (Kd.R_lt (by exact lR <| HO_245000.out))) (Kd.R_lt (by exact lR <| HO_245001.out))) (below_size (by repeat (first | (with_reducible first | exact HB.out | apply below_alloc | apply pw_below_drewN | apply below_drew1 | refine below_set ?_ (by first | exact GE195.out | exact GE196.out | exact GE220.out | exact GE228.out | exact GE236.out | exact GE244.out)) | exact HB.out))))
                    have n9_ := Aside0.mk (Kd.R_lower (Kd.R_new' (Kd.R_new' (Kd.R_new' (Kd.R_new' (Kd.R_new' (Kd.R_new' (Kd.R_new' (Kd.R_new' ho1 (Kd.R_lt (by exact lR <| HO_221000.out))) (Kd.R_lt (by exact lR <| HO_221001.out))) (Kd.R_lt (by exact lR <| HO_229000.out))) (Kd.R_lt (by exact lR <| HO_229001.out))) (Kd.R_lt (by exact lR <| HO_237000.out))) (Kd.R_lt (by exact lR <| HO_237001.out))) (Kd.R_lt (by exact lR <| HO_245000.out))) (Kd.R_lt (by exact lR <| HO_245001.out))) (below_size (by repeat (first | (with_reducible first | exact HB.out | apply below_alloc | apply pw_below_drewN | apply below_drew1 | refine below_set ?_ (by first | exact GE195.out | exact GE196.out | exact GE220.out | exact GE228.out | exact GE236.out | exact GE244.out)) | exact HB.out))))
                    have n10_ := Aside0.mk (blk_below (g := gb195) (o := .cells #[.slice A0_0 l0_0.length c0_0, .slice A0_1 l0_1.length c0_1, .int .i64 a0_2] 24 (0, 0)) (by exact lK <| BK195.out) hb)
                    have n11_ := Aside0.mk (blk_below (g := gb196) (o := .cells #[.slice A1_0 l1_0.length c1_0, .slice A1_1 l1_1.length c1_1, .int .i64 a1_2] 24 (0, 0)) (by exact lK <| BK196.out) hb)
                    have n12_ := Aside0.mk (blk_below (g := gb220) (o := .cells #[.slice Ao53 t213.length co53, .slice Ao55 t216.length co55, .int .i64 t219] 26 (0, 0)) (by exact lK <| BK220.out) hb)
                    have n13_ := Aside0.mk (blk_below (g := gb228) (o := .cells #[.slice Ao62 t263.length co62, .slice Ao67 t264.length co67, .int .i64 t227] 26 (0, 0)) (by exact lK <| BK228.out) hb)
                    have n14_ := Aside0.mk (blk_below (g := gb236) (o := .cells #[.slice Ao72 t266.length co72, .slice Ao78 t267.length co78, .int .i64 t235] 26 (0, 0)) (by exact lK <| BK236.out) hb)
                    have n15_ := Aside0.mk (blk_below (g := gb244) (o := .cells #[.slice Ao82 t237.length co82, .slice Ao89 t240.length co89, .int .i64 t243] 26 (0, 0)) (by exact lK <| BK244.out) hb)
                    have n16_ := Aside0.mk (below_step (by repeat (first | (with_reducible first | exact HB.out | apply below_alloc | apply pw_below_drewN | apply below_drew1 | refine below_set ?_ (by first | exact GE195.out | exact GE196.out | exact GE220.out | exact GE228.out | exact GE236.out | exact GE244.out)) | exact HB.out)) hb)
                    clear HO_221000
                    clear HO_221001
                    clear HO_229000
                    clear HO_229001
                    clear HO_237000
                    clear HO_237001
                    clear HO_245000
                    clear HO_245001
                    clear BK195
                    clear BK196
                    clear BK220
                    clear BK228
                    clear BK236
                    clear BK244
                    clear HB
                    have HO_221000 := n0_
                    have HO_221001 := n1_
                    have HO_229000 := n2_
                    have HO_229001 := n3_
                    have HO_237000 := n4_
                    have HO_237001 := n5_
                    have HO_245000 := n6_
                    have HO_245001 := n7_
                    have HO275 := n8_
                    have HO278 := n9_
                    have BK195 := n10_
                    have BK196 := n11_
                    have BK220 := n12_
                    have BK228 := n13_
                    have BK236 := n14_
                    have BK244 := n15_
                    have HB := n16_
                    clear n0_ n1_ n2_ n3_ n4_ n5_ n6_ n7_ n8_ n9_ n10_ n11_ n12_ n13_ n14_ n15_ n16_
                    (try clear hb)
                    (try clear hb2)
                    (try clear hk)
                    (try clear hi)
                    (try clear ho0)
                    (try clear ho1)
                    refine hK.out _ _ ⟨(blk_cell BK195.out 0).trans rfl, (blk_cell BK195.out 1).trans rfl, (blk_cell BK195.out 2).trans rfl, (blk_cell BK196.out 0).trans rfl, (blk_cell BK196.out 1).trans rfl, (blk_cell BK196.out 2).trans rfl⟩ (fun hHeld => ?_)
                    clear hK K
                    refine norm_ (a' := ?_) ?_ ?_
                    rotate_left
                    · show Act.put _ (some 76) _ = _
                      simp only [Act.put, List.setIfInBounds_toArray, List.set_cons_zero, List.set_cons_succ, i64_w, i32_w]
                      rfl
                    refine two_ (i := 3) (j := 5) (Ni := some 78) (Nj := some 13) #[true, true, true, true, false, false, false] #[true, true, true, false, false, true, false] rfl rfl rfl rfl (by kernel_rfl) (by decide) (by decide) (fun K hK => ?_) (fun K hK => ?_)
                    · skip
                      refine goes_ Try.func10 (by kernel_rfl) rfl #[.agg #[.slice A1_0 l1_0.length c1_0, .slice A1_1 l1_1.length c1_1, .int .i64 a1_2]] (by rfl) rfl rfl (by (try simp only [List.map_toArray, List.map_cons, List.map_nil]); first | done | rfl | (simp only [List.length_drop, List.length_take]; rfl)) ?_
                      with_reducible refine (laws_toFrmForm.calls kj34 _ _ l1_0 _ _ l1_1 a1_2 t280 t283 t286 _ ?side1 ?side2 ?side3 ?side4 A126.out).mono ?_
                      (case side1 => exact lC <| (Kd.C_below HR1_0.out HB.out))
                      (case side2 => exact HC1_0.out)
                      (case side3 => exact lC <| (Kd.C_below HR1_1.out HB.out))
                      (case side4 => exact HC1_1.out)
                      rintro e w144 ⟨v281, v284, rfl, ho0, ho1, hb⟩
                      refine ⟨_, rfl, ?_⟩
                      have n0_ := Aside0.mk (Kd.R_mono (Kd.R_told (Kd.R_told (Kd.R_old (by exact lR <| HO_221000.out) hb) (Kd.R_base ho0)) (Kd.R_base ho1)) (fun _ h_ => h_.1))
                      have n1_ := Aside0.mk (Kd.R_mono (Kd.R_told (Kd.R_told (Kd.R_old (by exact lR <| HO_221001.out) hb) (Kd.R_base ho0)) (Kd.R_base ho1)) (fun _ h_ => h_.1))
                      have n2_ := Aside0.mk (Kd.R_mono (Kd.R_told (Kd.R_told (Kd.R_old (by exact lR <| HO_229000.out) hb) (Kd.R_base ho0)) (Kd.R_base ho1)) (fun _ h_ => h_.1))
                      have n3_ := Aside0.mk (Kd.R_mono (Kd.R_told (Kd.R_told (Kd.R_old (by exact lR <| HO_229001.out) hb) (Kd.R_base ho0)) (Kd.R_base ho1)) (fun _ h_ => h_.1))
                      have n4_ := Aside0.mk (Kd.R_mono (Kd.R_told (Kd.R_told (Kd.R_old (by exact lR <| HO_237000.out) hb) (Kd.R_base ho0)) (Kd.R_base ho1)) (fun _ h_ => h_.1))
                      have n5_ := Aside0.mk (Kd.R_mono (Kd.R_told (Kd.R_told (Kd.R_old (by exact lR <| HO_237001.out) hb) (Kd.R_base ho0)) (Kd.R_base ho1)) (fun _ h_ => h_.1))
                      have n6_ := Aside0.mk (Kd.R_mono (Kd.R_told (Kd.R_told (Kd.R_old (by exact lR <| HO_245000.out) hb) (Kd.R_base ho0)) (Kd.R_base ho1)) (fun _ h_ => h_.1))
                      have n7_ := Aside0.mk (Kd.R_mono (Kd.R_told (Kd.R_told (Kd.R_old (by exact lR <| HO_245001.out) hb) (Kd.R_base ho0)) (Kd.R_base ho1)) (fun _ h_ => h_.1))
                      have n8_ := Aside0.mk (Kd.R_mono (Kd.R_told (Kd.R_told (Kd.R_old (by exact lR <| HO275.out) hb) (Kd.R_base ho0)) (Kd.R_base ho1)) (fun _ h_ => h_.1))
                      have n9_ := Aside0.mk (Kd.R_mono (Kd.R_told (Kd.R_told (Kd.R_old (by exact lR <| HO278.out) hb) (Kd.R_base ho0)) (Kd.R_base ho1)) (fun _ h_ => h_.1))
                      have n10_ := Aside0.mk (Kd.R_lower (Kd.R_new' (Kd.R_new' (Kd.R_new' (Kd.R_new' (Kd.R_new' (Kd.R_new' (Kd.R_new' (Kd.R_new' (Kd.R_new' (Kd.R_new' ho0 (Kd.R_lt (by exact lR <| HO_221000.out))) (Kd.R_lt (by exact lR <| HO_221001.out))) (Kd.R_lt (by exact lR <| HO_229000.out))) (Kd.R_lt (by exact lR <| HO_229001.out))) (Kd.R_lt (by exact lR <| HO_237000.out))) (Kd.R_lt (by exact lR <| HO_237001.out))) (Kd.R_lt (by exact lR <| HO_245000.out))) (Kd.R_lt (by exact lR <| HO_245001.out))) (Kd.R_lt (by exact lR <| HO275.out))) (Kd.R_lt (by exact lR <| HO278.out))) (below_size (by repeat (first | (with_reducible first | exact HB.out | apply below_alloc | apply pw_below_drewN | apply below_drew1 | refine below_set ?_ (by first | exact GE195.out | exact GE196.out | exact GE220.out | exact GE228.out | exact GE236.out | exact GE244.out)) | exact HB.out))))
                      have n11_ := Aside0.mk (Kd.R_lower (Kd.R_new' (Kd.R_new' (Kd.R_new' (Kd.R_new' (Kd.R_new' (Kd.R_new' (Kd.R_new' (Kd.R_new' (Kd.R_new' (Kd.R_new' ho1 (Kd.R_lt (by exact lR <| HO_221000.out))) (Kd.R_lt (by exact lR <| HO_221001.out))) (Kd.R_lt (by exact lR <| HO_229000.out))) (Kd.R_lt (by exact lR <| HO_229001.out))) (Kd.R_lt (by exact lR <| HO_237000.out))) (Kd.R_lt (by exact lR <| HO_237001.out))) (Kd.R_lt (by exact lR <| HO_245000.out))) (Kd.R_lt (by exact lR <| HO_245001.out))) (Kd.R_lt (by exact lR <| HO275.out))) (Kd.R_lt (by exact lR <| HO278.out))) (below_size (by repeat (first | (with_reducible first | exact HB.out | apply below_alloc | apply pw_below_drewN | apply below_drew1 | refine below_set ?_ (by first | exact GE195.out | exact GE196.out | exact GE220.out | exact GE228.out | exact GE236.out | exact GE244.out)) | exact HB.out))))
                      have n12_ := Aside0.mk (blk_below (g := gb195) (o := .cells #[.slice A0_0 l0_0.length c0_0, .slice A0_1 l0_1.length c0_1, .int .i64 a0_2] 24 (0, 0)) (by exact lK <| BK195.out) hb)
                      have n13_ := Aside0.mk (blk_below (g := gb196) (o := .cells #[.slice A1_0 l1_0.length c1_0, .slice A1_1 l1_1.length c1_1, .int .i64 a1_2] 24 (0, 0)) (by exact lK <| BK196.out) hb)
                      have n14_ := Aside0.mk (blk_below (g := gb220) (o := .cells #[.slice Ao53 t213.length co53, .slice Ao55 t216.length co55, .int .i64 t219] 26 (0, 0)) (by exact lK <| BK220.out) hb)
                      have n15_ := Aside0.mk (blk_below (g := gb228) (o := .cells #[.slice Ao62 t263.length co62, .slice Ao67 t264.length co67, .int .i64 t227] 26 (0, 0)) (by exact lK <| BK228.out) hb)
                      have n16_ := Aside0.mk (blk_below (g := gb236) (o := .cells #[.slice Ao72 t266.length co72, .slice Ao78 t267.length co78, .int .i64 t235] 26 (0, 0)) (by exact lK <| BK236.out) hb)
                      have n17_ := Aside0.mk (blk_below (g := gb244) (o := .cells #[.slice Ao82 t237.length co82, .slice Ao89 t240.length co89, .int .i64 t243] 26 (0, 0)) (by exact lK <| BK244.out) hb)
                      have n18_ := Aside0.mk (below_step (by repeat (first | (with_reducible first | exact HB.out | apply below_alloc | apply pw_below_drewN | apply below_drew1 | refine below_set ?_ (by first | exact GE195.out | exact GE196.out | exact GE220.out | exact GE228.out | exact GE236.out | exact GE244.out)) | exact HB.out)) hb)
                      clear HO_221000
                      clear HO_221001
                      clear HO_229000
                      clear HO_229001
                      clear HO_237000
                      clear HO_237001
                      clear HO_245000
                      clear HO_245001
                      clear HO275
                      clear HO278
                      clear BK195
                      clear BK196
                      clear BK220
                      clear BK228
                      clear BK236
                      clear BK244
                      clear HB
                      have HO_221000 := n0_
                      have HO_221001 := n1_
                      have HO_229000 := n2_
                      have HO_229001 := n3_
                      have HO_237000 := n4_
                      have HO_237001 := n5_
                      have HO_245000 := n6_
                      have HO_245001 := n7_
                      have HO275 := n8_
                      have HO278 := n9_
                      have HO282 := n10_
                      have HO285 := n11_
                      have BK195 := n12_
                      have BK196 := n13_
                      have BK220 := n14_
                      have BK228 := n15_
                      have BK236 := n16_
                      have BK244 := n17_
                      have HB := n18_
                      clear n0_ n1_ n2_ n3_ n4_ n5_ n6_ n7_ n8_ n9_ n10_ n11_ n12_ n13_ n14_ n15_ n16_ n17_ n18_
                      (try clear hb)
                      (try clear hb2)
                      (try clear hk)
                      (try clear hi)
                      (try clear ho0)
                      (try clear ho1)
                      obtain ⟨Ao145, co145, eo145⟩ := Kd.R_slice HO275.out
                      (first | subst eo145 | (injection eo145 with f1_ f2_ f3_; have f4_ := f1_.symm; have f5_ := f3_.symm; clear f1_ f2_ f3_; subst f4_; subst f5_))
                      obtain ⟨Ao146, co146, eo146⟩ := Kd.R_slice HO278.out
                      (first | subst eo146 | (injection eo146 with f1_ f2_ f3_; have f4_ := f1_.symm; have f5_ := f3_.symm; clear f1_ f2_ f3_; subst f4_; subst f5_))
                      obtain ⟨Ao147, co147, eo147⟩ := Kd.R_slice HO282.out
                      (first | subst eo147 | (injection eo147 with f1_ f2_ f3_; have f4_ := f1_.symm; have f5_ := f3_.symm; clear f1_ f2_ f3_; subst f4_; subst f5_))
                      obtain ⟨Ao148, co148, eo148⟩ := Kd.R_slice HO285.out
                      (first | subst eo148 | (injection eo148 with f1_ f2_ f3_; have f4_ := f1_.symm; have f5_ := f3_.symm; clear f1_ f2_ f3_; subst f4_; subst f5_))
                      refine hK.out _ _ ⟨(blk_cell BK195.out 0).trans rfl, (blk_cell BK195.out 1).trans rfl, (blk_cell BK195.out 2).trans rfl, (blk_cell BK196.out 0).trans rfl, (blk_cell BK196.out 1).trans rfl, (blk_cell BK196.out 2).trans rfl⟩ (fun hHeld => ?_)
                      clear hK K
                      refine norm_ (a' := ?_) ?_ ?_
                      rotate_left
                      · show Act.put _ (some 78) _ = _
                        simp only [Act.put, List.setIfInBounds_toArray, List.set_cons_zero, List.set_cons_succ, i64_w, i32_w]
                        rfl
                      refine two_ (i := 4) (j := 5) (Ni := some 79) (Nj := some 13) #[true, true, true, true, true, false, false] #[true, true, true, true, false, true, false] rfl rfl rfl rfl (by kernel_rfl) (by decide) (by decide) (fun K hK => ?_) (fun K hK => ?_)
                      · skip
                        refine goes_ Try.func11 (by kernel_rfl) rfl #[.agg #[.slice Ao145 t273.length co145, .slice Ao146 t276.length co146, .int .i64 t279], .agg #[.slice Ao147 t280.length co147, .slice Ao148 t283.length co148, .int .i64 t286]] (by rfl) rfl rfl (by (try simp only [List.map_toArray, List.map_cons, List.map_nil]); first | done | rfl | (simp only [List.length_drop, List.length_take]; rfl)) ?_
                        with_reducible refine (impl_FrmAdd.calls _ _ t273 _ _ t276 t279 _ _ t280 _ _ t283 t286 t287 t290 t293 _ ?side1 ?side2 ?side3 ?side4 ?side5 ?side6 ?side7 ?side8 A127.out).mono ?_
                        (case side1 => exact lC <| (Kd.R_reads' HO275.out).2.2)
                        (case side2 => exact (Kd.R_reads' HO275.out).2.1)
                        (case side3 => exact lC <| (Kd.R_reads' HO278.out).2.2)
                        (case side4 => exact (Kd.R_reads' HO278.out).2.1)
                        (case side5 => exact lC <| (Kd.R_reads' HO282.out).2.2)
                        (case side6 => exact (Kd.R_reads' HO282.out).2.1)
                        (case side7 => exact lC <| (Kd.R_reads' HO285.out).2.2)
                        (case side8 => exact (Kd.R_reads' HO285.out).2.1)
                        rintro e w149 ⟨v288, v291, rfl, ho0, ho1, hb⟩
                        refine ⟨_, rfl, ?_⟩
                        have n0_ := Aside0.mk (Kd.R_mono (Kd.R_told (Kd.R_told (Kd.R_old (by exact lR <| HO_221000.out) hb) (Kd.R_base ho0)) (Kd.R_base ho1)) (fun _ h_ => h_.1))
                        have n1_ := Aside0.mk (Kd.R_mono (Kd.R_told (Kd.R_told (Kd.R_old (by exact lR <| HO_221001.out) hb) (Kd.R_base ho0)) (Kd.R_base ho1)) (fun _ h_ => h_.1))
                        have n2_ := Aside0.mk (Kd.R_mono (Kd.R_told (Kd.R_told (Kd.R_old (by exact lR <| HO_229000.out) hb) (Kd.R_base ho0)) (Kd.R_base ho1)) (fun _ h_ => h_.1))
                        have n3_ := Aside0.mk (Kd.R_mono (Kd.R_told (Kd.R_told (Kd.R_old (by exact lR <| HO_229001.out) hb) (Kd.R_base ho0)) (Kd.R_base ho1)) (fun _ h_ => h_.1))
                        have n4_ := Aside0.mk (Kd.R_mono (Kd.R_told (Kd.R_told (Kd.R_old (by exact lR <| HO_237000.out) hb) (Kd.R_base ho0)) (Kd.R_base ho1)) (fun _ h_ => h_.1))
                        have n5_ := Aside0.mk (Kd.R_mono (Kd.R_told (Kd.R_told (Kd.R_old (by exact lR <| HO_237001.out) hb) (Kd.R_base ho0)) (Kd.R_base ho1)) (fun _ h_ => h_.1))
                        have n6_ := Aside0.mk (Kd.R_mono (Kd.R_told (Kd.R_told (Kd.R_old (by exact lR <| HO_245000.out) hb) (Kd.R_base ho0)) (Kd.R_base ho1)) (fun _ h_ => h_.1))
                        have n7_ := Aside0.mk (Kd.R_mono (Kd.R_told (Kd.R_told (Kd.R_old (by exact lR <| HO_245001.out) hb) (Kd.R_base ho0)) (Kd.R_base ho1)) (fun _ h_ => h_.1))
                        have n8_ := Aside0.mk (Kd.R_mono (Kd.R_told (Kd.R_told (Kd.R_old (by exact lR <| HO275.out) hb) (Kd.R_base ho0)) (Kd.R_base ho1)) (fun _ h_ => h_.1))
                        have n9_ := Aside0.mk (Kd.R_mono (Kd.R_told (Kd.R_told (Kd.R_old (by exact lR <| HO278.out) hb) (Kd.R_base ho0)) (Kd.R_base ho1)) (fun _ h_ => h_.1))
                        have n10_ := Aside0.mk (Kd.R_mono (Kd.R_told (Kd.R_told (Kd.R_old (by exact lR <| HO282.out) hb) (Kd.R_base ho0)) (Kd.R_base ho1)) (fun _ h_ => h_.1))
                        have n11_ := Aside0.mk (Kd.R_mono (Kd.R_told (Kd.R_told (Kd.R_old (by exact lR <| HO285.out) hb) (Kd.R_base ho0)) (Kd.R_base ho1)) (fun _ h_ => h_.1))
                        have n12_ := Aside0.mk (Kd.R_lower (Kd.R_new' (Kd.R_new' (Kd.R_new' (Kd.R_new' (Kd.R_new' (Kd.R_new' (Kd.R_new' (Kd.R_new' (Kd.R_new' (Kd.R_new' (Kd.R_new' (Kd.R_new' ho0 (Kd.R_lt (by exact lR <| HO_221000.out))) (Kd.R_lt (by exact lR <| HO_221001.out))) (Kd.R_lt (by exact lR <| HO_229000.out))) (Kd.R_lt (by exact lR <| HO_229001.out))) (Kd.R_lt (by exact lR <| HO_237000.out))) (Kd.R_lt (by exact lR <| HO_237001.out))) (Kd.R_lt (by exact lR <| HO_245000.out))) (Kd.R_lt (by exact lR <| HO_245001.out))) (Kd.R_lt (by exact lR <| HO275.out))) (Kd.R_lt (by exact lR <| HO278.out))) (Kd.R_lt (by exact lR <| HO282.out))) (Kd.R_lt (by exact lR <| HO285.out))) (below_size (by repeat (first | (with_reducible first | exact HB.out | apply below_alloc | apply pw_below_drewN | apply below_drew1 | refine below_set ?_ (by first | exact GE195.out | exact GE196.out | exact GE220.out | exact GE228.out | exact GE236.out | exact GE244.out)) | exact HB.out))))
                        have n13_ := Aside0.mk (Kd.R_lower (Kd.R_new' (Kd.R_new' (Kd.R_new' (Kd.R_new' (Kd.R_new' (Kd.R_new' (Kd.R_new' (Kd.R_new' (Kd.R_new' (Kd.R_new' (Kd.R_new' (Kd.R_new' ho1 (Kd.R_lt (by exact lR <| HO_221000.out))) (Kd.R_lt (by exact lR <| HO_221001.out))) (Kd.R_lt (by exact lR <| HO_229000.out))) (Kd.R_lt (by exact lR <| HO_229001.out))) (Kd.R_lt (by exact lR <| HO_237000.out))) (Kd.R_lt (by exact lR <| HO_237001.out))) (Kd.R_lt (by exact lR <| HO_245000.out))) (Kd.R_lt (by exact lR <| HO_245001.out))) (Kd.R_lt (by exact lR <| HO275.out))) (Kd.R_lt (by exact lR <| HO278.out))) (Kd.R_lt (by exact lR <| HO282.out))) (Kd.R_lt (by exact lR <| HO285.out))) (below_size (by repeat (first | (with_reducible first | exact HB.out | apply below_alloc | apply pw_below_drewN | apply below_drew1 | refine below_set ?_ (by first | exact GE195.out | exact GE196.out | exact GE220.out | exact GE228.out | exact GE236.out | exact GE244.out)) | exact HB.out))))
                        have n14_ := Aside0.mk (blk_below (g := gb195) (o := .cells #[.slice A0_0 l0_0.length c0_0, .slice A0_1 l0_1.length c0_1, .int .i64 a0_2] 24 (0, 0)) (by exact lK <| BK195.out) hb)
                        have n15_ := Aside0.mk (blk_below (g := gb196) (o := .cells #[.slice A1_0 l1_0.length c1_0, .slice A1_1 l1_1.length c1_1, .int .i64 a1_2] 24 (0, 0)) (by exact lK <| BK196.out) hb)
                        have n16_ := Aside0.mk (blk_below (g := gb220) (o := .cells #[.slice Ao53 t213.length co53, .slice Ao55 t216.length co55, .int .i64 t219] 26 (0, 0)) (by exact lK <| BK220.out) hb)
                        have n17_ := Aside0.mk (blk_below (g := gb228) (o := .cells #[.slice Ao62 t263.length co62, .slice Ao67 t264.length co67, .int .i64 t227] 26 (0, 0)) (by exact lK <| BK228.out) hb)
                        have n18_ := Aside0.mk (blk_below (g := gb236) (o := .cells #[.slice Ao72 t266.length co72, .slice Ao78 t267.length co78, .int .i64 t235] 26 (0, 0)) (by exact lK <| BK236.out) hb)
                        have n19_ := Aside0.mk (blk_below (g := gb244) (o := .cells #[.slice Ao82 t237.length co82, .slice Ao89 t240.length co89, .int .i64 t243] 26 (0, 0)) (by exact lK <| BK244.out) hb)
                        have n20_ := Aside0.mk (below_step (by repeat (first | (with_reducible first | exact HB.out | apply below_alloc | apply pw_below_drewN | apply below_drew1 | refine below_set ?_ (by first | exact GE195.out | exact GE196.out | exact GE220.out | exact GE228.out | exact GE236.out | exact GE244.out)) | exact HB.out)) hb)
                        clear HO_221000
                        clear HO_221001
                        clear HO_229000
                        clear HO_229001
                        clear HO_237000
                        clear HO_237001
                        clear HO_245000
                        clear HO_245001
                        clear HO275
                        clear HO278
                        clear HO282
                        clear HO285
                        clear BK195
                        clear BK196
                        clear BK220
                        clear BK228
                        clear BK236
                        clear BK244
                        clear HB
                        have HO_221000 := n0_
                        have HO_221001 := n1_
                        have HO_229000 := n2_
                        have HO_229001 := n3_
                        have HO_237000 := n4_
                        have HO_237001 := n5_
                        have HO_245000 := n6_
                        have HO_245001 := n7_
                        have HO275 := n8_
                        have HO278 := n9_
                        have HO282 := n10_
                        have HO285 := n11_
                        have HO289 := n12_
                        have HO292 := n13_
                        have BK195 := n14_
                        have BK196 := n15_
                        have BK220 := n16_
                        have BK228 := n17_
                        have BK236 := n18_
                        have BK244 := n19_
                        have HB := n20_
                        clear n0_ n1_ n2_ n3_ n4_ n5_ n6_ n7_ n8_ n9_ n10_ n11_ n12_ n13_ n14_ n15_ n16_ n17_ n18_ n19_ n20_
                        (try clear hb)
                        (try clear hb2)
                        (try clear hk)
                        (try clear hi)
                        (try clear ho0)
                        (try clear ho1)
                        refine hK.out _ _ ⟨(blk_cell BK195.out 0).trans rfl, (blk_cell BK195.out 1).trans rfl, (blk_cell BK195.out 2).trans rfl, (blk_cell BK196.out 0).trans rfl, (blk_cell BK196.out 1).trans rfl, (blk_cell BK196.out 2).trans rfl⟩ (fun hHeld => ?_)
                        clear hK K
                        refine norm_ (a' := ?_) ?_ ?_
                        rotate_left
                        · show Act.put _ (some 79) _ = _
                          simp only [Act.put, List.setIfInBounds_toArray, List.set_cons_zero, List.set_cons_succ, i64_w, i32_w]
                          rfl
                        refine one_ (i := 5) (N := some 13) #[true, true, true, true, true, true, false] rfl rfl (by kernel_rfl) (by decide) (fun K hK => ?_)
                        refine box_step ?hg (N := 13) ?hd (cs := #[.slice none 0 0, .slice none 0 0, .int .i64 0]) (t := 26) ?hr ?_; (case hd => rfl); (case hg => rfl); (case hr => first | (go_simp; done) | (go_simp; rfl))
                        intro gb294 hg w150 hbox hb
                        have n0_ := Aside0.mk (Kd.R_below (by exact lR <| HO_221000.out) hb)
                        have n1_ := Aside0.mk (Kd.R_below (by exact lR <| HO_221001.out) hb)
                        have n2_ := Aside0.mk (Kd.R_below (by exact lR <| HO_229000.out) hb)
                        have n3_ := Aside0.mk (Kd.R_below (by exact lR <| HO_229001.out) hb)
                        have n4_ := Aside0.mk (Kd.R_below (by exact lR <| HO_237000.out) hb)
                        have n5_ := Aside0.mk (Kd.R_below (by exact lR <| HO_237001.out) hb)
                        have n6_ := Aside0.mk (Kd.R_below (by exact lR <| HO_245000.out) hb)
                        have n7_ := Aside0.mk (Kd.R_below (by exact lR <| HO_245001.out) hb)
                        have n8_ := Aside0.mk (Kd.R_below (by exact lR <| HO275.out) hb)
                        have n9_ := Aside0.mk (Kd.R_below (by exact lR <| HO278.out) hb)
                        have n10_ := Aside0.mk (Kd.R_below (by exact lR <| HO282.out) hb)
                        have n11_ := Aside0.mk (Kd.R_below (by exact lR <| HO285.out) hb)
                        have n12_ := Aside0.mk (Kd.R_below (by exact lR <| HO289.out) hb)
                        have n13_ := Aside0.mk (Kd.R_below (by exact lR <| HO292.out) hb)
                        have n14_ := Aside0.mk (blk_below (g := gb195) (o := .cells #[.slice A0_0 l0_0.length c0_0, .slice A0_1 l0_1.length c0_1, .int .i64 a0_2] 24 (0, 0)) (by exact lK <| BK195.out) hb)
                        have n15_ := Aside0.mk (blk_below (g := gb196) (o := .cells #[.slice A1_0 l1_0.length c1_0, .slice A1_1 l1_1.length c1_1, .int .i64 a1_2] 24 (0, 0)) (by exact lK <| BK196.out) hb)
                        have n16_ := Aside0.mk (blk_below (g := gb220) (o := .cells #[.slice Ao53 t213.length co53, .slice Ao55 t216.length co55, .int .i64 t219] 26 (0, 0)) (by exact lK <| BK220.out) hb)
                        have n17_ := Aside0.mk (blk_below (g := gb228) (o := .cells #[.slice Ao62 t263.length co62, .slice Ao67 t264.length co67, .int .i64 t227] 26 (0, 0)) (by exact lK <| BK228.out) hb)
                        have n18_ := Aside0.mk (blk_below (g := gb236) (o := .cells #[.slice Ao72 t266.length co72, .slice Ao78 t267.length co78, .int .i64 t235] 26 (0, 0)) (by exact lK <| BK236.out) hb)
                        have n19_ := Aside0.mk (blk_below (g := gb244) (o := .cells #[.slice Ao82 t237.length co82, .slice Ao89 t240.length co89, .int .i64 t243] 26 (0, 0)) (by exact lK <| BK244.out) hb)
                        have n20_ := Aside0.mk (below_step (by repeat (first | (with_reducible first | exact HB.out | apply below_alloc | apply pw_below_drewN | apply below_drew1 | refine below_set ?_ (by first | exact GE195.out | exact GE196.out | exact GE220.out | exact GE228.out | exact GE236.out | exact GE244.out)) | exact HB.out)) hb)
                        have n21_ := Aside0.mk (hbox)
                        have n22_ := Aside0.mk ((by rw [hg]; exact (below_size (by repeat (first | (with_reducible first | exact HB.out | apply below_alloc | apply pw_below_drewN | apply below_drew1 | refine below_set ?_ (by first | exact GE195.out | exact GE196.out | exact GE220.out | exact GE228.out | exact GE236.out | exact GE244.out)) | exact HB.out))) : w.heap.size ≤ gb294))
                        have n23_ := Aside0.mk ((by rw [hg]; exact (below_size (by repeat (first | (with_reducible first | exact HB.out | apply below_alloc | apply pw_below_drewN | apply below_drew1 | refine below_set ?_ (by first | exact GE195.out | exact GE196.out | exact GE220.out | exact GE228.out | exact GE236.out | exact GE244.out)) | exact HB.out))) : w.heap.size ≤ gb294))
                        have n24_ := Aside0.mk ((neL hg (lK BK195.out) : gb195 ≠ gb294))
                        have n25_ := Aside0.mk ((neG hg (lK BK195.out) : gb294 ≠ gb195))
                        have n26_ := Aside0.mk ((neL hg (lK BK196.out) : gb196 ≠ gb294))
                        have n27_ := Aside0.mk ((neG hg (lK BK196.out) : gb294 ≠ gb196))
                        have n28_ := Aside0.mk ((neL hg (lK BK220.out) : gb220 ≠ gb294))
                        have n29_ := Aside0.mk ((neG hg (lK BK220.out) : gb294 ≠ gb220))
                        have n30_ := Aside0.mk ((neL hg (lK BK228.out) : gb228 ≠ gb294))
                        have n31_ := Aside0.mk ((neG hg (lK BK228.out) : gb294 ≠ gb228))
                        have n32_ := Aside0.mk ((neL hg (lK BK236.out) : gb236 ≠ gb294))
                        have n33_ := Aside0.mk ((neG hg (lK BK236.out) : gb294 ≠ gb236))
                        have n34_ := Aside0.mk ((neL hg (lK BK244.out) : gb244 ≠ gb294))
                        have n35_ := Aside0.mk ((neG hg (lK BK244.out) : gb294 ≠ gb244))
                        clear HO_221000
                        clear HO_221001
                        clear HO_229000
                        clear HO_229001
                        clear HO_237000
                        clear HO_237001
                        clear HO_245000
                        clear HO_245001
                        clear HO275
                        clear HO278
                        clear HO282
                        clear HO285
                        clear HO289
                        clear HO292
                        clear BK195
                        clear BK196
                        clear BK220
                        clear BK228
                        clear BK236
                        clear BK244
                        clear HB
                        have HO_221000 := n0_
                        have HO_221001 := n1_
                        have HO_229000 := n2_
                        have HO_229001 := n3_
                        have HO_237000 := n4_
                        have HO_237001 := n5_
                        have HO_245000 := n6_
                        have HO_245001 := n7_
                        have HO275 := n8_
                        have HO278 := n9_
                        have HO282 := n10_
                        have HO285 := n11_
                        have HO289 := n12_
                        have HO292 := n13_
                        have BK195 := n14_
                        have BK196 := n15_
                        have BK220 := n16_
                        have BK228 := n17_
                        have BK236 := n18_
                        have BK244 := n19_
                        have HB := n20_
                        have BK294 := n21_
                        have GW294 := n22_
                        have GE294 := n23_
                        have NB195_294 := n24_
                        have NB294_195 := n25_
                        have NB196_294 := n26_
                        have NB294_196 := n27_
                        have NB220_294 := n28_
                        have NB294_220 := n29_
                        have NB228_294 := n30_
                        have NB294_228 := n31_
                        have NB236_294 := n32_
                        have NB294_236 := n33_
                        have NB244_294 := n34_
                        have NB294_244 := n35_
                        clear n0_ n1_ n2_ n3_ n4_ n5_ n6_ n7_ n8_ n9_ n10_ n11_ n12_ n13_ n14_ n15_ n16_ n17_ n18_ n19_ n20_ n21_ n22_ n23_ n24_ n25_ n26_ n27_ n28_ n29_ n30_ n31_ n32_ n33_ n34_ n35_
                        clear hb hbox hg
                        refine hK.out _ _ ⟨(blk_cell BK195.out 0).trans rfl, (blk_cell BK195.out 1).trans rfl, (blk_cell BK195.out 2).trans rfl, (blk_cell BK196.out 0).trans rfl, (blk_cell BK196.out 1).trans rfl, (blk_cell BK196.out 2).trans rfl⟩ (fun hHeld => ?_)
                        clear hK K
                        refine norm_ (a' := ?_) ?_ ?_
                        rotate_left
                        · show Act.put _ (some 13) _ = _
                          simp only [Act.put, List.setIfInBounds_toArray, List.set_cons_zero, List.set_cons_succ, i64_w, i32_w]
                          rfl
                        exact norm_ (by simp only [putAll, Act.put, List.setIfInBounds_toArray, List.set_cons_zero, List.set_cons_succ]) (hCont (.slice Ao145 t273.length co145, .slice Ao146 t276.length co146, .slice Ao147 t280.length co147, .slice Ao148 t283.length co148, v288, v291, gb294) _ ⟨hHeld, (by exact lR <| Kd.R_mono HO275.out (fun _ hk => ⟨hk.1.1.1.1.1.1.1.1.1.1.1.1, ⟨hk.1.1.1.2, ⟨hk.1.1.2, ⟨hk.1.2, ⟨hk.2, ⟨hk.1.1.1.1.1.1.1.1.1.1.1.2, ⟨hk.1.1.1.1.1.1.1.1.1.1.2, ⟨hk.1.1.1.1.1.1.1.1.1.2, ⟨hk.1.1.1.1.1.1.1.1.2, ⟨hk.1.1.1.1.1.1.1.2, ⟨hk.1.1.1.1.1.1.2, ⟨hk.1.1.1.1.1.2, hk.1.1.1.1.2⟩⟩⟩⟩⟩⟩⟩⟩⟩⟩⟩⟩)), (by exact lR <| Kd.R_mono HO278.out (fun _ hk => ⟨hk.1.1.1.1.1.1.1.1.1.1.1.1, ⟨hk.1.1.1.2, ⟨hk.1.1.2, ⟨hk.1.2, ⟨hk.2, ⟨hk.1.1.1.1.1.1.1.1.1.1.1.2, ⟨hk.1.1.1.1.1.1.1.1.1.1.2, ⟨hk.1.1.1.1.1.1.1.1.1.2, ⟨hk.1.1.1.1.1.1.1.1.2, ⟨hk.1.1.1.1.1.1.1.2, ⟨hk.1.1.1.1.1.1.2, ⟨hk.1.1.1.1.1.2, hk.1.1.1.1.2⟩⟩⟩⟩⟩⟩⟩⟩⟩⟩⟩⟩)), (by exact lR <| Kd.R_mono HO282.out (fun _ hk => ⟨hk.1.1.1.2, ⟨hk.1.1.2, ⟨hk.1.1.1.1.1.1.1.1.1.1.1.1, ⟨hk.1.2, ⟨hk.2, ⟨hk.1.1.1.1.1.1.1.1.1.1.1.2, ⟨hk.1.1.1.1.1.1.1.1.1.1.2, ⟨hk.1.1.1.1.1.1.1.1.1.2, ⟨hk.1.1.1.1.1.1.1.1.2, ⟨hk.1.1.1.1.1.1.1.2, ⟨hk.1.1.1.1.1.1.2, ⟨hk.1.1.1.1.1.2, hk.1.1.1.1.2⟩⟩⟩⟩⟩⟩⟩⟩⟩⟩⟩⟩)), (by exact lR <| Kd.R_mono HO285.out (fun _ hk => ⟨hk.1.1.1.2, ⟨hk.1.1.2, ⟨hk.1.1.1.1.1.1.1.1.1.1.1.1, ⟨hk.1.2, ⟨hk.2, ⟨hk.1.1.1.1.1.1.1.1.1.1.1.2, ⟨hk.1.1.1.1.1.1.1.1.1.1.2, ⟨hk.1.1.1.1.1.1.1.1.1.2, ⟨hk.1.1.1.1.1.1.1.1.2, ⟨hk.1.1.1.1.1.1.1.2, ⟨hk.1.1.1.1.1.1.2, ⟨hk.1.1.1.1.1.2, hk.1.1.1.1.2⟩⟩⟩⟩⟩⟩⟩⟩⟩⟩⟩⟩)), (by exact lR <| Kd.R_mono HO289.out (fun _ hk => ⟨hk.1.1.1.2, ⟨hk.1.1.2, ⟨hk.1.2, ⟨hk.2, ⟨hk.1.1.1.1.1.1.1.1.1.1.1.1, ⟨hk.1.1.1.1.1.1.1.1.1.1.1.2, ⟨hk.1.1.1.1.1.1.1.1.1.1.2, ⟨hk.1.1.1.1.1.1.1.1.1.2, ⟨hk.1.1.1.1.1.1.1.1.2, ⟨hk.1.1.1.1.1.1.1.2, ⟨hk.1.1.1.1.1.1.2, ⟨hk.1.1.1.1.1.2, hk.1.1.1.1.2⟩⟩⟩⟩⟩⟩⟩⟩⟩⟩⟩⟩)), (by exact lR <| Kd.R_mono HO292.out (fun _ hk => ⟨hk.1.1.1.2, ⟨hk.1.1.2, ⟨hk.1.2, ⟨hk.2, ⟨hk.1.1.1.1.1.1.1.1.1.1.1.1, ⟨hk.1.1.1.1.1.1.1.1.1.1.1.2, ⟨hk.1.1.1.1.1.1.1.1.1.1.2, ⟨hk.1.1.1.1.1.1.1.1.1.2, ⟨hk.1.1.1.1.1.1.1.1.2, ⟨hk.1.1.1.1.1.1.1.2, ⟨hk.1.1.1.1.1.1.2, ⟨hk.1.1.1.1.1.2, hk.1.1.1.1.2⟩⟩⟩⟩⟩⟩⟩⟩⟩⟩⟩⟩)), (by exact lR <| Kd.R_mono HO_221000.out (fun _ hk => ⟨hk.1.1.1.1.1.2, ⟨hk.1.1.1.1.2, ⟨hk.1.1.1.2, ⟨hk.1.1.2, ⟨hk.1.2, ⟨hk.2, ⟨hk.1.1.1.1.1.1.1, ⟨hk.1.1.1.1.1.1.2.1, ⟨hk.1.1.1.1.1.1.2.2.1, ⟨hk.1.1.1.1.1.1.2.2.2.1, ⟨hk.1.1.1.1.1.1.2.2.2.2.1, ⟨hk.1.1.1.1.1.1.2.2.2.2.2.1, hk.1.1.1.1.1.1.2.2.2.2.2.2⟩⟩⟩⟩⟩⟩⟩⟩⟩⟩⟩⟩)), (by exact lR <| Kd.R_mono HO_221001.out (fun _ hk => ⟨hk.1.1.1.1.1.2, ⟨hk.1.1.1.1.2, ⟨hk.1.1.1.2, ⟨hk.1.1.2, ⟨hk.1.2, ⟨hk.2, ⟨hk.1.1.1.1.1.1.1, ⟨hk.1.1.1.1.1.1.2.1, ⟨hk.1.1.1.1.1.1.2.2.1, ⟨hk.1.1.1.1.1.1.2.2.2.1, ⟨hk.1.1.1.1.1.1.2.2.2.2.1, ⟨hk.1.1.1.1.1.1.2.2.2.2.2.1, hk.1.1.1.1.1.1.2.2.2.2.2.2⟩⟩⟩⟩⟩⟩⟩⟩⟩⟩⟩⟩)), (by exact lR <| Kd.R_mono HO_229000.out (fun _ hk => ⟨hk.1.1.1.1.1.2, ⟨hk.1.1.1.1.2, ⟨hk.1.1.1.2, ⟨hk.1.1.2, ⟨hk.1.2, ⟨hk.2, ⟨hk.1.1.1.1.1.1.1, ⟨hk.1.1.1.1.1.1.2.1, ⟨hk.1.1.1.1.1.1.2.2.1, ⟨hk.1.1.1.1.1.1.2.2.2.1, ⟨hk.1.1.1.1.1.1.2.2.2.2.1, ⟨hk.1.1.1.1.1.1.2.2.2.2.2.1, hk.1.1.1.1.1.1.2.2.2.2.2.2⟩⟩⟩⟩⟩⟩⟩⟩⟩⟩⟩⟩)), (by exact lR <| Kd.R_mono HO_229001.out (fun _ hk => ⟨hk.1.1.1.1.1.2, ⟨hk.1.1.1.1.2, ⟨hk.1.1.1.2, ⟨hk.1.1.2, ⟨hk.1.2, ⟨hk.2, ⟨hk.1.1.1.1.1.1.1, ⟨hk.1.1.1.1.1.1.2.1, ⟨hk.1.1.1.1.1.1.2.2.1, ⟨hk.1.1.1.1.1.1.2.2.2.1, ⟨hk.1.1.1.1.1.1.2.2.2.2.1, ⟨hk.1.1.1.1.1.1.2.2.2.2.2.1, hk.1.1.1.1.1.1.2.2.2.2.2.2⟩⟩⟩⟩⟩⟩⟩⟩⟩⟩⟩⟩)), (by exact lR <| Kd.R_mono HO_237000.out (fun _ hk => ⟨hk.1.1.1.1.1.2, ⟨hk.1.1.1.1.2, ⟨hk.1.1.1.2, ⟨hk.1.1.2, ⟨hk.1.2, ⟨hk.2, ⟨hk.1.1.1.1.1.1.1, ⟨hk.1.1.1.1.1.1.2.1, ⟨hk.1.1.1.1.1.1.2.2.1, ⟨hk.1.1.1.1.1.1.2.2.2.1, ⟨hk.1.1.1.1.1.1.2.2.2.2.1, ⟨hk.1.1.1.1.1.1.2.2.2.2.2.1, hk.1.1.1.1.1.1.2.2.2.2.2.2⟩⟩⟩⟩⟩⟩⟩⟩⟩⟩⟩⟩)), (by exact lR <| Kd.R_mono HO_237001.out (fun _ hk => ⟨hk.1.1.1.1.1.2, ⟨hk.1.1.1.1.2, ⟨hk.1.1.1.2, ⟨hk.1.1.2, ⟨hk.1.2, ⟨hk.2, ⟨hk.1.1.1.1.1.1.1, ⟨hk.1.1.1.1.1.1.2.1, ⟨hk.1.1.1.1.1.1.2.2.1, ⟨hk.1.1.1.1.1.1.2.2.2.1, ⟨hk.1.1.1.1.1.1.2.2.2.2.1, ⟨hk.1.1.1.1.1.1.2.2.2.2.2.1, hk.1.1.1.1.1.1.2.2.2.2.2.2⟩⟩⟩⟩⟩⟩⟩⟩⟩⟩⟩⟩)), (by exact lR <| Kd.R_mono HO_245000.out (fun _ hk => ⟨hk.1.1.1.1.1.2, ⟨hk.1.1.1.1.2, ⟨hk.1.1.1.2, ⟨hk.1.1.2, ⟨hk.1.2, ⟨hk.2, ⟨hk.1.1.1.1.1.1.1, ⟨hk.1.1.1.1.1.1.2.1, ⟨hk.1.1.1.1.1.1.2.2.1, ⟨hk.1.1.1.1.1.1.2.2.2.1, ⟨hk.1.1.1.1.1.1.2.2.2.2.1, ⟨hk.1.1.1.1.1.1.2.2.2.2.2.1, hk.1.1.1.1.1.1.2.2.2.2.2.2⟩⟩⟩⟩⟩⟩⟩⟩⟩⟩⟩⟩)), (by exact lR <| Kd.R_mono HO_245001.out (fun _ hk => ⟨hk.1.1.1.1.1.2, ⟨hk.1.1.1.1.2, ⟨hk.1.1.1.2, ⟨hk.1.1.2, ⟨hk.1.2, ⟨hk.2, ⟨hk.1.1.1.1.1.1.1, ⟨hk.1.1.1.1.1.1.2.1, ⟨hk.1.1.1.1.1.1.2.2.1, ⟨hk.1.1.1.1.1.1.2.2.2.1, ⟨hk.1.1.1.1.1.1.2.2.2.2.1, ⟨hk.1.1.1.1.1.1.2.2.2.2.2.1, hk.1.1.1.1.1.1.2.2.2.2.2.2⟩⟩⟩⟩⟩⟩⟩⟩⟩⟩⟩⟩)), (by exact lK <| BK195.out), (by exact lK <| BK196.out), (by exact lK <| BK220.out), (by exact lK <| BK228.out), (by exact lK <| BK236.out), (by exact lK <| BK244.out), (by exact lK <| BK294.out), GW294.out, GE294.out, NB195_294.out, NB294_195.out, NB196_294.out, NB294_196.out, NB220_294.out, NB294_220.out, NB228_294.out, NB294_228.out, NB236_294.out, NB294_236.out, NB244_294.out, NB294_244.out, (by repeat (first | (with_reducible first | exact HB.out | apply below_alloc | apply pw_below_drewN | apply below_drew1 | refine below_set ?_ (by first | exact GE195.out | exact GE196.out | exact GE220.out | exact GE228.out | exact GE236.out | exact GE244.out | exact GE294.out)) | exact HB.out))⟩)
                      · skip
                        refine box_step ?hg (N := 13) ?hd (cs := #[.slice none 0 0, .slice none 0 0, .int .i64 0]) (t := 26) ?hr ?_; (case hd => rfl); (case hg => rfl); (case hr => first | (go_simp; done) | (go_simp; rfl))
                        intro gb294 hg w145 hbox hb
                        have n0_ := Aside0.mk (Kd.R_below (by exact lR <| HO_221000.out) hb)
                        have n1_ := Aside0.mk (Kd.R_below (by exact lR <| HO_221001.out) hb)
                        have n2_ := Aside0.mk (Kd.R_below (by exact lR <| HO_229000.out) hb)
                        have n3_ := Aside0.mk (Kd.R_below (by exact lR <| HO_229001.out) hb)
                        have n4_ := Aside0.mk (Kd.R_below (by exact lR <| HO_237000.out) hb)
                        have n5_ := Aside0.mk (Kd.R_below (by exact lR <| HO_237001.out) hb)
                        have n6_ := Aside0.mk (Kd.R_below (by exact lR <| HO_245000.out) hb)
                        have n7_ := Aside0.mk (Kd.R_below (by exact lR <| HO_245001.out) hb)
                        have n8_ := Aside0.mk (Kd.R_below (by exact lR <| HO275.out) hb)
                        have n9_ := Aside0.mk (Kd.R_below (by exact lR <| HO278.out) hb)
                        have n10_ := Aside0.mk (Kd.R_below (by exact lR <| HO282.out) hb)
                        have n11_ := Aside0.mk (Kd.R_below (by exact lR <| HO285.out) hb)
                        have n12_ := Aside0.mk (blk_below (g := gb195) (o := .cells #[.slice A0_0 l0_0.length c0_0, .slice A0_1 l0_1.length c0_1, .int .i64 a0_2] 24 (0, 0)) (by exact lK <| BK195.out) hb)
                        have n13_ := Aside0.mk (blk_below (g := gb196) (o := .cells #[.slice A1_0 l1_0.length c1_0, .slice A1_1 l1_1.length c1_1, .int .i64 a1_2] 24 (0, 0)) (by exact lK <| BK196.out) hb)
                        have n14_ := Aside0.mk (blk_below (g := gb220) (o := .cells #[.slice Ao53 t213.length co53, .slice Ao55 t216.length co55, .int .i64 t219] 26 (0, 0)) (by exact lK <| BK220.out) hb)
                        have n15_ := Aside0.mk (blk_below (g := gb228) (o := .cells #[.slice Ao62 t263.length co62, .slice Ao67 t264.length co67, .int .i64 t227] 26 (0, 0)) (by exact lK <| BK228.out) hb)
                        have n16_ := Aside0.mk (blk_below (g := gb236) (o := .cells #[.slice Ao72 t266.length co72, .slice Ao78 t267.length co78, .int .i64 t235] 26 (0, 0)) (by exact lK <| BK236.out) hb)
                        have n17_ := Aside0.mk (blk_below (g := gb244) (o := .cells #[.slice Ao82 t237.length co82, .slice Ao89 t240.length co89, .int .i64 t243] 26 (0, 0)) (by exact lK <| BK244.out) hb)
                        have n18_ := Aside0.mk (below_step (by repeat (first | (with_reducible first | exact HB.out | apply below_alloc | apply pw_below_drewN | apply below_drew1 | refine below_set ?_ (by first | exact GE195.out | exact GE196.out | exact GE220.out | exact GE228.out | exact GE236.out | exact GE244.out)) | exact HB.out)) hb)
                        have n19_ := Aside0.mk (hbox)
                        have n20_ := Aside0.mk ((by rw [hg]; exact (below_size (by repeat (first | (with_reducible first | exact HB.out | apply below_alloc | apply pw_below_drewN | apply below_drew1 | refine below_set ?_ (by first | exact GE195.out | exact GE196.out | exact GE220.out | exact GE228.out | exact GE236.out | exact GE244.out)) | exact HB.out))) : w.heap.size ≤ gb294))
                        have n21_ := Aside0.mk ((by rw [hg]; exact (below_size (by repeat (first | (with_reducible first | exact HB.out | apply below_alloc | apply pw_below_drewN | apply below_drew1 | refine below_set ?_ (by first | exact GE195.out | exact GE196.out | exact GE220.out | exact GE228.out | exact GE236.out | exact GE244.out)) | exact HB.out))) : w.heap.size ≤ gb294))
                        have n22_ := Aside0.mk ((neL hg (lK BK195.out) : gb195 ≠ gb294))
                        have n23_ := Aside0.mk ((neG hg (lK BK195.out) : gb294 ≠ gb195))
                        have n24_ := Aside0.mk ((neL hg (lK BK196.out) : gb196 ≠ gb294))
                        have n25_ := Aside0.mk ((neG hg (lK BK196.out) : gb294 ≠ gb196))
                        have n26_ := Aside0.mk ((neL hg (lK BK220.out) : gb220 ≠ gb294))
                        have n27_ := Aside0.mk ((neG hg (lK BK220.out) : gb294 ≠ gb220))
                        have n28_ := Aside0.mk ((neL hg (lK BK228.out) : gb228 ≠ gb294))
                        have n29_ := Aside0.mk ((neG hg (lK BK228.out) : gb294 ≠ gb228))
                        have n30_ := Aside0.mk ((neL hg (lK BK236.out) : gb236 ≠ gb294))
                        have n31_ := Aside0.mk ((neG hg (lK BK236.out) : gb294 ≠ gb236))
                        have n32_ := Aside0.mk ((neL hg (lK BK244.out) : gb244 ≠ gb294))
                        have n33_ := Aside0.mk ((neG hg (lK BK244.out) : gb294 ≠ gb244))
                        clear HO_221000
                        clear HO_221001
                        clear HO_229000
                        clear HO_229001
                        clear HO_237000
                        clear HO_237001
                        clear HO_245000
                        clear HO_245001
                        clear HO275
                        clear HO278
                        clear HO282
                        clear HO285
                        clear BK195
                        clear BK196
                        clear BK220
                        clear BK228
                        clear BK236
                        clear BK244
                        clear HB
                        have HO_221000 := n0_
                        have HO_221001 := n1_
                        have HO_229000 := n2_
                        have HO_229001 := n3_
                        have HO_237000 := n4_
                        have HO_237001 := n5_
                        have HO_245000 := n6_
                        have HO_245001 := n7_
                        have HO275 := n8_
                        have HO278 := n9_
                        have HO282 := n10_
                        have HO285 := n11_
                        have BK195 := n12_
                        have BK196 := n13_
                        have BK220 := n14_
                        have BK228 := n15_
                        have BK236 := n16_
                        have BK244 := n17_
                        have HB := n18_
                        have BK294 := n19_
                        have GW294 := n20_
                        have GE294 := n21_
                        have NB195_294 := n22_
                        have NB294_195 := n23_
                        have NB196_294 := n24_
                        have NB294_196 := n25_
                        have NB220_294 := n26_
                        have NB294_220 := n27_
                        have NB228_294 := n28_
                        have NB294_228 := n29_
                        have NB236_294 := n30_
                        have NB294_236 := n31_
                        have NB244_294 := n32_
                        have NB294_244 := n33_
                        clear n0_ n1_ n2_ n3_ n4_ n5_ n6_ n7_ n8_ n9_ n10_ n11_ n12_ n13_ n14_ n15_ n16_ n17_ n18_ n19_ n20_ n21_ n22_ n23_ n24_ n25_ n26_ n27_ n28_ n29_ n30_ n31_ n32_ n33_
                        clear hb hbox hg
                        obtain ⟨Ao146, co146, eo146⟩ := Kd.R_slice HO275.out
                        (first | subst eo146 | (injection eo146 with f1_ f2_ f3_; have f4_ := f1_.symm; have f5_ := f3_.symm; clear f1_ f2_ f3_; subst f4_; subst f5_))
                        obtain ⟨Ao147, co147, eo147⟩ := Kd.R_slice HO278.out
                        (first | subst eo147 | (injection eo147 with f1_ f2_ f3_; have f4_ := f1_.symm; have f5_ := f3_.symm; clear f1_ f2_ f3_; subst f4_; subst f5_))
                        obtain ⟨Ao148, co148, eo148⟩ := Kd.R_slice HO282.out
                        (first | subst eo148 | (injection eo148 with f1_ f2_ f3_; have f4_ := f1_.symm; have f5_ := f3_.symm; clear f1_ f2_ f3_; subst f4_; subst f5_))
                        obtain ⟨Ao149, co149, eo149⟩ := Kd.R_slice HO285.out
                        (first | subst eo149 | (injection eo149 with f1_ f2_ f3_; have f4_ := f1_.symm; have f5_ := f3_.symm; clear f1_ f2_ f3_; subst f4_; subst f5_))
                        refine hK.out _ _ ⟨(blk_cell BK195.out 0).trans rfl, (blk_cell BK195.out 1).trans rfl, (blk_cell BK195.out 2).trans rfl, (blk_cell BK196.out 0).trans rfl, (blk_cell BK196.out 1).trans rfl, (blk_cell BK196.out 2).trans rfl⟩ (fun hHeld => ?_)
                        clear hK K
                        refine norm_ (a' := ?_) ?_ ?_
                        rotate_left
                        · show Act.put _ (some 13) _ = _
                          simp only [Act.put, List.setIfInBounds_toArray, List.set_cons_zero, List.set_cons_succ, i64_w, i32_w]
                          rfl
                        refine one_ (i := 4) (N := some 79) #[true, true, true, true, true, true, false] rfl rfl (by kernel_rfl) (by decide) (fun K hK => ?_)
                        refine goes_ Try.func11 (by kernel_rfl) rfl #[.agg #[.slice Ao146 t273.length co146, .slice Ao147 t276.length co147, .int .i64 t279], .agg #[.slice Ao148 t280.length co148, .slice Ao149 t283.length co149, .int .i64 t286]] (by rfl) rfl rfl (by (try simp only [List.map_toArray, List.map_cons, List.map_nil]); first | done | rfl | (simp only [List.length_drop, List.length_take]; rfl)) ?_
                        with_reducible refine (impl_FrmAdd.calls _ _ t273 _ _ t276 t279 _ _ t280 _ _ t283 t286 t287 t290 t293 _ ?side1 ?side2 ?side3 ?side4 ?side5 ?side6 ?side7 ?side8 A127.out).mono ?_
                        (case side1 => exact lC <| (Kd.R_reads' HO275.out).2.2)
                        (case side2 => exact (Kd.R_reads' HO275.out).2.1)
                        (case side3 => exact lC <| (Kd.R_reads' HO278.out).2.2)
                        (case side4 => exact (Kd.R_reads' HO278.out).2.1)
                        (case side5 => exact lC <| (Kd.R_reads' HO282.out).2.2)
                        (case side6 => exact (Kd.R_reads' HO282.out).2.1)
                        (case side7 => exact lC <| (Kd.R_reads' HO285.out).2.2)
                        (case side8 => exact (Kd.R_reads' HO285.out).2.1)
                        rintro e w150 ⟨v288, v291, rfl, ho0, ho1, hb⟩
                        refine ⟨_, rfl, ?_⟩
                        have n0_ := Aside0.mk (Kd.R_mono (Kd.R_told (Kd.R_told (Kd.R_old (by exact lR <| HO_221000.out) hb) (Kd.R_base ho0)) (Kd.R_base ho1)) (fun _ h_ => h_.1))
                        have n1_ := Aside0.mk (Kd.R_mono (Kd.R_told (Kd.R_told (Kd.R_old (by exact lR <| HO_221001.out) hb) (Kd.R_base ho0)) (Kd.R_base ho1)) (fun _ h_ => h_.1))
                        have n2_ := Aside0.mk (Kd.R_mono (Kd.R_told (Kd.R_told (Kd.R_old (by exact lR <| HO_229000.out) hb) (Kd.R_base ho0)) (Kd.R_base ho1)) (fun _ h_ => h_.1))
                        have n3_ := Aside0.mk (Kd.R_mono (Kd.R_told (Kd.R_told (Kd.R_old (by exact lR <| HO_229001.out) hb) (Kd.R_base ho0)) (Kd.R_base ho1)) (fun _ h_ => h_.1))
                        have n4_ := Aside0.mk (Kd.R_mono (Kd.R_told (Kd.R_told (Kd.R_old (by exact lR <| HO_237000.out) hb) (Kd.R_base ho0)) (Kd.R_base ho1)) (fun _ h_ => h_.1))
                        have n5_ := Aside0.mk (Kd.R_mono (Kd.R_told (Kd.R_told (Kd.R_old (by exact lR <| HO_237001.out) hb) (Kd.R_base ho0)) (Kd.R_base ho1)) (fun _ h_ => h_.1))
                        have n6_ := Aside0.mk (Kd.R_mono (Kd.R_told (Kd.R_told (Kd.R_old (by exact lR <| HO_245000.out) hb) (Kd.R_base ho0)) (Kd.R_base ho1)) (fun _ h_ => h_.1))
                        have n7_ := Aside0.mk (Kd.R_mono (Kd.R_told (Kd.R_told (Kd.R_old (by exact lR <| HO_245001.out) hb) (Kd.R_base ho0)) (Kd.R_base ho1)) (fun _ h_ => h_.1))
                        have n8_ := Aside0.mk (Kd.R_mono (Kd.R_told (Kd.R_told (Kd.R_old (by exact lR <| HO275.out) hb) (Kd.R_base ho0)) (Kd.R_base ho1)) (fun _ h_ => h_.1))
                        have n9_ := Aside0.mk (Kd.R_mono (Kd.R_told (Kd.R_told (Kd.R_old (by exact lR <| HO278.out) hb) (Kd.R_base ho0)) (Kd.R_base ho1)) (fun _ h_ => h_.1))
                        have n10_ := Aside0.mk (Kd.R_mono (Kd.R_told (Kd.R_told (Kd.R_old (by exact lR <| HO282.out) hb) (Kd.R_base ho0)) (Kd.R_base ho1)) (fun _ h_ => h_.1))
                        have n11_ := Aside0.mk (Kd.R_mono (Kd.R_told (Kd.R_told (Kd.R_old (by exact lR <| HO285.out) hb) (Kd.R_base ho0)) (Kd.R_base ho1)) (fun _ h_ => h_.1))
                        have n12_ := Aside0.mk (Kd.R_lower (Kd.R_new' (Kd.R_new' (Kd.R_new' (Kd.R_new' (Kd.R_new' (Kd.R_new' (Kd.R_new' (Kd.R_new' (Kd.R_new' (Kd.R_new' (Kd.R_new' (Kd.R_new' ho0 (Kd.R_lt (by exact lR <| HO_221000.out))) (Kd.R_lt (by exact lR <| HO_221001.out))) (Kd.R_lt (by exact lR <| HO_229000.out))) (Kd.R_lt (by exact lR <| HO_229001.out))) (Kd.R_lt (by exact lR <| HO_237000.out))) (Kd.R_lt (by exact lR <| HO_237001.out))) (Kd.R_lt (by exact lR <| HO_245000.out))) (Kd.R_lt (by exact lR <| HO_245001.out))) (Kd.R_lt (by exact lR <| HO275.out))) (Kd.R_lt (by exact lR <| HO278.out))) (Kd.R_lt (by exact lR <| HO282.out))) (Kd.R_lt (by exact lR <| HO285.out))) (below_size (by repeat (first | (with_reducible first | exact HB.out | apply below_alloc | apply pw_below_drewN | apply below_drew1 | refine below_set ?_ (by first | exact GE195.out | exact GE196.out | exact GE220.out | exact GE228.out | exact GE236.out | exact GE244.out | exact GE294.out)) | exact HB.out))))
                        have n13_ := Aside0.mk (Kd.R_lower (Kd.R_new' (Kd.R_new' (Kd.R_new' (Kd.R_new' (Kd.R_new' (Kd.R_new' (Kd.R_new' (Kd.R_new' (Kd.R_new' (Kd.R_new' (Kd.R_new' (Kd.R_new' ho1 (Kd.R_lt (by exact lR <| HO_221000.out))) (Kd.R_lt (by exact lR <| HO_221001.out))) (Kd.R_lt (by exact lR <| HO_229000.out))) (Kd.R_lt (by exact lR <| HO_229001.out))) (Kd.R_lt (by exact lR <| HO_237000.out))) (Kd.R_lt (by exact lR <| HO_237001.out))) (Kd.R_lt (by exact lR <| HO_245000.out))) (Kd.R_lt (by exact lR <| HO_245001.out))) (Kd.R_lt (by exact lR <| HO275.out))) (Kd.R_lt (by exact lR <| HO278.out))) (Kd.R_lt (by exact lR <| HO282.out))) (Kd.R_lt (by exact lR <| HO285.out))) (below_size (by repeat (first | (with_reducible first | exact HB.out | apply below_alloc | apply pw_below_drewN | apply below_drew1 | refine below_set ?_ (by first | exact GE195.out | exact GE196.out | exact GE220.out | exact GE228.out | exact GE236.out | exact GE244.out | exact GE294.out)) | exact HB.out))))
                        have n14_ := Aside0.mk (blk_below (g := gb195) (o := .cells #[.slice A0_0 l0_0.length c0_0, .slice A0_1 l0_1.length c0_1, .int .i64 a0_2] 24 (0, 0)) (by exact lK <| BK195.out) hb)
                        have n15_ := Aside0.mk (blk_below (g := gb196) (o := .cells #[.slice A1_0 l1_0.length c1_0, .slice A1_1 l1_1.length c1_1, .int .i64 a1_2] 24 (0, 0)) (by exact lK <| BK196.out) hb)
                        have n16_ := Aside0.mk (blk_below (g := gb220) (o := .cells #[.slice Ao53 t213.length co53, .slice Ao55 t216.length co55, .int .i64 t219] 26 (0, 0)) (by exact lK <| BK220.out) hb)
                        have n17_ := Aside0.mk (blk_below (g := gb228) (o := .cells #[.slice Ao62 t263.length co62, .slice Ao67 t264.length co67, .int .i64 t227] 26 (0, 0)) (by exact lK <| BK228.out) hb)
                        have n18_ := Aside0.mk (blk_below (g := gb236) (o := .cells #[.slice Ao72 t266.length co72, .slice Ao78 t267.length co78, .int .i64 t235] 26 (0, 0)) (by exact lK <| BK236.out) hb)
                        have n19_ := Aside0.mk (blk_below (g := gb244) (o := .cells #[.slice Ao82 t237.length co82, .slice Ao89 t240.length co89, .int .i64 t243] 26 (0, 0)) (by exact lK <| BK244.out) hb)
                        have n20_ := Aside0.mk (blk_below (g := gb294) (o := .cells #[.slice none 0 0, .slice none 0 0, .int .i64 0] 26 (0, 0)) (by exact lK <| BK294.out) hb)
                        have n21_ := Aside0.mk (below_step (by repeat (first | (with_reducible first | exact HB.out | apply below_alloc | apply pw_below_drewN | apply below_drew1 | refine below_set ?_ (by first | exact GE195.out | exact GE196.out | exact GE220.out | exact GE228.out | exact GE236.out | exact GE244.out | exact GE294.out)) | exact HB.out)) hb)
                        clear HO_221000
                        clear HO_221001
                        clear HO_229000
                        clear HO_229001
                        clear HO_237000
                        clear HO_237001
                        clear HO_245000
                        clear HO_245001
                        clear HO275
                        clear HO278
                        clear HO282
                        clear HO285
                        clear BK195
                        clear BK196
                        clear BK220
                        clear BK228
                        clear BK236
                        clear BK244
                        clear BK294
                        clear HB
                        have HO_221000 := n0_
                        have HO_221001 := n1_
                        have HO_229000 := n2_
                        have HO_229001 := n3_
                        have HO_237000 := n4_
                        have HO_237001 := n5_
                        have HO_245000 := n6_
                        have HO_245001 := n7_
                        have HO275 := n8_
                        have HO278 := n9_
                        have HO282 := n10_
                        have HO285 := n11_
                        have HO289 := n12_
                        have HO292 := n13_
                        have BK195 := n14_
                        have BK196 := n15_
                        have BK220 := n16_
                        have BK228 := n17_
                        have BK236 := n18_
                        have BK244 := n19_
                        have BK294 := n20_
                        have HB := n21_
                        clear n0_ n1_ n2_ n3_ n4_ n5_ n6_ n7_ n8_ n9_ n10_ n11_ n12_ n13_ n14_ n15_ n16_ n17_ n18_ n19_ n20_ n21_
                        (try clear hb)
                        (try clear hb2)
                        (try clear hk)
                        (try clear hi)
                        (try clear ho0)
                        (try clear ho1)
                        refine hK.out _ _ ⟨(blk_cell BK195.out 0).trans rfl, (blk_cell BK195.out 1).trans rfl, (blk_cell BK195.out 2).trans rfl, (blk_cell BK196.out 0).trans rfl, (blk_cell BK196.out 1).trans rfl, (blk_cell BK196.out 2).trans rfl⟩ (fun hHeld => ?_)
                        clear hK K
                        refine norm_ (a' := ?_) ?_ ?_
                        rotate_left
                        · show Act.put _ (some 79) _ = _
                          simp only [Act.put, List.setIfInBounds_toArray, List.set_cons_zero, List.set_cons_succ, i64_w, i32_w]
                          rfl
                        exact norm_ (by simp only [putAll, Act.put, List.setIfInBounds_toArray, List.set_cons_zero, List.set_cons_succ]) (hCont (.slice Ao146 t273.length co146, .slice Ao147 t276.length co147, .slice Ao148 t280.length co148, .slice Ao149 t283.length co149, v288, v291, gb294) _ ⟨hHeld, (by exact lR <| Kd.R_mono HO275.out (fun _ hk => ⟨hk.1.1.1.1.1.1.1.1.1.1.1.1, ⟨hk.1.1.1.2, ⟨hk.1.1.2, ⟨hk.1.2, ⟨hk.2, ⟨hk.1.1.1.1.1.1.1.1.1.1.1.2, ⟨hk.1.1.1.1.1.1.1.1.1.1.2, ⟨hk.1.1.1.1.1.1.1.1.1.2, ⟨hk.1.1.1.1.1.1.1.1.2, ⟨hk.1.1.1.1.1.1.1.2, ⟨hk.1.1.1.1.1.1.2, ⟨hk.1.1.1.1.1.2, hk.1.1.1.1.2⟩⟩⟩⟩⟩⟩⟩⟩⟩⟩⟩⟩)), (by exact lR <| Kd.R_mono HO278.out (fun _ hk => ⟨hk.1.1.1.1.1.1.1.1.1.1.1.1, ⟨hk.1.1.1.2, ⟨hk.1.1.2, ⟨hk.1.2, ⟨hk.2, ⟨hk.1.1.1.1.1.1.1.1.1.1.1.2, ⟨hk.1.1.1.1.1.1.1.1.1.1.2, ⟨hk.1.1.1.1.1.1.1.1.1.2, ⟨hk.1.1.1.1.1.1.1.1.2, ⟨hk.1.1.1.1.1.1.1.2, ⟨hk.1.1.1.1.1.1.2, ⟨hk.1.1.1.1.1.2, hk.1.1.1.1.2⟩⟩⟩⟩⟩⟩⟩⟩⟩⟩⟩⟩)), (by exact lR <| Kd.R_mono HO282.out (fun _ hk => ⟨hk.1.1.1.2, ⟨hk.1.1.2, ⟨hk.1.1.1.1.1.1.1.1.1.1.1.1, ⟨hk.1.2, ⟨hk.2, ⟨hk.1.1.1.1.1.1.1.1.1.1.1.2, ⟨hk.1.1.1.1.1.1.1.1.1.1.2, ⟨hk.1.1.1.1.1.1.1.1.1.2, ⟨hk.1.1.1.1.1.1.1.1.2, ⟨hk.1.1.1.1.1.1.1.2, ⟨hk.1.1.1.1.1.1.2, ⟨hk.1.1.1.1.1.2, hk.1.1.1.1.2⟩⟩⟩⟩⟩⟩⟩⟩⟩⟩⟩⟩)), (by exact lR <| Kd.R_mono HO285.out (fun _ hk => ⟨hk.1.1.1.2, ⟨hk.1.1.2, ⟨hk.1.1.1.1.1.1.1.1.1.1.1.1, ⟨hk.1.2, ⟨hk.2, ⟨hk.1.1.1.1.1.1.1.1.1.1.1.2, ⟨hk.1.1.1.1.1.1.1.1.1.1.2, ⟨hk.1.1.1.1.1.1.1.1.1.2, ⟨hk.1.1.1.1.1.1.1.1.2, ⟨hk.1.1.1.1.1.1.1.2, ⟨hk.1.1.1.1.1.1.2, ⟨hk.1.1.1.1.1.2, hk.1.1.1.1.2⟩⟩⟩⟩⟩⟩⟩⟩⟩⟩⟩⟩)), (by exact lR <| Kd.R_mono HO289.out (fun _ hk => ⟨hk.1.1.1.2, ⟨hk.1.1.2, ⟨hk.1.2, ⟨hk.2, ⟨hk.1.1.1.1.1.1.1.1.1.1.1.1, ⟨hk.1.1.1.1.1.1.1.1.1.1.1.2, ⟨hk.1.1.1.1.1.1.1.1.1.1.2, ⟨hk.1.1.1.1.1.1.1.1.1.2, ⟨hk.1.1.1.1.1.1.1.1.2, ⟨hk.1.1.1.1.1.1.1.2, ⟨hk.1.1.1.1.1.1.2, ⟨hk.1.1.1.1.1.2, hk.1.1.1.1.2⟩⟩⟩⟩⟩⟩⟩⟩⟩⟩⟩⟩)), (by exact lR <| Kd.R_mono HO292.out (fun _ hk => ⟨hk.1.1.1.2, ⟨hk.1.1.2, ⟨hk.1.2, ⟨hk.2, ⟨hk.1.1.1.1.1.1.1.1.1.1.1.1, ⟨hk.1.1.1.1.1.1.1.1.1.1.1.2, ⟨hk.1.1.1.1.1.1.1.1.1.1.2, ⟨hk.1.1.1.1.1.1.1.1.1.2, ⟨hk.1.1.1.1.1.1.1.1.2, ⟨hk.1.1.1.1.1.1.1.2, ⟨hk.1.1.1.1.1.1.2, ⟨hk.1.1.1.1.1.2, hk.1.1.1.1.2⟩⟩⟩⟩⟩⟩⟩⟩⟩⟩⟩⟩)), (by exact lR <| Kd.R_mono HO_221000.out (fun _ hk => ⟨hk.1.1.1.1.1.2, ⟨hk.1.1.1.1.2, ⟨hk.1.1.1.2, ⟨hk.1.1.2, ⟨hk.1.2, ⟨hk.2, ⟨hk.1.1.1.1.1.1.1, ⟨hk.1.1.1.1.1.1.2.1, ⟨hk.1.1.1.1.1.1.2.2.1, ⟨hk.1.1.1.1.1.1.2.2.2.1, ⟨hk.1.1.1.1.1.1.2.2.2.2.1, ⟨hk.1.1.1.1.1.1.2.2.2.2.2.1, hk.1.1.1.1.1.1.2.2.2.2.2.2⟩⟩⟩⟩⟩⟩⟩⟩⟩⟩⟩⟩)), (by exact lR <| Kd.R_mono HO_221001.out (fun _ hk => ⟨hk.1.1.1.1.1.2, ⟨hk.1.1.1.1.2, ⟨hk.1.1.1.2, ⟨hk.1.1.2, ⟨hk.1.2, ⟨hk.2, ⟨hk.1.1.1.1.1.1.1, ⟨hk.1.1.1.1.1.1.2.1, ⟨hk.1.1.1.1.1.1.2.2.1, ⟨hk.1.1.1.1.1.1.2.2.2.1, ⟨hk.1.1.1.1.1.1.2.2.2.2.1, ⟨hk.1.1.1.1.1.1.2.2.2.2.2.1, hk.1.1.1.1.1.1.2.2.2.2.2.2⟩⟩⟩⟩⟩⟩⟩⟩⟩⟩⟩⟩)), (by exact lR <| Kd.R_mono HO_229000.out (fun _ hk => ⟨hk.1.1.1.1.1.2, ⟨hk.1.1.1.1.2, ⟨hk.1.1.1.2, ⟨hk.1.1.2, ⟨hk.1.2, ⟨hk.2, ⟨hk.1.1.1.1.1.1.1, ⟨hk.1.1.1.1.1.1.2.1, ⟨hk.1.1.1.1.1.1.2.2.1, ⟨hk.1.1.1.1.1.1.2.2.2.1, ⟨hk.1.1.1.1.1.1.2.2.2.2.1, ⟨hk.1.1.1.1.1.1.2.2.2.2.2.1, hk.1.1.1.1.1.1.2.2.2.2.2.2⟩⟩⟩⟩⟩⟩⟩⟩⟩⟩⟩⟩)), (by exact lR <| Kd.R_mono HO_229001.out (fun _ hk => ⟨hk.1.1.1.1.1.2, ⟨hk.1.1.1.1.2, ⟨hk.1.1.1.2, ⟨hk.1.1.2, ⟨hk.1.2, ⟨hk.2, ⟨hk.1.1.1.1.1.1.1, ⟨hk.1.1.1.1.1.1.2.1, ⟨hk.1.1.1.1.1.1.2.2.1, ⟨hk.1.1.1.1.1.1.2.2.2.1, ⟨hk.1.1.1.1.1.1.2.2.2.2.1, ⟨hk.1.1.1.1.1.1.2.2.2.2.2.1, hk.1.1.1.1.1.1.2.2.2.2.2.2⟩⟩⟩⟩⟩⟩⟩⟩⟩⟩⟩⟩)), (by exact lR <| Kd.R_mono HO_237000.out (fun _ hk => ⟨hk.1.1.1.1.1.2, ⟨hk.1.1.1.1.2, ⟨hk.1.1.1.2, ⟨hk.1.1.2, ⟨hk.1.2, ⟨hk.2, ⟨hk.1.1.1.1.1.1.1, ⟨hk.1.1.1.1.1.1.2.1, ⟨hk.1.1.1.1.1.1.2.2.1, ⟨hk.1.1.1.1.1.1.2.2.2.1, ⟨hk.1.1.1.1.1.1.2.2.2.2.1, ⟨hk.1.1.1.1.1.1.2.2.2.2.2.1, hk.1.1.1.1.1.1.2.2.2.2.2.2⟩⟩⟩⟩⟩⟩⟩⟩⟩⟩⟩⟩)), (by exact lR <| Kd.R_mono HO_237001.out (fun _ hk => ⟨hk.1.1.1.1.1.2, ⟨hk.1.1.1.1.2, ⟨hk.1.1.1.2, ⟨hk.1.1.2, ⟨hk.1.2, ⟨hk.2, ⟨hk.1.1.1.1.1.1.1, ⟨hk.1.1.1.1.1.1.2.1, ⟨hk.1.1.1.1.1.1.2.2.1, ⟨hk.1.1.1.1.1.1.2.2.2.1, ⟨hk.1.1.1.1.1.1.2.2.2.2.1, ⟨hk.1.1.1.1.1.1.2.2.2.2.2.1, hk.1.1.1.1.1.1.2.2.2.2.2.2⟩⟩⟩⟩⟩⟩⟩⟩⟩⟩⟩⟩)), (by exact lR <| Kd.R_mono HO_245000.out (fun _ hk => ⟨hk.1.1.1.1.1.2, ⟨hk.1.1.1.1.2, ⟨hk.1.1.1.2, ⟨hk.1.1.2, ⟨hk.1.2, ⟨hk.2, ⟨hk.1.1.1.1.1.1.1, ⟨hk.1.1.1.1.1.1.2.1, ⟨hk.1.1.1.1.1.1.2.2.1, ⟨hk.1.1.1.1.1.1.2.2.2.1, ⟨hk.1.1.1.1.1.1.2.2.2.2.1, ⟨hk.1.1.1.1.1.1.2.2.2.2.2.1, hk.1.1.1.1.1.1.2.2.2.2.2.2⟩⟩⟩⟩⟩⟩⟩⟩⟩⟩⟩⟩)), (by exact lR <| Kd.R_mono HO_245001.out (fun _ hk => ⟨hk.1.1.1.1.1.2, ⟨hk.1.1.1.1.2, ⟨hk.1.1.1.2, ⟨hk.1.1.2, ⟨hk.1.2, ⟨hk.2, ⟨hk.1.1.1.1.1.1.1, ⟨hk.1.1.1.1.1.1.2.1, ⟨hk.1.1.1.1.1.1.2.2.1, ⟨hk.1.1.1.1.1.1.2.2.2.1, ⟨hk.1.1.1.1.1.1.2.2.2.2.1, ⟨hk.1.1.1.1.1.1.2.2.2.2.2.1, hk.1.1.1.1.1.1.2.2.2.2.2.2⟩⟩⟩⟩⟩⟩⟩⟩⟩⟩⟩⟩)), (by exact lK <| BK195.out), (by exact lK <| BK196.out), (by exact lK <| BK220.out), (by exact lK <| BK228.out), (by exact lK <| BK236.out), (by exact lK <| BK244.out), (by exact lK <| BK294.out), GW294.out, GE294.out, NB195_294.out, NB294_195.out, NB196_294.out, NB294_196.out, NB220_294.out, NB294_220.out, NB228_294.out, NB294_228.out, NB236_294.out, NB294_236.out, NB244_294.out, NB294_244.out, (by repeat (first | (with_reducible first | exact HB.out | apply below_alloc | apply pw_below_drewN | apply below_drew1 | refine below_set ?_ (by first | exact GE195.out | exact GE196.out | exact GE220.out | exact GE228.out | exact GE236.out | exact GE244.out | exact GE294.out)) | exact HB.out))⟩)
                    · skip
                      refine box_step ?hg (N := 13) ?hd (cs := #[.slice none 0 0, .slice none 0 0, .int .i64 0]) (t := 26) ?hr ?_; (case hd => rfl); (case hg => rfl); (case hr => first | (go_simp; done) | (go_simp; rfl))
                      intro gb294 hg w144 hbox hb
                      have n0_ := Aside0.mk (Kd.R_below (by exact lR <| HO_221000.out) hb)
                      have n1_ := Aside0.mk (Kd.R_below (by exact lR <| HO_221001.out) hb)
                      have n2_ := Aside0.mk (Kd.R_below (by exact lR <| HO_229000.out) hb)
                      have n3_ := Aside0.mk (Kd.R_below (by exact lR <| HO_229001.out) hb)
                      have n4_ := Aside0.mk (Kd.R_below (by exact lR <| HO_237000.out) hb)
                      have n5_ := Aside0.mk (Kd.R_below (by exact lR <| HO_237001.out) hb)
                      have n6_ := Aside0.mk (Kd.R_below (by exact lR <| HO_245000.out) hb)
                      have n7_ := Aside0.mk (Kd.R_below (by exact lR <| HO_245001.out) hb)
                      have n8_ := Aside0.mk (Kd.R_below (by exact lR <| HO275.out) hb)
                      have n9_ := Aside0.mk (Kd.R_below (by exact lR <| HO278.out) hb)
                      have n10_ := Aside0.mk (blk_below (g := gb195) (o := .cells #[.slice A0_0 l0_0.length c0_0, .slice A0_1 l0_1.length c0_1, .int .i64 a0_2] 24 (0, 0)) (by exact lK <| BK195.out) hb)
                      have n11_ := Aside0.mk (blk_below (g := gb196) (o := .cells #[.slice A1_0 l1_0.length c1_0, .slice A1_1 l1_1.length c1_1, .int .i64 a1_2] 24 (0, 0)) (by exact lK <| BK196.out) hb)
                      have n12_ := Aside0.mk (blk_below (g := gb220) (o := .cells #[.slice Ao53 t213.length co53, .slice Ao55 t216.length co55, .int .i64 t219] 26 (0, 0)) (by exact lK <| BK220.out) hb)
                      have n13_ := Aside0.mk (blk_below (g := gb228) (o := .cells #[.slice Ao62 t263.length co62, .slice Ao67 t264.length co67, .int .i64 t227] 26 (0, 0)) (by exact lK <| BK228.out) hb)
                      have n14_ := Aside0.mk (blk_below (g := gb236) (o := .cells #[.slice Ao72 t266.length co72, .slice Ao78 t267.length co78, .int .i64 t235] 26 (0, 0)) (by exact lK <| BK236.out) hb)
                      have n15_ := Aside0.mk (blk_below (g := gb244) (o := .cells #[.slice Ao82 t237.length co82, .slice Ao89 t240.length co89, .int .i64 t243] 26 (0, 0)) (by exact lK <| BK244.out) hb)
                      have n16_ := Aside0.mk (below_step (by repeat (first | (with_reducible first | exact HB.out | apply below_alloc | apply pw_below_drewN | apply below_drew1 | refine below_set ?_ (by first | exact GE195.out | exact GE196.out | exact GE220.out | exact GE228.out | exact GE236.out | exact GE244.out)) | exact HB.out)) hb)
                      have n17_ := Aside0.mk (hbox)
                      have n18_ := Aside0.mk ((by rw [hg]; exact (below_size (by repeat (first | (with_reducible first | exact HB.out | apply below_alloc | apply pw_below_drewN | apply below_drew1 | refine below_set ?_ (by first | exact GE195.out | exact GE196.out | exact GE220.out | exact GE228.out | exact GE236.out | exact GE244.out)) | exact HB.out))) : w.heap.size ≤ gb294))
                      have n19_ := Aside0.mk ((by rw [hg]; exact (below_size (by repeat (first | (with_reducible first | exact HB.out | apply below_alloc | apply pw_below_drewN | apply below_drew1 | refine below_set ?_ (by first | exact GE195.out | exact GE196.out | exact GE220.out | exact GE228.out | exact GE236.out | exact GE244.out)) | exact HB.out))) : w.heap.size ≤ gb294))
                      have n20_ := Aside0.mk ((neL hg (lK BK195.out) : gb195 ≠ gb294))
                      have n21_ := Aside0.mk ((neG hg (lK BK195.out) : gb294 ≠ gb195))
                      have n22_ := Aside0.mk ((neL hg (lK BK196.out) : gb196 ≠ gb294))
                      have n23_ := Aside0.mk ((neG hg (lK BK196.out) : gb294 ≠ gb196))
                      have n24_ := Aside0.mk ((neL hg (lK BK220.out) : gb220 ≠ gb294))
                      have n25_ := Aside0.mk ((neG hg (lK BK220.out) : gb294 ≠ gb220))
                      have n26_ := Aside0.mk ((neL hg (lK BK228.out) : gb228 ≠ gb294))
                      have n27_ := Aside0.mk ((neG hg (lK BK228.out) : gb294 ≠ gb228))
                      have n28_ := Aside0.mk ((neL hg (lK BK236.out) : gb236 ≠ gb294))
                      have n29_ := Aside0.mk ((neG hg (lK BK236.out) : gb294 ≠ gb236))
                      have n30_ := Aside0.mk ((neL hg (lK BK244.out) : gb244 ≠ gb294))
                      have n31_ := Aside0.mk ((neG hg (lK BK244.out) : gb294 ≠ gb244))
                      clear HO_221000
                      clear HO_221001
                      clear HO_229000
                      clear HO_229001
                      clear HO_237000
                      clear HO_237001
                      clear HO_245000
                      clear HO_245001
                      clear HO275
                      clear HO278
                      clear BK195
                      clear BK196
                      clear BK220
                      clear BK228
                      clear BK236
                      clear BK244
                      clear HB
                      have HO_221000 := n0_
                      have HO_221001 := n1_
                      have HO_229000 := n2_
                      have HO_229001 := n3_
                      have HO_237000 := n4_
                      have HO_237001 := n5_
                      have HO_245000 := n6_
                      have HO_245001 := n7_
                      have HO275 := n8_
                      have HO278 := n9_
                      have BK195 := n10_
                      have BK196 := n11_
                      have BK220 := n12_
                      have BK228 := n13_
                      have BK236 := n14_
                      have BK244 := n15_
                      have HB := n16_
                      have BK294 := n17_
                      have GW294 := n18_
                      have GE294 := n19_
                      have NB195_294 := n20_
                      have NB294_195 := n21_
                      have NB196_294 := n22_
                      have NB294_196 := n23_
                      have NB220_294 := n24_
                      have NB294_220 := n25_
                      have NB228_294 := n26_
                      have NB294_228 := n27_
                      have NB236_294 := n28_
                      have NB294_236 := n29_
                      have NB244_294 := n30_
                      have NB294_244 := n31_
                      clear n0_ n1_ n2_ n3_ n4_ n5_ n6_ n7_ n8_ n9_ n10_ n11_ n12_ n13_ n14_ n15_ n16_ n17_ n18_ n19_ n20_ n21_ n22_ n23_ n24_ n25_ n26_ n27_ n28_ n29_ n30_ n31_
                      clear hb hbox hg
                      refine hK.out _ _ ⟨(blk_cell BK195.out 0).trans rfl, (blk_cell BK195.out 1).trans rfl, (blk_cell BK195.out 2).trans rfl, (blk_cell BK196.out 0).trans rfl, (blk_cell BK196.out 1).trans rfl, (blk_cell BK196.out 2).trans rfl⟩ (fun hHeld => ?_)
                      clear hK K
                      refine norm_ (a' := ?_) ?_ ?_
                      rotate_left
                      · show Act.put _ (some 13) _ = _
                        simp only [Act.put, List.setIfInBounds_toArray, List.set_cons_zero, List.set_cons_succ, i64_w, i32_w]
                        rfl
                      refine one_ (i := 3) (N := some 78) #[true, true, true, true, false, true, false] rfl rfl (by kernel_rfl) (by decide) (fun K hK => ?_)
                      refine goes_ Try.func10 (by kernel_rfl) rfl #[.agg #[.slice A1_0 l1_0.length c1_0, .slice A1_1 l1_1.length c1_1, .int .i64 a1_2]] (by rfl) rfl rfl (by (try simp only [List.map_toArray, List.map_cons, List.map_nil]); first | done | rfl | (simp only [List.length_drop, List.length_take]; rfl)) ?_
                      with_reducible refine (laws_toFrmForm.calls kj34 _ _ l1_0 _ _ l1_1 a1_2 t280 t283 t286 _ ?side1 ?side2 ?side3 ?side4 A126.out).mono ?_
                      (case side1 => exact lC <| (Kd.C_below HR1_0.out HB.out))
                      (case side2 => exact HC1_0.out)
                      (case side3 => exact lC <| (Kd.C_below HR1_1.out HB.out))
                      (case side4 => exact HC1_1.out)
                      rintro e w145 ⟨v281, v284, rfl, ho0, ho1, hb⟩
                      refine ⟨_, rfl, ?_⟩
                      have n0_ := Aside0.mk (Kd.R_mono (Kd.R_told (Kd.R_told (Kd.R_old (by exact lR <| HO_221000.out) hb) (Kd.R_base ho0)) (Kd.R_base ho1)) (fun _ h_ => h_.1))
                      have n1_ := Aside0.mk (Kd.R_mono (Kd.R_told (Kd.R_told (Kd.R_old (by exact lR <| HO_221001.out) hb) (Kd.R_base ho0)) (Kd.R_base ho1)) (fun _ h_ => h_.1))
                      have n2_ := Aside0.mk (Kd.R_mono (Kd.R_told (Kd.R_told (Kd.R_old (by exact lR <| HO_229000.out) hb) (Kd.R_base ho0)) (Kd.R_base ho1)) (fun _ h_ => h_.1))
                      have n3_ := Aside0.mk (Kd.R_mono (Kd.R_told (Kd.R_told (Kd.R_old (by exact lR <| HO_229001.out) hb) (Kd.R_base ho0)) (Kd.R_base ho1)) (fun _ h_ => h_.1))
                      have n4_ := Aside0.mk (Kd.R_mono (Kd.R_told (Kd.R_told (Kd.R_old (by exact lR <| HO_237000.out) hb) (Kd.R_base ho0)) (Kd.R_base ho1)) (fun _ h_ => h_.1))
                      have n5_ := Aside0.mk (Kd.R_mono (Kd.R_told (Kd.R_told (Kd.R_old (by exact lR <| HO_237001.out) hb) (Kd.R_base ho0)) (Kd.R_base ho1)) (fun _ h_ => h_.1))
                      have n6_ := Aside0.mk (Kd.R_mono (Kd.R_told (Kd.R_told (Kd.R_old (by exact lR <| HO_245000.out) hb) (Kd.R_base ho0)) (Kd.R_base ho1)) (fun _ h_ => h_.1))
                      have n7_ := Aside0.mk (Kd.R_mono (Kd.R_told (Kd.R_told (Kd.R_old (by exact lR <| HO_245001.out) hb) (Kd.R_base ho0)) (Kd.R_base ho1)) (fun _ h_ => h_.1))
                      have n8_ := Aside0.mk (Kd.R_mono (Kd.R_told (Kd.R_told (Kd.R_old (by exact lR <| HO275.out) hb) (Kd.R_base ho0)) (Kd.R_base ho1)) (fun _ h_ => h_.1))
                      have n9_ := Aside0.mk (Kd.R_mono (Kd.R_told (Kd.R_told (Kd.R_old (by exact lR <| HO278.out) hb) (Kd.R_base ho0)) (Kd.R_base ho1)) (fun _ h_ => h_.1))
                      have n10_ := Aside0.mk (Kd.R_lower (Kd.R_new' (Kd.R_new' (Kd.R_new' (Kd.R_new' (Kd.R_new' (Kd.R_new' (Kd.R_new' (Kd.R_new' (Kd.R_new' (Kd.R_new' ho0 (Kd.R_lt (by exact lR <| HO_221000.out))) (Kd.R_lt (by exact lR <| HO_221001.out))) (Kd.R_lt (by exact lR <| HO_229000.out))) (Kd.R_lt (by exact lR <| HO_229001.out))) (Kd.R_lt (by exact lR <| HO_237000.out))) (Kd.R_lt (by exact lR <| HO_237001.out))) (Kd.R_lt (by exact lR <| HO_245000.out))) (Kd.R_lt (by exact lR <| HO_245001.out))) (Kd.R_lt (by exact lR <| HO275.out))) (Kd.R_lt (by exact lR <| HO278.out))) (below_size (by repeat (first | (with_reducible first | exact HB.out | apply below_alloc | apply pw_below_drewN | apply below_drew1 | refine below_set ?_ (by first | exact GE195.out | exact GE196.out | exact GE220.out | exact GE228.out | exact GE236.out | exact GE244.out | exact GE294.out)) | exact HB.out))))
                      have n11_ := Aside0.mk (Kd.R_lower (Kd.R_new' (Kd.R_new' (Kd.R_new' (Kd.R_new' (Kd.R_new' (Kd.R_new' (Kd.R_new' (Kd.R_new' (Kd.R_new' (Kd.R_new' ho1 (Kd.R_lt (by exact lR <| HO_221000.out))) (Kd.R_lt (by exact lR <| HO_221001.out))) (Kd.R_lt (by exact lR <| HO_229000.out))) (Kd.R_lt (by exact lR <| HO_229001.out))) (Kd.R_lt (by exact lR <| HO_237000.out))) (Kd.R_lt (by exact lR <| HO_237001.out))) (Kd.R_lt (by exact lR <| HO_245000.out))) (Kd.R_lt (by exact lR <| HO_245001.out))) (Kd.R_lt (by exact lR <| HO275.out))) (Kd.R_lt (by exact lR <| HO278.out))) (below_size (by repeat (first | (with_reducible first | exact HB.out | apply below_alloc | apply pw_below_drewN | apply below_drew1 | refine below_set ?_ (by first | exact GE195.out | exact GE196.out | exact GE220.out | exact GE228.out | exact GE236.out | exact GE244.out | exact GE294.out)) | exact HB.out))))
                      have n12_ := Aside0.mk (blk_below (g := gb195) (o := .cells #[.slice A0_0 l0_0.length c0_0, .slice A0_1 l0_1.length c0_1, .int .i64 a0_2] 24 (0, 0)) (by exact lK <| BK195.out) hb)
                      have n13_ := Aside0.mk (blk_below (g := gb196) (o := .cells #[.slice A1_0 l1_0.length c1_0, .slice A1_1 l1_1.length c1_1, .int .i64 a1_2] 24 (0, 0)) (by exact lK <| BK196.out) hb)
                      have n14_ := Aside0.mk (blk_below (g := gb220) (o := .cells #[.slice Ao53 t213.length co53, .slice Ao55 t216.length co55, .int .i64 t219] 26 (0, 0)) (by exact lK <| BK220.out) hb)
                      have n15_ := Aside0.mk (blk_below (g := gb228) (o := .cells #[.slice Ao62 t263.length co62, .slice Ao67 t264.length co67, .int .i64 t227] 26 (0, 0)) (by exact lK <| BK228.out) hb)
                      have n16_ := Aside0.mk (blk_below (g := gb236) (o := .cells #[.slice Ao72 t266.length co72, .slice Ao78 t267.length co78, .int .i64 t235] 26 (0, 0)) (by exact lK <| BK236.out) hb)
                      have n17_ := Aside0.mk (blk_below (g := gb244) (o := .cells #[.slice Ao82 t237.length co82, .slice Ao89 t240.length co89, .int .i64 t243] 26 (0, 0)) (by exact lK <| BK244.out) hb)
                      have n18_ := Aside0.mk (blk_below (g := gb294) (o := .cells #[.slice none 0 0, .slice none 0 0, .int .i64 0] 26 (0, 0)) (by exact lK <| BK294.out) hb)
                      have n19_ := Aside0.mk (below_step (by repeat (first | (with_reducible first | exact HB.out | apply below_alloc | apply pw_below_drewN | apply below_drew1 | refine below_set ?_ (by first | exact GE195.out | exact GE196.out | exact GE220.out | exact GE228.out | exact GE236.out | exact GE244.out | exact GE294.out)) | exact HB.out)) hb)
                      clear HO_221000
                      clear HO_221001
                      clear HO_229000
                      clear HO_229001
                      clear HO_237000
                      clear HO_237001
                      clear HO_245000
                      clear HO_245001
                      clear HO275
                      clear HO278
                      clear BK195
                      clear BK196
                      clear BK220
                      clear BK228
                      clear BK236
                      clear BK244
                      clear BK294
                      clear HB
                      have HO_221000 := n0_
                      have HO_221001 := n1_
                      have HO_229000 := n2_
                      have HO_229001 := n3_
                      have HO_237000 := n4_
                      have HO_237001 := n5_
                      have HO_245000 := n6_
                      have HO_245001 := n7_
                      have HO275 := n8_
                      have HO278 := n9_
                      have HO282 := n10_
                      have HO285 := n11_
                      have BK195 := n12_
                      have BK196 := n13_
                      have BK220 := n14_
                      have BK228 := n15_
                      have BK236 := n16_
                      have BK244 := n17_
                      have BK294 := n18_
                      have HB := n19_
                      clear n0_ n1_ n2_ n3_ n4_ n5_ n6_ n7_ n8_ n9_ n10_ n11_ n12_ n13_ n14_ n15_ n16_ n17_ n18_ n19_
                      (try clear hb)
                      (try clear hb2)
                      (try clear hk)
                      (try clear hi)
                      (try clear ho0)
                      (try clear ho1)
                      obtain ⟨Ao146, co146, eo146⟩ := Kd.R_slice HO275.out
                      (first | subst eo146 | (injection eo146 with f1_ f2_ f3_; have f4_ := f1_.symm; have f5_ := f3_.symm; clear f1_ f2_ f3_; subst f4_; subst f5_))
                      obtain ⟨Ao147, co147, eo147⟩ := Kd.R_slice HO278.out
                      (first | subst eo147 | (injection eo147 with f1_ f2_ f3_; have f4_ := f1_.symm; have f5_ := f3_.symm; clear f1_ f2_ f3_; subst f4_; subst f5_))
                      obtain ⟨Ao148, co148, eo148⟩ := Kd.R_slice HO282.out
                      (first | subst eo148 | (injection eo148 with f1_ f2_ f3_; have f4_ := f1_.symm; have f5_ := f3_.symm; clear f1_ f2_ f3_; subst f4_; subst f5_))
                      obtain ⟨Ao149, co149, eo149⟩ := Kd.R_slice HO285.out
                      (first | subst eo149 | (injection eo149 with f1_ f2_ f3_; have f4_ := f1_.symm; have f5_ := f3_.symm; clear f1_ f2_ f3_; subst f4_; subst f5_))
                      refine hK.out _ _ ⟨(blk_cell BK195.out 0).trans rfl, (blk_cell BK195.out 1).trans rfl, (blk_cell BK195.out 2).trans rfl, (blk_cell BK196.out 0).trans rfl, (blk_cell BK196.out 1).trans rfl, (blk_cell BK196.out 2).trans rfl⟩ (fun hHeld => ?_)
                      clear hK K
                      refine norm_ (a' := ?_) ?_ ?_
                      rotate_left
                      · show Act.put _ (some 78) _ = _
                        simp only [Act.put, List.setIfInBounds_toArray, List.set_cons_zero, List.set_cons_succ, i64_w, i32_w]
                        rfl
                      refine one_ (i := 4) (N := some 79) #[true, true, true, true, true, true, false] rfl rfl (by kernel_rfl) (by decide) (fun K hK => ?_)
                      refine goes_ Try.func11 (by kernel_rfl) rfl #[.agg #[.slice Ao146 t273.length co146, .slice Ao147 t276.length co147, .int .i64 t279], .agg #[.slice Ao148 t280.length co148, .slice Ao149 t283.length co149, .int .i64 t286]] (by rfl) rfl rfl (by (try simp only [List.map_toArray, List.map_cons, List.map_nil]); first | done | rfl | (simp only [List.length_drop, List.length_take]; rfl)) ?_
                      with_reducible refine (impl_FrmAdd.calls _ _ t273 _ _ t276 t279 _ _ t280 _ _ t283 t286 t287 t290 t293 _ ?side1 ?side2 ?side3 ?side4 ?side5 ?side6 ?side7 ?side8 A127.out).mono ?_
                      (case side1 => exact lC <| (Kd.R_reads' HO275.out).2.2)
                      (case side2 => exact (Kd.R_reads' HO275.out).2.1)
                      (case side3 => exact lC <| (Kd.R_reads' HO278.out).2.2)
                      (case side4 => exact (Kd.R_reads' HO278.out).2.1)
                      (case side5 => exact lC <| (Kd.R_reads' HO282.out).2.2)
                      (case side6 => exact (Kd.R_reads' HO282.out).2.1)
                      (case side7 => exact lC <| (Kd.R_reads' HO285.out).2.2)
                      (case side8 => exact (Kd.R_reads' HO285.out).2.1)
                      rintro e w150 ⟨v288, v291, rfl, ho0, ho1, hb⟩
                      refine ⟨_, rfl, ?_⟩
                      have n0_ := Aside0.mk (Kd.R_mono (Kd.R_told (Kd.R_told (Kd.R_old (by exact lR <| HO_221000.out) hb) (Kd.R_base ho0)) (Kd.R_base ho1)) (fun _ h_ => h_.1))
                      have n1_ := Aside0.mk (Kd.R_mono (Kd.R_told (Kd.R_told (Kd.R_old (by exact lR <| HO_221001.out) hb) (Kd.R_base ho0)) (Kd.R_base ho1)) (fun _ h_ => h_.1))
                      have n2_ := Aside0.mk (Kd.R_mono (Kd.R_told (Kd.R_told (Kd.R_old (by exact lR <| HO_229000.out) hb) (Kd.R_base ho0)) (Kd.R_base ho1)) (fun _ h_ => h_.1))
                      have n3_ := Aside0.mk (Kd.R_mono (Kd.R_told (Kd.R_told (Kd.R_old (by exact lR <| HO_229001.out) hb) (Kd.R_base ho0)) (Kd.R_base ho1)) (fun _ h_ => h_.1))
                      have n4_ := Aside0.mk (Kd.R_mono (Kd.R_told (Kd.R_told (Kd.R_old (by exact lR <| HO_237000.out) hb) (Kd.R_base ho0)) (Kd.R_base ho1)) (fun _ h_ => h_.1))
                      have n5_ := Aside0.mk (Kd.R_mono (Kd.R_told (Kd.R_told (Kd.R_old (by exact lR <| HO_237001.out) hb) (Kd.R_base ho0)) (Kd.R_base ho1)) (fun _ h_ => h_.1))
                      have n6_ := Aside0.mk (Kd.R_mono (Kd.R_told (Kd.R_told (Kd.R_old (by exact lR <| HO_245000.out) hb) (Kd.R_base ho0)) (Kd.R_base ho1)) (fun _ h_ => h_.1))
                      have n7_ := Aside0.mk (Kd.R_mono (Kd.R_told (Kd.R_told (Kd.R_old (by exact lR <| HO_245001.out) hb) (Kd.R_base ho0)) (Kd.R_base ho1)) (fun _ h_ => h_.1))
                      have n8_ := Aside0.mk (Kd.R_mono (Kd.R_told (Kd.R_told (Kd.R_old (by exact lR <| HO275.out) hb) (Kd.R_base ho0)) (Kd.R_base ho1)) (fun _ h_ => h_.1))
                      have n9_ := Aside0.mk (Kd.R_mono (Kd.R_told (Kd.R_told (Kd.R_old (by exact lR <| HO278.out) hb) (Kd.R_base ho0)) (Kd.R_base ho1)) (fun _ h_ => h_.1))
                      have n10_ := Aside0.mk (Kd.R_mono (Kd.R_told (Kd.R_told (Kd.R_old (by exact lR <| HO282.out) hb) (Kd.R_base ho0)) (Kd.R_base ho1)) (fun _ h_ => h_.1))
                      have n11_ := Aside0.mk (Kd.R_mono (Kd.R_told (Kd.R_told (Kd.R_old (by exact lR <| HO285.out) hb) (Kd.R_base ho0)) (Kd.R_base ho1)) (fun _ h_ => h_.1))
                      have n12_ := Aside0.mk (Kd.R_lower (Kd.R_new' (Kd.R_new' (Kd.R_new' (Kd.R_new' (Kd.R_new' (Kd.R_new' (Kd.R_new' (Kd.R_new' (Kd.R_new' (Kd.R_new' (Kd.R_new' (Kd.R_new' ho0 (Kd.R_lt (by exact lR <| HO_221000.out))) (Kd.R_lt (by exact lR <| HO_221001.out))) (Kd.R_lt (by exact lR <| HO_229000.out))) (Kd.R_lt (by exact lR <| HO_229001.out))) (Kd.R_lt (by exact lR <| HO_237000.out))) (Kd.R_lt (by exact lR <| HO_237001.out))) (Kd.R_lt (by exact lR <| HO_245000.out))) (Kd.R_lt (by exact lR <| HO_245001.out))) (Kd.R_lt (by exact lR <| HO275.out))) (Kd.R_lt (by exact lR <| HO278.out))) (Kd.R_lt (by exact lR <| HO282.out))) (Kd.R_lt (by exact lR <| HO285.out))) (below_size (by repeat (first | (with_reducible first | exact HB.out | apply below_alloc | apply pw_below_drewN | apply below_drew1 | refine below_set ?_ (by first | exact GE195.out | exact GE196.out | exact GE220.out | exact GE228.out | exact GE236.out | exact GE244.out | exact GE294.out)) | exact HB.out))))
                      have n13_ := Aside0.mk (Kd.R_lower (Kd.R_new' (Kd.R_new' (Kd.R_new' (Kd.R_new' (Kd.R_new' (Kd.R_new' (Kd.R_new' (Kd.R_new' (Kd.R_new' (Kd.R_new' (Kd.R_new' (Kd.R_new' ho1 (Kd.R_lt (by exact lR <| HO_221000.out))) (Kd.R_lt (by exact lR <| HO_221001.out))) (Kd.R_lt (by exact lR <| HO_229000.out))) (Kd.R_lt (by exact lR <| HO_229001.out))) (Kd.R_lt (by exact lR <| HO_237000.out))) (Kd.R_lt (by exact lR <| HO_237001.out))) (Kd.R_lt (by exact lR <| HO_245000.out))) (Kd.R_lt (by exact lR <| HO_245001.out))) (Kd.R_lt (by exact lR <| HO275.out))) (Kd.R_lt (by exact lR <| HO278.out))) (Kd.R_lt (by exact lR <| HO282.out))) (Kd.R_lt (by exact lR <| HO285.out))) (below_size (by repeat (first | (with_reducible first | exact HB.out | apply below_alloc | apply pw_below_drewN | apply below_drew1 | refine below_set ?_ (by first | exact GE195.out | exact GE196.out | exact GE220.out | exact GE228.out | exact GE236.out | exact GE244.out | exact GE294.out)) | exact HB.out))))
                      have n14_ := Aside0.mk (blk_below (g := gb195) (o := .cells #[.slice A0_0 l0_0.length c0_0, .slice A0_1 l0_1.length c0_1, .int .i64 a0_2] 24 (0, 0)) (by exact lK <| BK195.out) hb)
                      have n15_ := Aside0.mk (blk_below (g := gb196) (o := .cells #[.slice A1_0 l1_0.length c1_0, .slice A1_1 l1_1.length c1_1, .int .i64 a1_2] 24 (0, 0)) (by exact lK <| BK196.out) hb)
                      have n16_ := Aside0.mk (blk_below (g := gb220) (o := .cells #[.slice Ao53 t213.length co53, .slice Ao55 t216.length co55, .int .i64 t219] 26 (0, 0)) (by exact lK <| BK220.out) hb)
                      have n17_ := Aside0.mk (blk_below (g := gb228) (o := .cells #[.slice Ao62 t263.length co62, .slice Ao67 t264.length co67, .int .i64 t227] 26 (0, 0)) (by exact lK <| BK228.out) hb)
                      have n18_ := Aside0.mk (blk_below (g := gb236) (o := .cells #[.slice Ao72 t266.length co72, .slice Ao78 t267.length co78, .int .i64 t235] 26 (0, 0)) (by exact lK <| BK236.out) hb)
                      have n19_ := Aside0.mk (blk_below (g := gb244) (o := .cells #[.slice Ao82 t237.length co82, .slice Ao89 t240.length co89, .int .i64 t243] 26 (0, 0)) (by exact lK <| BK244.out) hb)
                      have n20_ := Aside0.mk (blk_below (g := gb294) (o := .cells #[.slice none 0 0, .slice none 0 0, .int .i64 0] 26 (0, 0)) (by exact lK <| BK294.out) hb)
                      have n21_ := Aside0.mk (below_step (by repeat (first | (with_reducible first | exact HB.out | apply below_alloc | apply pw_below_drewN | apply below_drew1 | refine below_set ?_ (by first | exact GE195.out | exact GE196.out | exact GE220.out | exact GE228.out | exact GE236.out | exact GE244.out | exact GE294.out)) | exact HB.out)) hb)
                      clear HO_221000
                      clear HO_221001
                      clear HO_229000
                      clear HO_229001
                      clear HO_237000
                      clear HO_237001
                      clear HO_245000
                      clear HO_245001
                      clear HO275
                      clear HO278
                      clear HO282
                      clear HO285
                      clear BK195
                      clear BK196
                      clear BK220
                      clear BK228
                      clear BK236
                      clear BK244
                      clear BK294
                      clear HB
                      have HO_221000 := n0_
                      have HO_221001 := n1_
                      have HO_229000 := n2_
                      have HO_229001 := n3_
                      have HO_237000 := n4_
                      have HO_237001 := n5_
                      have HO_245000 := n6_
                      have HO_245001 := n7_
                      have HO275 := n8_
                      have HO278 := n9_
                      have HO282 := n10_
                      have HO285 := n11_
                      have HO289 := n12_
                      have HO292 := n13_
                      have BK195 := n14_
                      have BK196 := n15_
                      have BK220 := n16_
                      have BK228 := n17_
                      have BK236 := n18_
                      have BK244 := n19_
                      have BK294 := n20_
                      have HB := n21_
                      clear n0_ n1_ n2_ n3_ n4_ n5_ n6_ n7_ n8_ n9_ n10_ n11_ n12_ n13_ n14_ n15_ n16_ n17_ n18_ n19_ n20_ n21_
                      (try clear hb)
                      (try clear hb2)
                      (try clear hk)
                      (try clear hi)
                      (try clear ho0)
                      (try clear ho1)
                      refine hK.out _ _ ⟨(blk_cell BK195.out 0).trans rfl, (blk_cell BK195.out 1).trans rfl, (blk_cell BK195.out 2).trans rfl, (blk_cell BK196.out 0).trans rfl, (blk_cell BK196.out 1).trans rfl, (blk_cell BK196.out 2).trans rfl⟩ (fun hHeld => ?_)
                      clear hK K
                      refine norm_ (a' := ?_) ?_ ?_
                      rotate_left
                      · show Act.put _ (some 79) _ = _
                        simp only [Act.put, List.setIfInBounds_toArray, List.set_cons_zero, List.set_cons_succ, i64_w, i32_w]
                        rfl
                      exact norm_ (by simp only [putAll, Act.put, List.setIfInBounds_toArray, List.set_cons_zero, List.set_cons_succ]) (hCont (.slice Ao146 t273.length co146, .slice Ao147 t276.length co147, .slice Ao148 t280.length co148, .slice Ao149 t283.length co149, v288, v291, gb294) _ ⟨hHeld, (by exact lR <| Kd.R_mono HO275.out (fun _ hk => ⟨hk.1.1.1.1.1.1.1.1.1.1.1.1, ⟨hk.1.1.1.2, ⟨hk.1.1.2, ⟨hk.1.2, ⟨hk.2, ⟨hk.1.1.1.1.1.1.1.1.1.1.1.2, ⟨hk.1.1.1.1.1.1.1.1.1.1.2, ⟨hk.1.1.1.1.1.1.1.1.1.2, ⟨hk.1.1.1.1.1.1.1.1.2, ⟨hk.1.1.1.1.1.1.1.2, ⟨hk.1.1.1.1.1.1.2, ⟨hk.1.1.1.1.1.2, hk.1.1.1.1.2⟩⟩⟩⟩⟩⟩⟩⟩⟩⟩⟩⟩)), (by exact lR <| Kd.R_mono HO278.out (fun _ hk => ⟨hk.1.1.1.1.1.1.1.1.1.1.1.1, ⟨hk.1.1.1.2, ⟨hk.1.1.2, ⟨hk.1.2, ⟨hk.2, ⟨hk.1.1.1.1.1.1.1.1.1.1.1.2, ⟨hk.1.1.1.1.1.1.1.1.1.1.2, ⟨hk.1.1.1.1.1.1.1.1.1.2, ⟨hk.1.1.1.1.1.1.1.1.2, ⟨hk.1.1.1.1.1.1.1.2, ⟨hk.1.1.1.1.1.1.2, ⟨hk.1.1.1.1.1.2, hk.1.1.1.1.2⟩⟩⟩⟩⟩⟩⟩⟩⟩⟩⟩⟩)), (by exact lR <| Kd.R_mono HO282.out (fun _ hk => ⟨hk.1.1.1.2, ⟨hk.1.1.2, ⟨hk.1.1.1.1.1.1.1.1.1.1.1.1, ⟨hk.1.2, ⟨hk.2, ⟨hk.1.1.1.1.1.1.1.1.1.1.1.2, ⟨hk.1.1.1.1.1.1.1.1.1.1.2, ⟨hk.1.1.1.1.1.1.1.1.1.2, ⟨hk.1.1.1.1.1.1.1.1.2, ⟨hk.1.1.1.1.1.1.1.2, ⟨hk.1.1.1.1.1.1.2, ⟨hk.1.1.1.1.1.2, hk.1.1.1.1.2⟩⟩⟩⟩⟩⟩⟩⟩⟩⟩⟩⟩)), (by exact lR <| Kd.R_mono HO285.out (fun _ hk => ⟨hk.1.1.1.2, ⟨hk.1.1.2, ⟨hk.1.1.1.1.1.1.1.1.1.1.1.1, ⟨hk.1.2, ⟨hk.2, ⟨hk.1.1.1.1.1.1.1.1.1.1.1.2, ⟨hk.1.1.1.1.1.1.1.1.1.1.2, ⟨hk.1.1.1.1.1.1.1.1.1.2, ⟨hk.1.1.1.1.1.1.1.1.2, ⟨hk.1.1.1.1.1.1.1.2, ⟨hk.1.1.1.1.1.1.2, ⟨hk.1.1.1.1.1.2, hk.1.1.1.1.2⟩⟩⟩⟩⟩⟩⟩⟩⟩⟩⟩⟩)), (by exact lR <| Kd.R_mono HO289.out (fun _ hk => ⟨hk.1.1.1.2, ⟨hk.1.1.2, ⟨hk.1.2, ⟨hk.2, ⟨hk.1.1.1.1.1.1.1.1.1.1.1.1, ⟨hk.1.1.1.1.1.1.1.1.1.1.1.2, ⟨hk.1.1.1.1.1.1.1.1.1.1.2, ⟨hk.1.1.1.1.1.1.1.1.1.2, ⟨hk.1.1.1.1.1.1.1.1.2, ⟨hk.1.1.1.1.1.1.1.2, ⟨hk.1.1.1.1.1.1.2, ⟨hk.1.1.1.1.1.2, hk.1.1.1.1.2⟩⟩⟩⟩⟩⟩⟩⟩⟩⟩⟩⟩)), (by exact lR <| Kd.R_mono HO292.out (fun _ hk => ⟨hk.1.1.1.2, ⟨hk.1.1.2, ⟨hk.1.2, ⟨hk.2, ⟨hk.1.1.1.1.1.1.1.1.1.1.1.1, ⟨hk.1.1.1.1.1.1.1.1.1.1.1.2, ⟨hk.1.1.1.1.1.1.1.1.1.1.2, ⟨hk.1.1.1.1.1.1.1.1.1.2, ⟨hk.1.1.1.1.1.1.1.1.2, ⟨hk.1.1.1.1.1.1.1.2, ⟨hk.1.1.1.1.1.1.2, ⟨hk.1.1.1.1.1.2, hk.1.1.1.1.2⟩⟩⟩⟩⟩⟩⟩⟩⟩⟩⟩⟩)), (by exact lR <| Kd.R_mono HO_221000.out (fun _ hk => ⟨hk.1.1.1.1.1.2, ⟨hk.1.1.1.1.2, ⟨hk.1.1.1.2, ⟨hk.1.1.2, ⟨hk.1.2, ⟨hk.2, ⟨hk.1.1.1.1.1.1.1, ⟨hk.1.1.1.1.1.1.2.1, ⟨hk.1.1.1.1.1.1.2.2.1, ⟨hk.1.1.1.1.1.1.2.2.2.1, ⟨hk.1.1.1.1.1.1.2.2.2.2.1, ⟨hk.1.1.1.1.1.1.2.2.2.2.2.1, hk.1.1.1.1.1.1.2.2.2.2.2.2⟩⟩⟩⟩⟩⟩⟩⟩⟩⟩⟩⟩)), (by exact lR <| Kd.R_mono HO_221001.out (fun _ hk => ⟨hk.1.1.1.1.1.2, ⟨hk.1.1.1.1.2, ⟨hk.1.1.1.2, ⟨hk.1.1.2, ⟨hk.1.2, ⟨hk.2, ⟨hk.1.1.1.1.1.1.1, ⟨hk.1.1.1.1.1.1.2.1, ⟨hk.1.1.1.1.1.1.2.2.1, ⟨hk.1.1.1.1.1.1.2.2.2.1, ⟨hk.1.1.1.1.1.1.2.2.2.2.1, ⟨hk.1.1.1.1.1.1.2.2.2.2.2.1, hk.1.1.1.1.1.1.2.2.2.2.2.2⟩⟩⟩⟩⟩⟩⟩⟩⟩⟩⟩⟩)), (by exact lR <| Kd.R_mono HO_229000.out (fun _ hk => ⟨hk.1.1.1.1.1.2, ⟨hk.1.1.1.1.2, ⟨hk.1.1.1.2, ⟨hk.1.1.2, ⟨hk.1.2, ⟨hk.2, ⟨hk.1.1.1.1.1.1.1, ⟨hk.1.1.1.1.1.1.2.1, ⟨hk.1.1.1.1.1.1.2.2.1, ⟨hk.1.1.1.1.1.1.2.2.2.1, ⟨hk.1.1.1.1.1.1.2.2.2.2.1, ⟨hk.1.1.1.1.1.1.2.2.2.2.2.1, hk.1.1.1.1.1.1.2.2.2.2.2.2⟩⟩⟩⟩⟩⟩⟩⟩⟩⟩⟩⟩)), (by exact lR <| Kd.R_mono HO_229001.out (fun _ hk => ⟨hk.1.1.1.1.1.2, ⟨hk.1.1.1.1.2, ⟨hk.1.1.1.2, ⟨hk.1.1.2, ⟨hk.1.2, ⟨hk.2, ⟨hk.1.1.1.1.1.1.1, ⟨hk.1.1.1.1.1.1.2.1, ⟨hk.1.1.1.1.1.1.2.2.1, ⟨hk.1.1.1.1.1.1.2.2.2.1, ⟨hk.1.1.1.1.1.1.2.2.2.2.1, ⟨hk.1.1.1.1.1.1.2.2.2.2.2.1, hk.1.1.1.1.1.1.2.2.2.2.2.2⟩⟩⟩⟩⟩⟩⟩⟩⟩⟩⟩⟩)), (by exact lR <| Kd.R_mono HO_237000.out (fun _ hk => ⟨hk.1.1.1.1.1.2, ⟨hk.1.1.1.1.2, ⟨hk.1.1.1.2, ⟨hk.1.1.2, ⟨hk.1.2, ⟨hk.2, ⟨hk.1.1.1.1.1.1.1, ⟨hk.1.1.1.1.1.1.2.1, ⟨hk.1.1.1.1.1.1.2.2.1, ⟨hk.1.1.1.1.1.1.2.2.2.1, ⟨hk.1.1.1.1.1.1.2.2.2.2.1, ⟨hk.1.1.1.1.1.1.2.2.2.2.2.1, hk.1.1.1.1.1.1.2.2.2.2.2.2⟩⟩⟩⟩⟩⟩⟩⟩⟩⟩⟩⟩)), (by exact lR <| Kd.R_mono HO_237001.out (fun _ hk => ⟨hk.1.1.1.1.1.2, ⟨hk.1.1.1.1.2, ⟨hk.1.1.1.2, ⟨hk.1.1.2, ⟨hk.1.2, ⟨hk.2, ⟨hk.1.1.1.1.1.1.1, ⟨hk.1.1.1.1.1.1.2.1, ⟨hk.1.1.1.1.1.1.2.2.1, ⟨hk.1.1.1.1.1.1.2.2.2.1, ⟨hk.1.1.1.1.1.1.2.2.2.2.1, ⟨hk.1.1.1.1.1.1.2.2.2.2.2.1, hk.1.1.1.1.1.1.2.2.2.2.2.2⟩⟩⟩⟩⟩⟩⟩⟩⟩⟩⟩⟩)), (by exact lR <| Kd.R_mono HO_245000.out (fun _ hk => ⟨hk.1.1.1.1.1.2, ⟨hk.1.1.1.1.2, ⟨hk.1.1.1.2, ⟨hk.1.1.2, ⟨hk.1.2, ⟨hk.2, ⟨hk.1.1.1.1.1.1.1, ⟨hk.1.1.1.1.1.1.2.1, ⟨hk.1.1.1.1.1.1.2.2.1, ⟨hk.1.1.1.1.1.1.2.2.2.1, ⟨hk.1.1.1.1.1.1.2.2.2.2.1, ⟨hk.1.1.1.1.1.1.2.2.2.2.2.1, hk.1.1.1.1.1.1.2.2.2.2.2.2⟩⟩⟩⟩⟩⟩⟩⟩⟩⟩⟩⟩)), (by exact lR <| Kd.R_mono HO_245001.out (fun _ hk => ⟨hk.1.1.1.1.1.2, ⟨hk.1.1.1.1.2, ⟨hk.1.1.1.2, ⟨hk.1.1.2, ⟨hk.1.2, ⟨hk.2, ⟨hk.1.1.1.1.1.1.1, ⟨hk.1.1.1.1.1.1.2.1, ⟨hk.1.1.1.1.1.1.2.2.1, ⟨hk.1.1.1.1.1.1.2.2.2.1, ⟨hk.1.1.1.1.1.1.2.2.2.2.1, ⟨hk.1.1.1.1.1.1.2.2.2.2.2.1, hk.1.1.1.1.1.1.2.2.2.2.2.2⟩⟩⟩⟩⟩⟩⟩⟩⟩⟩⟩⟩)), (by exact lK <| BK195.out), (by exact lK <| BK196.out), (by exact lK <| BK220.out), (by exact lK <| BK228.out), (by exact lK <| BK236.out), (by exact lK <| BK244.out), (by exact lK <| BK294.out), GW294.out, GE294.out, NB195_294.out, NB294_195.out, NB196_294.out, NB294_196.out, NB220_294.out, NB294_220.out, NB228_294.out, NB294_228.out, NB236_294.out, NB294_236.out, NB244_294.out, NB294_244.out, (by repeat (first | (with_reducible first | exact HB.out | apply below_alloc | apply pw_below_drewN | apply below_drew1 | refine below_set ?_ (by first | exact GE195.out | exact GE196.out | exact GE220.out | exact GE228.out | exact GE236.out | exact GE244.out | exact GE294.out)) | exact HB.out))⟩)
                  · skip
                    refine box_step ?hg (N := 13) ?hd (cs := #[.slice none 0 0, .slice none 0 0, .int .i64 0]) (t := 26) ?hr ?_; (case hd => rfl); (case hg => rfl); (case hr => first | (go_simp; done) | (go_simp; rfl))
                    intro gb294 hg w143 hbox hb
                    have n0_ := Aside0.mk (Kd.R_below (by exact lR <| HO_221000.out) hb)
                    have n1_ := Aside0.mk (Kd.R_below (by exact lR <| HO_221001.out) hb)
                    have n2_ := Aside0.mk (Kd.R_below (by exact lR <| HO_229000.out) hb)
                    have n3_ := Aside0.mk (Kd.R_below (by exact lR <| HO_229001.out) hb)
                    have n4_ := Aside0.mk (Kd.R_below (by exact lR <| HO_237000.out) hb)
                    have n5_ := Aside0.mk (Kd.R_below (by exact lR <| HO_237001.out) hb)
                    have n6_ := Aside0.mk (Kd.R_below (by exact lR <| HO_245000.out) hb)
                    have n7_ := Aside0.mk (Kd.R_below (by exact lR <| HO_245001.out) hb)
                    have n8_ := Aside0.mk (blk_below (g := gb195) (o := .cells #[.slice A0_0 l0_0.length c0_0, .slice A0_1 l0_1.length c0_1, .int .i64 a0_2] 24 (0, 0)) (by exact lK <| BK195.out) hb)
                    have n9_ := Aside0.mk (blk_below (g := gb196) (o := .cells #[.slice A1_0 l1_0.length c1_0, .slice A1_1 l1_1.length c1_1, .int .i64 a1_2] 24 (0, 0)) (by exact lK <| BK196.out) hb)
                    have n10_ := Aside0.mk (blk_below (g := gb220) (o := .cells #[.slice Ao53 t213.length co53, .slice Ao55 t216.length co55, .int .i64 t219] 26 (0, 0)) (by exact lK <| BK220.out) hb)
                    have n11_ := Aside0.mk (blk_below (g := gb228) (o := .cells #[.slice Ao62 t263.length co62, .slice Ao67 t264.length co67, .int .i64 t227] 26 (0, 0)) (by exact lK <| BK228.out) hb)
                    have n12_ := Aside0.mk (blk_below (g := gb236) (o := .cells #[.slice Ao72 t266.length co72, .slice Ao78 t267.length co78, .int .i64 t235] 26 (0, 0)) (by exact lK <| BK236.out) hb)
                    have n13_ := Aside0.mk (blk_below (g := gb244) (o := .cells #[.slice Ao82 t237.length co82, .slice Ao89 t240.length co89, .int .i64 t243] 26 (0, 0)) (by exact lK <| BK244.out) hb)
                    have n14_ := Aside0.mk (below_step (by repeat (first | (with_reducible first | exact HB.out | apply below_alloc | apply pw_below_drewN | apply below_drew1 | refine below_set ?_ (by first | exact GE195.out | exact GE196.out | exact GE220.out | exact GE228.out | exact GE236.out | exact GE244.out)) | exact HB.out)) hb)
                    have n15_ := Aside0.mk (hbox)
                    have n16_ := Aside0.mk ((by rw [hg]; exact (below_size (by repeat (first | (with_reducible first | exact HB.out | apply below_alloc | apply pw_below_drewN | apply below_drew1 | refine below_set ?_ (by first | exact GE195.out | exact GE196.out | exact GE220.out | exact GE228.out | exact GE236.out | exact GE244.out)) | exact HB.out))) : w.heap.size ≤ gb294))
                    have n17_ := Aside0.mk ((by rw [hg]; exact (below_size (by repeat (first | (with_reducible first | exact HB.out | apply below_alloc | apply pw_below_drewN | apply below_drew1 | refine below_set ?_ (by first | exact GE195.out | exact GE196.out | exact GE220.out | exact GE228.out | exact GE236.out | exact GE244.out)) | exact HB.out))) : w.heap.size ≤ gb294))
                    have n18_ := Aside0.mk ((neL hg (lK BK195.out) : gb195 ≠ gb294))
                    have n19_ := Aside0.mk ((neG hg (lK BK195.out) : gb294 ≠ gb195))
                    have n20_ := Aside0.mk ((neL hg (lK BK196.out) : gb196 ≠ gb294))
                    have n21_ := Aside0.mk ((neG hg (lK BK196.out) : gb294 ≠ gb196))
                    have n22_ := Aside0.mk ((neL hg (lK BK220.out) : gb220 ≠ gb294))
                    have n23_ := Aside0.mk ((neG hg (lK BK220.out) : gb294 ≠ gb220))
                    have n24_ := Aside0.mk ((neL hg (lK BK228.out) : gb228 ≠ gb294))
                    have n25_ := Aside0.mk ((neG hg (lK BK228.out) : gb294 ≠ gb228))
                    have n26_ := Aside0.mk ((neL hg (lK BK236.out) : gb236 ≠ gb294))
                    have n27_ := Aside0.mk ((neG hg (lK BK236.out) : gb294 ≠ gb236))
                    have n28_ := Aside0.mk ((neL hg (lK BK244.out) : gb244 ≠ gb294))
                    have n29_ := Aside0.mk ((neG hg (lK BK244.out) : gb294 ≠ gb244))
                    clear HO_221000
                    clear HO_221001
                    clear HO_229000
                    clear HO_229001
                    clear HO_237000
                    clear HO_237001
                    clear HO_245000
                    clear HO_245001
                    clear BK195
                    clear BK196
                    clear BK220
                    clear BK228
                    clear BK236
                    clear BK244
                    clear HB
                    have HO_221000 := n0_
                    have HO_221001 := n1_
                    have HO_229000 := n2_
                    have HO_229001 := n3_
                    have HO_237000 := n4_
                    have HO_237001 := n5_
                    have HO_245000 := n6_
                    have HO_245001 := n7_
                    have BK195 := n8_
                    have BK196 := n9_
                    have BK220 := n10_
                    have BK228 := n11_
                    have BK236 := n12_
                    have BK244 := n13_
                    have HB := n14_
                    have BK294 := n15_
                    have GW294 := n16_
                    have GE294 := n17_
                    have NB195_294 := n18_
                    have NB294_195 := n19_
                    have NB196_294 := n20_
                    have NB294_196 := n21_
                    have NB220_294 := n22_
                    have NB294_220 := n23_
                    have NB228_294 := n24_
                    have NB294_228 := n25_
                    have NB236_294 := n26_
                    have NB294_236 := n27_
                    have NB244_294 := n28_
                    have NB294_244 := n29_
                    clear n0_ n1_ n2_ n3_ n4_ n5_ n6_ n7_ n8_ n9_ n10_ n11_ n12_ n13_ n14_ n15_ n16_ n17_ n18_ n19_ n20_ n21_ n22_ n23_ n24_ n25_ n26_ n27_ n28_ n29_
                    clear hb hbox hg
                    refine hK.out _ _ ⟨(blk_cell BK195.out 0).trans rfl, (blk_cell BK195.out 1).trans rfl, (blk_cell BK195.out 2).trans rfl, (blk_cell BK196.out 0).trans rfl, (blk_cell BK196.out 1).trans rfl, (blk_cell BK196.out 2).trans rfl⟩ (fun hHeld => ?_)
                    clear hK K
                    refine norm_ (a' := ?_) ?_ ?_
                    rotate_left
                    · show Act.put _ (some 13) _ = _
                      simp only [Act.put, List.setIfInBounds_toArray, List.set_cons_zero, List.set_cons_succ, i64_w, i32_w]
                      rfl
                    refine one_ (i := 1) (N := some 76) #[true, true, true, false, false, true, false] rfl rfl (by kernel_rfl) (by decide) (fun K hK => ?_)
                    refine goes_ Try.func10 (by kernel_rfl) rfl #[.agg #[.slice A0_0 l0_0.length c0_0, .slice A0_1 l0_1.length c0_1, .int .i64 a0_2]] (by rfl) rfl rfl (by (try simp only [List.map_toArray, List.map_cons, List.map_nil]); first | done | rfl | (simp only [List.length_drop, List.length_take]; rfl)) ?_
                    with_reducible refine (laws_toFrmForm.calls kj34 _ _ l0_0 _ _ l0_1 a0_2 t273 t276 t279 _ ?side1 ?side2 ?side3 ?side4 A125.out).mono ?_
                    (case side1 => exact lC <| (Kd.C_below HR0_0.out HB.out))
                    (case side2 => exact HC0_0.out)
                    (case side3 => exact lC <| (Kd.C_below HR0_1.out HB.out))
                    (case side4 => exact HC0_1.out)
                    rintro e w144 ⟨v274, v277, rfl, ho0, ho1, hb⟩
                    refine ⟨_, rfl, ?_⟩
                    have n0_ := Aside0.mk (Kd.R_mono (Kd.R_told (Kd.R_told (Kd.R_old (by exact lR <| HO_221000.out) hb) (Kd.R_base ho0)) (Kd.R_base ho1)) (fun _ h_ => h_.1))
                    have n1_ := Aside0.mk (Kd.R_mono (Kd.R_told (Kd.R_told (Kd.R_old (by exact lR <| HO_221001.out) hb) (Kd.R_base ho0)) (Kd.R_base ho1)) (fun _ h_ => h_.1))
                    have n2_ := Aside0.mk (Kd.R_mono (Kd.R_told (Kd.R_told (Kd.R_old (by exact lR <| HO_229000.out) hb) (Kd.R_base ho0)) (Kd.R_base ho1)) (fun _ h_ => h_.1))
                    have n3_ := Aside0.mk (Kd.R_mono (Kd.R_told (Kd.R_told (Kd.R_old (by exact lR <| HO_229001.out) hb) (Kd.R_base ho0)) (Kd.R_base ho1)) (fun _ h_ => h_.1))
                    have n4_ := Aside0.mk (Kd.R_mono (Kd.R_told (Kd.R_told (Kd.R_old (by exact lR <| HO_237000.out) hb) (Kd.R_base ho0)) (Kd.R_base ho1)) (fun _ h_ => h_.1))
                    have n5_ := Aside0.mk (Kd.R_mono (Kd.R_told (Kd.R_told (Kd.R_old (by exact lR <| HO_237001.out) hb) (Kd.R_base ho0)) (Kd.R_base ho1)) (fun _ h_ => h_.1))
                    have n6_ := Aside0.mk (Kd.R_mono (Kd.R_told (Kd.R_told (Kd.R_old (by exact lR <| HO_245000.out) hb) (Kd.R_base ho0)) (Kd.R_base ho1)) (fun _ h_ => h_.1))
                    have n7_ := Aside0.mk (Kd.R_mono (Kd.R_told (Kd.R_told (Kd.R_old (by exact lR <| HO_245001.out) hb) (Kd.R_base ho0)) (Kd.R_base ho1)) (fun _ h_ => h_.1))
                    have n8_ := Aside0.mk (Kd.R_lower (Kd.R_new' (Kd.R_new' (Kd.R_new' (Kd.R_new' (Kd.R_new' (Kd.R_new' (Kd.R_new' (Kd.R_new' ho0 (Kd.R_lt (by exact lR <| HO_221000.out))) (Kd.R_lt (by exact lR <| HO_221001.out))) (Kd.R_lt (by exact lR <| HO_229000.out))) (Kd.R_lt (by exact lR <| HO_229001.out))) (Kd.R_lt (by exact lR <| HO_237000.out))) (Kd.R_lt (by exact lR <| HO_237001.out))) (Kd.R_lt (by exact lR <| HO_245000.out))) (Kd.R_lt (by exact lR <| HO_245001.out))) (below_size (by repeat (first | (with_reducible first | exact HB.out | apply below_alloc | apply pw_below_drewN | apply below_drew1 | refine below_set ?_ (by first | exact GE195.out | exact GE196.out | exact GE220.out | exact GE228.out | exact GE236.out | exact GE244.out | exact GE294.out)) | exact HB.out))))
                    have n9_ := Aside0.mk (Kd.R_lower (Kd.R_new' (Kd.R_new' (Kd.R_new' (Kd.R_new' (Kd.R_new' (Kd.R_new' (Kd.R_new' (Kd.R_new' ho1 (Kd.R_lt (by exact lR <| HO_221000.out))) (Kd.R_lt (by exact lR <| HO_221001.out))) (Kd.R_lt (by exact lR <| HO_229000.out))) (Kd.R_lt (by exact lR <| HO_229001.out))) (Kd.R_lt (by exact lR <| HO_237000.out))) (Kd.R_lt (by exact lR <| HO_237001.out))) (Kd.R_lt (by exact lR <| HO_245000.out))) (Kd.R_lt (by exact lR <| HO_245001.out))) (below_size (by repeat (first | (with_reducible first | exact HB.out | apply below_alloc | apply pw_below_drewN | apply below_drew1 | refine below_set ?_ (by first | exact GE195.out | exact GE196.out | exact GE220.out | exact GE228.out | exact GE236.out | exact GE244.out | exact GE294.out)) | exact HB.out))))
                    have n10_ := Aside0.mk (blk_below (g := gb195) (o := .cells #[.slice A0_0 l0_0.length c0_0, .slice A0_1 l0_1.length c0_1, .int .i64 a0_2] 24 (0, 0)) (by exact lK <| BK195.out) hb)
                    have n11_ := Aside0.mk (blk_below (g := gb196) (o := .cells #[.slice A1_0 l1_0.length c1_0, .slice A1_1 l1_1.length c1_1, .int .i64 a1_2] 24 (0, 0)) (by exact lK <| BK196.out) hb)
                    have n12_ := Aside0.mk (blk_below (g := gb220) (o := .cells #[.slice Ao53 t213.length co53, .slice Ao55 t216.length co55, .int .i64 t219] 26 (0, 0)) (by exact lK <| BK220.out) hb)
                    have n13_ := Aside0.mk (blk_below (g := gb228) (o := .cells #[.slice Ao62 t263.length co62, .slice Ao67 t264.length co67, .int .i64 t227] 26 (0, 0)) (by exact lK <| BK228.out) hb)
                    have n14_ := Aside0.mk (blk_below (g := gb236) (o := .cells #[.slice Ao72 t266.length co72, .slice Ao78 t267.length co78, .int .i64 t235] 26 (0, 0)) (by exact lK <| BK236.out) hb)
                    have n15_ := Aside0.mk (blk_below (g := gb244) (o := .cells #[.slice Ao82 t237.length co82, .slice Ao89 t240.length co89, .int .i64 t243] 26 (0, 0)) (by exact lK <| BK244.out) hb)
                    have n16_ := Aside0.mk (blk_below (g := gb294) (o := .cells #[.slice none 0 0, .slice none 0 0, .int .i64 0] 26 (0, 0)) (by exact lK <| BK294.out) hb)
                    have n17_ := Aside0.mk (below_step (by repeat (first | (with_reducible first | exact HB.out | apply below_alloc | apply pw_below_drewN | apply below_drew1 | refine below_set ?_ (by first | exact GE195.out | exact GE196.out | exact GE220.out | exact GE228.out | exact GE236.out | exact GE244.out | exact GE294.out)) | exact HB.out)) hb)
                    clear HO_221000
                    clear HO_221001
                    clear HO_229000
                    clear HO_229001
                    clear HO_237000
                    clear HO_237001
                    clear HO_245000
                    clear HO_245001
                    clear BK195
                    clear BK196
                    clear BK220
                    clear BK228
                    clear BK236
                    clear BK244
                    clear BK294
                    clear HB
                    have HO_221000 := n0_
                    have HO_221001 := n1_
                    have HO_229000 := n2_
                    have HO_229001 := n3_
                    have HO_237000 := n4_
                    have HO_237001 := n5_
                    have HO_245000 := n6_
                    have HO_245001 := n7_
                    have HO275 := n8_
                    have HO278 := n9_
                    have BK195 := n10_
                    have BK196 := n11_
                    have BK220 := n12_
                    have BK228 := n13_
                    have BK236 := n14_
                    have BK244 := n15_
                    have BK294 := n16_
                    have HB := n17_
                    clear n0_ n1_ n2_ n3_ n4_ n5_ n6_ n7_ n8_ n9_ n10_ n11_ n12_ n13_ n14_ n15_ n16_ n17_
                    (try clear hb)
                    (try clear hb2)
                    (try clear hk)
                    (try clear hi)
                    (try clear ho0)
                    (try clear ho1)
                    refine hK.out _ _ ⟨(blk_cell BK195.out 0).trans rfl, (blk_cell BK195.out 1).trans rfl, (blk_cell BK195.out 2).trans rfl, (blk_cell BK196.out 0).trans rfl, (blk_cell BK196.out 1).trans rfl, (blk_cell BK196.out 2).trans rfl⟩ (fun hHeld => ?_)
                    clear hK K
                    refine norm_ (a' := ?_) ?_ ?_
                    rotate_left
                    · show Act.put _ (some 76) _ = _
                      simp only [Act.put, List.setIfInBounds_toArray, List.set_cons_zero, List.set_cons_succ, i64_w, i32_w]
                      rfl
                    refine one_ (i := 3) (N := some 78) #[true, true, true, true, false, true, false] rfl rfl (by kernel_rfl) (by decide) (fun K hK => ?_)
                    refine goes_ Try.func10 (by kernel_rfl) rfl #[.agg #[.slice A1_0 l1_0.length c1_0, .slice A1_1 l1_1.length c1_1, .int .i64 a1_2]] (by rfl) rfl rfl (by (try simp only [List.map_toArray, List.map_cons, List.map_nil]); first | done | rfl | (simp only [List.length_drop, List.length_take]; rfl)) ?_
                    with_reducible refine (laws_toFrmForm.calls kj34 _ _ l1_0 _ _ l1_1 a1_2 t280 t283 t286 _ ?side1 ?side2 ?side3 ?side4 A126.out).mono ?_
                    (case side1 => exact lC <| (Kd.C_below HR1_0.out HB.out))
                    (case side2 => exact HC1_0.out)
                    (case side3 => exact lC <| (Kd.C_below HR1_1.out HB.out))
                    (case side4 => exact HC1_1.out)
                    rintro e w145 ⟨v281, v284, rfl, ho0, ho1, hb⟩
                    refine ⟨_, rfl, ?_⟩
                    have n0_ := Aside0.mk (Kd.R_mono (Kd.R_told (Kd.R_told (Kd.R_old (by exact lR <| HO_221000.out) hb) (Kd.R_base ho0)) (Kd.R_base ho1)) (fun _ h_ => h_.1))
                    have n1_ := Aside0.mk (Kd.R_mono (Kd.R_told (Kd.R_told (Kd.R_old (by exact lR <| HO_221001.out) hb) (Kd.R_base ho0)) (Kd.R_base ho1)) (fun _ h_ => h_.1))
                    have n2_ := Aside0.mk (Kd.R_mono (Kd.R_told (Kd.R_told (Kd.R_old (by exact lR <| HO_229000.out) hb) (Kd.R_base ho0)) (Kd.R_base ho1)) (fun _ h_ => h_.1))
                    have n3_ := Aside0.mk (Kd.R_mono (Kd.R_told (Kd.R_told (Kd.R_old (by exact lR <| HO_229001.out) hb) (Kd.R_base ho0)) (Kd.R_base ho1)) (fun _ h_ => h_.1))
                    have n4_ := Aside0.mk (Kd.R_mono (Kd.R_told (Kd.R_told (Kd.R_old (by exact lR <| HO_237000.out) hb) (Kd.R_base ho0)) (Kd.R_base ho1)) (fun _ h_ => h_.1))
                    have n5_ := Aside0.mk (Kd.R_mono (Kd.R_told (Kd.R_told (Kd.R_old (by exact lR <| HO_237001.out) hb) (Kd.R_base ho0)) (Kd.R_base ho1)) (fun _ h_ => h_.1))
                    have n6_ := Aside0.mk (Kd.R_mono (Kd.R_told (Kd.R_told (Kd.R_old (by exact lR <| HO_245000.out) hb) (Kd.R_base ho0)) (Kd.R_base ho1)) (fun _ h_ => h_.1))
                    have n7_ := Aside0.mk (Kd.R_mono (Kd.R_told (Kd.R_told (Kd.R_old (by exact lR <| HO_245001.out) hb) (Kd.R_base ho0)) (Kd.R_base ho1)) (fun _ h_ => h_.1))
                    have n8_ := Aside0.mk (Kd.R_mono (Kd.R_told (Kd.R_told (Kd.R_old (by exact lR <| HO275.out) hb) (Kd.R_base ho0)) (Kd.R_base ho1)) (fun _ h_ => h_.1))
                    have n9_ := Aside0.mk (Kd.R_mono (Kd.R_told (Kd.R_told (Kd.R_old (by exact lR <| HO278.out) hb) (Kd.R_base ho0)) (Kd.R_base ho1)) (fun _ h_ => h_.1))
                    have n10_ := Aside0.mk (Kd.R_lower (Kd.R_new' (Kd.R_new' (Kd.R_new' (Kd.R_new' (Kd.R_new' (Kd.R_new' (Kd.R_new' (Kd.R_new' (Kd.R_new' (Kd.R_new' ho0 (Kd.R_lt (by exact lR <| HO_221000.out))) (Kd.R_lt (by exact lR <| HO_221001.out))) (Kd.R_lt (by exact lR <| HO_229000.out))) (Kd.R_lt (by exact lR <| HO_229001.out))) (Kd.R_lt (by exact lR <| HO_237000.out))) (Kd.R_lt (by exact lR <| HO_237001.out))) (Kd.R_lt (by exact lR <| HO_245000.out))) (Kd.R_lt (by exact lR <| HO_245001.out))) (Kd.R_lt (by exact lR <| HO275.out))) (Kd.R_lt (by exact lR <| HO278.out))) (below_size (by repeat (first | (with_reducible first | exact HB.out | apply below_alloc | apply pw_below_drewN | apply below_drew1 | refine below_set ?_ (by first | exact GE195.out | exact GE196.out | exact GE220.out | exact GE228.out | exact GE236.out | exact GE244.out | exact GE294.out)) | exact HB.out))))
                    have n11_ := Aside0.mk (Kd.R_lower (Kd.R_new' (Kd.R_new' (Kd.R_new' (Kd.R_new' (Kd.R_new' (Kd.R_new' (Kd.R_new' (Kd.R_new' (Kd.R_new' (Kd.R_new' ho1 (Kd.R_lt (by exact lR <| HO_221000.out))) (Kd.R_lt (by exact lR <| HO_221001.out))) (Kd.R_lt (by exact lR <| HO_229000.out))) (Kd.R_lt (by exact lR <| HO_229001.out))) (Kd.R_lt (by exact lR <| HO_237000.out))) (Kd.R_lt (by exact lR <| HO_237001.out))) (Kd.R_lt (by exact lR <| HO_245000.out))) (Kd.R_lt (by exact lR <| HO_245001.out))) (Kd.R_lt (by exact lR <| HO275.out))) (Kd.R_lt (by exact lR <| HO278.out))) (below_size (by repeat (first | (with_reducible first | exact HB.out | apply below_alloc | apply pw_below_drewN | apply below_drew1 | refine below_set ?_ (by first | exact GE195.out | exact GE196.out | exact GE220.out | exact GE228.out | exact GE236.out | exact GE244.out | exact GE294.out)) | exact HB.out))))
                    have n12_ := Aside0.mk (blk_below (g := gb195) (o := .cells #[.slice A0_0 l0_0.length c0_0, .slice A0_1 l0_1.length c0_1, .int .i64 a0_2] 24 (0, 0)) (by exact lK <| BK195.out) hb)
                    have n13_ := Aside0.mk (blk_below (g := gb196) (o := .cells #[.slice A1_0 l1_0.length c1_0, .slice A1_1 l1_1.length c1_1, .int .i64 a1_2] 24 (0, 0)) (by exact lK <| BK196.out) hb)
                    have n14_ := Aside0.mk (blk_below (g := gb220) (o := .cells #[.slice Ao53 t213.length co53, .slice Ao55 t216.length co55, .int .i64 t219] 26 (0, 0)) (by exact lK <| BK220.out) hb)
                    have n15_ := Aside0.mk (blk_below (g := gb228) (o := .cells #[.slice Ao62 t263.length co62, .slice Ao67 t264.length co67, .int .i64 t227] 26 (0, 0)) (by exact lK <| BK228.out) hb)
                    have n16_ := Aside0.mk (blk_below (g := gb236) (o := .cells #[.slice Ao72 t266.length co72, .slice Ao78 t267.length co78, .int .i64 t235] 26 (0, 0)) (by exact lK <| BK236.out) hb)
                    have n17_ := Aside0.mk (blk_below (g := gb244) (o := .cells #[.slice Ao82 t237.length co82, .slice Ao89 t240.length co89, .int .i64 t243] 26 (0, 0)) (by exact lK <| BK244.out) hb)
                    have n18_ := Aside0.mk (blk_below (g := gb294) (o := .cells #[.slice none 0 0, .slice none 0 0, .int .i64 0] 26 (0, 0)) (by exact lK <| BK294.out) hb)
                    have n19_ := Aside0.mk (below_step (by repeat (first | (with_reducible first | exact HB.out | apply below_alloc | apply pw_below_drewN | apply below_drew1 | refine below_set ?_ (by first | exact GE195.out | exact GE196.out | exact GE220.out | exact GE228.out | exact GE236.out | exact GE244.out | exact GE294.out)) | exact HB.out)) hb)
                    clear HO_221000
                    clear HO_221001
                    clear HO_229000
                    clear HO_229001
                    clear HO_237000
                    clear HO_237001
                    clear HO_245000
                    clear HO_245001
                    clear HO275
                    clear HO278
                    clear BK195
                    clear BK196
                    clear BK220
                    clear BK228
                    clear BK236
                    clear BK244
                    clear BK294
                    clear HB
                    have HO_221000 := n0_
                    have HO_221001 := n1_
                    have HO_229000 := n2_
                    have HO_229001 := n3_
                    have HO_237000 := n4_
                    have HO_237001 := n5_
                    have HO_245000 := n6_
                    have HO_245001 := n7_
                    have HO275 := n8_
                    have HO278 := n9_
                    have HO282 := n10_
                    have HO285 := n11_
                    have BK195 := n12_
                    have BK196 := n13_
                    have BK220 := n14_
                    have BK228 := n15_
                    have BK236 := n16_
                    have BK244 := n17_
                    have BK294 := n18_
                    have HB := n19_
                    clear n0_ n1_ n2_ n3_ n4_ n5_ n6_ n7_ n8_ n9_ n10_ n11_ n12_ n13_ n14_ n15_ n16_ n17_ n18_ n19_
                    (try clear hb)
                    (try clear hb2)
                    (try clear hk)
                    (try clear hi)
                    (try clear ho0)
                    (try clear ho1)
                    obtain ⟨Ao146, co146, eo146⟩ := Kd.R_slice HO275.out
                    (first | subst eo146 | (injection eo146 with f1_ f2_ f3_; have f4_ := f1_.symm; have f5_ := f3_.symm; clear f1_ f2_ f3_; subst f4_; subst f5_))
                    obtain ⟨Ao147, co147, eo147⟩ := Kd.R_slice HO278.out
                    (first | subst eo147 | (injection eo147 with f1_ f2_ f3_; have f4_ := f1_.symm; have f5_ := f3_.symm; clear f1_ f2_ f3_; subst f4_; subst f5_))
                    obtain ⟨Ao148, co148, eo148⟩ := Kd.R_slice HO282.out
                    (first | subst eo148 | (injection eo148 with f1_ f2_ f3_; have f4_ := f1_.symm; have f5_ := f3_.symm; clear f1_ f2_ f3_; subst f4_; subst f5_))
                    obtain ⟨Ao149, co149, eo149⟩ := Kd.R_slice HO285.out
                    (first | subst eo149 | (injection eo149 with f1_ f2_ f3_; have f4_ := f1_.symm; have f5_ := f3_.symm; clear f1_ f2_ f3_; subst f4_; subst f5_))
                    refine hK.out _ _ ⟨(blk_cell BK195.out 0).trans rfl, (blk_cell BK195.out 1).trans rfl, (blk_cell BK195.out 2).trans rfl, (blk_cell BK196.out 0).trans rfl, (blk_cell BK196.out 1).trans rfl, (blk_cell BK196.out 2).trans rfl⟩ (fun hHeld => ?_)
                    clear hK K
                    refine norm_ (a' := ?_) ?_ ?_
                    rotate_left
                    · show Act.put _ (some 78) _ = _
                      simp only [Act.put, List.setIfInBounds_toArray, List.set_cons_zero, List.set_cons_succ, i64_w, i32_w]
                      rfl
                    refine one_ (i := 4) (N := some 79) #[true, true, true, true, true, true, false] rfl rfl (by kernel_rfl) (by decide) (fun K hK => ?_)
                    refine goes_ Try.func11 (by kernel_rfl) rfl #[.agg #[.slice Ao146 t273.length co146, .slice Ao147 t276.length co147, .int .i64 t279], .agg #[.slice Ao148 t280.length co148, .slice Ao149 t283.length co149, .int .i64 t286]] (by rfl) rfl rfl (by (try simp only [List.map_toArray, List.map_cons, List.map_nil]); first | done | rfl | (simp only [List.length_drop, List.length_take]; rfl)) ?_
                    with_reducible refine (impl_FrmAdd.calls _ _ t273 _ _ t276 t279 _ _ t280 _ _ t283 t286 t287 t290 t293 _ ?side1 ?side2 ?side3 ?side4 ?side5 ?side6 ?side7 ?side8 A127.out).mono ?_
                    (case side1 => exact lC <| (Kd.R_reads' HO275.out).2.2)
                    (case side2 => exact (Kd.R_reads' HO275.out).2.1)
                    (case side3 => exact lC <| (Kd.R_reads' HO278.out).2.2)
                    (case side4 => exact (Kd.R_reads' HO278.out).2.1)
                    (case side5 => exact lC <| (Kd.R_reads' HO282.out).2.2)
                    (case side6 => exact (Kd.R_reads' HO282.out).2.1)
                    (case side7 => exact lC <| (Kd.R_reads' HO285.out).2.2)
                    (case side8 => exact (Kd.R_reads' HO285.out).2.1)
                    rintro e w150 ⟨v288, v291, rfl, ho0, ho1, hb⟩
                    refine ⟨_, rfl, ?_⟩
                    have n0_ := Aside0.mk (Kd.R_mono (Kd.R_told (Kd.R_told (Kd.R_old (by exact lR <| HO_221000.out) hb) (Kd.R_base ho0)) (Kd.R_base ho1)) (fun _ h_ => h_.1))
                    have n1_ := Aside0.mk (Kd.R_mono (Kd.R_told (Kd.R_told (Kd.R_old (by exact lR <| HO_221001.out) hb) (Kd.R_base ho0)) (Kd.R_base ho1)) (fun _ h_ => h_.1))
                    have n2_ := Aside0.mk (Kd.R_mono (Kd.R_told (Kd.R_told (Kd.R_old (by exact lR <| HO_229000.out) hb) (Kd.R_base ho0)) (Kd.R_base ho1)) (fun _ h_ => h_.1))
                    have n3_ := Aside0.mk (Kd.R_mono (Kd.R_told (Kd.R_told (Kd.R_old (by exact lR <| HO_229001.out) hb) (Kd.R_base ho0)) (Kd.R_base ho1)) (fun _ h_ => h_.1))
                    have n4_ := Aside0.mk (Kd.R_mono (Kd.R_told (Kd.R_told (Kd.R_old (by exact lR <| HO_237000.out) hb) (Kd.R_base ho0)) (Kd.R_base ho1)) (fun _ h_ => h_.1))
                    have n5_ := Aside0.mk (Kd.R_mono (Kd.R_told (Kd.R_told (Kd.R_old (by exact lR <| HO_237001.out) hb) (Kd.R_base ho0)) (Kd.R_base ho1)) (fun _ h_ => h_.1))
                    have n6_ := Aside0.mk (Kd.R_mono (Kd.R_told (Kd.R_told (Kd.R_old (by exact lR <| HO_245000.out) hb) (Kd.R_base ho0)) (Kd.R_base ho1)) (fun _ h_ => h_.1))
                    have n7_ := Aside0.mk (Kd.R_mono (Kd.R_told (Kd.R_told (Kd.R_old (by exact lR <| HO_245001.out) hb) (Kd.R_base ho0)) (Kd.R_base ho1)) (fun _ h_ => h_.1))
                    have n8_ := Aside0.mk (Kd.R_mono (Kd.R_told (Kd.R_told (Kd.R_old (by exact lR <| HO275.out) hb) (Kd.R_base ho0)) (Kd.R_base ho1)) (fun _ h_ => h_.1))
                    have n9_ := Aside0.mk (Kd.R_mono (Kd.R_told (Kd.R_told (Kd.R_old (by exact lR <| HO278.out) hb) (Kd.R_base ho0)) (Kd.R_base ho1)) (fun _ h_ => h_.1))
                    have n10_ := Aside0.mk (Kd.R_mono (Kd.R_told (Kd.R_told (Kd.R_old (by exact lR <| HO282.out) hb) (Kd.R_base ho0)) (Kd.R_base ho1)) (fun _ h_ => h_.1))
                    have n11_ := Aside0.mk (Kd.R_mono (Kd.R_told (Kd.R_told (Kd.R_old (by exact lR <| HO285.out) hb) (Kd.R_base ho0)) (Kd.R_base ho1)) (fun _ h_ => h_.1))
                    have n12_ := Aside0.mk (Kd.R_lower (Kd.R_new' (Kd.R_new' (Kd.R_new' (Kd.R_new' (Kd.R_new' (Kd.R_new' (Kd.R_new' (Kd.R_new' (Kd.R_new' (Kd.R_new' (Kd.R_new' (Kd.R_new' ho0 (Kd.R_lt (by exact lR <| HO_221000.out))) (Kd.R_lt (by exact lR <| HO_221001.out))) (Kd.R_lt (by exact lR <| HO_229000.out))) (Kd.R_lt (by exact lR <| HO_229001.out))) (Kd.R_lt (by exact lR <| HO_237000.out))) (Kd.R_lt (by exact lR <| HO_237001.out))) (Kd.R_lt (by exact lR <| HO_245000.out))) (Kd.R_lt (by exact lR <| HO_245001.out))) (Kd.R_lt (by exact lR <| HO275.out))) (Kd.R_lt (by exact lR <| HO278.out))) (Kd.R_lt (by exact lR <| HO282.out))) (Kd.R_lt (by exact lR <| HO285.out))) (below_size (by repeat (first | (with_reducible first | exact HB.out | apply below_alloc | apply pw_below_drewN | apply below_drew1 | refine below_set ?_ (by first | exact GE195.out | exact GE196.out | exact GE220.out | exact GE228.out | exact GE236.out | exact GE244.out | exact GE294.out)) | exact HB.out))))
                    have n13_ := Aside0.mk (Kd.R_lower (Kd.R_new' (Kd.R_new' (Kd.R_new' (Kd.R_new' (Kd.R_new' (Kd.R_new' (Kd.R_new' (Kd.R_new' (Kd.R_new' (Kd.R_new' (Kd.R_new' (Kd.R_new' ho1 (Kd.R_lt (by exact lR <| HO_221000.out))) (Kd.R_lt (by exact lR <| HO_221001.out))) (Kd.R_lt (by exact lR <| HO_229000.out))) (Kd.R_lt (by exact lR <| HO_229001.out))) (Kd.R_lt (by exact lR <| HO_237000.out))) (Kd.R_lt (by exact lR <| HO_237001.out))) (Kd.R_lt (by exact lR <| HO_245000.out))) (Kd.R_lt (by exact lR <| HO_245001.out))) (Kd.R_lt (by exact lR <| HO275.out))) (Kd.R_lt (by exact lR <| HO278.out))) (Kd.R_lt (by exact lR <| HO282.out))) (Kd.R_lt (by exact lR <| HO285.out))) (below_size (by repeat (first | (with_reducible first | exact HB.out | apply below_alloc | apply pw_below_drewN | apply below_drew1 | refine below_set ?_ (by first | exact GE195.out | exact GE196.out | exact GE220.out | exact GE228.out | exact GE236.out | exact GE244.out | exact GE294.out)) | exact HB.out))))
                    have n14_ := Aside0.mk (blk_below (g := gb195) (o := .cells #[.slice A0_0 l0_0.length c0_0, .slice A0_1 l0_1.length c0_1, .int .i64 a0_2] 24 (0, 0)) (by exact lK <| BK195.out) hb)
                    have n15_ := Aside0.mk (blk_below (g := gb196) (o := .cells #[.slice A1_0 l1_0.length c1_0, .slice A1_1 l1_1.length c1_1, .int .i64 a1_2] 24 (0, 0)) (by exact lK <| BK196.out) hb)
                    have n16_ := Aside0.mk (blk_below (g := gb220) (o := .cells #[.slice Ao53 t213.length co53, .slice Ao55 t216.length co55, .int .i64 t219] 26 (0, 0)) (by exact lK <| BK220.out) hb)
                    have n17_ := Aside0.mk (blk_below (g := gb228) (o := .cells #[.slice Ao62 t263.length co62, .slice Ao67 t264.length co67, .int .i64 t227] 26 (0, 0)) (by exact lK <| BK228.out) hb)
                    have n18_ := Aside0.mk (blk_below (g := gb236) (o := .cells #[.slice Ao72 t266.length co72, .slice Ao78 t267.length co78, .int .i64 t235] 26 (0, 0)) (by exact lK <| BK236.out) hb)
                    have n19_ := Aside0.mk (blk_below (g := gb244) (o := .cells #[.slice Ao82 t237.length co82, .slice Ao89 t240.length co89, .int .i64 t243] 26 (0, 0)) (by exact lK <| BK244.out) hb)
                    have n20_ := Aside0.mk (blk_below (g := gb294) (o := .cells #[.slice none 0 0, .slice none 0 0, .int .i64 0] 26 (0, 0)) (by exact lK <| BK294.out) hb)
                    have n21_ := Aside0.mk (below_step (by repeat (first | (with_reducible first | exact HB.out | apply below_alloc | apply pw_below_drewN | apply below_drew1 | refine below_set ?_ (by first | exact GE195.out | exact GE196.out | exact GE220.out | exact GE228.out | exact GE236.out | exact GE244.out | exact GE294.out)) | exact HB.out)) hb)
                    clear HO_221000
                    clear HO_221001
                    clear HO_229000
                    clear HO_229001
                    clear HO_237000
                    clear HO_237001
                    clear HO_245000
                    clear HO_245001
                    clear HO275
                    clear HO278
                    clear HO282
                    clear HO285
                    clear BK195
                    clear BK196
                    clear BK220
                    clear BK228
                    clear BK236
                    clear BK244
                    clear BK294
                    clear HB
                    have HO_221000 := n0_
                    have HO_221001 := n1_
                    have HO_229000 := n2_
                    have HO_229001 := n3_
                    have HO_237000 := n4_
                    have HO_237001 := n5_
                    have HO_245000 := n6_
                    have HO_245001 := n7_
                    have HO275 := n8_
                    have HO278 := n9_
                    have HO282 := n10_
                    have HO285 := n11_
                    have HO289 := n12_
                    have HO292 := n13_
                    have BK195 := n14_
                    have BK196 := n15_
                    have BK220 := n16_
                    have BK228 := n17_
                    have BK236 := n18_
                    have BK244 := n19_
                    have BK294 := n20_
                    have HB := n21_
                    clear n0_ n1_ n2_ n3_ n4_ n5_ n6_ n7_ n8_ n9_ n10_ n11_ n12_ n13_ n14_ n15_ n16_ n17_ n18_ n19_ n20_ n21_
                    (try clear hb)
                    (try clear hb2)
                    (try clear hk)
                    (try clear hi)
                    (try clear ho0)
                    (try clear ho1)
                    refine hK.out _ _ ⟨(blk_cell BK195.out 0).trans rfl, (blk_cell BK195.out 1).trans rfl, (blk_cell BK195.out 2).trans rfl, (blk_cell BK196.out 0).trans rfl, (blk_cell BK196.out 1).trans rfl, (blk_cell BK196.out 2).trans rfl⟩ (fun hHeld => ?_)
                    clear hK K
                    refine norm_ (a' := ?_) ?_ ?_
                    rotate_left
                    · show Act.put _ (some 79) _ = _
                      simp only [Act.put, List.setIfInBounds_toArray, List.set_cons_zero, List.set_cons_succ, i64_w, i32_w]
                      rfl
                    exact norm_ (by simp only [putAll, Act.put, List.setIfInBounds_toArray, List.set_cons_zero, List.set_cons_succ]) (hCont (.slice Ao146 t273.length co146, .slice Ao147 t276.length co147, .slice Ao148 t280.length co148, .slice Ao149 t283.length co149, v288, v291, gb294) _ ⟨hHeld, (by exact lR <| Kd.R_mono HO275.out (fun _ hk => ⟨hk.1.1.1.1.1.1.1.1.1.1.1.1, ⟨hk.1.1.1.2, ⟨hk.1.1.2, ⟨hk.1.2, ⟨hk.2, ⟨hk.1.1.1.1.1.1.1.1.1.1.1.2, ⟨hk.1.1.1.1.1.1.1.1.1.1.2, ⟨hk.1.1.1.1.1.1.1.1.1.2, ⟨hk.1.1.1.1.1.1.1.1.2, ⟨hk.1.1.1.1.1.1.1.2, ⟨hk.1.1.1.1.1.1.2, ⟨hk.1.1.1.1.1.2, hk.1.1.1.1.2⟩⟩⟩⟩⟩⟩⟩⟩⟩⟩⟩⟩)), (by exact lR <| Kd.R_mono HO278.out (fun _ hk => ⟨hk.1.1.1.1.1.1.1.1.1.1.1.1, ⟨hk.1.1.1.2, ⟨hk.1.1.2, ⟨hk.1.2, ⟨hk.2, ⟨hk.1.1.1.1.1.1.1.1.1.1.1.2, ⟨hk.1.1.1.1.1.1.1.1.1.1.2, ⟨hk.1.1.1.1.1.1.1.1.1.2, ⟨hk.1.1.1.1.1.1.1.1.2, ⟨hk.1.1.1.1.1.1.1.2, ⟨hk.1.1.1.1.1.1.2, ⟨hk.1.1.1.1.1.2, hk.1.1.1.1.2⟩⟩⟩⟩⟩⟩⟩⟩⟩⟩⟩⟩)), (by exact lR <| Kd.R_mono HO282.out (fun _ hk => ⟨hk.1.1.1.2, ⟨hk.1.1.2, ⟨hk.1.1.1.1.1.1.1.1.1.1.1.1, ⟨hk.1.2, ⟨hk.2, ⟨hk.1.1.1.1.1.1.1.1.1.1.1.2, ⟨hk.1.1.1.1.1.1.1.1.1.1.2, ⟨hk.1.1.1.1.1.1.1.1.1.2, ⟨hk.1.1.1.1.1.1.1.1.2, ⟨hk.1.1.1.1.1.1.1.2, ⟨hk.1.1.1.1.1.1.2, ⟨hk.1.1.1.1.1.2, hk.1.1.1.1.2⟩⟩⟩⟩⟩⟩⟩⟩⟩⟩⟩⟩)), (by exact lR <| Kd.R_mono HO285.out (fun _ hk => ⟨hk.1.1.1.2, ⟨hk.1.1.2, ⟨hk.1.1.1.1.1.1.1.1.1.1.1.1, ⟨hk.1.2, ⟨hk.2, ⟨hk.1.1.1.1.1.1.1.1.1.1.1.2, ⟨hk.1.1.1.1.1.1.1.1.1.1.2, ⟨hk.1.1.1.1.1.1.1.1.1.2, ⟨hk.1.1.1.1.1.1.1.1.2, ⟨hk.1.1.1.1.1.1.1.2, ⟨hk.1.1.1.1.1.1.2, ⟨hk.1.1.1.1.1.2, hk.1.1.1.1.2⟩⟩⟩⟩⟩⟩⟩⟩⟩⟩⟩⟩)), (by exact lR <| Kd.R_mono HO289.out (fun _ hk => ⟨hk.1.1.1.2, ⟨hk.1.1.2, ⟨hk.1.2, ⟨hk.2, ⟨hk.1.1.1.1.1.1.1.1.1.1.1.1, ⟨hk.1.1.1.1.1.1.1.1.1.1.1.2, ⟨hk.1.1.1.1.1.1.1.1.1.1.2, ⟨hk.1.1.1.1.1.1.1.1.1.2, ⟨hk.1.1.1.1.1.1.1.1.2, ⟨hk.1.1.1.1.1.1.1.2, ⟨hk.1.1.1.1.1.1.2, ⟨hk.1.1.1.1.1.2, hk.1.1.1.1.2⟩⟩⟩⟩⟩⟩⟩⟩⟩⟩⟩⟩)), (by exact lR <| Kd.R_mono HO292.out (fun _ hk => ⟨hk.1.1.1.2, ⟨hk.1.1.2, ⟨hk.1.2, ⟨hk.2, ⟨hk.1.1.1.1.1.1.1.1.1.1.1.1, ⟨hk.1.1.1.1.1.1.1.1.1.1.1.2, ⟨hk.1.1.1.1.1.1.1.1.1.1.2, ⟨hk.1.1.1.1.1.1.1.1.1.2, ⟨hk.1.1.1.1.1.1.1.1.2, ⟨hk.1.1.1.1.1.1.1.2, ⟨hk.1.1.1.1.1.1.2, ⟨hk.1.1.1.1.1.2, hk.1.1.1.1.2⟩⟩⟩⟩⟩⟩⟩⟩⟩⟩⟩⟩)), (by exact lR <| Kd.R_mono HO_221000.out (fun _ hk => ⟨hk.1.1.1.1.1.2, ⟨hk.1.1.1.1.2, ⟨hk.1.1.1.2, ⟨hk.1.1.2, ⟨hk.1.2, ⟨hk.2, ⟨hk.1.1.1.1.1.1.1, ⟨hk.1.1.1.1.1.1.2.1, ⟨hk.1.1.1.1.1.1.2.2.1, ⟨hk.1.1.1.1.1.1.2.2.2.1, ⟨hk.1.1.1.1.1.1.2.2.2.2.1, ⟨hk.1.1.1.1.1.1.2.2.2.2.2.1, hk.1.1.1.1.1.1.2.2.2.2.2.2⟩⟩⟩⟩⟩⟩⟩⟩⟩⟩⟩⟩)), (by exact lR <| Kd.R_mono HO_221001.out (fun _ hk => ⟨hk.1.1.1.1.1.2, ⟨hk.1.1.1.1.2, ⟨hk.1.1.1.2, ⟨hk.1.1.2, ⟨hk.1.2, ⟨hk.2, ⟨hk.1.1.1.1.1.1.1, ⟨hk.1.1.1.1.1.1.2.1, ⟨hk.1.1.1.1.1.1.2.2.1, ⟨hk.1.1.1.1.1.1.2.2.2.1, ⟨hk.1.1.1.1.1.1.2.2.2.2.1, ⟨hk.1.1.1.1.1.1.2.2.2.2.2.1, hk.1.1.1.1.1.1.2.2.2.2.2.2⟩⟩⟩⟩⟩⟩⟩⟩⟩⟩⟩⟩)), (by exact lR <| Kd.R_mono HO_229000.out (fun _ hk => ⟨hk.1.1.1.1.1.2, ⟨hk.1.1.1.1.2, ⟨hk.1.1.1.2, ⟨hk.1.1.2, ⟨hk.1.2, ⟨hk.2, ⟨hk.1.1.1.1.1.1.1, ⟨hk.1.1.1.1.1.1.2.1, ⟨hk.1.1.1.1.1.1.2.2.1, ⟨hk.1.1.1.1.1.1.2.2.2.1, ⟨hk.1.1.1.1.1.1.2.2.2.2.1, ⟨hk.1.1.1.1.1.1.2.2.2.2.2.1, hk.1.1.1.1.1.1.2.2.2.2.2.2⟩⟩⟩⟩⟩⟩⟩⟩⟩⟩⟩⟩)), (by exact lR <| Kd.R_mono HO_229001.out (fun _ hk => ⟨hk.1.1.1.1.1.2, ⟨hk.1.1.1.1.2, ⟨hk.1.1.1.2, ⟨hk.1.1.2, ⟨hk.1.2, ⟨hk.2, ⟨hk.1.1.1.1.1.1.1, ⟨hk.1.1.1.1.1.1.2.1, ⟨hk.1.1.1.1.1.1.2.2.1, ⟨hk.1.1.1.1.1.1.2.2.2.1, ⟨hk.1.1.1.1.1.1.2.2.2.2.1, ⟨hk.1.1.1.1.1.1.2.2.2.2.2.1, hk.1.1.1.1.1.1.2.2.2.2.2.2⟩⟩⟩⟩⟩⟩⟩⟩⟩⟩⟩⟩)), (by exact lR <| Kd.R_mono HO_237000.out (fun _ hk => ⟨hk.1.1.1.1.1.2, ⟨hk.1.1.1.1.2, ⟨hk.1.1.1.2, ⟨hk.1.1.2, ⟨hk.1.2, ⟨hk.2, ⟨hk.1.1.1.1.1.1.1, ⟨hk.1.1.1.1.1.1.2.1, ⟨hk.1.1.1.1.1.1.2.2.1, ⟨hk.1.1.1.1.1.1.2.2.2.1, ⟨hk.1.1.1.1.1.1.2.2.2.2.1, ⟨hk.1.1.1.1.1.1.2.2.2.2.2.1, hk.1.1.1.1.1.1.2.2.2.2.2.2⟩⟩⟩⟩⟩⟩⟩⟩⟩⟩⟩⟩)), (by exact lR <| Kd.R_mono HO_237001.out (fun _ hk => ⟨hk.1.1.1.1.1.2, ⟨hk.1.1.1.1.2, ⟨hk.1.1.1.2, ⟨hk.1.1.2, ⟨hk.1.2, ⟨hk.2, ⟨hk.1.1.1.1.1.1.1, ⟨hk.1.1.1.1.1.1.2.1, ⟨hk.1.1.1.1.1.1.2.2.1, ⟨hk.1.1.1.1.1.1.2.2.2.1, ⟨hk.1.1.1.1.1.1.2.2.2.2.1, ⟨hk.1.1.1.1.1.1.2.2.2.2.2.1, hk.1.1.1.1.1.1.2.2.2.2.2.2⟩⟩⟩⟩⟩⟩⟩⟩⟩⟩⟩⟩)), (by exact lR <| Kd.R_mono HO_245000.out (fun _ hk => ⟨hk.1.1.1.1.1.2, ⟨hk.1.1.1.1.2, ⟨hk.1.1.1.2, ⟨hk.1.1.2, ⟨hk.1.2, ⟨hk.2, ⟨hk.1.1.1.1.1.1.1, ⟨hk.1.1.1.1.1.1.2.1, ⟨hk.1.1.1.1.1.1.2.2.1, ⟨hk.1.1.1.1.1.1.2.2.2.1, ⟨hk.1.1.1.1.1.1.2.2.2.2.1, ⟨hk.1.1.1.1.1.1.2.2.2.2.2.1, hk.1.1.1.1.1.1.2.2.2.2.2.2⟩⟩⟩⟩⟩⟩⟩⟩⟩⟩⟩⟩)), (by exact lR <| Kd.R_mono HO_245001.out (fun _ hk => ⟨hk.1.1.1.1.1.2, ⟨hk.1.1.1.1.2, ⟨hk.1.1.1.2, ⟨hk.1.1.2, ⟨hk.1.2, ⟨hk.2, ⟨hk.1.1.1.1.1.1.1, ⟨hk.1.1.1.1.1.1.2.1, ⟨hk.1.1.1.1.1.1.2.2.1, ⟨hk.1.1.1.1.1.1.2.2.2.1, ⟨hk.1.1.1.1.1.1.2.2.2.2.1, ⟨hk.1.1.1.1.1.1.2.2.2.2.2.1, hk.1.1.1.1.1.1.2.2.2.2.2.2⟩⟩⟩⟩⟩⟩⟩⟩⟩⟩⟩⟩)), (by exact lK <| BK195.out), (by exact lK <| BK196.out), (by exact lK <| BK220.out), (by exact lK <| BK228.out), (by exact lK <| BK236.out), (by exact lK <| BK244.out), (by exact lK <| BK294.out), GW294.out, GE294.out, NB195_294.out, NB294_195.out, NB196_294.out, NB294_196.out, NB220_294.out, NB294_220.out, NB228_294.out, NB294_228.out, NB236_294.out, NB294_236.out, NB244_294.out, NB294_244.out, (by repeat (first | (with_reducible first | exact HB.out | apply below_alloc | apply pw_below_drewN | apply below_drew1 | refine below_set ?_ (by first | exact GE195.out | exact GE196.out | exact GE220.out | exact GE228.out | exact GE236.out | exact GE244.out | exact GE294.out)) | exact HB.out))⟩)
                rintro ⟨v274, v277, v281, v284, v288, v291, gb294⟩ w151 ⟨hS_, h0_, h1_, h2_, h3_, h4_, h5_, h6_, h7_, h8_, h9_, h10_, h11_, h12_, h13_, h14_, h15_, h16_, h17_, h18_, h19_, h20_, h21_, h22_, h23_, h24_, h25_, h26_, h27_, h28_, h29_, h30_, h31_, h32_, h33_, h34_, h35_⟩
                have n0_ : Aside0 (Kd.R (Kd.int .i64) 3 w151 w.heap.size (fun k_ => some k_ ≠ (v277 : Value).ownBlock ∧ some k_ ≠ (v281 : Value).ownBlock ∧ some k_ ≠ (v284 : Value).ownBlock ∧ some k_ ≠ (v288 : Value).ownBlock ∧ some k_ ≠ (v291 : Value).ownBlock ∧ some k_ ≠ (.slice Ao53 t213.length co53 : Value).ownBlock ∧ some k_ ≠ (.slice Ao55 t216.length co55 : Value).ownBlock ∧ some k_ ≠ (.slice Ao62 t263.length co62 : Value).ownBlock ∧ some k_ ≠ (.slice Ao67 t264.length co67 : Value).ownBlock ∧ some k_ ≠ (.slice Ao72 t266.length co72 : Value).ownBlock ∧ some k_ ≠ (.slice Ao78 t267.length co78 : Value).ownBlock ∧ some k_ ≠ (.slice Ao82 t237.length co82 : Value).ownBlock ∧ some k_ ≠ (.slice Ao89 t240.length co89 : Value).ownBlock) v274 t273) := ⟨h0_⟩
                have n1_ : Aside0 (Kd.R (Kd.int .i64) 3 w151 w.heap.size (fun k_ => some k_ ≠ (v274 : Value).ownBlock ∧ some k_ ≠ (v281 : Value).ownBlock ∧ some k_ ≠ (v284 : Value).ownBlock ∧ some k_ ≠ (v288 : Value).ownBlock ∧ some k_ ≠ (v291 : Value).ownBlock ∧ some k_ ≠ (.slice Ao53 t213.length co53 : Value).ownBlock ∧ some k_ ≠ (.slice Ao55 t216.length co55 : Value).ownBlock ∧ some k_ ≠ (.slice Ao62 t263.length co62 : Value).ownBlock ∧ some k_ ≠ (.slice Ao67 t264.length co67 : Value).ownBlock ∧ some k_ ≠ (.slice Ao72 t266.length co72 : Value).ownBlock ∧ some k_ ≠ (.slice Ao78 t267.length co78 : Value).ownBlock ∧ some k_ ≠ (.slice Ao82 t237.length co82 : Value).ownBlock ∧ some k_ ≠ (.slice Ao89 t240.length co89 : Value).ownBlock) v277 t276) := ⟨h1_⟩
                have n2_ : Aside0 (Kd.R (Kd.int .i64) 3 w151 w.heap.size (fun k_ => some k_ ≠ (v274 : Value).ownBlock ∧ some k_ ≠ (v277 : Value).ownBlock ∧ some k_ ≠ (v284 : Value).ownBlock ∧ some k_ ≠ (v288 : Value).ownBlock ∧ some k_ ≠ (v291 : Value).ownBlock ∧ some k_ ≠ (.slice Ao53 t213.length co53 : Value).ownBlock ∧ some k_ ≠ (.slice Ao55 t216.length co55 : Value).ownBlock ∧ some k_ ≠ (.slice Ao62 t263.length co62 : Value).ownBlock ∧ some k_ ≠ (.slice Ao67 t264.length co67 : Value).ownBlock ∧ some k_ ≠ (.slice Ao72 t266.length co72 : Value).ownBlock ∧ some k_ ≠ (.slice Ao78 t267.length co78 : Value).ownBlock ∧ some k_ ≠ (.slice Ao82 t237.length co82 : Value).ownBlock ∧ some k_ ≠ (.slice Ao89 t240.length co89 : Value).ownBlock) v281 t280) := ⟨h2_⟩
                have n3_ : Aside0 (Kd.R (Kd.int .i64) 3 w151 w.heap.size (fun k_ => some k_ ≠ (v274 : Value).ownBlock ∧ some k_ ≠ (v277 : Value).ownBlock ∧ some k_ ≠ (v281 : Value).ownBlock ∧ some k_ ≠ (v288 : Value).ownBlock ∧ some k_ ≠ (v291 : Value).ownBlock ∧ some k_ ≠ (.slice Ao53 t213.length co53 : Value).ownBlock ∧ some k_ ≠ (.slice Ao55 t216.length co55 : Value).ownBlock ∧ some k_ ≠ (.slice Ao62 t263.length co62 : Value).ownBlock ∧ some k_ ≠ (.slice Ao67 t264.length co67 : Value).ownBlock ∧ some k_ ≠ (.slice Ao72 t266.length co72 : Value).ownBlock ∧ some k_ ≠ (.slice Ao78 t267.length co78 : Value).ownBlock ∧ some k_ ≠ (.slice Ao82 t237.length co82 : Value).ownBlock ∧ some k_ ≠ (.slice Ao89 t240.length co89 : Value).ownBlock) v284 t283) := ⟨h3_⟩
                have n4_ : Aside0 (Kd.R (Kd.int .i64) 3 w151 w.heap.size (fun k_ => some k_ ≠ (v274 : Value).ownBlock ∧ some k_ ≠ (v277 : Value).ownBlock ∧ some k_ ≠ (v281 : Value).ownBlock ∧ some k_ ≠ (v284 : Value).ownBlock ∧ some k_ ≠ (v291 : Value).ownBlock ∧ some k_ ≠ (.slice Ao53 t213.length co53 : Value).ownBlock ∧ some k_ ≠ (.slice Ao55 t216.length co55 : Value).ownBlock ∧ some k_ ≠ (.slice Ao62 t263.length co62 : Value).ownBlock ∧ some k_ ≠ (.slice Ao67 t264.length co67 : Value).ownBlock ∧ some k_ ≠ (.slice Ao72 t266.length co72 : Value).ownBlock ∧ some k_ ≠ (.slice Ao78 t267.length co78 : Value).ownBlock ∧ some k_ ≠ (.slice Ao82 t237.length co82 : Value).ownBlock ∧ some k_ ≠ (.slice Ao89 t240.length co89 : Value).ownBlock) v288 t287) := ⟨h4_⟩
                have n5_ : Aside0 (Kd.R (Kd.int .i64) 3 w151 w.heap.size (fun k_ => some k_ ≠ (v274 : Value).ownBlock ∧ some k_ ≠ (v277 : Value).ownBlock ∧ some k_ ≠ (v281 : Value).ownBlock ∧ some k_ ≠ (v284 : Value).ownBlock ∧ some k_ ≠ (v288 : Value).ownBlock ∧ some k_ ≠ (.slice Ao53 t213.length co53 : Value).ownBlock ∧ some k_ ≠ (.slice Ao55 t216.length co55 : Value).ownBlock ∧ some k_ ≠ (.slice Ao62 t263.length co62 : Value).ownBlock ∧ some k_ ≠ (.slice Ao67 t264.length co67 : Value).ownBlock ∧ some k_ ≠ (.slice Ao72 t266.length co72 : Value).ownBlock ∧ some k_ ≠ (.slice Ao78 t267.length co78 : Value).ownBlock ∧ some k_ ≠ (.slice Ao82 t237.length co82 : Value).ownBlock ∧ some k_ ≠ (.slice Ao89 t240.length co89 : Value).ownBlock) v291 t290) := ⟨h5_⟩
                have n6_ : Aside0 (Kd.R (Kd.int .i64) 3 w151 w.heap.size (fun k_ => some k_ ≠ (v274 : Value).ownBlock ∧ some k_ ≠ (v277 : Value).ownBlock ∧ some k_ ≠ (v281 : Value).ownBlock ∧ some k_ ≠ (v284 : Value).ownBlock ∧ some k_ ≠ (v288 : Value).ownBlock ∧ some k_ ≠ (v291 : Value).ownBlock ∧ some k_ ≠ (.slice Ao55 t216.length co55 : Value).ownBlock ∧ some k_ ≠ (.slice Ao62 t263.length co62 : Value).ownBlock ∧ some k_ ≠ (.slice Ao67 t264.length co67 : Value).ownBlock ∧ some k_ ≠ (.slice Ao72 t266.length co72 : Value).ownBlock ∧ some k_ ≠ (.slice Ao78 t267.length co78 : Value).ownBlock ∧ some k_ ≠ (.slice Ao82 t237.length co82 : Value).ownBlock ∧ some k_ ≠ (.slice Ao89 t240.length co89 : Value).ownBlock) (.slice Ao53 t213.length co53) t213) := ⟨h6_⟩
                have n7_ : Aside0 (Kd.R (Kd.int .i64) 3 w151 w.heap.size (fun k_ => some k_ ≠ (v274 : Value).ownBlock ∧ some k_ ≠ (v277 : Value).ownBlock ∧ some k_ ≠ (v281 : Value).ownBlock ∧ some k_ ≠ (v284 : Value).ownBlock ∧ some k_ ≠ (v288 : Value).ownBlock ∧ some k_ ≠ (v291 : Value).ownBlock ∧ some k_ ≠ (.slice Ao53 t213.length co53 : Value).ownBlock ∧ some k_ ≠ (.slice Ao62 t263.length co62 : Value).ownBlock ∧ some k_ ≠ (.slice Ao67 t264.length co67 : Value).ownBlock ∧ some k_ ≠ (.slice Ao72 t266.length co72 : Value).ownBlock ∧ some k_ ≠ (.slice Ao78 t267.length co78 : Value).ownBlock ∧ some k_ ≠ (.slice Ao82 t237.length co82 : Value).ownBlock ∧ some k_ ≠ (.slice Ao89 t240.length co89 : Value).ownBlock) (.slice Ao55 t216.length co55) t216) := ⟨h7_⟩
                have n8_ : Aside0 (Kd.R (Kd.int .i64) 3 w151 w.heap.size (fun k_ => some k_ ≠ (v274 : Value).ownBlock ∧ some k_ ≠ (v277 : Value).ownBlock ∧ some k_ ≠ (v281 : Value).ownBlock ∧ some k_ ≠ (v284 : Value).ownBlock ∧ some k_ ≠ (v288 : Value).ownBlock ∧ some k_ ≠ (v291 : Value).ownBlock ∧ some k_ ≠ (.slice Ao53 t213.length co53 : Value).ownBlock ∧ some k_ ≠ (.slice Ao55 t216.length co55 : Value).ownBlock ∧ some k_ ≠ (.slice Ao67 t264.length co67 : Value).ownBlock ∧ some k_ ≠ (.slice Ao72 t266.length co72 : Value).ownBlock ∧ some k_ ≠ (.slice Ao78 t267.length co78 : Value).ownBlock ∧ some k_ ≠ (.slice Ao82 t237.length co82 : Value).ownBlock ∧ some k_ ≠ (.slice Ao89 t240.length co89 : Value).ownBlock) (.slice Ao62 t263.length co62) t263) := ⟨h8_⟩
                have n9_ : Aside0 (Kd.R (Kd.int .i64) 3 w151 w.heap.size (fun k_ => some k_ ≠ (v274 : Value).ownBlock ∧ some k_ ≠ (v277 : Value).ownBlock ∧ some k_ ≠ (v281 : Value).ownBlock ∧ some k_ ≠ (v284 : Value).ownBlock ∧ some k_ ≠ (v288 : Value).ownBlock ∧ some k_ ≠ (v291 : Value).ownBlock ∧ some k_ ≠ (.slice Ao53 t213.length co53 : Value).ownBlock ∧ some k_ ≠ (.slice Ao55 t216.length co55 : Value).ownBlock ∧ some k_ ≠ (.slice Ao62 t263.length co62 : Value).ownBlock ∧ some k_ ≠ (.slice Ao72 t266.length co72 : Value).ownBlock ∧ some k_ ≠ (.slice Ao78 t267.length co78 : Value).ownBlock ∧ some k_ ≠ (.slice Ao82 t237.length co82 : Value).ownBlock ∧ some k_ ≠ (.slice Ao89 t240.length co89 : Value).ownBlock) (.slice Ao67 t264.length co67) t264) := ⟨h9_⟩
                have n10_ : Aside0 (Kd.R (Kd.int .i64) 3 w151 w.heap.size (fun k_ => some k_ ≠ (v274 : Value).ownBlock ∧ some k_ ≠ (v277 : Value).ownBlock ∧ some k_ ≠ (v281 : Value).ownBlock ∧ some k_ ≠ (v284 : Value).ownBlock ∧ some k_ ≠ (v288 : Value).ownBlock ∧ some k_ ≠ (v291 : Value).ownBlock ∧ some k_ ≠ (.slice Ao53 t213.length co53 : Value).ownBlock ∧ some k_ ≠ (.slice Ao55 t216.length co55 : Value).ownBlock ∧ some k_ ≠ (.slice Ao62 t263.length co62 : Value).ownBlock ∧ some k_ ≠ (.slice Ao67 t264.length co67 : Value).ownBlock ∧ some k_ ≠ (.slice Ao78 t267.length co78 : Value).ownBlock ∧ some k_ ≠ (.slice Ao82 t237.length co82 : Value).ownBlock ∧ some k_ ≠ (.slice Ao89 t240.length co89 : Value).ownBlock) (.slice Ao72 t266.length co72) t266) := ⟨h10_⟩
                have n11_ : Aside0 (Kd.R (Kd.int .i64) 3 w151 w.heap.size (fun k_ => some k_ ≠ (v274 : Value).ownBlock ∧ some k_ ≠ (v277 : Value).ownBlock ∧ some k_ ≠ (v281 : Value).ownBlock ∧ some k_ ≠ (v284 : Value).ownBlock ∧ some k_ ≠ (v288 : Value).ownBlock ∧ some k_ ≠ (v291 : Value).ownBlock ∧ some k_ ≠ (.slice Ao53 t213.length co53 : Value).ownBlock ∧ some k_ ≠ (.slice Ao55 t216.length co55 : Value).ownBlock ∧ some k_ ≠ (.slice Ao62 t263.length co62 : Value).ownBlock ∧ some k_ ≠ (.slice Ao67 t264.length co67 : Value).ownBlock ∧ some k_ ≠ (.slice Ao72 t266.length co72 : Value).ownBlock ∧ some k_ ≠ (.slice Ao82 t237.length co82 : Value).ownBlock ∧ some k_ ≠ (.slice Ao89 t240.length co89 : Value).ownBlock) (.slice Ao78 t267.length co78) t267) := ⟨h11_⟩
                have n12_ : Aside0 (Kd.R (Kd.int .i64) 3 w151 w.heap.size (fun k_ => some k_ ≠ (v274 : Value).ownBlock ∧ some k_ ≠ (v277 : Value).ownBlock ∧ some k_ ≠ (v281 : Value).ownBlock ∧ some k_ ≠ (v284 : Value).ownBlock ∧ some k_ ≠ (v288 : Value).ownBlock ∧ some k_ ≠ (v291 : Value).ownBlock ∧ some k_ ≠ (.slice Ao53 t213.length co53 : Value).ownBlock ∧ some k_ ≠ (.slice Ao55 t216.length co55 : Value).ownBlock ∧ some k_ ≠ (.slice Ao62 t263.length co62 : Value).ownBlock ∧ some k_ ≠ (.slice Ao67 t264.length co67 : Value).ownBlock ∧ some k_ ≠ (.slice Ao72 t266.length co72 : Value).ownBlock ∧ some k_ ≠ (.slice Ao78 t267.length co78 : Value).ownBlock ∧ some k_ ≠ (.slice Ao89 t240.length co89 : Value).ownBlock) (.slice Ao82 t237.length co82) t270) := ⟨h12_⟩
                have n13_ : Aside0 (Kd.R (Kd.int .i64) 3 w151 w.heap.size (fun k_ => some k_ ≠ (v274 : Value).ownBlock ∧ some k_ ≠ (v277 : Value).ownBlock ∧ some k_ ≠ (v281 : Value).ownBlock ∧ some k_ ≠ (v284 : Value).ownBlock ∧ some k_ ≠ (v288 : Value).ownBlock ∧ some k_ ≠ (v291 : Value).ownBlock ∧ some k_ ≠ (.slice Ao53 t213.length co53 : Value).ownBlock ∧ some k_ ≠ (.slice Ao55 t216.length co55 : Value).ownBlock ∧ some k_ ≠ (.slice Ao62 t263.length co62 : Value).ownBlock ∧ some k_ ≠ (.slice Ao67 t264.length co67 : Value).ownBlock ∧ some k_ ≠ (.slice Ao72 t266.length co72 : Value).ownBlock ∧ some k_ ≠ (.slice Ao78 t267.length co78 : Value).ownBlock ∧ some k_ ≠ (.slice Ao82 t237.length co82 : Value).ownBlock) (.slice Ao89 t240.length co89) t271) := ⟨h13_⟩
                have n14_ : Aside0 (w151.heap[gb195]? = some (.cells #[.slice A0_0 l0_0.length c0_0, .slice A0_1 l0_1.length c0_1, .int .i64 a0_2] 24 (0, 0))) := ⟨h14_⟩
                have n15_ : Aside0 (w151.heap[gb196]? = some (.cells #[.slice A1_0 l1_0.length c1_0, .slice A1_1 l1_1.length c1_1, .int .i64 a1_2] 24 (0, 0))) := ⟨h15_⟩
                have n16_ : Aside0 (w151.heap[gb220]? = some (.cells #[.slice Ao53 t213.length co53, .slice Ao55 t216.length co55, .int .i64 t219] 26 (0, 0))) := ⟨h16_⟩
                have n17_ : Aside0 (w151.heap[gb228]? = some (.cells #[.slice Ao62 t263.length co62, .slice Ao67 t264.length co67, .int .i64 t227] 26 (0, 0))) := ⟨h17_⟩
                have n18_ : Aside0 (w151.heap[gb236]? = some (.cells #[.slice Ao72 t266.length co72, .slice Ao78 t267.length co78, .int .i64 t235] 26 (0, 0))) := ⟨h18_⟩
                have n19_ : Aside0 (w151.heap[gb244]? = some (.cells #[.slice Ao82 t237.length co82, .slice Ao89 t240.length co89, .int .i64 t243] 26 (0, 0))) := ⟨h19_⟩
                have n20_ : Aside0 (w151.heap[gb294]? = some (.cells #[.slice none 0 0, .slice none 0 0, .int .i64 0] 26 (0, 0))) := ⟨h20_⟩
                have n21_ : Aside0 (w.heap.size ≤ gb294) := ⟨h21_⟩
                have n22_ : Aside0 (w.heap.size ≤ gb294) := ⟨h22_⟩
                have n23_ : Aside0 (gb195 ≠ gb294) := ⟨h23_⟩
                have n24_ : Aside0 (gb294 ≠ gb195) := ⟨h24_⟩
                have n25_ : Aside0 (gb196 ≠ gb294) := ⟨h25_⟩
                have n26_ : Aside0 (gb294 ≠ gb196) := ⟨h26_⟩
                have n27_ : Aside0 (gb220 ≠ gb294) := ⟨h27_⟩
                have n28_ : Aside0 (gb294 ≠ gb220) := ⟨h28_⟩
                have n29_ : Aside0 (gb228 ≠ gb294) := ⟨h29_⟩
                have n30_ : Aside0 (gb294 ≠ gb228) := ⟨h30_⟩
                have n31_ : Aside0 (gb236 ≠ gb294) := ⟨h31_⟩
                have n32_ : Aside0 (gb294 ≠ gb236) := ⟨h32_⟩
                have n33_ : Aside0 (gb244 ≠ gb294) := ⟨h33_⟩
                have n34_ : Aside0 (gb294 ≠ gb244) := ⟨h34_⟩
                have n35_ : Aside0 (Below w.heap.size w w151) := ⟨h35_⟩
                clear HO_221000
                clear HO_221001
                clear HO_229000
                clear HO_229001
                clear HO_237000
                clear HO_237001
                clear HO_245000
                clear HO_245001
                clear BK195
                clear BK196
                clear BK220
                clear BK228
                clear BK236
                clear BK244
                clear HB
                clear h0_ h1_ h2_ h3_ h4_ h5_ h6_ h7_ h8_ h9_ h10_ h11_ h12_ h13_ h14_ h15_ h16_ h17_ h18_ h19_ h20_ h21_ h22_ h23_ h24_ h25_ h26_ h27_ h28_ h29_ h30_ h31_ h32_ h33_ h34_ h35_
                have HO275 := n0_
                have HO278 := n1_
                have HO282 := n2_
                have HO285 := n3_
                have HO289 := n4_
                have HO292 := n5_
                have HO_221000 := n6_
                have HO_221001 := n7_
                have HO_229000 := n8_
                have HO_229001 := n9_
                have HO_237000 := n10_
                have HO_237001 := n11_
                have HO_245000 := n12_
                have HO_245001 := n13_
                have BK195 := n14_
                have BK196 := n15_
                have BK220 := n16_
                have BK228 := n17_
                have BK236 := n18_
                have BK244 := n19_
                have BK294 := n20_
                have GW294 := n21_
                have GE294 := n22_
                have NB195_294 := n23_
                have NB294_195 := n24_
                have NB196_294 := n25_
                have NB294_196 := n26_
                have NB220_294 := n27_
                have NB294_220 := n28_
                have NB228_294 := n29_
                have NB294_228 := n30_
                have NB236_294 := n31_
                have NB294_236 := n32_
                have NB244_294 := n33_
                have NB294_244 := n34_
                have HB := n35_
                clear n0_ n1_ n2_ n3_ n4_ n5_ n6_ n7_ n8_ n9_ n10_ n11_ n12_ n13_ n14_ n15_ n16_ n17_ n18_ n19_ n20_ n21_ n22_ n23_ n24_ n25_ n26_ n27_ n28_ n29_ n30_ n31_ n32_ n33_ n34_ n35_
                have hHeld : w151.cell? ⟨gb195, 0, none⟩ = some (.slice A0_0 l0_0.length c0_0) ∧ w151.cell? ⟨gb195, 1, none⟩ = some (.slice A0_1 l0_1.length c0_1) ∧ w151.cell? ⟨gb195, 2, none⟩ = some (.int .i64 a0_2) ∧ w151.cell? ⟨gb196, 0, none⟩ = some (.slice A1_0 l1_0.length c1_0) ∧ w151.cell? ⟨gb196, 1, none⟩ = some (.slice A1_1 l1_1.length c1_1) ∧ w151.cell? ⟨gb196, 2, none⟩ = some (.int .i64 a1_2) := hS_
                obtain ⟨Ao152, co152, eo152⟩ := Kd.R_slice HO289.out
                (first | subst eo152 | (injection eo152 with f1_ f2_ f3_; have f4_ := f1_.symm; have f5_ := f3_.symm; clear f1_ f2_ f3_; subst f4_; subst f5_))
                obtain ⟨Ao154, co154, eo154⟩ := Kd.R_slice HO292.out
                (first | subst eo154 | (injection eo154 with f1_ f2_ f3_; have f4_ := f1_.symm; have f5_ := f3_.symm; clear f1_ f2_ f3_; subst f4_; subst f5_))
                refine norm_ (a' := ?_) ?_ ?_
                rotate_left
                · simp only [putAll, Act.put, List.setIfInBounds_toArray, List.set_cons_zero, List.set_cons_succ]
                  rfl
                refine one_ (i := 6) (N := none) #[true, true, true, true, true, true, true] rfl rfl (by kernel_rfl) (by decide) (fun K hK => ?_)
                have hs153 : w151.cell? ⟨gb294, 0, none⟩ = some (.slice none 0 0) := (blk_cell BK294.out 0).trans rfl
                have hfs153 := blk_frozen BK294.out 0
                have hns153_0 := NB195_294.out
                have hns153_1 := NB196_294.out
                have hns153_2 := NB220_294.out
                have hns153_3 := NB228_294.out
                have hns153_4 := NB236_294.out
                have hns153_5 := NB244_294.out
                have hms153_0 := NB294_195.out
                have hms153_1 := NB294_196.out
                have hms153_2 := NB294_220.out
                have hms153_3 := NB294_228.out
                have hms153_4 := NB294_236.out
                have hms153_5 := NB294_244.out
                have hs155 : w151.cell? ⟨gb294, 1, none⟩ = some (.slice none 0 0) := (blk_cell BK294.out 1).trans rfl
                have hfs155 := blk_frozen BK294.out 1
                have hns155_0 := NB195_294.out
                have hns155_1 := NB196_294.out
                have hns155_2 := NB220_294.out
                have hns155_3 := NB228_294.out
                have hns155_4 := NB236_294.out
                have hns155_5 := NB244_294.out
                have hms155_0 := NB294_195.out
                have hms155_1 := NB294_196.out
                have hms155_2 := NB294_220.out
                have hms155_3 := NB294_228.out
                have hms155_4 := NB294_236.out
                have hms155_5 := NB294_244.out
                have hs156 : w151.cell? ⟨gb294, 2, none⟩ = some (.int .i64 0) := (blk_cell BK294.out 2).trans rfl
                have hfs156 := blk_frozen BK294.out 2
                have hns156_0 := NB195_294.out
                have hns156_1 := NB196_294.out
                have hns156_2 := NB220_294.out
                have hns156_3 := NB228_294.out
                have hns156_4 := NB236_294.out
                have hns156_5 := NB244_294.out
                have hms156_0 := NB294_195.out
                have hms156_1 := NB294_196.out
                have hms156_2 := NB294_220.out
                have hms156_3 := NB294_228.out
                have hms156_4 := NB294_236.out
                have hms156_5 := NB294_244.out
                refine skip_ (w1 := ?_) (by rfl) rfl ?_ ?_
                rotate_left
                · go_simp
                  rfl
                refine hK.out _ _ ⟨((cell_far (p := ⟨gb294, _, none⟩) NB195_294.out _).trans (((cell_far (p := ⟨gb294, _, none⟩) NB195_294.out _).trans (((cell_far (p := ⟨gb294, _, none⟩) NB195_294.out _).trans (hHeld.1)))))), ((cell_far (p := ⟨gb294, _, none⟩) NB195_294.out _).trans (((cell_far (p := ⟨gb294, _, none⟩) NB195_294.out _).trans (((cell_far (p := ⟨gb294, _, none⟩) NB195_294.out _).trans (hHeld.2.1)))))), ((cell_far (p := ⟨gb294, _, none⟩) NB195_294.out _).trans (((cell_far (p := ⟨gb294, _, none⟩) NB195_294.out _).trans (((cell_far (p := ⟨gb294, _, none⟩) NB195_294.out _).trans (hHeld.2.2.1)))))), ((cell_far (p := ⟨gb294, _, none⟩) NB196_294.out _).trans (((cell_far (p := ⟨gb294, _, none⟩) NB196_294.out _).trans (((cell_far (p := ⟨gb294, _, none⟩) NB196_294.out _).trans (hHeld.2.2.2.1)))))), ((cell_far (p := ⟨gb294, _, none⟩) NB196_294.out _).trans (((cell_far (p := ⟨gb294, _, none⟩) NB196_294.out _).trans (((cell_far (p := ⟨gb294, _, none⟩) NB196_294.out _).trans (hHeld.2.2.2.2.1)))))), ((cell_far (p := ⟨gb294, _, none⟩) NB196_294.out _).trans (((cell_far (p := ⟨gb294, _, none⟩) NB196_294.out _).trans (((cell_far (p := ⟨gb294, _, none⟩) NB196_294.out _).trans (hHeld.2.2.2.2.2))))))⟩ (fun hHeld => ?_)
                clear hK K
                refine done_ (by kernel_rfl) ?_
                have hnb157 := NB294_195.out
                have hnc157 := NB195_294.out
                have hnb158 := NB294_196.out
                have hnc158 := NB196_294.out
                have hnb159 := NB294_220.out
                have hnc159 := NB220_294.out
                have hnb160 := NB294_228.out
                have hnc160 := NB228_294.out
                have hnb161 := NB294_236.out
                have hnc161 := NB236_294.out
                have hnb162 := NB294_244.out
                have hnc162 := NB244_294.out
                have hcz163_0 : w151.cell? ⟨gb294, 0, none⟩ = some (.slice none 0 0) := (blk_cell BK294.out 0).trans rfl
                have hcz163_1 : w151.cell? ⟨gb294, 1, none⟩ = some (.slice none 0 0) := (blk_cell BK294.out 1).trans rfl
                have hcz163_2 : w151.cell? ⟨gb294, 2, none⟩ = some (.int .i64 0) := (blk_cell BK294.out 2).trans rfl
                have hfz163_0 := blk_frozen BK294.out 0
                have hfz163_1 := blk_frozen BK294.out 1
                have hfz163_2 := blk_frozen BK294.out 2
                have hnb164 := NB220_195.out
                have hnc164 := NB195_220.out
                have hnb165 := NB220_196.out
                have hnc165 := NB196_220.out
                have hnb166 := NB220_228.out
                have hnc166 := NB228_220.out
                have hnb167 := NB220_236.out
                have hnc167 := NB236_220.out
                have hcz168_0 : w151.cell? ⟨gb220, 0, none⟩ = some (.slice Ao53 t213.length co53) := (blk_cell BK220.out 0).trans rfl
                have hcz168_1 : w151.cell? ⟨gb220, 1, none⟩ = some (.slice Ao55 t216.length co55) := (blk_cell BK220.out 1).trans rfl
                have hcz168_2 : w151.cell? ⟨gb220, 2, none⟩ = some (.int .i64 t219) := (blk_cell BK220.out 2).trans rfl
                have hfz168_0 := blk_frozen BK220.out 0
                have hfz168_1 := blk_frozen BK220.out 1
                have hfz168_2 := blk_frozen BK220.out 2
                try go_wp2_with (first | ((with_reducible refine gate_callee (f := 12) rfl ?_); refine goesL_ (some 82) rfl rfl Try.func12 (by kernel_rfl) rfl #[.agg #[.slice Ao152 t287.length co152, .slice Ao154 t290.length co154, .int .i64 t293], .agg #[.slice Ao53 t213.length co53, .slice Ao55 t216.length co55, .int .i64 t219]] rfl (by (try simp only [List.map_toArray, List.map_cons, List.map_nil]); first | done | rfl | (simp only [List.length_drop, List.length_take]; rfl)) ?_; (with_reducible refine (laws_eqFrmForm.calls kj34 _ _ t287 _ _ t290 t293 _ _ t213 _ _ t216 t219 true _ ?side1 ?side2 ?side3 ?side4 ?side5 ?side6 ?side7 ?side8 A128.out).mono ?_); (case side1 => refine (Kd.R_reads' (e := 3) (base := w.heap.size) (ok := fun k_ => (some k_ ≠ (v274 : Value).ownBlock ∧ (some k_ ≠ (v277 : Value).ownBlock ∧ (some k_ ≠ (v281 : Value).ownBlock ∧ (some k_ ≠ (v284 : Value).ownBlock ∧ (some k_ ≠ (.slice Ao154 t290.length co154 : Value).ownBlock ∧ (some k_ ≠ (.slice Ao53 t213.length co53 : Value).ownBlock ∧ (some k_ ≠ (.slice Ao55 t216.length co55 : Value).ownBlock ∧ (some k_ ≠ (.slice Ao62 t263.length co62 : Value).ownBlock ∧ (some k_ ≠ (.slice Ao67 t264.length co67 : Value).ownBlock ∧ (some k_ ≠ (.slice Ao72 t266.length co72 : Value).ownBlock ∧ (some k_ ≠ (.slice Ao78 t267.length co78 : Value).ownBlock ∧ (some k_ ≠ (.slice Ao82 t237.length co82 : Value).ownBlock ∧ some k_ ≠ (.slice Ao89 t240.length co89 : Value).ownBlock))))))))))))) (n := t287.length) (c := co152) ?_).2.2; exact (by (with_reducible repeat (first | apply ra | apply rn | apply re)); exact (R3 HO289.out BK294.out))); (case side2 => exact (Kd.R_reads' HO289.out).2.1); (case side3 => refine (Kd.R_reads' (e := 3) (base := w.heap.size) (ok := fun k_ => (some k_ ≠ (v274 : Value).ownBlock ∧ (some k_ ≠ (v277 : Value).ownBlock ∧ (some k_ ≠ (v281 : Value).ownBlock ∧ (some k_ ≠ (v284 : Value).ownBlock ∧ (some k_ ≠ (.slice Ao152 t287.length co152 : Value).ownBlock ∧ (some k_ ≠ (.slice Ao53 t213.length co53 : Value).ownBlock ∧ (some k_ ≠ (.slice Ao55 t216.length co55 : Value).ownBlock ∧ (some k_ ≠ (.slice Ao62 t263.length co62 : Value).ownBlock ∧ (some k_ ≠ (.slice Ao67 t264.length co67 : Value).ownBlock ∧ (some k_ ≠ (.slice Ao72 t266.length co72 : Value).ownBlock ∧ (some k_ ≠ (.slice Ao78 t267.length co78 : Value).ownBlock ∧ (some k_ ≠ (.slice Ao82 t237.length co82 : Value).ownBlock ∧ some k_ ≠ (.slice Ao89 t240.length co89 : Value).ownBlock))))))))))))) (n := t290.length) (c := co154) ?_).2.2; exact (by (with_reducible repeat (first | apply ra | apply rn | apply re)); exact (R3 HO292.out BK294.out))); (case side4 => exact (Kd.R_reads' HO292.out).2.1); (case side5 => refine (Kd.R_reads' (e := 3) (base := w.heap.size) (ok := fun k_ => (some k_ ≠ (v274 : Value).ownBlock ∧ (some k_ ≠ (v277 : Value).ownBlock ∧ (some k_ ≠ (v281 : Value).ownBlock ∧ (some k_ ≠ (v284 : Value).ownBlock ∧ (some k_ ≠ (.slice Ao152 t287.length co152 : Value).ownBlock ∧ (some k_ ≠ (.slice Ao154 t290.length co154 : Value).ownBlock ∧ (some k_ ≠ (.slice Ao55 t216.length co55 : Value).ownBlock ∧ (some k_ ≠ (.slice Ao62 t263.length co62 : Value).ownBlock ∧ (some k_ ≠ (.slice Ao67 t264.length co67 : Value).ownBlock ∧ (some k_ ≠ (.slice Ao72 t266.length co72 : Value).ownBlock ∧ (some k_ ≠ (.slice Ao78 t267.length co78 : Value).ownBlock ∧ (some k_ ≠ (.slice Ao82 t237.length co82 : Value).ownBlock ∧ some k_ ≠ (.slice Ao89 t240.length co89 : Value).ownBlock))))))))))))) (n := t213.length) (c := co53) ?_).2.2; exact (by (with_reducible repeat (first | apply ra | apply rn | apply re)); exact (R3 HO_221000.out BK294.out))); (case side6 => exact (Kd.R_reads' HO_221000.out).2.1); (case side7 => refine (Kd.R_reads' (e := 3) (base := w.heap.size) (ok := fun k_ => (some k_ ≠ (v274 : Value).ownBlock ∧ (some k_ ≠ (v277 : Value).ownBlock ∧ (some k_ ≠ (v281 : Value).ownBlock ∧ (some k_ ≠ (v284 : Value).ownBlock ∧ (some k_ ≠ (.slice Ao152 t287.length co152 : Value).ownBlock ∧ (some k_ ≠ (.slice Ao154 t290.length co154 : Value).ownBlock ∧ (some k_ ≠ (.slice Ao53 t213.length co53 : Value).ownBlock ∧ (some k_ ≠ (.slice Ao62 t263.length co62 : Value).ownBlock ∧ (some k_ ≠ (.slice Ao67 t264.length co67 : Value).ownBlock ∧ (some k_ ≠ (.slice Ao72 t266.length co72 : Value).ownBlock ∧ (some k_ ≠ (.slice Ao78 t267.length co78 : Value).ownBlock ∧ (some k_ ≠ (.slice Ao82 t237.length co82 : Value).ownBlock ∧ some k_ ≠ (.slice Ao89 t240.length co89 : Value).ownBlock))))))))))))) (n := t216.length) (c := co55) ?_).2.2; exact (by (with_reducible repeat (first | apply ra | apply rn | apply re)); exact (R3 HO_221001.out BK294.out))); (case side8 => exact (Kd.R_reads' HO_221001.out).2.1); rintro e w169 ⟨rfl, hb⟩; refine ⟨_, rfl, ?_⟩; have n0_ := Aside0.mk (Kd.R_below (by (with_reducible repeat (first | apply ra | apply rn | apply re)); exact (R3 HO_221000.out BK294.out)) hb); have n1_ := Aside0.mk (Kd.R_below (by (with_reducible repeat (first | apply ra | apply rn | apply re)); exact (R3 HO_221001.out BK294.out)) hb); have n2_ := Aside0.mk (Kd.R_below (by (with_reducible repeat (first | apply ra | apply rn | apply re)); exact (R3 HO_229000.out BK294.out)) hb); have n3_ := Aside0.mk (Kd.R_below (by (with_reducible repeat (first | apply ra | apply rn | apply re)); exact (R3 HO_229001.out BK294.out)) hb); have n4_ := Aside0.mk (Kd.R_below (by (with_reducible repeat (first | apply ra | apply rn | apply re)); exact (R3 HO_237000.out BK294.out)) hb); have n5_ := Aside0.mk (Kd.R_below (by (with_reducible repeat (first | apply ra | apply rn | apply re)); exact (R3 HO_237001.out BK294.out)) hb); have n6_ := Aside0.mk (Kd.R_below (by (with_reducible repeat (first | apply ra | apply rn | apply re)); exact (R3 HO_245000.out BK294.out)) hb); have n7_ := Aside0.mk (Kd.R_below (by (with_reducible repeat (first | apply ra | apply rn | apply re)); exact (R3 HO_245001.out BK294.out)) hb); have n8_ := Aside0.mk (Kd.R_below (by (with_reducible repeat (first | apply ra | apply rn | apply re)); exact (R3 HO275.out BK294.out)) hb); have n9_ := Aside0.mk (Kd.R_below (by (with_reducible repeat (first | apply ra | apply rn | apply re)); exact (R3 HO278.out BK294.out)) hb); have n10_ := Aside0.mk (Kd.R_below (by (with_reducible repeat (first | apply ra | apply rn | apply re)); exact (R3 HO282.out BK294.out)) hb); have n11_ := Aside0.mk (Kd.R_below (by (with_reducible repeat (first | apply ra | apply rn | apply re)); exact (R3 HO285.out BK294.out)) hb); have n12_ := Aside0.mk (Kd.R_below (by (with_reducible repeat (first | apply ra | apply rn | apply re)); exact (R3 HO289.out BK294.out)) hb); have n13_ := Aside0.mk (Kd.R_below (by (with_reducible repeat (first | apply ra | apply rn | apply re)); exact (R3 HO292.out BK294.out)) hb); have n14_ := Aside0.mk (blk_below (g := gb195) (o := .cells #[.slice A0_0 l0_0.length c0_0, .slice A0_1 l0_1.length c0_1, .int .i64 a0_2] 24 (0, 0)) (by (with_reducible repeat (first | refine blk_drewN ?_ _ | refine blk_drew ?_ | refine blk_alloc ?_ _)); refine blk_far ?_ NB195_294.out _; (with_reducible repeat (first | refine blk_drewN ?_ _ | refine blk_drew ?_ | refine blk_alloc ?_ _)); refine blk_far ?_ NB195_294.out _; (with_reducible repeat (first | refine blk_drewN ?_ _ | refine blk_drew ?_ | refine blk_alloc ?_ _)); refine blk_far ?_ NB195_294.out _; exact lK <| BK195.out) hb); have n15_ := Aside0.mk (blk_below (g := gb196) (o := .cells #[.slice A1_0 l1_0.length c1_0, .slice A1_1 l1_1.length c1_1, .int .i64 a1_2] 24 (0, 0)) (by (with_reducible repeat (first | refine blk_drewN ?_ _ | refine blk_drew ?_ | refine blk_alloc ?_ _)); refine blk_far ?_ NB196_294.out _; (with_reducible repeat (first | refine blk_drewN ?_ _ | refine blk_drew ?_ | refine blk_alloc ?_ _)); refine blk_far ?_ NB196_294.out _; (with_reducible repeat (first | refine blk_drewN ?_ _ | refine blk_drew ?_ | refine blk_alloc ?_ _)); refine blk_far ?_ NB196_294.out _; exact lK <| BK196.out) hb); have n16_ := Aside0.mk (blk_below (g := gb220) (o := .cells #[.slice Ao53 t213.length co53, .slice Ao55 t216.length co55, .int .i64 t219] 26 (0, 0)) (by (with_reducible repeat (first | refine blk_drewN ?_ _ | refine blk_drew ?_ | refine blk_alloc ?_ _)); refine blk_far ?_ NB220_294.out _; (with_reducible repeat (first | refine blk_drewN ?_ _ | refine blk_drew ?_ | refine blk_alloc ?_ _)); refine blk_far ?_ NB220_294.out _; (with_reducible repeat (first | refine blk_drewN ?_ _ | refine blk_drew ?_ | refine blk_alloc ?_ _)); refine blk_far ?_ NB220_294.out _; exact lK <| BK220.out) hb); have n17_ := Aside0.mk (blk_below (g := gb228) (o := .cells #[.slice Ao62 t263.length co62, .slice Ao67 t264.length co67, .int .i64 t227] 26 (0, 0)) (by (with_reducible repeat (first | refine blk_drewN ?_ _ | refine blk_drew ?_ | refine blk_alloc ?_ _)); refine blk_far ?_ NB228_294.out _; (with_reducible repeat (first | refine blk_drewN ?_ _ | refine blk_drew ?_ | refine blk_alloc ?_ _)); refine blk_far ?_ NB228_294.out _; (with_reducible repeat (first | refine blk_drewN ?_ _ | refine blk_drew ?_ | refine blk_alloc ?_ _)); refine blk_far ?_ NB228_294.out _; exact lK <| BK228.out) hb); have n18_ := Aside0.mk (blk_below (g := gb236) (o := .cells #[.slice Ao72 t266.length co72, .slice Ao78 t267.length co78, .int .i64 t235] 26 (0, 0)) (by (with_reducible repeat (first | refine blk_drewN ?_ _ | refine blk_drew ?_ | refine blk_alloc ?_ _)); refine blk_far ?_ NB236_294.out _; (with_reducible repeat (first | refine blk_drewN ?_ _ | refine blk_drew ?_ | refine blk_alloc ?_ _)); refine blk_far ?_ NB236_294.out _; (with_reducible repeat (first | refine blk_drewN ?_ _ | refine blk_drew ?_ | refine blk_alloc ?_ _)); refine blk_far ?_ NB236_294.out _; exact lK <| BK236.out) hb); have n19_ := Aside0.mk (blk_below (g := gb244) (o := .cells #[.slice Ao82 t237.length co82, .slice Ao89 t240.length co89, .int .i64 t243] 26 (0, 0)) (by (with_reducible repeat (first | refine blk_drewN ?_ _ | refine blk_drew ?_ | refine blk_alloc ?_ _)); refine blk_far ?_ NB244_294.out _; (with_reducible repeat (first | refine blk_drewN ?_ _ | refine blk_drew ?_ | refine blk_alloc ?_ _)); refine blk_far ?_ NB244_294.out _; (with_reducible repeat (first | refine blk_drewN ?_ _ | refine blk_drew ?_ | refine blk_alloc ?_ _)); refine blk_far ?_ NB244_294.out _; exact lK <| BK244.out) hb); have n20_ := Aside0.mk (blk_below (g := gb294) (o := .cells #[.slice Ao152 t287.length co152, .slice Ao154 t290.length co154, .int .i64 t293] 26 (0, 0)) (by (with_reducible repeat (first | refine blk_drewN ?_ _ | refine blk_drew ?_ | refine blk_alloc ?_ _)); refine blk_put (cs := #[.slice Ao152 t287.length co152, .slice Ao154 t290.length co154, .int .i64 0]) ?_ 2 _ rfl; (with_reducible repeat (first | refine blk_drewN ?_ _ | refine blk_drew ?_ | refine blk_alloc ?_ _)); refine blk_put (cs := #[.slice Ao152 t287.length co152, .slice none 0 0, .int .i64 0]) ?_ 1 _ rfl; (with_reducible repeat (first | refine blk_drewN ?_ _ | refine blk_drew ?_ | refine blk_alloc ?_ _)); refine blk_put (cs := #[.slice none 0 0, .slice none 0 0, .int .i64 0]) ?_ 0 _ rfl; exact lK <| BK294.out) hb); have n21_ := Aside0.mk (below_step (by repeat (first | (with_reducible first | exact HB.out | apply below_alloc | apply pw_below_drewN | apply below_drew1 | refine below_set ?_ (by first | exact GE195.out | exact GE196.out | exact GE220.out | exact GE228.out | exact GE236.out | exact GE244.out | exact GE294.out)) | exact HB.out)) hb); clear HO_221000; clear HO_221001; clear HO_229000; clear HO_229001; clear HO_237000; clear HO_237001; clear HO_245000; clear HO_245001; clear HO275; clear HO278; clear HO282; clear HO285; clear HO289; clear HO292; clear BK195; clear BK196; clear BK220; clear BK228; clear BK236; clear BK244; clear BK294; clear HB; have HO_221000 := n0_; have HO_221001 := n1_; have HO_229000 := n2_; have HO_229001 := n3_; have HO_237000 := n4_; have HO_237001 := n5_; have HO_245000 := n6_; have HO_245001 := n7_; have HO275 := n8_; have HO278 := n9_; have HO282 := n10_; have HO285 := n11_; have HO289 := n12_; have HO292 := n13_; have BK195 := n14_; have BK196 := n15_; have BK220 := n16_; have BK228 := n17_; have BK236 := n18_; have BK244 := n19_; have BK294 := n20_; have HB := n21_; clear n0_ n1_ n2_ n3_ n4_ n5_ n6_ n7_ n8_ n9_ n10_ n11_ n12_ n13_ n14_ n15_ n16_ n17_ n18_ n19_ n20_ n21_; (try clear hb); (try clear hb2); (try clear hk); (try clear hi); have hcz170_0 : w169.cell? ⟨gb244, 0, none⟩ = some (.slice Ao82 t237.length co82) := (blk_cell BK244.out 0).trans rfl; have hcz170_1 : w169.cell? ⟨gb244, 1, none⟩ = some (.slice Ao89 t240.length co89) := (blk_cell BK244.out 1).trans rfl; have hcz170_2 : w169.cell? ⟨gb244, 2, none⟩ = some (.int .i64 t243) := (blk_cell BK244.out 2).trans rfl; have hfz170_0 := blk_frozen BK244.out 0; have hfz170_1 := blk_frozen BK244.out 1; have hfz170_2 := blk_frozen BK244.out 2) | ((with_reducible refine gate_callee (f := 14) rfl ?_); refine goesL_ (some 86) rfl rfl Try.func14 (by kernel_rfl) rfl #[.agg #[.slice Ao82 t270.length co82, .slice Ao89 t271.length co89, .int .i64 t243], .int .i64 1] rfl (by (try simp only [List.map_toArray, List.map_cons, List.map_nil]); first | done | (rw [show t270.length = t237.length from (Kd.R_reads' HO_245000.out).1.symm, show t271.length = t240.length from (Kd.R_reads' HO_245001.out).1.symm] <;> rfl) | rfl | (simp only [List.length_drop, List.length_take]; rfl)) ?_; (with_reducible refine (laws_heldFrmForm.calls kj34 _ _ t270 _ _ t271 t243 1 t296 _ ?side1 ?side2 ?side3 ?side4 A130.out).mono ?_); (case side1 => exact lC <| (Kd.R_reads' HO_245000.out).2.2); (case side2 => rw [show t270.length = t237.length from (Kd.R_reads' HO_245000.out).1.symm]; exact (Kd.R_reads' HO_245000.out).2.1); (case side3 => exact lC <| (Kd.R_reads' HO_245001.out).2.2); (case side4 => rw [show t271.length = t240.length from (Kd.R_reads' HO_245001.out).1.symm]; exact (Kd.R_reads' HO_245001.out).2.1); rintro e w171 ⟨rfl, hb⟩; refine ⟨_, rfl, ?_⟩; have n0_ := Aside0.mk (Kd.R_below (by exact lR <| HO_221000.out) hb); have n1_ := Aside0.mk (Kd.R_below (by exact lR <| HO_221001.out) hb); have n2_ := Aside0.mk (Kd.R_below (by exact lR <| HO_229000.out) hb); have n3_ := Aside0.mk (Kd.R_below (by exact lR <| HO_229001.out) hb); have n4_ := Aside0.mk (Kd.R_below (by exact lR <| HO_237000.out) hb); have n5_ := Aside0.mk (Kd.R_below (by exact lR <| HO_237001.out) hb); have n6_ := Aside0.mk (Kd.R_below (by exact lR <| HO_245000.out) hb); have n7_ := Aside0.mk (Kd.R_below (by exact lR <| HO_245001.out) hb); have n8_ := Aside0.mk (Kd.R_below (by exact lR <| HO275.out) hb); have n9_ := Aside0.mk (Kd.R_below (by exact lR <| HO278.out) hb); have n10_ := Aside0.mk (Kd.R_below (by exact lR <| HO282.out) hb); have n11_ := Aside0.mk (Kd.R_below (by exact lR <| HO285.out) hb); have n12_ := Aside0.mk (Kd.R_below (by exact lR <| HO289.out) hb); have n13_ := Aside0.mk (Kd.R_below (by exact lR <| HO292.out) hb); have n14_ := Aside0.mk (blk_below (g := gb195) (o := .cells #[.slice A0_0 l0_0.length c0_0, .slice A0_1 l0_1.length c0_1, .int .i64 a0_2] 24 (0, 0)) (by exact lK <| BK195.out) hb); have n15_ := Aside0.mk (blk_below (g := gb196) (o := .cells #[.slice A1_0 l1_0.length c1_0, .slice A1_1 l1_1.length c1_1, .int .i64 a1_2] 24 (0, 0)) (by exact lK <| BK196.out) hb); have n16_ := Aside0.mk (blk_below (g := gb220) (o := .cells #[.slice Ao53 t213.length co53, .slice Ao55 t216.length co55, .int .i64 t219] 26 (0, 0)) (by exact lK <| BK220.out) hb); have n17_ := Aside0.mk (blk_below (g := gb228) (o := .cells #[.slice Ao62 t263.length co62, .slice Ao67 t264.length co67, .int .i64 t227] 26 (0, 0)) (by exact lK <| BK228.out) hb); have n18_ := Aside0.mk (blk_below (g := gb236) (o := .cells #[.slice Ao72 t266.length co72, .slice Ao78 t267.length co78, .int .i64 t235] 26 (0, 0)) (by exact lK <| BK236.out) hb); have n19_ := Aside0.mk (blk_below (g := gb244) (o := .cells #[.slice Ao82 t237.length co82, .slice Ao89 t240.length co89, .int .i64 t243] 26 (0, 0)) (by exact lK <| BK244.out) hb); have n20_ := Aside0.mk (blk_below (g := gb294) (o := .cells #[.slice Ao152 t287.length co152, .slice Ao154 t290.length co154, .int .i64 t293] 26 (0, 0)) (by exact lK <| BK294.out) hb); have n21_ := Aside0.mk (below_step (by repeat (first | (with_reducible first | exact HB.out | apply below_alloc | apply pw_below_drewN | apply below_drew1 | refine below_set ?_ (by first | exact GE195.out | exact GE196.out | exact GE220.out | exact GE228.out | exact GE236.out | exact GE244.out | exact GE294.out)) | exact HB.out)) hb); clear HO_221000; clear HO_221001; clear HO_229000; clear HO_229001; clear HO_237000; clear HO_237001; clear HO_245000; clear HO_245001; clear HO275; clear HO278; clear HO282; clear HO285; clear HO289; clear HO292; clear BK195; clear BK196; clear BK220; clear BK228; clear BK236; clear BK244; clear BK294; clear HB; have HO_221000 := n0_; have HO_221001 := n1_; have HO_229000 := n2_; have HO_229001 := n3_; have HO_237000 := n4_; have HO_237001 := n5_; have HO_245000 := n6_; have HO_245001 := n7_; have HO275 := n8_; have HO278 := n9_; have HO282 := n10_; have HO285 := n11_; have HO289 := n12_; have HO292 := n13_; have BK195 := n14_; have BK196 := n15_; have BK220 := n16_; have BK228 := n17_; have BK236 := n18_; have BK244 := n19_; have BK294 := n20_; have HB := n21_; clear n0_ n1_ n2_ n3_ n4_ n5_ n6_ n7_ n8_ n9_ n10_ n11_ n12_ n13_ n14_ n15_ n16_ n17_ n18_ n19_ n20_ n21_; (try clear hb); (try clear hb2); (try clear hk); (try clear hi)))
                go_ret
                exact ⟨by first | rfl | (simp [errW_none, errW_some] <;> rfl) | (simp [*, errW_none, errW_some] <;> rfl), by repeat (first | (with_reducible first | exact HB.out | apply below_alloc | apply pw_below_drewN | apply below_drew1 | refine below_set ?_ (by first | exact GE195.out | exact GE196.out | exact GE220.out | exact GE228.out | exact GE236.out | exact GE244.out | exact GE294.out)) | exact HB.out)⟩
              · rw [if_neg c132] at H
                have c132b0 : (t296 == t269) = false := beq_eq_false_iff_ne.mpr c132
                have c132b1 : (t296 != t269) = true := bne_iff_ne.mpr c132
                exact absurd (Option.some.inj H) (by rw [hr.out]; decide)
          · replace c129 := Bool.eq_false_iff.mpr c129
            subst c129
            have H1 : (some false) = some r := by rw [if_neg (show ¬ (false = true) by decide)] at H; exact H
            clear H
            have H := H1
            clear H1
            exact absurd (Option.some.inj H) (by rw [hr.out]; decide)
        · rw [if_neg c124] at H
          have c124b0 : (t272 == t269) = false := beq_eq_false_iff_ne.mpr c124
          have c124b1 : (t272 != t269) = true := bne_iff_ne.mpr c124
          exact absurd (Option.some.inj H) (by rw [hr.out]; decide)
end Go.Proofs.Ytfbdjimcjoddgaa.QFnExactFrmAdd
