/- Many cells written at once (the walk's own unrolling doubles with each cell). -/
import Derived.Test.YtnfodkhfoegnaaaGate
import Derived.Laws.IdiomCopy
import Derived.Deep.MidRow
import Derived.Test.YtnfodkhfoegnaaaIns
import Derived.Test.YtnfodkhfoegnaaaGapL
namespace Go.Proofs.Ytnfodkhfoegnaaa
open Go.RowKit
set_option linter.unusedSimpArgs false

theorem st_16 {P : Program} (w : World) (b o : Nat) (v0 v1 v2 v3 v4 v5 v6 v7 v8 v9 v10 v11 v12 v13 v14 v15 : Value) (h0 : (w.cell? ⟨b, o, none⟩).isSome = true) (h1 : (w.cell? ⟨b, o + 1, none⟩).isSome = true) (h2 : (w.cell? ⟨b, o + 2, none⟩).isSome = true) (h3 : (w.cell? ⟨b, o + 3, none⟩).isSome = true) (h4 : (w.cell? ⟨b, o + 4, none⟩).isSome = true) (h5 : (w.cell? ⟨b, o + 5, none⟩).isSome = true) (h6 : (w.cell? ⟨b, o + 6, none⟩).isSome = true) (h7 : (w.cell? ⟨b, o + 7, none⟩).isSome = true) (h8 : (w.cell? ⟨b, o + 8, none⟩).isSome = true) (h9 : (w.cell? ⟨b, o + 9, none⟩).isSome = true) (h10 : (w.cell? ⟨b, o + 10, none⟩).isSome = true) (h11 : (w.cell? ⟨b, o + 11, none⟩).isSome = true) (h12 : (w.cell? ⟨b, o + 12, none⟩).isSome = true) (h13 : (w.cell? ⟨b, o + 13, none⟩).isSome = true) (h14 : (w.cell? ⟨b, o + 14, none⟩).isSome = true) (h15 : (w.cell? ⟨b, o + 15, none⟩).isSome = true) (z0 : w.frozen? ⟨b, o, none⟩ = false) (z1 : w.frozen? ⟨b, o + 1, none⟩ = false) (z2 : w.frozen? ⟨b, o + 2, none⟩ = false) (z3 : w.frozen? ⟨b, o + 3, none⟩ = false) (z4 : w.frozen? ⟨b, o + 4, none⟩ = false) (z5 : w.frozen? ⟨b, o + 5, none⟩ = false) (z6 : w.frozen? ⟨b, o + 6, none⟩ = false) (z7 : w.frozen? ⟨b, o + 7, none⟩ = false) (z8 : w.frozen? ⟨b, o + 8, none⟩ = false) (z9 : w.frozen? ⟨b, o + 9, none⟩ = false) (z10 : w.frozen? ⟨b, o + 10, none⟩ = false) (z11 : w.frozen? ⟨b, o + 11, none⟩ = false) (z12 : w.frozen? ⟨b, o + 12, none⟩ = false) (z13 : w.frozen? ⟨b, o + 13, none⟩ = false) (z14 : w.frozen? ⟨b, o + 14, none⟩ = false) (z15 : w.frozen? ⟨b, o + 15, none⟩ = false) (q0 : v0.oneCell' = true) (q1 : v1.oneCell' = true) (q2 : v2.oneCell' = true) (q3 : v3.oneCell' = true) (q4 : v4.oneCell' = true) (q5 : v5.oneCell' = true) (q6 : v6.oneCell' = true) (q7 : v7.oneCell' = true) (q8 : v8.oneCell' = true) (q9 : v9.oneCell' = true) (q10 : v10.oneCell' = true) (q11 : v11.oneCell' = true) (q12 : v12.oneCell' = true) (q13 : v13.oneCell' = true) (q14 : v14.oneCell' = true) (q15 : v15.oneCell' = true) :
    (storeCells ⟨b, o, none⟩ [v0, v1, v2, v3, v4, v5, v6, v7, v8, v9, v10, v11, v12, v13, v14, v15] 0).run P w = .ok () ((((((((((((((((w.setCell ⟨b, o, none⟩ v0).setCell ⟨b, o + 1, none⟩ v1).setCell ⟨b, o + 2, none⟩ v2).setCell ⟨b, o + 3, none⟩ v3).setCell ⟨b, o + 4, none⟩ v4).setCell ⟨b, o + 5, none⟩ v5).setCell ⟨b, o + 6, none⟩ v6).setCell ⟨b, o + 7, none⟩ v7).setCell ⟨b, o + 8, none⟩ v8).setCell ⟨b, o + 9, none⟩ v9).setCell ⟨b, o + 10, none⟩ v10).setCell ⟨b, o + 11, none⟩ v11).setCell ⟨b, o + 12, none⟩ v12).setCell ⟨b, o + 13, none⟩ v13).setCell ⟨b, o + 14, none⟩ v14).setCell ⟨b, o + 15, none⟩ v15) := by
  have := run_storeCells_cells (P := P) b o [v0, v1, v2, v3, v4, v5, v6, v7, v8, v9, v10, v11, v12, v13, v14, v15] 0 w (fun j hj => by
    match j, hj with
    | 0, _ => exact h0
    | 1, _ => exact h1
    | 2, _ => exact h2
    | 3, _ => exact h3
    | 4, _ => exact h4
    | 5, _ => exact h5
    | 6, _ => exact h6
    | 7, _ => exact h7
    | 8, _ => exact h8
    | 9, _ => exact h9
    | 10, _ => exact h10
    | 11, _ => exact h11
    | 12, _ => exact h12
    | 13, _ => exact h13
    | 14, _ => exact h14
    | 15, _ => exact h15
    | q + 16, hq => exact absurd hq (by simp)) (fun j hj => by
    match j, hj with
    | 0, _ => exact z0
    | 1, _ => exact z1
    | 2, _ => exact z2
    | 3, _ => exact z3
    | 4, _ => exact z4
    | 5, _ => exact z5
    | 6, _ => exact z6
    | 7, _ => exact z7
    | 8, _ => exact z8
    | 9, _ => exact z9
    | 10, _ => exact z10
    | 11, _ => exact z11
    | 12, _ => exact z12
    | 13, _ => exact z13
    | 14, _ => exact z14
    | 15, _ => exact z15
    | q + 16, hq => exact absurd hq (by simp)) (fun v hv => by
    simp only [List.mem_cons, List.not_mem_nil, or_false] at hv
    rcases hv with rfl | rfl | rfl | rfl | rfl | rfl | rfl | rfl | rfl | rfl | rfl | rfl | rfl | rfl | rfl | rfl <;> assumption)
  rw [this]
  rfl
attribute [go_sem high] st_16
theorem st_25 {P : Program} (w : World) (b o : Nat) (v0 v1 v2 v3 v4 v5 v6 v7 v8 v9 v10 v11 v12 v13 v14 v15 v16 v17 v18 v19 v20 v21 v22 v23 v24 : Value) (h0 : (w.cell? ⟨b, o, none⟩).isSome = true) (h1 : (w.cell? ⟨b, o + 1, none⟩).isSome = true) (h2 : (w.cell? ⟨b, o + 2, none⟩).isSome = true) (h3 : (w.cell? ⟨b, o + 3, none⟩).isSome = true) (h4 : (w.cell? ⟨b, o + 4, none⟩).isSome = true) (h5 : (w.cell? ⟨b, o + 5, none⟩).isSome = true) (h6 : (w.cell? ⟨b, o + 6, none⟩).isSome = true) (h7 : (w.cell? ⟨b, o + 7, none⟩).isSome = true) (h8 : (w.cell? ⟨b, o + 8, none⟩).isSome = true) (h9 : (w.cell? ⟨b, o + 9, none⟩).isSome = true) (h10 : (w.cell? ⟨b, o + 10, none⟩).isSome = true) (h11 : (w.cell? ⟨b, o + 11, none⟩).isSome = true) (h12 : (w.cell? ⟨b, o + 12, none⟩).isSome = true) (h13 : (w.cell? ⟨b, o + 13, none⟩).isSome = true) (h14 : (w.cell? ⟨b, o + 14, none⟩).isSome = true) (h15 : (w.cell? ⟨b, o + 15, none⟩).isSome = true) (h16 : (w.cell? ⟨b, o + 16, none⟩).isSome = true) (h17 : (w.cell? ⟨b, o + 17, none⟩).isSome = true) (h18 : (w.cell? ⟨b, o + 18, none⟩).isSome = true) (h19 : (w.cell? ⟨b, o + 19, none⟩).isSome = true) (h20 : (w.cell? ⟨b, o + 20, none⟩).isSome = true) (h21 : (w.cell? ⟨b, o + 21, none⟩).isSome = true) (h22 : (w.cell? ⟨b, o + 22, none⟩).isSome = true) (h23 : (w.cell? ⟨b, o + 23, none⟩).isSome = true) (h24 : (w.cell? ⟨b, o + 24, none⟩).isSome = true) (z0 : w.frozen? ⟨b, o, none⟩ = false) (z1 : w.frozen? ⟨b, o + 1, none⟩ = false) (z2 : w.frozen? ⟨b, o + 2, none⟩ = false) (z3 : w.frozen? ⟨b, o + 3, none⟩ = false) (z4 : w.frozen? ⟨b, o + 4, none⟩ = false) (z5 : w.frozen? ⟨b, o + 5, none⟩ = false) (z6 : w.frozen? ⟨b, o + 6, none⟩ = false) (z7 : w.frozen? ⟨b, o + 7, none⟩ = false) (z8 : w.frozen? ⟨b, o + 8, none⟩ = false) (z9 : w.frozen? ⟨b, o + 9, none⟩ = false) (z10 : w.frozen? ⟨b, o + 10, none⟩ = false) (z11 : w.frozen? ⟨b, o + 11, none⟩ = false) (z12 : w.frozen? ⟨b, o + 12, none⟩ = false) (z13 : w.frozen? ⟨b, o + 13, none⟩ = false) (z14 : w.frozen? ⟨b, o + 14, none⟩ = false) (z15 : w.frozen? ⟨b, o + 15, none⟩ = false) (z16 : w.frozen? ⟨b, o + 16, none⟩ = false) (z17 : w.frozen? ⟨b, o + 17, none⟩ = false) (z18 : w.frozen? ⟨b, o + 18, none⟩ = false) (z19 : w.frozen? ⟨b, o + 19, none⟩ = false) (z20 : w.frozen? ⟨b, o + 20, none⟩ = false) (z21 : w.frozen? ⟨b, o + 21, none⟩ = false) (z22 : w.frozen? ⟨b, o + 22, none⟩ = false) (z23 : w.frozen? ⟨b, o + 23, none⟩ = false) (z24 : w.frozen? ⟨b, o + 24, none⟩ = false) (q0 : v0.oneCell' = true) (q1 : v1.oneCell' = true) (q2 : v2.oneCell' = true) (q3 : v3.oneCell' = true) (q4 : v4.oneCell' = true) (q5 : v5.oneCell' = true) (q6 : v6.oneCell' = true) (q7 : v7.oneCell' = true) (q8 : v8.oneCell' = true) (q9 : v9.oneCell' = true) (q10 : v10.oneCell' = true) (q11 : v11.oneCell' = true) (q12 : v12.oneCell' = true) (q13 : v13.oneCell' = true) (q14 : v14.oneCell' = true) (q15 : v15.oneCell' = true) (q16 : v16.oneCell' = true) (q17 : v17.oneCell' = true) (q18 : v18.oneCell' = true) (q19 : v19.oneCell' = true) (q20 : v20.oneCell' = true) (q21 : v21.oneCell' = true) (q22 : v22.oneCell' = true) (q23 : v23.oneCell' = true) (q24 : v24.oneCell' = true) :
    (storeCells ⟨b, o, none⟩ [v0, v1, v2, v3, v4, v5, v6, v7, v8, v9, v10, v11, v12, v13, v14, v15, v16, v17, v18, v19, v20, v21, v22, v23, v24] 0).run P w = .ok () (((((((((((((((((((((((((w.setCell ⟨b, o, none⟩ v0).setCell ⟨b, o + 1, none⟩ v1).setCell ⟨b, o + 2, none⟩ v2).setCell ⟨b, o + 3, none⟩ v3).setCell ⟨b, o + 4, none⟩ v4).setCell ⟨b, o + 5, none⟩ v5).setCell ⟨b, o + 6, none⟩ v6).setCell ⟨b, o + 7, none⟩ v7).setCell ⟨b, o + 8, none⟩ v8).setCell ⟨b, o + 9, none⟩ v9).setCell ⟨b, o + 10, none⟩ v10).setCell ⟨b, o + 11, none⟩ v11).setCell ⟨b, o + 12, none⟩ v12).setCell ⟨b, o + 13, none⟩ v13).setCell ⟨b, o + 14, none⟩ v14).setCell ⟨b, o + 15, none⟩ v15).setCell ⟨b, o + 16, none⟩ v16).setCell ⟨b, o + 17, none⟩ v17).setCell ⟨b, o + 18, none⟩ v18).setCell ⟨b, o + 19, none⟩ v19).setCell ⟨b, o + 20, none⟩ v20).setCell ⟨b, o + 21, none⟩ v21).setCell ⟨b, o + 22, none⟩ v22).setCell ⟨b, o + 23, none⟩ v23).setCell ⟨b, o + 24, none⟩ v24) := by
  have := run_storeCells_cells (P := P) b o [v0, v1, v2, v3, v4, v5, v6, v7, v8, v9, v10, v11, v12, v13, v14, v15, v16, v17, v18, v19, v20, v21, v22, v23, v24] 0 w (fun j hj => by
    match j, hj with
    | 0, _ => exact h0
    | 1, _ => exact h1
    | 2, _ => exact h2
    | 3, _ => exact h3
    | 4, _ => exact h4
    | 5, _ => exact h5
    | 6, _ => exact h6
    | 7, _ => exact h7
    | 8, _ => exact h8
    | 9, _ => exact h9
    | 10, _ => exact h10
    | 11, _ => exact h11
    | 12, _ => exact h12
    | 13, _ => exact h13
    | 14, _ => exact h14
    | 15, _ => exact h15
    | 16, _ => exact h16
    | 17, _ => exact h17
    | 18, _ => exact h18
    | 19, _ => exact h19
    | 20, _ => exact h20
    | 21, _ => exact h21
    | 22, _ => exact h22
    | 23, _ => exact h23
    | 24, _ => exact h24
    | q + 25, hq => exact absurd hq (by simp)) (fun j hj => by
    match j, hj with
    | 0, _ => exact z0
    | 1, _ => exact z1
    | 2, _ => exact z2
    | 3, _ => exact z3
    | 4, _ => exact z4
    | 5, _ => exact z5
    | 6, _ => exact z6
    | 7, _ => exact z7
    | 8, _ => exact z8
    | 9, _ => exact z9
    | 10, _ => exact z10
    | 11, _ => exact z11
    | 12, _ => exact z12
    | 13, _ => exact z13
    | 14, _ => exact z14
    | 15, _ => exact z15
    | 16, _ => exact z16
    | 17, _ => exact z17
    | 18, _ => exact z18
    | 19, _ => exact z19
    | 20, _ => exact z20
    | 21, _ => exact z21
    | 22, _ => exact z22
    | 23, _ => exact z23
    | 24, _ => exact z24
    | q + 25, hq => exact absurd hq (by simp)) (fun v hv => by
    simp only [List.mem_cons, List.not_mem_nil, or_false] at hv
    rcases hv with rfl | rfl | rfl | rfl | rfl | rfl | rfl | rfl | rfl | rfl | rfl | rfl | rfl | rfl | rfl | rfl | rfl | rfl | rfl | rfl | rfl | rfl | rfl | rfl | rfl <;> assumption)
  rw [this]
  rfl
attribute [go_sem high] st_25
theorem store_gate {P : Program} {ops : Array Oper} {rest : List Oper} {Q : Exit → Act → World → Prop} {a : Act} {w : World} {d : Option Nat} {s x : Operand} {T1 ty : TypeId} {ps : String} {af : Array Edge}
    (h : wpList P ops Q ({ dst := d, op := Op.store T1 s x, type := ty, pos := ps, after := af, guard := none } :: rest) a w) :
    wpList P ops Q ({ dst := d, op := Op.store T1 s x, type := ty, pos := ps, after := af, guard := none } :: rest) a w := h
/-- A whole block written: the world behind it is told by what is in the block, and by what else stayed. -/
theorem wp_storeW {P : Program} {op : Oper} {a : Act} {w : World} {K : Act → World → Prop} {Q : Exit → Act → World → Prop} (ty : TypeId) (x y : Operand) (ho : op.op = .store ty x y)
    (b : Nat) (old cells : Array Value) (T : TypeId) (hx : a.eval x = .pointer (some ⟨b, 0, none⟩)) (hy : a.eval y = .agg cells) (hb : w.heap[b]? = some (.cells old T (0, 0))) (hs : old.size = cells.size)
    (hi : (P.info? ty).map (·.size) = some cells.size) (h1 : cells.all (·.oneCell') = true)
    (h : ∀ W', Chg [b] w W' → W'.heap[b]? = some (.cells cells T (0, 0)) → K (a.put op.dst undef) W') : op.wp P a w K Q := by
  refine wp_store_mid ty x y ho b 0 cells hx hy (fun j hj => ⟨?_, frozen_blk hb _⟩) hi h1 ?_
  · rw [cell_blk hb, Nat.zero_add, Array.getElem?_eq_getElem (by omega)]; rfl
  · have e : w.setCells b 0 cells.toList = setRow w b 0 cells.toList := setCells_row w b _ _ _
    rw [e]
    refine h _ (Chg.setRow (by simp) _ (Chg.refl _ _)) ?_
    rw [blk_setRow _ hb, putRow_all _ _ (by simp [hs])]
theorem wpList_storeW {P : Program} {ops : Array Oper} {rest : List Oper} {op : Oper} {a : Act} {w : World} {Q : Exit → Act → World → Prop} (hgd : op.guard = none) (ty : TypeId) (x y : Operand) (ho : op.op = .store ty x y)
    (b : Nat) (old cells : Array Value) (T : TypeId) (hx : a.eval x = .pointer (some ⟨b, 0, none⟩)) (hy : a.eval y = .agg cells) (hb : w.heap[b]? = some (.cells old T (0, 0))) (hs : old.size = cells.size)
    (hi : (P.info? ty).map (·.size) = some cells.size) (h1 : cells.all (·.oneCell') = true)
    (h : ∀ W', Chg [b] w W' → W'.heap[b]? = some (.cells cells T (0, 0)) → wpList P ops Q rest (a.put op.dst undef) W') : wpList P ops Q (op :: rest) a w :=
  wpList_plain hgd fun _ hK => wp_storeW ty x y ho b old cells T hx hy hb hs hi h1 fun W' h2 h3 => hK _ _ (h W' h2 h3)
/-- What a function answers whose results lie in a block and in a register. -/
theorem res_ct {P : Program} {fn : Func} {a T t : Nat} {tmps : Array Value} {w : World} {b : Nat} {cs : Array Value} {T' : TypeId} {fr : Nat × Nat} {d : TypeDesc} (h : fn.results = #[.cell a T, .tmp t]) (ha : tmps.getD a undef = .pointer (some ⟨b, 0, none⟩))
    (hb : w.heap[b]? = some (.cells cs T' fr)) (hu : P.underlying T = some d) (hd : (match d with | .struct _ | .array _ _ => true | _ => false) = true) (hi : (P.info? T).map (·.size) = some cs.size) :
    (results fn tmps).run P w = .ok (.tuple #[.agg cs, tmps.getD t undef]) w := by
  have := run_loadVar_row w b T' T cs fr d hb hu hd hi
  have ha' : tmps[a]?.getD undef = .pointer (some ⟨b, 0, none⟩) := by simpa [Array.getD_eq_getD_getElem?] using ha
  simp [results, h, ha', asAddr, this]
theorem res_c1 {P : Program} {fn : Func} {a T : Nat} {tmps : Array Value} {w : World} {b : Nat} {cs : Array Value} {T' : TypeId} {fr : Nat × Nat} {d : TypeDesc} (h : fn.results = #[.cell a T]) (ha : tmps.getD a undef = .pointer (some ⟨b, 0, none⟩))
    (hb : w.heap[b]? = some (.cells cs T' fr)) (hu : P.underlying T = some d) (hd : (match d with | .struct _ | .array _ _ => true | _ => false) = true) (hi : (P.info? T).map (·.size) = some cs.size) :
    (results fn tmps).run P w = .ok (.agg cs) w := by
  have := run_loadVar_row w b T' T cs fr d hb hu hd hi
  have ha' : tmps[a]?.getD undef = .pointer (some ⟨b, 0, none⟩) := by simpa [Array.getD_eq_getD_getElem?] using ha
  simp [results, h, ha', asAddr, this]
theorem load_gate {P : Program} {ops : Array Oper} {rest : List Oper} {Q : Exit → Act → World → Prop} {a : Act} {w : World} {d : Option Nat} {s : Operand} {T1 ty : TypeId} {ps : String} {af : Array Edge}
    (h : wpList P ops Q ({ dst := d, op := Op.load T1 s, type := ty, pos := ps, after := af, guard := none } :: rest) a w) :
    wpList P ops Q ({ dst := d, op := Op.load T1 s, type := ty, pos := ps, after := af, guard := none } :: rest) a w := h
/-- A whole block read. -/
theorem wpList_loadW {P : Program} {ops : Array Oper} {rest : List Oper} {op : Oper} {a : Act} {w : World} {Q : Exit → Act → World → Prop} (hgd : op.guard = none) (ty : TypeId) (x : Operand) (ho : op.op = .load ty x)
    (b : Nat) (cs : Array Value) (T' : TypeId) (d : TypeDesc) (hx : a.eval x = .pointer (some ⟨b, 0, none⟩)) (hb : w.heap[b]? = some (.cells cs T' (0, 0))) (hu : P.underlying ty = some d) (hd : d.isRow = true) (hi : (P.info? ty).map (·.size) = some cs.size)
    (h : wpList P ops Q rest (a.put op.dst (.agg cs)) w) : wpList P ops Q (op :: rest) a w :=
  wpList_load_mid hgd ty x ho b 0 hx cs.toList d (fun j v hv => by rw [cell_blk hb, Nat.zero_add]; simpa using hv) hu hd (by simpa using hi) (by simpa using h)
theorem load_gateG {P : Program} {ops : Array Oper} {rest : List Oper} {Q : Exit → Act → World → Prop} {a : Act} {w : World} {d : Option Nat} {s : Operand} {T1 ty : TypeId} {ps : String} {af : Array Edge} {gg : Nat × Bool}
    (h : wpList P ops Q ({ dst := d, op := Op.load T1 s, type := ty, pos := ps, after := af, guard := some gg } :: rest) a w) :
    wpList P ops Q ({ dst := d, op := Op.load T1 s, type := ty, pos := ps, after := af, guard := some gg } :: rest) a w := h
theorem wpList_loadG {P : Program} {ops : Array Oper} {rest : List Oper} {op : Oper} {a : Act} {w : World} {Q : Exit → Act → World → Prop} (hw : Region.wanted op (yielded ops a.tmps) = true) (ty : TypeId) (x : Operand) (ho : op.op = .load ty x)
    (b : Nat) (cs : Array Value) (T' : TypeId) (d : TypeDesc) (hx : a.eval x = .pointer (some ⟨b, 0, none⟩)) (hb : w.heap[b]? = some (.cells cs T' (0, 0))) (hu : P.underlying ty = some d) (hd : d.isRow = true) (hi : (P.info? ty).map (·.size) = some cs.size)
    (h : wpList P ops Q rest (a.put op.dst (.agg cs)) w) : wpList P ops Q (op :: rest) a w := by
  unfold wpList
  rw [if_pos hw]
  exact .inl (wp_load_mid ty x ho b 0 hx cs.toList d (fun j v hv => by rw [cell_blk hb, Nat.zero_add]; simpa using hv) hu hd (by simpa using hi) (by simpa using h))
theorem stW_other {b X : Nat} {V W9 : World} {arr : Array Value} {T : TypeId} (hX : V.heap[X]? = some (.cells arr T (0, 0))) (hW : Chg [b] V W9) (hn : X ≠ b) : W9.heap[X]? = some (.cells arr T (0, 0)) ∧ X ≠ b ∧ b ≠ X :=
  ⟨(hW.block X (lt_blk hX) (by simpa using hn)).trans hX, hn, Ne.symm hn⟩
theorem stW_ext {b : Nat} {w V W9 : World} (hE : Ext w V) (hW : Chg [b] V W9) (hb : w.heap.size ≤ b) : Ext w W9 ∧ w.heap.size ≤ b :=
  ⟨Ext.of_below (Below.chg (w0 := w) (Ext.below hE) hW (by simpa using hb)), hb⟩
theorem stW_fin {b : Nat} {w W9 W' : World} (h9 : Ext w W9) (hb : w.heap.size ≤ b) (h : Chg [b] W9 W') : Ext w W' :=
  Ext.of_below (Below.chg (w0 := w) (Ext.below h9) h (by simpa using hb))
theorem mixload_gate {P : Program} {ops : Array Oper} {S : World → Prop} {Q : Exit → Act → World → Prop} {rest : List Oper} {a : Act} {w : World} {d : Option Nat} {s : Operand} {T1 ty : TypeId} {ps : String} {af : Array Edge} {gg : Option (Nat × Bool)}
    (h : wpMixL P ops S Q ({ dst := d, op := Op.load T1 s, type := ty, pos := ps, after := af, guard := gg } :: rest) a w) :
    wpMixL P ops S Q ({ dst := d, op := Op.load T1 s, type := ty, pos := ps, after := af, guard := gg } :: rest) a w := h
/-- A whole block read in a region that draws its order. -/
theorem mix_loadW {P : Program} {ops : Array Oper} {S : World → Prop} {Q : Exit → Act → World → Prop} {r : List Oper} {o : Oper} {a : Act} {w : World} (hw : Region.wanted o (yielded ops a.tmps) = true) (ty : TypeId) (x : Operand) (ho : o.op = .load ty x)
    (b : Nat) (cs : Array Value) (T' : TypeId) (d : TypeDesc) (hx : a.eval x = .pointer (some ⟨b, 0, none⟩)) (hS : ∀ w', S w' → w'.heap[b]? = some (.cells cs T' (0, 0))) (hu : P.underlying ty = some d) (hd : d.isRow = true) (hi : (P.info? ty).map (·.size) = some cs.size)
    (h : wpMixL P ops S Q r (a.put o.dst (.agg cs)) w) : wpMixL P ops S Q (o :: r) a w := by
  unfold wpMixL
  rw [if_neg (by simp [isMk, ho])]
  refine ⟨.agg cs, .inl ⟨hw, fun w' hw' => ?_⟩, h⟩
  have hb := hS w' hw'
  have := run_loadVar_mid (P := P) w' b 0 ty cs.toList d (fun j v hv => by rw [cell_blk hb, Nat.zero_add]; simpa using hv) hu hd (by simpa using hi)
  simp only [execOp, ho, hx, Instr.loadAt, Instr.sureAddr, Sem.run_bind, Sem.run_pure, Result.andThen_ok, this]
end Go.Proofs.Ytnfodkhfoegnaaa
