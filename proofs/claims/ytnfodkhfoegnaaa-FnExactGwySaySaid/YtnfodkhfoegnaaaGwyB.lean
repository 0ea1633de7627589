/- GwyAsk: a book that takes an order. -/
import Derived.Test.YtnfodkhfoegnaaaGwyA
import Derived.Test.YtnfodkhfoegnaaaGwyS
import Derived.Test.YtnfodkhfoegnaaaGwyI
namespace Go.Proofs.Ytnfodkhfoegnaaa
open Go.RowKit
set_option linter.unusedSimpArgs false
set_option linter.unusedVariables false

@[go_sem] theorem alloc_frozen' (w : World) (o : Obj) (b i : Nat) (h : b < w.heap.size) : (w.alloc o).frozen? ⟨b, i, none⟩ = w.frozen? ⟨b, i, none⟩ := by
  rw [alloc_ext]; exact ext_frozen' _ _ _ _ h
@[go_sem] theorem alloc_cell' (w : World) (o : Obj) (b i : Nat) (h : b < w.heap.size) : (w.alloc o).cell? ⟨b, i, none⟩ = w.cell? ⟨b, i, none⟩ := by
  rw [alloc_ext]; exact ext_cell' _ _ _ _ h
def MadeGwyB (w : World) (n0 : Nat) (xs0 : List Row) (b : Bool) (e : Ending) (w' : World) : Prop :=
  ∃ a0 c0, e = .returned (.tuple #[.agg #[.slice a0 n0 c0], .bool b]) ∧ Ext w w' ∧ OwnR w.heap.size w'.heap.size w' sGwy [.slice a0 n0 c0] (gwyDat xs0)
def gaB (m : Mp) (xs : List Row) (who kind to_ n : Int) : Bool := gwyOk m xs && askB xs who kind to_ n
def gaL (m : Mp) (xs : List Row) (who kind to_ n : Int) : List Row := if gwyOk m xs then askL xs who kind to_ n else []
theorem gaL_len (m : Mp) (xs : List Row) (who kind to_ n : Int) : (gaL m xs who kind to_ n).length ≤ xs.length := by
  unfold gaL; split <;> simp [askL_len]
theorem gwyOk_facts {m : Mp} {xs : List Row} (h : gwyOk m xs = true) : plcOk m = true ∧ ∀ y ∈ xs, 0 ≤ y.seq ∧ y.seq ≤ 900 := by
  simp only [gwyOk, Bool.and_eq_true] at h
  refine ⟨h.2, fun y hy => ?_⟩
  obtain ⟨k, hk⟩ := List.getElem?_of_mem hy
  have := allI_iff.1 h.1 k y hk
  simp only [gwyAt, gwyRow, rowNum, Bool.and_eq_true] at this
  exact inB_iff.1 this.1.1.1.2

def askArr (arr : Array Value) (x : Row) (k : Nat) (who kind to_ m : Int) : Array Value := ((((((arr.setIfInBounds (k * 10 + 2) (.bool true)).setIfInBounds (k * 10 + 3) (.int .i64 who)).setIfInBounds (k * 10 + 3 + 1) (.int .i64 (x.seq + 1))).setIfInBounds (k * 10 + 3 + 2) (.int .i64 kind)).setIfInBounds (k * 10 + 3 + 3) (.int .i64 to_)).setIfInBounds (k * 10 + 3 + 4) (.int .i64 m))
theorem askArr_ok {arr : Array Value} {x : Row} {k : Nat} {who kind to_ m : Int} (hsz : k * 10 + 10 ≤ arr.size) (HC : ∀ i v, x.cells[i]? = some v → arr[k * 10 + i]? = some v) :
    (askArr arr x k who kind to_ m).size = arr.size ∧ (∀ i, ¬ (k * 10 ≤ i ∧ i < k * 10 + 10) → (askArr arr x k who kind to_ m)[i]? = arr[i]?) ∧ (∀ i v, (askRow x who kind to_ m).cells[i]? = some v → (askArr arr x k who kind to_ m)[k * 10 + i]? = some v) := by
  unfold askArr
  refine ⟨by simp, fun i hi => ?_, fun i v hv => ?_⟩
  · repeat (with_reducible refine arr_out (by omega) ?_)
    rfl
  · match i, hv with
    | 0, hv =>
      repeat (with_reducible refine arr_out (by omega) ?_)
      exact HC 0 v hv
    | 1, hv =>
      repeat (with_reducible refine arr_out (by omega) ?_)
      exact HC 1 v hv
    | 2, hv =>
      repeat (with_reducible refine arr_out (by omega) ?_)
      exact (arr_at (by omega) (by (try simp only [Array.size_setIfInBounds]); omega)).trans hv
    | 3, hv =>
      repeat (with_reducible refine arr_out (by omega) ?_)
      exact (arr_at (by omega) (by (try simp only [Array.size_setIfInBounds]); omega)).trans hv
    | 4, hv =>
      repeat (with_reducible refine arr_out (by omega) ?_)
      exact (arr_at (by omega) (by (try simp only [Array.size_setIfInBounds]); omega)).trans hv
    | 5, hv =>
      repeat (with_reducible refine arr_out (by omega) ?_)
      exact (arr_at (by omega) (by (try simp only [Array.size_setIfInBounds]); omega)).trans hv
    | 6, hv =>
      repeat (with_reducible refine arr_out (by omega) ?_)
      exact (arr_at (by omega) (by (try simp only [Array.size_setIfInBounds]); omega)).trans hv
    | 7, hv =>
      repeat (with_reducible refine arr_out (by omega) ?_)
      exact (arr_at (by omega) (by (try simp only [Array.size_setIfInBounds]); omega)).trans hv
    | 8, hv =>
      repeat (with_reducible refine arr_out (by omega) ?_)
      exact HC 8 v hv
    | 9, hv =>
      repeat (with_reducible refine arr_out (by omega) ?_)
      exact HC 9 v hv
theorem fin_same {w W w2 : World} {lo hi R : Nat} {s : Sch} {vs : List Value} {d : Dat} (hE : Ext w W) (ho : OwnR lo hi W s vs d) (hR : w.heap.size ≤ R) (hRl : R < lo) (h2 : Chg [R] W w2) : Ext w w2 ∧ OwnR w.heap.size w2.heap.size w2 s vs d :=
  fin_res hE ⟨rfl, rfl, rfl, Nat.le_refl _, fun _ _ _ => rfl⟩ ho hR hRl h2

end Go.Proofs.Ytnfodkhfoegnaaa
