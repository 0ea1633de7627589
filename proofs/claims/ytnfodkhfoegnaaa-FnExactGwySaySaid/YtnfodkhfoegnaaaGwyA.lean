/- An order that a book takes. -/
import Derived.Test.YtnfodkhfoegnaaaGwyF
import Derived.Test.YtnfodkhfoegnaaaGwyR
namespace Go.Proofs.Ytnfodkhfoegnaaa
open Go.RowKit
set_option linter.unusedSimpArgs false
set_option linter.unusedVariables false

@[go_sem high] theorem ne_add_l0 (a b : Nat) (h : a < b) : (b = a) = False := by simp only [eq_iff_iff, iff_false]; omega
@[go_sem high] theorem ne_add_l1 (a b k : Nat) (h : a < b) : (b + k = a) = False := by simp only [eq_iff_iff, iff_false]; omega
@[go_sem high] theorem ne_add_l2 (a b k0 k1 : Nat) (h : a < b) : (b + k0 + k1 = a) = False := by simp only [eq_iff_iff, iff_false]; omega
theorem arr_ne {arr : Array Value} {i j : Nat} {v : Value} (h : i ≠ j) : (arr.setIfInBounds i v)[j]? = arr[j]? := by
  rw [Array.getElem?_setIfInBounds, if_neg h]
theorem arr_eq {arr : Array Value} {i : Nat} {v : Value} (h : i < arr.size) : (arr.setIfInBounds i v)[i]? = some v := by
  rw [Array.getElem?_setIfInBounds, if_pos rfl, if_pos h]

theorem arr_out {arr : Array Value} {i j : Nat} {v : Value} {x : Option Value} (h : i ≠ j) (k : arr[j]? = x) : (arr.setIfInBounds i v)[j]? = x := (arr_ne h).trans k
theorem arr_at {arr : Array Value} {i j : Nat} {v : Value} (e : i = j) (h : i < arr.size) : (arr.setIfInBounds i v)[j]? = some v := by subst e; exact arr_eq h
def askOrd (x : Row) (who kind to_ n : Int) : Ord := ⟨who, x.seq + 1, kind, to_, n⟩
def askRow (x : Row) (who kind to_ n : Int) : Row := { x with busy := true, ord := askOrd x who kind to_ n }
def rowGet (xs : List Row) (who : Int) : Option Row := xs.find? (isWho who)
def askB (xs : List Row) (who kind to_ n : Int) : Bool := match rowGet xs who with
  | none => false
  | some x => !x.busy && ordOk (askOrd x who kind to_ n)
def askL (xs : List Row) (who kind to_ n : Int) : List Row := match rowGet xs who with
  | none => xs
  | some x => if !x.busy && ordOk (askOrd x who kind to_ n) then xs.set (rowPlace xs who).toNat (askRow x who kind to_ n) else xs
theorem askL_len (xs : List Row) (who kind to_ n : Int) : (askL xs who kind to_ n).length = xs.length := by
  unfold askL
  split
  · rfl
  · split <;> simp
theorem ask_none {xs : List Row} {who : Int} (h : ∀ y ∈ xs, isWho who y = false) (kind to_ n : Int) : askB xs who kind to_ n = false ∧ askL xs who kind to_ n = xs := by
  have : rowGet xs who = none := find_miss h
  simp [askB, askL, this]
theorem ask_some {xs : List Row} {who : Int} {k : Nat} {x : Row} (h : xs[k]? = some x) (ha : ∀ y ∈ xs.take k, isWho who y = false) (hp : isWho who x = true) (hk : rowPlace xs who = (k : Int)) (kind to_ n : Int) :
    askB xs who kind to_ n = (!x.busy && ordOk (askOrd x who kind to_ n)) ∧ askL xs who kind to_ n = if !x.busy && ordOk (askOrd x who kind to_ n) then xs.set k (askRow x who kind to_ n) else xs := by
  have : rowGet xs who = some x := find_hit h ha hp
  simp [askB, askL, this, hk]

theorem own_at_Row {w : World} {a : Option Addr} {n c : Nat} {xs : List Row} {B : List Nat} (h : Own w (.sl sRow) [.slice a n c] (.l (xs.map Row.dat)) B) {j : Nat} (hj : j < n) :
    ∃ (b : Nat) (arr : Array Value) (T : TypeId) (x : Row), a = some ⟨b, 0, none⟩ ∧ B = [b] ∧ n = xs.length ∧ xs[j]? = some x ∧ w.heap[b]? = some (.cells arr T (0, 0)) ∧ j * 10 + 10 ≤ arr.size ∧ (∀ i v, x.cells[i]? = some v → arr[j * 10 + i]? = some v) ∧
      ∀ (w' : World) (arr' : Array Value) (y : Row), w'.heap[b]? = some (.cells arr' T (0, 0)) → arr'.size = arr.size → (∀ i, ¬ (j * 10 ≤ i ∧ i < j * 10 + 10) → arr'[i]? = arr[i]?) → (∀ i v, y.cells[i]? = some v → arr'[j * 10 + i]? = some v) →
        Own w' (.sl sRow) [.slice (some ⟨b, 0, none⟩) n c] (.l ((xs.set j y).map Row.dat)) [b] := by
  obtain ⟨b, arr, T, x, h1, h2, h3, h4, h5, h6, h7, h8, h9⟩ := own_at (cells := Row.cells) (dat := Row.dat) (sch := sRow) (k := 10) rfl (by decide) (by decide) (fun _ => rfl) (fun _ _ _ _ h => rd_Row h) (fun _ _ h => Row.dat_inj h) (fun w x => own_Row_mk w x) h hj
  exact ⟨b, arr, T, x, h1, h2, h3, h4, h5, h6, fun i v hv => by rw [← cell_blk h5]; exact h7 i v hv, h9⟩
theorem own_Gwy_one {w : World} {a0 : Option Addr} {n0 c0 : Nat} {xs0 : List Row} {B : List Nat} (h : Own w sGwy [.slice a0 n0 c0] (gwyDat xs0) B) : Own w (.sl sRow) [.slice a0 n0 c0] (.l (xs0.map Row.dat)) B := by
  have L := own_st (show Own w (.st [.sl sRow]) [.slice a0 n0 c0] (.s [.l (xs0.map Row.dat)]) B from h)
  obtain ⟨B0, R0, rfl, O0, L⟩ := ownL_sl L
  obtain rfl : R0 = [] := by unfold OwnL at L; exact L.2.2
  simpa using O0
theorem own_Gwy_of {w : World} {a0 : Option Addr} {n0 c0 : Nat} {xs0 : List Row} {B0 : List Nat} (h0 : Own w (.sl sRow) [.slice a0 n0 c0] (.l (xs0.map Row.dat)) B0) : Own w sGwy [.slice a0 n0 c0] (gwyDat xs0) B0 := by
  have := own_st_mk (ownL_mk h0 ownL_nil)
  simpa [sGwy, gwyDat] using this
theorem own_Gwy_nil (w : World) : Own w sGwy [.slice none 0 0] (gwyDat []) [] :=
  own_Gwy_of (own_flat_mk (xs := []) (k := 10) rfl (fun w x => own_Row_mk w x) (Nat.zero_le _) (.inl ⟨rfl, rfl⟩))

end Go.Proofs.Ytnfodkhfoegnaaa
