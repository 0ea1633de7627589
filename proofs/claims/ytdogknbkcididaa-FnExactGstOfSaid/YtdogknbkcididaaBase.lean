/- Base vocabulary: a world after calls that only add blocks ('ext'), and a region that draws its order, walked once in the order of the text, whose calls may add blocks. -/
import Derived.Test.YtdogknbkcididaaRows
import Derived.WalkKit
import Derived.WalkSpells
import Derived.Deep.QuietTactic
import Derived.BigQuiet
namespace Go.Proofs.Ytdogknbkcididaa
open Go.RowKit

theorem hid {p : Prop} (h : p) : Hid p := h
structure Xt where
  bs : Array Obj
  n : Nat
deriving Inhabited
def Xt.add (t s : Xt) : Xt := ⟨t.bs ++ s.bs, s.n⟩
/-- The world with blocks added behind its own, and some draws. -/
def ext (w : World) (t : Xt) : World := { w with heap := w.heap ++ t.bs, drawn := t.n }

@[go_sem high] theorem lt_add_r (a b k : Nat) (h : a < b) : (a < b + k) = True := by simp; omega
@[go_sem high] theorem lt_add_r2 (a b k0 k1 : Nat) (h : a < b) : (a < b + k0 + k1) = True := by simp only [eq_iff_iff, iff_true]; omega
@[go_sem high] theorem lt_add_r3 (a b k0 k1 k2 : Nat) (h : a < b) : (a < b + k0 + k1 + k2) = True := by simp only [eq_iff_iff, iff_true]; omega
@[go_sem high] theorem lt_add_r4 (a b k0 k1 k2 k3 : Nat) (h : a < b) : (a < b + k0 + k1 + k2 + k3) = True := by simp only [eq_iff_iff, iff_true]; omega
@[go_sem high] theorem lt_add_r5 (a b k0 k1 k2 k3 k4 : Nat) (h : a < b) : (a < b + k0 + k1 + k2 + k3 + k4) = True := by simp only [eq_iff_iff, iff_true]; omega
@[go_sem high] theorem lt_add_r6 (a b k0 k1 k2 k3 k4 k5 : Nat) (h : a < b) : (a < b + k0 + k1 + k2 + k3 + k4 + k5) = True := by simp only [eq_iff_iff, iff_true]; omega
@[go_sem high] theorem lt_add_r7 (a b k0 k1 k2 k3 k4 k5 k6 : Nat) (h : a < b) : (a < b + k0 + k1 + k2 + k3 + k4 + k5 + k6) = True := by simp only [eq_iff_iff, iff_true]; omega
@[go_sem high] theorem lt_add_r8 (a b k0 k1 k2 k3 k4 k5 k6 k7 : Nat) (h : a < b) : (a < b + k0 + k1 + k2 + k3 + k4 + k5 + k6 + k7) = True := by simp only [eq_iff_iff, iff_true]; omega
@[go_sem high] theorem lt_add_r9 (a b k0 k1 k2 k3 k4 k5 k6 k7 k8 : Nat) (h : a < b) : (a < b + k0 + k1 + k2 + k3 + k4 + k5 + k6 + k7 + k8) = True := by simp only [eq_iff_iff, iff_true]; omega
@[go_sem high] theorem lt_add_r10 (a b k0 k1 k2 k3 k4 k5 k6 k7 k8 k9 : Nat) (h : a < b) : (a < b + k0 + k1 + k2 + k3 + k4 + k5 + k6 + k7 + k8 + k9) = True := by simp only [eq_iff_iff, iff_true]; omega
@[go_sem high] theorem lt_one_r1 (a k0 : Nat) : (a < a + 1 + k0) = True := by simp only [eq_iff_iff, iff_true]; omega
@[go_sem high] theorem lt_one_r2 (a k0 k1 : Nat) : (a < a + 1 + k0 + k1) = True := by simp only [eq_iff_iff, iff_true]; omega
@[go_sem high] theorem lt_one_r3 (a k0 k1 k2 : Nat) : (a < a + 1 + k0 + k1 + k2) = True := by simp only [eq_iff_iff, iff_true]; omega
@[go_sem high] theorem lt_one_r4 (a k0 k1 k2 k3 : Nat) : (a < a + 1 + k0 + k1 + k2 + k3) = True := by simp only [eq_iff_iff, iff_true]; omega
@[go_sem high] theorem lt_one_r5 (a k0 k1 k2 k3 k4 : Nat) : (a < a + 1 + k0 + k1 + k2 + k3 + k4) = True := by simp only [eq_iff_iff, iff_true]; omega
@[go_sem high] theorem lt_one_r6 (a k0 k1 k2 k3 k4 k5 : Nat) : (a < a + 1 + k0 + k1 + k2 + k3 + k4 + k5) = True := by simp only [eq_iff_iff, iff_true]; omega
@[go_sem high] theorem lt_one_r7 (a k0 k1 k2 k3 k4 k5 k6 : Nat) : (a < a + 1 + k0 + k1 + k2 + k3 + k4 + k5 + k6) = True := by simp only [eq_iff_iff, iff_true]; omega
@[go_sem high] theorem lt_one_r8 (a k0 k1 k2 k3 k4 k5 k6 k7 : Nat) : (a < a + 1 + k0 + k1 + k2 + k3 + k4 + k5 + k6 + k7) = True := by simp only [eq_iff_iff, iff_true]; omega
@[go_sem high] theorem lt_one_r9 (a k0 k1 k2 k3 k4 k5 k6 k7 k8 : Nat) : (a < a + 1 + k0 + k1 + k2 + k3 + k4 + k5 + k6 + k7 + k8) = True := by simp only [eq_iff_iff, iff_true]; omega
theorem ext_heap (w : World) (t) : (ext w t).heap = w.heap ++ t.bs := rfl
@[go_sem] theorem ext_size (w : World) (t) : (ext w t).heap.size = w.heap.size + t.bs.size := by simp [ext]
theorem ext_block (w : World) (t) (b : Nat) (h : b < w.heap.size) : (ext w t).heap[b]? = w.heap[b]? := by
  simp [ext, Array.getElem?_append, h]
theorem ext_cell (w : World) (t) (a : Addr) (h : a.block < w.heap.size) : (ext w t).cell? a = w.cell? a := by
  simp [World.cell?, ext_block w t a.block h]
theorem ext_frozen (w : World) (t) (a : Addr) (h : a.block < w.heap.size) : (ext w t).frozen? a = w.frozen? a := by
  simp [World.frozen?, ext_block w t a.block h]
@[go_sem] theorem ext_cell' (w : World) (t) (b i : Nat) (h : b < w.heap.size) : (ext w t).cell? ⟨b, i, none⟩ = w.cell? ⟨b, i, none⟩ := ext_cell w t _ h
@[go_sem] theorem ext_frozen' (w : World) (t) (b i : Nat) (h : b < w.heap.size) : (ext w t).frozen? ⟨b, i, none⟩ = w.frozen? ⟨b, i, none⟩ := ext_frozen w t _ h
@[go_sem] theorem ext_setCell (w : World) (t) (b i : Nat) (v : Value) (h : b < w.heap.size) : (ext w t).setCell ⟨b, i, none⟩ v = ext (w.setCell ⟨b, i, none⟩ v) t := by
  simp only [ext, World.setCell]
  congr 1
  apply Array.ext_getElem?
  intro k
  simp only [Array.getElem?_modify, Array.getElem?_append, Array.size_modify]
  by_cases hk : b = k
  · subst hk; simp [h]
  · simp [hk]
@[go_sem] theorem ext_ext (w : World) (t s) : ext (ext w t) s = ext w (t.add s) := by
  simp [ext, Xt.add, Array.append_assoc]
@[go_sem] theorem ext_drew (w : World) (t : Xt) : (ext w t).drew = ext w ⟨t.bs, t.n + 1⟩ := rfl
theorem ext_refl (w : World) : ext w ⟨#[], w.drawn⟩ = w := by simp [ext]
theorem drew_ext (w : World) : w.drew = ext w ⟨#[], w.drawn + 1⟩ := by
  show ({ w with drawn := w.drawn + 1 } : World) = { w with heap := w.heap ++ #[], drawn := w.drawn + 1 }
  simp
theorem drewN_ext (w : World) (n : Nat) : w.drewN n = ext w ⟨#[], w.drawn + n⟩ := by
  show ({ w with drawn := w.drawn + n } : World) = { w with heap := w.heap ++ #[], drawn := w.drawn + n }
  simp
theorem alloc_ext (w : World) (o : Obj) : w.alloc o = ext w ⟨#[o], w.drawn⟩ := by
  show ({ w with heap := w.heap.push o } : World) = { w with heap := w.heap ++ #[o], drawn := w.drawn }
  simp

/-- w' is w with blocks added. -/
def Ext (w w' : World) : Prop := ∃ t, w' = ext w t
theorem Ext.refl (w : World) : Ext w w := ⟨_, (ext_refl w).symm⟩
theorem Ext.trans {a b c : World} (h : Ext a b) (k : Ext b c) : Ext a c := by
  obtain ⟨t, rfl⟩ := h; obtain ⟨s, rfl⟩ := k; exact ⟨_, ext_ext _ _ _⟩
theorem Ext.ext {a b : World} (h : Ext a b) (t) : Ext a (ext b t) := h.trans ⟨t, rfl⟩
theorem Ext.add {a w : World} {t s : Xt} (h : Ext a (Go.Proofs.Ytdogknbkcididaa.ext w t)) : Ext a (Go.Proofs.Ytdogknbkcididaa.ext w (t.add s)) := h.trans ⟨s, (ext_ext w t s).symm⟩
theorem Ext.drew {a b : World} (h : Ext a b) : Ext a b.drew := h.trans ⟨_, drew_ext b⟩
theorem Ext.dr {a w : World} {t : Xt} (h : Ext a (Go.Proofs.Ytdogknbkcididaa.ext w t)) : Ext a (Go.Proofs.Ytdogknbkcididaa.ext w ⟨t.bs, t.n + 1⟩) := Ext.drew h
theorem Ext.alloc {a b : World} (h : Ext a b) (o : Obj) : Ext a (b.alloc o) := h.trans ⟨_, alloc_ext b o⟩
theorem Ext.size {a b : World} (h : Ext a b) : a.heap.size ≤ b.heap.size := by
  obtain ⟨t, rfl⟩ := h; simp [ext_size]
theorem Ext.block {a b : World} (h : Ext a b) {k : Nat} (hk : k < a.heap.size) : b.heap[k]? = a.heap[k]? := by
  obtain ⟨t, rfl⟩ := h; exact ext_block _ _ _ hk
theorem Ext.below {a b : World} (h : Ext a b) : Below a.heap.size a b := by
  obtain ⟨t, rfl⟩ := h; exact ⟨rfl, rfl, rfl, by simp [ext_size], fun k hk => ext_block _ _ _ hk⟩

/-- Whatever leaves the old blocks alone is such a world. -/
theorem Ext.of_below {a b : World} (h : Below a.heap.size a b) : Ext a b := by
  refine ⟨⟨b.heap.extract a.heap.size b.heap.size, b.drawn⟩, ?_⟩
  have e : b.heap = a.heap ++ b.heap.extract a.heap.size b.heap.size := by
    apply Array.ext_getElem?
    intro i
    rw [Array.getElem?_append]
    split
    · exact h.block i ‹_›
    · rename_i hi
      rw [Array.getElem?_extract]
      have hs := h.size
      split
      · congr 1; omega
      · rw [Array.getElem?_eq_none (by omega)]
  obtain ⟨h1, t1, d1, o1, u1⟩ := a
  obtain ⟨h2, t2, d2, o2, u2⟩ := b
  obtain ⟨q1, q2, q3, _, _⟩ := h
  simp only at q1 q2 q3 e
  subst q1 q2 q3
  simp only [Go.Proofs.Ytdogknbkcididaa.ext]
  rw [← e]
/-- A region that draws its order, whose operations read and whose calls add blocks: one walk in the order of the text. -/
theorem wp_region_ext {P : Program} {id : Nat} {Q : Exit → Act → World → Prop} {a : Act} {w : World} {l : List Oper} (hm : P.follows .mixedOrders = true) (hB : Region.lexB .any l.toArray = true)
    (h : wpQuiet P l.toArray (fun w' => ∃ t, w' = ext w t) (fun a' => ∀ w', (∃ t, w' = ext w t) → Q .normal a' w') l a) : (Code.region id l.toArray true).wp P Q a w :=
  wp_region_quiet (C := fun w' => ∃ t, w' = ext w t) hm hB ⟨_, drew_ext w⟩ (by simpa using h)

theorem quiet_call {P : Program} {f : FuncId} {args : Array Value} {w : World} {t : Xt} {v : Value}
    (h : Calls P f args (ext w t) fun e w' => e = .returned v ∧ Ext (ext w t) w') : Calls P f args (ext w t) fun e w'' => e = .returned v ∧ ∃ m, w'' = ext w m :=
  h.mono fun _ _ ⟨he, m, hm⟩ => ⟨he, t.add m, by rw [hm, ext_ext]⟩
theorem quiet_call2 {P : Program} {f : FuncId} {args : Array Value} {w : World} {t s : Xt} {v : Value}
    (h : Calls P f args (ext w (t.add s)) fun e w' => e = .returned v ∧ Ext (ext w (t.add s)) w') : Calls P f args (ext w (t.add s)) fun e w'' => e = .returned v ∧ ∃ m, w'' = ext w (t.add m) :=
  h.mono fun _ _ ⟨he, m, hm⟩ => ⟨he, s.add m, by rw [hm, ext_ext]; simp [Xt.add, Array.append_assoc]⟩
theorem quiet_same {P : Program} {f : FuncId} {args : Array Value} {w : World} {t : Xt} {v : Value}
    (h : Calls P f args (ext w t) fun e w' => e = .returned v ∧ ext w t = w') : Calls P f args (ext w t) fun e w'' => e = .returned v ∧ ∃ m, w'' = ext w m :=
  h.mono fun _ _ ⟨he, hm⟩ => ⟨he, t, hm.symm⟩
theorem quiet_same2 {P : Program} {f : FuncId} {args : Array Value} {w : World} {t s : Xt} {v : Value}
    (h : Calls P f args (ext w (t.add s)) fun e w' => e = .returned v ∧ ext w (t.add s) = w') : Calls P f args (ext w (t.add s)) fun e w'' => e = .returned v ∧ ∃ m, w'' = ext w (t.add m) :=
  h.mono fun _ _ ⟨he, hm⟩ => ⟨he, s, hm.symm⟩

/-- Many cells read at once (the walk's own unrolling doubles with each cell). -/
theorem ld_add (b o j : Nat) : (⟨b, o, none⟩ : Addr).add j = ⟨b, o + j, none⟩ := by
  unfold Addr.add; split <;> simp_all
theorem ld_from {P : Program} (w : World) (b o n : Nat) (h : ∀ j, j < n → (w.cell? ⟨b, o + j, none⟩).isSome = true) :
    (loadCellsFrom ⟨b, o, none⟩ 0 n #[]).run P w = .ok ((List.range n).map fun j => (w.cell? ⟨b, o + j, none⟩).getD undef).toArray w := by
  have := run_loadCellsFrom (P := P) w ⟨b, o, none⟩ (fun j => (w.cell? ⟨b, o + j, none⟩).getD undef) n 0 #[] (fun j hj => by
    have := h j hj
    rw [ld_add, Nat.zero_add]
    cases hc : w.cell? ⟨b, o + j, none⟩ with
    | none => rw [hc] at this; cases this
    | some v => rfl)
  simpa using this
@[go_sem ↓ high] theorem ld_5 {P : Program} (w : World) (b o : Nat) (h0 : (w.cell? ⟨b, o, none⟩).isSome = true) (h1 : (w.cell? ⟨b, o + 1, none⟩).isSome = true) (h2 : (w.cell? ⟨b, o + 2, none⟩).isSome = true) (h3 : (w.cell? ⟨b, o + 3, none⟩).isSome = true) (h4 : (w.cell? ⟨b, o + 4, none⟩).isSome = true) : (loadCellsFrom ⟨b, o, none⟩ 0 5 #[]).run P w = .ok #[(w.cell? ⟨b, o, none⟩).getD undef, (w.cell? ⟨b, o + 1, none⟩).getD undef, (w.cell? ⟨b, o + 2, none⟩).getD undef, (w.cell? ⟨b, o + 3, none⟩).getD undef, (w.cell? ⟨b, o + 4, none⟩).getD undef] w :=
  ld_from w b o 5 fun j hj => by
    match j, hj with
    | 0, _ => exact h0
    | 1, _ => exact h1
    | 2, _ => exact h2
    | 3, _ => exact h3
    | 4, _ => exact h4
@[go_sem ↓ high] theorem ldc_5 {P : Program} (w : World) (b o : Nat) (h0 : (w.cell? ⟨b, o, none⟩).isSome = true) (h1 : (w.cell? ⟨b, o + 1, none⟩).isSome = true) (h2 : (w.cell? ⟨b, o + 2, none⟩).isSome = true) (h3 : (w.cell? ⟨b, o + 3, none⟩).isSome = true) (h4 : (w.cell? ⟨b, o + 4, none⟩).isSome = true) : (loadCells ⟨b, o, none⟩ 5).run P w = .ok #[(w.cell? ⟨b, o, none⟩).getD undef, (w.cell? ⟨b, o + 1, none⟩).getD undef, (w.cell? ⟨b, o + 2, none⟩).getD undef, (w.cell? ⟨b, o + 3, none⟩).getD undef, (w.cell? ⟨b, o + 4, none⟩).getD undef] w := ld_5 w b o h0 h1 h2 h3 h4
@[go_sem ↓ high] theorem ld_6 {P : Program} (w : World) (b o : Nat) (h0 : (w.cell? ⟨b, o, none⟩).isSome = true) (h1 : (w.cell? ⟨b, o + 1, none⟩).isSome = true) (h2 : (w.cell? ⟨b, o + 2, none⟩).isSome = true) (h3 : (w.cell? ⟨b, o + 3, none⟩).isSome = true) (h4 : (w.cell? ⟨b, o + 4, none⟩).isSome = true) (h5 : (w.cell? ⟨b, o + 5, none⟩).isSome = true) : (loadCellsFrom ⟨b, o, none⟩ 0 6 #[]).run P w = .ok #[(w.cell? ⟨b, o, none⟩).getD undef, (w.cell? ⟨b, o + 1, none⟩).getD undef, (w.cell? ⟨b, o + 2, none⟩).getD undef, (w.cell? ⟨b, o + 3, none⟩).getD undef, (w.cell? ⟨b, o + 4, none⟩).getD undef, (w.cell? ⟨b, o + 5, none⟩).getD undef] w :=
  ld_from w b o 6 fun j hj => by
    match j, hj with
    | 0, _ => exact h0
    | 1, _ => exact h1
    | 2, _ => exact h2
    | 3, _ => exact h3
    | 4, _ => exact h4
    | 5, _ => exact h5
@[go_sem ↓ high] theorem ldc_6 {P : Program} (w : World) (b o : Nat) (h0 : (w.cell? ⟨b, o, none⟩).isSome = true) (h1 : (w.cell? ⟨b, o + 1, none⟩).isSome = true) (h2 : (w.cell? ⟨b, o + 2, none⟩).isSome = true) (h3 : (w.cell? ⟨b, o + 3, none⟩).isSome = true) (h4 : (w.cell? ⟨b, o + 4, none⟩).isSome = true) (h5 : (w.cell? ⟨b, o + 5, none⟩).isSome = true) : (loadCells ⟨b, o, none⟩ 6).run P w = .ok #[(w.cell? ⟨b, o, none⟩).getD undef, (w.cell? ⟨b, o + 1, none⟩).getD undef, (w.cell? ⟨b, o + 2, none⟩).getD undef, (w.cell? ⟨b, o + 3, none⟩).getD undef, (w.cell? ⟨b, o + 4, none⟩).getD undef, (w.cell? ⟨b, o + 5, none⟩).getD undef] w := ld_6 w b o h0 h1 h2 h3 h4 h5
@[go_sem ↓ high] theorem ld_7 {P : Program} (w : World) (b o : Nat) (h0 : (w.cell? ⟨b, o, none⟩).isSome = true) (h1 : (w.cell? ⟨b, o + 1, none⟩).isSome = true) (h2 : (w.cell? ⟨b, o + 2, none⟩).isSome = true) (h3 : (w.cell? ⟨b, o + 3, none⟩).isSome = true) (h4 : (w.cell? ⟨b, o + 4, none⟩).isSome = true) (h5 : (w.cell? ⟨b, o + 5, none⟩).isSome = true) (h6 : (w.cell? ⟨b, o + 6, none⟩).isSome = true) : (loadCellsFrom ⟨b, o, none⟩ 0 7 #[]).run P w = .ok #[(w.cell? ⟨b, o, none⟩).getD undef, (w.cell? ⟨b, o + 1, none⟩).getD undef, (w.cell? ⟨b, o + 2, none⟩).getD undef, (w.cell? ⟨b, o + 3, none⟩).getD undef, (w.cell? ⟨b, o + 4, none⟩).getD undef, (w.cell? ⟨b, o + 5, none⟩).getD undef, (w.cell? ⟨b, o + 6, none⟩).getD undef] w :=
  ld_from w b o 7 fun j hj => by
    match j, hj with
    | 0, _ => exact h0
    | 1, _ => exact h1
    | 2, _ => exact h2
    | 3, _ => exact h3
    | 4, _ => exact h4
    | 5, _ => exact h5
    | 6, _ => exact h6
@[go_sem ↓ high] theorem ldc_7 {P : Program} (w : World) (b o : Nat) (h0 : (w.cell? ⟨b, o, none⟩).isSome = true) (h1 : (w.cell? ⟨b, o + 1, none⟩).isSome = true) (h2 : (w.cell? ⟨b, o + 2, none⟩).isSome = true) (h3 : (w.cell? ⟨b, o + 3, none⟩).isSome = true) (h4 : (w.cell? ⟨b, o + 4, none⟩).isSome = true) (h5 : (w.cell? ⟨b, o + 5, none⟩).isSome = true) (h6 : (w.cell? ⟨b, o + 6, none⟩).isSome = true) : (loadCells ⟨b, o, none⟩ 7).run P w = .ok #[(w.cell? ⟨b, o, none⟩).getD undef, (w.cell? ⟨b, o + 1, none⟩).getD undef, (w.cell? ⟨b, o + 2, none⟩).getD undef, (w.cell? ⟨b, o + 3, none⟩).getD undef, (w.cell? ⟨b, o + 4, none⟩).getD undef, (w.cell? ⟨b, o + 5, none⟩).getD undef, (w.cell? ⟨b, o + 6, none⟩).getD undef] w := ld_7 w b o h0 h1 h2 h3 h4 h5 h6
@[go_sem ↓ high] theorem ld_8 {P : Program} (w : World) (b o : Nat) (h0 : (w.cell? ⟨b, o, none⟩).isSome = true) (h1 : (w.cell? ⟨b, o + 1, none⟩).isSome = true) (h2 : (w.cell? ⟨b, o + 2, none⟩).isSome = true) (h3 : (w.cell? ⟨b, o + 3, none⟩).isSome = true) (h4 : (w.cell? ⟨b, o + 4, none⟩).isSome = true) (h5 : (w.cell? ⟨b, o + 5, none⟩).isSome = true) (h6 : (w.cell? ⟨b, o + 6, none⟩).isSome = true) (h7 : (w.cell? ⟨b, o + 7, none⟩).isSome = true) : (loadCellsFrom ⟨b, o, none⟩ 0 8 #[]).run P w = .ok #[(w.cell? ⟨b, o, none⟩).getD undef, (w.cell? ⟨b, o + 1, none⟩).getD undef, (w.cell? ⟨b, o + 2, none⟩).getD undef, (w.cell? ⟨b, o + 3, none⟩).getD undef, (w.cell? ⟨b, o + 4, none⟩).getD undef, (w.cell? ⟨b, o + 5, none⟩).getD undef, (w.cell? ⟨b, o + 6, none⟩).getD undef, (w.cell? ⟨b, o + 7, none⟩).getD undef] w :=
  ld_from w b o 8 fun j hj => by
    match j, hj with
    | 0, _ => exact h0
    | 1, _ => exact h1
    | 2, _ => exact h2
    | 3, _ => exact h3
    | 4, _ => exact h4
    | 5, _ => exact h5
    | 6, _ => exact h6
    | 7, _ => exact h7
@[go_sem ↓ high] theorem ldc_8 {P : Program} (w : World) (b o : Nat) (h0 : (w.cell? ⟨b, o, none⟩).isSome = true) (h1 : (w.cell? ⟨b, o + 1, none⟩).isSome = true) (h2 : (w.cell? ⟨b, o + 2, none⟩).isSome = true) (h3 : (w.cell? ⟨b, o + 3, none⟩).isSome = true) (h4 : (w.cell? ⟨b, o + 4, none⟩).isSome = true) (h5 : (w.cell? ⟨b, o + 5, none⟩).isSome = true) (h6 : (w.cell? ⟨b, o + 6, none⟩).isSome = true) (h7 : (w.cell? ⟨b, o + 7, none⟩).isSome = true) : (loadCells ⟨b, o, none⟩ 8).run P w = .ok #[(w.cell? ⟨b, o, none⟩).getD undef, (w.cell? ⟨b, o + 1, none⟩).getD undef, (w.cell? ⟨b, o + 2, none⟩).getD undef, (w.cell? ⟨b, o + 3, none⟩).getD undef, (w.cell? ⟨b, o + 4, none⟩).getD undef, (w.cell? ⟨b, o + 5, none⟩).getD undef, (w.cell? ⟨b, o + 6, none⟩).getD undef, (w.cell? ⟨b, o + 7, none⟩).getD undef] w := ld_8 w b o h0 h1 h2 h3 h4 h5 h6 h7
@[go_sem ↓ high] theorem ld_16 {P : Program} (w : World) (b o : Nat) (h0 : (w.cell? ⟨b, o, none⟩).isSome = true) (h1 : (w.cell? ⟨b, o + 1, none⟩).isSome = true) (h2 : (w.cell? ⟨b, o + 2, none⟩).isSome = true) (h3 : (w.cell? ⟨b, o + 3, none⟩).isSome = true) (h4 : (w.cell? ⟨b, o + 4, none⟩).isSome = true) (h5 : (w.cell? ⟨b, o + 5, none⟩).isSome = true) (h6 : (w.cell? ⟨b, o + 6, none⟩).isSome = true) (h7 : (w.cell? ⟨b, o + 7, none⟩).isSome = true) (h8 : (w.cell? ⟨b, o + 8, none⟩).isSome = true) (h9 : (w.cell? ⟨b, o + 9, none⟩).isSome = true) (h10 : (w.cell? ⟨b, o + 10, none⟩).isSome = true) (h11 : (w.cell? ⟨b, o + 11, none⟩).isSome = true) (h12 : (w.cell? ⟨b, o + 12, none⟩).isSome = true) (h13 : (w.cell? ⟨b, o + 13, none⟩).isSome = true) (h14 : (w.cell? ⟨b, o + 14, none⟩).isSome = true) (h15 : (w.cell? ⟨b, o + 15, none⟩).isSome = true) : (loadCellsFrom ⟨b, o, none⟩ 0 16 #[]).run P w = .ok #[(w.cell? ⟨b, o, none⟩).getD undef, (w.cell? ⟨b, o + 1, none⟩).getD undef, (w.cell? ⟨b, o + 2, none⟩).getD undef, (w.cell? ⟨b, o + 3, none⟩).getD undef, (w.cell? ⟨b, o + 4, none⟩).getD undef, (w.cell? ⟨b, o + 5, none⟩).getD undef, (w.cell? ⟨b, o + 6, none⟩).getD undef, (w.cell? ⟨b, o + 7, none⟩).getD undef, (w.cell? ⟨b, o + 8, none⟩).getD undef, (w.cell? ⟨b, o + 9, none⟩).getD undef, (w.cell? ⟨b, o + 10, none⟩).getD undef, (w.cell? ⟨b, o + 11, none⟩).getD undef, (w.cell? ⟨b, o + 12, none⟩).getD undef, (w.cell? ⟨b, o + 13, none⟩).getD undef, (w.cell? ⟨b, o + 14, none⟩).getD undef, (w.cell? ⟨b, o + 15, none⟩).getD undef] w :=
  ld_from w b o 16 fun j hj => by
    match j, hj with
    | 0, _ => exact h0
    | 1, _ => exact h1
    | 2, _ => exact h2
    | 3, _ => exact h3
    | 4, _ => exact h4
    | 5, _ => exact h5
    | 6, _ => exact h6
    | 7, _ => exact h7
    | 8, _ => exact h8
    | 9, _ => exact h9
    | 10, _ => exact h10
    | 11, _ => exact h11
    | 12, _ => exact h12
    | 13, _ => exact h13
    | 14, _ => exact h14
    | 15, _ => exact h15
    | q + 16, hq => exact absurd hq (by omega)
@[go_sem ↓ high] theorem ldc_16 {P : Program} (w : World) (b o : Nat) (h0 : (w.cell? ⟨b, o, none⟩).isSome = true) (h1 : (w.cell? ⟨b, o + 1, none⟩).isSome = true) (h2 : (w.cell? ⟨b, o + 2, none⟩).isSome = true) (h3 : (w.cell? ⟨b, o + 3, none⟩).isSome = true) (h4 : (w.cell? ⟨b, o + 4, none⟩).isSome = true) (h5 : (w.cell? ⟨b, o + 5, none⟩).isSome = true) (h6 : (w.cell? ⟨b, o + 6, none⟩).isSome = true) (h7 : (w.cell? ⟨b, o + 7, none⟩).isSome = true) (h8 : (w.cell? ⟨b, o + 8, none⟩).isSome = true) (h9 : (w.cell? ⟨b, o + 9, none⟩).isSome = true) (h10 : (w.cell? ⟨b, o + 10, none⟩).isSome = true) (h11 : (w.cell? ⟨b, o + 11, none⟩).isSome = true) (h12 : (w.cell? ⟨b, o + 12, none⟩).isSome = true) (h13 : (w.cell? ⟨b, o + 13, none⟩).isSome = true) (h14 : (w.cell? ⟨b, o + 14, none⟩).isSome = true) (h15 : (w.cell? ⟨b, o + 15, none⟩).isSome = true) : (loadCells ⟨b, o, none⟩ 16).run P w = .ok #[(w.cell? ⟨b, o, none⟩).getD undef, (w.cell? ⟨b, o + 1, none⟩).getD undef, (w.cell? ⟨b, o + 2, none⟩).getD undef, (w.cell? ⟨b, o + 3, none⟩).getD undef, (w.cell? ⟨b, o + 4, none⟩).getD undef, (w.cell? ⟨b, o + 5, none⟩).getD undef, (w.cell? ⟨b, o + 6, none⟩).getD undef, (w.cell? ⟨b, o + 7, none⟩).getD undef, (w.cell? ⟨b, o + 8, none⟩).getD undef, (w.cell? ⟨b, o + 9, none⟩).getD undef, (w.cell? ⟨b, o + 10, none⟩).getD undef, (w.cell? ⟨b, o + 11, none⟩).getD undef, (w.cell? ⟨b, o + 12, none⟩).getD undef, (w.cell? ⟨b, o + 13, none⟩).getD undef, (w.cell? ⟨b, o + 14, none⟩).getD undef, (w.cell? ⟨b, o + 15, none⟩).getD undef] w := ld_16 w b o h0 h1 h2 h3 h4 h5 h6 h7 h8 h9 h10 h11 h12 h13 h14 h15
@[go_sem ↓ high] theorem ld_25 {P : Program} (w : World) (b o : Nat) (h0 : (w.cell? ⟨b, o, none⟩).isSome = true) (h1 : (w.cell? ⟨b, o + 1, none⟩).isSome = true) (h2 : (w.cell? ⟨b, o + 2, none⟩).isSome = true) (h3 : (w.cell? ⟨b, o + 3, none⟩).isSome = true) (h4 : (w.cell? ⟨b, o + 4, none⟩).isSome = true) (h5 : (w.cell? ⟨b, o + 5, none⟩).isSome = true) (h6 : (w.cell? ⟨b, o + 6, none⟩).isSome = true) (h7 : (w.cell? ⟨b, o + 7, none⟩).isSome = true) (h8 : (w.cell? ⟨b, o + 8, none⟩).isSome = true) (h9 : (w.cell? ⟨b, o + 9, none⟩).isSome = true) (h10 : (w.cell? ⟨b, o + 10, none⟩).isSome = true) (h11 : (w.cell? ⟨b, o + 11, none⟩).isSome = true) (h12 : (w.cell? ⟨b, o + 12, none⟩).isSome = true) (h13 : (w.cell? ⟨b, o + 13, none⟩).isSome = true) (h14 : (w.cell? ⟨b, o + 14, none⟩).isSome = true) (h15 : (w.cell? ⟨b, o + 15, none⟩).isSome = true) (h16 : (w.cell? ⟨b, o + 16, none⟩).isSome = true) (h17 : (w.cell? ⟨b, o + 17, none⟩).isSome = true) (h18 : (w.cell? ⟨b, o + 18, none⟩).isSome = true) (h19 : (w.cell? ⟨b, o + 19, none⟩).isSome = true) (h20 : (w.cell? ⟨b, o + 20, none⟩).isSome = true) (h21 : (w.cell? ⟨b, o + 21, none⟩).isSome = true) (h22 : (w.cell? ⟨b, o + 22, none⟩).isSome = true) (h23 : (w.cell? ⟨b, o + 23, none⟩).isSome = true) (h24 : (w.cell? ⟨b, o + 24, none⟩).isSome = true) : (loadCellsFrom ⟨b, o, none⟩ 0 25 #[]).run P w = .ok #[(w.cell? ⟨b, o, none⟩).getD undef, (w.cell? ⟨b, o + 1, none⟩).getD undef, (w.cell? ⟨b, o + 2, none⟩).getD undef, (w.cell? ⟨b, o + 3, none⟩).getD undef, (w.cell? ⟨b, o + 4, none⟩).getD undef, (w.cell? ⟨b, o + 5, none⟩).getD undef, (w.cell? ⟨b, o + 6, none⟩).getD undef, (w.cell? ⟨b, o + 7, none⟩).getD undef, (w.cell? ⟨b, o + 8, none⟩).getD undef, (w.cell? ⟨b, o + 9, none⟩).getD undef, (w.cell? ⟨b, o + 10, none⟩).getD undef, (w.cell? ⟨b, o + 11, none⟩).getD undef, (w.cell? ⟨b, o + 12, none⟩).getD undef, (w.cell? ⟨b, o + 13, none⟩).getD undef, (w.cell? ⟨b, o + 14, none⟩).getD undef, (w.cell? ⟨b, o + 15, none⟩).getD undef, (w.cell? ⟨b, o + 16, none⟩).getD undef, (w.cell? ⟨b, o + 17, none⟩).getD undef, (w.cell? ⟨b, o + 18, none⟩).getD undef, (w.cell? ⟨b, o + 19, none⟩).getD undef, (w.cell? ⟨b, o + 20, none⟩).getD undef, (w.cell? ⟨b, o + 21, none⟩).getD undef, (w.cell? ⟨b, o + 22, none⟩).getD undef, (w.cell? ⟨b, o + 23, none⟩).getD undef, (w.cell? ⟨b, o + 24, none⟩).getD undef] w :=
  ld_from w b o 25 fun j hj => by
    match j, hj with
    | 0, _ => exact h0
    | 1, _ => exact h1
    | 2, _ => exact h2
    | 3, _ => exact h3
    | 4, _ => exact h4
    | 5, _ => exact h5
    | 6, _ => exact h6
    | 7, _ => exact h7
    | 8, _ => exact h8
    | 9, _ => exact h9
    | 10, _ => exact h10
    | 11, _ => exact h11
    | 12, _ => exact h12
    | 13, _ => exact h13
    | 14, _ => exact h14
    | 15, _ => exact h15
    | 16, _ => exact h16
    | 17, _ => exact h17
    | 18, _ => exact h18
    | 19, _ => exact h19
    | 20, _ => exact h20
    | 21, _ => exact h21
    | 22, _ => exact h22
    | 23, _ => exact h23
    | 24, _ => exact h24
    | q + 25, hq => exact absurd hq (by omega)
@[go_sem ↓ high] theorem ldc_25 {P : Program} (w : World) (b o : Nat) (h0 : (w.cell? ⟨b, o, none⟩).isSome = true) (h1 : (w.cell? ⟨b, o + 1, none⟩).isSome = true) (h2 : (w.cell? ⟨b, o + 2, none⟩).isSome = true) (h3 : (w.cell? ⟨b, o + 3, none⟩).isSome = true) (h4 : (w.cell? ⟨b, o + 4, none⟩).isSome = true) (h5 : (w.cell? ⟨b, o + 5, none⟩).isSome = true) (h6 : (w.cell? ⟨b, o + 6, none⟩).isSome = true) (h7 : (w.cell? ⟨b, o + 7, none⟩).isSome = true) (h8 : (w.cell? ⟨b, o + 8, none⟩).isSome = true) (h9 : (w.cell? ⟨b, o + 9, none⟩).isSome = true) (h10 : (w.cell? ⟨b, o + 10, none⟩).isSome = true) (h11 : (w.cell? ⟨b, o + 11, none⟩).isSome = true) (h12 : (w.cell? ⟨b, o + 12, none⟩).isSome = true) (h13 : (w.cell? ⟨b, o + 13, none⟩).isSome = true) (h14 : (w.cell? ⟨b, o + 14, none⟩).isSome = true) (h15 : (w.cell? ⟨b, o + 15, none⟩).isSome = true) (h16 : (w.cell? ⟨b, o + 16, none⟩).isSome = true) (h17 : (w.cell? ⟨b, o + 17, none⟩).isSome = true) (h18 : (w.cell? ⟨b, o + 18, none⟩).isSome = true) (h19 : (w.cell? ⟨b, o + 19, none⟩).isSome = true) (h20 : (w.cell? ⟨b, o + 20, none⟩).isSome = true) (h21 : (w.cell? ⟨b, o + 21, none⟩).isSome = true) (h22 : (w.cell? ⟨b, o + 22, none⟩).isSome = true) (h23 : (w.cell? ⟨b, o + 23, none⟩).isSome = true) (h24 : (w.cell? ⟨b, o + 24, none⟩).isSome = true) : (loadCells ⟨b, o, none⟩ 25).run P w = .ok #[(w.cell? ⟨b, o, none⟩).getD undef, (w.cell? ⟨b, o + 1, none⟩).getD undef, (w.cell? ⟨b, o + 2, none⟩).getD undef, (w.cell? ⟨b, o + 3, none⟩).getD undef, (w.cell? ⟨b, o + 4, none⟩).getD undef, (w.cell? ⟨b, o + 5, none⟩).getD undef, (w.cell? ⟨b, o + 6, none⟩).getD undef, (w.cell? ⟨b, o + 7, none⟩).getD undef, (w.cell? ⟨b, o + 8, none⟩).getD undef, (w.cell? ⟨b, o + 9, none⟩).getD undef, (w.cell? ⟨b, o + 10, none⟩).getD undef, (w.cell? ⟨b, o + 11, none⟩).getD undef, (w.cell? ⟨b, o + 12, none⟩).getD undef, (w.cell? ⟨b, o + 13, none⟩).getD undef, (w.cell? ⟨b, o + 14, none⟩).getD undef, (w.cell? ⟨b, o + 15, none⟩).getD undef, (w.cell? ⟨b, o + 16, none⟩).getD undef, (w.cell? ⟨b, o + 17, none⟩).getD undef, (w.cell? ⟨b, o + 18, none⟩).getD undef, (w.cell? ⟨b, o + 19, none⟩).getD undef, (w.cell? ⟨b, o + 20, none⟩).getD undef, (w.cell? ⟨b, o + 21, none⟩).getD undef, (w.cell? ⟨b, o + 22, none⟩).getD undef, (w.cell? ⟨b, o + 23, none⟩).getD undef, (w.cell? ⟨b, o + 24, none⟩).getD undef] w := ld_25 w b o h0 h1 h2 h3 h4 h5 h6 h7 h8 h9 h10 h11 h12 h13 h14 h15 h16 h17 h18 h19 h20 h21 h22 h23 h24
end Go.Proofs.Ytdogknbkcididaa
