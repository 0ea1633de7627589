/- Packed texts: Base, Rep, Frame, Types, Eq, Scal, Ok, Mem, Seg, St, SegT, FlowJ, GapL, App, Rd, DrawA, FlowD, AppZ, Row, FlowK, Dw, DrawW -/
import Derived.Test.YtbbpipbemhggdaaRows
import Derived.WalkKit
import Derived.WalkSpells
import Derived.Deep.QuietTactic
import Derived.BigQuiet
import Derived.ProofKit
import Derived.OpenShut
import Derived.Deep.Slices
import Derived.Deep.DeepAppendWide
import Derived.Deep.Upon
import Derived.Deep.RegionHeld
import Derived.Deep.AppendSrc
import Derived.Laws.Bits64
namespace Go.Proofs.Ytbbpipbemhggdaa
open Go.RowKit

theorem zq0 {p : Prop} (h : p := by ((try simp only [ext_drew]); (try simp only [ext_ext]); repeat (first | exact Ext.refl _ | with_reducible apply Ext.add | with_reducible apply Ext.dr | apply Ext.alloc | apply Ext.ext | apply Ext.drew | refine Ext.trans ?_ (by assumption)))) : p := h
theorem zq1 {p : Prop} (h : p := by repeat (first | with_reducible exact Chg.refl _ _ | with_reducible apply Chg.drew | with_reducible apply Chg.drewl | with_reducible refine Chg.turn (by simp) | with_reducible refine Chg.both ?_ (by simp) | (with_reducible refine Chg.set ?_ (by simp) _) | with_reducible apply Chg.alloc | with_reducible apply Chg.ext)) : p := h
theorem zq2 {p : Prop} (h : p := by repeat (first | with_reducible exact Chg.refl _ _ | with_reducible apply Chg.drew | (with_reducible refine Chg.extR ?_ (by simp)) | (with_reducible refine Chg.set ?_ (by simp) _) | with_reducible apply Chg.alloc | with_reducible apply Chg.ext | with_reducible refine Chg.trans ?_ (Hid.out (by assumption)))) : p := h
theorem zq3 {p : Prop} (h : p := by repeat (first | exact alloc_last (by (try simp [go_sem]) <;> (try simp [Xt.add]) <;> omega) | with_reducible refine blk_alloc ?_ | with_reducible refine blk_ext ?_ | with_reducible apply blk_drew)) : p := h
theorem hid {p : Prop} (h : p) : Hid p := h
structure Xt where
  bs : Array Obj
  n : Nat
deriving Inhabited
def Xt.add (t s : Xt) : Xt := ⟨t.bs ++ s.bs, s.n⟩
/-- The world with blocks added behind its own, and some draws. -/
def ext (w : World) (t : Xt) : World := { w with heap := w.heap ++ t.bs, drawn := t.n }

@[go_sem high] theorem lt_add_r (a b k : Nat) (h : a < b) : (a < b + k) = True := by simp; omega
@[go_sem high] theorem lt_add_r2 (a b k0 k1 : Nat) (h : a < b) : (a < b + k0 + k1) = True := by simp only [eq_iff_iff, iff_true]; omega
@[go_sem high] theorem lt_add_r3 (a b k0 k1 k2 : Nat) (h : a < b) : (a < b + k0 + k1 + k2) = True := by simp only [eq_iff_iff, iff_true]; omega
@[go_sem high] theorem lt_add_r4 (a b k0 k1 k2 k3 : Nat) (h : a < b) : (a < b + k0 + k1 + k2 + k3) = True := by simp only [eq_iff_iff, iff_true]; omega
@[go_sem high] theorem lt_add_r5 (a b k0 k1 k2 k3 k4 : Nat) (h : a < b) : (a < b + k0 + k1 + k2 + k3 + k4) = True := by simp only [eq_iff_iff, iff_true]; omega
@[go_sem high] theorem lt_add_r6 (a b k0 k1 k2 k3 k4 k5 : Nat) (h : a < b) : (a < b + k0 + k1 + k2 + k3 + k4 + k5) = True := by simp only [eq_iff_iff, iff_true]; omega
@[go_sem high] theorem lt_add_r7 (a b k0 k1 k2 k3 k4 k5 k6 : Nat) (h : a < b) : (a < b + k0 + k1 + k2 + k3 + k4 + k5 + k6) = True := by simp only [eq_iff_iff, iff_true]; omega
@[go_sem high] theorem lt_add_r8 (a b k0 k1 k2 k3 k4 k5 k6 k7 : Nat) (h : a < b) : (a < b + k0 + k1 + k2 + k3 + k4 + k5 + k6 + k7) = True := by simp only [eq_iff_iff, iff_true]; omega
@[go_sem high] theorem lt_add_r9 (a b k0 k1 k2 k3 k4 k5 k6 k7 k8 : Nat) (h : a < b) : (a < b + k0 + k1 + k2 + k3 + k4 + k5 + k6 + k7 + k8) = True := by simp only [eq_iff_iff, iff_true]; omega
@[go_sem high] theorem lt_add_r10 (a b k0 k1 k2 k3 k4 k5 k6 k7 k8 k9 : Nat) (h : a < b) : (a < b + k0 + k1 + k2 + k3 + k4 + k5 + k6 + k7 + k8 + k9) = True := by simp only [eq_iff_iff, iff_true]; omega
@[go_sem high] theorem lt_one_r1 (a k0 : Nat) : (a < a + 1 + k0) = True := by simp only [eq_iff_iff, iff_true]; omega
@[go_sem high] theorem lt_one_r2 (a k0 k1 : Nat) : (a < a + 1 + k0 + k1) = True := by simp only [eq_iff_iff, iff_true]; omega
@[go_sem high] theorem lt_one_r3 (a k0 k1 k2 : Nat) : (a < a + 1 + k0 + k1 + k2) = True := by simp only [eq_iff_iff, iff_true]; omega
@[go_sem high] theorem lt_one_r4 (a k0 k1 k2 k3 : Nat) : (a < a + 1 + k0 + k1 + k2 + k3) = True := by simp only [eq_iff_iff, iff_true]; omega
@[go_sem high] theorem lt_one_r5 (a k0 k1 k2 k3 k4 : Nat) : (a < a + 1 + k0 + k1 + k2 + k3 + k4) = True := by simp only [eq_iff_iff, iff_true]; omega
@[go_sem high] theorem lt_one_r6 (a k0 k1 k2 k3 k4 k5 : Nat) : (a < a + 1 + k0 + k1 + k2 + k3 + k4 + k5) = True := by simp only [eq_iff_iff, iff_true]; omega
@[go_sem high] theorem lt_one_r7 (a k0 k1 k2 k3 k4 k5 k6 : Nat) : (a < a + 1 + k0 + k1 + k2 + k3 + k4 + k5 + k6) = True := by simp only [eq_iff_iff, iff_true]; omega
@[go_sem high] theorem lt_one_r8 (a k0 k1 k2 k3 k4 k5 k6 k7 : Nat) : (a < a + 1 + k0 + k1 + k2 + k3 + k4 + k5 + k6 + k7) = True := by simp only [eq_iff_iff, iff_true]; omega
@[go_sem high] theorem lt_one_r9 (a k0 k1 k2 k3 k4 k5 k6 k7 k8 : Nat) : (a < a + 1 + k0 + k1 + k2 + k3 + k4 + k5 + k6 + k7 + k8) = True := by simp only [eq_iff_iff, iff_true]; omega
theorem ext_heap (w : World) (t) : (ext w t).heap = w.heap ++ t.bs := rfl
@[go_sem] theorem ext_size (w : World) (t) : (ext w t).heap.size = w.heap.size + t.bs.size := by simp [ext]
theorem ext_block (w : World) (t) (b : Nat) (h : b < w.heap.size) : (ext w t).heap[b]? = w.heap[b]? := by
  simp [ext, Array.getElem?_append, h]
theorem ext_cell (w : World) (t) (a : Addr) (h : a.block < w.heap.size) : (ext w t).cell? a = w.cell? a := by
  simp [World.cell?, ext_block w t a.block h]
theorem ext_frozen (w : World) (t) (a : Addr) (h : a.block < w.heap.size) : (ext w t).frozen? a = w.frozen? a := by
  simp [World.frozen?, ext_block w t a.block h]
@[go_sem] theorem ext_cell' (w : World) (t) (b i : Nat) (h : b < w.heap.size) : (ext w t).cell? ⟨b, i, none⟩ = w.cell? ⟨b, i, none⟩ := ext_cell w t _ h
@[go_sem] theorem ext_frozen' (w : World) (t) (b i : Nat) (h : b < w.heap.size) : (ext w t).frozen? ⟨b, i, none⟩ = w.frozen? ⟨b, i, none⟩ := ext_frozen w t _ h
@[go_sem] theorem ext_setCell (w : World) (t) (b i : Nat) (v : Value) (h : b < w.heap.size) : (ext w t).setCell ⟨b, i, none⟩ v = ext (w.setCell ⟨b, i, none⟩ v) t := by
  simp only [ext, World.setCell]
  congr 1
  apply Array.ext_getElem?
  intro k
  simp only [Array.getElem?_modify, Array.getElem?_append, Array.size_modify]
  by_cases hk : b = k
  · subst hk; simp [h]
  · simp [hk]
@[go_sem] theorem ext_ext (w : World) (t s) : ext (ext w t) s = ext w (t.add s) := by
  simp [ext, Xt.add, Array.append_assoc]
@[go_sem] theorem ext_drew (w : World) (t : Xt) : (ext w t).drew = ext w ⟨t.bs, t.n + 1⟩ := rfl
theorem ext_refl (w : World) : ext w ⟨#[], w.drawn⟩ = w := by simp [ext]
theorem drew_ext (w : World) : w.drew = ext w ⟨#[], w.drawn + 1⟩ := by
  show ({ w with drawn := w.drawn + 1 } : World) = { w with heap := w.heap ++ #[], drawn := w.drawn + 1 }
  simp
theorem alloc_ext (w : World) (o : Obj) : w.alloc o = ext w ⟨#[o], w.drawn⟩ := by
  show ({ w with heap := w.heap.push o } : World) = { w with heap := w.heap ++ #[o], drawn := w.drawn }
  simp

/-- w' is w with blocks added. -/
def Ext (w w' : World) : Prop := ∃ t, w' = ext w t
theorem Ext.refl (w : World) : Ext w w := ⟨_, (ext_refl w).symm⟩
theorem Ext.trans {a b c : World} (h : Ext a b) (k : Ext b c) : Ext a c := by
  obtain ⟨t, rfl⟩ := h; obtain ⟨s, rfl⟩ := k; exact ⟨_, ext_ext _ _ _⟩
theorem Ext.ext {a b : World} (h : Ext a b) (t) : Ext a (ext b t) := h.trans ⟨t, rfl⟩
theorem Ext.add {a w : World} {t s : Xt} (h : Ext a (Go.Proofs.Ytbbpipbemhggdaa.ext w t)) : Ext a (Go.Proofs.Ytbbpipbemhggdaa.ext w (t.add s)) := h.trans ⟨s, (ext_ext w t s).symm⟩
theorem Ext.drew {a b : World} (h : Ext a b) : Ext a b.drew := h.trans ⟨_, drew_ext b⟩
theorem Ext.dr {a w : World} {t : Xt} (h : Ext a (Go.Proofs.Ytbbpipbemhggdaa.ext w t)) : Ext a (Go.Proofs.Ytbbpipbemhggdaa.ext w ⟨t.bs, t.n + 1⟩) := Ext.drew h
theorem Ext.alloc {a b : World} (h : Ext a b) (o : Obj) : Ext a (b.alloc o) := h.trans ⟨_, alloc_ext b o⟩
theorem Ext.size {a b : World} (h : Ext a b) : a.heap.size ≤ b.heap.size := by
  obtain ⟨t, rfl⟩ := h; simp [ext_size]
theorem Ext.block {a b : World} (h : Ext a b) {k : Nat} (hk : k < a.heap.size) : b.heap[k]? = a.heap[k]? := by
  obtain ⟨t, rfl⟩ := h; exact ext_block _ _ _ hk
theorem Ext.below {a b : World} (h : Ext a b) : Below a.heap.size a b := by
  obtain ⟨t, rfl⟩ := h; exact ⟨rfl, rfl, rfl, by simp [ext_size], fun k hk => ext_block _ _ _ hk⟩

/-- Whatever leaves the old blocks alone is such a world. -/
theorem Ext.of_below {a b : World} (h : Below a.heap.size a b) : Ext a b := by
  refine ⟨⟨b.heap.extract a.heap.size b.heap.size, b.drawn⟩, ?_⟩
  have e : b.heap = a.heap ++ b.heap.extract a.heap.size b.heap.size := by
    apply Array.ext_getElem?
    intro i
    rw [Array.getElem?_append]
    split
    · exact h.block i ‹_›
    · rename_i hi
      rw [Array.getElem?_extract]
      have hs := h.size
      split
      · congr 1; omega
      · rw [Array.getElem?_eq_none (by omega)]
  obtain ⟨h1, t1, d1, o1, u1⟩ := a
  obtain ⟨h2, t2, d2, o2, u2⟩ := b
  obtain ⟨q1, q2, q3, _, _⟩ := h
  simp only at q1 q2 q3 e
  subst q1 q2 q3
  simp only [Go.Proofs.Ytbbpipbemhggdaa.ext]
  rw [← e]
/-- A region that draws its order, whose operations read and whose calls add blocks: one walk in the order of the text. -/
theorem wp_region_ext {P : Program} {id : Nat} {Q : Exit → Act → World → Prop} {a : Act} {w : World} {l : List Oper} (hm : P.follows .mixedOrders = true) (hB : Region.lexB .any l.toArray = true)
    (h : wpQuiet P l.toArray (fun w' => ∃ t, w' = ext w t) (fun a' => ∀ w', (∃ t, w' = ext w t) → Q .normal a' w') l a) : (Code.region id l.toArray true).wp P Q a w :=
  wp_region_quiet (C := fun w' => ∃ t, w' = ext w t) hm hB ⟨_, drew_ext w⟩ (by simpa using h)

theorem quiet_call {P : Program} {f : FuncId} {args : Array Value} {w : World} {t : Xt} {v : Value}
    (h : Calls P f args (ext w t) fun e w' => e = .returned v ∧ Ext (ext w t) w') : Calls P f args (ext w t) fun e w'' => e = .returned v ∧ ∃ m, w'' = ext w m :=
  h.mono fun _ _ ⟨he, m, hm⟩ => ⟨he, t.add m, by rw [hm, ext_ext]⟩
theorem quiet_call2 {P : Program} {f : FuncId} {args : Array Value} {w : World} {t s : Xt} {v : Value}
    (h : Calls P f args (ext w (t.add s)) fun e w' => e = .returned v ∧ Ext (ext w (t.add s)) w') : Calls P f args (ext w (t.add s)) fun e w'' => e = .returned v ∧ ∃ m, w'' = ext w (t.add m) :=
  h.mono fun _ _ ⟨he, m, hm⟩ => ⟨he, s.add m, by rw [hm, ext_ext]; simp [Xt.add, Array.append_assoc]⟩
theorem quiet_same {P : Program} {f : FuncId} {args : Array Value} {w : World} {t : Xt} {v : Value}
    (h : Calls P f args (ext w t) fun e w' => e = .returned v ∧ ext w t = w') : Calls P f args (ext w t) fun e w'' => e = .returned v ∧ ∃ m, w'' = ext w m :=
  h.mono fun _ _ ⟨he, hm⟩ => ⟨he, t, hm.symm⟩
theorem quiet_same2 {P : Program} {f : FuncId} {args : Array Value} {w : World} {t s : Xt} {v : Value}
    (h : Calls P f args (ext w (t.add s)) fun e w' => e = .returned v ∧ ext w (t.add s) = w') : Calls P f args (ext w (t.add s)) fun e w'' => e = .returned v ∧ ∃ m, w'' = ext w (t.add m) :=
  h.mono fun _ _ ⟨he, hm⟩ => ⟨he, s, hm.symm⟩

/-- Many cells read at once (the walk's own unrolling doubles with each cell). -/
theorem ld_add (b o j : Nat) : (⟨b, o, none⟩ : Addr).add j = ⟨b, o + j, none⟩ := by
  unfold Addr.add; split <;> simp_all
theorem ld_from {P : Program} (w : World) (b o n : Nat) (h : ∀ j, j < n → (w.cell? ⟨b, o + j, none⟩).isSome = true) :
    (loadCellsFrom ⟨b, o, none⟩ 0 n #[]).run P w = .ok ((List.range n).map fun j => (w.cell? ⟨b, o + j, none⟩).getD undef).toArray w := by
  have := run_loadCellsFrom (P := P) w ⟨b, o, none⟩ (fun j => (w.cell? ⟨b, o + j, none⟩).getD undef) n 0 #[] (fun j hj => by
    have := h j hj
    rw [ld_add, Nat.zero_add]
    cases hc : w.cell? ⟨b, o + j, none⟩ with
    | none => rw [hc] at this; cases this
    | some v => rfl)
  simpa using this
@[go_sem ↓ high] theorem ld_5 {P : Program} (w : World) (b o : Nat) (h0 : (w.cell? ⟨b, o, none⟩).isSome = true) (h1 : (w.cell? ⟨b, o + 1, none⟩).isSome = true) (h2 : (w.cell? ⟨b, o + 2, none⟩).isSome = true) (h3 : (w.cell? ⟨b, o + 3, none⟩).isSome = true) (h4 : (w.cell? ⟨b, o + 4, none⟩).isSome = true) : (loadCellsFrom ⟨b, o, none⟩ 0 5 #[]).run P w = .ok #[(w.cell? ⟨b, o, none⟩).getD undef, (w.cell? ⟨b, o + 1, none⟩).getD undef, (w.cell? ⟨b, o + 2, none⟩).getD undef, (w.cell? ⟨b, o + 3, none⟩).getD undef, (w.cell? ⟨b, o + 4, none⟩).getD undef] w :=
  ld_from w b o 5 fun j hj => by
    match j, hj with
    | 0, _ => exact h0
    | 1, _ => exact h1
    | 2, _ => exact h2
    | 3, _ => exact h3
    | 4, _ => exact h4
@[go_sem ↓ high] theorem ldc_5 {P : Program} (w : World) (b o : Nat) (h0 : (w.cell? ⟨b, o, none⟩).isSome = true) (h1 : (w.cell? ⟨b, o + 1, none⟩).isSome = true) (h2 : (w.cell? ⟨b, o + 2, none⟩).isSome = true) (h3 : (w.cell? ⟨b, o + 3, none⟩).isSome = true) (h4 : (w.cell? ⟨b, o + 4, none⟩).isSome = true) : (loadCells ⟨b, o, none⟩ 5).run P w = .ok #[(w.cell? ⟨b, o, none⟩).getD undef, (w.cell? ⟨b, o + 1, none⟩).getD undef, (w.cell? ⟨b, o + 2, none⟩).getD undef, (w.cell? ⟨b, o + 3, none⟩).getD undef, (w.cell? ⟨b, o + 4, none⟩).getD undef] w := ld_5 w b o h0 h1 h2 h3 h4
@[go_sem ↓ high] theorem ld_6 {P : Program} (w : World) (b o : Nat) (h0 : (w.cell? ⟨b, o, none⟩).isSome = true) (h1 : (w.cell? ⟨b, o + 1, none⟩).isSome = true) (h2 : (w.cell? ⟨b, o + 2, none⟩).isSome = true) (h3 : (w.cell? ⟨b, o + 3, none⟩).isSome = true) (h4 : (w.cell? ⟨b, o + 4, none⟩).isSome = true) (h5 : (w.cell? ⟨b, o + 5, none⟩).isSome = true) : (loadCellsFrom ⟨b, o, none⟩ 0 6 #[]).run P w = .ok #[(w.cell? ⟨b, o, none⟩).getD undef, (w.cell? ⟨b, o + 1, none⟩).getD undef, (w.cell? ⟨b, o + 2, none⟩).getD undef, (w.cell? ⟨b, o + 3, none⟩).getD undef, (w.cell? ⟨b, o + 4, none⟩).getD undef, (w.cell? ⟨b, o + 5, none⟩).getD undef] w :=
  ld_from w b o 6 fun j hj => by
    match j, hj with
    | 0, _ => exact h0
    | 1, _ => exact h1
    | 2, _ => exact h2
    | 3, _ => exact h3
    | 4, _ => exact h4
    | 5, _ => exact h5
@[go_sem ↓ high] theorem ldc_6 {P : Program} (w : World) (b o : Nat) (h0 : (w.cell? ⟨b, o, none⟩).isSome = true) (h1 : (w.cell? ⟨b, o + 1, none⟩).isSome = true) (h2 : (w.cell? ⟨b, o + 2, none⟩).isSome = true) (h3 : (w.cell? ⟨b, o + 3, none⟩).isSome = true) (h4 : (w.cell? ⟨b, o + 4, none⟩).isSome = true) (h5 : (w.cell? ⟨b, o + 5, none⟩).isSome = true) : (loadCells ⟨b, o, none⟩ 6).run P w = .ok #[(w.cell? ⟨b, o, none⟩).getD undef, (w.cell? ⟨b, o + 1, none⟩).getD undef, (w.cell? ⟨b, o + 2, none⟩).getD undef, (w.cell? ⟨b, o + 3, none⟩).getD undef, (w.cell? ⟨b, o + 4, none⟩).getD undef, (w.cell? ⟨b, o + 5, none⟩).getD undef] w := ld_6 w b o h0 h1 h2 h3 h4 h5
@[go_sem ↓ high] theorem ld_7 {P : Program} (w : World) (b o : Nat) (h0 : (w.cell? ⟨b, o, none⟩).isSome = true) (h1 : (w.cell? ⟨b, o + 1, none⟩).isSome = true) (h2 : (w.cell? ⟨b, o + 2, none⟩).isSome = true) (h3 : (w.cell? ⟨b, o + 3, none⟩).isSome = true) (h4 : (w.cell? ⟨b, o + 4, none⟩).isSome = true) (h5 : (w.cell? ⟨b, o + 5, none⟩).isSome = true) (h6 : (w.cell? ⟨b, o + 6, none⟩).isSome = true) : (loadCellsFrom ⟨b, o, none⟩ 0 7 #[]).run P w = .ok #[(w.cell? ⟨b, o, none⟩).getD undef, (w.cell? ⟨b, o + 1, none⟩).getD undef, (w.cell? ⟨b, o + 2, none⟩).getD undef, (w.cell? ⟨b, o + 3, none⟩).getD undef, (w.cell? ⟨b, o + 4, none⟩).getD undef, (w.cell? ⟨b, o + 5, none⟩).getD undef, (w.cell? ⟨b, o + 6, none⟩).getD undef] w :=
  ld_from w b o 7 fun j hj => by
    match j, hj with
    | 0, _ => exact h0
    | 1, _ => exact h1
    | 2, _ => exact h2
    | 3, _ => exact h3
    | 4, _ => exact h4
    | 5, _ => exact h5
    | 6, _ => exact h6
@[go_sem ↓ high] theorem ldc_7 {P : Program} (w : World) (b o : Nat) (h0 : (w.cell? ⟨b, o, none⟩).isSome = true) (h1 : (w.cell? ⟨b, o + 1, none⟩).isSome = true) (h2 : (w.cell? ⟨b, o + 2, none⟩).isSome = true) (h3 : (w.cell? ⟨b, o + 3, none⟩).isSome = true) (h4 : (w.cell? ⟨b, o + 4, none⟩).isSome = true) (h5 : (w.cell? ⟨b, o + 5, none⟩).isSome = true) (h6 : (w.cell? ⟨b, o + 6, none⟩).isSome = true) : (loadCells ⟨b, o, none⟩ 7).run P w = .ok #[(w.cell? ⟨b, o, none⟩).getD undef, (w.cell? ⟨b, o + 1, none⟩).getD undef, (w.cell? ⟨b, o + 2, none⟩).getD undef, (w.cell? ⟨b, o + 3, none⟩).getD undef, (w.cell? ⟨b, o + 4, none⟩).getD undef, (w.cell? ⟨b, o + 5, none⟩).getD undef, (w.cell? ⟨b, o + 6, none⟩).getD undef] w := ld_7 w b o h0 h1 h2 h3 h4 h5 h6
@[go_sem ↓ high] theorem ld_8 {P : Program} (w : World) (b o : Nat) (h0 : (w.cell? ⟨b, o, none⟩).isSome = true) (h1 : (w.cell? ⟨b, o + 1, none⟩).isSome = true) (h2 : (w.cell? ⟨b, o + 2, none⟩).isSome = true) (h3 : (w.cell? ⟨b, o + 3, none⟩).isSome = true) (h4 : (w.cell? ⟨b, o + 4, none⟩).isSome = true) (h5 : (w.cell? ⟨b, o + 5, none⟩).isSome = true) (h6 : (w.cell? ⟨b, o + 6, none⟩).isSome = true) (h7 : (w.cell? ⟨b, o + 7, none⟩).isSome = true) : (loadCellsFrom ⟨b, o, none⟩ 0 8 #[]).run P w = .ok #[(w.cell? ⟨b, o, none⟩).getD undef, (w.cell? ⟨b, o + 1, none⟩).getD undef, (w.cell? ⟨b, o + 2, none⟩).getD undef, (w.cell? ⟨b, o + 3, none⟩).getD undef, (w.cell? ⟨b, o + 4, none⟩).getD undef, (w.cell? ⟨b, o + 5, none⟩).getD undef, (w.cell? ⟨b, o + 6, none⟩).getD undef, (w.cell? ⟨b, o + 7, none⟩).getD undef] w :=
  ld_from w b o 8 fun j hj => by
    match j, hj with
    | 0, _ => exact h0
    | 1, _ => exact h1
    | 2, _ => exact h2
    | 3, _ => exact h3
    | 4, _ => exact h4
    | 5, _ => exact h5
    | 6, _ => exact h6
    | 7, _ => exact h7
@[go_sem ↓ high] theorem ldc_8 {P : Program} (w : World) (b o : Nat) (h0 : (w.cell? ⟨b, o, none⟩).isSome = true) (h1 : (w.cell? ⟨b, o + 1, none⟩).isSome = true) (h2 : (w.cell? ⟨b, o + 2, none⟩).isSome = true) (h3 : (w.cell? ⟨b, o + 3, none⟩).isSome = true) (h4 : (w.cell? ⟨b, o + 4, none⟩).isSome = true) (h5 : (w.cell? ⟨b, o + 5, none⟩).isSome = true) (h6 : (w.cell? ⟨b, o + 6, none⟩).isSome = true) (h7 : (w.cell? ⟨b, o + 7, none⟩).isSome = true) : (loadCells ⟨b, o, none⟩ 8).run P w = .ok #[(w.cell? ⟨b, o, none⟩).getD undef, (w.cell? ⟨b, o + 1, none⟩).getD undef, (w.cell? ⟨b, o + 2, none⟩).getD undef, (w.cell? ⟨b, o + 3, none⟩).getD undef, (w.cell? ⟨b, o + 4, none⟩).getD undef, (w.cell? ⟨b, o + 5, none⟩).getD undef, (w.cell? ⟨b, o + 6, none⟩).getD undef, (w.cell? ⟨b, o + 7, none⟩).getD undef] w := ld_8 w b o h0 h1 h2 h3 h4 h5 h6 h7
@[go_sem ↓ high] theorem ld_16 {P : Program} (w : World) (b o : Nat) (h0 : (w.cell? ⟨b, o, none⟩).isSome = true) (h1 : (w.cell? ⟨b, o + 1, none⟩).isSome = true) (h2 : (w.cell? ⟨b, o + 2, none⟩).isSome = true) (h3 : (w.cell? ⟨b, o + 3, none⟩).isSome = true) (h4 : (w.cell? ⟨b, o + 4, none⟩).isSome = true) (h5 : (w.cell? ⟨b, o + 5, none⟩).isSome = true) (h6 : (w.cell? ⟨b, o + 6, none⟩).isSome = true) (h7 : (w.cell? ⟨b, o + 7, none⟩).isSome = true) (h8 : (w.cell? ⟨b, o + 8, none⟩).isSome = true) (h9 : (w.cell? ⟨b, o + 9, none⟩).isSome = true) (h10 : (w.cell? ⟨b, o + 10, none⟩).isSome = true) (h11 : (w.cell? ⟨b, o + 11, none⟩).isSome = true) (h12 : (w.cell? ⟨b, o + 12, none⟩).isSome = true) (h13 : (w.cell? ⟨b, o + 13, none⟩).isSome = true) (h14 : (w.cell? ⟨b, o + 14, none⟩).isSome = true) (h15 : (w.cell? ⟨b, o + 15, none⟩).isSome = true) : (loadCellsFrom ⟨b, o, none⟩ 0 16 #[]).run P w = .ok #[(w.cell? ⟨b, o, none⟩).getD undef, (w.cell? ⟨b, o + 1, none⟩).getD undef, (w.cell? ⟨b, o + 2, none⟩).getD undef, (w.cell? ⟨b, o + 3, none⟩).getD undef, (w.cell? ⟨b, o + 4, none⟩).getD undef, (w.cell? ⟨b, o + 5, none⟩).getD undef, (w.cell? ⟨b, o + 6, none⟩).getD undef, (w.cell? ⟨b, o + 7, none⟩).getD undef, (w.cell? ⟨b, o + 8, none⟩).getD undef, (w.cell? ⟨b, o + 9, none⟩).getD undef, (w.cell? ⟨b, o + 10, none⟩).getD undef, (w.cell? ⟨b, o + 11, none⟩).getD undef, (w.cell? ⟨b, o + 12, none⟩).getD undef, (w.cell? ⟨b, o + 13, none⟩).getD undef, (w.cell? ⟨b, o + 14, none⟩).getD undef, (w.cell? ⟨b, o + 15, none⟩).getD undef] w :=
  ld_from w b o 16 fun j hj => by
    match j, hj with
    | 0, _ => exact h0
    | 1, _ => exact h1
    | 2, _ => exact h2
    | 3, _ => exact h3
    | 4, _ => exact h4
    | 5, _ => exact h5
    | 6, _ => exact h6
    | 7, _ => exact h7
    | 8, _ => exact h8
    | 9, _ => exact h9
    | 10, _ => exact h10
    | 11, _ => exact h11
    | 12, _ => exact h12
    | 13, _ => exact h13
    | 14, _ => exact h14
    | 15, _ => exact h15
    | q + 16, hq => exact absurd hq (by omega)
@[go_sem ↓ high] theorem ldc_16 {P : Program} (w : World) (b o : Nat) (h0 : (w.cell? ⟨b, o, none⟩).isSome = true) (h1 : (w.cell? ⟨b, o + 1, none⟩).isSome = true) (h2 : (w.cell? ⟨b, o + 2, none⟩).isSome = true) (h3 : (w.cell? ⟨b, o + 3, none⟩).isSome = true) (h4 : (w.cell? ⟨b, o + 4, none⟩).isSome = true) (h5 : (w.cell? ⟨b, o + 5, none⟩).isSome = true) (h6 : (w.cell? ⟨b, o + 6, none⟩).isSome = true) (h7 : (w.cell? ⟨b, o + 7, none⟩).isSome = true) (h8 : (w.cell? ⟨b, o + 8, none⟩).isSome = true) (h9 : (w.cell? ⟨b, o + 9, none⟩).isSome = true) (h10 : (w.cell? ⟨b, o + 10, none⟩).isSome = true) (h11 : (w.cell? ⟨b, o + 11, none⟩).isSome = true) (h12 : (w.cell? ⟨b, o + 12, none⟩).isSome = true) (h13 : (w.cell? ⟨b, o + 13, none⟩).isSome = true) (h14 : (w.cell? ⟨b, o + 14, none⟩).isSome = true) (h15 : (w.cell? ⟨b, o + 15, none⟩).isSome = true) : (loadCells ⟨b, o, none⟩ 16).run P w = .ok #[(w.cell? ⟨b, o, none⟩).getD undef, (w.cell? ⟨b, o + 1, none⟩).getD undef, (w.cell? ⟨b, o + 2, none⟩).getD undef, (w.cell? ⟨b, o + 3, none⟩).getD undef, (w.cell? ⟨b, o + 4, none⟩).getD undef, (w.cell? ⟨b, o + 5, none⟩).getD undef, (w.cell? ⟨b, o + 6, none⟩).getD undef, (w.cell? ⟨b, o + 7, none⟩).getD undef, (w.cell? ⟨b, o + 8, none⟩).getD undef, (w.cell? ⟨b, o + 9, none⟩).getD undef, (w.cell? ⟨b, o + 10, none⟩).getD undef, (w.cell? ⟨b, o + 11, none⟩).getD undef, (w.cell? ⟨b, o + 12, none⟩).getD undef, (w.cell? ⟨b, o + 13, none⟩).getD undef, (w.cell? ⟨b, o + 14, none⟩).getD undef, (w.cell? ⟨b, o + 15, none⟩).getD undef] w := ld_16 w b o h0 h1 h2 h3 h4 h5 h6 h7 h8 h9 h10 h11 h12 h13 h14 h15
@[go_sem ↓ high] theorem ld_25 {P : Program} (w : World) (b o : Nat) (h0 : (w.cell? ⟨b, o, none⟩).isSome = true) (h1 : (w.cell? ⟨b, o + 1, none⟩).isSome = true) (h2 : (w.cell? ⟨b, o + 2, none⟩).isSome = true) (h3 : (w.cell? ⟨b, o + 3, none⟩).isSome = true) (h4 : (w.cell? ⟨b, o + 4, none⟩).isSome = true) (h5 : (w.cell? ⟨b, o + 5, none⟩).isSome = true) (h6 : (w.cell? ⟨b, o + 6, none⟩).isSome = true) (h7 : (w.cell? ⟨b, o + 7, none⟩).isSome = true) (h8 : (w.cell? ⟨b, o + 8, none⟩).isSome = true) (h9 : (w.cell? ⟨b, o + 9, none⟩).isSome = true) (h10 : (w.cell? ⟨b, o + 10, none⟩).isSome = true) (h11 : (w.cell? ⟨b, o + 11, none⟩).isSome = true) (h12 : (w.cell? ⟨b, o + 12, none⟩).isSome = true) (h13 : (w.cell? ⟨b, o + 13, none⟩).isSome = true) (h14 : (w.cell? ⟨b, o + 14, none⟩).isSome = true) (h15 : (w.cell? ⟨b, o + 15, none⟩).isSome = true) (h16 : (w.cell? ⟨b, o + 16, none⟩).isSome = true) (h17 : (w.cell? ⟨b, o + 17, none⟩).isSome = true) (h18 : (w.cell? ⟨b, o + 18, none⟩).isSome = true) (h19 : (w.cell? ⟨b, o + 19, none⟩).isSome = true) (h20 : (w.cell? ⟨b, o + 20, none⟩).isSome = true) (h21 : (w.cell? ⟨b, o + 21, none⟩).isSome = true) (h22 : (w.cell? ⟨b, o + 22, none⟩).isSome = true) (h23 : (w.cell? ⟨b, o + 23, none⟩).isSome = true) (h24 : (w.cell? ⟨b, o + 24, none⟩).isSome = true) : (loadCellsFrom ⟨b, o, none⟩ 0 25 #[]).run P w = .ok #[(w.cell? ⟨b, o, none⟩).getD undef, (w.cell? ⟨b, o + 1, none⟩).getD undef, (w.cell? ⟨b, o + 2, none⟩).getD undef, (w.cell? ⟨b, o + 3, none⟩).getD undef, (w.cell? ⟨b, o + 4, none⟩).getD undef, (w.cell? ⟨b, o + 5, none⟩).getD undef, (w.cell? ⟨b, o + 6, none⟩).getD undef, (w.cell? ⟨b, o + 7, none⟩).getD undef, (w.cell? ⟨b, o + 8, none⟩).getD undef, (w.cell? ⟨b, o + 9, none⟩).getD undef, (w.cell? ⟨b, o + 10, none⟩).getD undef, (w.cell? ⟨b, o + 11, none⟩).getD undef, (w.cell? ⟨b, o + 12, none⟩).getD undef, (w.cell? ⟨b, o + 13, none⟩).getD undef, (w.cell? ⟨b, o + 14, none⟩).getD undef, (w.cell? ⟨b, o + 15, none⟩).getD undef, (w.cell? ⟨b, o + 16, none⟩).getD undef, (w.cell? ⟨b, o + 17, none⟩).getD undef, (w.cell? ⟨b, o + 18, none⟩).getD undef, (w.cell? ⟨b, o + 19, none⟩).getD undef, (w.cell? ⟨b, o + 20, none⟩).getD undef, (w.cell? ⟨b, o + 21, none⟩).getD undef, (w.cell? ⟨b, o + 22, none⟩).getD undef, (w.cell? ⟨b, o + 23, none⟩).getD undef, (w.cell? ⟨b, o + 24, none⟩).getD undef] w :=
  ld_from w b o 25 fun j hj => by
    match j, hj with
    | 0, _ => exact h0
    | 1, _ => exact h1
    | 2, _ => exact h2
    | 3, _ => exact h3
    | 4, _ => exact h4
    | 5, _ => exact h5
    | 6, _ => exact h6
    | 7, _ => exact h7
    | 8, _ => exact h8
    | 9, _ => exact h9
    | 10, _ => exact h10
    | 11, _ => exact h11
    | 12, _ => exact h12
    | 13, _ => exact h13
    | 14, _ => exact h14
    | 15, _ => exact h15
    | 16, _ => exact h16
    | 17, _ => exact h17
    | 18, _ => exact h18
    | 19, _ => exact h19
    | 20, _ => exact h20
    | 21, _ => exact h21
    | 22, _ => exact h22
    | 23, _ => exact h23
    | 24, _ => exact h24
    | q + 25, hq => exact absurd hq (by omega)
@[go_sem ↓ high] theorem ldc_25 {P : Program} (w : World) (b o : Nat) (h0 : (w.cell? ⟨b, o, none⟩).isSome = true) (h1 : (w.cell? ⟨b, o + 1, none⟩).isSome = true) (h2 : (w.cell? ⟨b, o + 2, none⟩).isSome = true) (h3 : (w.cell? ⟨b, o + 3, none⟩).isSome = true) (h4 : (w.cell? ⟨b, o + 4, none⟩).isSome = true) (h5 : (w.cell? ⟨b, o + 5, none⟩).isSome = true) (h6 : (w.cell? ⟨b, o + 6, none⟩).isSome = true) (h7 : (w.cell? ⟨b, o + 7, none⟩).isSome = true) (h8 : (w.cell? ⟨b, o + 8, none⟩).isSome = true) (h9 : (w.cell? ⟨b, o + 9, none⟩).isSome = true) (h10 : (w.cell? ⟨b, o + 10, none⟩).isSome = true) (h11 : (w.cell? ⟨b, o + 11, none⟩).isSome = true) (h12 : (w.cell? ⟨b, o + 12, none⟩).isSome = true) (h13 : (w.cell? ⟨b, o + 13, none⟩).isSome = true) (h14 : (w.cell? ⟨b, o + 14, none⟩).isSome = true) (h15 : (w.cell? ⟨b, o + 15, none⟩).isSome = true) (h16 : (w.cell? ⟨b, o + 16, none⟩).isSome = true) (h17 : (w.cell? ⟨b, o + 17, none⟩).isSome = true) (h18 : (w.cell? ⟨b, o + 18, none⟩).isSome = true) (h19 : (w.cell? ⟨b, o + 19, none⟩).isSome = true) (h20 : (w.cell? ⟨b, o + 20, none⟩).isSome = true) (h21 : (w.cell? ⟨b, o + 21, none⟩).isSome = true) (h22 : (w.cell? ⟨b, o + 22, none⟩).isSome = true) (h23 : (w.cell? ⟨b, o + 23, none⟩).isSome = true) (h24 : (w.cell? ⟨b, o + 24, none⟩).isSome = true) : (loadCells ⟨b, o, none⟩ 25).run P w = .ok #[(w.cell? ⟨b, o, none⟩).getD undef, (w.cell? ⟨b, o + 1, none⟩).getD undef, (w.cell? ⟨b, o + 2, none⟩).getD undef, (w.cell? ⟨b, o + 3, none⟩).getD undef, (w.cell? ⟨b, o + 4, none⟩).getD undef, (w.cell? ⟨b, o + 5, none⟩).getD undef, (w.cell? ⟨b, o + 6, none⟩).getD undef, (w.cell? ⟨b, o + 7, none⟩).getD undef, (w.cell? ⟨b, o + 8, none⟩).getD undef, (w.cell? ⟨b, o + 9, none⟩).getD undef, (w.cell? ⟨b, o + 10, none⟩).getD undef, (w.cell? ⟨b, o + 11, none⟩).getD undef, (w.cell? ⟨b, o + 12, none⟩).getD undef, (w.cell? ⟨b, o + 13, none⟩).getD undef, (w.cell? ⟨b, o + 14, none⟩).getD undef, (w.cell? ⟨b, o + 15, none⟩).getD undef, (w.cell? ⟨b, o + 16, none⟩).getD undef, (w.cell? ⟨b, o + 17, none⟩).getD undef, (w.cell? ⟨b, o + 18, none⟩).getD undef, (w.cell? ⟨b, o + 19, none⟩).getD undef, (w.cell? ⟨b, o + 20, none⟩).getD undef, (w.cell? ⟨b, o + 21, none⟩).getD undef, (w.cell? ⟨b, o + 22, none⟩).getD undef, (w.cell? ⟨b, o + 23, none⟩).getD undef, (w.cell? ⟨b, o + 24, none⟩).getD undef] w := ld_25 w b o h0 h1 h2 h3 h4 h5 h6 h7 h8 h9 h10 h11 h12 h13 h14 h15 h16 h17 h18 h19 h20 h21 h22 h23 h24
end Go.Proofs.Ytbbpipbemhggdaa

namespace Go.Proofs.Ytbbpipbemhggdaa
open Go.RowKit

/-- The shape of a type: what it is made of. -/
inductive Sch where
  | int
  | bool
  | st (fs : List Sch)
  | sl (e : Sch)

/-- What a value is as data. -/
inductive Dat where
  | i (n : Int)
  | b (x : Bool)
  | s (ds : List Dat)
  | l (ds : List Dat)

mutual
def Sch.size : Sch → Nat
  | .int => 1
  | .bool => 1
  | .sl _ => 1
  | .st fs => Sch.sizes fs
def Sch.sizes : List Sch → Nat
  | [] => 0
  | f :: fs => f.size + Sch.sizes fs
end

mutual
/-- The cells vs read as d in w, all that they lead to lies in blocks below hi. -/
def Rd (hi : Nat) (w : World) : Sch → List Value → Dat → Prop
  | .int, vs, d => ∃ n, vs = [.int .i64 n] ∧ d = .i n
  | .bool, vs, d => ∃ x, vs = [.bool x] ∧ d = .b x
  | .st fs, vs, d => ∃ ds, d = .s ds ∧ RdL hi w fs vs ds
  | .sl e, vs, d => ∃ a n c ds, vs = [.slice a n c] ∧ d = .l ds ∧ ds.length = n ∧ n ≤ maxLen ∧
      ∀ i x, ds[i]? = some x → ∃ b o es, a = some ⟨b, o, none⟩ ∧ b < hi ∧ (∀ j v, es[j]? = some v → w.cell? ⟨b, o + i * e.size + j, none⟩ = some v) ∧ Rd hi w e es x
def RdL (hi : Nat) (w : World) : List Sch → List Value → List Dat → Prop
  | [], vs, ds => vs = [] ∧ ds = []
  | f :: fs, vs, ds => ∃ v1 v2 d1 d2, vs = v1 ++ v2 ∧ ds = d1 :: d2 ∧ Rd hi w f v1 d1 ∧ RdL hi w fs v2 d2
end

mutual
/-- The cells vs read as d in w; each slice starts at the head of a block of its own; B: these blocks. -/
def Own (w : World) : Sch → List Value → Dat → List Nat → Prop
  | .int, vs, d, B => (∃ n, vs = [.int .i64 n] ∧ d = .i n) ∧ B = []
  | .bool, vs, d, B => (∃ x, vs = [.bool x] ∧ d = .b x) ∧ B = []
  | .st fs, vs, d, B => ∃ ds, d = .s ds ∧ OwnL w fs vs ds B
  | .sl e, vs, d, B => ∃ ds, d = .l ds ∧ ds.length ≤ maxLen ∧
      ((ds = [] ∧ B = [] ∧ ∃ a c, vs = [.slice a 0 c]) ∨
       ∃ (b c : Nat) (arr : Array Value) (ty : TypeId) (Bs : List (List Nat)), vs = [.slice (some ⟨b, 0, none⟩) ds.length c] ∧ B = b :: Bs.flatten ∧ Bs.length = ds.length ∧ w.heap[b]? = some (.cells arr ty (0, 0)) ∧
         ∀ i x, ds[i]? = some x → ∃ es Bi, Bs[i]? = some Bi ∧ (∀ j v, es[j]? = some v → arr[i * e.size + j]? = some v) ∧ Own w e es x Bi)
def OwnL (w : World) : List Sch → List Value → List Dat → List Nat → Prop
  | [], vs, ds, B => vs = [] ∧ ds = [] ∧ B = []
  | f :: fs, vs, ds, B => ∃ v1 v2 d1 d2 B1 B2, vs = v1 ++ v2 ∧ ds = d1 :: d2 ∧ B = B1 ++ B2 ∧ Own w f v1 d1 B1 ∧ OwnL w fs v2 d2 B2
end

/-- w' is as w in all blocks below hi. -/
def Same (p : Nat → Prop) (w w' : World) : Prop := ∀ b, p b → w'.heap[b]? = w.heap[b]?
theorem Ext.same {w w' : World} (h : Ext w w') {hi : Nat} (hh : hi ≤ w.heap.size) : Same (· < hi) w w' := fun _ hb => h.block (Nat.lt_of_lt_of_le hb hh)

mutual
theorem Rd.same {hi : Nat} {w w' : World} (hs : Same (· < hi) w w') : ∀ (s : Sch) (vs : List Value) (d : Dat), Rd hi w s vs d → Rd hi w' s vs d
  | .int, _, _, h => by unfold Rd at h ⊢; exact h
  | .bool, _, _, h => by unfold Rd at h ⊢; exact h
  | .st fs, vs, d, h => by
    unfold Rd at h ⊢
    obtain ⟨ds, hd, hl⟩ := h
    exact ⟨ds, hd, RdL.same hs fs vs ds hl⟩
  | .sl e, vs, d, h => by
    unfold Rd at h ⊢
    obtain ⟨a, n, c, ds, h1, h2, h3, h4, h5⟩ := h
    refine ⟨a, n, c, ds, h1, h2, h3, h4, fun i x hx => ?_⟩
    obtain ⟨b, o, es, ha, hb, hc, hr⟩ := h5 i x hx
    refine ⟨b, o, es, ha, hb, fun j v hv => ?_, Rd.same hs e es x hr⟩
    rw [← hc j v hv]
    exact World.cell?_of_block (hs b hb)
theorem RdL.same {hi : Nat} {w w' : World} (hs : Same (· < hi) w w') : ∀ (fs : List Sch) (vs : List Value) (ds : List Dat), RdL hi w fs vs ds → RdL hi w' fs vs ds
  | [], _, _, h => by unfold RdL at h ⊢; exact h
  | f :: fs, vs, ds, h => by
    unfold RdL at h ⊢
    obtain ⟨v1, v2, d1, d2, h1, h2, h3, h4⟩ := h
    exact ⟨v1, v2, d1, d2, h1, h2, Rd.same hs f v1 d1 h3, RdL.same hs fs v2 d2 h4⟩
end

mutual
theorem Rd.mono {hi hi' : Nat} {w : World} (hh : hi ≤ hi') : ∀ (s : Sch) (vs : List Value) (d : Dat), Rd hi w s vs d → Rd hi' w s vs d
  | .int, _, _, h => by unfold Rd at h ⊢; exact h
  | .bool, _, _, h => by unfold Rd at h ⊢; exact h
  | .st fs, vs, d, h => by
    unfold Rd at h ⊢
    obtain ⟨ds, hd, hl⟩ := h
    exact ⟨ds, hd, RdL.mono hh fs vs ds hl⟩
  | .sl e, vs, d, h => by
    unfold Rd at h ⊢
    obtain ⟨a, n, c, ds, h1, h2, h3, h4, h5⟩ := h
    refine ⟨a, n, c, ds, h1, h2, h3, h4, fun i x hx => ?_⟩
    obtain ⟨b, o, es, ha, hb, hc, hr⟩ := h5 i x hx
    exact ⟨b, o, es, ha, Nat.lt_of_lt_of_le hb hh, hc, Rd.mono hh e es x hr⟩
theorem RdL.mono {hi hi' : Nat} {w : World} (hh : hi ≤ hi') : ∀ (fs : List Sch) (vs : List Value) (ds : List Dat), RdL hi w fs vs ds → RdL hi' w fs vs ds
  | [], _, _, h => by unfold RdL at h ⊢; exact h
  | f :: fs, vs, ds, h => by
    unfold RdL at h ⊢
    obtain ⟨v1, v2, d1, d2, h1, h2, h3, h4⟩ := h
    exact ⟨v1, v2, d1, d2, h1, h2, Rd.mono hh f v1 d1 h3, RdL.mono hh fs v2 d2 h4⟩
end

theorem mem_flatten_of {α : Type} {Bs : List (List α)} {i : Nat} {Bi : List α} {x : α} (h : Bs[i]? = some Bi) (hx : x ∈ Bi) : x ∈ Bs.flatten :=
  List.mem_flatten.2 ⟨Bi, List.mem_of_getElem? h, hx⟩

mutual
theorem Own.same {w w' : World} : ∀ (s : Sch) (vs : List Value) (d : Dat) (B : List Nat), Same (· ∈ B) w w' → Own w s vs d B → Own w' s vs d B
  | .int, _, _, _, _, h => by unfold Own at h ⊢; exact h
  | .bool, _, _, _, _, h => by unfold Own at h ⊢; exact h
  | .st fs, vs, d, B, hs, h => by
    unfold Own at h ⊢
    obtain ⟨ds, hd, hl⟩ := h
    exact ⟨ds, hd, OwnL.same fs vs ds B hs hl⟩
  | .sl e, vs, d, B, hs, h => by
    unfold Own at h ⊢
    obtain ⟨ds, hd, hm, h | ⟨b, c, arr, ty, Bs, h1, h2, h3, h4, h5⟩⟩ := h
    · exact ⟨ds, hd, hm, .inl h⟩
    · refine ⟨ds, hd, hm, .inr ⟨b, c, arr, ty, Bs, h1, h2, h3, ?_, fun i x hx => ?_⟩⟩
      · rw [hs b (by subst h2; exact List.mem_cons_self)]; exact h4
      · obtain ⟨es, Bi, hB, hc, ho⟩ := h5 i x hx
        exact ⟨es, Bi, hB, hc, Own.same e es x Bi (fun k hk => hs k (by subst h2; exact List.mem_cons_of_mem _ (mem_flatten_of hB hk))) ho⟩
theorem OwnL.same {w w' : World} : ∀ (fs : List Sch) (vs : List Value) (ds : List Dat) (B : List Nat), Same (· ∈ B) w w' → OwnL w fs vs ds B → OwnL w' fs vs ds B
  | [], _, _, _, _, h => by unfold OwnL at h ⊢; exact h
  | f :: fs, vs, ds, B, hs, h => by
    unfold OwnL at h ⊢
    obtain ⟨v1, v2, d1, d2, B1, B2, h1, h2, h3, h4, h5⟩ := h
    subst h3
    exact ⟨v1, v2, d1, d2, B1, B2, h1, h2, rfl, Own.same f v1 d1 B1 (fun k hk => hs k (List.mem_append_left _ hk)) h4, OwnL.same fs v2 d2 B2 (fun k hk => hs k (List.mem_append_right _ hk)) h5⟩
end

mutual
theorem Own.rd {hi : Nat} {w : World} : ∀ (s : Sch) (vs : List Value) (d : Dat) (B : List Nat), (∀ b ∈ B, b < hi) → Own w s vs d B → Rd hi w s vs d
  | .int, _, _, _, _, h => by unfold Own at h; unfold Rd; exact h.1
  | .bool, _, _, _, _, h => by unfold Own at h; unfold Rd; exact h.1
  | .st fs, vs, d, B, hs, h => by
    unfold Own at h; unfold Rd
    obtain ⟨ds, hd, hl⟩ := h
    exact ⟨ds, hd, OwnL.rd fs vs ds B hs hl⟩
  | .sl e, vs, d, B, hs, h => by
    unfold Own at h; unfold Rd
    obtain ⟨ds, hd, hm, ⟨h0, h1, a, c, h2⟩ | ⟨b, c, arr, ty, Bs, h1, h2, h3, h4, h5⟩⟩ := h
    · exact ⟨a, 0, c, ds, h2, hd, by rw [h0]; rfl, Nat.zero_le _, fun i x hx => by rw [h0] at hx; simp at hx⟩
    · refine ⟨_, _, c, ds, h1, hd, rfl, hm, fun i x hx => ?_⟩
      obtain ⟨es, Bi, hB, hc, ho⟩ := h5 i x hx
      refine ⟨b, 0, es, rfl, hs b (by subst h2; exact List.mem_cons_self), fun j v hv => ?_, Own.rd e es x Bi (fun k hk => hs k (by subst h2; exact List.mem_cons_of_mem _ (mem_flatten_of hB hk))) ho⟩
      rw [cell_of_row w b _ arr ty _ h4, Nat.zero_add]
      exact hc j v hv
theorem OwnL.rd {hi : Nat} {w : World} : ∀ (fs : List Sch) (vs : List Value) (ds : List Dat) (B : List Nat), (∀ b ∈ B, b < hi) → OwnL w fs vs ds B → RdL hi w fs vs ds
  | [], _, _, _, _, h => by unfold OwnL at h; unfold RdL; exact ⟨h.1, h.2.1⟩
  | f :: fs, vs, ds, B, hs, h => by
    unfold OwnL at h; unfold RdL
    obtain ⟨v1, v2, d1, d2, B1, B2, h1, h2, h3, h4, h5⟩ := h
    subst h3
    exact ⟨v1, v2, d1, d2, h1, h2, Own.rd f v1 d1 B1 (fun k hk => hs k (List.mem_append_left _ hk)) h4, OwnL.rd fs v2 d2 B2 (fun k hk => hs k (List.mem_append_right _ hk)) h5⟩
end
end Go.Proofs.Ytbbpipbemhggdaa

namespace Go.Proofs.Ytbbpipbemhggdaa
open Go.ChangeShapes Go.WideShapes Go.ChangeAt Go.RowKit

section
variable {H : Type} {enc : TypeId × Value → H} {P : Program} {w : World}

theorem trodAll_below {W W' : World} (hl : laidOutB P = true) (hb : Below W.heap.size W W') : ∀ (ts : List TypeId) (vs : List Value) (ds : List (DataW H)) (p : List MemPlace), (∀ t ∈ ts, P.readableRec t = true ∧ t < P.types.size) → (∀ x ∈ p, x.block < W.heap.size) →
    DataW.TrodAll enc P W 0 (fun _ => true) true ts vs ds p → DataW.TrodAll enc P W' 0 (fun b => decide (b < W.heap.size)) true ts vs ds p
  | [], vs, ds, p, _, _, h => by
    obtain ⟨rfl, rfl, rfl⟩ := trodAll_nil h
    rfl
  | t :: ts, vs, ds, p, hr, hp, h => by
    obtain ⟨v, vs', d, ds', q, q', rfl, rfl, rfl, h0, h1⟩ := trodAll_cons h
    obtain ⟨r1, r2⟩ := hr t (List.mem_cons_self)
    exact trodAll_cons_mk (Below.trod hl r1 r2 h0 hb fun x hx => hp x (List.mem_append_left _ hx)) (trodAll_below hl hb ts vs' ds' q' (fun t' ht' => hr t' (List.mem_cons_of_mem _ ht')) (fun x hx => hp x (List.mem_append_right _ hx)) h1)

/-- The row's post, out of 'it returned true, and below the heap's old size nothing has turned'. -/
theorem law_post {f : Func} {s : ChangeSpec} {b : TypeId} {W W' : World} {args : Array Value} {ds gs : List (DataW H)} {before : List MemPlace} (hl : laidOutB P = true) (hres : f.resultTypes = #[b]) (hbt : P.underlying b = some .bool)
    (hvars : s.vars = []) (hread0 : (f.params.toList.all fun t => P.readableRec t && decide (t < P.types.size)) = true)
    (hW : DataW.Whole enc P f.params.toList s.vars false W args.toList ds gs before) (hs : ∀ (ds : List (DataW H)), ds.length = f.params.size → s.fn H (ds ++ []) = { results := [.lit (.bool true)], args := ds })
    (hb : Below W.heap.size W W') : s.post enc P f false true false false W args (.bool true) W' := by
  have hread : ∀ t ∈ f.params.toList, P.readableRec t = true ∧ t < P.types.size := fun t ht => by have := List.all_eq_true.1 hread0 t ht; simpa using this
  have hW' := hW
  have hlt := hW.lt
  obtain ⟨p, q, hA, hV, rfl, hfz, hnd⟩ := hW
  rw [hvars] at hV
  obtain ⟨rfl, rfl⟩ := trodVars_none hV
  have hlen : ds.length = f.params.size := by
    have : ∀ (ts : List TypeId) (vs : List Value) (ds : List (DataW H)) (p : List MemPlace), DataW.TrodAll enc P W 0 (fun _ => true) true ts vs ds p → ds.length = ts.length := by
      intro ts
      induction ts with
      | nil => intro vs ds p h; obtain ⟨rfl, rfl, rfl⟩ := trodAll_nil h; rfl
      | cons t ts ih => intro vs ds p h; obtain ⟨v, vs', d, ds', q, q', rfl, rfl, rfl, h0, h1⟩ := trodAll_cons h; simp [ih _ _ _ h1]
    simpa using this _ _ _ _ hA
  have hfn := hs ds hlen
  refine ⟨ds, [], p ++ [], [], p, [], hW', ?_, ?_, ?_, hb.frame _, fun h => by cases h⟩
  · rw [hfn, hres]
    exact trodAll_mk1 (shut_bool hbt true)
  · rw [hfn]
    exact trodAll_below hl hb _ _ _ _ hread (fun x hx => hlt x (by simpa using hx)) hA
  · rw [hfn, hvars]; rfl
end
theorem own_knob : ownKnob Try.prog.godebug = none := by kernel_rfl
theorem laid_out : laidOutB Try.prog = true := by kernel_rfl
theorem bool_ty : Try.prog.underlying 4 = some .bool := by kernel_rfl
theorem rd_int {hi : Nat} {w : World} {vs : List Value} {d : Dat} (h : Rd hi w .int vs d) : ∃ n, vs = [.int .i64 n] ∧ d = .i n := by unfold Rd at h; exact h
end Go.Proofs.Ytbbpipbemhggdaa

namespace Go.Proofs.Ytbbpipbemhggdaa
open Go.RowKit

structure Mp where
  c : Int
  w : Int
deriving DecidableEq
def Mp.cells (x : Mp) : List Value := [.int .i64 x.c, .int .i64 x.w]
def Mp.dat (x : Mp) : Dat := .s [.i x.c, .i x.w]
theorem Mp.dat_inj {x y : Mp} (h : x.dat = y.dat) : x = y := by
  cases x; cases y
  simp only [Mp.dat, Dat.s.injEq, List.cons.injEq, Dat.i.injEq, and_true] at h
  simp only [Mp.mk.injEq]; exact h
structure Wlk where
  id : Int
  at_ : Int
  coins : Int
  seq : Int
  last : Int
deriving DecidableEq
def Wlk.cells (x : Wlk) : List Value := [.int .i64 x.id, .int .i64 x.at_, .int .i64 x.coins, .int .i64 x.seq, .int .i64 x.last]
def Wlk.dat (x : Wlk) : Dat := .s [.i x.id, .i x.at_, .i x.coins, .i x.seq, .i x.last]
def sWlk : Sch := .st [.int, .int, .int, .int, .int]
theorem rd_Wlk {hi : Nat} {w : World} {vs : List Value} {d : Dat} (h : Rd hi w sWlk vs d) : ∃ x : Wlk, vs = x.cells ∧ d = x.dat := by
  unfold sWlk Rd at h
  obtain ⟨ds, rfl, h⟩ := h
  unfold RdL at h; obtain ⟨v1, v2, d1, d2, rfl, rfl, h1, h⟩ := h
  obtain ⟨x0, rfl, rfl⟩ := rd_int h1
  unfold RdL at h; obtain ⟨v1, v2, d1, d2, rfl, rfl, h1, h⟩ := h
  obtain ⟨x1, rfl, rfl⟩ := rd_int h1
  unfold RdL at h; obtain ⟨v1, v2, d1, d2, rfl, rfl, h1, h⟩ := h
  obtain ⟨x2, rfl, rfl⟩ := rd_int h1
  unfold RdL at h; obtain ⟨v1, v2, d1, d2, rfl, rfl, h1, h⟩ := h
  obtain ⟨x3, rfl, rfl⟩ := rd_int h1
  unfold RdL at h; obtain ⟨v1, v2, d1, d2, rfl, rfl, h1, h⟩ := h
  obtain ⟨x4, rfl, rfl⟩ := rd_int h1
  unfold RdL at h; obtain ⟨rfl, rfl⟩ := h
  exact ⟨⟨x0, x1, x2, x3, x4⟩, rfl, rfl⟩
theorem own_Wlk_mk (w : World) (x : Wlk) : Own w sWlk x.cells x.dat [] := by
  unfold sWlk Own Wlk.dat
  refine ⟨_, rfl, ?_⟩
  unfold OwnL; refine ⟨[.int .i64 x.id], _, _, _, [], [], rfl, rfl, rfl, by unfold Own; exact ⟨⟨_, rfl, rfl⟩, rfl⟩, ?_⟩
  unfold OwnL; refine ⟨[.int .i64 x.at_], _, _, _, [], [], rfl, rfl, rfl, by unfold Own; exact ⟨⟨_, rfl, rfl⟩, rfl⟩, ?_⟩
  unfold OwnL; refine ⟨[.int .i64 x.coins], _, _, _, [], [], rfl, rfl, rfl, by unfold Own; exact ⟨⟨_, rfl, rfl⟩, rfl⟩, ?_⟩
  unfold OwnL; refine ⟨[.int .i64 x.seq], _, _, _, [], [], rfl, rfl, rfl, by unfold Own; exact ⟨⟨_, rfl, rfl⟩, rfl⟩, ?_⟩
  unfold OwnL; refine ⟨[.int .i64 x.last], _, _, _, [], [], rfl, rfl, rfl, by unfold Own; exact ⟨⟨_, rfl, rfl⟩, rfl⟩, ?_⟩
  unfold OwnL; exact ⟨rfl, rfl, rfl⟩
theorem Wlk.dat_inj {x y : Wlk} (h : x.dat = y.dat) : x = y := by
  cases x; cases y
  simp only [Wlk.dat, Dat.s.injEq, List.cons.injEq, Dat.i.injEq, and_true] at h
  simp only [Wlk.mk.injEq]; exact h
/-- An element of a slice of these. -/
theorem at_Wlk {hi : Nat} {w : World} {a : Option Addr} {n c : Nat} {xs : List Wlk} (h : Rd hi w (.sl sWlk) [.slice a n c] (.l (xs.map Wlk.dat))) {k : Nat} (hk : k < n) :
    ∃ x b o, xs[k]? = some x ∧ a = some (⟨b, o, none⟩ : Addr) ∧ b < hi ∧ w.cell? ⟨b, o + k * 5, none⟩ = some (.int .i64 x.id) ∧ w.cell? ⟨b, o + k * 5 + 1, none⟩ = some (.int .i64 x.at_) ∧ w.cell? ⟨b, o + k * 5 + 2, none⟩ = some (.int .i64 x.coins) ∧ w.cell? ⟨b, o + k * 5 + 3, none⟩ = some (.int .i64 x.seq) ∧ w.cell? ⟨b, o + k * 5 + 4, none⟩ = some (.int .i64 x.last) := by
  unfold Rd at h
  obtain ⟨a', n', c', ds, h1, h2, h3, h4, h5⟩ := h
  simp only [List.cons.injEq, Value.slice.injEq, and_true] at h1
  obtain ⟨rfl, rfl, rfl⟩ := h1
  simp only [Dat.l.injEq] at h2
  subst h2
  have hk' : k < xs.length := by rw [List.length_map] at h3; omega
  obtain ⟨b, o, es, ha, hb, hc, hr⟩ := h5 k (xs[k].dat) (by simp [hk'])
  obtain ⟨y, rfl, hy⟩ := rd_Wlk hr
  have e := Wlk.dat_inj hy
  refine ⟨y, b, o, by rw [← e]; simp [hk'], ha, hb, hc 0 _ rfl, hc 1 _ rfl, hc 2 _ rfl, hc 3 _ rfl, hc 4 _ rfl⟩

structure Ord where
  who : Int
  seq : Int
  kind : Int
  to_ : Int
  n : Int
deriving DecidableEq
def Ord.cells (x : Ord) : List Value := [.int .i64 x.who, .int .i64 x.seq, .int .i64 x.kind, .int .i64 x.to_, .int .i64 x.n]
def Ord.dat (x : Ord) : Dat := .s [.i x.who, .i x.seq, .i x.kind, .i x.to_, .i x.n]
theorem Ord.dat_inj {x y : Ord} (h : x.dat = y.dat) : x = y := by
  cases x; cases y
  simp only [Ord.dat, Dat.s.injEq, List.cons.injEq, Dat.i.injEq, and_true] at h
  simp only [Ord.mk.injEq]; exact h
structure Pcl where
  n : Int
  kind : Int
  wk : Wlk
  coins : Int
deriving DecidableEq
def Pcl.cells (x : Pcl) : List Value := [.int .i64 x.n, .int .i64 x.kind, .int .i64 x.wk.id, .int .i64 x.wk.at_, .int .i64 x.wk.coins, .int .i64 x.wk.seq, .int .i64 x.wk.last, .int .i64 x.coins]
def Pcl.dat (x : Pcl) : Dat := .s [.i x.n, .i x.kind, x.wk.dat, .i x.coins]
theorem Pcl.dat_inj {x y : Pcl} (h : x.dat = y.dat) : x = y := by
  cases x; cases y
  simp only [Pcl.dat, Dat.s.injEq, List.cons.injEq, Dat.i.injEq, and_true] at h
  obtain ⟨h0, h1, h2, h3⟩ := h
  simp only [Pcl.mk.injEq]
  exact ⟨h0, h1, Wlk.dat_inj h2, h3⟩
structure Gst where
  src : Int
  count : Int
  wk : Wlk
deriving DecidableEq
def Gst.cells (x : Gst) : List Value := [.int .i64 x.src, .int .i64 x.count, .int .i64 x.wk.id, .int .i64 x.wk.at_, .int .i64 x.wk.coins, .int .i64 x.wk.seq, .int .i64 x.wk.last]
def Gst.dat (x : Gst) : Dat := .s [.i x.src, .i x.count, x.wk.dat]
def sGst : Sch := .st [.int, .int, sWlk]
theorem rd_Gst {hi : Nat} {w : World} {vs : List Value} {d : Dat} (h : Rd hi w sGst vs d) : ∃ x : Gst, vs = x.cells ∧ d = x.dat := by
  unfold sGst Rd at h
  obtain ⟨ds, rfl, h⟩ := h
  unfold RdL at h; obtain ⟨v1, v2, d1, d2, rfl, rfl, h1, h⟩ := h
  obtain ⟨x0, rfl, rfl⟩ := rd_int h1
  unfold RdL at h; obtain ⟨v1, v2, d1, d2, rfl, rfl, h1, h⟩ := h
  obtain ⟨x1, rfl, rfl⟩ := rd_int h1
  unfold RdL at h; obtain ⟨v1, v2, d1, d2, rfl, rfl, h1, h⟩ := h
  obtain ⟨x2, rfl, rfl⟩ := rd_Wlk h1
  unfold RdL at h; obtain ⟨rfl, rfl⟩ := h
  exact ⟨⟨x0, x1, x2⟩, rfl, rfl⟩
theorem own_Gst_mk (w : World) (x : Gst) : Own w sGst x.cells x.dat [] := by
  unfold sGst Own Gst.dat
  refine ⟨_, rfl, ?_⟩
  unfold OwnL; refine ⟨[.int .i64 x.src], _, _, _, [], [], rfl, rfl, rfl, by unfold Own; exact ⟨⟨_, rfl, rfl⟩, rfl⟩, ?_⟩
  unfold OwnL; refine ⟨[.int .i64 x.count], _, _, _, [], [], rfl, rfl, rfl, by unfold Own; exact ⟨⟨_, rfl, rfl⟩, rfl⟩, ?_⟩
  unfold OwnL; refine ⟨x.wk.cells, _, _, _, [], [], rfl, rfl, rfl, own_Wlk_mk w x.wk, ?_⟩
  unfold OwnL; exact ⟨rfl, rfl, rfl⟩
theorem Gst.dat_inj {x y : Gst} (h : x.dat = y.dat) : x = y := by
  cases x; cases y
  simp only [Gst.dat, Dat.s.injEq, List.cons.injEq, Dat.i.injEq, and_true] at h
  obtain ⟨h0, h1, h2⟩ := h
  simp only [Gst.mk.injEq]
  exact ⟨h0, h1, Wlk.dat_inj h2⟩
/-- An element of a slice of these. -/
theorem at_Gst {hi : Nat} {w : World} {a : Option Addr} {n c : Nat} {xs : List Gst} (h : Rd hi w (.sl sGst) [.slice a n c] (.l (xs.map Gst.dat))) {k : Nat} (hk : k < n) :
    ∃ x b o, xs[k]? = some x ∧ a = some (⟨b, o, none⟩ : Addr) ∧ b < hi ∧ w.cell? ⟨b, o + k * 7, none⟩ = some (.int .i64 x.src) ∧ w.cell? ⟨b, o + k * 7 + 1, none⟩ = some (.int .i64 x.count) ∧ w.cell? ⟨b, o + k * 7 + 2, none⟩ = some (.int .i64 x.wk.id) ∧ w.cell? ⟨b, o + k * 7 + 3, none⟩ = some (.int .i64 x.wk.at_) ∧ w.cell? ⟨b, o + k * 7 + 4, none⟩ = some (.int .i64 x.wk.coins) ∧ w.cell? ⟨b, o + k * 7 + 5, none⟩ = some (.int .i64 x.wk.seq) ∧ w.cell? ⟨b, o + k * 7 + 6, none⟩ = some (.int .i64 x.wk.last) := by
  unfold Rd at h
  obtain ⟨a', n', c', ds, h1, h2, h3, h4, h5⟩ := h
  simp only [List.cons.injEq, Value.slice.injEq, and_true] at h1
  obtain ⟨rfl, rfl, rfl⟩ := h1
  simp only [Dat.l.injEq] at h2
  subst h2
  have hk' : k < xs.length := by rw [List.length_map] at h3; omega
  obtain ⟨b, o, es, ha, hb, hc, hr⟩ := h5 k (xs[k].dat) (by simp [hk'])
  obtain ⟨y, rfl, hy⟩ := rd_Gst hr
  have e := Gst.dat_inj hy
  refine ⟨y, b, o, by rw [← e]; simp [hk'], ha, hb, hc 0 _ rfl, hc 1 _ rfl, hc 2 _ rfl, hc 3 _ rfl, hc 4 _ rfl, hc 5 _ rfl, hc 6 _ rfl⟩

structure Msg where
  kind : Int
  to_ : Int
  cell : Int
  side : Int
  n : Int
  ord : Ord
  pcl : Pcl
  gst : Gst
deriving DecidableEq
def Msg.cells (x : Msg) : List Value := [.int .i64 x.kind, .int .i64 x.to_, .int .i64 x.cell, .int .i64 x.side, .int .i64 x.n, .int .i64 x.ord.who, .int .i64 x.ord.seq, .int .i64 x.ord.kind, .int .i64 x.ord.to_, .int .i64 x.ord.n, .int .i64 x.pcl.n, .int .i64 x.pcl.kind, .int .i64 x.pcl.wk.id, .int .i64 x.pcl.wk.at_, .int .i64 x.pcl.wk.coins, .int .i64 x.pcl.wk.seq, .int .i64 x.pcl.wk.last, .int .i64 x.pcl.coins, .int .i64 x.gst.src, .int .i64 x.gst.count, .int .i64 x.gst.wk.id, .int .i64 x.gst.wk.at_, .int .i64 x.gst.wk.coins, .int .i64 x.gst.wk.seq, .int .i64 x.gst.wk.last]
def Msg.dat (x : Msg) : Dat := .s [.i x.kind, .i x.to_, .i x.cell, .i x.side, .i x.n, x.ord.dat, x.pcl.dat, x.gst.dat]
theorem Msg.dat_inj {x y : Msg} (h : x.dat = y.dat) : x = y := by
  cases x; cases y
  simp only [Msg.dat, Dat.s.injEq, List.cons.injEq, Dat.i.injEq, and_true] at h
  obtain ⟨h0, h1, h2, h3, h4, h5, h6, h7⟩ := h
  simp only [Msg.mk.injEq]
  exact ⟨h0, h1, h2, h3, h4, Ord.dat_inj h5, Pcl.dat_inj h6, Gst.dat_inj h7⟩
structure Rec where
  kind : Int
  ord : Ord
  side : Int
  pcl : Pcl
  n : Int
deriving DecidableEq
def Rec.cells (x : Rec) : List Value := [.int .i64 x.kind, .int .i64 x.ord.who, .int .i64 x.ord.seq, .int .i64 x.ord.kind, .int .i64 x.ord.to_, .int .i64 x.ord.n, .int .i64 x.side, .int .i64 x.pcl.n, .int .i64 x.pcl.kind, .int .i64 x.pcl.wk.id, .int .i64 x.pcl.wk.at_, .int .i64 x.pcl.wk.coins, .int .i64 x.pcl.wk.seq, .int .i64 x.pcl.wk.last, .int .i64 x.pcl.coins, .int .i64 x.n]
def Rec.dat (x : Rec) : Dat := .s [.i x.kind, x.ord.dat, .i x.side, x.pcl.dat, .i x.n]
theorem Rec.dat_inj {x y : Rec} (h : x.dat = y.dat) : x = y := by
  cases x; cases y
  simp only [Rec.dat, Dat.s.injEq, List.cons.injEq, Dat.i.injEq, and_true] at h
  obtain ⟨h0, h1, h2, h3, h4⟩ := h
  simp only [Rec.mk.injEq]
  exact ⟨h0, Ord.dat_inj h1, h2, Pcl.dat_inj h3, h4⟩
structure Row where
  who : Int
  cell : Int
  busy : Bool
  ord : Ord
  seq : Int
  code : Int
deriving DecidableEq
def Row.cells (x : Row) : List Value := [.int .i64 x.who, .int .i64 x.cell, .bool x.busy, .int .i64 x.ord.who, .int .i64 x.ord.seq, .int .i64 x.ord.kind, .int .i64 x.ord.to_, .int .i64 x.ord.n, .int .i64 x.seq, .int .i64 x.code]
def Row.dat (x : Row) : Dat := .s [.i x.who, .i x.cell, .b x.busy, x.ord.dat, .i x.seq, .i x.code]
theorem Row.dat_inj {x y : Row} (h : x.dat = y.dat) : x = y := by
  cases x; cases y
  simp only [Row.dat, Dat.s.injEq, List.cons.injEq, Dat.i.injEq, Dat.b.injEq, and_true] at h
  obtain ⟨h0, h1, h2, h3, h4, h5⟩ := h
  simp only [Row.mk.injEq]
  exact ⟨h0, h1, h2, Ord.dat_inj h3, h4, h5⟩
structure Note where
  who : Int
  seq : Int
  code : Int
deriving DecidableEq
def Note.cells (x : Note) : List Value := [.int .i64 x.who, .int .i64 x.seq, .int .i64 x.code]
def Note.dat (x : Note) : Dat := .s [.i x.who, .i x.seq, .i x.code]
theorem Note.dat_inj {x y : Note} (h : x.dat = y.dat) : x = y := by
  cases x; cases y
  simp only [Note.dat, Dat.s.injEq, List.cons.injEq, Dat.i.injEq, and_true] at h
  simp only [Note.mk.injEq]; exact h
structure Onw where
  wk : Wlk
  here : Bool
deriving DecidableEq
def Onw.cells (x : Onw) : List Value := [.int .i64 x.wk.id, .int .i64 x.wk.at_, .int .i64 x.wk.coins, .int .i64 x.wk.seq, .int .i64 x.wk.last, .bool x.here]
def Onw.dat (x : Onw) : Dat := .s [x.wk.dat, .b x.here]
theorem Onw.dat_inj {x y : Onw} (h : x.dat = y.dat) : x = y := by
  cases x; cases y
  simp only [Onw.dat, Dat.s.injEq, List.cons.injEq, Dat.b.injEq, and_true] at h
  obtain ⟨h0, h1⟩ := h
  simp only [Onw.mk.injEq]
  exact ⟨Wlk.dat_inj h0, h1⟩
end Go.Proofs.Ytbbpipbemhggdaa

namespace Go.Proofs.Ytbbpipbemhggdaa
open Go.RowKit

theorem run_eq_Wlk (d : Nat) (w : World) (a0 a1 a2 a3 a4 b0 b1 b2 b3 b4 : Int) : (Op.equalIn (d + 2) 52 (.agg #[.int .i64 a0, .int .i64 a1, .int .i64 a2, .int .i64 a3, .int .i64 a4]) (.agg #[.int .i64 b0, .int .i64 b1, .int .i64 b2, .int .i64 b3, .int .i64 b4])).run Try.prog w = .ok ((a0 == b0) && ((a1 == b1) && ((a2 == b2) && ((a3 == b3) && ((a4 == b4)))))) w := by
  go_simp
  (repeat' split) <;> simp_all
attribute [go_sem high] run_eq_Wlk

theorem run_eq_Pcl (d : Nat) (w : World) (a0 a1 a2 a3 a4 a5 a6 a7 b0 b1 b2 b3 b4 b5 b6 b7 : Int) : (Op.equalIn (d + 3) 91 (.agg #[.int .i64 a0, .int .i64 a1, .int .i64 a2, .int .i64 a3, .int .i64 a4, .int .i64 a5, .int .i64 a6, .int .i64 a7]) (.agg #[.int .i64 b0, .int .i64 b1, .int .i64 b2, .int .i64 b3, .int .i64 b4, .int .i64 b5, .int .i64 b6, .int .i64 b7])).run Try.prog w = .ok ((a0 == b0) && ((a1 == b1) && (((a2 == b2) && ((a3 == b3) && ((a4 == b4) && ((a5 == b5) && ((a6 == b6)))))) && ((a7 == b7))))) w := by
  go_simp
  (repeat' split) <;> simp_all
attribute [go_sem high] run_eq_Pcl

theorem run_eq_Gst (d : Nat) (w : World) (a0 a1 a2 a3 a4 a5 a6 b0 b1 b2 b3 b4 b5 b6 : Int) : (Op.equalIn (d + 3) 71 (.agg #[.int .i64 a0, .int .i64 a1, .int .i64 a2, .int .i64 a3, .int .i64 a4, .int .i64 a5, .int .i64 a6]) (.agg #[.int .i64 b0, .int .i64 b1, .int .i64 b2, .int .i64 b3, .int .i64 b4, .int .i64 b5, .int .i64 b6])).run Try.prog w = .ok ((a0 == b0) && ((a1 == b1) && (((a2 == b2) && ((a3 == b3) && ((a4 == b4) && ((a5 == b5) && ((a6 == b6))))))))) w := by
  go_simp
  (repeat' split) <;> simp_all
attribute [go_sem high] run_eq_Gst

end Go.Proofs.Ytbbpipbemhggdaa

namespace Go.Proofs.Ytbbpipbemhggdaa
open Go.RowKit

theorem ret_bool {a b : Bool} (h : a = b) : Ending.returned (.bool a) = .returned (.bool b) := by rw [h]
theorem ret_int {a b : Int} (h : a = b) : Ending.returned (.int .i64 a) = .returned (.int .i64 b) := by rw [h]

def inB (n lo hi : Int) : Bool := decide (lo ≤ n ∧ n ≤ hi)
theorem inB_iff {n lo hi : Int} : inB n lo hi = true ↔ lo ≤ n ∧ n ≤ hi := by simp [inB]
theorem inB_not {n lo hi : Int} : inB n lo hi = false ↔ ¬ (lo ≤ n ∧ n ≤ hi) := by simp [inB]
def plcOk (m : Mp) : Bool := inB m.c 2 4 && inB m.w 2 8
theorem plcOk_iff {m : Mp} : plcOk m = true ↔ (2 ≤ m.c ∧ m.c ≤ 4) ∧ (2 ≤ m.w ∧ m.w ≤ 8) := by simp [plcOk, inB_iff]
def plcCell (m : Mp) (p : Int) : Int := if plcOk m = true ∧ inB p 0 (m.c * m.w - 1) = true then p / m.w else -1
def plcSide (m : Mp) (cell side : Int) : Int :=
  if plcOk m = true ∧ inB cell 0 (m.c - 1) = true ∧ inB side 0 1 = true ∧ inB (cell + (2 * side - 1)) 0 (m.c - 1) = true then cell + (2 * side - 1) else -1
def plcEdge (m : Mp) (p side : Int) : Bool :=
  (plcCell m p != -1) && (plcSide m (plcCell m p) side != -1) && (plcCell m (p + (2 * side - 1)) != plcCell m p)

theorem l1In_c (n lo hi : Int) (w : World) : Calls Try.prog 60 #[.int .i64 n, .int .i64 lo, .int .i64 hi] w fun e w' => e = .returned (.bool (inB n lo hi)) ∧ w = w' := by
  go_enter Try.func60, Try.ntmps60
  go_wp2
  all_goals go_ret
  all_goals exact ⟨ret_bool (by simp [inB]; omega), rfl⟩

theorem in_c (n lo hi : Int) (w : World) : Calls Try.prog 61 #[.int .i64 n, .int .i64 lo, .int .i64 hi] w fun e w' => e = .returned (.bool (inB n lo hi)) ∧ w = w' := by
  go_enter Try.func61, Try.ntmps61
  go_wp2
  all_goals go_ret
  all_goals exact ⟨ret_bool (by simp [inB]; omega), rfl⟩

theorem sPlcOk_c (m : Mp) (w : World) : Calls Try.prog 14 #[.agg #[.int .i64 m.c, .int .i64 m.w]] w fun e w' => e = .returned (.bool (plcOk m)) ∧ Ext w w' := by
  by_cases h : inB m.c 2 4 = true
  all_goals
    go_enter Try.func14, Try.ntmps14
    go_wp2_with (first | (go_at_call 60; refine (l1In_c _ _ _ _).mono ?_; rintro e w' ⟨rfl, rfl⟩))
    go_ret
    exact ⟨ret_bool (by simp [plcOk, h]), zq0⟩

theorem iPlcOk_c (m : Mp) (w : World) : Calls Try.prog 13 #[.agg #[.int .i64 m.c, .int .i64 m.w]] w fun e w' => e = .returned (.bool (plcOk m)) ∧ Ext w w' := by
  by_cases h : inB m.c 2 4 = true
  all_goals
    go_enter Try.func13, Try.ntmps13
    go_wp2_with (first | (go_at_call 61; refine (in_c _ _ _ _).mono ?_; rintro e w' ⟨rfl, rfl⟩))
    go_ret
    exact ⟨ret_bool (by simp [plcOk, h]), zq0⟩

theorem isSide_c (n : Int) (w : World) : Calls Try.prog 58 #[.int .i64 n] w fun e w' => e = .returned (.bool (inB n 0 1)) ∧ w = w' := by
  by_cases h : n = 0
  · subst h
    go_enter Try.func58, Try.ntmps58
    go_wp2
    go_ret
    exact ⟨rfl, rfl⟩
  · have h0 : (n == 0) = false := by simpa using h
    go_enter Try.func58, Try.ntmps58
    go_wp2
    go_ret
    exact ⟨ret_bool (by rw [Bool.eq_iff_iff, inB_iff]; simp; omega), rfl⟩

theorem toward_c (n : Int) (w : World) (h0 : 0 ≤ n) (h1 : n ≤ 1) : Calls Try.prog 59 #[.int .i64 n] w fun e w' => e = .returned (.int .i64 (2 * n - 1)) ∧ w = w' := by
  go_enter Try.func59, Try.ntmps59
  go_wp2
  all_goals go_ret
  all_goals exact ⟨rfl, rfl⟩

theorem hasCell_c (m : Mp) (n : Int) (w : World) : Calls Try.prog 57 #[.agg #[.int .i64 m.c, .int .i64 m.w], .int .i64 n] w fun e w' => e = .returned (.bool (inB n 0 (wrap64 (m.c - 1)))) ∧ Ext w w' := by
  go_enter Try.func57, Try.ntmps57
  go_wp2_with (first | (go_at_call 61; refine (in_c _ _ _ _).mono ?_; rintro e w' ⟨rfl, rfl⟩))
  go_ret
  exact ⟨rfl, zq0⟩
theorem hasCell_ok (m : Mp) (h : plcOk m = true) (n : Int) (w : World) : Calls Try.prog 57 #[.agg #[.int .i64 m.c, .int .i64 m.w], .int .i64 n] w fun e w' => e = .returned (.bool (inB n 0 (m.c - 1))) ∧ Ext w w' := by
  have e : wrap64 (m.c - 1) = m.c - 1 := by have := plcOk_iff.1 h; exact IntWalk.wrap64_in _ (by omega)
  rw [← e]
  exact hasCell_c m n w

theorem mul_bd {m : Mp} (h : plcOk m = true) : 4 ≤ m.c * m.w ∧ m.c * m.w ≤ 32 := by
  obtain ⟨⟨h1, h2⟩, h3, h4⟩ := plcOk_iff.1 h
  have a1 : 2 * m.w ≤ m.c * m.w := Int.mul_le_mul_of_nonneg_right h1 (by omega)
  have a2 : m.c * m.w ≤ 4 * m.w := Int.mul_le_mul_of_nonneg_right h2 (by omega)
  omega
theorem plcCell_bad {m : Mp} (p : Int) (h : plcOk m = false) : plcCell m p = -1 := by simp [plcCell, h]
theorem plcCell_out {m : Mp} {p : Int} (h : inB p 0 (m.c * m.w - 1) = false) : plcCell m p = -1 := by simp [plcCell, h]
theorem plcCell_in {m : Mp} {p : Int} (h : plcOk m = true) (h2 : inB p 0 (m.c * m.w - 1) = true) : plcCell m p = p / m.w := by simp [plcCell, h, h2]


theorem sPlcCell_c (m : Mp) (p : Int) (w : World) : Calls Try.prog 17 #[.agg #[.int .i64 m.c, .int .i64 m.w], .int .i64 p] w fun e w' => e = .returned (.int .i64 (plcCell m p)) ∧ Ext w w' := by
  by_cases h : plcOk m = true
  · obtain ⟨⟨h1, h2⟩, h3, h4⟩ := plcOk_iff.1 h
    obtain ⟨b1, b2⟩ := mul_bd h
    by_cases hp : inB p 0 (m.c * m.w - 1) = true
    · obtain ⟨p1, p2⟩ := inB_iff.1 hp
      have E := hid (plcCell_in h hp)
      go_enter Try.func17, Try.ntmps17
      go_wp2_with (first | (go_at_call 14; refine (sPlcOk_c _ _).mono ?_; rintro e w' ⟨rfl, t, rfl⟩) | (go_at_call 60; refine (l1In_c _ _ _ _).mono ?_; rintro e w' ⟨rfl, rfl⟩))
      go_ret
      exact ⟨ret_int (by rw [E.out]), zq0⟩
    · have hp' : inB p 0 (m.c * m.w - 1) = false := by simpa using hp
      clear hp
      have E := hid (plcCell_out hp')
      go_enter Try.func17, Try.ntmps17
      go_wp2_with (first | (go_at_call 14; refine (sPlcOk_c _ _).mono ?_; rintro e w' ⟨rfl, t, rfl⟩) | (go_at_call 60; refine (l1In_c _ _ _ _).mono ?_; rintro e w' ⟨rfl, rfl⟩))
      go_ret
      exact ⟨ret_int (by rw [E.out]), zq0⟩
  · have h' : plcOk m = false := by simpa using h
    clear h
    have E := hid (plcCell_bad p h')
    go_enter Try.func17, Try.ntmps17
    go_wp2_with (first | (go_at_call 14; refine (sPlcOk_c _ _).mono ?_; rintro e w' ⟨rfl, t, rfl⟩) | (go_at_call 60; refine (l1In_c _ _ _ _).mono ?_; rintro e w' ⟨rfl, rfl⟩))
    go_ret
    exact ⟨ret_int (by rw [E.out]), zq0⟩

theorem iPlcCell_c (m : Mp) (p : Int) (w : World) : Calls Try.prog 16 #[.agg #[.int .i64 m.c, .int .i64 m.w], .int .i64 p] w fun e w' => e = .returned (.int .i64 (plcCell m p)) ∧ Ext w w' := by
  by_cases h : plcOk m = true
  · obtain ⟨⟨h1, h2⟩, h3, h4⟩ := plcOk_iff.1 h
    obtain ⟨b1, b2⟩ := mul_bd h
    by_cases hp : inB p 0 (m.c * m.w - 1) = true
    · obtain ⟨p1, p2⟩ := inB_iff.1 hp
      have E := hid (plcCell_in h hp)
      go_enter Try.func16, Try.ntmps16
      go_wp2_with (first | (go_at_call 13; refine (iPlcOk_c _ _).mono ?_; rintro e w' ⟨rfl, t, rfl⟩) | (go_at_call 61; refine (in_c _ _ _ _).mono ?_; rintro e w' ⟨rfl, rfl⟩))
      go_ret
      exact ⟨ret_int (by rw [E.out]), zq0⟩
    · have hp' : inB p 0 (m.c * m.w - 1) = false := by simpa using hp
      clear hp
      have E := hid (plcCell_out hp')
      go_enter Try.func16, Try.ntmps16
      go_wp2_with (first | (go_at_call 13; refine (iPlcOk_c _ _).mono ?_; rintro e w' ⟨rfl, t, rfl⟩) | (go_at_call 61; refine (in_c _ _ _ _).mono ?_; rintro e w' ⟨rfl, rfl⟩))
      go_ret
      exact ⟨ret_int (by rw [E.out]), zq0⟩
  · have h' : plcOk m = false := by simpa using h
    clear h
    have E := hid (plcCell_bad p h')
    go_enter Try.func16, Try.ntmps16
    go_wp2_with (first | (go_at_call 13; refine (iPlcOk_c _ _).mono ?_; rintro e w' ⟨rfl, t, rfl⟩) | (go_at_call 61; refine (in_c _ _ _ _).mono ?_; rintro e w' ⟨rfl, rfl⟩))
    go_ret
    exact ⟨ret_int (by rw [E.out]), zq0⟩

theorem plcSide_bad {m : Mp} (c s : Int) (h : plcOk m = false) : plcSide m c s = -1 := by simp [plcSide, h]
theorem plcSide_out {m : Mp} {c : Int} (s : Int) (h : inB c 0 (m.c - 1) = false) : plcSide m c s = -1 := by simp [plcSide, h]
theorem plcSide_no {m : Mp} (c : Int) {s : Int} (h : inB s 0 1 = false) : plcSide m c s = -1 := by simp [plcSide, h]
theorem plcSide_end {m : Mp} {c s : Int} (h : inB (c + (2 * s - 1)) 0 (m.c - 1) = false) : plcSide m c s = -1 := by simp [plcSide, h]
theorem plcSide_in {m : Mp} {c s : Int} (h1 : plcOk m = true) (h2 : inB c 0 (m.c - 1) = true) (h3 : inB s 0 1 = true) (h : inB (c + (2 * s - 1)) 0 (m.c - 1) = true) : plcSide m c s = c + (2 * s - 1) := by simp [plcSide, h, h1, h2, h3]

theorem iPlcSide_c (m : Mp) (c s : Int) (w : World) : Calls Try.prog 11 #[.agg #[.int .i64 m.c, .int .i64 m.w], .int .i64 c, .int .i64 s] w fun e w' => e = .returned (.int .i64 (plcSide m c s)) ∧ Ext w w' := by
  cases h : plcOk m with
  | false =>
    have E := hid (plcSide_bad c s h)
    go_enter Try.func11, Try.ntmps11
    go_wp2
    with_reducible refine wp_region_ext (by kernel_rfl) (by kernel_rfl) ?_
    repeat (go_big_quiet_step ((first | (go_at_call 13; first | exact quiet_call (iPlcOk_c _ _) | exact quiet_call2 (iPlcOk_c _ _)) | (go_at_call 57; first | exact quiet_call (hasCell_ok _ (by assumption) _ _) | exact quiet_call2 (hasCell_ok _ (by assumption) _ _)) | (go_at_call 58; first | exact quiet_same (isSide_c _ _) | exact quiet_same2 (isSide_c _ _)) | (go_at_call 59; first | exact quiet_same (toward_c _ _ (by omega) (by omega)) | exact quiet_same2 (toward_c _ _ (by omega) (by omega))))))
    refine wpQuiet_nil ?_
    rintro _ ⟨tq, rfl⟩
    go_wp2
    go_ret
    exact ⟨ret_int (by rw [E.out]), zq0⟩
  | true =>
    obtain ⟨⟨h1, h2⟩, h3, h4⟩ := plcOk_iff.1 h
    cases hc : inB c 0 (m.c - 1) with
    | false =>
      have E := hid (plcSide_out s hc)
      go_enter Try.func11, Try.ntmps11
      go_wp2
      with_reducible refine wp_region_ext (by kernel_rfl) (by kernel_rfl) ?_
      repeat (go_big_quiet_step ((first | (go_at_call 13; first | exact quiet_call (iPlcOk_c _ _) | exact quiet_call2 (iPlcOk_c _ _)) | (go_at_call 57; first | exact quiet_call (hasCell_ok _ (by assumption) _ _) | exact quiet_call2 (hasCell_ok _ (by assumption) _ _)) | (go_at_call 58; first | exact quiet_same (isSide_c _ _) | exact quiet_same2 (isSide_c _ _)) | (go_at_call 59; first | exact quiet_same (toward_c _ _ (by omega) (by omega)) | exact quiet_same2 (toward_c _ _ (by omega) (by omega))))))
      refine wpQuiet_nil ?_
      rintro _ ⟨tq, rfl⟩
      go_wp2
      go_ret
      exact ⟨ret_int (by rw [E.out]), zq0⟩
    | true =>
      obtain ⟨c1, c2⟩ := inB_iff.1 hc
      cases hs : inB s 0 1 with
      | false =>
        have E := hid (plcSide_no (m := m) c hs)
        go_enter Try.func11, Try.ntmps11
        go_wp2
        with_reducible refine wp_region_ext (by kernel_rfl) (by kernel_rfl) ?_
        repeat (go_big_quiet_step ((first | (go_at_call 13; first | exact quiet_call (iPlcOk_c _ _) | exact quiet_call2 (iPlcOk_c _ _)) | (go_at_call 57; first | exact quiet_call (hasCell_ok _ (by assumption) _ _) | exact quiet_call2 (hasCell_ok _ (by assumption) _ _)) | (go_at_call 58; first | exact quiet_same (isSide_c _ _) | exact quiet_same2 (isSide_c _ _)) | (go_at_call 59; first | exact quiet_same (toward_c _ _ (by omega) (by omega)) | exact quiet_same2 (toward_c _ _ (by omega) (by omega))))))
        refine wpQuiet_nil ?_
        rintro _ ⟨tq, rfl⟩
        go_wp2
        go_ret
        exact ⟨ret_int (by rw [E.out]), zq0⟩
      | true =>
        obtain ⟨s1, s2⟩ := inB_iff.1 hs
        cases hd : inB (c + (2 * s - 1)) 0 (m.c - 1) with
        | false =>
          have E := hid (plcSide_end hd)
          go_enter Try.func11, Try.ntmps11
          go_wp2
          with_reducible refine wp_region_ext (by kernel_rfl) (by kernel_rfl) ?_
          repeat (go_big_quiet_step ((first | (go_at_call 13; first | exact quiet_call (iPlcOk_c _ _) | exact quiet_call2 (iPlcOk_c _ _)) | (go_at_call 57; first | exact quiet_call (hasCell_ok _ (by assumption) _ _) | exact quiet_call2 (hasCell_ok _ (by assumption) _ _)) | (go_at_call 58; first | exact quiet_same (isSide_c _ _) | exact quiet_same2 (isSide_c _ _)) | (go_at_call 59; first | exact quiet_same (toward_c _ _ (by omega) (by omega)) | exact quiet_same2 (toward_c _ _ (by omega) (by omega))))))
          refine wpQuiet_nil ?_
          rintro _ ⟨tq, rfl⟩
          go_wp2
          go_ret
          exact ⟨ret_int (by rw [E.out]), zq0⟩
        | true =>
          have E := hid (plcSide_in h hc hs hd)
          go_enter Try.func11, Try.ntmps11
          go_wp2
          with_reducible refine wp_region_ext (by kernel_rfl) (by kernel_rfl) ?_
          repeat (go_big_quiet_step ((first | (go_at_call 13; first | exact quiet_call (iPlcOk_c _ _) | exact quiet_call2 (iPlcOk_c _ _)) | (go_at_call 57; first | exact quiet_call (hasCell_ok _ (by assumption) _ _) | exact quiet_call2 (hasCell_ok _ (by assumption) _ _)) | (go_at_call 58; first | exact quiet_same (isSide_c _ _) | exact quiet_same2 (isSide_c _ _)) | (go_at_call 59; first | exact quiet_same (toward_c _ _ (by omega) (by omega)) | exact quiet_same2 (toward_c _ _ (by omega) (by omega))))))
          refine wpQuiet_nil ?_
          rintro _ ⟨tq, rfl⟩
          go_wp2_with (first | (go_at_call 59; refine (toward_c _ _ (by omega) (by omega)).mono ?_; rintro e w' ⟨rfl, rfl⟩))
          go_ret
          exact ⟨ret_int (by rw [E.out]), zq0⟩

theorem sPlcSide_c (m : Mp) (c s : Int) (w : World) : Calls Try.prog 12 #[.agg #[.int .i64 m.c, .int .i64 m.w], .int .i64 c, .int .i64 s] w fun e w' => e = .returned (.int .i64 (plcSide m c s)) ∧ Ext w w' := by
  cases h : plcOk m with
  | false =>
    have E := hid (plcSide_bad c s h)
    go_enter Try.func12, Try.ntmps12
    go_wp2_with (first | (go_at_call 14; refine (sPlcOk_c _ _).mono ?_; rintro e w' ⟨rfl, t, rfl⟩) | (go_at_call 60; refine (l1In_c _ _ _ _).mono ?_; rintro e w' ⟨rfl, rfl⟩))
    go_ret
    exact ⟨ret_int (by rw [E.out]), zq0⟩
  | true =>
    obtain ⟨⟨h1, h2⟩, h3, h4⟩ := plcOk_iff.1 h
    cases hc : inB c 0 (m.c - 1) with
    | false =>
      have E := hid (plcSide_out s hc)
      go_enter Try.func12, Try.ntmps12
      go_wp2_with (first | (go_at_call 14; refine (sPlcOk_c _ _).mono ?_; rintro e w' ⟨rfl, t, rfl⟩) | (go_at_call 60; refine (l1In_c _ _ _ _).mono ?_; rintro e w' ⟨rfl, rfl⟩))
      go_ret
      exact ⟨ret_int (by rw [E.out]), zq0⟩
    | true =>
      obtain ⟨c1, c2⟩ := inB_iff.1 hc
      by_cases hs0 : s = 0
      · subst hs0
        by_cases hd : 0 < c
        · have E := hid (plcSide_in (s := 0) h hc rfl (inB_iff.2 (by omega)))
          go_enter Try.func12, Try.ntmps12
          go_wp2_with (first | (go_at_call 14; refine (sPlcOk_c _ _).mono ?_; rintro e w' ⟨rfl, t, rfl⟩) | (go_at_call 60; refine (l1In_c _ _ _ _).mono ?_; rintro e w' ⟨rfl, rfl⟩))
          go_ret
          exact ⟨ret_int (by rw [E.out]; omega), zq0⟩
        · have E := hid (plcSide_end (m := m) (c := c) (s := 0) (inB_not.2 (by omega)))
          go_enter Try.func12, Try.ntmps12
          go_wp2_with (first | (go_at_call 14; refine (sPlcOk_c _ _).mono ?_; rintro e w' ⟨rfl, t, rfl⟩) | (go_at_call 60; refine (l1In_c _ _ _ _).mono ?_; rintro e w' ⟨rfl, rfl⟩))
          go_ret
          exact ⟨ret_int (by rw [E.out]), zq0⟩
      · have q0 : (s == 0) = false := by simpa using hs0
        by_cases hs1 : s = 1
        · subst hs1
          by_cases hd : c < m.c - 1
          · have E := hid (plcSide_in (s := 1) h hc rfl (inB_iff.2 (by omega)))
            go_enter Try.func12, Try.ntmps12
            go_wp2_with (first | (go_at_call 14; refine (sPlcOk_c _ _).mono ?_; rintro e w' ⟨rfl, t, rfl⟩) | (go_at_call 60; refine (l1In_c _ _ _ _).mono ?_; rintro e w' ⟨rfl, rfl⟩))
            go_ret
            exact ⟨ret_int (by rw [E.out]; omega), zq0⟩
          · have E := hid (plcSide_end (m := m) (c := c) (s := 1) (inB_not.2 (by omega)))
            go_enter Try.func12, Try.ntmps12
            go_wp2_with (first | (go_at_call 14; refine (sPlcOk_c _ _).mono ?_; rintro e w' ⟨rfl, t, rfl⟩) | (go_at_call 60; refine (l1In_c _ _ _ _).mono ?_; rintro e w' ⟨rfl, rfl⟩))
            go_ret
            exact ⟨ret_int (by rw [E.out]), zq0⟩
        · have q1 : (s == 1) = false := by simpa using hs1
          have E := hid (plcSide_no (m := m) c (s := s) (inB_not.2 (by omega)))
          clear hs0 hs1
          go_enter Try.func12, Try.ntmps12
          go_wp2_with (first | (go_at_call 14; refine (sPlcOk_c _ _).mono ?_; rintro e w' ⟨rfl, t, rfl⟩) | (go_at_call 60; refine (l1In_c _ _ _ _).mono ?_; rintro e w' ⟨rfl, rfl⟩))
          go_ret
          exact ⟨ret_int (by rw [E.out]), zq0⟩

theorem plcCell_lo (m : Mp) (p : Int) : -1 ≤ plcCell m p ∧ plcCell m p ≤ 3 := by
  unfold plcCell
  split
  · rename_i h
    obtain ⟨h1, h2⟩ := h
    obtain ⟨⟨a1, a2⟩, a3, a4⟩ := plcOk_iff.1 h1
    obtain ⟨b1, b2⟩ := mul_bd h1
    obtain ⟨p1, p2⟩ := inB_iff.1 h2
    have k1 : 0 ≤ p / m.w := Int.ediv_nonneg p1 (by omega)
    have k2 : p / m.w < 4 := Int.ediv_lt_of_lt_mul (by omega) (by have := Int.mul_le_mul_of_nonneg_right a2 (show 0 ≤ m.w by omega); omega)
    omega
  · omega
theorem plcCell_ne {m : Mp} {p : Int} (h : plcCell m p ≠ -1) : plcOk m = true ∧ 0 ≤ p ∧ p ≤ m.c * m.w - 1 ∧ plcCell m p = p / m.w ∧ 0 ≤ plcCell m p ∧ plcCell m p ≤ m.c - 1 := by
  unfold plcCell at h ⊢
  split at h
  · rename_i hh
    obtain ⟨h1, h2⟩ := hh
    obtain ⟨p1, p2⟩ := inB_iff.1 h2
    obtain ⟨⟨a1, a2⟩, a3, a4⟩ := plcOk_iff.1 h1
    rw [if_pos ⟨h1, h2⟩]
    have k1 : 0 ≤ p / m.w := Int.ediv_nonneg p1 (by omega)
    have k2 : p / m.w < m.c := Int.ediv_lt_of_lt_mul (by omega) (by omega)
    exact ⟨h1, p1, p2, rfl, k1, by omega⟩
  · exact absurd rfl h
theorem plcSide_ne {m : Mp} {c s : Int} (h : plcSide m c s ≠ -1) : plcOk m = true ∧ 0 ≤ c ∧ c ≤ m.c - 1 ∧ 0 ≤ s ∧ s ≤ 1 ∧ plcSide m c s = c + (2 * s - 1) ∧ 0 ≤ c + (2 * s - 1) ∧ c + (2 * s - 1) ≤ m.c - 1 := by
  unfold plcSide at h ⊢
  split at h
  · rename_i hh
    obtain ⟨h1, h2, h3, h4⟩ := hh
    rw [if_pos ⟨h1, h2, h3, h4⟩]
    have := inB_iff.1 h2; have := inB_iff.1 h3; have := inB_iff.1 h4
    exact ⟨h1, by omega, by omega, by omega, by omega, rfl, by omega, by omega⟩
  · exact absurd rfl h

theorem plcEdge_1 {m : Mp} {p : Int} (s : Int) (h : plcCell m p = -1) : plcEdge m p s = false := by simp [plcEdge, h]
theorem plcEdge_2 {m : Mp} {p s : Int} (h : plcSide m (plcCell m p) s = -1) : plcEdge m p s = false := by simp [plcEdge, h]
theorem plcEdge_3 {m : Mp} {p s : Int} (h : plcCell m p ≠ -1) (h2 : plcSide m (plcCell m p) s ≠ -1) : plcEdge m p s = (plcCell m (p + (2 * s - 1)) != plcCell m p) := by simp [plcEdge, h, h2]

theorem plcCell_at {m : Mp} {p c : Int} (ok : plcOk m = true) (c1 : 0 ≤ c) (c2 : c ≤ m.c - 1) (h1 : c * m.w ≤ p) (h2 : p < c * m.w + m.w) : plcCell m p = c := by
  obtain ⟨⟨a1, a2⟩, a3, a4⟩ := plcOk_iff.1 ok
  have n1 : 0 ≤ c * m.w := Int.mul_nonneg c1 (by omega)
  have n2 : (c + 1) * m.w ≤ m.c * m.w := Int.mul_le_mul_of_nonneg_right (by omega) (by omega)
  rw [Int.add_mul, Int.one_mul] at n2
  rw [plcCell_in ok (inB_iff.2 (by omega))]
  have := Int.ediv_emod_unique (a := p) (b := m.w) (r := p - c * m.w) (q := c) (by omega)
  exact (this.2 ⟨by rw [Int.mul_comm]; omega, by omega, by omega⟩).1
theorem plcCell_eq {m : Mp} {p : Int} (ok : plcOk m = true) (h : plcCell m p ≠ -1) : plcCell m p * m.w ≤ p ∧ p < plcCell m p * m.w + m.w := by
  rw [(plcCell_ne h).2.2.2.1]
  obtain ⟨⟨a1, a2⟩, a3, a4⟩ := plcOk_iff.1 ok
  have e1 := Int.mul_ediv_add_emod p m.w
  have e2 := Int.emod_nonneg p (show m.w ≠ 0 by omega)
  have e3 := Int.emod_lt_of_pos p (show 0 < m.w by omega)
  rw [Int.mul_comm] at e1
  omega
theorem edge_left {m : Mp} {p : Int} (ok : plcOk m = true) (k : 1 ≤ plcCell m p) (k2 : plcCell m p ≤ m.c - 1) :
    (plcCell m (p + (2 * 0 - 1)) != plcCell m p) = (p == plcCell m p * m.w) := by
  have h : plcCell m p ≠ -1 := by omega
  obtain ⟨h1, h2⟩ := plcCell_eq ok h
  obtain ⟨⟨a1, a2⟩, a3, a4⟩ := plcOk_iff.1 ok
  generalize hc : plcCell m p = c at *
  by_cases hp : p = c * m.w
  · have : plcCell m (p + (2 * 0 - 1)) = c - 1 := plcCell_at ok (by omega) (by omega) (by rw [Int.sub_mul]; omega) (by rw [Int.sub_mul]; omega)
    rw [this]; simp [hp]; omega
  · have : plcCell m (p + (2 * 0 - 1)) = c := plcCell_at ok (by omega) (by omega) (by omega) (by omega)
    rw [this]; simp [hp]
theorem edge_right {m : Mp} {p : Int} (ok : plcOk m = true) (k : 0 ≤ plcCell m p) (k2 : plcCell m p + 1 ≤ m.c - 1) :
    (plcCell m (p + (2 * 1 - 1)) != plcCell m p) = (p == plcCell m p * m.w + m.w - 1) := by
  have h : plcCell m p ≠ -1 := by omega
  obtain ⟨h1, h2⟩ := plcCell_eq ok h
  obtain ⟨⟨a1, a2⟩, a3, a4⟩ := plcOk_iff.1 ok
  generalize hc : plcCell m p = c at *
  by_cases hp : p = c * m.w + m.w - 1
  · have : plcCell m (p + (2 * 1 - 1)) = c + 1 := plcCell_at ok (by omega) (by omega) (by rw [Int.add_mul]; omega) (by rw [Int.add_mul]; omega)
    rw [this]; simp [hp]; omega
  · have : plcCell m (p + (2 * 1 - 1)) = c := plcCell_at ok (by omega) (by omega) (by omega) (by omega)
    rw [this]; simp [hp]

theorem bne_f {a b : Int} (h : a = b) : (a != b) = false := by simp [h]
theorem bne_t {a b : Int} (h : a ≠ b) : (a != b) = true := by simp [h]
theorem beq_f {a b : Int} (h : a ≠ b) : (a == b) = false := by simp [h]
theorem beq_t {a b : Int} (h : a = b) : (a == b) = true := by simp [h]

theorem iPlcEdge_c (m : Mp) (p s : Int) (w : World) : Calls Try.prog 19 #[.agg #[.int .i64 m.c, .int .i64 m.w], .int .i64 p, .int .i64 s] w fun e w' => e = .returned (.bool (plcEdge m p s)) ∧ Ext w w' := by
  by_cases h : plcCell m p = -1
  · have E := hid (plcEdge_1 s h)
    have q := bne_f h
    clear h
    go_enter Try.func19, Try.ntmps19
    go_wp2_with (first | (go_at_call 16; refine (iPlcCell_c _ _ _).mono ?_; rintro e w' ⟨rfl, t, rfl⟩))
    with_reducible refine wp_region_ext (by kernel_rfl) (by kernel_rfl) ?_
    repeat (go_big_quiet_step ((first | (go_at_call 11; first | exact quiet_call (iPlcSide_c _ _ _ _) | exact quiet_call2 (iPlcSide_c _ _ _ _)) | (go_at_call 59; first | exact quiet_same (toward_c _ _ (by omega) (by omega)) | exact quiet_same2 (toward_c _ _ (by omega) (by omega))) | (go_at_call 16; first | exact quiet_call (iPlcCell_c _ _ _) | exact quiet_call2 (iPlcCell_c _ _ _)))))
    refine wpQuiet_nil ?_
    rintro _ ⟨tq, rfl⟩
    go_wp2
    go_ret
    exact ⟨ret_bool (by rw [E.out]), zq0⟩
  · have q := bne_t h
    by_cases hd : plcSide m (plcCell m p) s = -1
    · have E := hid (plcEdge_2 hd)
      have q2 := bne_f hd
      clear h hd
      go_enter Try.func19, Try.ntmps19
      go_wp2_with (first | (go_at_call 16; refine (iPlcCell_c _ _ _).mono ?_; rintro e w' ⟨rfl, t, rfl⟩))
      with_reducible refine wp_region_ext (by kernel_rfl) (by kernel_rfl) ?_
      repeat (go_big_quiet_step ((first | (go_at_call 11; first | exact quiet_call (iPlcSide_c _ _ _ _) | exact quiet_call2 (iPlcSide_c _ _ _ _)) | (go_at_call 59; first | exact quiet_same (toward_c _ _ (by omega) (by omega)) | exact quiet_same2 (toward_c _ _ (by omega) (by omega))) | (go_at_call 16; first | exact quiet_call (iPlcCell_c _ _ _) | exact quiet_call2 (iPlcCell_c _ _ _)))))
      refine wpQuiet_nil ?_
      rintro _ ⟨tq, rfl⟩
      go_wp2
      go_ret
      exact ⟨ret_bool (by rw [E.out]), zq0⟩
    · have q2 := bne_t hd
      have E := hid (plcEdge_3 h hd)
      have p1 := (plcCell_ne h).2.1
      have p2 := (plcCell_ne h).2.2.1
      have s1 := (plcSide_ne hd).2.2.2.1
      have s2 := (plcSide_ne hd).2.2.2.2.1
      obtain ⟨b1, b2⟩ := mul_bd (plcCell_ne h).1
      clear h hd
      go_enter Try.func19, Try.ntmps19
      go_wp2_with (first | (go_at_call 16; refine (iPlcCell_c _ _ _).mono ?_; rintro e w' ⟨rfl, t, rfl⟩))
      with_reducible refine wp_region_ext (by kernel_rfl) (by kernel_rfl) ?_
      repeat (go_big_quiet_step ((first | (go_at_call 11; first | exact quiet_call (iPlcSide_c _ _ _ _) | exact quiet_call2 (iPlcSide_c _ _ _ _)) | (go_at_call 59; first | exact quiet_same (toward_c _ _ (by omega) (by omega)) | exact quiet_same2 (toward_c _ _ (by omega) (by omega))) | (go_at_call 16; first | exact quiet_call (iPlcCell_c _ _ _) | exact quiet_call2 (iPlcCell_c _ _ _)))))
      refine wpQuiet_nil ?_
      rintro _ ⟨tq, rfl⟩
      go_wp2
      go_ret
      exact ⟨ret_bool (by rw [E.out]), zq0⟩

theorem sPlcEdge_c (m : Mp) (p s : Int) (w : World) : Calls Try.prog 20 #[.agg #[.int .i64 m.c, .int .i64 m.w], .int .i64 p, .int .i64 s] w fun e w' => e = .returned (.bool (plcEdge m p s)) ∧ Ext w w' := by
  by_cases hd : plcSide m (plcCell m p) s = -1
  · have E := hid (plcEdge_2 hd)
    have q := beq_t hd
    clear hd
    go_enter Try.func20, Try.ntmps20
    go_wp2_with (first | (go_at_call 17; refine (sPlcCell_c _ _ _).mono ?_; rintro e w' ⟨rfl, t, rfl⟩) | (go_at_call 12; refine (sPlcSide_c _ _ _ _).mono ?_; rintro e w' ⟨rfl, t, rfl⟩))
    go_ret
    exact ⟨ret_bool (by rw [E.out]), zq0⟩
  · have q := beq_f hd
    have ok := (plcSide_ne hd).1
    have k1 := (plcSide_ne hd).2.1
    have k2 := (plcSide_ne hd).2.2.1
    have s1 := (plcSide_ne hd).2.2.2.1
    have s2 := (plcSide_ne hd).2.2.2.2.1
    have d1 := (plcSide_ne hd).2.2.2.2.2.2.1
    have d2 := (plcSide_ne hd).2.2.2.2.2.2.2
    have h : plcCell m p ≠ -1 := by omega
    have p1 := (plcCell_ne h).2.1
    have p2 := (plcCell_ne h).2.2.1
    have pe := (plcCell_ne h).2.2.2.1
    obtain ⟨⟨a1, a2⟩, a3, a4⟩ := plcOk_iff.1 ok
    obtain ⟨b1, b2⟩ := mul_bd ok
    have E := hid (plcEdge_3 h hd)
    have m1 : plcCell m p * m.w ≤ p ∧ p < plcCell m p * m.w + m.w := by
      rw [pe]
      have e1 := Int.mul_ediv_add_emod p m.w
      have e2 := Int.emod_nonneg p (show m.w ≠ 0 by omega)
      have e3 := Int.emod_lt_of_pos p (show 0 < m.w by omega)
      rw [Int.mul_comm] at e1
      omega
    by_cases hs : s = 0
    · subst hs
      have R := hid (edge_left (p := p) ok (by omega) (by omega))
      clear pe hd h ok
      obtain ⟨m1, m2⟩ := m1
      go_enter Try.func20, Try.ntmps20
      go_wp2_with (first | (go_at_call 17; refine (sPlcCell_c _ _ _).mono ?_; rintro e w' ⟨rfl, t, rfl⟩) | (go_at_call 12; refine (sPlcSide_c _ _ _ _).mono ?_; rintro e w' ⟨rfl, t, rfl⟩))
      go_ret
      exact ⟨ret_bool (by rw [E.out, R.out]), zq0⟩
    · have hs1 : s = 1 := by omega
      subst hs1
      have R := hid (edge_right (p := p) ok (by omega) (by omega))
      clear pe hd h ok hs
      obtain ⟨m1, m2⟩ := m1
      go_enter Try.func20, Try.ntmps20
      go_wp2_with (first | (go_at_call 17; refine (sPlcCell_c _ _ _).mono ?_; rintro e w' ⟨rfl, t, rfl⟩) | (go_at_call 12; refine (sPlcSide_c _ _ _ _).mono ?_; rintro e w' ⟨rfl, t, rfl⟩))
      go_ret
      exact ⟨ret_bool (by rw [E.out, R.out]), zq0⟩
end Go.Proofs.Ytbbpipbemhggdaa

namespace Go.Proofs.Ytbbpipbemhggdaa
open Go.RowKit

def ranged (x : Wlk) : Bool := inB x.id 1 9 && inB x.coins 0 99 && inB x.seq 0 900 && inB x.last 0 9
def wlkOk (m : Mp) (x : Wlk) : Bool := (plcCell m x.at_ != -1) && ranged x
theorem isWalker_c (n : Int) (w : World) : Calls Try.prog 100 #[.int .i64 n] w fun e w' => e = .returned (.bool (inB n 1 9)) ∧ w = w' := by
  go_enter Try.func100, Try.ntmps100
  go_wp2_with (first | (go_at_call 61; refine (in_c _ _ _ _).mono ?_; rintro e w' ⟨rfl, rfl⟩))
  go_ret
  exact ⟨rfl, rfl⟩

theorem ranged_c (x : Wlk) (w : World) : Calls Try.prog 96 #[.agg #[.int .i64 x.id, .int .i64 x.at_, .int .i64 x.coins, .int .i64 x.seq, .int .i64 x.last]] w fun e w' => e = .returned (.bool (ranged x)) ∧ Ext w w' := by
  go_enter Try.func96, Try.ntmps96
  go_wp2_with (first | (go_at_call 61; refine (in_c _ _ _ _).mono ?_; rintro e w' ⟨rfl, rfl⟩) | (go_at_call 100; refine (isWalker_c _ _).mono ?_; rintro e w' ⟨rfl, rfl⟩))
  all_goals go_ret
  all_goals refine ⟨ret_bool ?_, zq0⟩
  all_goals simp_all [ranged]

theorem iWlkOk_c (m : Mp) (x : Wlk) (w : World) : Calls Try.prog 88 #[.agg #[.int .i64 m.c, .int .i64 m.w], .agg #[.int .i64 x.id, .int .i64 x.at_, .int .i64 x.coins, .int .i64 x.seq, .int .i64 x.last]] w fun e w' => e = .returned (.bool (wlkOk m x)) ∧ Ext w w' := by
  go_enter Try.func88, Try.ntmps88
  go_wp2_with (first | (go_at_call 16; refine (iPlcCell_c _ _ _).mono ?_; rintro e w' ⟨rfl, t, rfl⟩) | (go_at_call 96; refine (ranged_c _ _).mono ?_; rintro e w' ⟨rfl, t, rfl⟩))
  all_goals go_ret
  all_goals refine ⟨ret_bool ?_, zq0⟩
  all_goals simp_all [wlkOk]

theorem sWlkOk_c (m : Mp) (x : Wlk) (w : World) : Calls Try.prog 77 #[.agg #[.int .i64 m.c, .int .i64 m.w], .agg #[.int .i64 x.id, .int .i64 x.at_, .int .i64 x.coins, .int .i64 x.seq, .int .i64 x.last]] w fun e w' => e = .returned (.bool (wlkOk m x)) ∧ Ext w w' := by
  go_enter Try.func77, Try.ntmps77
  go_wp2_with (first | (go_at_call 60; refine (l1In_c _ _ _ _).mono ?_; rintro e w' ⟨rfl, rfl⟩) | (go_at_call 17; refine (sPlcCell_c _ _ _).mono ?_; rintro e w' ⟨rfl, t, rfl⟩))
  all_goals go_ret
  all_goals refine ⟨ret_bool ?_, zq0⟩
  all_goals simp_all [wlkOk, ranged]

end Go.Proofs.Ytbbpipbemhggdaa

namespace Go.Proofs.Ytbbpipbemhggdaa
open Go.RowKit

/-- The cells vs read as d in w. -/
def Re (w : World) (s : Sch) (vs : List Value) (d : Dat) : Prop := Rd w.heap.size w s vs d
theorem Re.of {w w' : World} {s : Sch} {vs : List Value} {d : Dat} (h : Re w s vs d) (hE : Ext w w') : Re w' s vs d :=
  Rd.mono hE.size s vs d (Rd.same (hE.same (Nat.le_refl _)) s vs d h)
theorem Re.ext {w : World} {t : Xt} {s : Sch} {vs : List Value} {d : Dat} (h : Re w s vs d) : Re (ext w t) s vs d := h.of ⟨t, rfl⟩
theorem sl_len {hi : Nat} {w : World} {e : Sch} {a : Option Addr} {n c : Nat} {ds : List Dat} (h : Rd hi w (.sl e) [.slice a n c] (.l ds)) : n = ds.length ∧ n ≤ maxLen := by
  unfold Rd at h
  obtain ⟨a', n', c', ds', h1, h2, h3, h4, h5⟩ := h
  simp only [List.cons.injEq, Value.slice.injEq, and_true] at h1
  obtain ⟨rfl, rfl, rfl⟩ := h1
  simp only [Dat.l.injEq] at h2
  subst h2
  exact ⟨h3.symm, h4⟩
theorem Re.len {α : Type} {w : World} {e : Sch} {a : Option Addr} {n c : Nat} {f : α → Dat} {xs : List α} (h : Re w (.sl e) [.slice a n c] (.l (xs.map f))) : n = xs.length := by
  have := (sl_len h).1; simpa using this
theorem Re.max {w : World} {e : Sch} {a : Option Addr} {n c : Nat} {ds : List Dat} (h : Re w (.sl e) [.slice a n c] (.l ds)) : n ≤ 9223372036854775807 := by
  have := (sl_len h).2; simpa [maxLen] using this
/-- Whatever reads as a list is a slice. -/
theorem Re.slice {w : World} {e : Sch} {vs : List Value} {ds : List Dat} (h : Re w (.sl e) vs (.l ds)) : ∃ a c, vs = [.slice a ds.length c] := by
  unfold Re Rd at h
  obtain ⟨a, n, c, ds', h1, h2, h3, h4, h5⟩ := h
  simp only [Dat.l.injEq] at h2
  subst h2
  exact ⟨a, c, by rw [h1, h3]⟩

/-- w' is w but for the blocks B, draws, and blocks added. -/
structure Chg (B : List Nat) (w w' : World) : Prop where
  os : w'.os = w.os
  tape : w'.tape = w.tape
  output : w'.output = w.output
  size : w.heap.size ≤ w'.heap.size
  block : ∀ k, k < w.heap.size → k ∉ B → w'.heap[k]? = w.heap[k]?
theorem Chg.refl (B : List Nat) (w : World) : Chg B w w := ⟨rfl, rfl, rfl, Nat.le_refl _, fun _ _ _ => rfl⟩
theorem Chg.trans {B : List Nat} {a b c : World} (h : Chg B a b) (k : Chg B b c) : Chg B a c :=
  ⟨k.os.trans h.os, k.tape.trans h.tape, k.output.trans h.output, Nat.le_trans h.size k.size, fun i hi hn => (k.block i (Nat.lt_of_lt_of_le hi h.size) hn).trans (h.block i hi hn)⟩
theorem Chg.mono {B B' : List Nat} {w w' : World} (h : Chg B w w') (hs : ∀ b ∈ B, b ∈ B') : Chg B' w w' :=
  ⟨h.os, h.tape, h.output, h.size, fun k hk hn => h.block k hk fun hb => hn (hs k hb)⟩
theorem Chg.of_ext {w w' : World} (h : Ext w w') (B : List Nat) : Chg B w w' := by
  obtain ⟨t, rfl⟩ := h; exact ⟨rfl, rfl, rfl, by simp [ext_size], fun k hk _ => ext_block _ _ _ hk⟩
theorem Chg.drew {B : List Nat} {a w : World} (h : Chg B a w) : Chg B a w.drew := ⟨h.os, h.tape, h.output, h.size, h.block⟩
theorem Chg.set {B : List Nat} {a w : World} (h : Chg B a w) {b o : Nat} (hb : b ∈ B) (v : Value) : Chg B a (w.setCell ⟨b, o, none⟩ v) :=
  h.trans ⟨rfl, rfl, rfl, by simp [World.setCell], fun k _ hn => Below.heap_setCell _ _ _ _ fun e => hn (by subst e; exact hb)⟩
theorem Chg.below {B : List Nat} {w w' : World} {n : Nat} (h : Chg B w w') (hn : n ≤ w.heap.size) (hB : ∀ b ∈ B, n ≤ b) : Below n w w' :=
  ⟨h.os, h.tape, h.output, h.size, fun k hk => h.block k (by omega) fun hb => by have := hB k hb; omega⟩
theorem Below.chg {B : List Nat} {w0 w w' : World} (h0 : Below w0.heap.size w0 w) (h : Chg B w w') (hB : ∀ b ∈ B, w0.heap.size ≤ b) : Below w0.heap.size w0 w' :=
  h0.trans (h.below h0.size hB)
/-- What is owned apart from the blocks changed stays. -/
theorem Own.chg {B B' : List Nat} {w w' : World} {s : Sch} {vs : List Value} {d : Dat} (h : Own w s vs d B) (hc : Chg B' w w') (hlt : ∀ b ∈ B, b < w.heap.size) (hd : ∀ b ∈ B, b ∉ B') : Own w' s vs d B :=
  Own.same s vs d B (fun b hb => hc.block b (hlt b hb) (hd b hb)) h
theorem Own.of {B : List Nat} {w w' : World} {s : Sch} {vs : List Value} {d : Dat} (h : Own w s vs d B) (hE : Ext w w') (hlt : ∀ b ∈ B, b < w.heap.size) : Own w' s vs d B :=
  Own.same s vs d B (fun b hb => hE.block (hlt b hb)) h
theorem Own.re {B : List Nat} {w : World} {s : Sch} {vs : List Value} {d : Dat} (h : Own w s vs d B) (hlt : ∀ b ∈ B, b < w.heap.size) : Re w s vs d := Own.rd s vs d B hlt h

theorem blk_set {w : World} {b o : Nat} {v : Value} {arr : Array Value} {T : TypeId} {fr : Nat × Nat} (h : w.heap[b]? = some (.cells arr T fr)) : (w.setCell ⟨b, o, none⟩ v).heap[b]? = some (.cells (arr.setIfInBounds o v) T fr) := by
  simp [World.setCell, Array.getElem?_modify, h]
theorem cell_blk {w : World} {b : Nat} {arr : Array Value} {T : TypeId} {fr : Nat × Nat} (h : w.heap[b]? = some (.cells arr T fr)) (o : Nat) : w.cell? ⟨b, o, none⟩ = arr[o]? := by
  simp [World.cell?, h]
theorem some_blk {w : World} {b : Nat} {arr : Array Value} {T : TypeId} {fr : Nat × Nat} (h : w.heap[b]? = some (.cells arr T fr)) (o : Nat) (ho : o < arr.size) : ∃ u, w.cell? ⟨b, o, none⟩ = some u :=
  ⟨_, (cell_blk h o).trans (Array.getElem?_eq_getElem ho)⟩
theorem frozen_blk {w : World} {b : Nat} {arr : Array Value} {T : TypeId} (h : w.heap[b]? = some (.cells arr T (0, 0))) (o : Nat) : w.frozen? ⟨b, o, none⟩ = false := by
  simp [World.frozen?, h]
theorem lt_blk {w : World} {b : Nat} {o : Obj} (h : w.heap[b]? = some o) : b < w.heap.size := (Array.getElem?_eq_some_iff.1 h).1

theorem arr_set {arr : Array Value} {i : Nat} {v : Value} (h : i < arr.size) (j : Nat) : (arr.setIfInBounds i v)[j]? = if i = j then some v else arr[j]? := by
  rw [Array.getElem?_setIfInBounds]; split <;> simp_all

/-- The row arr with vs put from o on. -/
def putRow (arr : Array Value) (o : Nat) : List Value → Array Value
  | [] => arr
  | v :: vs => putRow (arr.setIfInBounds o v) (o + 1) vs
theorem putRow_size : ∀ (vs : List Value) (arr : Array Value) (o : Nat), (putRow arr o vs).size = arr.size
  | [], _, _ => rfl
  | v :: vs, arr, o => by simp [putRow, putRow_size vs]
theorem putRow_get : ∀ (vs : List Value) (arr : Array Value) (o i : Nat), o + vs.length ≤ arr.size → (putRow arr o vs)[i]? = if o ≤ i ∧ i < o + vs.length then vs[i - o]? else arr[i]?
  | [], arr, o, i, _ => by
    rw [if_neg (by simp)]; rfl
  | v :: vs, arr, o, i, h => by
    simp only [List.length_cons] at h
    simp only [putRow]
    rw [putRow_get vs _ (o + 1) i (by simp; omega), arr_set (by omega)]
    simp only [List.length_cons]
    by_cases h1 : o + 1 ≤ i ∧ i < o + 1 + vs.length
    · rw [if_pos h1, if_pos (by omega), show i - o = (i - (o + 1)) + 1 by omega]; rfl
    · rw [if_neg h1]
      by_cases h2 : o = i
      · subst h2; rw [if_pos rfl, if_pos (by omega)]; simp
      · rw [if_neg h2, if_neg (by omega)]
/-- The first k elements are in place. -/
def FillI {α : Type} (cells : α → List Value) (sz : Nat) (arr : Array Value) (xs : List α) (k : Nat) : Prop :=
  ∀ i x, i < k → xs[i]? = some x → ∀ j v, (cells x)[j]? = some v → arr[i * sz + j]? = some v
theorem FillI.step {α : Type} {cells : α → List Value} {sz : Nat} {arr : Array Value} {xs : List α} {k : Nat} {x : α} (h : FillI cells sz arr xs k) (hx : xs[k]? = some x) (hs : ∀ y, (cells y).length = sz) (hb : k * sz + sz ≤ arr.size) :
    FillI cells sz (putRow arr (k * sz) (cells x)) xs (k + 1) := by
  intro i y hi hy j v hv
  have hj : j < sz := by
    have := (List.getElem?_eq_some_iff.1 hv).1
    rw [hs] at this; exact this
  rw [putRow_get _ _ _ _ (by rw [hs]; exact hb), hs]
  rcases Nat.lt_or_ge i k with hik | hik
  · have : (i + 1) * sz ≤ k * sz := Nat.mul_le_mul_right _ hik
    rw [Nat.add_mul, Nat.one_mul] at this
    rw [if_neg (by omega)]
    exact h i y hik hy j v hv
  · obtain rfl : i = k := by omega
    rw [hx] at hy
    obtain rfl := Option.some.inj hy
    rw [if_pos (by omega), Nat.add_sub_cancel_left]
    exact hv


theorem sizeOf_run {T : TypeId} {k : Nat} (h : (Try.prog.info? T).map (·.size) = some k) (w : World) : (sizeOf T).run Try.prog w = .ok k w := by
  cases hq : Try.prog.info? T with
  | none => simp [hq] at h
  | some i =>
    have hs : i.size = k := by simpa [hq] using h
    simp [sizeOf, typeInfo, hq, hs]


/-- Several cells stored one behind the other. -/
def setRow (w : World) (b o : Nat) : List Value → World
  | [] => w
  | v :: vs => setRow (w.setCell ⟨b, o, none⟩ v) b (o + 1) vs
theorem blk_setRow {b : Nat} {T : TypeId} {fr : Nat × Nat} : ∀ (vs : List Value) {w : World} {o : Nat} {arr : Array Value}, w.heap[b]? = some (.cells arr T fr) → (setRow w b o vs).heap[b]? = some (.cells (putRow arr o vs) T fr)
  | [], _, _, _, h => h
  | v :: vs, w, o, arr, h => by simp only [setRow, putRow]; exact blk_setRow vs (blk_set h)
theorem Chg.setRow {B : List Nat} {a : World} {b : Nat} (hb : b ∈ B) : ∀ (vs : List Value) {w : World} {o : Nat}, Chg B a w → Chg B a (setRow w b o vs)
  | [], _, _, h => h
  | v :: vs, w, o, h => by simp only [Go.Proofs.Ytbbpipbemhggdaa.setRow]; exact Chg.setRow hb vs (h.set hb v)

mutual
/-- No slices within. -/
def Sch.plain : Sch → Bool
  | .int => true
  | .bool => true
  | .sl _ => false
  | .st fs => Sch.plains fs
def Sch.plains : List Sch → Bool
  | [] => true
  | f :: fs => f.plain && Sch.plains fs
end
theorem flatten_nils (Bs : List (List Nat)) (h : ∀ B ∈ Bs, B = []) : Bs.flatten = [] := by
  simpa using h

/-- A slice of plain elements that one owns: nothing, or a block of one's own. -/
def OwnF {α : Type} (cells : α → List Value) (sz : Nat) (w : World) (a : Option Addr) (xs : List α) (B : List Nat) : Prop :=
  (xs = [] ∧ B = []) ∨ ∃ (b : Nat) (arr : Array Value) (T : TypeId), a = some ⟨b, 0, none⟩ ∧ B = [b] ∧ w.heap[b]? = some (.cells arr T (0, 0)) ∧ xs.length * sz ≤ arr.size ∧ FillI cells sz arr xs xs.length
section
variable {α : Type} {cells : α → List Value} {dat : α → Dat} {sch : Sch} {k : Nat}
theorem own_flat_mk (hsz : sch.size = k) (hown : ∀ w x, Own w sch (cells x) (dat x) []) {w : World} {a : Option Addr} {c : Nat} {xs : List α} {B : List Nat} (hm : xs.length ≤ maxLen) (h : OwnF cells k w a xs B) :
    Own w (.sl sch) [.slice a xs.length c] (.l (xs.map dat)) B := by
  unfold Own
  rcases h with ⟨rfl, rfl⟩ | ⟨b, arr, T, rfl, rfl, hb, hsz', hf⟩
  · exact ⟨[], rfl, Nat.zero_le _, .inl ⟨rfl, rfl, a, c, rfl⟩⟩
  · refine ⟨_, rfl, by simpa using hm, .inr ⟨b, c, arr, T, List.replicate xs.length [], by simp, by rw [flatten_nils _ (fun B hB => (List.mem_replicate.1 hB).2)], by simp, hb, ?_⟩⟩
    intro i x hx
    rw [List.getElem?_map] at hx
    cases hy : xs[i]? with
    | none => rw [hy] at hx; cases hx
    | some y =>
      rw [hy] at hx
      simp only [Option.map_some, Option.some.injEq] at hx
      subst hx
      have hi : i < xs.length := (List.getElem?_eq_some_iff.1 hy).1
      exact ⟨cells y, [], by simp [hi], fun j v hv => by rw [hsz]; exact hf i y hi hy j v hv, hown _ y⟩
end
theorem OwnF.lt {α : Type} {cells : α → List Value} {sz : Nat} {w : World} {a : Option Addr} {xs : List α} {B : List Nat} (h : OwnF cells sz w a xs B) : ∀ b ∈ B, b < w.heap.size := by
  rcases h with ⟨_, rfl⟩ | ⟨b, arr, T, _, rfl, hb, _⟩
  · simp
  · simpa using lt_blk hb

/-- What is owned, each block once, all of them in a range of blocks that lie there. -/
def OwnR (lo hi : Nat) (w : World) (s : Sch) (vs : List Value) (d : Dat) : Prop := hi ≤ w.heap.size ∧ ∃ B : List Nat, B.Nodup ∧ (∀ b ∈ B, lo ≤ b ∧ b < hi) ∧ Own w s vs d B
theorem OwnR.re {lo hi : Nat} {w : World} {s : Sch} {vs : List Value} {d : Dat} (h : OwnR lo hi w s vs d) : Re w s vs d := by
  obtain ⟨hh, B, _, hr, ho⟩ := h
  exact ho.re fun b hb => Nat.lt_of_lt_of_le (hr b hb).2 hh
theorem OwnR.of {lo hi : Nat} {w w' : World} {s : Sch} {vs : List Value} {d : Dat} (h : OwnR lo hi w s vs d) (hE : Ext w w') : OwnR lo hi w' s vs d := by
  obtain ⟨hh, B, hn, hr, ho⟩ := h
  exact ⟨Nat.le_trans hh hE.size, B, hn, hr, ho.of hE fun b hb => Nat.lt_of_lt_of_le (hr b hb).2 hh⟩
theorem OwnR.mono {lo hi lo' hi' : Nat} {w : World} {s : Sch} {vs : List Value} {d : Dat} (h : OwnR lo hi w s vs d) (h1 : lo' ≤ lo) (h2 : hi ≤ hi') (h3 : hi' ≤ w.heap.size) : OwnR lo' hi' w s vs d := by
  obtain ⟨_, B, hn, hr, ho⟩ := h
  exact ⟨h3, B, hn, fun b hb => ⟨Nat.le_trans h1 (hr b hb).1, Nat.lt_of_lt_of_le (hr b hb).2 h2⟩, ho⟩
/-- w' is w but for blocks in a range, draws, and blocks added. -/
structure ChgR (lo hi : Nat) (w w' : World) : Prop where
  os : w'.os = w.os
  tape : w'.tape = w.tape
  output : w'.output = w.output
  size : w.heap.size ≤ w'.heap.size
  block : ∀ k, k < w.heap.size → (k < lo ∨ hi ≤ k) → w'.heap[k]? = w.heap[k]?
theorem ChgR.below {lo hi n : Nat} {w w' : World} (h : ChgR lo hi w w') (hn : n ≤ w.heap.size) (hl : n ≤ lo) : Below n w w' :=
  ⟨h.os, h.tape, h.output, h.size, fun k hk => h.block k (by omega) (.inl (by omega))⟩
theorem OwnR.chg {lo hi lo' hi' : Nat} {w w' : World} {s : Sch} {vs : List Value} {d : Dat} (h : OwnR lo hi w s vs d) (hc : ChgR lo' hi' w w') (hd : hi ≤ lo' ∨ hi' ≤ lo) : OwnR lo hi w' s vs d := by
  obtain ⟨hh, B, hn, hr, ho⟩ := h
  exact ⟨Nat.le_trans hh hc.size, B, hn, hr, Own.same s vs d B (fun b hb => hc.block b (Nat.lt_of_lt_of_le (hr b hb).2 hh) (by have := hr b hb; omega)) ho⟩
/-- A reading of old blocks, when only new ones have changed. -/
theorem Re.below {w0 w' : World} {s : Sch} {vs : List Value} {d : Dat} (h : Re w0 s vs d) (hb : Below w0.heap.size w0 w') : Re w' s vs d :=
  Rd.mono hb.size s vs d (Rd.same (fun b hb' => hb.block b hb') s vs d h)

/-- What came back is a new slice of one's own. -/
def MadeL (w : World) (sch : Sch) (n : Nat) (ds : List Dat) (e : Ending) (w' : World) : Prop :=
  ∃ a c, e = .returned (.slice a n c) ∧ Ext w w' ∧ OwnR w.heap.size w'.heap.size w' (.sl sch) [.slice a n c] (.l ds)
theorem alloc_last {w : World} {o : Obj} {b : Nat} (h : b = w.heap.size) : (w.alloc o).heap[b]? = some o := by subst h; exact heap_alloc_new w o
/-- An element appended to a row of one's own, in a world that adds to w0. -/
theorem wp_app {α : Type} {cells : α → List Value} {k bytes : Nat} {z : Value} {TS T : TypeId} (hT : Try.prog.underlying TS = some (.slice T)) (hI : (Try.prog.info? T).map (fun i => (i.zero, i.size, i.bytes)) = some (some z, k, bytes)) (hz : z.cells.size = k) (hpos : 0 < k) (hby : bytes ≤ 1024)
    (hcl : ∀ x, (cells x).length = k) (hone : ∀ x, ∀ u ∈ cells x, u.oneCell' = true)
    {o : Oper} {a : Act} {K : Act → World → Prop} {Q : Exit → Act → World → Prop} {w0 w : World} (s x : Operand) (ho : o.op = .call { callee := .builtin .append, args := #[s, x], argTypes := #[TS, TS] })
    {v : Value} {xs : List α} (hs : a.eval s = v) (hE : Ext w0 w) (hown : w.ownsRow w0.heap.size T k v xs.length (xs.flatMap cells)) (y : α) {b c : Nat} {T' : TypeId} (hx : a.eval x = .slice (some ⟨b, 0, none⟩) 1 c) (hy : w.heap[b]? = some (.cells (cells y).toArray T' (0, 0))) (hn : xs.length ≤ 4194304)
    (h : ∀ v' t', (ext w0 t').ownsRow w0.heap.size T k v' (xs ++ [y]).length ((xs ++ [y]).flatMap cells) → K (a.put o.dst v') (ext w0 t')) : o.wp Try.prog a w K Q := by
  cases hi : Try.prog.info? T with
  | none => rw [hi] at hI; cases hI
  | some i =>
    rw [hi] at hI
    simp only [Option.map_some, Option.some.injEq, Prod.mk.injEq] at hI
    obtain ⟨i1, i2, i3⟩ := hI
    refine wp_append_own_wide w s x TS ho w0.heap.size T i z k bytes hT hi i1 i2 i3 hz hpos v xs.length (xs.flatMap cells) hs hown ⟨b, 0, none⟩ 1 c (cells y) hx (by rw [hcl, Nat.one_mul]) ?_ (hone y) ?_ ?_ hE.size ?_
    · intro j u hu
      rw [ld_add, Nat.zero_add, cell_blk hy]
      simpa using hu
    · simp only [maxLen]; omega
    · calc (xs.length + 1 + (xs.length + 1) / 4 + 192) * bytes ≤ (xs.length + 1 + (xs.length + 1) / 4 + 192) * 1024 := Nat.mul_le_mul_left _ hby
        _ ≤ 281474976710656 := by omega
    · intro v' w' h1 h2 _
      have hE' : Ext w0 w' := Ext.of_below (hE.below.grown h2 hE.size fun k hk => (hown.lt k hk).1)
      obtain ⟨t', rfl⟩ := hE'
      refine h v' t' ?_
      rw [List.length_append, List.length_singleton, List.flatMap_append, List.flatMap_singleton]
      exact h1

theorem wpList_app {α : Type} {cells : α → List Value} {k bytes : Nat} {z : Value} {TS T : TypeId} (hT : Try.prog.underlying TS = some (.slice T)) (hI : (Try.prog.info? T).map (fun i => (i.zero, i.size, i.bytes)) = some (some z, k, bytes)) (hz : z.cells.size = k) (hpos : 0 < k) (hby : bytes ≤ 1024)
    (hcl : ∀ x, (cells x).length = k) (hone : ∀ x, ∀ u ∈ cells x, u.oneCell' = true)
    {ops : Array Oper} {rest : List Oper} {o : Oper} {a : Act} {Q : Exit → Act → World → Prop} {w0 w : World} (hgd : o.guard = none) (s x : Operand) (ho : o.op = .call { callee := .builtin .append, args := #[s, x], argTypes := #[TS, TS] })
    {v : Value} {xs : List α} (hs : a.eval s = v) (hE : Ext w0 w) (hown : w.ownsRow w0.heap.size T k v xs.length (xs.flatMap cells)) (y : α) {b c : Nat} {T' : TypeId} (hx : a.eval x = .slice (some ⟨b, 0, none⟩) 1 c) (hy : w.heap[b]? = some (.cells (cells y).toArray T' (0, 0))) (hn : xs.length ≤ 4194304)
    (h : ∀ v' t', (ext w0 t').ownsRow w0.heap.size T k v' (xs ++ [y]).length ((xs ++ [y]).flatMap cells) → wpList Try.prog ops Q rest (a.put o.dst v') (ext w0 t')) : wpList Try.prog ops Q (o :: rest) a w :=
  wpList_plain hgd fun _ hK => wp_app hT hI hz hpos hby hcl hone s x ho hs hE hown y hx hy hn fun v' t' hg => hK _ _ (h v' t' hg)

theorem ownsRow_ext {w : World} {t : Xt} {base sz n : Nat} {T : TypeId} {v : Value} {xs : List Value} (h : w.ownsRow base T sz v n xs) : (ext w t).ownsRow base T sz v n xs := by
  refine ⟨h.1, h.2.imp id fun ⟨g, cap, cur, h1, h2, h3, h4⟩ => ⟨g, cap, cur, h1, h2, ?_, h4⟩⟩
  rw [ext_block _ _ _ (lt_blk h3)]; exact h3
theorem flatMap_get {α : Type} {cells : α → List Value} {k : Nat} (hcl : ∀ x, (cells x).length = k) : ∀ (xs : List α) (j : Nat) (u : Value), (xs.flatMap cells)[j]? = some u → ∃ i r x, j = i * k + r ∧ r < k ∧ xs[i]? = some x ∧ (cells x)[r]? = some u
  | [], j, u, h => by simp at h
  | y :: ys, j, u, h => by
    rw [List.flatMap_cons] at h
    by_cases hj : j < k
    · rw [List.getElem?_append_left (by rw [hcl]; exact hj)] at h
      exact ⟨0, j, y, by simp, hj, rfl, h⟩
    · rw [List.getElem?_append_right (by rw [hcl]; omega), hcl] at h
      obtain ⟨i, r, x, h1, h2, h3, h4⟩ := flatMap_get hcl ys _ u h
      exact ⟨i + 1, r, x, by rw [Nat.add_mul]; omega, h2, by simpa using h3, h4⟩
/-- A slice that reads as plain elements: where its cells lie. -/
theorem Re.row {α : Type} {cells : α → List Value} {dat : α → Dat} {sch : Sch} {k : Nat} (hsz : sch.size = k) (hcl : ∀ x, (cells x).length = k) (hrd : ∀ hi w vs d, Rd hi w sch vs d → ∃ x, vs = cells x ∧ d = dat x) (hinj : ∀ x y, dat x = dat y → x = y)
    {w : World} {a : Option Addr} {n c : Nat} {xs : List α} (h : Re w (.sl sch) [.slice a n c] (.l (xs.map dat))) :
    xs = [] ∨ ∃ b o, a = some ⟨b, o, none⟩ ∧ b < w.heap.size ∧ ∀ j u, (xs.flatMap cells)[j]? = some u → w.cell? ⟨b, o + j, none⟩ = some u := by
  unfold Re Rd at h
  obtain ⟨a', n', c', ds, h1, h2, h3, h4, h5⟩ := h
  simp only [List.cons.injEq, Value.slice.injEq, and_true] at h1
  obtain ⟨rfl, rfl, rfl⟩ := h1
  simp only [Dat.l.injEq] at h2
  subst h2
  cases hx : xs with
  | nil => exact .inl rfl
  | cons x0 xs0 =>
    right
    rw [← hx]
    have at_ : ∀ i x, xs[i]? = some x → ∃ b o, a = some ⟨b, o, none⟩ ∧ b < w.heap.size ∧ ∀ r u, (cells x)[r]? = some u → w.cell? ⟨b, o + i * k + r, none⟩ = some u := by
      intro i x hi
      obtain ⟨b, o, es, ha, hb, hc, hr⟩ := h5 i (dat x) (by simp [hi])
      obtain ⟨y, rfl, hy⟩ := hrd _ _ _ _ hr
      obtain rfl := hinj _ _ hy
      rw [hsz] at hc
      exact ⟨b, o, ha, hb, hc⟩
    obtain ⟨b, o, rfl, hb, _⟩ := at_ 0 x0 (by rw [hx]; rfl)
    refine ⟨b, o, rfl, hb, fun j u hu => ?_⟩
    obtain ⟨i, r, x, rfl, _, hi, hr⟩ := flatMap_get hcl xs j u hu
    obtain ⟨b', o', e, _, hc⟩ := at_ i x hi
    simp only [Option.some.injEq, Addr.mk.injEq, and_true] at e
    obtain ⟨rfl, rfl⟩ := e
    rw [← Nat.add_assoc]
    exact hc r u hr
/-- A whole slice appended to a row of one's own, in a world that adds to w0. -/
theorem wp_apps {α : Type} {cells : α → List Value} {dat : α → Dat} {sch : Sch} {k bytes : Nat} {z : Value} {TS T : TypeId} (hT : Try.prog.underlying TS = some (.slice T)) (hI : (Try.prog.info? T).map (fun i => (i.zero, i.size, i.bytes)) = some (some z, k, bytes)) (hz : z.cells.size = k) (hpos : 0 < k) (hby : bytes ≤ 1024)
    (hsz : sch.size = k) (hcl : ∀ x, (cells x).length = k) (hrd : ∀ hi w vs d, Rd hi w sch vs d → ∃ x, vs = cells x ∧ d = dat x) (hinj : ∀ x y, dat x = dat y → x = y) (hone : ∀ x, ∀ u ∈ cells x, u.oneCell' = true)
    {o : Oper} {a : Act} {K : Act → World → Prop} {Q : Exit → Act → World → Prop} {w0 w : World} (s x : Operand) (ho : o.op = .call { callee := .builtin .append, args := #[s, x], argTypes := #[TS, TS] })
    {v : Value} {xs : List α} (hs : a.eval s = v) (hE : Ext w0 w) (hown : w.ownsRow w0.heap.size T k v xs.length (xs.flatMap cells)) (ys : List α) {ad : Option Addr} {m c : Nat} (hx : a.eval x = .slice ad m c) (hy : Re w (.sl sch) [.slice ad m c] (.l (ys.map dat))) (hn : xs.length + m ≤ 4194304)
    (h : ∀ v' t', (ext w0 t').ownsRow w0.heap.size T k v' (xs ++ ys).length ((xs ++ ys).flatMap cells) → K (a.put o.dst v') (ext w0 t')) : o.wp Try.prog a w K Q := by
  have hm := hy.len
  cases hi : Try.prog.info? T with
  | none => rw [hi] at hI; cases hI
  | some i =>
    rw [hi] at hI
    simp only [Option.map_some, Option.some.injEq, Prod.mk.injEq] at hI
    obtain ⟨i1, i2, i3⟩ := hI
    have go : ∀ b o', ad = some (⟨b, o', none⟩ : Addr) → (∀ j u, (ys.flatMap cells)[j]? = some u → w.cell? ⟨b, o' + j, none⟩ = some u) → o.wp Try.prog a w K Q := by
      intro b o' e hc
      subst e
      refine wp_append_own_wide w s x TS ho w0.heap.size T i z k bytes hT hi i1 i2 i3 hz hpos v xs.length (xs.flatMap cells) hs hown ⟨b, o', none⟩ m c (ys.flatMap cells) hx ?_ ?_ ?_ ?_ ?_ hE.size ?_
      · rw [hm, List.length_flatMap, List.map_congr_left (g := fun _ => k) (fun x _ => hcl x), List.map_const', List.sum_replicate_nat]
      · intro j u hu
        rw [ld_add]
        exact hc j u hu
      · intro u hu
        obtain ⟨y, _, hy'⟩ := List.mem_flatMap.1 hu
        exact hone y u hy'
      · simp only [maxLen]; omega
      · calc (xs.length + m + (xs.length + m) / 4 + 192) * bytes ≤ (xs.length + m + (xs.length + m) / 4 + 192) * 1024 := Nat.mul_le_mul_left _ hby
          _ ≤ 281474976710656 := by omega
      · intro v' w' h1 h2 _
        have hE' : Ext w0 w' := Ext.of_below (hE.below.grown h2 hE.size fun k hk => (hown.lt k hk).1)
        obtain ⟨t', rfl⟩ := hE'
        refine h v' t' ?_
        rw [List.length_append, List.flatMap_append, ← hm]
        exact h1
    rcases hy.row hsz hcl hrd hinj with he | ⟨b, o', e, _, hc⟩
    · subst he
      obtain rfl : m = 0 := hm
      cases ad with
      | none =>
        obtain ⟨t, rfl⟩ := hE
        have h0 := h v t (by simpa using hown)
        have hl : ∃ base sl sc, v = .slice base sl sc ∧ sl ≤ sc := by
          rcases hown.2 with ⟨rfl, _⟩ | ⟨g, cap, cur, rfl, _, _, hc, _⟩
          · exact ⟨none, 0, 0, rfl, Nat.le_refl _⟩
          · exact ⟨_, _, _, rfl, hc⟩
        obtain ⟨base, sl, sc, rfl, hle⟩ := hl
        have hrun := run_append_nothing (P := Try.prog) (ext w0 t) TS TS o.type T i hT hi base sl sc hle (.slice none 0 c) (Src.ofNil _ (size := i.size) hT c)
        unfold Oper.wp
        simp [execOp, ho, resolve, invoke, builtin, hs, hx, hrun, Result.andThen]
        exact h0
      | some ad =>
        obtain ⟨b, o', sp⟩ := ad
        cases sp with
        | none => exact go b o' rfl fun j u hu => by simp at hu
        | some sp =>
          refine wp_append_own_wide w s x TS ho w0.heap.size T i z k bytes hT hi i1 i2 i3 hz hpos v xs.length (xs.flatMap cells) hs hown ⟨b, o', some sp⟩ 0 c [] hx (by simp) (fun j u hu => by simp at hu) (fun u hu => by simp at hu) ?_ ?_ hE.size ?_
          · simp only [maxLen]; omega
          · calc (xs.length + 0 + (xs.length + 0) / 4 + 192) * bytes ≤ (xs.length + 0 + (xs.length + 0) / 4 + 192) * 1024 := Nat.mul_le_mul_left _ hby
              _ ≤ 281474976710656 := by omega
          · intro v' w' h1 h2 _
            have hE' : Ext w0 w' := Ext.of_below (hE.below.grown h2 hE.size fun k hk => (hown.lt k hk).1)
            obtain ⟨t', rfl⟩ := hE'
            exact h v' t' (by simpa using h1)
    · exact go b o' e hc

theorem wpList_apps {α : Type} {cells : α → List Value} {dat : α → Dat} {sch : Sch} {k bytes : Nat} {z : Value} {TS T : TypeId} (hT : Try.prog.underlying TS = some (.slice T)) (hI : (Try.prog.info? T).map (fun i => (i.zero, i.size, i.bytes)) = some (some z, k, bytes)) (hz : z.cells.size = k) (hpos : 0 < k) (hby : bytes ≤ 1024)
    (hsz : sch.size = k) (hcl : ∀ x, (cells x).length = k) (hrd : ∀ hi w vs d, Rd hi w sch vs d → ∃ x, vs = cells x ∧ d = dat x) (hinj : ∀ x y, dat x = dat y → x = y) (hone : ∀ x, ∀ u ∈ cells x, u.oneCell' = true)
    {ops : Array Oper} {rest : List Oper} {o : Oper} {a : Act} {Q : Exit → Act → World → Prop} {w0 w : World} (hgd : o.guard = none) (s x : Operand) (ho : o.op = .call { callee := .builtin .append, args := #[s, x], argTypes := #[TS, TS] })
    {v : Value} {xs : List α} (hs : a.eval s = v) (hE : Ext w0 w) (hown : w.ownsRow w0.heap.size T k v xs.length (xs.flatMap cells)) (ys : List α) {ad : Option Addr} {m c : Nat} (hx : a.eval x = .slice ad m c) (hy : Re w (.sl sch) [.slice ad m c] (.l (ys.map dat))) (hn : xs.length + m ≤ 4194304)
    (h : ∀ v' t', (ext w0 t').ownsRow w0.heap.size T k v' (xs ++ ys).length ((xs ++ ys).flatMap cells) → wpList Try.prog ops Q rest (a.put o.dst v') (ext w0 t')) : wpList Try.prog ops Q (o :: rest) a w :=
  wpList_plain hgd fun _ hK => wp_apps hT hI hz hpos hby hsz hcl hrd hinj hone s x ho hs hE hown ys hx hy hn fun v' t' hg => hK _ _ (h v' t' hg)

theorem FillI.put {α : Type} {cells : α → List Value} {k : Nat} {arr arr' : Array Value} {xs : List α} {j : Nat} {x : α} (h : FillI cells k arr xs xs.length) (hcl : ∀ y, (cells y).length = k) (hlt : j < xs.length)
    (ho : ∀ i, ¬ (j * k ≤ i ∧ i < j * k + k) → arr'[i]? = arr[i]?) (hi : ∀ i v, (cells x)[i]? = some v → arr'[j * k + i]? = some v) : FillI cells k arr' (xs.set j x) (xs.set j x).length := by
  intro i y hiy hy r v hv
  rw [List.length_set] at hiy
  have hr : r < k := by rw [← hcl y]; exact (List.getElem?_eq_some_iff.1 hv).1
  rw [List.getElem?_set] at hy
  split at hy
  · rename_i e
    subst e
    obtain rfl := Option.some.inj (show some x = some y by simpa [hlt] using hy)
    exact hi r v hv
  · rename_i e
    rw [ho _ ?_]
    · exact h i y hiy hy r v hv
    · intro ⟨h1, h2⟩
      rcases Nat.lt_or_gt_of_ne e with h3 | h3
      · have : (j + 1) * k ≤ i * k := Nat.mul_le_mul_right _ h3
        rw [Nat.add_mul, Nat.one_mul] at this; omega
      · have : (i + 1) * k ≤ j * k := Nat.mul_le_mul_right _ h3
        rw [Nat.add_mul, Nat.one_mul] at this; omega

end Go.Proofs.Ytbbpipbemhggdaa

namespace Go.Proofs.Ytbbpipbemhggdaa
open Go.RowKit

/-- May change the world (calls, blocks made, stores). -/
def isMk : Op → Bool
  | .move _ | .assign _ | .pick .. | .build .. | .load .. | .binOp .. | .unOp .. | .convert .. | .slice .. | .fieldAddr .. | .field .. | .indexAddr .. | .index .. | .extract .. | .nilCheck _ => false
  | _ => true

def waits (oj : Oper) (i : Nat) : Bool := oj.after.any fun e => Region.binds .any e && e.on == i
def segPair (ops : Array Oper) (oi oj : Oper) (i : Nat) : Bool :=
  bif isMk oi.op && isMk oj.op then waits oj i
  else (isMk oi.op || waits oj i || oi.apart ops oj) && (isMk oj.op || waits oj i || oj.apart ops oi)
theorem segPair_l {ops : Array Oper} {oi oj : Oper} {i : Nat} (h : segPair ops oi oj i = true) (hi : isMk oi.op = false) (hw : waits oj i = false) : oi.apart ops oj = true := by
  simp [segPair, hi, hw] at h; exact h.1
theorem segPair_r {ops : Array Oper} {oi oj : Oper} {i : Nat} (h : segPair ops oi oj i = true) (hj : isMk oj.op = false) (hw : waits oj i = false) : oj.apart ops oi = true := by
  simp [segPair, hj, hw] at h; exact h.2
theorem segPair_mk {ops : Array Oper} {oi oj : Oper} {i : Nat} (h : segPair ops oi oj i = true) (hi : isMk oi.op = true) (hj : isMk oj.op = true) : waits oj i = true := by
  simpa [segPair, hi, hj] using h
/-- The pairwise conditions: edges point back; of two that make, the later waits; one that looks is apart from all that do not wait. -/
def segOk (ops : Array Oper) : Bool :=
  Region.noSelect ops &&
  (List.range ops.size).all fun j => match ops[j]? with
    | none => false
    | some oj => (oj.after.all fun e => !Region.binds .any e || decide (e.on < j)) &&
      (List.range j).all fun i => match ops[i]? with
        | none => false
        | some oi => segPair ops oi oj i

theorem segOk_sel {ops : Array Oper} (h : segOk ops = true) : Region.noSelect ops = true := by
  simp only [segOk, Bool.and_eq_true] at h; exact h.1
theorem segOk_at {ops : Array Oper} (h : segOk ops = true) {j : Nat} {oj : Oper} (hj : ops[j]? = some oj) :
    (∀ e ∈ oj.after, Region.binds .any e = true → e.on < j) ∧
    ∀ i oi, i < j → ops[i]? = some oi → segPair ops oi oj i = true := by
  simp only [segOk, Bool.and_eq_true, List.all_eq_true, List.mem_range] at h
  have hlt : j < ops.size := (Array.getElem?_eq_some_iff.1 hj).1
  have h2 := h.2 j hlt
  simp only [hj, Bool.and_eq_true, List.all_eq_true, List.mem_range, Array.all_eq_true_iff_forall_mem, Bool.or_eq_true, Bool.not_eq_true', decide_eq_true_eq] at h2
  refine ⟨fun e he hb => (h2.1 e he).resolve_left (by simp [hb]), fun i oi hi hoi => ?_⟩
  have h3 := h2.2 i hi
  simp only [hoi] at h3
  exact h3

def Qn : Exit → Act → World → Prop := fun _ _ _ => False
theorem no_out : ¬ LetsOut Qn := fun ⟨_, _, h⟩ => h

section
variable {P : Program} {ops : Array Oper} {S : World → Prop} {Q : Exit → Act → World → Prop}

theorem wp_Qn {o : Oper} {a : Act} {w : World} {K K' : Act → World → Prop} (h : ∀ a w, K a w → K' a w) (hh : o.wp P a w K Qn) : o.wp P a w K' Q := by
  unfold Oper.wp at *
  generalize (execOp a.eval o).run P w = r at *
  cases r with
  | ok n w' =>
    cases n <;> simp only [Oper.upon] at hh ⊢
    case value => exact h _ _ hh
    case skip => exact h _ _ hh
    case defer => exact h _ _ hh
    case enter => exact Calls.mono hh (fun e w'' he => by cases e <;> first | exact h _ _ he | exact False.elim he | exact False.elim (no_out he))
    case row => exact Rows.mono hh (fun _ _ he => h _ _ he)
  | halt x w' => cases x <;> simp only [Oper.upon] at hh ⊢; exact False.elim hh

/-- The walk over the places of a region. -/
def wpMix (P : Program) (ops : Array Oper) (S : World → Prop) (Q : Exit → Act → World → Prop) : List Nat → Act → World → Prop
  | [], a, w => Q .normal a w
  | i :: r, a, w => match ops[i]? with
    | none => False
    | some o => if isMk o.op then (if Region.wanted o (yielded ops a.tmps) then o.wp P a w (fun a' w' => S w' ∧ wpMix P ops S Q r a' w') Qn else wpMix P ops S Q r (a.put o.dst undef) w)
      else ∃ v, YieldsIf P ops S o v a ∧ wpMix P ops S Q r (a.put o.dst v) w

theorem yields_unique {o : Oper} {v u : Value} {a : Act} {w : World} (hw : S w) (h : YieldsIf P ops S o v a) (k : YieldsIf P ops S o u a) : v = u := by
  rcases h with ⟨h1, h2⟩ | ⟨h1, rfl⟩ <;> rcases k with ⟨k1, k2⟩ | ⟨k1, rfl⟩
  · have := (h2 w hw).symm.trans (k2 w hw); simpa using this
  · rw [h1] at k1; cases k1
  · rw [h1] at k1; cases k1
  · rfl

theorem mix_hoist (hs : Region.noSelect ops = true) {i : Nat} {oi : Oper} (hi : ops[i]? = some oi) (hp : isMk oi.op = false) : ∀ (pre post : List Nat) (a : Act) (w : World), S w →
    (∀ k ∈ pre, ∃ ok, ops[k]? = some ok ∧ oi.apart ops ok = true) → wpMix P ops S Q (pre ++ i :: post) a w →
    ∃ v, YieldsIf P ops S oi v a ∧ wpMix P ops S Q (pre ++ post) (a.put oi.dst v) w
  | [], post, a, w, _, _, h => by
    simp only [List.nil_append, wpMix, hi, hp, Bool.false_eq_true, if_false] at h
    exact h
  | k :: pre, post, a, w, hw, hap, h => by
    obtain ⟨ok, hok, hapk⟩ := hap k (by simp)
    have hap' : ∀ k ∈ pre, ∃ ok, ops[k]? = some ok ∧ oi.apart ops ok = true := fun k hk => hap k (by simp [hk])
    obtain ⟨h1, h2, h3⟩ := Oper.apart_spec hapk
    have hsi := fun cs b => Region.noSelect_spec hs i oi cs b hi
    have hsk := fun cs b => Region.noSelect_spec hs k ok cs b hok
    have back : ∀ (a : Act) (u v : Value), YieldsIf P ops S oi v (a.put ok.dst u) → YieldsIf P ops S oi v a := fun a u v hy =>
      hy.of_same (execOp_put oi hsi a ok.dst u h3).symm (wanted_put oi a ok.dst u h3).symm
    have backD : ∀ (a : Act) (d : Deferred) (v : Value), YieldsIf P ops S oi v { a with defers := d :: a.defers } → YieldsIf P ops S oi v a := fun a d v hy => hy.of_same rfl rfl
    simp only [List.cons_append, wpMix, hok] at h ⊢
    by_cases hm : isMk ok.op = true
    · simp only [hm, if_true] at h ⊢
      by_cases hwt : Region.wanted ok (yielded ops a.tmps) = true
      · simp only [hwt, if_true] at h
        have hwt' : ∀ v, Region.wanted ok (yielded ops (a.put oi.dst v).tmps) = true := fun v => (wanted_put ok a oi.dst v h1).trans hwt
        have hex : ∀ v, execOp (a.put oi.dst v).eval ok = execOp a.eval ok := fun v => execOp_put ok hsk a oi.dst v h1
        have step : ∀ (a' : Act) (w' : World), S w' → wpMix P ops S Q (pre ++ i :: post) a' w' → ∃ v, YieldsIf P ops S oi v a' ∧ wpMix P ops S Q (pre ++ post) (a'.put oi.dst v) w' := fun a' w' hs' hh => mix_hoist hs hi hp pre post a' w' hs' hap' hh
        have move : ∀ (u v : Value) (w' : World), YieldsIf P ops S oi v a → S w' ∧ wpMix P ops S Q (pre ++ i :: post) (a.put ok.dst u) w' → S w' ∧ wpMix P ops S Q (pre ++ post) ((a.put oi.dst v).put ok.dst u) w' := fun u v w' hv ⟨hs', hh⟩ => by
          obtain ⟨v', hy', hh'⟩ := step _ _ hs' hh
          obtain rfl := yields_unique hw hv (back a u v' hy')
          exact ⟨hs', by rw [Act.put_comm a v u h2]; exact hh'⟩
        unfold Oper.wp at h ⊢
        simp only [hex, hwt', if_true]
        generalize (execOp a.eval ok).run P w = r at *
        cases r with
        | halt x w' => cases x <;> simp only [Oper.upon] at h; exact False.elim h
        | ok n w' =>
          cases n <;> simp only [Oper.upon] at h ⊢
          case value u =>
            obtain ⟨v, hy, _⟩ := step _ _ h.1 h.2
            exact ⟨v, back a u v hy, move u v w' (back a u v hy) h⟩
          case skip =>
            obtain ⟨v, hy, _⟩ := step _ _ h.1 h.2
            exact ⟨v, back a _ v hy, move _ v w' (back a _ v hy) h⟩
          case defer d =>
            obtain ⟨v, hy, hh⟩ := step _ _ h.1 h.2
            have hy' := backD a d v (back _ _ v hy)
            refine ⟨v, hy', h.1, ?_⟩
            rw [Act.put_defers, Act.put_comm _ v undef h2]
            exact hh
          case enter f args =>
            obtain ⟨e, w'', fr, hR, _⟩ := id h []
            cases e with
            | panicked c => exact False.elim hR
            | outgrown => exact False.elim (no_out hR)
            | returned u =>
              obtain ⟨v, hy, _⟩ := step _ _ hR.1 hR.2
              have hv := back a u v hy
              refine ⟨v, hv, Calls.mono h fun e w3 he => ?_⟩
              cases e with
              | panicked c => exact he
              | outgrown => exact he
              | returned u' => exact move u' v w3 hv he
          case row row args =>
            obtain ⟨u, w'', hR, _⟩ := id h default []
            obtain ⟨v, hy, _⟩ := step _ _ hR.1 hR.2
            have hv := back a u v hy
            exact ⟨v, hv, Rows.mono h fun u' w3 he => move u' v w3 hv he⟩
      · simp only [hwt] at h
        obtain ⟨v, hy, hh⟩ := mix_hoist hs hi hp pre post _ w hw hap' h
        have hv := back a _ v hy
        refine ⟨v, hv, ?_⟩
        rw [wanted_put ok a oi.dst v h1, if_neg hwt, Act.put_comm a v undef h2]
        exact hh
    · simp only [hm] at h ⊢
      obtain ⟨u, hu, h⟩ := h
      obtain ⟨v, hy, hh⟩ := mix_hoist hs hi hp pre post _ w hw hap' h
      have hv := back a u v hy
      refine ⟨v, hv, u, hu.of_same (execOp_put ok hsk a oi.dst v h1) (wanted_put ok a oi.dst v h1), ?_⟩
      rw [Act.put_comm a v u h2]
      exact hh

theorem mix_sound (hB : segOk ops = true) (hQ : ∀ c a d (v : Value) w, Q (.panic c) (Act.put a d v) w → Q (.panic c) a w) : ∀ (rem : List Nat) (listed : Array Bool) (a : Act) (w : World), listed.size = ops.size →
    rem.Pairwise (· < ·) → (∀ j, j ∈ rem ↔ j < ops.size ∧ listed.getD j true = false) → S w → wpMix P ops S Q rem a w → wpAnyH P .any ops Q S rem.length listed a w := by
  intro rem
  generalize hn : rem.length = n
  induction n generalizing rem with
  | zero =>
    intro listed a w hsz hpw hmem hS h
    obtain rfl := List.eq_nil_of_length_eq_zero hn
    refine ⟨?_, h⟩
    rw [List.eq_nil_iff_forall_not_mem]
    intro j hj
    obtain ⟨h0, o, ho, _⟩ := mem_ready.1 hj
    exact absurd ((hmem j).2 ⟨(Array.getElem?_eq_some_iff.1 ho).1, h0⟩) (by simp)
  | succ n ih =>
    intro listed a w hsz hpw hmem hS h
    have hs := segOk_sel hB
    have inrem : ∀ j, j ∈ Region.ready .any ops listed → j ∈ rem := fun j hj => by
      obtain ⟨h0, o, ho, _⟩ := mem_ready.1 hj
      exact (hmem j).2 ⟨(Array.getElem?_eq_some_iff.1 ho).1, h0⟩
    have nowait : ∀ i j oi, ops[i]? = some oi → i ∈ Region.ready .any ops listed → listed.getD j true = false → waits oi j = false := fun i j oi hi hr hj => by
      obtain ⟨_, o, ho, hall⟩ := mem_ready.1 hr
      rw [hi] at ho; obtain rfl := Option.some.inj ho
      cases hwt : waits oi j with
      | false => rfl
      | true =>
        simp only [waits, Array.any_eq_true, Bool.and_eq_true, beq_iff_eq] at hwt
        obtain ⟨q, hq, hb, he⟩ := hwt
        have := hall _ (Array.getElem_mem hq) hb
        rw [he] at this
        rcases Nat.lt_or_ge j listed.size with h' | h'
        · simp [h'] at hj this; rw [hj] at this; cases this
        · simp [Array.getElem?_eq_none h'] at this
    have after : ∀ (i : Nat), i ∈ rem → ∀ (pre post : List Nat), rem = pre ++ i :: post → (∀ j, j ∈ pre ++ post ↔ j < ops.size ∧ (listed.setIfInBounds i true).getD j true = false) ∧ (pre ++ post).Pairwise (· < ·) ∧ (pre ++ post).length = n := fun i hi pre post he => by
      subst he
      have hpp := List.pairwise_append.1 hpw
      obtain ⟨hp1, hp2, hp3⟩ := hpp
      obtain ⟨hp4, hp5⟩ := List.pairwise_cons.1 hp2
      refine ⟨fun j => ?_, ?_, by simp at hn ⊢; omega⟩
      · have hij : i < listed.size := by have := ((hmem i).1 hi).1; omega
        by_cases e : i = j
        · subst e
          constructor
          · intro hj
            rcases List.mem_append.1 hj with hj | hj
            · have := hp3 _ hj i (by simp); omega
            · have := hp4 _ hj; omega
          · rintro ⟨_, hj⟩
            simp [hij] at hj
        · rw [getD_set_ne true e, ← hmem j]
          simp only [List.mem_append, List.mem_cons]
          constructor
          · rintro (hj | hj)
            · exact .inl hj
            · exact .inr (.inr hj)
          · rintro (hj | hj | hj)
            · exact .inl hj
            · exact absurd hj.symm e
            · exact .inr hj
      · exact List.pairwise_append.2 ⟨hp1, hp5, fun x hx y hy => hp3 x hx y (by simp [hy])⟩
    by_cases hp : ∃ i oi, i ∈ Region.ready .any ops listed ∧ ops[i]? = some oi ∧ isMk oi.op = false
    · obtain ⟨i, oi, hr, hi, hpure⟩ := hp
      have him := inrem i hr
      obtain ⟨pre, post, he⟩ := List.append_of_mem him
      obtain ⟨q1, q2, q3⟩ := after i him pre post he
      have hlt : ∀ k ∈ pre, k < i := fun k hk => by
        rw [he] at hpw
        exact (List.pairwise_append.1 hpw).2.2 k hk i (by simp)
      have hfree : ∀ j oj, ops[j]? = some oj → j ≠ i → listed.getD j true = false → waits oj i = false → oi.apart ops oj = true := fun j oj hj hne hun hno => by
        rcases Nat.lt_or_ge j i with hji | hji
        · exact segPair_r ((segOk_at hB hi).2 j oj hji hj) hpure (nowait i j oi hi hr hun)
        · exact segPair_l ((segOk_at hB hj).2 i oi (by omega) hi) hpure hno
      rw [he] at h
      obtain ⟨v, hy, hh⟩ := mix_hoist hs hi hpure pre post a w hS (fun k hk => by
        have hkm : k ∈ rem := by rw [he]; simp [hk]
        obtain ⟨k1, k2⟩ := (hmem k).1 hkm
        obtain ⟨ok, hok⟩ : ∃ ok, ops[k]? = some ok := ⟨_, Array.getElem?_eq_getElem k1⟩
        have hki := hlt k hk
        refine ⟨ok, hok, hfree k ok hok (by omega) k2 ?_⟩
        cases hwt : waits ok i with
        | false => rfl
        | true =>
          simp only [waits, Array.any_eq_true, Bool.and_eq_true, beq_iff_eq] at hwt
          obtain ⟨q, hq, hb, he'⟩ := hwt
          have := (segOk_at hB hok).1 _ (Array.getElem_mem hq) hb
          omega) h
      refine wpAnyH_first hi (Region.noSelect_spec hs) (fun c a w => hQ c a _ _ w) n listed a w (fun j oj hj hne hun hno => hfree j oj hj hne hun ?_) hr hy hS ?_
      · cases hwt : waits oj i with
        | false => rfl
        | true =>
          simp only [waits, Array.any_eq_true, Bool.and_eq_true, beq_iff_eq] at hwt
          obtain ⟨q, hq, hb, he'⟩ := hwt
          exact absurd he' (hno _ (Array.getElem_mem hq) hb)
      · exact ih (pre ++ post) q3 _ _ _ (by simp [hsz]) q2 q1 hS hh
    · cases rem with
      | nil => simp at hn
      | cons k rest =>
        obtain ⟨k1, k2⟩ := (hmem k).1 (by simp)
        obtain ⟨ok, hok⟩ : ∃ ok, ops[k]? = some ok := ⟨_, Array.getElem?_eq_getElem k1⟩
        obtain ⟨hpk, hpr⟩ := List.pairwise_cons.1 hpw
        have hkr : k ∈ Region.ready .any ops listed := by
          refine mem_ready.2 ⟨k2, ok, hok, fun e he hb => ?_⟩
          have hlt := (segOk_at hB hok).1 e he hb
          cases hl : listed.getD e.on true with
          | true =>
            have : e.on < listed.size := by omega
            simp [this] at hl ⊢; exact hl
          | false =>
            have := (hmem e.on).2 ⟨by omega, hl⟩
            rcases List.mem_cons.1 this with h' | h'
            · omega
            · have := hpk _ h'; omega
        have hmk : isMk ok.op = true := by
          cases hm : isMk ok.op with
          | true => rfl
          | false => exact absurd ⟨k, ok, hkr, hok, hm⟩ hp
        have only : ∀ j, j ∈ Region.ready .any ops listed → j = k := fun j hj => by
          rcases List.mem_cons.1 (inrem j hj) with h' | h'
          · exact h'
          · exfalso
            have hkj := hpk j h'
            obtain ⟨_, oj, hoj, _⟩ := mem_ready.1 hj
            have hmj : isMk oj.op = true := by
              cases hm : isMk oj.op with
              | true => rfl
              | false => exact absurd ⟨j, oj, hj, hoj, hm⟩ hp
            have := segPair_mk ((segOk_at hB hoj).2 k ok hkj hok) hmk hmj
            rw [nowait j k oj hoj hj k2] at this
            cases this
        obtain ⟨q1, q2, q3⟩ := after k (by simp) [] rest rfl
        simp only [List.nil_append] at q1 q2 q3
        refine ⟨fun h0 => (by rw [h0] at hkr; cases hkr), fun j hj => ?_⟩
        obtain rfl := only j hj
        simp only [wpMix, hok, hmk, if_true] at h
        unfold wpOp
        simp only [hok]
        split
        · rename_i hw
          simp only [hw, if_true] at h
          exact .inl (wp_Qn (fun a' w' ⟨h1, h2⟩ => ⟨h1, ih rest q3 _ _ _ (by simp [hsz]) q2 q1 h1 h2⟩) h)
        · rename_i hw
          simp only [hw] at h
          exact ⟨hS, ih rest q3 _ _ _ (by simp [hsz]) q2 q1 hS h⟩

/-- The walk over the operations themselves. -/
def wpMixL (P : Program) (ops : Array Oper) (S : World → Prop) (Q : Exit → Act → World → Prop) : List Oper → Act → World → Prop
  | [], a, w => Q .normal a w
  | o :: r, a, w => if isMk o.op then (if Region.wanted o (yielded ops a.tmps) then o.wp P a w (fun a' w' => S w' ∧ wpMixL P ops S Q r a' w') Qn else wpMixL P ops S Q r (a.put o.dst undef) w)
      else ∃ v, YieldsIf P ops S o v a ∧ wpMixL P ops S Q r (a.put o.dst v) w

theorem mix_of_list : ∀ (l : List Oper) (k : Nat) (a : Act) (w : World), (∀ j, l[j]? = ops[k + j]?) → wpMixL P ops S Q l a w → wpMix P ops S Q (List.range' k l.length) a w
  | [], k, a, w, _, h => h
  | o :: l, k, a, w, hl, h => by
    have h0 : ops[k]? = some o := by simpa using (hl 0).symm
    have hl' : ∀ j, l[j]? = ops[k + 1 + j]? := fun j => by have := hl (j + 1); simpa [Nat.add_assoc, Nat.add_comm 1 j] using this
    simp only [List.length_cons, List.range'_succ, wpMix, h0]
    simp only [wpMixL] at h
    split
    · rename_i hm
      rw [if_pos hm] at h
      split
      · rename_i hw
        rw [if_pos hw] at h
        exact Oper.wp_mono (fun a' w' ⟨h1, h2⟩ => ⟨h1, mix_of_list l (k + 1) a' w' hl' h2⟩) h
      · rename_i hw
        rw [if_neg hw] at h
        exact mix_of_list l (k + 1) _ w hl' h
    · rename_i hm
      rw [if_neg hm] at h
      obtain ⟨v, hy, h⟩ := h
      exact ⟨v, hy, mix_of_list l (k + 1) _ w hl' h⟩

def Qt (Q : Exit → Act → World → Prop) : Exit → Act → World → Prop
  | .normal, a, w => Q .normal a w
  | _, _, _ => False

theorem wp_region_mix {id : Nat} {a : Act} {w : World} {l : List Oper} (hm : P.follows .mixedOrders = true) (hB : segOk l.toArray = true)
    (h : wpMixL P l.toArray (fun w' => ∃ t, w' = ext w.drew t) (Qt Q) l a w.drew) : (Code.region id l.toArray true).wp P Q a w := by
  refine Code.wp_mono (Q := Qt Q) (fun e a w h => by cases e <;> first | exact h | exact False.elim h) (wp_region_held (S := fun w' => ∃ t, w' = ext w.drew t) hm ?_)
  have h1 := mix_of_list l 0 a _ (fun j => by simp) h
  have h2 := mix_sound hB (fun c a d v w h => h) (List.range' 0 l.length) (Array.replicate l.toArray.size false) a w.drew (by simp) List.pairwise_lt_range' (fun j => by
    simp only [List.mem_range'_1, List.size_toArray, Nat.zero_le, true_and, Nat.zero_add]
    constructor
    · intro hj; exact ⟨hj, by simp [hj]⟩
    · exact fun hj => hj.1) ⟨_, (ext_refl _).symm⟩ h1
  simpa using h2

theorem mix_nil {a : Act} {w : World} (h : Q .normal a w) : wpMixL P ops S (Qt Q) [] a w := h
theorem mix_skip {o : Oper} {r : List Oper} {a : Act} {w : World} (hw : Region.wanted o (yielded ops a.tmps) = false) (h : wpMixL P ops S Q r (a.put o.dst undef) w) : wpMixL P ops S Q (o :: r) a w := by
  unfold wpMixL
  split
  · rw [if_neg (by rw [hw]; decide)]; exact h
  · exact ⟨_, .inr ⟨hw, rfl⟩, h⟩
theorem mix_mk {o : Oper} {r : List Oper} {a : Act} {w : World} (hk : isMk o.op = true) (hw : Region.wanted o (yielded ops a.tmps) = true) (h : ∀ K : Act → World → Prop, (∀ a' w', S w' → wpMixL P ops S Q r a' w' → K a' w') → o.wp P a w K Qn) : wpMixL P ops S Q (o :: r) a w := by
  unfold wpMixL
  rw [if_pos hk, if_pos hw]
  exact h _ fun a' w' h1 h2 => ⟨h1, h2⟩

theorem value_of_quiet {o : Oper} {a : Act} {v : Value} {w : World} (hk : isMk o.op = false) (h : o.quietAt P a S w v) : (execOp a.eval o).run P w = .ok (.value v) w := by
  unfold Oper.quietAt at h
  have key : ∀ s : Sem Value, execOp a.eval o = (do pure (.value (← s))) → (execOp a.eval o).run P w = .ok (.value v) w := fun s hs => by
    rw [hs] at h ⊢
    rw [Sem.run_bind] at h ⊢
    cases hr : s.run P w with
    | halt x w' => rw [hr] at h; simp only [Result.andThen] at h; exact False.elim h
    | ok u w' =>
      rw [hr] at h
      simp only [Result.andThen] at h ⊢
      have e : (pure (Next.value u) : Sem Next).run P w' = .ok (.value u) w' := rfl
      rw [e] at h ⊢
      obtain ⟨h1, h2⟩ := h
      rw [h1, h2]
  have key2 : ∀ u : Value, execOp a.eval o = pure (.value u) → (execOp a.eval o).run P w = .ok (.value v) w := fun u hs => by
    rw [hs] at h ⊢
    have e : (pure (Next.value u) : Sem Next).run P w = .ok (.value u) w := rfl
    rw [e] at h ⊢
    obtain ⟨h1, h2⟩ := h
    rw [h2]
  cases ho : o.op <;> rw [ho] at hk <;> simp only [isMk, Bool.true_eq_false] at hk
  case move => exact key2 _ (by unfold execOp; rw [ho])
  case assign => exact key2 _ (by unfold execOp; rw [ho])
  case pick c x y => exact key (do pure (if ← asBool (a.eval c) then a.eval x else a.eval y)) (by unfold execOp; rw [ho]; simp)
  case nilCheck x =>
    have pan : execOp a.eval o = runtimePanic .nilDeref → (execOp a.eval o).run P w = .ok (.value v) w := fun he => by
      rw [he] at h
      cases hr : (runtimePanic .nilDeref : Sem Next).run P w with
      | halt x w' => rw [hr] at h; exact False.elim h
      | ok y w' => exact absurd hr (by simp [runtimePanic, goPanic])
    have hx : execOp a.eval o = execOp a.eval o := rfl
    conv at hx => rhs; unfold execOp; rw [ho]
    simp only at hx
    split at hx
    · exact pan hx
    · exact pan hx
    · exact pan hx
    · split at hx
      · exact pan hx
      · rw [hx] at h ⊢
        simp only [Sem.run_bind] at h ⊢
        cases h1 : Sem.run P program w with
        | halt x w' => rw [h1] at h; exact False.elim h
        | ok p w1 =>
          rw [h1] at h
          simp only [Result.andThen] at h ⊢
          have e : ∀ (u : Value) (w' : World), (pure (Next.value u) : Sem Next).run P w' = .ok (.value u) w' := fun _ _ => rfl
          split at h
          · rename_i b w2 _
            by_cases hb : (b != some false) = true
            · rw [if_pos hb] at h ⊢
              simp only [Sem.run_bind] at h ⊢
              generalize Sem.run P (unsupported _ : Sem PUnit) w2 = r at h ⊢
              cases r with
              | halt x w' => exact False.elim h
              | ok y w' =>
                simp only [Result.andThen] at h ⊢
                rw [e] at h ⊢
                obtain ⟨g1, g2⟩ := h
                rw [g1, g2]
            · rw [if_neg hb] at h ⊢
              rw [e] at h ⊢
              obtain ⟨g1, g2⟩ := h
              rw [g1, g2]
          · exact False.elim h
      · exact key2 _ hx
    · exact key2 _ hx
  all_goals exact key _ (by unfold execOp; rw [ho])
theorem mix_pure {o : Oper} {r : List Oper} {a : Act} {w : World} (hk : isMk o.op = false) (h : wpQuiet P ops S (fun a' => wpMixL P ops S Q r a' w) [o] a) : wpMixL P ops S Q (o :: r) a w := by
  unfold wpMixL
  rw [if_neg (by rw [hk]; decide)]
  unfold wpQuiet at h
  split at h
  · rename_i hw
    obtain ⟨v, h1, h2⟩ := h
    exact ⟨v, .inl ⟨hw, fun w hS => value_of_quiet hk (h1 w hS)⟩, h2⟩
  · rename_i hw
    exact ⟨undef, .inr ⟨by simpa using hw, rfl⟩, h⟩
end
end Go.Proofs.Ytbbpipbemhggdaa

namespace Go.Proofs.Ytbbpipbemhggdaa
open Go.RowKit

def OwnRL (lo hi : Nat) (w : World) (fs : List Sch) (vs : List Value) (ds : List Dat) : Prop := hi ≤ w.heap.size ∧ ∃ B : List Nat, B.Nodup ∧ (∀ b ∈ B, lo ≤ b ∧ b < hi) ∧ OwnL w fs vs ds B
theorem OwnRL.nil {lo hi : Nat} {w : World} (h : hi ≤ w.heap.size) : OwnRL lo hi w [] [] [] := ⟨h, [], by simp, by simp, by unfold OwnL; exact ⟨rfl, rfl, rfl⟩⟩
theorem OwnRL.cons {lo l1 m1 l2 hi : Nat} {w : World} {s : Sch} {v1 vs : List Value} {d : Dat} {fs : List Sch} {ds : List Dat} (h : OwnR l1 m1 w s v1 d) (k : OwnRL l2 hi w fs vs ds) (h0 : lo ≤ l1) (h1 : l1 ≤ m1) (h2 : m1 ≤ l2) (h3 : l2 ≤ hi) : OwnRL lo hi w (s :: fs) (v1 ++ vs) (d :: ds) := by
  obtain ⟨_, B1, hn1, hr1, ho1⟩ := h
  obtain ⟨hh, B2, hn2, hr2, ho2⟩ := k
  refine ⟨hh, B1 ++ B2, ?_, ?_, ?_⟩
  · refine List.nodup_append.2 ⟨hn1, hn2, fun a ha b hb e => ?_⟩
    have := hr1 a ha; have := hr2 b hb; omega
  · intro b hb
    rcases List.mem_append.1 hb with hb | hb
    · have := hr1 b hb; omega
    · have := hr2 b hb; omega
  · unfold OwnL
    exact ⟨v1, vs, d, ds, B1, B2, rfl, rfl, rfl, ho1, ho2⟩
theorem OwnRL.lo {lo lo' hi : Nat} {w : World} {fs : List Sch} {vs : List Value} {ds : List Dat} (h : OwnRL lo hi w fs vs ds) (hl : lo' ≤ lo) : OwnRL lo' hi w fs vs ds := by
  obtain ⟨hh, B, hn, hr, ho⟩ := h
  exact ⟨hh, B, hn, fun b hb => ⟨Nat.le_trans hl (hr b hb).1, (hr b hb).2⟩, ho⟩
/-- Blocks made before were stored into. -/
theorem OwnR.fin {lo hi : Nat} {X X' w' : World} {t : Xt} {s : Sch} {vs : List Value} {d : Dat} (h : OwnR lo hi (ext X t) s vs d) (hE : Ext (ext X' t) w') (hs : X'.heap.size = X.heap.size) (hl : X.heap.size ≤ lo) : OwnR lo hi w' s vs d := by
  refine OwnR.of ?_ hE
  obtain ⟨hh, B, hn, hr, ho⟩ := h
  refine ⟨by rw [ext_size] at hh ⊢; omega, B, hn, hr, Own.same s vs d B (fun b hb => ?_) ho⟩
  have hb1 := (hr b hb).1
  rw [ext_heap, ext_heap, Array.getElem?_append, Array.getElem?_append, if_neg (by omega), if_neg (by omega), hs]

/-- A cell of another block than those changed. -/
theorem Chg.cell {B : List Nat} {w w' : World} (hc : Chg B w w') {b : Nat} (hb : b < w.heap.size) (hn : b ∉ B) (o : Nat) : w'.cell? ⟨b, o, none⟩ = w.cell? ⟨b, o, none⟩ :=
  World.cell?_of_block (a := ⟨b, o, none⟩) (hc.block b hb hn)
theorem OwnL.chg {B B' : List Nat} {w w' : World} {fs : List Sch} {vs : List Value} {ds : List Dat} (h : OwnL w fs vs ds B) (hc : Chg B' w w') (hlt : ∀ b ∈ B, b < w.heap.size) (hd : ∀ b ∈ B, b ∉ B') : OwnL w' fs vs ds B :=
  OwnL.same fs vs ds B (fun b hb => hc.block b (hlt b hb) (hd b hb)) h
theorem blk_drew {w : World} {b : Nat} {x : Option Obj} (h : w.heap[b]? = x) : w.drew.heap[b]? = x := h
theorem blk_other {w : World} {b b' o : Nat} {v : Value} {x : Option Obj} (h : w.heap[b]? = x) (hn : b ≠ b') : (w.setCell ⟨b', o, none⟩ v).heap[b]? = x := (Below.heap_setCell _ _ _ _ hn).trans h
theorem blk_ext {w : World} {t : Xt} {b : Nat} {x : Obj} (h : w.heap[b]? = some x) : (ext w t).heap[b]? = some x := (ext_block _ _ _ (lt_blk h)).trans h
theorem blk_alloc {w : World} {b : Nat} {o x : Obj} (h : w.heap[b]? = some x) : (w.alloc o).heap[b]? = some x := by rw [alloc_ext]; exact blk_ext h
theorem Chg.ext {B : List Nat} {a w : World} {t : Xt} (h : Chg B a w) : Chg B a (Go.Proofs.Ytbbpipbemhggdaa.ext w t) := h.trans (Chg.of_ext ⟨t, rfl⟩ B)
theorem Chg.drewl {B : List Nat} {a w : World} (h : Chg B a w) : Chg B a.drew w := ⟨h.os, h.tape, h.output, h.size, h.block⟩
theorem Chg.both {B : List Nat} {a w : World} {o : Obj} (h : Chg B a w) (hs : a.heap.size = w.heap.size) : Chg B (a.alloc o) (w.alloc o) := by
  refine ⟨h.os, h.tape, h.output, by simp [hs], fun k hk hn => ?_⟩
  rcases Nat.lt_or_ge k a.heap.size with h1 | h1
  · rw [heap_alloc_old a o (r := k) h1, heap_alloc_old w o (r := k) (by omega)]
    exact h.block k h1 hn
  · obtain rfl : k = a.heap.size := by simp at hk; omega
    rw [heap_alloc_new]
    rw [show a.heap.size = w.heap.size from hs, heap_alloc_new]
theorem Chg.turn {a : World} {o o' : Obj} {R : Nat} (hR : a.heap.size = R) : Chg [R] (a.alloc o) (a.alloc o') := by
  refine ⟨rfl, rfl, rfl, by simp, fun k hk hn => ?_⟩
  have h1 : k < a.heap.size := by simp at hk hn; omega
  rw [heap_alloc_old a o' (r := k) h1, heap_alloc_old a o (r := k) h1]
theorem Chg.alloc {B : List Nat} {a w : World} {o : Obj} (h : Chg B a w) : Chg B a (w.alloc o) := h.trans (Chg.of_ext ((Ext.refl w).alloc o) B)

/-- The world with one block turned, blocks added, and draws. -/
def putBlk (w : World) (R : Nat) (ob : Obj) : World := { w with heap := w.heap.setIfInBounds R ob }
structure Xr where
  t : Xt
  ob : Obj
instance : Inhabited Xr := ⟨⟨⟨#[], 0⟩, .cells #[] 0 (0, 0)⟩⟩
def extR (w : World) (R : Nat) (x : Xr) : World := ext (putBlk w R x.ob) x.t
theorem putBlk_block (w : World) (R : Nat) (ob : Obj) (b : Nat) (hn : b ≠ R) : (putBlk w R ob).heap[b]? = w.heap[b]? := by
  simp [putBlk, Array.getElem?_setIfInBounds_ne (Ne.symm hn)]
theorem extR_block (w : World) (R : Nat) (x : Xr) (b : Nat) (h : b < w.heap.size) (hn : b ≠ R) : (extR w R x).heap[b]? = w.heap[b]? := by
  unfold extR
  rw [ext_block _ _ _ (by simpa [putBlk] using h), putBlk_block _ _ _ _ hn]
@[go_sem] theorem extR_cell' (w : World) (R : Nat) (x : Xr) (b i : Nat) (h : b < w.heap.size) (hn : b ≠ R) : (extR w R x).cell? ⟨b, i, none⟩ = w.cell? ⟨b, i, none⟩ := World.cell?_of_block (a := ⟨b, i, none⟩) (extR_block w R x b h hn)
@[go_sem] theorem extR_frozen' (w : World) (R : Nat) (x : Xr) (b i : Nat) (h : b < w.heap.size) (hn : b ≠ R) : (extR w R x).frozen? ⟨b, i, none⟩ = w.frozen? ⟨b, i, none⟩ := by
  simp [World.frozen?, extR_block w R x b h hn]
@[go_sem high] theorem ne_add_r0 (a b : Nat) (h : a < b) : (a = b) = False := by simp only [eq_iff_iff, iff_false]; omega
@[go_sem high] theorem ne_add_r1 (a b k : Nat) (h : a < b) : (a = b + k) = False := by simp only [eq_iff_iff, iff_false]; omega
@[go_sem high] theorem ne_add_r2 (a b k0 k1 : Nat) (h : a < b) : (a = b + k0 + k1) = False := by simp only [eq_iff_iff, iff_false]; omega
@[go_sem high] theorem ne_add_r3 (a b k0 k1 k2 : Nat) (h : a < b) : (a = b + k0 + k1 + k2) = False := by simp only [eq_iff_iff, iff_false]; omega
theorem extR_of {R : Nat} {w w' : World} (h : Chg [R] w w') : ∃ x, w' = extR w R x := by
  refine ⟨⟨⟨w'.heap.extract w.heap.size w'.heap.size, w'.drawn⟩, (w'.heap[R]?).getD default⟩, ?_⟩
  have hs := h.size
  have e : w'.heap = w.heap.setIfInBounds R ((w'.heap[R]?).getD default) ++ w'.heap.extract w.heap.size w'.heap.size := by
    apply Array.ext_getElem?
    intro i
    rw [Array.getElem?_append, Array.size_setIfInBounds]
    split
    · rename_i hi
      rw [Array.getElem?_setIfInBounds]
      split
      · rename_i e
        subst e
        rw [if_pos hi, Array.getElem?_eq_getElem (by omega)]
        rfl
      · rename_i e
        exact h.block i hi (by simpa using Ne.symm e)
    · rename_i hi
      rw [Array.getElem?_extract]
      split
      · congr 1; omega
      · rw [Array.getElem?_eq_none (by omega)]
  obtain ⟨h1, t1, d1, o1, u1⟩ := w
  obtain ⟨h2, t2, d2, o2, u2⟩ := w'
  obtain ⟨q1, q2, q3, _, _⟩ := h
  simp only at q1 q2 q3 e
  subst q1 q2 q3
  simp only [extR, putBlk, ext]
  rw [← e]
theorem Ext.set {a w : World} (h : Ext a w) {b o : Nat} (hb : a.heap.size ≤ b) (v : Value) : Ext a (w.setCell ⟨b, o, none⟩ v) := by
  refine Ext.of_below (Below.chg (w0 := a) h.below ((Chg.refl [b] w).set (by simp) v) fun k hk => ?_)
  obtain rfl : k = b := by simpa using hk
  exact hb
section
variable {P : Program} {ops : Array Oper} {Q : Exit → Act → World → Prop}
/-- The region that also stores into the block R. -/
theorem wp_region_mixR (R : Nat) {id : Nat} {a : Act} {w : World} {l : List Oper} (hm : P.follows .mixedOrders = true) (hB : segOk l.toArray = true)
    (h : wpMixL P l.toArray (fun w' => ∃ x, w' = extR w.drew R x) (Qt Q) l a w.drew) : (Code.region id l.toArray true).wp P Q a w := by
  refine Code.wp_mono (Q := Qt Q) (fun e a w h => by cases e <;> first | exact h | exact False.elim h) (wp_region_held (S := fun w' => ∃ x, w' = extR w.drew R x) hm ?_)
  have h1 := mix_of_list l 0 a _ (fun j => by simp) h
  have h2 := mix_sound hB (fun c a d v w h => h) (List.range' 0 l.length) (Array.replicate l.toArray.size false) a w.drew (by simp) List.pairwise_lt_range' (fun j => by
    simp only [List.mem_range'_1, List.size_toArray, Nat.zero_le, true_and, Nat.zero_add]
    constructor
    · intro hj; exact ⟨hj, by simp [hj]⟩
    · exact fun hj => hj.1) (extR_of (Chg.refl _ _)) h1
  simpa using h2
theorem wp_gen {c : Code} {a : Act} {w : World} (h : ∀ W, W = w → c.wp P Q a W) : c.wp P Q a w := h w rfl
theorem calls_gen {f : FuncId} {args : Array Value} {w : World} {K : Ending → World → Prop} (h : ∀ W, W = w → Calls P f args W K) : Calls P f args w K := h w rfl
end
theorem ChgR.cell {lo hi : Nat} {w w' : World} (hc : ChgR lo hi w w') {b : Nat} (hb : b < w.heap.size) (ho : b < lo ∨ hi ≤ b) (o : Nat) : w'.cell? ⟨b, o, none⟩ = w.cell? ⟨b, o, none⟩ :=
  World.cell?_of_block (a := ⟨b, o, none⟩) (hc.block b hb ho)
end Go.Proofs.Ytbbpipbemhggdaa

namespace Go.Proofs.Ytbbpipbemhggdaa
open Go.RowKit
set_option linter.unusedSimpArgs false
set_option linter.unusedVariables false

def Closed (ops : Array Oper) (listed : Array Bool) : Prop := ∀ j o, ops[j]? = some o → listed.getD j false = true → ∀ e ∈ o.after, Region.binds .any e = true → listed.getD e.on false = true
theorem Closed.step {ops : Array Oper} {listed : Array Bool} (h : Closed ops listed) {i : Nat} (hr : i ∈ Region.ready .any ops listed) : Closed ops (listed.setIfInBounds i true) := by
  obtain ⟨_, oi, hoi, hall⟩ := mem_ready.1 hr
  have keep : ∀ k, listed.getD k false = true → (listed.setIfInBounds i true).getD k false = true := fun k hk => by
    have hks : k < listed.size := by
      rcases Nat.lt_or_ge k listed.size with h' | h'
      · exact h'
      · simp [Array.getElem?_eq_none h'] at hk
    by_cases e : i = k
    · subst e; simp [hks]
    · simp [hks, Array.getElem_setIfInBounds_ne, e] at hk ⊢; exact hk
  intro j o ho hj e he hb
  by_cases ej : i = j
  · subst ej
    rw [hoi] at ho; obtain rfl := Option.some.inj ho
    exact keep _ (hall e he hb)
  · refine keep _ (h j o ho ?_ e he hb)
    have hks : j < listed.size := by
      rcases Nat.lt_or_ge j listed.size with h' | h'
      · exact h'
      · simp [Array.getElem?_eq_none (show (listed.setIfInBounds i true).size ≤ j by simpa using h')] at hj
    simp [hks, Array.getElem_setIfInBounds_ne, ej] at hj ⊢; exact hj
theorem closed_none (ops : Array Oper) (n : Nat) : Closed ops (Array.replicate n false) := fun j o _ hj => by
  rcases Nat.lt_or_ge j n with h | h
  · simp [h] at hj
  · simp [Array.getElem?_eq_none (show (Array.replicate n false).size ≤ j by simpa using h)] at hj

section
variable {P : Program} {ops : Array Oper} {S : World → Prop} {Q : Exit → Act → World → Prop}
end
end Go.Proofs.Ytbbpipbemhggdaa

namespace Go.Proofs.Ytbbpipbemhggdaa
open Go.RowKit
set_option linter.unusedSimpArgs false
set_option linter.unusedVariables false

/-- The frame with values put into the slots ds; none: an operation without a slot. -/
def putO : Nat → List (Option Nat) → (Nat → Value) → Array Value → Array Value
  | _, [], _, T => T
  | k, none :: ds, σ, T => putO (k + 1) ds σ T
  | k, some d :: ds, σ, T => putO (k + 1) ds σ (T.setIfInBounds d (σ k))
theorem putO_off : ∀ (ds : List (Option Nat)) (k : Nat) (σ : Nat → Value) (T : Array Value) (s : Nat), some s ∉ ds → (putO k ds σ T)[s]? = T[s]?
  | [], _, _, _, _, _ => rfl
  | none :: ds, k, σ, T, s, h => by
    simp only [putO]
    exact putO_off ds (k + 1) σ _ s (fun hm => h (by simp [hm]))
  | some d :: ds, k, σ, T, s, h => by
    simp only [List.mem_cons, not_or, Option.some.injEq] at h
    simp only [putO]
    rw [putO_off ds (k + 1) σ _ s h.2, Array.getElem?_setIfInBounds_ne (Ne.symm h.1)]
theorem mem_ids {ds : List (Option Nat)} {d : Nat} : d ∈ ds.filterMap id ↔ some d ∈ ds := by simp
theorem putO_on : ∀ (ds : List (Option Nat)) (k : Nat) (σ : Nat → Value) (T : Array Value) (i d : Nat), (ds.filterMap id).Nodup → ds[i]? = some (some d) → d < T.size → (putO k ds σ T)[d]? = some (σ (k + i))
  | [], _, _, _, _, _, _, h, _ => by simp at h
  | none :: ds, k, σ, T, 0, d, hn, h, hl => by simp at h
  | none :: ds, k, σ, T, i + 1, d, hn, h, hl => by
    simp only [List.getElem?_cons_succ] at h
    simp only [putO]
    rw [putO_on ds (k + 1) σ _ i d (by simpa using hn) h hl]
    congr 2; omega
  | some e :: ds, k, σ, T, 0, d, hn, h, hl => by
    simp only [List.getElem?_cons_zero, Option.some.injEq] at h
    subst h
    simp only [putO]
    have hn' : e ∉ ds.filterMap id ∧ (ds.filterMap id).Nodup := by simpa using hn
    rw [putO_off ds (k + 1) σ _ e (fun hm => hn'.1 (mem_ids.2 hm)), arr_set hl, if_pos rfl, Nat.add_zero]
  | some e :: ds, k, σ, T, i + 1, d, hn, h, hl => by
    simp only [List.getElem?_cons_succ] at h
    simp only [putO]
    have hn' : e ∉ ds.filterMap id ∧ (ds.filterMap id).Nodup := by simpa using hn
    rw [putO_on ds (k + 1) σ _ i d hn'.2 h (by simpa using hl)]
    congr 2; omega
def valO (ds : List (Option Nat)) (T : Array Value) (i : Nat) : Value := match ds[i]? with
  | some (some d) => T.getD d undef
  | _ => undef
theorem valO_at {ds : List (Option Nat)} {T : Array Value} {i d : Nat} (h : ds[i]? = some (some d)) : valO ds T i = T.getD d undef := by unfold valO; rw [h]
theorem valO_no {ds : List (Option Nat)} {T : Array Value} {i : Nat} (h : ds[i]? = some none) : valO ds T i = undef := by unfold valO; rw [h]
theorem putO_eta {ds : List (Option Nat)} {T T' : Array Value} (hn : (ds.filterMap id).Nodup) (hs : T'.size = T.size) (hl : ∀ d, some d ∈ ds → d < T.size) (ho : ∀ s, some s ∉ ds → T'[s]? = T[s]?) : T' = putO 0 ds (valO ds T') T := by
  apply Array.ext_getElem?
  intro s
  by_cases hm : some s ∈ ds
  · obtain ⟨i, hi⟩ := List.getElem?_of_mem hm
    rw [putO_on ds 0 _ T i s hn hi (hl s hm), Nat.zero_add, valO_at hi]
    have h1 : s < T'.size := by rw [hs]; exact hl s hm
    rw [Array.getElem?_eq_getElem h1]
    simp [h1]
  · rw [putO_off ds 0 _ T s hm]; exact ho s hm
def actO (ds : List (Option Nat)) (σ : Nat → Value) (a0 : Act) : Act := { a0 with tmps := putO 0 ds σ a0.tmps }
theorem ids_inj : ∀ {ds : List (Option Nat)}, (ds.filterMap id).Nodup → ∀ {i j d : Nat}, ds[i]? = some (some d) → ds[j]? = some (some d) → i = j
  | [], _, _, _, _, h, _ => by simp at h
  | none :: ds, hn, 0, _, _, h, _ => by simp at h
  | none :: ds, hn, _ + 1, 0, _, _, h => by simp at h
  | none :: ds, hn, i + 1, j + 1, d, h, k => by
    have := ids_inj (ds := ds) (by simpa using hn) (i := i) (j := j) (d := d) (by simpa using h) (by simpa using k)
    omega
  | some e :: ds, hn, 0, 0, _, _, _ => rfl
  | some e :: ds, hn, 0, j + 1, d, h, k => by
    have hn' : e ∉ ds.filterMap id ∧ (ds.filterMap id).Nodup := by simpa using hn
    simp only [List.getElem?_cons_zero, Option.some.injEq] at h
    subst h
    exact absurd (mem_ids.2 (List.mem_of_getElem? (by simpa using k))) hn'.1
  | some e :: ds, hn, i + 1, 0, d, h, k => by
    have hn' : e ∉ ds.filterMap id ∧ (ds.filterMap id).Nodup := by simpa using hn
    simp only [List.getElem?_cons_zero, Option.some.injEq] at k
    subst k
    exact absurd (mem_ids.2 (List.mem_of_getElem? (by simpa using h))) hn'.1
  | some e :: ds, hn, i + 1, j + 1, d, h, k => by
    have hn' : e ∉ ds.filterMap id ∧ (ds.filterMap id).Nodup := by simpa using hn
    have := ids_inj (ds := ds) hn'.2 (i := i) (j := j) (d := d) (by simpa using h) (by simpa using k)
    omega

section
variable {P : Program} {ops : Array Oper} {Q : Exit → Act → World → Prop}
end
end Go.Proofs.Ytbbpipbemhggdaa

namespace Go.Proofs.Ytbbpipbemhggdaa
open Go.RowKit
set_option linter.unusedSimpArgs false
set_option linter.unusedVariables false

@[go_sem] theorem drew_size' (w : World) : w.drew.heap.size = w.heap.size := rfl
@[go_sem] theorem drew_cell'' (w : World) (a : Addr) : w.drew.cell? a = w.cell? a := rfl
@[go_sem] theorem drew_frozen'' (w : World) (a : Addr) : w.drew.frozen? a = w.frozen? a := rfl
section
variable {P : Program} {ops : Array Oper} {Q : Exit → Act → World → Prop} {base : World} {K : List (Nat × Nat) → Act → World → Prop}
end
section
variable {Q : Exit → Act → World → Prop}
theorem Ext.cell {a b : World} (h : Ext a b) {k : Nat} (hk : k < a.heap.size) (o : Nat) : b.cell? ⟨k, o, none⟩ = a.cell? ⟨k, o, none⟩ := World.cell?_of_block (a := ⟨k, o, none⟩) (h.block hk)
end
end Go.Proofs.Ytbbpipbemhggdaa

namespace Go.Proofs.Ytbbpipbemhggdaa
open Go.RowKit
set_option linter.unusedSimpArgs false
set_option linter.unusedVariables false

/-- What changes only blocks above does not count. -/
theorem Chg.up {B B' : List Nat} {b0 w w' : World} (h : Chg B b0 w) (k : Chg B' w w') (hB : ∀ b ∈ B', b0.heap.size ≤ b) : Chg B b0 w' :=
  ⟨k.os.trans h.os, k.tape.trans h.tape, k.output.trans h.output, Nat.le_trans h.size k.size, fun i hi hn => (k.block i (Nat.lt_of_lt_of_le hi h.size) (fun hb => by have := hB i hb; omega)).trans (h.block i hi hn)⟩
theorem own_row {α : Type} {cells : α → List Value} {dat : α → Dat} {sch : Sch} {k : Nat} (hsz : sch.size = k) (hown : ∀ w x, Own w sch (cells x) (dat x) []) (hcl : ∀ x, (cells x).length = k) {w' : World} {base : Nat} {T : TypeId} {xs : List α} {v : Value}
    (hm : xs.length ≤ 9223372036854775807) (h : w'.ownsRow base T k v xs.length (xs.flatMap cells)) : ∃ a c, v = .slice a xs.length c ∧ OwnR base w'.heap.size w' (.sl sch) [.slice a xs.length c] (.l (xs.map dat)) := by
  obtain ⟨hl, ⟨rfl, h0⟩ | ⟨g, cap, cur, rfl, hg, hb, hc, hcm, hcs, ht⟩⟩ := h
  · have hx : xs = [] := List.eq_nil_of_length_eq_zero h0
    subst hx
    exact ⟨none, 0, rfl, Nat.le_refl _, [], by simp, by simp, own_flat_mk (xs := []) (k := k) hsz hown (Nat.zero_le _) (.inl ⟨rfl, rfl⟩)⟩
  · refine ⟨_, _, rfl, Nat.le_refl _, [g], by simp, ?_, own_flat_mk hsz hown (by simpa [maxLen] using hm) (.inr ⟨g, cur, T, rfl, rfl, hb, ?_, ?_⟩)⟩
    · intro b hb'
      obtain rfl : b = g := by simpa using hb'
      exact ⟨hg, lt_blk hb⟩
    · rw [hcs]; exact Nat.mul_le_mul_right _ hc
    · intro i x hi hx j u hu
      have hj : j < k := by rw [← hcl x]; exact (List.getElem?_eq_some_iff.1 hu).1
      have e1 : (xs.flatMap cells)[i * k + j]? = some u := by
        clear hl ht hcs hc hi hm
        induction xs generalizing i with
        | nil => simp at hx
        | cons y ys ih =>
          rw [List.flatMap_cons]
          cases i with
          | zero =>
            obtain rfl : y = x := by simpa using hx
            rw [Nat.zero_mul, Nat.zero_add, List.getElem?_append_left (by rw [hcl]; exact hj)]
            exact hu
          | succ i =>
            rw [List.getElem?_append_right (by rw [hcl, Nat.add_mul]; omega), hcl, Nat.add_mul, show i * k + 1 * k + j - k = i * k + j by omega]
            exact ih i (by simpa using hx)
      have hlt : i * k + j < xs.length * k := by
        have : (i + 1) * k ≤ xs.length * k := Nat.mul_le_mul_right _ hi
        rw [Nat.add_mul, Nat.one_mul] at this
        omega
      rw [← ht, List.getElem?_take, if_pos hlt] at e1
      simpa using e1
theorem row_slice {w : World} {base sz n : Nat} {T : TypeId} {v : Value} {xs : List Value} (h : w.ownsRow base T sz v n xs) : ∃ a m c, v = .slice a m c := by
  rcases h.2 with ⟨rfl, _⟩ | ⟨g, cap, cur, rfl, _⟩
  · exact ⟨_, _, _, rfl⟩
  · exact ⟨_, _, _, rfl⟩
end Go.Proofs.Ytbbpipbemhggdaa

namespace Go.Proofs.Ytbbpipbemhggdaa
open Go.RowKit
set_option linter.unusedSimpArgs false
set_option linter.unusedVariables false

/-- The bytes that a slice leads to. -/
def Bytes (hi : Nat) (w : World) (a : Option Addr) (n : Nat) : Prop := ∀ i, i < n → ∃ (b o x : Nat), a = some ⟨b, o, none⟩ ∧ b < hi ∧ x ≤ 255 ∧ w.cell? ⟨b, o + i, none⟩ = some (.int .u8 x)
theorem Bytes.chg {hi n : Nat} {a : Option Addr} {w w' : World} {B : List Nat} (h : Bytes hi w a n) (hc : Chg B w w') (hB : ∀ b ∈ B, hi ≤ b) (hs : hi ≤ w.heap.size) : Bytes hi w' a n := fun i hi' => by
  obtain ⟨b, o, x, h1, h2, h3, h4⟩ := h i hi'
  exact ⟨b, o, x, h1, h2, h3, (hc.cell (by omega) (fun hb => by have := hB b hb; omega) _).trans h4⟩
theorem Bytes.mono {hi hi' n n' : Nat} {a : Option Addr} {w : World} (h : Bytes hi w a n) (hh : hi ≤ hi') (hn : n' ≤ n) : Bytes hi' w a n' := fun i hi => by
  obtain ⟨b, o, x, h1, h2, h3, h4⟩ := h i (by omega)
  exact ⟨b, o, x, h1, by omega, h3, h4⟩
/-- A reader in block p that has read at most Q bytes of what lies below lo. -/
def Rdr (lo p Q : Nat) (w : World) : Prop := lo ≤ p ∧ ∃ (a : Option Addr) (n c q : Nat), n ≤ 2000 ∧ q ≤ Q ∧ w.heap[p]? = some (.cells #[.slice a n c, .int .i64 q] 108 (0, 0)) ∧ Bytes lo w a n
theorem Rdr.lt {lo p Q : Nat} {w : World} (h : Rdr lo p Q w) : p < w.heap.size := by
  obtain ⟨_, a, n, c, q, _, _, h, _⟩ := h; exact lt_blk h
theorem Rdr.lo {lo p Q : Nat} {w : World} (h : Rdr lo p Q w) : lo ≤ p := h.1
theorem Rdr.chg {lo p Q Q' : Nat} {w w' : World} {B : List Nat} (h : Rdr lo p Q w) (hc : Chg B w w') (hB : ∀ b ∈ B, lo ≤ b ∧ b ≠ p) (hQ : Q ≤ Q') : Rdr lo p Q' w' := by
  obtain ⟨h0, a, n, c, q, h1, h2, h3, h4⟩ := h
  have := lt_blk h3
  exact ⟨h0, a, n, c, q, h1, by omega, (hc.block p this (fun hb => (hB p hb).2 rfl)).trans h3, h4.chg hc (fun b hb => (hB b hb).1) (by omega)⟩
theorem Rdr.of {lo p Q : Nat} {w w' : World} (h : Rdr lo p Q w) (hE : Ext w w') : Rdr lo p Q w' := h.chg (Chg.of_ext hE []) (by simp) (Nat.le_refl _)
theorem Rdr.up {lo p Q Q' : Nat} {w : World} (h : Rdr lo p Q w) (hQ : Q ≤ Q') : Rdr lo p Q' w := h.chg (Chg.refl [] w) (by simp) hQ

theorem bits_xor_i64 (a b : Nat) (ha : a < 4611686018427387904) (hb : b < 4611686018427387904) : bits .xor .i64 (a : Int) (b : Int) = ((a ^^^ b : Nat) : Int) := by
  have hx : a ^^^ b < 2 ^ 62 := Nat.xor_lt_two_pow (by omega) (by omega)
  have h1 : (BitVec.ofInt 64 (a : Int)).toNat = a := by
    rw [BitVec.ofInt_natCast, BitVec.toNat_ofNat]; exact Nat.mod_eq_of_lt (by omega)
  have h2 : (BitVec.ofInt 64 (b : Int)).toNat = b := by
    rw [BitVec.ofInt_natCast, BitVec.toNat_ofNat]; exact Nat.mod_eq_of_lt (by omega)
  show IntKind.i64.wrap ((BitVec.ofInt 64 (a : Int) ^^^ BitVec.ofInt 64 (b : Int)).toNat : Int) = _
  rw [BitVec.toNat_xor, h1, h2]
  simp [IntKind.wrap, IntKind.bits, IntKind.signed]
  omega
theorem bits_nn (X : Int) (h0 : 0 ≤ X) (h1 : X ≤ 1000000000) : ∃ r : Nat, bits .xor .i64 X (X / 64) = (r : Int) := by
  obtain ⟨a, rfl⟩ := Int.eq_ofNat_of_zero_le h0
  have e : ((a : Int) / 64) = ((a / 64 : Nat) : Int) := by omega
  rw [e]
  exact ⟨_, bits_xor_i64 a (a / 64) (by omega) (by omega)⟩
set_option maxRecDepth 100000 in
set_option maxHeartbeats 1000000 in
theorem pick_c (lo p Q : Nat) (k : Int) (w : World) (h : Rdr lo p Q w) (k1 : 1 ≤ k) (k2 : k ≤ 100000) (hQ : Q ≤ 100000) :
    Calls Try.prog 56 #[.pointer (some ⟨p, 0, none⟩), .int .i64 k] w fun e w' => ∃ v : Int, e = .returned (.int .i64 v) ∧ 0 ≤ v ∧ v < k ∧ Rdr lo p (Q + 1) w' ∧ Chg [p] w w' := by
  obtain ⟨h0, a, n, c, q, h1, h2, h3, h4⟩ := h
  have HB := hid h3
  have H4 := hid h4
  have lP : p < w.heap.size := lt_blk h3
  have cP0 : w.cell? ⟨p, 0, none⟩ = some (.slice a n c) := (cell_blk h3 0).trans rfl
  have cP1 : w.cell? ⟨p, 1, none⟩ = some (.int .i64 q) := (cell_blk h3 1).trans rfl
  have zP0 := frozen_blk h3 0
  have zP1 := frozen_blk h3 1
  have HF := hid (fun (v : Int) (w' : World) (hw : Chg [p] w w') (hb : w'.heap[p]? = some (.cells #[.slice a n c, .int .i64 ((q + 1 : Nat) : Int)] 108 (0, 0))) => (show Rdr lo p (Q + 1) w' from ⟨h0, a, n, c, q + 1, h1, by omega, hb, h4.chg hw (by simp; omega) (by omega)⟩))
  clear h3 h4
  have g1 : decide (k < 1) = false := by simp; omega
  by_cases hn : n = 0
  · subst hn
    go_enter Try.func56, Try.ntmps56
    try go_wp2_with (first
        | fail
        | (
          with_reducible refine wp_region_mix (by kernel_rfl) (by decide +kernel) ?_
          repeat (first
            | (refine mix_pure rfl ?_; (first | go_big_quiet_skip | (go_big_quiet_want; go_big_quiet_op; go_big_quiet_on)); refine wpQuiet_nil ?_)
            | (refine mix_skip (by rfl) ?_; (try simp only [Act.put, List.setIfInBounds_toArray, List.set_cons_zero, List.set_cons_succ]))
            | (refine mix_mk rfl (by rfl) (fun K hK => ?_); (first | (go_simp; first | skip)); (show K _ _); refine hK _ _ (show Ext _ _ from zq0) ?_; clear hK K; (try simp only [Act.put, List.setIfInBounds_toArray, List.set_cons_zero, List.set_cons_succ])))
          refine mix_nil ?_)
        | (
          with_reducible refine wp_region_ext (by kernel_rfl) (by kernel_rfl) ?_
          repeat (first | go_big_quiet_skip | (go_big_quiet_want; go_big_quiet_op; first | go_big_quiet_on | (apply Exists.intro; refine ⟨fun _ => ?_, ?_⟩; (fail); (try rw [h1]); (try rw [h2]); (try rw [h3]); (try rw [h4]); (try rw [p1]); (try rw [p2]); (try rw [p3]); (try rw [p4]); (try rw [r1]); (try rw [r2]); (try rw [r3]); (try rw [r4]); (try rw [r5]); (try rw [r6]); (try rw [q3]); (try rw [q4]); (try rw [hp]); (try rw [hq]); go_big_quiet_on)))
          refine wpQuiet_nil ?_
          rintro _ ⟨tq, rfl⟩))
    go_ret
    exact ⟨0, ret_int (by simp), by omega, by omega, HF.out 0 _ zq1 (by exact blk_set HB.out), zq1⟩
  · have g2 : ((n : Int) == 0) = false := by simp; omega
    by_cases hq : q < n
    · obtain ⟨b, o, x, rfl, hb, hx, hc⟩ := H4.out q hq
      have hbp : b ≠ p := by omega
      have hpb : p ≠ b := by omega
      have lb : b < w.heap.size := by omega
      go_enter Try.func56, Try.ntmps56
      try go_wp2_with (first
          | fail
          | (
            with_reducible refine wp_region_mix (by kernel_rfl) (by decide +kernel) ?_
            repeat (first
              | (refine mix_pure rfl ?_; (first | go_big_quiet_skip | (go_big_quiet_want; go_big_quiet_op; go_big_quiet_on)); refine wpQuiet_nil ?_)
              | (refine mix_skip (by rfl) ?_; (try simp only [Act.put, List.setIfInBounds_toArray, List.set_cons_zero, List.set_cons_succ]))
              | (refine mix_mk rfl (by rfl) (fun K hK => ?_); (first | (go_simp; first | skip)); (show K _ _); refine hK _ _ (show Ext _ _ from zq0) ?_; clear hK K; (try simp only [Act.put, List.setIfInBounds_toArray, List.set_cons_zero, List.set_cons_succ])))
            refine mix_nil ?_)
          | (
            with_reducible refine wp_region_ext (by kernel_rfl) (by kernel_rfl) ?_
            repeat (first | go_big_quiet_skip | (go_big_quiet_want; go_big_quiet_op; first | go_big_quiet_on | (apply Exists.intro; refine ⟨fun _ => ?_, ?_⟩; (fail); (try rw [h1]); (try rw [h2]); (try rw [h3]); (try rw [h4]); (try rw [p1]); (try rw [p2]); (try rw [p3]); (try rw [p4]); (try rw [r1]); (try rw [r2]); (try rw [r3]); (try rw [r4]); (try rw [r5]); (try rw [r6]); (try rw [q3]); (try rw [q4]); (try rw [hp]); (try rw [hq]); go_big_quiet_on)))
            refine wpQuiet_nil ?_
            rintro _ ⟨tq, rfl⟩))
      go_ret
      exact ⟨(x : Int) % k, ret_int (by simp), Int.emod_nonneg _ (by omega), Int.emod_lt_of_pos _ (by omega), HF.out 0 _ zq1 (by exact blk_set HB.out), zq1⟩
    · obtain ⟨i1, hi1⟩ : ∃ i, q % n = i := ⟨_, rfl⟩
      obtain ⟨i2, hi2⟩ : ∃ i, (q * 7 + 3) % n = i := ⟨_, rfl⟩
      obtain ⟨d, hd⟩ : ∃ d, q / n = d := ⟨_, rfl⟩
      have l1 : i1 < n := by rw [← hi1]; exact Nat.mod_lt _ (by omega)
      have l2 : i2 < n := by rw [← hi2]; exact Nat.mod_lt _ (by omega)
      have ld : d ≤ q := by rw [← hd]; exact Nat.div_le_self _ _
      have e1 : (q : Int) % (n : Int) = (i1 : Int) := by rw [← hi1]; simp
      have e2 : ((q : Int) * 7 + 3) % (n : Int) = (i2 : Int) := by rw [← hi2]; simp
      have e3 : (q : Int) / (n : Int) = (d : Int) := by rw [← hd]; simp
      obtain ⟨b, o, x, rfl, hb, hx, hc⟩ := H4.out i1 l1
      obtain ⟨b', o', x', hbo, hb', hx', hc'⟩ := H4.out i2 l2
      simp only [Option.some.injEq, Addr.mk.injEq, and_true] at hbo
      obtain ⟨rfl, rfl⟩ := hbo
      have hbp : b ≠ p := by omega
      have hpb : p ≠ b := by omega
      have lb : b < w.heap.size := by omega
      clear hi1 hi2 hd
      go_enter Try.func56, Try.ntmps56
      try go_wp2_with (first
          | fail
          | (
            with_reducible refine wp_region_mix (by kernel_rfl) (by decide +kernel) ?_
            repeat (first
              | (refine mix_pure rfl ?_; (first | go_big_quiet_skip | (go_big_quiet_want; go_big_quiet_op; go_big_quiet_on)); refine wpQuiet_nil ?_)
              | (refine mix_skip (by rfl) ?_; (try simp only [Act.put, List.setIfInBounds_toArray, List.set_cons_zero, List.set_cons_succ]))
              | (refine mix_mk rfl (by rfl) (fun K hK => ?_); (first | (go_simp; first | skip)); (show K _ _); refine hK _ _ (show Ext _ _ from zq0) ?_; clear hK K; (try simp only [Act.put, List.setIfInBounds_toArray, List.set_cons_zero, List.set_cons_succ])))
            refine mix_nil ?_)
          | (
            with_reducible refine wp_region_ext (by kernel_rfl) (by kernel_rfl) ?_
            repeat (first | go_big_quiet_skip | (go_big_quiet_want; go_big_quiet_op; first | go_big_quiet_on | (apply Exists.intro; refine ⟨fun _ => ?_, ?_⟩; (fail); (try rw [h1]); (try rw [h2]); (try rw [h3]); (try rw [h4]); (try rw [p1]); (try rw [p2]); (try rw [p3]); (try rw [p4]); (try rw [r1]); (try rw [r2]); (try rw [r3]); (try rw [r4]); (try rw [r5]); (try rw [r6]); (try rw [q3]); (try rw [q4]); (try rw [hp]); (try rw [hq]); go_big_quiet_on)))
            refine wpQuiet_nil ?_
            rintro _ ⟨tq, rfl⟩))
      go_ret
      obtain ⟨r, hr⟩ := bits_nn ((x : Int) * 131 + (x' : Int) * 1117 + (q : Int) * 29 + (d : Int) * 53) (by omega) (by omega)
      refine ⟨((r : Int)).tmod k, ret_int (by rw [hr]), ?_, ?_, HF.out 0 _ zq1 (by exact blk_ext (blk_set HB.out)), zq1⟩
      · rw [Int.tmod_eq_emod_of_nonneg (by omega)]; exact Int.emod_nonneg _ (by omega)
      · rw [Int.tmod_eq_emod_of_nonneg (by omega)]; exact Int.emod_lt_of_pos _ (by omega)
@[go_sem] theorem extR_size (w : World) (R : Nat) (x : Xr) : (extR w R x).heap.size = w.heap.size + x.t.bs.size := by simp [extR, ext_size, putBlk]
/-- A map that was drawn, in bounds. -/
def MapIn (m : Mp) : Prop := -1 ≤ m.c ∧ m.c ≤ 9 ∧ -1 ≤ m.w ∧ m.w ≤ 9
end Go.Proofs.Ytbbpipbemhggdaa

namespace Go.Proofs.Ytbbpipbemhggdaa
open Go.RowKit
set_option linter.unusedSimpArgs false
set_option linter.unusedVariables false

theorem open_bytes {H : Type} {enc : TypeId × Value → H} {w : World} {a : Option Addr} {n c : Nat} {d : DataW H} {p : List MemPlace} (h : DataW.Trod enc Try.prog w 0 (fun _ => true) true 22 (.slice a n c) d p) : n ≤ c ∧ Bytes w.heap.size w a n := by
  obtain ⟨fuel, h⟩ := h
  rcases Go.Deep.open_slice1 Try.underlying22 (by kernel_rfl) h with ⟨h0, _⟩ | ⟨a', len, cap, m, k, V, D, Pl, h0, _, hl, hm, hmm, _, hi⟩
  · have e : Value.slice a n c = .slice none 0 0 := (List.cons.inj h0).1
    obtain ⟨rfl, rfl, rfl⟩ := Value.slice.inj e
    exact ⟨Nat.le_refl _, fun i hi => absurd hi (Nat.not_lt_zero _)⟩
  · have e : Value.slice a n c = .slice (some a') len cap := (List.cons.inj h0).1
    obtain ⟨rfl, rfl, rfl⟩ := Value.slice.inj e
    refine ⟨hl, fun i hin => ?_⟩
    have him : i < m := by rw [hmm]; split <;> omega
    obtain ⟨hc, htr⟩ := hi i him
    obtain ⟨x, hx, _, hwf⟩ := DataW.trod_int (k := .u8) Try.underlying5 htr
    have e2 : V i = .int .u8 x := (List.cons.inj hx).1
    rw [e2] at hc
    obtain ⟨b, o, sp⟩ := a'
    have h00 := (hi 0 (by omega)).1
    have hsp : sp = none := by simpa [Addr.add] using World.cell?_spot h00
    subst hsp
    have hb : b < w.heap.size := by have := block_lt_of_cell h00; simpa [Addr.add] using this
    have hr : 0 ≤ x ∧ x ≤ 255 := by
      simp [Lit.wf, IntKind.min, IntKind.max, IntKind.bits, IntKind.signed] at hwf
      omega
    refine ⟨b, o, x.toNat, rfl, hb, by omega, ?_⟩
    have e3 : ((x.toNat : Nat) : Int) = x := Int.toNat_of_nonneg hr.1
    rw [e3]
    have e4 : (⟨b, o, none⟩ : Addr).add i = ⟨b, o + i, none⟩ := by
      simp only [Addr.add]; try (split <;> simp_all)
    rw [← e4]; exact hc

theorem l20Open_c (lo n c : Nat) (a : Option Addr) (w : World) (hB : Bytes lo w a n) (hlo : lo ≤ w.heap.size) (hc : n ≤ c) :
    Calls Try.prog 54 #[.slice a n c] w fun e w' => e = .returned (.pointer (some ⟨w.heap.size, 0, none⟩)) ∧ Rdr lo w.heap.size 0 w' ∧ Ext w w' := by
  have HB := hid hB
  by_cases hn : 2000 < n
  · obtain ⟨b, o, x, rfl, hb, hx, hcl⟩ := hB 0 (by omega)
    clear hB hcl
    go_enter Try.func54, Try.ntmps54
    try go_wp2_with (first
        | fail
        | (
          with_reducible refine wp_region_mix (by kernel_rfl) (by decide +kernel) ?_
          repeat (first
            | (refine mix_pure rfl ?_; (first | go_big_quiet_skip | (go_big_quiet_want; go_big_quiet_op; go_big_quiet_on)); refine wpQuiet_nil ?_)
            | (refine mix_skip (by rfl) ?_; (try simp only [Act.put, List.setIfInBounds_toArray, List.set_cons_zero, List.set_cons_succ]))
            | (refine mix_mk rfl (by rfl) (fun K hK => ?_); (first | (go_simp; first | skip)); (show K _ _); refine hK _ _ (show Ext _ _ from zq0) ?_; clear hK K; (try simp only [Act.put, List.setIfInBounds_toArray, List.set_cons_zero, List.set_cons_succ])))
          refine mix_nil ?_)
        | (
          with_reducible refine wp_region_ext (by kernel_rfl) (by kernel_rfl) ?_
          repeat (first | go_big_quiet_skip | (go_big_quiet_want; go_big_quiet_op; first | go_big_quiet_on | (apply Exists.intro; refine ⟨fun _ => ?_, ?_⟩; (fail); (try rw [h1]); (try rw [h2]); (try rw [h3]); (try rw [h4]); (try rw [p1]); (try rw [p2]); (try rw [p3]); (try rw [p4]); (try rw [r1]); (try rw [r2]); (try rw [r3]); (try rw [r4]); (try rw [r5]); (try rw [r6]); (try rw [q3]); (try rw [q4]); (try rw [hp]); (try rw [hq]); go_big_quiet_on)))
          refine wpQuiet_nil ?_
          rintro _ ⟨tq, rfl⟩))
    go_ret
    exact ⟨rfl, ⟨hlo, _, 2000, c, 0, by omega, by omega, alloc_last (by simp), (HB.out.mono (Nat.le_refl _) (by omega)).chg (B := []) (Chg.of_ext zq0 []) (by simp) hlo⟩, zq0⟩
  · clear hB
    go_enter Try.func54, Try.ntmps54
    try go_wp2_with (first
        | fail
        | (
          with_reducible refine wp_region_mix (by kernel_rfl) (by decide +kernel) ?_
          repeat (first
            | (refine mix_pure rfl ?_; (first | go_big_quiet_skip | (go_big_quiet_want; go_big_quiet_op; go_big_quiet_on)); refine wpQuiet_nil ?_)
            | (refine mix_skip (by rfl) ?_; (try simp only [Act.put, List.setIfInBounds_toArray, List.set_cons_zero, List.set_cons_succ]))
            | (refine mix_mk rfl (by rfl) (fun K hK => ?_); (first | (go_simp; first | skip)); (show K _ _); refine hK _ _ (show Ext _ _ from zq0) ?_; clear hK K; (try simp only [Act.put, List.setIfInBounds_toArray, List.set_cons_zero, List.set_cons_succ])))
          refine mix_nil ?_)
        | (
          with_reducible refine wp_region_ext (by kernel_rfl) (by kernel_rfl) ?_
          repeat (first | go_big_quiet_skip | (go_big_quiet_want; go_big_quiet_op; first | go_big_quiet_on | (apply Exists.intro; refine ⟨fun _ => ?_, ?_⟩; (fail); (try rw [h1]); (try rw [h2]); (try rw [h3]); (try rw [h4]); (try rw [p1]); (try rw [p2]); (try rw [p3]); (try rw [p4]); (try rw [r1]); (try rw [r2]); (try rw [r3]); (try rw [r4]); (try rw [r5]); (try rw [r6]); (try rw [q3]); (try rw [q4]); (try rw [hp]); (try rw [hq]); go_big_quiet_on)))
          refine wpQuiet_nil ?_
          rintro _ ⟨tq, rfl⟩))
    go_ret
    exact ⟨rfl, ⟨hlo, _, n, c, 0, by omega, by omega, alloc_last (by simp), HB.out.chg (B := []) (Chg.of_ext zq0 []) (by simp) hlo⟩, zq0⟩

/-- A block of numbers in bounds. -/
def IntArr (w : World) (b n : Nat) (lo hi : Int) : Prop := ∃ arr, w.heap[b]? = some (.cells arr 3 (0, 0)) ∧ ∀ i, i < n → ∃ x : Int, arr[i]? = some (.int .i64 x) ∧ lo ≤ x ∧ x ≤ hi
theorem IntArr.chg {w w' : World} {b n : Nat} {lo hi : Int} {B : List Nat} (h : IntArr w b n lo hi) (hc : Chg B w w') (hb : b ∉ B) : IntArr w' b n lo hi := by
  obtain ⟨arr, h1, h2⟩ := h
  exact ⟨arr, (hc.block b (lt_blk h1) hb).trans h1, h2⟩
def InI (lo hi : Int) (v : Value) : Prop := ∃ x : Int, v = .int .i64 x ∧ lo ≤ x ∧ x ≤ hi
def MkI (W n : Nat) (lo hi : Int) (v : Value) (w : World) : Prop := ∃ b, v = .slice (some ⟨b, 0, none⟩) n n ∧ W ≤ b ∧ IntArr w b n lo hi
def PtI (W n : Nat) (lo hi : Int) (v : Value) (w : World) : Prop := ∃ b k, v = .pointer (some ⟨b, k, none⟩) ∧ k < n ∧ W ≤ b ∧ IntArr w b n lo hi
theorem MkI.chg {W n : Nat} {lo hi : Int} {v : Value} {w w' : World} {B : List Nat} (h : MkI W n lo hi v w) (hc : Chg B w w') (hB : ∀ b ∈ B, b < W) : MkI W n lo hi v w' := by
  obtain ⟨b, h1, h2, h3⟩ := h
  exact ⟨b, h1, h2, h3.chg hc (fun hm => by have := hB b hm; omega)⟩
theorem PtI.chg {W n : Nat} {lo hi : Int} {v : Value} {w w' : World} {B : List Nat} (h : PtI W n lo hi v w) (hc : Chg B w w') (hB : ∀ b ∈ B, b < W) : PtI W n lo hi v w' := by
  obtain ⟨b, k, h1, h0, h2, h3⟩ := h
  exact ⟨b, k, h1, h0, h2, h3.chg hc (fun hm => by have := hB b hm; omega)⟩
/-- What goes along with a region that draws: the reader, and a result's map. -/
def JD (lo p Q R : Nat) (done : Bool) (w : World) : Prop := Rdr lo p Q w ∧ ∃ a b : Int, w.heap[R]? = some (.cells #[.int .i64 a, .int .i64 b] 24 (0, 0)) ∧ (done = true → MapIn ⟨a, b⟩)
theorem JD.ext {lo p Q R : Nat} {d : Bool} {w w' : World} (h : JD lo p Q R d w) (hE : Ext w w') : JD lo p Q R d w' := by
  obtain ⟨h1, a, b, h2, h3⟩ := h
  exact ⟨h1.of hE, a, b, (hE.block (lt_blk h2)).trans h2, h3⟩
theorem index_at {w : World} {b n : Nat} {lo hi : Int} (h : IntArr w b n lo hi) {k : Nat} (hk : k < n) : ∃ x : Int, w.cell? ⟨b, k, none⟩ = some (.int .i64 x) ∧ lo ≤ x ∧ x ≤ hi := by
  obtain ⟨arr, h1, h2⟩ := h
  obtain ⟨x, h3, h4⟩ := h2 k hk
  exact ⟨x, (cell_blk h1 k).trans h3, h4⟩
end Go.Proofs.Ytbbpipbemhggdaa

namespace Go.Proofs.Ytbbpipbemhggdaa
open Go.RowKit
set_option linter.unusedSimpArgs false
set_option linter.unusedVariables false

/-- What is known of the operations that have come up. -/
structure FlowDI (ds : List (Option Nat)) (S : Nat → Value → World → Prop) (G : World → World → Prop) (J : Nat → World → Prop) (N : Nat) (a0 : Act) (w0 : World) (k : Nat) (listed : Array Bool) (a : Act) (w : World) : Prop where
  defers : a.defers = a0.defers
  size : a.tmps.size = a0.tmps.size
  off : ∀ s, some s ∉ ds → a.tmps[s]? = a0.tmps[s]?
  ext : G w0 w
  inv : J k w
  spec : ∀ j, j < N → listed.getD j true = true → S j (valO ds a.tmps j) w

section
variable {P : Program} {ops : Array Oper} {Q : Exit → Act → World → Prop}
theorem flowD_sound {N : Nat} {a0 : Act} {w0 : World} {ds : List (Option Nat)} {S : Nat → Value → World → Prop} {G : World → World → Prop} {Gi : Nat → World → World → Prop} {J : Nat → World → Prop} (hGt : ∀ a b c, G a b → G b c → G a c) (hGi : ∀ i a b, i < N → Gi i a b → G a b)
    (hsz : ops.size = N) (hgd : ∀ (i : Nat) (o : Oper), ops[i]? = some o → o.guard = none) (hds : ds.length = N) (hdd : ∀ (i : Nat) (o : Oper), ops[i]? = some o → some o.dst = ds[i]?)
    (hnd : (ds.filterMap id).Nodup) (hlt : ∀ d, some d ∈ ds → d < a0.tmps.size) (hback : ∀ (i : Nat) (o : Oper), ops[i]? = some o → ∀ j, waits o j = true → j < i)
    (hext : ∀ i j, i < N → j < N → i ≠ j → ∀ (v : Value) w w', G w0 w → S j v w → Gi i w w' → S j v w')
    (hstep : ∀ (i : Nat) (o : Oper), ops[i]? = some o → ∀ (σ : Nat → Value) (k : Nat) w, G w0 w → k < N → J k w → (∀ j, waits o j = true → S j (σ j) w) →
      o.wp P (actO ds σ a0) w (fun a' w' => ∃ v, a' = (actO ds σ a0).put o.dst v ∧ (o.dst = none → v = undef) ∧ Gi i w w' ∧ J (k + 1) w' ∧ S i v w') Qn)
    (hend : ∀ (σ : Nat → Value) w, G w0 w → J N w → (∀ j, j < N → S j (σ j) w) → Q .normal (actO ds σ a0) w) :
    ∀ (n k : Nat) (rem : List Nat) (listed : Array Bool) (a : Act) (w : World), rem.length = n → k + n = N → rem.Nodup → listed.size = ops.size → (∀ j, j ∈ rem ↔ j < N ∧ listed.getD j true = false) → Closed ops listed →
      FlowDI ds S G J N a0 w0 k listed a w → wpAny P .any ops Q n listed a w := by
  have want : ∀ (i : Nat) (o : Oper), ops[i]? = some o → ∀ y, Region.wanted o y = true := fun i o hi y => by simp [Region.wanted, hgd i o hi]
  have wt : ∀ {o : Oper} {j : Nat}, waits o j = true → ∃ e ∈ o.after, Region.binds .any e = true ∧ e.on = j := fun {o j} h => by
    simp only [waits, Array.any_eq_true, Bool.and_eq_true, beq_iff_eq] at h
    obtain ⟨q, hq, hb, he⟩ := h
    exact ⟨_, Array.getElem_mem hq, hb, he⟩
  have wt' : ∀ {o : Oper} {e}, e ∈ o.after → Region.binds .any e = true → waits o e.on = true := fun {o e} he hb => by
    simp only [waits, Array.any_eq_true, Bool.and_eq_true, beq_iff_eq]
    obtain ⟨q, hq, rfl⟩ := Array.mem_iff_getElem.1 he
    exact ⟨q, hq, hb, rfl⟩
  have frame : ∀ {k : Nat} {listed : Array Bool} {a : Act} {w : World}, FlowDI ds S G J N a0 w0 k listed a w → a = actO ds (valO ds a.tmps) a0 := fun {k listed a w} hI => by
    have := putO_eta (T := a0.tmps) (T' := a.tmps) hnd hI.size hlt hI.off
    unfold actO
    rw [← this]
    cases a; cases a0
    simp only [Act.mk.injEq, true_and]
    exact hI.defers
  intro n
  induction n with
  | zero =>
    intro k rem listed a w hn hk hnr hls hmem hcl hI
    obtain rfl := List.eq_nil_of_length_eq_zero hn
    have lst : ∀ j, j < N → listed.getD j true = true := fun j hj => by
      cases hl : listed.getD j true with
      | true => rfl
      | false => exact absurd ((hmem j).2 ⟨hj, hl⟩) (by simp)
    refine ⟨?_, ?_⟩
    · rw [List.eq_nil_iff_forall_not_mem]
      intro j hj
      obtain ⟨h0, oj, hoj, _⟩ := mem_ready.1 hj
      have hjs := (Array.getElem?_eq_some_iff.1 hoj).1
      rw [lst j (by omega)] at h0; cases h0
    · have h := hend (valO ds a.tmps) w hI.ext (by have := hI.inv; rwa [show k = N by omega] at this) (fun j hj => hI.spec j hj (lst j hj))
      rw [← frame hI] at h
      exact h
  | succ n ih =>
    intro k rem listed a w hn hk hnr hls hmem hcl hI
    have inrem : ∀ j, j ∈ Region.ready .any ops listed → j ∈ rem := fun j hj => by
      obtain ⟨h0, o, ho, hall⟩ := mem_ready.1 hj
      have hjs := (Array.getElem?_eq_some_iff.1 ho).1
      exact (hmem j).2 ⟨by omega, h0⟩
    refine ⟨fun h0 => ?_, fun i hi => ?_⟩
    · exfalso
      have key : ∀ m k, k ≤ m → k ∈ rem → False := by
        intro m
        induction m with
        | zero =>
          intro k hk hkm
          obtain ⟨k1, k2⟩ := (hmem k).1 hkm
          obtain ⟨o, ho⟩ : ∃ o, ops[k]? = some o := ⟨_, Array.getElem?_eq_getElem (by omega)⟩
          have : k ∈ Region.ready .any ops listed := mem_ready.2 ⟨k2, o, ho, fun e he hb => by have := hback k o ho e.on (wt' he hb); omega⟩
          rw [h0] at this; cases this
        | succ m ihm =>
          intro k hk hkm
          obtain ⟨k1, k2⟩ := (hmem k).1 hkm
          obtain ⟨o, ho⟩ : ∃ o, ops[k]? = some o := ⟨_, Array.getElem?_eq_getElem (by omega)⟩
          have : k ∈ Region.ready .any ops listed := mem_ready.2 ⟨k2, o, ho, fun e he hb => by
            have hlt' := hback k o ho e.on (wt' he hb)
            cases hl : listed.getD e.on true with
            | true =>
              have : e.on < listed.size := by omega
              simp [this] at hl ⊢; exact hl
            | false => exact (ihm e.on (by omega) ((hmem e.on).2 ⟨by omega, hl⟩)).elim⟩
          rw [h0] at this; cases this
      obtain ⟨k, hk⟩ : ∃ k, k ∈ rem := by
        cases rem with
        | nil => simp at hn
        | cons k rest => exact ⟨k, by simp⟩
      exact key k k (Nat.le_refl _) hk
    · have him := inrem i hi
      obtain ⟨hiN, hiu⟩ := (hmem i).1 him
      obtain ⟨_, o, ho, hall⟩ := mem_ready.1 hi
      have hal : ∀ {j}, j < listed.size → listed.getD j false = true → listed.getD j true = true := fun {j} hj h => by simp [hj] at h ⊢; exact h
      have hdep : ∀ j, waits o j = true → j < N ∧ listed.getD j true = true := fun j hj => by
        have hlt' := hback i o ho j hj
        obtain ⟨e, he, hb, rfl⟩ := wt hj
        exact ⟨by omega, hal (by omega) (hall e he hb)⟩
      have hisz : i < listed.size := by omega
      have h := hstep i o ho (valO ds a.tmps) k w hI.ext (by omega) hI.inv (fun j hj => hI.spec j (hdep j hj).1 (hdep j hj).2)
      rw [← frame hI] at h
      unfold wpOp
      simp only [ho, want i o ho, if_true]
      refine .inl (wp_Qn (fun a' w' h1 => ?_) h)
      obtain ⟨v, rfl, hvn, hE, hJ, hS⟩ := h1
      have hod : ds[i]? = some o.dst := (hdd i o ho).symm
      have hdef : (a.put o.dst v).defers = a.defers := by cases o.dst <;> rfl
      have htsz : (a.put o.dst v).tmps.size = a.tmps.size := by
        cases o.dst with
        | none => rfl
        | some d => simp [Act.put]
      have hoff : ∀ s, o.dst ≠ some s → (a.put o.dst v).tmps[s]? = a.tmps[s]? := fun s hs => by
        cases hd : o.dst with
        | none => rfl
        | some d =>
          rw [hd] at hs
          show (a.tmps.setIfInBounds d v)[s]? = _
          rw [Array.getElem?_setIfInBounds_ne (fun e => hs (by rw [e]))]
      have hσ : ∀ j, j ≠ i → valO ds (a.put o.dst v).tmps j = valO ds a.tmps j := fun j hji => by
        cases hdj : ds[j]? with
        | none => simp [valO, hdj]
        | some x =>
          cases x with
          | none => rw [valO_no hdj, valO_no hdj]
          | some d =>
            rw [valO_at hdj, valO_at hdj, Array.getD_eq_getD_getElem?, Array.getD_eq_getD_getElem?, hoff d (fun e => hji (ids_inj hnd hdj (by rw [hod, e])))]
      have hσi : valO ds (a.put o.dst v).tmps i = v := by
        cases hd : o.dst with
        | none => rw [hd] at hod; rw [valO_no hod, hvn hd]
        | some d =>
          rw [hd] at hod
          have hdl : d < a.tmps.size := by rw [hI.size]; exact hlt d (List.mem_of_getElem? hod)
          rw [valO_at hod]
          show (a.tmps.setIfInBounds d v).getD d undef = v
          rw [Array.getD_eq_getD_getElem?, arr_set hdl, if_pos rfl]; rfl
      refine ih (k + 1) (rem.erase i) (listed.setIfInBounds i true) (a.put o.dst v) w' ?_ (by omega) (hnr.erase i) (by simp [hls]) ?_ (hcl.step hi) ?_
      · rw [List.length_erase_of_mem him, hn]; rfl
      · intro j
        rw [hnr.mem_erase_iff, hmem j]
        by_cases e : j = i
        · subst e
          simp [hisz]
        · simp only [e, ne_eq, not_false_eq_true, true_and]
          rw [getD_set_ne true (Ne.symm e)]
      · refine ⟨hdef.trans hI.defers, htsz.trans hI.size, fun s hs => ?_, hGt _ _ _ hI.ext (hGi i _ _ hiN hE), hJ, fun j hj hjl => ?_⟩
        · rw [hoff s (fun e => hs (by rw [← e]; exact List.mem_of_getElem? hod))]; exact hI.off s hs
        · by_cases e : j = i
          · subst e
            rw [hσi]; exact hS
          · rw [getD_set_ne true (Ne.symm e)] at hjl
            rw [hσ j e]
            exact hext i j hiN hj (Ne.symm e) _ _ _ hI.ext (hI.spec j hj hjl) hE

/-- What the text of the region must be. -/
def flowOkD (ops : List Oper) (ds : List (Option Nat)) : Bool :=
  (ops.all fun o => o.guard.isNone) && ((ops.map Oper.dst) == ds) && decide (ds.filterMap id).Nodup && ((List.range ops.length).all fun i => (ops[i]?).all fun o => o.after.all fun e => !Region.binds .any e || decide (e.on < i))
theorem wp_region_flowD (ds : List (Option Nat)) (G : World → World → Prop) (Gi : Nat → World → World → Prop) (J : Nat → World → Prop) (S : Nat → Value → World → Prop) {id : Nat} {a0 : Act} {w : World} {l : List Oper} (hm : P.follows .mixedOrders = true) (hok : flowOkD l ds = true)
    (hlt : ∀ d, some d ∈ ds → d < a0.tmps.size) (hGr : ∀ a, G a a) (hGt : ∀ a b c, G a b → G b c → G a c) (hGi : ∀ i a b, i < ds.length → Gi i a b → G a b) (hGd : G w w.drew) (hJ0 : J 0 w.drew)
    (hext : ∀ i j, i < ds.length → j < ds.length → i ≠ j → ∀ (v : Value) w1 w', G w w1 → S j v w1 → Gi i w1 w' → S j v w')
    (hstep : ∀ (i : Nat) (o : Oper), l[i]? = some o → ∀ (σ : Nat → Value) (k : Nat) w1, G w w1 → k < ds.length → J k w1 → (∀ j, waits o j = true → S j (σ j) w1) →
      o.wp P (actO ds σ a0) w1 (fun a' w' => ∃ v, a' = (actO ds σ a0).put o.dst v ∧ (o.dst = none → v = undef) ∧ Gi i w1 w' ∧ J (k + 1) w' ∧ S i v w') Qn)
    (hend : ∀ (σ : Nat → Value) w1, G w w1 → J ds.length w1 → (∀ j, j < ds.length → S j (σ j) w1) → Q .normal (actO ds σ a0) w1) : (Code.region id l.toArray true).wp P Q a0 w := by
  simp only [flowOkD, Bool.and_eq_true, beq_iff_eq, decide_eq_true_eq, List.all_eq_true, List.mem_range] at hok
  obtain ⟨⟨⟨h2, h3⟩, h4⟩, h6⟩ := hok
  have get : ∀ (i : Nat) (o : Oper), l.toArray[i]? = some o → l[i]? = some o := fun i o h => by simpa using h
  have hlen : l.length = ds.length := by rw [← h3]; simp
  refine wp_region_any hm ?_
  have key := flowD_sound (P := P) (ops := l.toArray) (Q := Q) (N := ds.length) (a0 := a0) (w0 := w.drew) (ds := ds) (S := S) (G := G) (Gi := Gi) (J := J) hGt hGi (by simp [hlen])
    (fun i o h => by have := h2 o (List.mem_of_getElem? (get i o h)); simpa using this) rfl
    (fun i o h => by
      have h' := get i o h
      have e : (l.map Oper.dst)[i]? = some o.dst := by rw [List.getElem?_map, h']; rfl
      rw [h3] at e
      exact e.symm)
    h4 hlt
    (fun i o h j hw => by
      have h' := get i o h
      have hi : i < l.length := (List.getElem?_eq_some_iff.1 h').1
      have := h6 i hi
      rw [h'] at this
      simp only [Option.all_some, Array.all_eq_true_iff_forall_mem, Bool.or_eq_true, Bool.not_eq_true', decide_eq_true_eq] at this
      simp only [waits, Array.any_eq_true, Bool.and_eq_true, beq_iff_eq] at hw
      obtain ⟨q, hq, hb, he⟩ := hw
      rcases this _ (Array.getElem_mem hq) with hh | hh
      · rw [hb] at hh; cases hh
      · omega)
    (fun i j hi hj hij v w1 w' hg hs h => hext i j hi hj hij v w1 w' (hGt _ _ _ hGd hg) hs h)
    (fun i o h σ k w1 hg hk hj hd => hstep i o (get i o h) σ k w1 (hGt _ _ _ hGd hg) hk hj hd)
    (fun σ w1 hg hj hd => hend σ w1 (hGt _ _ _ hGd hg) hj hd)
  have h := key ds.length 0 (List.range ds.length) (Array.replicate l.toArray.size false) a0 w.drew (by simp) (by simp) List.nodup_range (by simp) (fun j => by
      simp only [List.mem_range]
      constructor
      · intro hj; exact ⟨hj, by simp [show j < l.length by omega]⟩
      · exact fun hj => hj.1) (closed_none _ _)
    ⟨rfl, rfl, fun s _ => rfl, hGr _, hJ0, fun j hj hl => by simp [show j < l.length by omega] at hl⟩
  have e : l.toArray.size = ds.length := by simp [hlen]
  rw [e] at h ⊢
  exact h
end
end Go.Proofs.Ytbbpipbemhggdaa

namespace Go.Proofs.Ytbbpipbemhggdaa
open Go.RowKit
set_option linter.unusedSimpArgs false
set_option linter.unusedVariables false

/-- A slice's value. -/
structure SlV where
  a : Option Addr
  n : Nat
  c : Nat
def SlV.cells (v : SlV) : List Value := [.slice v.a v.n v.c]
/-- An element appended; only the row's own block may change. -/
theorem wp_appRZ {α : Type} {cells : α → List Value} {k bytes : Nat} {z : Value} {TS T : TypeId} (hT : Try.prog.underlying TS = some (.slice T)) (hI : (Try.prog.info? T).map (fun i => (i.zero, i.size, i.bytes)) = some (some z, k, bytes)) (hz : z.cells.size = k) (hpos : 0 < k) (hby : bytes ≤ 1024)
    (hcl : ∀ x, (cells x).length = k) (hone : ∀ x, ∀ u ∈ cells x, u.oneCell' = true)
    {o : Oper} {a : Act} {K : Act → World → Prop} {Q : Exit → Act → World → Prop} {w : World} (base : Nat) (s x : Operand) (ho : o.op = .call { callee := .builtin .append, args := #[s, x], argTypes := #[TS, TS] })
    {v : Value} {xs : List α} (hs : a.eval s = v) (hb : base ≤ w.heap.size) (hown : w.ownsRow base T k v xs.length (xs.flatMap cells)) (y : α) {b c : Nat} {T' : TypeId} (hx : a.eval x = .slice (some ⟨b, 0, none⟩) 1 c) (hy : w.heap[b]? = some (.cells (cells y).toArray T' (0, 0))) (hn : xs.length ≤ 4194304)
    (h : ∀ v' w', w'.ownsRow base T k v' (xs ++ [y]).length ((xs ++ [y]).flatMap cells) → Chg v.ownBlock.toList w w' → (v'.ownBlock = v.ownBlock ∨ v'.ownBlock = some w.heap.size) → K (a.put o.dst v') w') : o.wp Try.prog a w K Q := by
  cases hi : Try.prog.info? T with
  | none => rw [hi] at hI; cases hI
  | some i =>
    rw [hi] at hI
    simp only [Option.map_some, Option.some.injEq, Prod.mk.injEq] at hI
    obtain ⟨i1, i2, i3⟩ := hI
    obtain ⟨v', w', hr, h1, h2, _, h4⟩ := run_append_own_at (P := Try.prog) w base TS o.type T i z k bytes hT hi i1 i2 i3 hz hpos v xs.length (xs.flatMap cells) hown ⟨b, 0, none⟩ 1 c (cells y) (by rw [hcl, Nat.one_mul]) (by
      intro j u hu
      rw [ld_add, Nat.zero_add, cell_blk hy]
      simpa using hu) (hone y) (by simp only [maxLen]; omega) (by
      calc (xs.length + 1) * bytes ≤ (xs.length + 1) * 1024 := Nat.mul_le_mul_left _ hby
        _ ≤ 140737488355328 := by omega) hb
    unfold Oper.wp execOp
    simp only [ho, resolve, invoke, builtin, Sem.run_bind, Sem.run_pure, Result.andThen_ok, List.map_toArray, List.map_cons, List.map_nil, hs, hx, hr]
    refine h v' w' ?_ ⟨h2.os, h2.tape, h2.output, h2.size, fun k hk hn => h2.block k hk (fun e => hn (by first | (rw [e]; simp; done) | (rw [← e]; simp; done)))⟩ h4
    rw [List.length_append, List.length_singleton, List.flatMap_append, List.flatMap_singleton]
    exact h1
end Go.Proofs.Ytbbpipbemhggdaa

namespace Go.Proofs.Ytbbpipbemhggdaa
open Go.RowKit
set_option linter.unusedSimpArgs false
set_option linter.unusedVariables false

/-- v is a slice of one's own with the elements xs, that may be appended to; B: its block. -/
def RowX {α : Type} (w : World) (T : TypeId) (k : Nat) (cells : α → List Value) (v : Value) (xs : List α) (B : List Nat) : Prop :=
  (xs = [] ∧ B = [] ∧ ∃ a, v = .slice a 0 0 ∧ (a = none ∨ ∃ g, a = some (⟨g, 0, none⟩ : Addr))) ∨
  ∃ g cap cur, v = .slice (some ⟨g, 0, none⟩) xs.length cap ∧ B = [g] ∧ w.heap[g]? = some (.cells cur T (0, 0)) ∧ xs.length ≤ cap ∧ cap ≤ maxLen ∧ cur.size = cap * k ∧ FillI cells k cur xs xs.length
section
variable {α : Type} {cells : α → List Value} {dat : α → Dat} {sch : Sch} {k : Nat} {T : TypeId} {w w' : World} {v : Value} {xs : List α} {B : List Nat}
theorem RowX.lt (h : RowX w T k cells v xs B) : ∀ b ∈ B, b < w.heap.size := by
  rcases h with ⟨_, rfl, _⟩ | ⟨g, cap, cur, _, rfl, hb, _⟩
  · simp
  · simpa using lt_blk hb
theorem RowX.slice (h : RowX w T k cells v xs B) : ∃ a c, v = .slice a xs.length c := by
  rcases h with ⟨rfl, rfl, a, rfl, _⟩ | ⟨g, cap, cur, rfl, _⟩
  · exact ⟨_, _, rfl⟩
  · exact ⟨_, _, rfl⟩
theorem RowX.len {a : Option Addr} {n c : Nat} (h : RowX w T k cells (.slice a n c) xs B) : n = xs.length := by
  obtain ⟨a', c', e⟩ := h.slice
  exact (Value.slice.inj e).2.1
theorem RowX.nodup (h : RowX w T k cells v xs B) : B.Nodup := by
  rcases h with ⟨_, rfl, _⟩ | ⟨g, cap, cur, _, rfl, _⟩ <;> simp
theorem RowX.same (h : RowX w T k cells v xs B) (hs : ∀ b ∈ B, w'.heap[b]? = w.heap[b]?) : RowX w' T k cells v xs B := by
  rcases h with h | ⟨g, cap, cur, h1, rfl, h2, h3⟩
  · exact .inl h
  · exact .inr ⟨g, cap, cur, h1, rfl, (hs g (by simp)).trans h2, h3⟩
theorem RowX.chg {B' : List Nat} (h : RowX w T k cells v xs B) (hc : Chg B' w w') (hd : ∀ b ∈ B, b ∉ B') : RowX w' T k cells v xs B :=
  h.same fun b hb => hc.block b (h.lt b hb) (hd b hb)
theorem RowX.of (h : RowX w T k cells v xs B) (hE : Ext w w') : RowX w' T k cells v xs B := h.same fun b hb => hE.block (h.lt b hb)
theorem RowX.max (h : RowX w T k cells v xs B) : xs.length ≤ maxLen := by
  rcases h with ⟨rfl, _⟩ | ⟨g, cap, cur, _, _, _, h1, h2, _⟩
  · exact Nat.zero_le _
  · exact Nat.le_trans h1 h2
theorem mul_row {n cap k : Nat} (h : n ≤ cap) : n * k ≤ cap * k := Nat.mul_le_mul_right _ h
theorem RowX.own (hsz : sch.size = k) (hown : ∀ w x, Own w sch (cells x) (dat x) []) (h : RowX w T k cells v xs B) : Own w (.sl sch) [v] (.l (xs.map dat)) B := by
  have hm := h.max
  rcases h with ⟨rfl, rfl, a, rfl, _⟩ | ⟨g, cap, cur, rfl, rfl, hb, h1, h2, hs, hf⟩
  · exact own_flat_mk (xs := []) (k := k) hsz hown (Nat.zero_le _) (.inl ⟨rfl, rfl⟩)
  · exact own_flat_mk hsz hown hm (.inr ⟨g, cur, T, rfl, rfl, hb, by rw [hs]; exact mul_row h1, hf⟩)
theorem fill_take (hcl : ∀ x, (cells x).length = k) {cur : Array Value} (hs : xs.length * k ≤ cur.size) (hf : FillI cells k cur xs xs.length) : cur.toList.take (xs.length * k) = xs.flatMap cells := by
  have hl : (xs.flatMap cells).length = xs.length * k := by
    rw [List.length_flatMap, List.map_congr_left (g := fun _ => k) (fun x _ => hcl x), List.map_const', List.sum_replicate_nat]
  apply List.ext_getElem?
  intro j
  by_cases hj : j < xs.length * k
  · obtain ⟨u, hu⟩ : ∃ u, (xs.flatMap cells)[j]? = some u := ⟨_, List.getElem?_eq_getElem (by omega)⟩
    rw [hu, List.getElem?_take, if_pos hj, Array.getElem?_toList]
    obtain ⟨i, r, x, rfl, hr, hx, hc⟩ := flatMap_get hcl xs j u hu
    exact hf i x (List.getElem?_eq_some_iff.1 hx).1 hx r u hc
  · rw [List.getElem?_eq_none (by simp; omega), List.getElem?_eq_none (by omega)]
theorem take_fill (hcl : ∀ x, (cells x).length = k) {cur : Array Value} (ht : cur.toList.take (xs.length * k) = xs.flatMap cells) : FillI cells k cur xs xs.length := by
  intro i x hi hx j u hu
  have hj : j < k := by rw [← hcl x]; exact (List.getElem?_eq_some_iff.1 hu).1
  have e1 : (xs.flatMap cells)[i * k + j]? = some u := by
    clear ht hi
    induction xs generalizing i with
    | nil => simp at hx
    | cons y ys ih =>
      rw [List.flatMap_cons]
      cases i with
      | zero =>
        obtain rfl : y = x := by simpa using hx
        rw [Nat.zero_mul, Nat.zero_add, List.getElem?_append_left (by rw [hcl]; exact hj)]
        exact hu
      | succ i =>
        rw [List.getElem?_append_right (by rw [hcl, Nat.add_mul]; omega), hcl, Nat.add_mul, show i * k + 1 * k + j - k = i * k + j by omega]
        exact ih i (by simpa using hx)
  have hlt : i * k + j < xs.length * k := by
    have : (i + 1) * k ≤ xs.length * k := Nat.mul_le_mul_right _ hi
    rw [Nat.add_mul, Nat.one_mul] at this
    omega
  rw [← ht, List.getElem?_take, if_pos hlt] at e1
  simpa using e1
theorem rowX_of (hcl : ∀ x, (cells x).length = k) {base : Nat} (h : w.ownsRow base T k v xs.length (xs.flatMap cells)) : RowX w T k cells v xs v.ownBlock.toList ∧ ∀ b ∈ v.ownBlock.toList, base ≤ b := by
  obtain ⟨hl, ⟨rfl, h0⟩ | ⟨g, cap, cur, rfl, hg, hb, hc, hcm, hcs, ht⟩⟩ := h
  · exact ⟨.inl ⟨List.eq_nil_of_length_eq_zero h0, rfl, none, rfl, .inl rfl⟩, by simp [Value.ownBlock]⟩
  · exact ⟨.inr ⟨g, cap, cur, rfl, rfl, hb, hc, hcm, hcs, take_fill hcl ht⟩, by simpa [Value.ownBlock] using hg⟩
theorem RowX.row (hcl : ∀ x, (cells x).length = k) {base : Nat} (h : RowX w T k cells v xs B) (hB : ∀ b ∈ B, base ≤ b) : (xs = [] ∧ B = [] ∧ ∃ a, v = .slice a 0 0 ∧ (a = none ∨ ∃ g, a = some (⟨g, 0, none⟩ : Addr))) ∨ (w.ownsRow base T k v xs.length (xs.flatMap cells) ∧ B = v.ownBlock.toList) := by
  rcases h with h | ⟨g, cap, cur, rfl, rfl, hb, h1, h2, hs, hf⟩
  · exact .inl h
  · refine .inr ⟨⟨?_, .inr ⟨g, cap, cur, rfl, hB g (by simp), hb, h1, h2, hs, fill_take hcl (by rw [hs]; exact mul_row h1) hf⟩⟩, rfl⟩
    rw [List.length_flatMap, List.map_congr_left (g := fun _ => k) (fun x _ => hcl x), List.map_const', List.sum_replicate_nat]
/-- An element: where it lies, and what becomes of the row when it is overwritten. -/
theorem RowX.at {a : Option Addr} {n c : Nat} (hpos : 0 < k) (hcl : ∀ x, (cells x).length = k) (h : RowX w T k cells (.slice a n c) xs B) {j : Nat} (hj : j < xs.length) :
    ∃ (g : Nat) (cur : Array Value) (x : α), a = some ⟨g, 0, none⟩ ∧ B = [g] ∧ n = xs.length ∧ n ≤ c ∧ xs[j]? = some x ∧ w.heap[g]? = some (.cells cur T (0, 0)) ∧ j * k + k ≤ cur.size ∧ (∀ i u, (cells x)[i]? = some u → cur[j * k + i]? = some u) ∧
      ∀ (w' : World) (cur' : Array Value) (y : α), w'.heap[g]? = some (.cells cur' T (0, 0)) → cur'.size = cur.size → (∀ i, ¬ (j * k ≤ i ∧ i < j * k + k) → cur'[i]? = cur[i]?) → (∀ i u, (cells y)[i]? = some u → cur'[j * k + i]? = some u) → RowX w' T k cells (.slice a n c) (xs.set j y) B := by
  rcases h with ⟨rfl, _⟩ | ⟨g, cap, cur, hv, rfl, hb, h1, h2, hs, hf⟩
  · simp at hj
  · obtain ⟨rfl, rfl, rfl⟩ := Value.slice.inj hv
    have hle : j * k + k ≤ cur.size := by
      have : (j + 1) * k ≤ xs.length * k := Nat.mul_le_mul_right _ hj
      have := mul_row (k := k) h1
      rw [Nat.add_mul, Nat.one_mul] at *; omega
    refine ⟨g, cur, xs[j], rfl, rfl, rfl, h1, List.getElem?_eq_getElem hj, hb, hle, fun i u hu => hf j _ hj (List.getElem?_eq_getElem hj) i u hu, fun w' cur' y hb' hs' ho hi => .inr ⟨g, c, cur', by rw [List.length_set], rfl, hb', by rw [List.length_set]; exact h1, h2, by rw [hs', hs], hf.put hcl hj ho hi⟩⟩
end

section
variable {α : Type} {cells : α → List Value} {k bytes : Nat} {z : Value} {TS T : TypeId}
/-- An element appended. -/
theorem wp_appX (hT : Try.prog.underlying TS = some (.slice T)) (hI : (Try.prog.info? T).map (fun i => (i.zero, i.size, i.bytes)) = some (some z, k, bytes)) (hz : z.cells.size = k) (hpos : 0 < k) (hby : bytes ≤ 1024)
    (hcl : ∀ x, (cells x).length = k) (hone : ∀ x, ∀ u ∈ cells x, u.oneCell' = true)
    {o : Oper} {a : Act} {K : Act → World → Prop} {Q : Exit → Act → World → Prop} {w : World} (s x : Operand) (ho : o.op = .call { callee := .builtin .append, args := #[s, x], argTypes := #[TS, TS] })
    {v : Value} {xs : List α} {B : List Nat} (hs : a.eval s = v) (hown : RowX w T k cells v xs B) (y : α) {b c : Nat} {T' : TypeId} (hx : a.eval x = .slice (some ⟨b, 0, none⟩) 1 c) (hy : w.heap[b]? = some (.cells (cells y).toArray T' (0, 0))) (hn : xs.length ≤ 4194304)
    (h : ∀ v' w' B', RowX w' T k cells v' (xs ++ [y]) B' → Chg B w w' → (B' = B ∨ B' = [w.heap.size]) → K (a.put o.dst v') w') : o.wp Try.prog a w K Q := by
  have grow : ∀ (o : Oper) (a : Act) (s x : Operand) (v : Value) (K : Act → World → Prop), o.op = .call { callee := .builtin .append, args := #[s, x], argTypes := #[TS, TS] } → a.eval s = v → a.eval x = .slice (some ⟨b, 0, none⟩) 1 c → w.ownsRow 0 T k v xs.length (xs.flatMap cells) → B = v.ownBlock.toList →
      (∀ v' w' B', RowX w' T k cells v' (xs ++ [y]) B' → Chg B w w' → (B' = B ∨ B' = [w.heap.size]) → K (a.put o.dst v') w') → o.wp Try.prog a w K Q := by
    intro o a s x v K ho hs hx hrow hB h
    refine wp_appRZ hT hI hz hpos hby hcl hone 0 s x ho hs (Nat.zero_le _) hrow y hx hy hn fun v' w' h1 h2 h3 => ?_
    obtain ⟨r1, _⟩ := rowX_of hcl h1
    refine h v' w' _ r1 (hB ▸ h2) ?_
    rw [hB]
    rcases h3 with h3 | h3
    · exact .inl (by rw [h3])
    · exact .inr (by rw [h3]; rfl)
  rcases hown.row hcl (base := 0) (fun _ _ => Nat.zero_le _) with ⟨rfl, rfl, ad, rfl, hb⟩ | ⟨hrow, hB⟩
  · cases hi : Try.prog.info? T with
    | none => rw [hi] at hI; cases hI
    | some i =>
      have hI0 := hI
      rw [hi] at hI
      simp only [Option.map_some, Option.some.injEq, Prod.mk.injEq] at hI
      obtain ⟨i1, i2, i3⟩ := hI
      have hsrc : Src Try.prog i.size TS (.slice (some ⟨b, 0, none⟩) 1 c) 1 (cells y) w := by
        refine Src.ofSlice _ hT _ 1 c _ (by rw [hcl, Nat.one_mul, i2]) (fun j u hu => ?_) (hone y)
        rw [ld_add, Nat.zero_add, cell_blk hy]
        simpa using hu
      have hfit : Builtin.nextslicecap (0 + 1) 0 * i.bytes ≤ 281474976710656 := by
        rw [Nat.zero_add, nextslicecap_zero (by decide), i3]; omega
      have hold : ∀ base : Option Addr, (base = none ∨ ∃ g, base = some (⟨g, 0, none⟩ : Addr)) → (Builtin.firstCells i.size 0 (.slice base 0 0)).run Try.prog w.drew = .ok ([] : List Value).toArray w.drew := fun base hb => by
        rcases hb with rfl | ⟨g, rfl⟩
        · exact run_firstCells_none _ _ _ _ _
        · exact run_firstCells_some (P := Try.prog) w.drew i.size 0 ⟨g, 0, none⟩ 0 0 [] (by simp) (fun j v hv => by simp at hv)
      have run : ∀ base : Option Addr, (base = none ∨ ∃ g, base = some (⟨g, 0, none⟩ : Addr)) → _ := fun base hb => run_append_grow_src (P := Try.prog) (w := w) TS TS o.type T i z hT hi i1 base 0 0 [] (hold base hb) (.slice (some ⟨b, 0, none⟩) 1 c) 1 (cells y) hsrc (by omega) (by omega) hfit
      have e1 := (run ad hb).trans (run none (.inl rfl)).symm
      have h2 := grow { o with op := .call { callee := .builtin .append, args := #[.const (.slice none 0 0), x], argTypes := #[TS, TS] } } a (.const (.slice none 0 0)) x (.slice none 0 0) K rfl rfl hx (World.ownsRow_nil _ _ _ _) rfl h
      have ec : a.eval (.const (.slice none 0 0)) = .slice none 0 0 := rfl
      unfold Oper.wp at h2 ⊢
      simp only [execOp, ho, resolve, invoke, builtin, Sem.run_bind, Sem.run_pure, Result.andThen_ok, List.map_toArray, List.map_cons, List.map_nil, hs, hx, ec] at h2 ⊢
      rw [e1]
      generalize ((Builtin.append_ #[TS, TS] o.type #[Value.slice none 0 0, Value.slice (some { block := b, off := 0 }) 1 c]).run Try.prog w) = r at h2 ⊢
      clear e1 run hold hfit hsrc
      cases r with
      | halt x w' => cases x <;> exact h2
      | ok v w' => exact h2
  · exact grow o a s x v K ho hs hx hrow hB h
/-- append(nil or []T{}, x..): a copy in new memory that may be appended to, or the same nothing. -/
theorem wp_cloneX {dat : α → Dat} {sch : Sch} (hT : Try.prog.underlying TS = some (.slice T)) (hI : (Try.prog.info? T).map (fun i => (i.zero, i.size, i.bytes)) = some (some z, k, bytes)) (hz : z.cells.size = k) (hpos : 0 < k) (hby : bytes ≤ 1024)
    (hsz : sch.size = k) (hcl : ∀ x, (cells x).length = k) (hrd : ∀ hi w vs d, Rd hi w sch vs d → ∃ x, vs = cells x ∧ d = dat x) (hinj : ∀ x y, dat x = dat y → x = y) (hone : ∀ x, ∀ u ∈ cells x, u.oneCell' = true) (_hown : ∀ w x, Own w sch (cells x) (dat x) [])
    {o : Oper} {a : Act} {K : Act → World → Prop} {Q : Exit → Act → World → Prop} {w : World} (s x : Operand) (ho : o.op = .call { callee := .builtin .append, args := #[s, x], argTypes := #[TS, TS] })
    {base : Option Addr} (hs : a.eval s = .slice base 0 0) (hb : base = none ∨ ∃ g, base = some (⟨g, 0, none⟩ : Addr)) (ys : List α) {ad : Option Addr} {m c : Nat} (hx : a.eval x = .slice ad m c) (hy : Re w (.sl sch) [.slice ad m c] (.l (ys.map dat))) (hn : m ≤ 2097152)
    (h : ∀ a' c' t' B, RowX (ext w t') T k cells (.slice a' m c') ys B → (∀ b ∈ B, w.heap.size ≤ b) → K (a.put o.dst (.slice a' m c')) (ext w t')) : o.wp Try.prog a w K Q := by
  have hm := hy.len
  cases hi : Try.prog.info? T with
  | none => rw [hi] at hI; cases hI
  | some i =>
    have hI0 := hI
    rw [hi] at hI
    simp only [Option.map_some, Option.some.injEq, Prod.mk.injEq] at hI
    obtain ⟨i1, i2, i3⟩ := hI
    rcases Nat.eq_zero_or_pos m with h0 | h0
    · subst h0
      obtain rfl : ys = [] := List.length_eq_zero_iff.1 hm.symm
      have hsrc : Src Try.prog i.size TS (.slice ad 0 c) 0 [] w := by
        cases ad with
        | none => exact Src.ofNil _ hT c
        | some ad => exact Src.ofSlice _ hT ad 0 c [] (by simp) (fun j u hu => by simp at hu) (fun u hu => by simp at hu)
      have hrun := run_append_nothing (P := Try.prog) w TS TS o.type T i hT hi base 0 0 (Nat.le_refl _) (.slice ad 0 c) hsrc
      unfold Oper.wp
      simp [execOp, ho, resolve, invoke, builtin, hs, hx, hrun, Result.andThen]
      have := h base 0 ⟨#[], w.drawn⟩ [] (.inl ⟨rfl, rfl, base, rfl, hb⟩) (by simp)
      rwa [ext_refl] at this
    · rcases hy.row hsz hcl hrd hinj with he | ⟨b, o', e, _, hc⟩
      · subst he; simp at hm; omega
      · subst e
        have hsrc : Src Try.prog i.size TS (.slice (some ⟨b, o', none⟩) m c) m (ys.flatMap cells) w := by
          refine Src.ofSlice _ hT _ m c _ ?_ ?_ ?_
          · rw [hm, i2, List.length_flatMap, List.map_congr_left (g := fun _ => k) (fun x _ => hcl x), List.map_const', List.sum_replicate_nat]
          · intro j u hu; rw [ld_add]; exact hc j u hu
          · intro u hu
            obtain ⟨y, _, hy'⟩ := List.mem_flatMap.1 hu
            exact hone y u hy'
        have hfit : Builtin.nextslicecap (0 + m) 0 * i.bytes ≤ 281474976710656 := by
          rw [Nat.zero_add, nextslicecap_zero h0, i3]
          calc m * bytes ≤ 2097152 * 1024 := Nat.mul_le_mul hn hby
            _ ≤ 281474976710656 := by decide
        have hold : ∀ base : Option Addr, (base = none ∨ ∃ g, base = some (⟨g, 0, none⟩ : Addr)) → (Builtin.firstCells i.size 0 (.slice base 0 0)).run Try.prog w.drew = .ok ([] : List Value).toArray w.drew := fun base hb => by
          rcases hb with rfl | ⟨g, rfl⟩
          · exact run_firstCells_none _ _ _ _ _
          · exact run_firstCells_some (P := Try.prog) w.drew i.size 0 ⟨g, 0, none⟩ 0 0 [] (by simp) (fun j v hv => by simp at hv)
        have run : ∀ base : Option Addr, (base = none ∨ ∃ g, base = some (⟨g, 0, none⟩ : Addr)) → _ := fun base hb => run_append_grow_src (P := Try.prog) (w := w) TS TS o.type T i z hT hi i1 base 0 0 [] (hold base hb) (.slice (some ⟨b, o', none⟩) m c) m (ys.flatMap cells) hsrc (by omega) (by omega) hfit
        have e1 := (run base hb).trans (run none (.inl rfl)).symm
        have h2 := wp_apps (K := K) (Q := Q) hT hI0 hz hpos hby hsz hcl hrd hinj hone (o := { o with op := .call { callee := .builtin .append, args := #[.const (.slice none 0 0), x], argTypes := #[TS, TS] } }) (a := a) (w0 := w) (w := w) (v := .slice none 0 0) (.const (.slice none 0 0)) x rfl rfl (Ext.refl w) (xs := []) (World.ownsRow_nil _ _ _ _) ys hx hy (by simp; omega) (fun v' t' hg => by
          rw [List.nil_append] at hg
          obtain ⟨r1, r2⟩ := rowX_of hcl hg
          obtain ⟨a', c', e⟩ := r1.slice
          subst e
          rw [← hm] at r1 r2 ⊢
          exact h a' c' t' _ r1 r2)
        have ec : a.eval (.const (.slice none 0 0)) = .slice none 0 0 := rfl
        unfold Oper.wp at h2 ⊢
        simp only [execOp, ho, resolve, invoke, builtin, Sem.run_bind, Sem.run_pure, Result.andThen_ok, List.map_toArray, List.map_cons, List.map_nil, hs, hx, ec] at h2 ⊢
        rw [e1]
        generalize ((Builtin.append_ #[TS, TS] o.type #[Value.slice none 0 0, Value.slice (some { block := b, off := o' }) m c]).run Try.prog w) = r at h2 ⊢
        clear e1 run hold hfit hsrc hc hy
        cases r with
        | halt x w' => cases x <;> exact h2
        | ok v w' => exact h2
theorem wpList_cloneX {dat : α → Dat} {sch : Sch} (hT : Try.prog.underlying TS = some (.slice T)) (hI : (Try.prog.info? T).map (fun i => (i.zero, i.size, i.bytes)) = some (some z, k, bytes)) (hz : z.cells.size = k) (hpos : 0 < k) (hby : bytes ≤ 1024)
    (hsz : sch.size = k) (hcl : ∀ x, (cells x).length = k) (hrd : ∀ hi w vs d, Rd hi w sch vs d → ∃ x, vs = cells x ∧ d = dat x) (hinj : ∀ x y, dat x = dat y → x = y) (hone : ∀ x, ∀ u ∈ cells x, u.oneCell' = true) (_hown : ∀ w x, Own w sch (cells x) (dat x) [])
    {ops : Array Oper} {rest : List Oper} {o : Oper} {a : Act} {Q : Exit → Act → World → Prop} {w : World} (hgd : o.guard = none) (s x : Operand) (ho : o.op = .call { callee := .builtin .append, args := #[s, x], argTypes := #[TS, TS] })
    {base : Option Addr} (hs : a.eval s = .slice base 0 0) (hb : base = none ∨ ∃ g, base = some (⟨g, 0, none⟩ : Addr)) (ys : List α) {ad : Option Addr} {m c : Nat} (hx : a.eval x = .slice ad m c) (hy : Re w (.sl sch) [.slice ad m c] (.l (ys.map dat))) (hn : m ≤ 2097152)
    (h : ∀ a' c' t' B, RowX (ext w t') T k cells (.slice a' m c') ys B → (∀ b ∈ B, w.heap.size ≤ b) → wpList Try.prog ops Q rest (a.put o.dst (.slice a' m c')) (ext w t')) : wpList Try.prog ops Q (o :: rest) a w :=
  wpList_plain hgd fun _ hK => wp_cloneX hT hI hz hpos hby hsz hcl hrd hinj hone _hown s x ho hs hb ys hx hy hn fun a' c' t' B h1 h2 => hK _ _ (h a' c' t' B h1 h2)
theorem wpList_appXE (hT : Try.prog.underlying TS = some (.slice T)) (hI : (Try.prog.info? T).map (fun i => (i.zero, i.size, i.bytes)) = some (some z, k, bytes)) (hz : z.cells.size = k) (hpos : 0 < k) (hby : bytes ≤ 1024)
    (hcl : ∀ x, (cells x).length = k) (hone : ∀ x, ∀ u ∈ cells x, u.oneCell' = true)
    {ops : Array Oper} {rest : List Oper} {o : Oper} {a : Act} {Q : Exit → Act → World → Prop} {w : World} (hgd : o.guard = none) (w0 : World) (s x : Operand) (ho : o.op = .call { callee := .builtin .append, args := #[s, x], argTypes := #[TS, TS] })
    {v : Value} {xs : List α} {B : List Nat} (hs : a.eval s = v) (hE : Ext w0 w) (hown : RowX w T k cells v xs B) (hB : ∀ b ∈ B, w0.heap.size ≤ b) (y : α) {b c : Nat} {T' : TypeId} (hx : a.eval x = .slice (some ⟨b, 0, none⟩) 1 c) (hy : w.heap[b]? = some (.cells (cells y).toArray T' (0, 0))) (hn : xs.length ≤ 4194304)
    (h : ∀ v' t' B', RowX (ext w0 t') T k cells v' (xs ++ [y]) B' → (∀ b ∈ B', w0.heap.size ≤ b) → wpList Try.prog ops Q rest (a.put o.dst v') (ext w0 t')) : wpList Try.prog ops Q (o :: rest) a w :=
  wpList_plain hgd fun _ hK => wp_appX hT hI hz hpos hby hcl hone s x ho hs hown y hx hy hn fun v' w' B' h1 h2 h3 => by
    obtain ⟨t', rfl⟩ : Ext w0 w' := Ext.of_below (Below.chg hE.below h2 hB)
    refine hK _ _ (h v' t' B' h1 fun b hb => ?_)
    rcases h3 with rfl | rfl
    · exact hB b hb
    · obtain rfl : b = w.heap.size := by simpa using hb
      exact hE.size
theorem ownsRow_of {w w' : World} {base sz n : Nat} {T : TypeId} {v : Value} {xs : List Value} (h : w.ownsRow base T sz v n xs) (hE : Ext w w') : w'.ownsRow base T sz v n xs := by
  obtain ⟨t, rfl⟩ := hE; exact ownsRow_ext h
theorem ownsRow_le {w : World} {base base' sz n : Nat} {T : TypeId} {v : Value} {xs : List Value} (h : w.ownsRow base T sz v n xs) (hb : base' ≤ base) : w.ownsRow base' T sz v n xs :=
  ⟨h.1, h.2.imp id fun ⟨g, cap, cur, h1, h2, h3⟩ => ⟨g, cap, cur, h1, Nat.le_trans hb h2, h3⟩⟩
end
end Go.Proofs.Ytbbpipbemhggdaa

namespace Go.Proofs.Ytbbpipbemhggdaa
open Go.RowKit
set_option linter.unusedSimpArgs false
set_option linter.unusedVariables false

def MkS (n : Nat) (e : Sch) (d : Dat) (v : Value) (lo hi : Nat) (w : World) : Prop := ∃ a c, v = .slice a n c ∧ OwnR lo hi w (.sl e) [.slice a n c] d
theorem MkS.ext {n : Nat} {e : Sch} {d : Dat} {v : Value} {lo hi : Nat} {w w' : World} (h : MkS n e d v lo hi w) (hE : Ext w w') : MkS n e d v lo hi w' := by
  obtain ⟨a, c, h1, h2⟩ := h; exact ⟨a, c, h1, h2.of hE⟩
def MkA (arr : Array Value) (T : TypeId) (v : Value) (lo hi : Nat) (w : World) : Prop := ∃ b, v = .pointer (some ⟨b, 0, none⟩) ∧ lo ≤ b ∧ b < hi ∧ w.heap[b]? = some (.cells arr T (0, 0))
theorem MkA.ext {arr : Array Value} {T : TypeId} {v : Value} {lo hi : Nat} {w w' : World} (h : MkA arr T v lo hi w) (hE : Ext w w') : MkA arr T v lo hi w' := by
  obtain ⟨b, h1, h2, h3, h4⟩ := h; exact ⟨b, h1, h2, h3, (hE.block (lt_blk h4)).trans h4⟩
theorem heap_new {X : World} {o : Obj} {b : Nat} (h : b = X.heap.size) : (X.alloc o).heap[b]? = some o := by subst h; exact heap_alloc_new _ _
theorem flow_K {P : Program} {o : Oper} {a : Act} {w : World} {Post : Act → World → Prop} {Q : Exit → Act → World → Prop} (h : ∀ K : Act → World → Prop, (∀ a' w', Post a' w' → K a' w') → o.wp P a w K Q) : o.wp P a w Post Q := h Post fun _ _ h => h

def MkX {α : Type} (T : TypeId) (k : Nat) (cells : α → List Value) (xs : List α) (v : Value) (lo hi : Nat) (w : World) : Prop := ∃ a c B, v = .slice a xs.length c ∧ RowX w T k cells (.slice a xs.length c) xs B ∧ ∀ b ∈ B, lo ≤ b ∧ b < hi
theorem MkX.ext {α : Type} {T : TypeId} {k : Nat} {cells : α → List Value} {xs : List α} {v : Value} {lo hi : Nat} {w w' : World} (h : MkX T k cells xs v lo hi w) (hE : Ext w w') : MkX T k cells xs v lo hi w' := by
  obtain ⟨a, c, B, h1, h2, h3⟩ := h; exact ⟨a, c, B, h1, h2.of hE, h3⟩
def MkB (arr : Array Value) (T : TypeId) (n : Nat) (v : Value) (lo hi : Nat) (w : World) : Prop := ∃ b, v = .slice (some ⟨b, 0, none⟩) n n ∧ lo ≤ b ∧ b < hi ∧ w.heap[b]? = some (.cells arr T (0, 0))
theorem MkB.ext {arr : Array Value} {T : TypeId} {n : Nat} {v : Value} {lo hi : Nat} {w w' : World} (h : MkB arr T n v lo hi w) (hE : Ext w w') : MkB arr T n v lo hi w' := by
  obtain ⟨b, h1, h2, h3, h4⟩ := h; exact ⟨b, h1, h2, h3, (hE.block (lt_blk h4)).trans h4⟩
end Go.Proofs.Ytbbpipbemhggdaa

namespace Go.Proofs.Ytbbpipbemhggdaa
open Go.RowKit
set_option linter.unusedSimpArgs false
set_option linter.unusedVariables false

def WlkIn (x : Wlk) : Prop := (-1 ≤ x.id ∧ x.id ≤ 901) ∧ (-1 ≤ x.at_ ∧ x.at_ ≤ 901) ∧ (-1 ≤ x.coins ∧ x.coins ≤ 901) ∧ (-1 ≤ x.seq ∧ x.seq ≤ 901) ∧ (-1 ≤ x.last ∧ x.last ≤ 901)
def InW (v : Value) : Prop := ∃ x : Wlk, v = .agg #[.int .i64 x.id, .int .i64 x.at_, .int .i64 x.coins, .int .i64 x.seq, .int .i64 x.last] ∧ WlkIn x
def WlkB (R : Nat) (w : World) : Prop := ∃ x : Wlk, w.heap[R]? = some (.cells #[.int .i64 x.id, .int .i64 x.at_, .int .i64 x.coins, .int .i64 x.seq, .int .i64 x.last] 52 (0, 0))
def WlkAt (R : Nat) (w : World) : Prop := ∃ x : Wlk, w.heap[R]? = some (.cells #[.int .i64 x.id, .int .i64 x.at_, .int .i64 x.coins, .int .i64 x.seq, .int .i64 x.last] 52 (0, 0)) ∧ WlkIn x
theorem WlkB.chg {R : Nat} {w w' : World} {B : List Nat} (h : WlkB R w) (hc : Chg B w w') (hR : R ∉ B) : WlkB R w' := by
  obtain ⟨x, h⟩ := h
  exact ⟨x, (hc.block R (lt_blk h) hR).trans h⟩
theorem WlkB.of {R : Nat} {w w' : World} (h : WlkB R w) (hE : Ext w w') : WlkB R w' := h.chg (Chg.of_ext hE []) (by simp)
theorem WlkB.drw {R : Nat} {w : World} (h : WlkB R w) : WlkB R w.drew := h
theorem WlkAt.chg {R : Nat} {w w' : World} {B : List Nat} (h : WlkAt R w) (hc : Chg B w w') (hR : R ∉ B) : WlkAt R w' := by
  obtain ⟨x, h, hx⟩ := h
  exact ⟨x, (hc.block R (lt_blk h) hR).trans h, hx⟩
/-- Blocks added, then p and newer ones changed: p alone has changed. -/
theorem Ext.chg' {w V W : World} {p R : Nat} (hE : Ext w V) (hc : Chg [p, R] V W) (hR : w.heap.size ≤ R) : Chg [p] w W := by
  have h := (Chg.of_ext hE [p, R]).trans hc
  exact ⟨h.os, h.tape, h.output, h.size, fun k hk hn => h.block k hk (by simp at hn ⊢; omega)⟩
theorem wlk_store {w : World} {R : Nat} {x0 x : Wlk} (h : w.heap[R]? = some (.cells #[.int .i64 x0.id, .int .i64 x0.at_, .int .i64 x0.coins, .int .i64 x0.seq, .int .i64 x0.last] 52 (0, 0))) :
    (((((w.setCell ⟨R, 0, none⟩ (.int .i64 x.id)).setCell ⟨R, 1, none⟩ (.int .i64 x.at_)).setCell ⟨R, 2, none⟩ (.int .i64 x.coins)).setCell ⟨R, 3, none⟩ (.int .i64 x.seq)).setCell ⟨R, 4, none⟩ (.int .i64 x.last)).heap[R]? = some (.cells #[.int .i64 x.id, .int .i64 x.at_, .int .i64 x.coins, .int .i64 x.seq, .int .i64 x.last] 52 (0, 0)) := by
  refine Eq.trans (blk_set (blk_set (blk_set (blk_set (blk_set h))))) ?_
  simp only [List.setIfInBounds_toArray, List.set_cons_zero, List.set_cons_succ]
end Go.Proofs.Ytbbpipbemhggdaa

namespace Go.Proofs.Ytbbpipbemhggdaa
open Go.RowKit
set_option linter.unusedSimpArgs false
set_option linter.unusedVariables false

theorem map_mul {m : Mp} (h : MapIn m) : (-81 ≤ m.c * m.w ∧ m.c * m.w ≤ 81) ∧ (plcOk m = true → 1 ≤ m.c * m.w) := by
  obtain ⟨h1, h2, h3, h4⟩ := h
  have key : ∀ a b : Int, -1 ≤ a → a ≤ 9 → -1 ≤ b → b ≤ 9 → -81 ≤ a * b ∧ a * b ≤ 81 := fun a b a0 a1 b0 b1 => by
    have ha : a = -1 ∨ a = 0 ∨ a = 1 ∨ a = 2 ∨ a = 3 ∨ a = 4 ∨ a = 5 ∨ a = 6 ∨ a = 7 ∨ a = 8 ∨ a = 9 := by omega
    rcases ha with rfl | rfl | rfl | rfl | rfl | rfl | rfl | rfl | rfl | rfl | rfl <;> omega
  refine ⟨key _ _ h1 h2 h3 h4, fun ok => ?_⟩
  obtain ⟨hc, hw⟩ := plcOk_iff.1 ok
  have : 0 < m.c * m.w := Int.mul_pos (by omega) (by omega)
  omega
set_option maxRecDepth 100000 in
set_option maxHeartbeats 8000000 in
theorem l20Walker_c (lo p Q : Nat) (m : Mp) (w : World) (h : Rdr lo p Q w) (hQ : Q ≤ 90000) (hm : MapIn m) :
    Calls Try.prog 89 #[.pointer (some ⟨p, 0, none⟩), .agg #[.int .i64 m.c, .int .i64 m.w]] w fun e w' => ∃ x : Wlk, e = .returned (.agg #[.int .i64 x.id, .int .i64 x.at_, .int .i64 x.coins, .int .i64 x.seq, .int .i64 x.last]) ∧ WlkIn x ∧ Rdr lo p (Q + 20) w' ∧ Chg [p] w w' := by
  have lP := h.lt
  have hlo := h.lo
  have HR := hid h
  obtain ⟨⟨mu0, mu1⟩, mu2⟩ := map_mul hm
  obtain ⟨m0, m1, m2, m3⟩ := hm
  obtain ⟨nn, hnn, n1, n2⟩ : ∃ nn : Int, (if plcOk m = true then m.c * m.w else 4) = nn ∧ 1 ≤ nn ∧ nn ≤ 81 := by
    refine ⟨_, rfl, ?_, ?_⟩ <;> split <;> rename_i hq <;> first | exact mu2 hq | omega
  have HNN := hid hnn
  clear h hnn mu2
  go_enter Try.func89, Try.ntmps89
  cases q : plcOk m with
  | false =>
    have e0 : nn = 4 := by have := HNN.out; rw [q] at this; simpa using this.symm
    clear e0 HNN
    go_wp2_with (first | (go_at_call 14; refine (sPlcOk_c _ _).mono ?_; rintro e w' ⟨rfl, t, rfl⟩))
    refine wp_gen fun V hV => ?_
    have EV : Ext w V := by rw [hV]; ((try simp only [ext_drew]); (try simp only [ext_ext]); repeat (first | exact Ext.refl _ | with_reducible apply Ext.add | with_reducible apply Ext.dr | apply Ext.alloc | apply Ext.ext | apply Ext.drew | refine Ext.trans ?_ (by assumption)))
    have hb : V.heap[w.heap.size + 1]? = some (.cells #[.int .i64 0, .int .i64 0, .int .i64 0, .int .i64 0, .int .i64 0] 52 (0, 0)) := by rw [hV]; (repeat (first | with_reducible refine blk_ext ?_ | with_reducible apply blk_drew)); exact alloc_last (by simp)
    obtain ⟨R, hRe⟩ : ∃ R, w.heap.size + 1 = R := ⟨_, rfl⟩
    rw [hRe] at hb ⊢
    have hRW := lt_blk hb
    have hpW : p < V.heap.size := Nat.lt_of_lt_of_le lP EV.size
    have hRp : R ≠ p := by omega
    have hloR : lo ≤ R := by omega
    have HJ := hid (show Rdr lo p Q V ∧ WlkB R V from ⟨HR.out.of EV, ⟨⟨0, 0, 0, 0, 0⟩, hb⟩⟩)
    have HEV := hid EV
    have hwR : w.heap.size ≤ R := by omega
    clear hV hb hRe EV
    refine wp_region_flowD [some 14, some 15, some 16, some 17, some 18, some 19, some 20, some 21, some 22, some 23, some 24, some 25, some 26, some 27, some 28, some 29, some 30, some 31, some 32, none] (fun a b => Chg [p, R] a b) (fun i a b => Chg (bif i == 19 then [R] else [p]) a b) (fun k9 w9 => Rdr lo p (Q + 1 * k9) w9 ∧ WlkB R w9) (fun i v9 w9 => match i with
      | 0 => v9 = .pointer (some ⟨p, 0, none⟩)
      | 1 => InI 0 (8) (v9)
      | 2 => InI (1) (9) (v9)
      | 3 => v9 = .pointer (some ⟨p, 0, none⟩)
      | 4 => v9 = .int .i64 (4)
      | 5 => InI 0 (3) (v9)
      | 6 => MkI V.heap.size 6 (0) (99) (v9) w9
      | 7 => v9 = .pointer (some ⟨p, 0, none⟩)
      | 8 => InI 0 (5) (v9)
      | 9 => PtI V.heap.size 6 (0) (99) (v9) w9
      | 10 => InI (0) (99) (v9)
      | 11 => MkI V.heap.size 5 (0) (900) (v9) w9
      | 12 => v9 = .pointer (some ⟨p, 0, none⟩)
      | 13 => InI 0 (4) (v9)
      | 14 => PtI V.heap.size 5 (0) (900) (v9) w9
      | 15 => InI (0) (900) (v9)
      | 16 => v9 = .pointer (some ⟨p, 0, none⟩)
      | 17 => InI 0 (9) (v9)
      | 18 => InW (v9)
      | _ => WlkAt R w9) (by kernel_rfl) (by decide +kernel) (by simp) (fun a => Chg.refl _ a) (fun a b c h k => Chg.trans h k) ?_ (Chg.drew (Chg.refl _ _)) ?_ ?_ ?_ ?_
    · intro i a b hi hG
      refine hG.mono ?_
      cases (i == 19) <;> simp
    · exact ⟨HJ.out.1.of zq0, HJ.out.2.drw⟩
    · intro i j hi hj hij v9 w9 w8 hg hS hG
      have hG2 : Chg [p, R] w9 w8 := hG.mono (by cases (i == 19) <;> simp)
      have hj9 : j < 20 := hj
      clear hi hj
      match j, hj9 with
      | 0, _ => exact hS
      | 1, _ => exact hS
      | 2, _ => exact hS
      | 3, _ => exact hS
      | 4, _ => exact hS
      | 5, _ => exact hS
      | 6, _ => exact MkI.chg hS hG2 (by simp; omega)
      | 7, _ => exact hS
      | 8, _ => exact hS
      | 9, _ => exact PtI.chg hS hG2 (by simp; omega)
      | 10, _ => exact hS
      | 11, _ => exact MkI.chg hS hG2 (by simp; omega)
      | 12, _ => exact hS
      | 13, _ => exact hS
      | 14, _ => exact PtI.chg hS hG2 (by simp; omega)
      | 15, _ => exact hS
      | 16, _ => exact hS
      | 17, _ => exact hS
      | 18, _ => exact hS
      | 19, _ =>
        have h9 : (i == 19) = false := by simpa using hij
        rw [h9, cond_false] at hG
        exact hS.chg hG (by simpa using hRp)
      | n + 20, h9 => exact absurd h9 (by omega)
    · intro i oo ho σ k9 w9 hG hk9 hJ hd
      have HG := hid hG
      have HJ9 := hid hJ
      have lp9 : p < w9.heap.size := Nat.lt_of_lt_of_le hpW hG.size
      have lR9 : R < w9.heap.size := Nat.lt_of_lt_of_le hRW hG.size
      have hW9 := hG.size
      have hkN : k9 < 20 := hk9
      have hi9 : i < 20 := (List.getElem?_eq_some_iff.1 ho).1
      clear hG hJ hk9
      match i, hi9, ho with
      | 0, _, ho =>
        obtain rfl := Option.some.inj ho
        clear hd ho
        simp only [actO, putO, List.setIfInBounds_toArray, List.set_cons_zero, List.set_cons_succ, Nat.reduceAdd]
        refine flow_K (fun K hK => ?_)
        go_simp
        (show K _ _)
        refine hK _ _ ⟨_, rfl, by simp, Chg.of_ext (show Ext _ _ from zq0) _, ⟨(HJ9.out.1.of (show Ext _ _ from zq0)).up (by omega), HJ9.out.2.of (show Ext _ _ from zq0)⟩, rfl⟩
      | 1, _, ho =>
        have e0 : σ 0 = .pointer (some ⟨p, 0, none⟩) := hd 0 (by obtain rfl := Option.some.inj ho; kernel_rfl)
        obtain rfl := Option.some.inj ho
        clear hd ho
        simp only [actO, putO, List.setIfInBounds_toArray, List.set_cons_zero, List.set_cons_succ, Nat.reduceAdd, e0]
        refine flow_K (fun K hK => ?_)
        have HRd := hid HJ9.out.1
        go_simp
        refine (pick_c lo p _ (9) w9 HRd.out (by omega) (by omega) (by omega)).mono ?_
        rintro e w8 ⟨vv, rfl, hv0, hv1, hR8, hC8⟩
        (show K _ _)
        refine hK _ _ ⟨_, rfl, by simp, hC8, ⟨hR8.up (by omega), HJ9.out.2.chg hC8 (by simpa using hRp)⟩, ⟨vv, rfl, hv0, by omega⟩⟩
      | 2, _, ho =>
        obtain ⟨x1, e1, y1, z1⟩ : InI 0 (8) (σ 1) := hd 1 (by obtain rfl := Option.some.inj ho; kernel_rfl)
        have hwr : IntKind.i64.wrap (1 + x1) = 1 + x1 := by simp [IntKind.wrap, IntKind.bits, IntKind.signed]; omega
        obtain rfl := Option.some.inj ho
        clear hd ho
        simp only [actO, putO, List.setIfInBounds_toArray, List.set_cons_zero, List.set_cons_succ, Nat.reduceAdd, e1]
        refine flow_K (fun K hK => ?_)
        go_simp
        (try rw [hwr])
        (show K _ _)
        refine hK _ _ ⟨_, rfl, by simp, Chg.of_ext (show Ext _ _ from zq0) _, ⟨(HJ9.out.1.of (show Ext _ _ from zq0)).up (by omega), HJ9.out.2.of (show Ext _ _ from zq0)⟩, ⟨_, rfl, by omega, by omega⟩⟩
      | 3, _, ho =>
        obtain rfl := Option.some.inj ho
        clear hd ho
        simp only [actO, putO, List.setIfInBounds_toArray, List.set_cons_zero, List.set_cons_succ, Nat.reduceAdd]
        refine flow_K (fun K hK => ?_)
        go_simp
        (show K _ _)
        refine hK _ _ ⟨_, rfl, by simp, Chg.of_ext (show Ext _ _ from zq0) _, ⟨(HJ9.out.1.of (show Ext _ _ from zq0)).up (by omega), HJ9.out.2.of (show Ext _ _ from zq0)⟩, rfl⟩
      | 4, _, ho =>
        obtain rfl := Option.some.inj ho
        clear hd ho
        simp only [actO, putO, List.setIfInBounds_toArray, List.set_cons_zero, List.set_cons_succ, Nat.reduceAdd]
        refine flow_K (fun K hK => ?_)
        go_simp
        (show K _ _)
        refine hK _ _ ⟨_, rfl, by simp, Chg.of_ext (show Ext _ _ from zq0) _, ⟨(HJ9.out.1.of (show Ext _ _ from zq0)).up (by omega), HJ9.out.2.of (show Ext _ _ from zq0)⟩, rfl⟩
      | 5, _, ho =>
        have e3 : σ 3 = .pointer (some ⟨p, 0, none⟩) := hd 3 (by obtain rfl := Option.some.inj ho; kernel_rfl)
        have e4 : σ 4 = .int .i64 (4) := hd 4 (by obtain rfl := Option.some.inj ho; kernel_rfl)
        obtain rfl := Option.some.inj ho
        clear hd ho
        simp only [actO, putO, List.setIfInBounds_toArray, List.set_cons_zero, List.set_cons_succ, Nat.reduceAdd, e3, e4]
        refine flow_K (fun K hK => ?_)
        have HRd := hid HJ9.out.1
        go_simp
        refine (pick_c lo p _ (4) w9 HRd.out (by omega) (by omega) (by omega)).mono ?_
        rintro e w8 ⟨vv, rfl, hv0, hv1, hR8, hC8⟩
        (show K _ _)
        refine hK _ _ ⟨_, rfl, by simp, hC8, ⟨hR8.up (by omega), HJ9.out.2.chg hC8 (by simpa using hRp)⟩, ⟨vv, rfl, hv0, by omega⟩⟩
      | 6, _, ho =>
        obtain rfl := Option.some.inj ho
        clear hd ho
        simp only [actO, putO, List.setIfInBounds_toArray, List.set_cons_zero, List.set_cons_succ, Nat.reduceAdd]
        refine flow_K (fun K hK => ?_)
        go_simp
        (show K _ _)
        refine hK _ _ ⟨_, rfl, by simp, Chg.of_ext (show Ext _ _ from zq0) _, ⟨(HJ9.out.1.of (show Ext _ _ from zq0)).up (by omega), HJ9.out.2.of (show Ext _ _ from zq0)⟩, ⟨_, rfl, by (try simp [go_sem]) <;> omega, ⟨_, heap_new (by simp [go_sem]), fun i hi => ?_⟩⟩⟩
        match i, hi with
        | 0, _ => exact ⟨0, rfl, by omega, by omega⟩
        | 1, _ => exact ⟨1, rfl, by omega, by omega⟩
        | 2, _ => exact ⟨5, rfl, by omega, by omega⟩
        | 3, _ => exact ⟨20, rfl, by omega, by omega⟩
        | 4, _ => exact ⟨95, rfl, by omega, by omega⟩
        | 5, _ => exact ⟨99, rfl, by omega, by omega⟩
      | 7, _, ho =>
        obtain rfl := Option.some.inj ho
        clear hd ho
        simp only [actO, putO, List.setIfInBounds_toArray, List.set_cons_zero, List.set_cons_succ, Nat.reduceAdd]
        refine flow_K (fun K hK => ?_)
        go_simp
        (show K _ _)
        refine hK _ _ ⟨_, rfl, by simp, Chg.of_ext (show Ext _ _ from zq0) _, ⟨(HJ9.out.1.of (show Ext _ _ from zq0)).up (by omega), HJ9.out.2.of (show Ext _ _ from zq0)⟩, rfl⟩
      | 8, _, ho =>
        have e7 : σ 7 = .pointer (some ⟨p, 0, none⟩) := hd 7 (by obtain rfl := Option.some.inj ho; kernel_rfl)
        obtain rfl := Option.some.inj ho
        clear hd ho
        simp only [actO, putO, List.setIfInBounds_toArray, List.set_cons_zero, List.set_cons_succ, Nat.reduceAdd, e7]
        refine flow_K (fun K hK => ?_)
        have HRd := hid HJ9.out.1
        go_simp
        refine (pick_c lo p _ (6) w9 HRd.out (by omega) (by omega) (by omega)).mono ?_
        rintro e w8 ⟨vv, rfl, hv0, hv1, hR8, hC8⟩
        (show K _ _)
        refine hK _ _ ⟨_, rfl, by simp, hC8, ⟨hR8.up (by omega), HJ9.out.2.chg hC8 (by simpa using hRp)⟩, ⟨vv, rfl, hv0, by omega⟩⟩
      | 9, _, ho =>
        obtain ⟨b6, e6, hb6, ha6⟩ : MkI V.heap.size 6 (0) (99) (σ 6) _ := hd 6 (by obtain rfl := Option.some.inj ho; kernel_rfl)
        obtain ⟨x8, e8, y8, z8⟩ : InI 0 (5) (σ 8) := hd 8 (by obtain rfl := Option.some.inj ho; kernel_rfl)
        obtain ⟨i8, rfl⟩ : ∃ i : Nat, x8 = (i : Int) := ⟨x8.toNat, by omega⟩
        have hin : i8 < 6 := by omega
        have hin2 : (i8 : Int) < 6 := by omega
        obtain rfl := Option.some.inj ho
        clear hd ho
        simp only [actO, putO, List.setIfInBounds_toArray, List.set_cons_zero, List.set_cons_succ, Nat.reduceAdd, e6, e8]
        refine flow_K (fun K hK => ?_)
        go_simp
        (show K _ _)
        refine hK _ _ ⟨_, rfl, by simp, Chg.of_ext (show Ext _ _ from zq0) _, ⟨(HJ9.out.1.of (show Ext _ _ from zq0)).up (by omega), HJ9.out.2.of (show Ext _ _ from zq0)⟩, ⟨_, _, rfl, hin, hb6, ha6⟩⟩
      | 10, _, ho =>
        obtain ⟨b9, k9, e9, hk9, hb9, ha9⟩ : PtI V.heap.size 6 (0) (99) (σ 9) _ := hd 9 (by obtain rfl := Option.some.inj ho; kernel_rfl)
        obtain ⟨y, hy, hy0, hy1⟩ := index_at ha9 hk9
        obtain rfl := Option.some.inj ho
        clear hd ho
        simp only [actO, putO, List.setIfInBounds_toArray, List.set_cons_zero, List.set_cons_succ, Nat.reduceAdd, e9]
        refine flow_K (fun K hK => ?_)
        go_simp
        (show K _ _)
        refine hK _ _ ⟨_, rfl, by simp, Chg.of_ext (show Ext _ _ from zq0) _, ⟨(HJ9.out.1.of (show Ext _ _ from zq0)).up (by omega), HJ9.out.2.of (show Ext _ _ from zq0)⟩, ⟨y, rfl, hy0, hy1⟩⟩
      | 11, _, ho =>
        obtain rfl := Option.some.inj ho
        clear hd ho
        simp only [actO, putO, List.setIfInBounds_toArray, List.set_cons_zero, List.set_cons_succ, Nat.reduceAdd]
        refine flow_K (fun K hK => ?_)
        go_simp
        (show K _ _)
        refine hK _ _ ⟨_, rfl, by simp, Chg.of_ext (show Ext _ _ from zq0) _, ⟨(HJ9.out.1.of (show Ext _ _ from zq0)).up (by omega), HJ9.out.2.of (show Ext _ _ from zq0)⟩, ⟨_, rfl, by (try simp [go_sem]) <;> omega, ⟨_, heap_new (by simp [go_sem]), fun i hi => ?_⟩⟩⟩
        match i, hi with
        | 0, _ => exact ⟨0, rfl, by omega, by omega⟩
        | 1, _ => exact ⟨0, rfl, by omega, by omega⟩
        | 2, _ => exact ⟨1, rfl, by omega, by omega⟩
        | 3, _ => exact ⟨7, rfl, by omega, by omega⟩
        | 4, _ => exact ⟨900, rfl, by omega, by omega⟩
      | 12, _, ho =>
        obtain rfl := Option.some.inj ho
        clear hd ho
        simp only [actO, putO, List.setIfInBounds_toArray, List.set_cons_zero, List.set_cons_succ, Nat.reduceAdd]
        refine flow_K (fun K hK => ?_)
        go_simp
        (show K _ _)
        refine hK _ _ ⟨_, rfl, by simp, Chg.of_ext (show Ext _ _ from zq0) _, ⟨(HJ9.out.1.of (show Ext _ _ from zq0)).up (by omega), HJ9.out.2.of (show Ext _ _ from zq0)⟩, rfl⟩
      | 13, _, ho =>
        have e12 : σ 12 = .pointer (some ⟨p, 0, none⟩) := hd 12 (by obtain rfl := Option.some.inj ho; kernel_rfl)
        obtain rfl := Option.some.inj ho
        clear hd ho
        simp only [actO, putO, List.setIfInBounds_toArray, List.set_cons_zero, List.set_cons_succ, Nat.reduceAdd, e12]
        refine flow_K (fun K hK => ?_)
        have HRd := hid HJ9.out.1
        go_simp
        refine (pick_c lo p _ (5) w9 HRd.out (by omega) (by omega) (by omega)).mono ?_
        rintro e w8 ⟨vv, rfl, hv0, hv1, hR8, hC8⟩
        (show K _ _)
        refine hK _ _ ⟨_, rfl, by simp, hC8, ⟨hR8.up (by omega), HJ9.out.2.chg hC8 (by simpa using hRp)⟩, ⟨vv, rfl, hv0, by omega⟩⟩
      | 14, _, ho =>
        obtain ⟨b11, e11, hb11, ha11⟩ : MkI V.heap.size 5 (0) (900) (σ 11) _ := hd 11 (by obtain rfl := Option.some.inj ho; kernel_rfl)
        obtain ⟨x13, e13, y13, z13⟩ : InI 0 (4) (σ 13) := hd 13 (by obtain rfl := Option.some.inj ho; kernel_rfl)
        obtain ⟨i13, rfl⟩ : ∃ i : Nat, x13 = (i : Int) := ⟨x13.toNat, by omega⟩
        have hin : i13 < 5 := by omega
        have hin2 : (i13 : Int) < 5 := by omega
        obtain rfl := Option.some.inj ho
        clear hd ho
        simp only [actO, putO, List.setIfInBounds_toArray, List.set_cons_zero, List.set_cons_succ, Nat.reduceAdd, e11, e13]
        refine flow_K (fun K hK => ?_)
        go_simp
        (show K _ _)
        refine hK _ _ ⟨_, rfl, by simp, Chg.of_ext (show Ext _ _ from zq0) _, ⟨(HJ9.out.1.of (show Ext _ _ from zq0)).up (by omega), HJ9.out.2.of (show Ext _ _ from zq0)⟩, ⟨_, _, rfl, hin, hb11, ha11⟩⟩
      | 15, _, ho =>
        obtain ⟨b14, k14, e14, hk14, hb14, ha14⟩ : PtI V.heap.size 5 (0) (900) (σ 14) _ := hd 14 (by obtain rfl := Option.some.inj ho; kernel_rfl)
        obtain ⟨y, hy, hy0, hy1⟩ := index_at ha14 hk14
        obtain rfl := Option.some.inj ho
        clear hd ho
        simp only [actO, putO, List.setIfInBounds_toArray, List.set_cons_zero, List.set_cons_succ, Nat.reduceAdd, e14]
        refine flow_K (fun K hK => ?_)
        go_simp
        (show K _ _)
        refine hK _ _ ⟨_, rfl, by simp, Chg.of_ext (show Ext _ _ from zq0) _, ⟨(HJ9.out.1.of (show Ext _ _ from zq0)).up (by omega), HJ9.out.2.of (show Ext _ _ from zq0)⟩, ⟨y, rfl, hy0, hy1⟩⟩
      | 16, _, ho =>
        obtain rfl := Option.some.inj ho
        clear hd ho
        simp only [actO, putO, List.setIfInBounds_toArray, List.set_cons_zero, List.set_cons_succ, Nat.reduceAdd]
        refine flow_K (fun K hK => ?_)
        go_simp
        (show K _ _)
        refine hK _ _ ⟨_, rfl, by simp, Chg.of_ext (show Ext _ _ from zq0) _, ⟨(HJ9.out.1.of (show Ext _ _ from zq0)).up (by omega), HJ9.out.2.of (show Ext _ _ from zq0)⟩, rfl⟩
      | 17, _, ho =>
        have e16 : σ 16 = .pointer (some ⟨p, 0, none⟩) := hd 16 (by obtain rfl := Option.some.inj ho; kernel_rfl)
        obtain rfl := Option.some.inj ho
        clear hd ho
        simp only [actO, putO, List.setIfInBounds_toArray, List.set_cons_zero, List.set_cons_succ, Nat.reduceAdd, e16]
        refine flow_K (fun K hK => ?_)
        have HRd := hid HJ9.out.1
        go_simp
        refine (pick_c lo p _ (10) w9 HRd.out (by omega) (by omega) (by omega)).mono ?_
        rintro e w8 ⟨vv, rfl, hv0, hv1, hR8, hC8⟩
        (show K _ _)
        refine hK _ _ ⟨_, rfl, by simp, hC8, ⟨hR8.up (by omega), HJ9.out.2.chg hC8 (by simpa using hRp)⟩, ⟨vv, rfl, hv0, by omega⟩⟩
      | 18, _, ho =>
        obtain ⟨x2, e2, y2, z2⟩ : InI (1) (9) (σ 2) := hd 2 (by obtain rfl := Option.some.inj ho; kernel_rfl)
        obtain ⟨x5, e5, y5, z5⟩ : InI 0 (3) (σ 5) := hd 5 (by obtain rfl := Option.some.inj ho; kernel_rfl)
        obtain ⟨x10, e10, y10, z10⟩ : InI (0) (99) (σ 10) := hd 10 (by obtain rfl := Option.some.inj ho; kernel_rfl)
        obtain ⟨x15, e15, y15, z15⟩ : InI (0) (900) (σ 15) := hd 15 (by obtain rfl := Option.some.inj ho; kernel_rfl)
        obtain ⟨x17, e17, y17, z17⟩ : InI 0 (9) (σ 17) := hd 17 (by obtain rfl := Option.some.inj ho; kernel_rfl)
        obtain rfl := Option.some.inj ho
        clear hd ho
        simp only [actO, putO, List.setIfInBounds_toArray, List.set_cons_zero, List.set_cons_succ, Nat.reduceAdd, e2, e5, e10, e15, e17]
        refine flow_K (fun K hK => ?_)
        go_simp
        (show K _ _)
        refine hK _ _ ⟨_, rfl, by simp, Chg.of_ext (show Ext _ _ from zq0) _, ⟨(HJ9.out.1.of (show Ext _ _ from zq0)).up (by omega), HJ9.out.2.of (show Ext _ _ from zq0)⟩, ⟨⟨x2, x5, x10, x15, x17⟩, rfl, by simp only [WlkIn]; omega⟩⟩
      | 19, _, ho =>
        obtain ⟨x18, e18, h18⟩ : InW (σ 18) := hd 18 (by obtain rfl := Option.some.inj ho; kernel_rfl)
        obtain ⟨x0, hb0⟩ := HJ9.out.2
        obtain rfl := Option.some.inj ho
        clear hd ho
        simp only [actO, putO, List.setIfInBounds_toArray, List.set_cons_zero, List.set_cons_succ, Nat.reduceAdd, e18]
        refine flow_K (fun K hK => ?_)
        have cR0 := (cell_blk hb0 0).trans (show _ = some (Value.int .i64 x0.id) from rfl)
        have zR0 := frozen_blk hb0 0
        have cR1 := (cell_blk hb0 1).trans (show _ = some (Value.int .i64 x0.at_) from rfl)
        have zR1 := frozen_blk hb0 1
        have cR2 := (cell_blk hb0 2).trans (show _ = some (Value.int .i64 x0.coins) from rfl)
        have zR2 := frozen_blk hb0 2
        have cR3 := (cell_blk hb0 3).trans (show _ = some (Value.int .i64 x0.seq) from rfl)
        have zR3 := frozen_blk hb0 3
        have cR4 := (cell_blk hb0 4).trans (show _ = some (Value.int .i64 x0.last) from rfl)
        have zR4 := frozen_blk hb0 4
        have HB0 := hid hb0
        clear hb0
        go_simp
        (show K _ _)
        refine hK _ _ ⟨undef, rfl, fun _ => rfl, zq1, ⟨(HJ9.out.1.chg (B := [R]) zq1 (by simp; omega) (Nat.le_refl _)).up (by omega), ⟨x18, wlk_store HB0.out⟩⟩, ⟨x18, wlk_store HB0.out, h18⟩⟩
    · intro σ w9 hG hJ hd
      have e0 : σ 0 = .pointer (some ⟨p, 0, none⟩) := hd 0 (by decide)
      obtain ⟨x1, e1, y1, z1⟩ : InI 0 (8) (σ 1) := hd 1 (by decide)
      obtain ⟨x2, e2, y2, z2⟩ : InI (1) (9) (σ 2) := hd 2 (by decide)
      have e3 : σ 3 = .pointer (some ⟨p, 0, none⟩) := hd 3 (by decide)
      have e4 : σ 4 = .int .i64 (4) := hd 4 (by decide)
      obtain ⟨x5, e5, y5, z5⟩ : InI 0 (3) (σ 5) := hd 5 (by decide)
      obtain ⟨b6, e6, hb6, ha6⟩ : MkI V.heap.size 6 (0) (99) (σ 6) _ := hd 6 (by decide)
      have e7 : σ 7 = .pointer (some ⟨p, 0, none⟩) := hd 7 (by decide)
      obtain ⟨x8, e8, y8, z8⟩ : InI 0 (5) (σ 8) := hd 8 (by decide)
      obtain ⟨b9, k9, e9, hk9, hb9, ha9⟩ : PtI V.heap.size 6 (0) (99) (σ 9) _ := hd 9 (by decide)
      obtain ⟨x10, e10, y10, z10⟩ : InI (0) (99) (σ 10) := hd 10 (by decide)
      obtain ⟨b11, e11, hb11, ha11⟩ : MkI V.heap.size 5 (0) (900) (σ 11) _ := hd 11 (by decide)
      have e12 : σ 12 = .pointer (some ⟨p, 0, none⟩) := hd 12 (by decide)
      obtain ⟨x13, e13, y13, z13⟩ : InI 0 (4) (σ 13) := hd 13 (by decide)
      obtain ⟨b14, k14, e14, hk14, hb14, ha14⟩ : PtI V.heap.size 5 (0) (900) (σ 14) _ := hd 14 (by decide)
      obtain ⟨x15, e15, y15, z15⟩ : InI (0) (900) (σ 15) := hd 15 (by decide)
      have e16 : σ 16 = .pointer (some ⟨p, 0, none⟩) := hd 16 (by decide)
      obtain ⟨x17, e17, y17, z17⟩ : InI 0 (9) (σ 17) := hd 17 (by decide)
      obtain ⟨x18, e18, h18⟩ : InW (σ 18) := hd 18 (by decide)
      have hs19 : WlkAt R _ := hd 19 (by decide)
      have HG := hid hG
      have HJ9 := hid hJ
      clear hd hG hJ
      simp only [actO, putO, List.setIfInBounds_toArray, List.set_cons_zero, List.set_cons_succ, Nat.reduceAdd, e0, e1, e2, e3, e4, e5, e6, e7, e8, e9, e10, e11, e12, e13, e14, e15, e16, e17, e18]
      clear e0 e1 e2 e3 e4 e5 e6 e7 e8 e9 e10 e11 e12 e13 e14 e15 e16 e17 e18
      obtain ⟨x, hb, hx⟩ := hs19
      have c0 := (cell_blk hb 0).trans (show _ = some (Value.int .i64 x.id) from rfl)
      have c1 := (cell_blk hb 1).trans (show _ = some (Value.int .i64 x.at_) from rfl)
      have c2 := (cell_blk hb 2).trans (show _ = some (Value.int .i64 x.coins) from rfl)
      have c3 := (cell_blk hb 3).trans (show _ = some (Value.int .i64 x.seq) from rfl)
      have c4 := (cell_blk hb 4).trans (show _ = some (Value.int .i64 x.last) from rfl)
      have lR := lt_blk hb
      clear hb
      go_wp2_with (fail)
      refine bodyPost_ret (v := .agg #[.int .i64 x.id, .int .i64 x.at_, .int .i64 x.coins, .int .i64 x.seq, .int .i64 x.last]) (by simp [results, Try.results89, go_sem, c0, c1, c2, c3, c4, lR]) rfl ?_
      exact ⟨x, rfl, hx, HJ9.out.1.up (show Q + 1 * 20 ≤ Q + 20 by omega), HEV.out.chg' HG.out hwR⟩
  | true =>
    have e0 : nn = m.c * m.w := by have := HNN.out; rw [q] at this; simpa using this.symm
    clear HNN
    go_wp2_with (first | (go_at_call 14; refine (sPlcOk_c _ _).mono ?_; rintro e w' ⟨rfl, t, rfl⟩))
    rw [← e0]
    clear e0
    refine wp_gen fun V hV => ?_
    have EV : Ext w V := by rw [hV]; ((try simp only [ext_drew]); (try simp only [ext_ext]); repeat (first | exact Ext.refl _ | with_reducible apply Ext.add | with_reducible apply Ext.dr | apply Ext.alloc | apply Ext.ext | apply Ext.drew | refine Ext.trans ?_ (by assumption)))
    have hb : V.heap[w.heap.size + 1]? = some (.cells #[.int .i64 0, .int .i64 0, .int .i64 0, .int .i64 0, .int .i64 0] 52 (0, 0)) := by rw [hV]; (repeat (first | with_reducible refine blk_ext ?_ | with_reducible apply blk_drew)); exact alloc_last (by simp)
    obtain ⟨R, hRe⟩ : ∃ R, w.heap.size + 1 = R := ⟨_, rfl⟩
    rw [hRe] at hb ⊢
    have hRW := lt_blk hb
    have hpW : p < V.heap.size := Nat.lt_of_lt_of_le lP EV.size
    have hRp : R ≠ p := by omega
    have hloR : lo ≤ R := by omega
    have HJ := hid (show Rdr lo p Q V ∧ WlkB R V from ⟨HR.out.of EV, ⟨⟨0, 0, 0, 0, 0⟩, hb⟩⟩)
    have HEV := hid EV
    have hwR : w.heap.size ≤ R := by omega
    clear hV hb hRe EV
    refine wp_region_flowD [some 14, some 15, some 16, some 17, some 18, some 19, some 20, some 21, some 22, some 23, some 24, some 25, some 26, some 27, some 28, some 29, some 30, some 31, some 32, none] (fun a b => Chg [p, R] a b) (fun i a b => Chg (bif i == 19 then [R] else [p]) a b) (fun k9 w9 => Rdr lo p (Q + 1 * k9) w9 ∧ WlkB R w9) (fun i v9 w9 => match i with
      | 0 => v9 = .pointer (some ⟨p, 0, none⟩)
      | 1 => InI 0 (8) (v9)
      | 2 => InI (1) (9) (v9)
      | 3 => v9 = .pointer (some ⟨p, 0, none⟩)
      | 4 => v9 = .int .i64 (nn)
      | 5 => InI 0 (nn - 1) (v9)
      | 6 => MkI V.heap.size 6 (0) (99) (v9) w9
      | 7 => v9 = .pointer (some ⟨p, 0, none⟩)
      | 8 => InI 0 (5) (v9)
      | 9 => PtI V.heap.size 6 (0) (99) (v9) w9
      | 10 => InI (0) (99) (v9)
      | 11 => MkI V.heap.size 5 (0) (900) (v9) w9
      | 12 => v9 = .pointer (some ⟨p, 0, none⟩)
      | 13 => InI 0 (4) (v9)
      | 14 => PtI V.heap.size 5 (0) (900) (v9) w9
      | 15 => InI (0) (900) (v9)
      | 16 => v9 = .pointer (some ⟨p, 0, none⟩)
      | 17 => InI 0 (9) (v9)
      | 18 => InW (v9)
      | _ => WlkAt R w9) (by kernel_rfl) (by decide +kernel) (by simp) (fun a => Chg.refl _ a) (fun a b c h k => Chg.trans h k) ?_ (Chg.drew (Chg.refl _ _)) ?_ ?_ ?_ ?_
    · intro i a b hi hG
      refine hG.mono ?_
      cases (i == 19) <;> simp
    · exact ⟨HJ.out.1.of zq0, HJ.out.2.drw⟩
    · intro i j hi hj hij v9 w9 w8 hg hS hG
      have hG2 : Chg [p, R] w9 w8 := hG.mono (by cases (i == 19) <;> simp)
      have hj9 : j < 20 := hj
      clear hi hj
      match j, hj9 with
      | 0, _ => exact hS
      | 1, _ => exact hS
      | 2, _ => exact hS
      | 3, _ => exact hS
      | 4, _ => exact hS
      | 5, _ => exact hS
      | 6, _ => exact MkI.chg hS hG2 (by simp; omega)
      | 7, _ => exact hS
      | 8, _ => exact hS
      | 9, _ => exact PtI.chg hS hG2 (by simp; omega)
      | 10, _ => exact hS
      | 11, _ => exact MkI.chg hS hG2 (by simp; omega)
      | 12, _ => exact hS
      | 13, _ => exact hS
      | 14, _ => exact PtI.chg hS hG2 (by simp; omega)
      | 15, _ => exact hS
      | 16, _ => exact hS
      | 17, _ => exact hS
      | 18, _ => exact hS
      | 19, _ =>
        have h9 : (i == 19) = false := by simpa using hij
        rw [h9, cond_false] at hG
        exact hS.chg hG (by simpa using hRp)
      | n + 20, h9 => exact absurd h9 (by omega)
    · intro i oo ho σ k9 w9 hG hk9 hJ hd
      have HG := hid hG
      have HJ9 := hid hJ
      have lp9 : p < w9.heap.size := Nat.lt_of_lt_of_le hpW hG.size
      have lR9 : R < w9.heap.size := Nat.lt_of_lt_of_le hRW hG.size
      have hW9 := hG.size
      have hkN : k9 < 20 := hk9
      have hi9 : i < 20 := (List.getElem?_eq_some_iff.1 ho).1
      clear hG hJ hk9
      match i, hi9, ho with
      | 0, _, ho =>
        obtain rfl := Option.some.inj ho
        clear hd ho
        simp only [actO, putO, List.setIfInBounds_toArray, List.set_cons_zero, List.set_cons_succ, Nat.reduceAdd]
        refine flow_K (fun K hK => ?_)
        go_simp
        (show K _ _)
        refine hK _ _ ⟨_, rfl, by simp, Chg.of_ext (show Ext _ _ from zq0) _, ⟨(HJ9.out.1.of (show Ext _ _ from zq0)).up (by omega), HJ9.out.2.of (show Ext _ _ from zq0)⟩, rfl⟩
      | 1, _, ho =>
        have e0 : σ 0 = .pointer (some ⟨p, 0, none⟩) := hd 0 (by obtain rfl := Option.some.inj ho; kernel_rfl)
        obtain rfl := Option.some.inj ho
        clear hd ho
        simp only [actO, putO, List.setIfInBounds_toArray, List.set_cons_zero, List.set_cons_succ, Nat.reduceAdd, e0]
        refine flow_K (fun K hK => ?_)
        have HRd := hid HJ9.out.1
        go_simp
        refine (pick_c lo p _ (9) w9 HRd.out (by omega) (by omega) (by omega)).mono ?_
        rintro e w8 ⟨vv, rfl, hv0, hv1, hR8, hC8⟩
        (show K _ _)
        refine hK _ _ ⟨_, rfl, by simp, hC8, ⟨hR8.up (by omega), HJ9.out.2.chg hC8 (by simpa using hRp)⟩, ⟨vv, rfl, hv0, by omega⟩⟩
      | 2, _, ho =>
        obtain ⟨x1, e1, y1, z1⟩ : InI 0 (8) (σ 1) := hd 1 (by obtain rfl := Option.some.inj ho; kernel_rfl)
        have hwr : IntKind.i64.wrap (1 + x1) = 1 + x1 := by simp [IntKind.wrap, IntKind.bits, IntKind.signed]; omega
        obtain rfl := Option.some.inj ho
        clear hd ho
        simp only [actO, putO, List.setIfInBounds_toArray, List.set_cons_zero, List.set_cons_succ, Nat.reduceAdd, e1]
        refine flow_K (fun K hK => ?_)
        go_simp
        (try rw [hwr])
        (show K _ _)
        refine hK _ _ ⟨_, rfl, by simp, Chg.of_ext (show Ext _ _ from zq0) _, ⟨(HJ9.out.1.of (show Ext _ _ from zq0)).up (by omega), HJ9.out.2.of (show Ext _ _ from zq0)⟩, ⟨_, rfl, by omega, by omega⟩⟩
      | 3, _, ho =>
        obtain rfl := Option.some.inj ho
        clear hd ho
        simp only [actO, putO, List.setIfInBounds_toArray, List.set_cons_zero, List.set_cons_succ, Nat.reduceAdd]
        refine flow_K (fun K hK => ?_)
        go_simp
        (show K _ _)
        refine hK _ _ ⟨_, rfl, by simp, Chg.of_ext (show Ext _ _ from zq0) _, ⟨(HJ9.out.1.of (show Ext _ _ from zq0)).up (by omega), HJ9.out.2.of (show Ext _ _ from zq0)⟩, rfl⟩
      | 4, _, ho =>
        obtain rfl := Option.some.inj ho
        clear hd ho
        simp only [actO, putO, List.setIfInBounds_toArray, List.set_cons_zero, List.set_cons_succ, Nat.reduceAdd]
        refine flow_K (fun K hK => ?_)
        go_simp
        (show K _ _)
        refine hK _ _ ⟨_, rfl, by simp, Chg.of_ext (show Ext _ _ from zq0) _, ⟨(HJ9.out.1.of (show Ext _ _ from zq0)).up (by omega), HJ9.out.2.of (show Ext _ _ from zq0)⟩, rfl⟩
      | 5, _, ho =>
        have e3 : σ 3 = .pointer (some ⟨p, 0, none⟩) := hd 3 (by obtain rfl := Option.some.inj ho; kernel_rfl)
        have e4 : σ 4 = .int .i64 (nn) := hd 4 (by obtain rfl := Option.some.inj ho; kernel_rfl)
        obtain rfl := Option.some.inj ho
        clear hd ho
        simp only [actO, putO, List.setIfInBounds_toArray, List.set_cons_zero, List.set_cons_succ, Nat.reduceAdd, e3, e4]
        refine flow_K (fun K hK => ?_)
        have HRd := hid HJ9.out.1
        go_simp
        refine (pick_c lo p _ (nn) w9 HRd.out (by omega) (by omega) (by omega)).mono ?_
        rintro e w8 ⟨vv, rfl, hv0, hv1, hR8, hC8⟩
        (show K _ _)
        refine hK _ _ ⟨_, rfl, by simp, hC8, ⟨hR8.up (by omega), HJ9.out.2.chg hC8 (by simpa using hRp)⟩, ⟨vv, rfl, hv0, by omega⟩⟩
      | 6, _, ho =>
        obtain rfl := Option.some.inj ho
        clear hd ho
        simp only [actO, putO, List.setIfInBounds_toArray, List.set_cons_zero, List.set_cons_succ, Nat.reduceAdd]
        refine flow_K (fun K hK => ?_)
        go_simp
        (show K _ _)
        refine hK _ _ ⟨_, rfl, by simp, Chg.of_ext (show Ext _ _ from zq0) _, ⟨(HJ9.out.1.of (show Ext _ _ from zq0)).up (by omega), HJ9.out.2.of (show Ext _ _ from zq0)⟩, ⟨_, rfl, by (try simp [go_sem]) <;> omega, ⟨_, heap_new (by simp [go_sem]), fun i hi => ?_⟩⟩⟩
        match i, hi with
        | 0, _ => exact ⟨0, rfl, by omega, by omega⟩
        | 1, _ => exact ⟨1, rfl, by omega, by omega⟩
        | 2, _ => exact ⟨5, rfl, by omega, by omega⟩
        | 3, _ => exact ⟨20, rfl, by omega, by omega⟩
        | 4, _ => exact ⟨95, rfl, by omega, by omega⟩
        | 5, _ => exact ⟨99, rfl, by omega, by omega⟩
      | 7, _, ho =>
        obtain rfl := Option.some.inj ho
        clear hd ho
        simp only [actO, putO, List.setIfInBounds_toArray, List.set_cons_zero, List.set_cons_succ, Nat.reduceAdd]
        refine flow_K (fun K hK => ?_)
        go_simp
        (show K _ _)
        refine hK _ _ ⟨_, rfl, by simp, Chg.of_ext (show Ext _ _ from zq0) _, ⟨(HJ9.out.1.of (show Ext _ _ from zq0)).up (by omega), HJ9.out.2.of (show Ext _ _ from zq0)⟩, rfl⟩
      | 8, _, ho =>
        have e7 : σ 7 = .pointer (some ⟨p, 0, none⟩) := hd 7 (by obtain rfl := Option.some.inj ho; kernel_rfl)
        obtain rfl := Option.some.inj ho
        clear hd ho
        simp only [actO, putO, List.setIfInBounds_toArray, List.set_cons_zero, List.set_cons_succ, Nat.reduceAdd, e7]
        refine flow_K (fun K hK => ?_)
        have HRd := hid HJ9.out.1
        go_simp
        refine (pick_c lo p _ (6) w9 HRd.out (by omega) (by omega) (by omega)).mono ?_
        rintro e w8 ⟨vv, rfl, hv0, hv1, hR8, hC8⟩
        (show K _ _)
        refine hK _ _ ⟨_, rfl, by simp, hC8, ⟨hR8.up (by omega), HJ9.out.2.chg hC8 (by simpa using hRp)⟩, ⟨vv, rfl, hv0, by omega⟩⟩
      | 9, _, ho =>
        obtain ⟨b6, e6, hb6, ha6⟩ : MkI V.heap.size 6 (0) (99) (σ 6) _ := hd 6 (by obtain rfl := Option.some.inj ho; kernel_rfl)
        obtain ⟨x8, e8, y8, z8⟩ : InI 0 (5) (σ 8) := hd 8 (by obtain rfl := Option.some.inj ho; kernel_rfl)
        obtain ⟨i8, rfl⟩ : ∃ i : Nat, x8 = (i : Int) := ⟨x8.toNat, by omega⟩
        have hin : i8 < 6 := by omega
        have hin2 : (i8 : Int) < 6 := by omega
        obtain rfl := Option.some.inj ho
        clear hd ho
        simp only [actO, putO, List.setIfInBounds_toArray, List.set_cons_zero, List.set_cons_succ, Nat.reduceAdd, e6, e8]
        refine flow_K (fun K hK => ?_)
        go_simp
        (show K _ _)
        refine hK _ _ ⟨_, rfl, by simp, Chg.of_ext (show Ext _ _ from zq0) _, ⟨(HJ9.out.1.of (show Ext _ _ from zq0)).up (by omega), HJ9.out.2.of (show Ext _ _ from zq0)⟩, ⟨_, _, rfl, hin, hb6, ha6⟩⟩
      | 10, _, ho =>
        obtain ⟨b9, k9, e9, hk9, hb9, ha9⟩ : PtI V.heap.size 6 (0) (99) (σ 9) _ := hd 9 (by obtain rfl := Option.some.inj ho; kernel_rfl)
        obtain ⟨y, hy, hy0, hy1⟩ := index_at ha9 hk9
        obtain rfl := Option.some.inj ho
        clear hd ho
        simp only [actO, putO, List.setIfInBounds_toArray, List.set_cons_zero, List.set_cons_succ, Nat.reduceAdd, e9]
        refine flow_K (fun K hK => ?_)
        go_simp
        (show K _ _)
        refine hK _ _ ⟨_, rfl, by simp, Chg.of_ext (show Ext _ _ from zq0) _, ⟨(HJ9.out.1.of (show Ext _ _ from zq0)).up (by omega), HJ9.out.2.of (show Ext _ _ from zq0)⟩, ⟨y, rfl, hy0, hy1⟩⟩
      | 11, _, ho =>
        obtain rfl := Option.some.inj ho
        clear hd ho
        simp only [actO, putO, List.setIfInBounds_toArray, List.set_cons_zero, List.set_cons_succ, Nat.reduceAdd]
        refine flow_K (fun K hK => ?_)
        go_simp
        (show K _ _)
        refine hK _ _ ⟨_, rfl, by simp, Chg.of_ext (show Ext _ _ from zq0) _, ⟨(HJ9.out.1.of (show Ext _ _ from zq0)).up (by omega), HJ9.out.2.of (show Ext _ _ from zq0)⟩, ⟨_, rfl, by (try simp [go_sem]) <;> omega, ⟨_, heap_new (by simp [go_sem]), fun i hi => ?_⟩⟩⟩
        match i, hi with
        | 0, _ => exact ⟨0, rfl, by omega, by omega⟩
        | 1, _ => exact ⟨0, rfl, by omega, by omega⟩
        | 2, _ => exact ⟨1, rfl, by omega, by omega⟩
        | 3, _ => exact ⟨7, rfl, by omega, by omega⟩
        | 4, _ => exact ⟨900, rfl, by omega, by omega⟩
      | 12, _, ho =>
        obtain rfl := Option.some.inj ho
        clear hd ho
        simp only [actO, putO, List.setIfInBounds_toArray, List.set_cons_zero, List.set_cons_succ, Nat.reduceAdd]
        refine flow_K (fun K hK => ?_)
        go_simp
        (show K _ _)
        refine hK _ _ ⟨_, rfl, by simp, Chg.of_ext (show Ext _ _ from zq0) _, ⟨(HJ9.out.1.of (show Ext _ _ from zq0)).up (by omega), HJ9.out.2.of (show Ext _ _ from zq0)⟩, rfl⟩
      | 13, _, ho =>
        have e12 : σ 12 = .pointer (some ⟨p, 0, none⟩) := hd 12 (by obtain rfl := Option.some.inj ho; kernel_rfl)
        obtain rfl := Option.some.inj ho
        clear hd ho
        simp only [actO, putO, List.setIfInBounds_toArray, List.set_cons_zero, List.set_cons_succ, Nat.reduceAdd, e12]
        refine flow_K (fun K hK => ?_)
        have HRd := hid HJ9.out.1
        go_simp
        refine (pick_c lo p _ (5) w9 HRd.out (by omega) (by omega) (by omega)).mono ?_
        rintro e w8 ⟨vv, rfl, hv0, hv1, hR8, hC8⟩
        (show K _ _)
        refine hK _ _ ⟨_, rfl, by simp, hC8, ⟨hR8.up (by omega), HJ9.out.2.chg hC8 (by simpa using hRp)⟩, ⟨vv, rfl, hv0, by omega⟩⟩
      | 14, _, ho =>
        obtain ⟨b11, e11, hb11, ha11⟩ : MkI V.heap.size 5 (0) (900) (σ 11) _ := hd 11 (by obtain rfl := Option.some.inj ho; kernel_rfl)
        obtain ⟨x13, e13, y13, z13⟩ : InI 0 (4) (σ 13) := hd 13 (by obtain rfl := Option.some.inj ho; kernel_rfl)
        obtain ⟨i13, rfl⟩ : ∃ i : Nat, x13 = (i : Int) := ⟨x13.toNat, by omega⟩
        have hin : i13 < 5 := by omega
        have hin2 : (i13 : Int) < 5 := by omega
        obtain rfl := Option.some.inj ho
        clear hd ho
        simp only [actO, putO, List.setIfInBounds_toArray, List.set_cons_zero, List.set_cons_succ, Nat.reduceAdd, e11, e13]
        refine flow_K (fun K hK => ?_)
        go_simp
        (show K _ _)
        refine hK _ _ ⟨_, rfl, by simp, Chg.of_ext (show Ext _ _ from zq0) _, ⟨(HJ9.out.1.of (show Ext _ _ from zq0)).up (by omega), HJ9.out.2.of (show Ext _ _ from zq0)⟩, ⟨_, _, rfl, hin, hb11, ha11⟩⟩
      | 15, _, ho =>
        obtain ⟨b14, k14, e14, hk14, hb14, ha14⟩ : PtI V.heap.size 5 (0) (900) (σ 14) _ := hd 14 (by obtain rfl := Option.some.inj ho; kernel_rfl)
        obtain ⟨y, hy, hy0, hy1⟩ := index_at ha14 hk14
        obtain rfl := Option.some.inj ho
        clear hd ho
        simp only [actO, putO, List.setIfInBounds_toArray, List.set_cons_zero, List.set_cons_succ, Nat.reduceAdd, e14]
        refine flow_K (fun K hK => ?_)
        go_simp
        (show K _ _)
        refine hK _ _ ⟨_, rfl, by simp, Chg.of_ext (show Ext _ _ from zq0) _, ⟨(HJ9.out.1.of (show Ext _ _ from zq0)).up (by omega), HJ9.out.2.of (show Ext _ _ from zq0)⟩, ⟨y, rfl, hy0, hy1⟩⟩
      | 16, _, ho =>
        obtain rfl := Option.some.inj ho
        clear hd ho
        simp only [actO, putO, List.setIfInBounds_toArray, List.set_cons_zero, List.set_cons_succ, Nat.reduceAdd]
        refine flow_K (fun K hK => ?_)
        go_simp
        (show K _ _)
        refine hK _ _ ⟨_, rfl, by simp, Chg.of_ext (show Ext _ _ from zq0) _, ⟨(HJ9.out.1.of (show Ext _ _ from zq0)).up (by omega), HJ9.out.2.of (show Ext _ _ from zq0)⟩, rfl⟩
      | 17, _, ho =>
        have e16 : σ 16 = .pointer (some ⟨p, 0, none⟩) := hd 16 (by obtain rfl := Option.some.inj ho; kernel_rfl)
        obtain rfl := Option.some.inj ho
        clear hd ho
        simp only [actO, putO, List.setIfInBounds_toArray, List.set_cons_zero, List.set_cons_succ, Nat.reduceAdd, e16]
        refine flow_K (fun K hK => ?_)
        have HRd := hid HJ9.out.1
        go_simp
        refine (pick_c lo p _ (10) w9 HRd.out (by omega) (by omega) (by omega)).mono ?_
        rintro e w8 ⟨vv, rfl, hv0, hv1, hR8, hC8⟩
        (show K _ _)
        refine hK _ _ ⟨_, rfl, by simp, hC8, ⟨hR8.up (by omega), HJ9.out.2.chg hC8 (by simpa using hRp)⟩, ⟨vv, rfl, hv0, by omega⟩⟩
      | 18, _, ho =>
        obtain ⟨x2, e2, y2, z2⟩ : InI (1) (9) (σ 2) := hd 2 (by obtain rfl := Option.some.inj ho; kernel_rfl)
        obtain ⟨x5, e5, y5, z5⟩ : InI 0 (nn - 1) (σ 5) := hd 5 (by obtain rfl := Option.some.inj ho; kernel_rfl)
        obtain ⟨x10, e10, y10, z10⟩ : InI (0) (99) (σ 10) := hd 10 (by obtain rfl := Option.some.inj ho; kernel_rfl)
        obtain ⟨x15, e15, y15, z15⟩ : InI (0) (900) (σ 15) := hd 15 (by obtain rfl := Option.some.inj ho; kernel_rfl)
        obtain ⟨x17, e17, y17, z17⟩ : InI 0 (9) (σ 17) := hd 17 (by obtain rfl := Option.some.inj ho; kernel_rfl)
        obtain rfl := Option.some.inj ho
        clear hd ho
        simp only [actO, putO, List.setIfInBounds_toArray, List.set_cons_zero, List.set_cons_succ, Nat.reduceAdd, e2, e5, e10, e15, e17]
        refine flow_K (fun K hK => ?_)
        go_simp
        (show K _ _)
        refine hK _ _ ⟨_, rfl, by simp, Chg.of_ext (show Ext _ _ from zq0) _, ⟨(HJ9.out.1.of (show Ext _ _ from zq0)).up (by omega), HJ9.out.2.of (show Ext _ _ from zq0)⟩, ⟨⟨x2, x5, x10, x15, x17⟩, rfl, by simp only [WlkIn]; omega⟩⟩
      | 19, _, ho =>
        obtain ⟨x18, e18, h18⟩ : InW (σ 18) := hd 18 (by obtain rfl := Option.some.inj ho; kernel_rfl)
        obtain ⟨x0, hb0⟩ := HJ9.out.2
        obtain rfl := Option.some.inj ho
        clear hd ho
        simp only [actO, putO, List.setIfInBounds_toArray, List.set_cons_zero, List.set_cons_succ, Nat.reduceAdd, e18]
        refine flow_K (fun K hK => ?_)
        have cR0 := (cell_blk hb0 0).trans (show _ = some (Value.int .i64 x0.id) from rfl)
        have zR0 := frozen_blk hb0 0
        have cR1 := (cell_blk hb0 1).trans (show _ = some (Value.int .i64 x0.at_) from rfl)
        have zR1 := frozen_blk hb0 1
        have cR2 := (cell_blk hb0 2).trans (show _ = some (Value.int .i64 x0.coins) from rfl)
        have zR2 := frozen_blk hb0 2
        have cR3 := (cell_blk hb0 3).trans (show _ = some (Value.int .i64 x0.seq) from rfl)
        have zR3 := frozen_blk hb0 3
        have cR4 := (cell_blk hb0 4).trans (show _ = some (Value.int .i64 x0.last) from rfl)
        have zR4 := frozen_blk hb0 4
        have HB0 := hid hb0
        clear hb0
        go_simp
        (show K _ _)
        refine hK _ _ ⟨undef, rfl, fun _ => rfl, zq1, ⟨(HJ9.out.1.chg (B := [R]) zq1 (by simp; omega) (Nat.le_refl _)).up (by omega), ⟨x18, wlk_store HB0.out⟩⟩, ⟨x18, wlk_store HB0.out, h18⟩⟩
    · intro σ w9 hG hJ hd
      have e0 : σ 0 = .pointer (some ⟨p, 0, none⟩) := hd 0 (by decide)
      obtain ⟨x1, e1, y1, z1⟩ : InI 0 (8) (σ 1) := hd 1 (by decide)
      obtain ⟨x2, e2, y2, z2⟩ : InI (1) (9) (σ 2) := hd 2 (by decide)
      have e3 : σ 3 = .pointer (some ⟨p, 0, none⟩) := hd 3 (by decide)
      have e4 : σ 4 = .int .i64 (nn) := hd 4 (by decide)
      obtain ⟨x5, e5, y5, z5⟩ : InI 0 (nn - 1) (σ 5) := hd 5 (by decide)
      obtain ⟨b6, e6, hb6, ha6⟩ : MkI V.heap.size 6 (0) (99) (σ 6) _ := hd 6 (by decide)
      have e7 : σ 7 = .pointer (some ⟨p, 0, none⟩) := hd 7 (by decide)
      obtain ⟨x8, e8, y8, z8⟩ : InI 0 (5) (σ 8) := hd 8 (by decide)
      obtain ⟨b9, k9, e9, hk9, hb9, ha9⟩ : PtI V.heap.size 6 (0) (99) (σ 9) _ := hd 9 (by decide)
      obtain ⟨x10, e10, y10, z10⟩ : InI (0) (99) (σ 10) := hd 10 (by decide)
      obtain ⟨b11, e11, hb11, ha11⟩ : MkI V.heap.size 5 (0) (900) (σ 11) _ := hd 11 (by decide)
      have e12 : σ 12 = .pointer (some ⟨p, 0, none⟩) := hd 12 (by decide)
      obtain ⟨x13, e13, y13, z13⟩ : InI 0 (4) (σ 13) := hd 13 (by decide)
      obtain ⟨b14, k14, e14, hk14, hb14, ha14⟩ : PtI V.heap.size 5 (0) (900) (σ 14) _ := hd 14 (by decide)
      obtain ⟨x15, e15, y15, z15⟩ : InI (0) (900) (σ 15) := hd 15 (by decide)
      have e16 : σ 16 = .pointer (some ⟨p, 0, none⟩) := hd 16 (by decide)
      obtain ⟨x17, e17, y17, z17⟩ : InI 0 (9) (σ 17) := hd 17 (by decide)
      obtain ⟨x18, e18, h18⟩ : InW (σ 18) := hd 18 (by decide)
      have hs19 : WlkAt R _ := hd 19 (by decide)
      have HG := hid hG
      have HJ9 := hid hJ
      clear hd hG hJ
      simp only [actO, putO, List.setIfInBounds_toArray, List.set_cons_zero, List.set_cons_succ, Nat.reduceAdd, e0, e1, e2, e3, e4, e5, e6, e7, e8, e9, e10, e11, e12, e13, e14, e15, e16, e17, e18]
      clear e0 e1 e2 e3 e4 e5 e6 e7 e8 e9 e10 e11 e12 e13 e14 e15 e16 e17 e18
      obtain ⟨x, hb, hx⟩ := hs19
      have c0 := (cell_blk hb 0).trans (show _ = some (Value.int .i64 x.id) from rfl)
      have c1 := (cell_blk hb 1).trans (show _ = some (Value.int .i64 x.at_) from rfl)
      have c2 := (cell_blk hb 2).trans (show _ = some (Value.int .i64 x.coins) from rfl)
      have c3 := (cell_blk hb 3).trans (show _ = some (Value.int .i64 x.seq) from rfl)
      have c4 := (cell_blk hb 4).trans (show _ = some (Value.int .i64 x.last) from rfl)
      have lR := lt_blk hb
      clear hb
      go_wp2_with (fail)
      refine bodyPost_ret (v := .agg #[.int .i64 x.id, .int .i64 x.at_, .int .i64 x.coins, .int .i64 x.seq, .int .i64 x.last]) (by simp [results, Try.results89, go_sem, c0, c1, c2, c3, c4, lR]) rfl ?_
      exact ⟨x, rfl, hx, HJ9.out.1.up (show Q + 1 * 20 ≤ Q + 20 by omega), HEV.out.chg' HG.out hwR⟩
end Go.Proofs.Ytbbpipbemhggdaa

