/- Base vocabulary: a world after calls that only add blocks ('ext'), and a region that draws its order, walked once in the order of the text, whose calls may add blocks. -/
import Derived.Test.YtejplnlnfhcimaaRows
import Derived.WalkKit
import Derived.WalkSpells
import Derived.Deep.QuietTactic
import Derived.BigQuiet
namespace Go.Proofs.Ytejplnlnfhcimaa
open Go.RowKit

theorem hid {p : Prop} (h : p) : Hid p := h
structure Xt where
  bs : Array Obj
  n : Nat
deriving Inhabited
def Xt.add (t s : Xt) : Xt := ⟨t.bs ++ s.bs, t.n + s.n⟩
/-- The world with blocks added behind its own, and draws. -/
def ext (w : World) (t : Xt) : World := { w with heap := w.heap ++ t.bs, drawn := w.drawn + t.n }

theorem ext_heap (w : World) (t) : (ext w t).heap = w.heap ++ t.bs := rfl
@[go_sem] theorem ext_size (w : World) (t) : (ext w t).heap.size = w.heap.size + t.bs.size := by simp [ext]
theorem ext_block (w : World) (t) (b : Nat) (h : b < w.heap.size) : (ext w t).heap[b]? = w.heap[b]? := by
  simp [ext, Array.getElem?_append, h]
theorem ext_cell (w : World) (t) (a : Addr) (h : a.block < w.heap.size) : (ext w t).cell? a = w.cell? a := by
  simp [World.cell?, ext_block w t a.block h]
theorem ext_frozen (w : World) (t) (a : Addr) (h : a.block < w.heap.size) : (ext w t).frozen? a = w.frozen? a := by
  simp [World.frozen?, ext_block w t a.block h]
@[go_sem] theorem ext_cell' (w : World) (t) (b i : Nat) (h : b < w.heap.size) : (ext w t).cell? ⟨b, i, none⟩ = w.cell? ⟨b, i, none⟩ := ext_cell w t _ h
@[go_sem] theorem ext_frozen' (w : World) (t) (b i : Nat) (h : b < w.heap.size) : (ext w t).frozen? ⟨b, i, none⟩ = w.frozen? ⟨b, i, none⟩ := ext_frozen w t _ h
@[go_sem] theorem ext_setCell (w : World) (t) (b i : Nat) (v : Value) (h : b < w.heap.size) : (ext w t).setCell ⟨b, i, none⟩ v = ext (w.setCell ⟨b, i, none⟩ v) t := by
  simp only [ext, World.setCell]
  congr 1
  apply Array.ext_getElem?
  intro k
  simp only [Array.getElem?_modify, Array.getElem?_append, Array.size_modify]
  by_cases hk : b = k
  · subst hk; simp [h]
  · simp [hk]
@[go_sem] theorem ext_ext (w : World) (t s) : ext (ext w t) s = ext w (t.add s) := by
  simp [ext, Xt.add, Nat.add_assoc, Array.append_assoc]
@[go_sem] theorem ext_drew (w : World) (t : Xt) : (ext w t).drew = ext w ⟨t.bs, t.n + 1⟩ := rfl
theorem ext_refl (w : World) : ext w ⟨#[], 0⟩ = w := by simp [ext]
theorem drew_ext (w : World) : w.drew = ext w ⟨#[], 1⟩ := by
  show ({ w with drawn := w.drawn + 1 } : World) = { w with heap := w.heap ++ #[], drawn := w.drawn + 1 }
  simp
theorem drewN_ext (w : World) (n : Nat) : w.drewN n = ext w ⟨#[], n⟩ := by
  show ({ w with drawn := w.drawn + n } : World) = { w with heap := w.heap ++ #[], drawn := w.drawn + n }
  simp
theorem alloc_ext (w : World) (o : Obj) : w.alloc o = ext w ⟨#[o], 0⟩ := by
  show ({ w with heap := w.heap.push o } : World) = { w with heap := w.heap ++ #[o], drawn := w.drawn + 0 }
  simp

/-- w' is w with blocks added. -/
def Ext (w w' : World) : Prop := ∃ t, w' = ext w t
theorem Ext.refl (w : World) : Ext w w := ⟨_, (ext_refl w).symm⟩
theorem Ext.trans {a b c : World} (h : Ext a b) (k : Ext b c) : Ext a c := by
  obtain ⟨t, rfl⟩ := h; obtain ⟨s, rfl⟩ := k; exact ⟨_, ext_ext _ _ _⟩
theorem Ext.ext {a b : World} (h : Ext a b) (t) : Ext a (ext b t) := h.trans ⟨t, rfl⟩
theorem Ext.drew {a b : World} (h : Ext a b) : Ext a b.drew := h.trans ⟨_, drew_ext b⟩
theorem Ext.alloc {a b : World} (h : Ext a b) (o : Obj) : Ext a (b.alloc o) := h.trans ⟨_, alloc_ext b o⟩
theorem Ext.size {a b : World} (h : Ext a b) : a.heap.size ≤ b.heap.size := by
  obtain ⟨t, rfl⟩ := h; simp [ext_size]
theorem Ext.block {a b : World} (h : Ext a b) {k : Nat} (hk : k < a.heap.size) : b.heap[k]? = a.heap[k]? := by
  obtain ⟨t, rfl⟩ := h; exact ext_block _ _ _ hk
theorem Ext.below {a b : World} (h : Ext a b) : Below a.heap.size a b := by
  obtain ⟨t, rfl⟩ := h; exact ⟨rfl, rfl, rfl, by simp [ext_size], fun k hk => ext_block _ _ _ hk⟩

/-- A region that draws its order, whose operations read and whose calls add blocks: one walk in the order of the text. -/
theorem wp_region_ext {P : Program} {id : Nat} {Q : Exit → Act → World → Prop} {a : Act} {w : World} {l : List Oper} (hm : P.follows .mixedOrders = true) (hB : Region.lexB .any l.toArray = true)
    (h : wpQuiet P l.toArray (fun w' => ∃ t, w' = ext w t) (fun a' => ∀ w', (∃ t, w' = ext w t) → Q .normal a' w') l a) : (Code.region id l.toArray true).wp P Q a w :=
  wp_region_quiet (C := fun w' => ∃ t, w' = ext w t) hm hB ⟨⟨#[], 1⟩, drew_ext w⟩ (by simpa using h)

theorem quiet_call {P : Program} {f : FuncId} {args : Array Value} {w : World} {t : Xt} {v : Value}
    (h : Calls P f args (ext w t) fun e w' => e = .returned v ∧ Ext (ext w t) w') : Calls P f args (ext w t) fun e w'' => e = .returned v ∧ ∃ m, w'' = ext w m :=
  h.mono fun _ _ ⟨he, m, hm⟩ => ⟨he, t.add m, by rw [hm, ext_ext]⟩
theorem quiet_call2 {P : Program} {f : FuncId} {args : Array Value} {w : World} {t s : Xt} {v : Value}
    (h : Calls P f args (ext w (t.add s)) fun e w' => e = .returned v ∧ Ext (ext w (t.add s)) w') : Calls P f args (ext w (t.add s)) fun e w'' => e = .returned v ∧ ∃ m, w'' = ext w (t.add m) :=
  h.mono fun _ _ ⟨he, m, hm⟩ => ⟨he, s.add m, by rw [hm, ext_ext]; simp [Xt.add, Nat.add_assoc, Array.append_assoc]⟩
theorem quiet_same {P : Program} {f : FuncId} {args : Array Value} {w : World} {t : Xt} {v : Value}
    (h : Calls P f args (ext w t) fun e w' => e = .returned v ∧ ext w t = w') : Calls P f args (ext w t) fun e w'' => e = .returned v ∧ ∃ m, w'' = ext w m :=
  h.mono fun _ _ ⟨he, hm⟩ => ⟨he, t, hm.symm⟩
theorem quiet_same2 {P : Program} {f : FuncId} {args : Array Value} {w : World} {t s : Xt} {v : Value}
    (h : Calls P f args (ext w (t.add s)) fun e w' => e = .returned v ∧ ext w (t.add s) = w') : Calls P f args (ext w (t.add s)) fun e w'' => e = .returned v ∧ ∃ m, w'' = ext w (t.add m) :=
  h.mono fun _ _ ⟨he, hm⟩ => ⟨he, s, hm.symm⟩
end Go.Proofs.Ytejplnlnfhcimaa
