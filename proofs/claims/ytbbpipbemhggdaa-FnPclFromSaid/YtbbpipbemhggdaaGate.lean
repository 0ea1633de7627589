/- A gate: an operation that appends. -/
import Derived.Test.YtbbpipbemhggdaaRow
namespace Go.Proofs.Ytbbpipbemhggdaa
open Go.RowKit
theorem app_gate {P : Program} {ops : Array Oper} {rest : List Oper} {Q : Exit → Act → World → Prop} {a : Act} {w : World} {d : Option Nat} {s x : Operand} {T1 T2 ty : TypeId} {ps : String} {af : Array Edge}
    (h : wpList P ops Q ({ dst := d, op := Op.call { callee := Callee.builtin Builtin.append, args := #[s, x], argTypes := #[T1, T2] }, type := ty, pos := ps, after := af, guard := none } :: rest) a w) :
    wpList P ops Q ({ dst := d, op := Op.call { callee := Callee.builtin Builtin.append, args := #[s, x], argTypes := #[T1, T2] }, type := ty, pos := ps, after := af, guard := none } :: rest) a w := h
section
variable {α : Type} {cells : α → List Value} {k bytes : Nat} {z : Value} {TS T : TypeId}
/-- An element appended; a block p beside the row stays as it was. -/
theorem wpList_appXC (hT : Try.prog.underlying TS = some (.slice T)) (hI : (Try.prog.info? T).map (fun i => (i.zero, i.size, i.bytes)) = some (some z, k, bytes)) (hz : z.cells.size = k) (hpos : 0 < k) (hby : bytes ≤ 1024)
    (hcl : ∀ x, (cells x).length = k) (hone : ∀ x, ∀ u ∈ cells x, u.oneCell' = true)
    {ops : Array Oper} {rest : List Oper} {o : Oper} {a : Act} {Q : Exit → Act → World → Prop} {w : World} (hgd : o.guard = none) (w0 : World) (s x : Operand) (ho : o.op = .call { callee := .builtin .append, args := #[s, x], argTypes := #[TS, TS] })
    {v : Value} {xs : List α} {B : List Nat} (hs : a.eval s = v) (hE : Ext w0 w) (hown : RowX w T k cells v xs B) (hB : ∀ b ∈ B, w0.heap.size ≤ b) (y : α) {b c : Nat} {T' : TypeId} (hx : a.eval x = .slice (some ⟨b, 0, none⟩) 1 c) (hy : w.heap[b]? = some (.cells (cells y).toArray T' (0, 0))) (hn : xs.length ≤ 4194304)
    (p : Nat) (ob : Obj) (hp : w.heap[p]? = some ob) (hpB : p ∉ B)
    (h : ∀ v' t' B', RowX (ext w0 t') T k cells v' (xs ++ [y]) B' → (∀ b ∈ B', w0.heap.size ≤ b) → (ext w0 t').heap[p]? = some ob → wpList Try.prog ops Q rest (a.put o.dst v') (ext w0 t')) : wpList Try.prog ops Q (o :: rest) a w :=
  wpList_plain hgd fun _ hK => wp_appX hT hI hz hpos hby hcl hone s x ho hs hown y hx hy hn fun v' w' B' h1 h2 h3 => by
    have hlt : p < w.heap.size := lt_blk hp
    have hk := (h2.block p hlt hpB).trans hp
    obtain ⟨t', rfl⟩ : Ext w0 w' := Ext.of_below (Below.chg hE.below h2 hB)
    refine hK _ _ (h v' t' B' h1 (fun b hb => ?_) hk)
    rcases h3 with rfl | rfl
    · exact hB b hb
    · obtain rfl : b = w.heap.size := by simpa using hb
      exact hE.size
end
end Go.Proofs.Ytbbpipbemhggdaa
