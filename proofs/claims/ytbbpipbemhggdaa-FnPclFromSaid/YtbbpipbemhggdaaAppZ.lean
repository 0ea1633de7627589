/- An element appended to a row of one's own; only the row's own block may change. -/
import Derived.Test.YtbbpipbemhggdaaApp
namespace Go.Proofs.Ytbbpipbemhggdaa
open Go.RowKit
set_option linter.unusedSimpArgs false
set_option linter.unusedVariables false

/-- A slice's value. -/
structure SlV where
  a : Option Addr
  n : Nat
  c : Nat
def SlV.cells (v : SlV) : List Value := [.slice v.a v.n v.c]
theorem slv_one (x : SlV) : ∀ u ∈ x.cells, u.oneCell' = true := by
  intro u hu
  simp only [SlV.cells, List.mem_singleton] at hu
  subst hu; rfl
/-- An element appended; only the row's own block may change. -/
theorem wp_appRZ {α : Type} {cells : α → List Value} {k bytes : Nat} {z : Value} {TS T : TypeId} (hT : Try.prog.underlying TS = some (.slice T)) (hI : (Try.prog.info? T).map (fun i => (i.zero, i.size, i.bytes)) = some (some z, k, bytes)) (hz : z.cells.size = k) (hpos : 0 < k) (hby : bytes ≤ 1024)
    (hcl : ∀ x, (cells x).length = k) (hone : ∀ x, ∀ u ∈ cells x, u.oneCell' = true)
    {o : Oper} {a : Act} {K : Act → World → Prop} {Q : Exit → Act → World → Prop} {w : World} (base : Nat) (s x : Operand) (ho : o.op = .call { callee := .builtin .append, args := #[s, x], argTypes := #[TS, TS] })
    {v : Value} {xs : List α} (hs : a.eval s = v) (hb : base ≤ w.heap.size) (hown : w.ownsRow base T k v xs.length (xs.flatMap cells)) (y : α) {b c : Nat} {T' : TypeId} (hx : a.eval x = .slice (some ⟨b, 0, none⟩) 1 c) (hy : w.heap[b]? = some (.cells (cells y).toArray T' (0, 0))) (hn : xs.length ≤ 4194304)
    (h : ∀ v' w', w'.ownsRow base T k v' (xs ++ [y]).length ((xs ++ [y]).flatMap cells) → Chg v.ownBlock.toList w w' → (v'.ownBlock = v.ownBlock ∨ v'.ownBlock = some w.heap.size) → K (a.put o.dst v') w') : o.wp Try.prog a w K Q := by
  cases hi : Try.prog.info? T with
  | none => rw [hi] at hI; cases hI
  | some i =>
    rw [hi] at hI
    simp only [Option.map_some, Option.some.injEq, Prod.mk.injEq] at hI
    obtain ⟨i1, i2, i3⟩ := hI
    obtain ⟨v', w', hr, h1, h2, _, h4⟩ := run_append_own_at (P := Try.prog) w base TS o.type T i z k bytes hT hi i1 i2 i3 hz hpos v xs.length (xs.flatMap cells) hown ⟨b, 0, none⟩ 1 c (cells y) (by rw [hcl, Nat.one_mul]) (by
      intro j u hu
      rw [ld_add, Nat.zero_add, cell_blk hy]
      simpa using hu) (hone y) (by simp only [maxLen]; omega) (by
      calc (xs.length + 1) * bytes ≤ (xs.length + 1) * 1024 := Nat.mul_le_mul_left _ hby
        _ ≤ 140737488355328 := by omega) hb
    unfold Oper.wp execOp
    simp only [ho, resolve, invoke, builtin, Sem.run_bind, Sem.run_pure, Result.andThen_ok, List.map_toArray, List.map_cons, List.map_nil, hs, hx, hr]
    refine h v' w' ?_ ⟨h2.os, h2.tape, h2.output, h2.size, fun k hk hn => h2.block k hk (fun e => hn (by first | (rw [e]; simp; done) | (rw [← e]; simp; done)))⟩ h4
    rw [List.length_append, List.length_singleton, List.flatMap_append, List.flatMap_singleton]
    exact h1
end Go.Proofs.Ytbbpipbemhggdaa
