/- Drawing regions that also make blocks and store into them: what may change, what stays; the blocks that are held. -/
import Derived.Test.YtbbpipbemhggdaaDl
import Derived.Test.YtbbpipbemhggdaaDrawP
namespace Go.Proofs.Ytbbpipbemhggdaa
open Go.RowKit
set_option linter.unusedSimpArgs false
set_option linter.unusedVariables false

/-- Of the blocks below n those of L may have changed; of the newer ones those of a kind may have turned into others of that kind. -/
structure ChgT (n : Nat) (L : List Nat) (TO : Obj → Prop) (a b : World) : Prop where
  os : b.os = a.os
  tape : b.tape = a.tape
  output : b.output = a.output
  size : a.heap.size ≤ b.heap.size
  old : ∀ k, k < n → k < a.heap.size → k ∉ L → b.heap[k]? = a.heap[k]?
  new : ∀ k, n ≤ k → k < a.heap.size → b.heap[k]? = a.heap[k]? ∨ ∃ o o', a.heap[k]? = some o ∧ b.heap[k]? = some o' ∧ TO o ∧ TO o'
theorem ChgT.refl (n : Nat) (L : List Nat) (TO : Obj → Prop) (a : World) : ChgT n L TO a a := ⟨rfl, rfl, rfl, Nat.le_refl _, fun _ _ _ _ => rfl, fun _ _ _ => .inl rfl⟩
theorem ChgT.trans {n : Nat} {L : List Nat} {TO : Obj → Prop} {a b c : World} (h : ChgT n L TO a b) (k : ChgT n L TO b c) : ChgT n L TO a c := by
  refine ⟨k.os.trans h.os, k.tape.trans h.tape, k.output.trans h.output, Nat.le_trans h.size k.size, fun i hi ha hn => (k.old i hi (Nat.lt_of_lt_of_le ha h.size) hn).trans (h.old i hi ha hn), fun i hi ha => ?_⟩
  rcases h.new i hi ha with h1 | ⟨o, o', h1, h2, h3, h4⟩
  · rcases k.new i hi (Nat.lt_of_lt_of_le ha h.size) with k1 | ⟨q, q', k1, k2, k3, k4⟩
    · exact .inl (k1.trans h1)
    · exact .inr ⟨q, q', h1.symm.trans k1, k2, k3, k4⟩
  · rcases k.new i hi (Nat.lt_of_lt_of_le ha h.size) with k1 | ⟨q, q', k1, k2, k3, k4⟩
    · exact .inr ⟨o, o', h1, k1.trans h2, h3, h4⟩
    · exact .inr ⟨o, q', h1, k2, h3, k4⟩
theorem ChgT.of {n : Nat} {L B : List Nat} {TO : Obj → Prop} {a b : World} (h : Chg B a b) (hB : ∀ x ∈ B, x ∈ L ∧ x < n) : ChgT n L TO a b :=
  ⟨h.os, h.tape, h.output, h.size, fun k _ ha hn => h.block k ha fun hb => hn (hB k hb).1, fun k hk ha => .inl (h.block k ha fun hb => by have := (hB k hb).2; omega)⟩
/-- One of the newer blocks has turned. -/
def Turn (n : Nat) (TO : Obj → Prop) (a b : World) : Prop := ∃ X o o', n ≤ X ∧ a.heap[X]? = some o ∧ b.heap[X]? = some o' ∧ TO o ∧ TO o' ∧ Chg [X] a b
theorem Turn.chgT {n : Nat} {L : List Nat} {TO : Obj → Prop} {a b : World} (h : Turn n TO a b) : ChgT n L TO a b := by
  obtain ⟨X, o, o', hX, h1, h2, h3, h4, hc⟩ := h
  refine ⟨hc.os, hc.tape, hc.output, hc.size, fun k hk ha _ => hc.block k ha (by simp; omega), fun k hk ha => ?_⟩
  by_cases e : k = X
  · subst e; exact .inr ⟨o, o', h1, h2, h3, h4⟩
  · exact .inl (hc.block k ha (by simpa using e))
theorem ChgT.chg {n : Nat} {L : List Nat} {TO : Obj → Prop} {a b : World} (h : ChgT n L TO a b) (hn : n = a.heap.size) : Chg L a b :=
  ⟨h.os, h.tape, h.output, h.size, fun k hk hm => h.old k (by omega) hk hm⟩
/-- A pointer to a newer block of a kind. -/
def PtB (n : Nat) (TO : Obj → Prop) (v : Value) (w : World) : Prop := ∃ b, v = .pointer (some ⟨b, 0, none⟩) ∧ n ≤ b ∧ ∃ o, w.heap[b]? = some o ∧ TO o
theorem PtB.chgT {n : Nat} {L : List Nat} {TO : Obj → Prop} {v : Value} {w w' : World} (h : PtB n TO v w) (hc : ChgT n L TO w w') : PtB n TO v w' := by
  obtain ⟨b, h1, h2, o, h3, h4⟩ := h
  rcases hc.new b h2 (lt_blk h3) with k1 | ⟨q, q', k1, k2, k3, k4⟩
  · exact ⟨b, h1, h2, o, k1.trans h3, h4⟩
  · exact ⟨b, h1, h2, q', k2, k4⟩
theorem IntArr.chgT {n : Nat} {L : List Nat} {TO : Obj → Prop} {w w' : World} {b k : Nat} {lo hi : Int} (h : IntArr w b k lo hi) (hc : ChgT n L TO w w') (hb : n ≤ b) (hT : ∀ arr fr, ¬ TO (.cells arr 3 fr)) : IntArr w' b k lo hi := by
  obtain ⟨arr, h1, h2⟩ := h
  rcases hc.new b hb (lt_blk h1) with k1 | ⟨q, q', k1, k2, k3, k4⟩
  · exact ⟨arr, k1.trans h1, h2⟩
  · rw [h1] at k1
    obtain rfl := Option.some.inj k1
    exact (hT _ _ k3).elim
theorem MkI.chgT {W n : Nat} {L : List Nat} {TO : Obj → Prop} {lo hi : Int} {v : Value} {w w' : World} (h : MkI W n lo hi v w) (hc : ChgT W L TO w w') (hT : ∀ arr fr, ¬ TO (.cells arr 3 fr)) : MkI W n lo hi v w' := by
  obtain ⟨b, h1, h2, h3⟩ := h
  exact ⟨b, h1, h2, h3.chgT hc h2 hT⟩
theorem PtI.chgT {W n : Nat} {L : List Nat} {TO : Obj → Prop} {lo hi : Int} {v : Value} {w w' : World} (h : PtI W n lo hi v w) (hc : ChgT W L TO w w') (hT : ∀ arr fr, ¬ TO (.cells arr 3 fr)) : PtI W n lo hi v w' := by
  obtain ⟨b, k, h1, h0, h2, h3⟩ := h
  exact ⟨b, k, h1, h0, h2, h3.chgT hc h2 hT⟩
/-- Blocks, and what is known of each. -/
def Held (Rs : List (Nat × (Obj → Prop))) (w : World) : Prop := ∀ q ∈ Rs, ∃ o, w.heap[q.1]? = some o ∧ q.2 o
theorem Held.at {Rs : List (Nat × (Obj → Prop))} {w : World} (h : Held Rs w) {k : Nat} {P : Obj → Prop} (hm : (k, P) ∈ Rs) : ∃ o, w.heap[k]? = some o ∧ P o := h (k, P) hm
theorem Held.nil {w : World} : Held [] w := fun _ h => by cases h
theorem Held.cons {Rs : List (Nat × (Obj → Prop))} {w : World} {k : Nat} {P : Obj → Prop} {o : Obj} (h : w.heap[k]? = some o) (hp : P o) (hr : Held Rs w) : Held ((k, P) :: Rs) w := fun q hq => by
  rcases List.mem_cons.1 hq with rfl | hq
  · exact ⟨o, h, hp⟩
  · exact hr q hq
theorem Held.chg {Rs : List (Nat × (Obj → Prop))} {w w' : World} {B : List Nat} (h : Held Rs w) (hc : Chg B w w') (hB : ∀ k ∈ Rs.map Prod.fst, k ∉ B) : Held Rs w' := fun q hq => by
  obtain ⟨o, h1, h2⟩ := h q hq
  exact ⟨o, (hc.block q.1 (lt_blk h1) (hB q.1 (List.mem_map.2 ⟨q, hq, rfl⟩))).trans h1, h2⟩
theorem Held.of {Rs : List (Nat × (Obj → Prop))} {w w' : World} (h : Held Rs w) (hE : Ext w w') : Held Rs w' := h.chg (Chg.of_ext hE []) (by simp)
theorem Held.drw {Rs : List (Nat × (Obj → Prop))} {w : World} (h : Held Rs w) : Held Rs w.drew := h
/-- A block among them was stored into. -/
theorem Held.put {Rs : List (Nat × (Obj → Prop))} {w w' : World} {R : Nat} {o : Obj} (h : Held Rs w) (hc : Chg [R] w w') (ho : w'.heap[R]? = some o) (hP : ∀ q ∈ Rs, q.1 = R → q.2 o) : Held Rs w' := fun q hq => by
  obtain ⟨o1, h1, h2⟩ := h q hq
  by_cases e : q.1 = R
  · exact ⟨o, by rw [e]; exact ho, hP q hq e⟩
  · exact ⟨o1, (hc.block q.1 (lt_blk h1) (by simpa using e)).trans h1, h2⟩
/-- What is known of one block. -/
def BlkP (R : Nat) (P : Obj → Prop) (w : World) : Prop := ∃ o, w.heap[R]? = some o ∧ P o
theorem BlkP.chg {R : Nat} {P : Obj → Prop} {w w' : World} {B : List Nat} (h : BlkP R P w) (hc : Chg B w w') (hR : R ∉ B) : BlkP R P w' := by
  obtain ⟨o, h1, h2⟩ := h
  exact ⟨o, (hc.block R (lt_blk h1) hR).trans h1, h2⟩
theorem BlkP.turn {R n : Nat} {P TO : Obj → Prop} {w w' : World} (h : BlkP R P w) (hc : Turn n TO w w') (hR : R < n) : BlkP R P w' := by
  obtain ⟨X, o, o', hX, h1, h2, h3, h4, hc⟩ := hc
  exact h.chg hc (by simp; omega)
def oMp (x : Mp) : Obj := .cells #[.int .i64 x.c, .int .i64 x.w] 24 (0, 0)
def oWlk (x : Wlk) : Obj := .cells #[.int .i64 x.id, .int .i64 x.at_, .int .i64 x.coins, .int .i64 x.seq, .int .i64 x.last] 52 (0, 0)
def IsWlk (o : Obj) : Prop := ∃ x, o = oWlk x
def IsMp (o : Obj) : Prop := ∃ x, o = oMp x
def oPcl (x : Pcl) : Obj := .cells #[.int .i64 x.n, .int .i64 x.kind, .int .i64 x.wk.id, .int .i64 x.wk.at_, .int .i64 x.wk.coins, .int .i64 x.wk.seq, .int .i64 x.wk.last, .int .i64 x.coins] 91 (0, 0)
def IsPcl (o : Obj) : Prop := ∃ x, o = oPcl x
theorem noInt_Pcl (arr : Array Value) (fr : Nat × Nat) : ¬ IsPcl (.cells arr 3 fr) := fun ⟨x, h⟩ => by
  simp only [oPcl, Obj.cells.injEq] at h
  exact absurd h.2.1 (by decide)
theorem noInt_none (arr : Array Value) (fr : Nat × Nat) : ¬ (fun _ : Obj => False) (.cells arr 3 fr) := id
end Go.Proofs.Ytbbpipbemhggdaa
