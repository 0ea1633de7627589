/- Appending to a row of one's own in whatever world; what is in a struct's slice that grows. -/
import Derived.Test.YtbbpipbemhggdaaSegN
namespace Go.Proofs.Ytbbpipbemhggdaa
open Go.RowKit
set_option linter.unusedSimpArgs false
set_option linter.unusedVariables false

theorem Chg.frozen {B : List Nat} {w w' : World} (hc : Chg B w w') {b : Nat} (hb : b < w.heap.size) (hn : b ∉ B) (o : Nat) : w'.frozen? ⟨b, o, none⟩ = w.frozen? ⟨b, o, none⟩ := by
  simp [World.frozen?, hc.block b hb hn]
/-- What changes only blocks above does not count. -/
theorem Chg.up {B B' : List Nat} {b0 w w' : World} (h : Chg B b0 w) (k : Chg B' w w') (hB : ∀ b ∈ B', b0.heap.size ≤ b) : Chg B b0 w' :=
  ⟨k.os.trans h.os, k.tape.trans h.tape, k.output.trans h.output, Nat.le_trans h.size k.size, fun i hi hn => (k.block i (Nat.lt_of_lt_of_le hi h.size) (fun hb => by have := hB i hb; omega)).trans (h.block i hi hn)⟩
theorem ownsRow_chg {w w' : World} {base sz n : Nat} {T : TypeId} {v : Value} {xs : List Value} {B : List Nat} (h : w.ownsRow base T sz v n xs) (hc : Chg B w w') (hB : ∀ b ∈ B, b < base) : w'.ownsRow base T sz v n xs := by
  refine ⟨h.1, h.2.imp id fun ⟨g, cap, cur, h1, h2, h3, h4⟩ => ⟨g, cap, cur, h1, h2, ?_, h4⟩⟩
  rw [hc.block g (lt_blk h3) (fun hb => by have := hB g hb; omega)]
  exact h3
/-- The block that a row may be changed in. -/
theorem row_block (v : Value) (base s : Nat) {w : World} {e : TypeId} {size n : Nat} {xs : List Value} (h : w.ownsRow base e size v n xs) (hb : base ≤ w.heap.size) : ∃ R, (∀ g, v.ownBlock = some g → g = R) ∧ base ≤ R ∧ R ≠ w.heap.size := by
  rcases h.2 with ⟨rfl, _⟩ | ⟨g, cap, cur, rfl, hg, hh, _⟩
  · exact ⟨w.heap.size + 1, by simp [Value.ownBlock], by omega, by omega⟩
  · refine ⟨g, fun k hk => by simpa [Value.ownBlock] using hk.symm, hg, ?_⟩
    have := lt_blk hh; omega
theorem own_row {α : Type} {cells : α → List Value} {dat : α → Dat} {sch : Sch} {k : Nat} (hsz : sch.size = k) (hown : ∀ w x, Own w sch (cells x) (dat x) []) (hcl : ∀ x, (cells x).length = k) {w' : World} {base : Nat} {T : TypeId} {xs : List α} {v : Value}
    (hm : xs.length ≤ 9223372036854775807) (h : w'.ownsRow base T k v xs.length (xs.flatMap cells)) : ∃ a c, v = .slice a xs.length c ∧ OwnR base w'.heap.size w' (.sl sch) [.slice a xs.length c] (.l (xs.map dat)) := by
  obtain ⟨hl, ⟨rfl, h0⟩ | ⟨g, cap, cur, rfl, hg, hb, hc, hcm, hcs, ht⟩⟩ := h
  · have hx : xs = [] := List.eq_nil_of_length_eq_zero h0
    subst hx
    exact ⟨none, 0, rfl, Nat.le_refl _, [], by simp, by simp, own_flat_mk (xs := []) (k := k) hsz hown (Nat.zero_le _) (.inl ⟨rfl, rfl⟩)⟩
  · refine ⟨_, _, rfl, Nat.le_refl _, [g], by simp, ?_, own_flat_mk hsz hown (by simpa [maxLen] using hm) (.inr ⟨g, cur, T, rfl, rfl, hb, ?_, ?_⟩)⟩
    · intro b hb'
      obtain rfl : b = g := by simpa using hb'
      exact ⟨hg, lt_blk hb⟩
    · rw [hcs]; exact Nat.mul_le_mul_right _ hc
    · intro i x hi hx j u hu
      have hj : j < k := by rw [← hcl x]; exact (List.getElem?_eq_some_iff.1 hu).1
      have e1 : (xs.flatMap cells)[i * k + j]? = some u := by
        clear hl ht hcs hc hi hm
        induction xs generalizing i with
        | nil => simp at hx
        | cons y ys ih =>
          rw [List.flatMap_cons]
          cases i with
          | zero =>
            obtain rfl : y = x := by simpa using hx
            rw [Nat.zero_mul, Nat.zero_add, List.getElem?_append_left (by rw [hcl]; exact hj)]
            exact hu
          | succ i =>
            rw [List.getElem?_append_right (by rw [hcl, Nat.add_mul]; omega), hcl, Nat.add_mul, show i * k + 1 * k + j - k = i * k + j by omega]
            exact ih i (by simpa using hx)
      have hlt : i * k + j < xs.length * k := by
        have : (i + 1) * k ≤ xs.length * k := Nat.mul_le_mul_right _ hi
        rw [Nat.add_mul, Nat.one_mul] at this
        omega
      rw [← ht, List.getElem?_take, if_pos hlt] at e1
      simpa using e1
theorem row_slice {w : World} {base sz n : Nat} {T : TypeId} {v : Value} {xs : List Value} (h : w.ownsRow base T sz v n xs) : ∃ a m c, v = .slice a m c := by
  rcases h.2 with ⟨rfl, _⟩ | ⟨g, cap, cur, rfl, _⟩
  · exact ⟨_, _, _, rfl⟩
  · exact ⟨_, _, _, rfl⟩
/-- An element appended. -/
theorem wp_appR {α : Type} {cells : α → List Value} {k bytes : Nat} {z : Value} {TS T : TypeId} (hT : Try.prog.underlying TS = some (.slice T)) (hI : (Try.prog.info? T).map (fun i => (i.zero, i.size, i.bytes)) = some (some z, k, bytes)) (hz : z.cells.size = k) (hpos : 0 < k) (hby : bytes ≤ 1024)
    (hcl : ∀ x, (cells x).length = k) (hone : ∀ x, ∀ u ∈ cells x, u.oneCell' = true)
    {o : Oper} {a : Act} {K : Act → World → Prop} {Q : Exit → Act → World → Prop} {w : World} (R base : Nat) (s x : Operand) (ho : o.op = .call { callee := .builtin .append, args := #[s, x], argTypes := #[TS, TS] })
    {v : Value} {xs : List α} (hs : a.eval s = v) (hb : base ≤ w.heap.size) (hown : w.ownsRow base T k v xs.length (xs.flatMap cells)) (hR : ∀ g, v.ownBlock = some g → g = R) (y : α) {b c : Nat} {T' : TypeId} (hx : a.eval x = .slice (some ⟨b, 0, none⟩) 1 c) (hy : w.heap[b]? = some (.cells (cells y).toArray T' (0, 0))) (hn : xs.length ≤ 4194304)
    (h : ∀ v' w', w'.ownsRow base T k v' (xs ++ [y]).length ((xs ++ [y]).flatMap cells) → Chg [R] w w' → K (a.put o.dst v') w') : o.wp Try.prog a w K Q := by
  cases hi : Try.prog.info? T with
  | none => rw [hi] at hI; cases hI
  | some i =>
    rw [hi] at hI
    simp only [Option.map_some, Option.some.injEq, Prod.mk.injEq] at hI
    obtain ⟨i1, i2, i3⟩ := hI
    refine wp_append_own_wide w s x TS ho base T i z k bytes hT hi i1 i2 i3 hz hpos v xs.length (xs.flatMap cells) hs hown ⟨b, 0, none⟩ 1 c (cells y) hx (by rw [hcl, Nat.one_mul]) ?_ (hone y) ?_ ?_ hb ?_
    · intro j u hu
      rw [ld_add, Nat.zero_add, cell_blk hy]
      simpa using hu
    · simp only [maxLen]; omega
    · calc (xs.length + 1 + (xs.length + 1) / 4 + 192) * bytes ≤ (xs.length + 1 + (xs.length + 1) / 4 + 192) * 1024 := Nat.mul_le_mul_left _ hby
        _ ≤ 281474976710656 := by omega
    · intro v' w' h1 h2 _
      refine h v' w' ?_ ⟨h2.os, h2.tape, h2.output, h2.size, fun k hk hn => h2.block k hk (fun e => hn (by rw [hR k (by first | exact e | exact e.symm)]; simp))⟩
      rw [List.length_append, List.length_singleton, List.flatMap_append, List.flatMap_singleton]
      exact h1
end Go.Proofs.Ytbbpipbemhggdaa
