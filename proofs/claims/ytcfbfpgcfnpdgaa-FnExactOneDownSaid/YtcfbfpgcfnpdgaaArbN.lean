/- ArbNew: a table in which nobody has a cell. -/
import Derived.Test.YtcfbfpgcfnpdgaaArbH
import Derived.Test.YtcfbfpgcfnpdgaaApp
import Derived.Test.YtcfbfpgcfnpdgaaGwyB
import Derived.Maps.AppendAt
namespace Go.Proofs.Ytcfbfpgcfnpdgaa
open Go.RowKit
set_option linter.unusedSimpArgs false
set_option linter.unusedVariables false

/-- An element appended, and where the row lies then. -/
theorem wp_appRX {α : Type} {cells : α → List Value} {k bytes : Nat} {z : Value} {TS T : TypeId} (hT : Try.prog.underlying TS = some (.slice T)) (hI : (Try.prog.info? T).map (fun i => (i.zero, i.size, i.bytes)) = some (some z, k, bytes)) (hz : z.cells.size = k) (hpos : 0 < k) (hby : bytes ≤ 1024)
    (hcl : ∀ x, (cells x).length = k) (hone : ∀ x, ∀ u ∈ cells x, u.oneCell' = true)
    {o : Oper} {a : Act} {K : Act → World → Prop} {Q : Exit → Act → World → Prop} {w : World} (R base : Nat) (s x : Operand) (ho : o.op = .call { callee := .builtin .append, args := #[s, x], argTypes := #[TS, TS] })
    {v : Value} {xs : List α} (hs : a.eval s = v) (hb : base ≤ w.heap.size) (hown : w.ownsRow base T k v xs.length (xs.flatMap cells)) (hR : ∀ g, v.ownBlock = some g → g = R) (y : α) {b c : Nat} {T' : TypeId} (hx : a.eval x = .slice (some ⟨b, 0, none⟩) 1 c) (hy : w.heap[b]? = some (.cells (cells y).toArray T' (0, 0))) (hn : xs.length ≤ 4194304)
    (h : ∀ v' w', w'.ownsRow base T k v' (xs ++ [y]).length ((xs ++ [y]).flatMap cells) → Chg [R] w w' → (v'.ownBlock = v.ownBlock ∨ v'.ownBlock = some w.heap.size) → K (a.put o.dst v') w') : o.wp Try.prog a w K Q := by
  cases hi : Try.prog.info? T with
  | none => rw [hi] at hI; cases hI
  | some i =>
    rw [hi] at hI
    simp only [Option.map_some, Option.some.injEq, Prod.mk.injEq] at hI
    obtain ⟨i1, i2, i3⟩ := hI
    obtain ⟨v', w', hr, h1, h2, _, h4⟩ := run_append_own_at (P := Try.prog) w base TS o.type T i z k bytes hT hi i1 i2 i3 hz hpos v xs.length (xs.flatMap cells) hown ⟨b, 0, none⟩ 1 c (cells y) (by rw [hcl, Nat.one_mul]) (by
      intro j u hu
      rw [ld_add, Nat.zero_add, cell_blk hy]
      simpa using hu) (hone y) (by simp only [maxLen]; omega) (by
      calc (xs.length + 1) * bytes ≤ (xs.length + 1) * 1024 := Nat.mul_le_mul_left _ hby
        _ ≤ 140737488355328 := by omega) hb
    unfold Oper.wp execOp
    simp only [ho, resolve, invoke, builtin, Sem.run_bind, Sem.run_pure, Result.andThen_ok, List.map_toArray, List.map_cons, List.map_nil, hs, hx, hr]
    refine h v' w' ?_ ⟨h2.os, h2.tape, h2.output, h2.size, fun k hk hn => h2.block k hk (fun e => hn (by rw [hR k (by first | exact e | exact e.symm)]; simp))⟩ h4
    rw [List.length_append, List.length_singleton, List.flatMap_append, List.flatMap_singleton]
    exact h1
theorem wp_appRX_Int {o : Oper} {a : Act} {K : Act → World → Prop} {Q : Exit → Act → World → Prop} {w : World} (R base : Nat) (s x : Operand) (ho : o.op = .call { callee := .builtin .append, args := #[s, x], argTypes := #[24, 24] })
    {v : Value} {xs : List Int} (hs : a.eval s = v) (hb : base ≤ w.heap.size) (hown : w.ownsRow base 3 1 v xs.length (xs.flatMap icells)) (hR : ∀ g, v.ownBlock = some g → g = R) (y : Int) {b c : Nat} {T' : TypeId} (hx : a.eval x = .slice (some ⟨b, 0, none⟩) 1 c) (hy : w.heap[b]? = some (.cells (icells y).toArray T' (0, 0))) (hn : xs.length ≤ 4194304)
    (h : ∀ v' w', w'.ownsRow base 3 1 v' (xs ++ [y]).length ((xs ++ [y]).flatMap icells) → Chg [R] w w' → (v'.ownBlock = v.ownBlock ∨ v'.ownBlock = some w.heap.size) → K (a.put o.dst v') w') : o.wp Try.prog a w K Q :=
  wp_appRX (cells := icells) (k := 1) (bytes := 8) (z := .int .i64 0) Try.underlying24 (by kernel_rfl) rfl (by decide) (by decide) (fun _ => rfl) ione R base s x ho hs hb hown hR y hx hy hn h

theorem wpList_appRX_Int {ops : Array Oper} {rest : List Oper} {o : Oper} {a : Act} {Q : Exit → Act → World → Prop} {w : World} (hgd : o.guard = none) (R base : Nat) (s x : Operand) (ho : o.op = .call { callee := .builtin .append, args := #[s, x], argTypes := #[24, 24] })
    {v : Value} {xs : List Int} (hs : a.eval s = v) (hb : base ≤ w.heap.size) (hown : w.ownsRow base 3 1 v xs.length (xs.flatMap icells)) (hR : ∀ g, v.ownBlock = some g → g = R) (y : Int) {b c : Nat} {T' : TypeId} (hx : a.eval x = .slice (some ⟨b, 0, none⟩) 1 c) (hy : w.heap[b]? = some (.cells (icells y).toArray T' (0, 0))) (hn : xs.length ≤ 4194304)
    (h : ∀ v' w', w'.ownsRow base 3 1 v' (xs ++ [y]).length ((xs ++ [y]).flatMap icells) → Chg [R] w w' → (v'.ownBlock = v.ownBlock ∨ v'.ownBlock = some w.heap.size) → wpList Try.prog ops Q rest (a.put o.dst v') w') : wpList Try.prog ops Q (o :: rest) a w :=
  wpList_plain hgd fun K hK => wp_appRX_Int R base s x ho hs hb hown hR y hx hy hn fun v' w' h1 h2 h3 => hK _ _ (h v' w' h1 h2 h3)

/-- A row whose block is not B's stays. -/
theorem ownsRow_off {w w' : World} {base sz n : Nat} {T : TypeId} {v : Value} {xs : List Value} {B : List Nat} (h : w.ownsRow base T sz v n xs) (hc : Chg B w w') (hB : ∀ g, v.ownBlock = some g → g ∉ B) : w'.ownsRow base T sz v n xs := by
  refine ⟨h.1, h.2.imp id fun ⟨g, cap, cur, h1, h2, h3, h4⟩ => ⟨g, cap, cur, h1, h2, ?_, h4⟩⟩
  rw [hc.block g (lt_blk h3) (hB g (by rw [h1]; rfl))]
  exact h3
theorem row_lt {w : World} {base sz n : Nat} {T : TypeId} {v : Value} {xs : List Value} (h : w.ownsRow base T sz v n xs) : ∀ g, v.ownBlock = some g → base ≤ g ∧ g < w.heap.size := by
  intro g hg
  rcases h.2 with ⟨rfl, _⟩ | ⟨g', cap, cur, rfl, h2, h3, _⟩
  · simp [Value.ownBlock] at hg
  · obtain rfl : g' = g := by simpa [Value.ownBlock] using hg
    exact ⟨h2, lt_blk h3⟩
/-- The block that a row may be changed in, beside another row. -/
theorem row_block2 {w : World} {base s1 s2 n1 n2 : Nat} {e1 e2 : TypeId} {xs1 xs2 : List Value} (v u : Value) (h : w.ownsRow base e1 s1 v n1 xs1) (k : w.ownsRow base e2 s2 u n2 xs2) (hd : ∀ g, v.ownBlock = some g → u.ownBlock ≠ some g) (hb : base ≤ w.heap.size) :
    ∃ R, (∀ g, v.ownBlock = some g → g = R) ∧ base ≤ R ∧ R ≠ w.heap.size ∧ (∀ g, u.ownBlock = some g → g ≠ R) := by
  cases hv : v.ownBlock with
  | none => exact ⟨w.heap.size + 1, by simp, by omega, by omega, fun g hg => by have := (row_lt k g hg).2; omega⟩
  | some r =>
    refine ⟨r, fun g hg => by simpa using hg.symm, (row_lt h r hv).1, by have := (row_lt h r hv).2; omega, fun g hg e => ?_⟩
    subst e
    exact hd _ hv hg
theorem own_row' {α : Type} {cells : α → List Value} {dat : α → Dat} {sch : Sch} {k : Nat} (hsz : sch.size = k) (hown : ∀ w x, Own w sch (cells x) (dat x) []) (hcl : ∀ x, (cells x).length = k) {w' : World} {base : Nat} {T : TypeId} {xs : List α} {v : Value}
    (hm : xs.length ≤ 9223372036854775807) (h : w'.ownsRow base T k v xs.length (xs.flatMap cells)) : ∃ a c, v = .slice a xs.length c ∧ Own w' (.sl sch) [.slice a xs.length c] (.l (xs.map dat)) v.ownBlock.toList := by
  obtain ⟨hl, ⟨rfl, h0⟩ | ⟨g, cap, cur, rfl, hg, hb, hc, hcm, hcs, ht⟩⟩ := h
  · have hx : xs = [] := List.eq_nil_of_length_eq_zero h0
    subst hx
    exact ⟨none, 0, rfl, own_flat_mk (xs := []) (k := k) hsz hown (Nat.zero_le _) (.inl ⟨rfl, rfl⟩)⟩
  · refine ⟨_, _, rfl, own_flat_mk hsz hown (by simpa [maxLen] using hm) (.inr ⟨g, cur, T, rfl, rfl, hb, ?_, ?_⟩)⟩
    · rw [hcs]; exact Nat.mul_le_mul_right _ hc
    · intro i x hi hx j u hu
      have hj : j < k := by rw [← hcl x]; exact (List.getElem?_eq_some_iff.1 hu).1
      have e1 : (xs.flatMap cells)[i * k + j]? = some u := by
        clear hl ht hcs hc hi hm
        induction xs generalizing i with
        | nil => simp at hx
        | cons y ys ih =>
          rw [List.flatMap_cons]
          cases i with
          | zero =>
            obtain rfl : y = x := by simpa using hx
            rw [Nat.zero_mul, Nat.zero_add, List.getElem?_append_left (by rw [hcl]; exact hj)]
            exact hu
          | succ i =>
            rw [List.getElem?_append_right (by rw [hcl, Nat.add_mul]; omega), hcl, Nat.add_mul, show i * k + 1 * k + j - k = i * k + j by omega]
            exact ih i (by simpa using hx)
      have hlt : i * k + j < xs.length * k := by
        have : (i + 1) * k ≤ xs.length * k := Nat.mul_le_mul_right _ hi
        rw [Nat.add_mul, Nat.one_mul] at this
        omega
      rw [← ht, List.getElem?_take, if_pos hlt] at e1
      simpa using e1
theorem disj_new {v v' u : Value} {s : Nat} (h : v'.ownBlock = v.ownBlock ∨ v'.ownBlock = some s) (hd : ∀ g, v.ownBlock = some g → u.ownBlock ≠ some g) (hl : ∀ g, u.ownBlock = some g → g < s) : ∀ g, v'.ownBlock = some g → u.ownBlock ≠ some g := by
  intro g hg hu
  rcases h with h | h
  · exact hd g (h ▸ hg) hu
  · rw [h] at hg
    have := hl g hu
    have : s = g := by simpa using hg
    omega
/-- Two rows of one's own, in blocks apart. -/
theorem own_two {w : World} {base : Nat} {T : TypeId} {v0 v1 : Value} {xs0 xs1 : List Int} (h0 : w.ownsRow base T 1 v0 xs0.length (xs0.flatMap icells)) (h1 : w.ownsRow base T 1 v1 xs1.length (xs1.flatMap icells)) (hd : ∀ g, v0.ownBlock = some g → v1.ownBlock ≠ some g) (m0 : xs0.length ≤ 1048576) (m1 : xs1.length ≤ 1048576) :
    ∃ a0 c0 a1 c1, v0 = .slice a0 xs0.length c0 ∧ v1 = .slice a1 xs1.length c1 ∧ OwnR base w.heap.size w sArb [.slice a0 xs0.length c0, .slice a1 xs1.length c1] (arbDat xs0 xs1) := by
  have k0 := row_lt h0
  have k1 := row_lt h1
  obtain ⟨a0, c0, rfl, o0⟩ := own_row' (dat := Dat.i) (sch := .int) (k := 1) rfl (fun w x => own_Int_mk w x) (fun _ => rfl) (by omega) h0
  obtain ⟨a1, c1, rfl, o1⟩ := own_row' (dat := Dat.i) (sch := .int) (k := 1) rfl (fun w x => own_Int_mk w x) (fun _ => rfl) (by omega) h1
  refine ⟨a0, c0, a1, c1, rfl, rfl, Nat.le_refl _, _, ?_, ?_, own_Arb_of o0 o1⟩
  · rw [List.nodup_append]
    refine ⟨by cases (Value.slice a0 xs0.length c0).ownBlock <;> simp, by cases (Value.slice a1 xs1.length c1).ownBlock <;> simp, ?_⟩
    intro x hx y hy e
    subst e
    exact hd x (by simpa using hx) (by simpa using hy)
  · intro b hb
    rcases List.mem_append.1 hb with hb | hb
    · exact k0 b (by simpa using hb)
    · exact k1 b (by simpa using hb)

def anL (m : Mp) (x : Int) : List Int := if plcOk m then List.replicate m.c.toNat x else []
theorem anL_len (m : Mp) (x : Int) : (anL m x).length ≤ 4 := by
  unfold anL; split
  · rename_i h; have := plcOk_iff.1 h; simp; omega
  · simp

end Go.Proofs.Ytcfbfpgcfnpdgaa
