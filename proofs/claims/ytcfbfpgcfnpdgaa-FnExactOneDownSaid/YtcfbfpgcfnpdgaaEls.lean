/- Rows of slices that own memory: what they own, and how they grow. -/
import Derived.Test.YtcfbfpgcfnpdgaaSS
import Derived.Test.YtcfbfpgcfnpdgaaArbN
namespace Go.Proofs.Ytcfbfpgcfnpdgaa
open Go.RowKit
set_option linter.unusedSimpArgs false
set_option linter.unusedVariables false

/-- A slice's value. -/
structure SlV where
  a : Option Addr
  n : Nat
  c : Nat
def SlV.cells (v : SlV) : List Value := [.slice v.a v.n v.c]
theorem slv_one (x : SlV) : ∀ u ∈ x.cells, u.oneCell' = true := by
  intro u hu
  simp only [SlV.cells, List.mem_singleton] at hu
  subst hu; rfl
/-- An element appended; only the row's own block may change. -/
theorem wp_appRZ {α : Type} {cells : α → List Value} {k bytes : Nat} {z : Value} {TS T : TypeId} (hT : Try.prog.underlying TS = some (.slice T)) (hI : (Try.prog.info? T).map (fun i => (i.zero, i.size, i.bytes)) = some (some z, k, bytes)) (hz : z.cells.size = k) (hpos : 0 < k) (hby : bytes ≤ 1024)
    (hcl : ∀ x, (cells x).length = k) (hone : ∀ x, ∀ u ∈ cells x, u.oneCell' = true)
    {o : Oper} {a : Act} {K : Act → World → Prop} {Q : Exit → Act → World → Prop} {w : World} (base : Nat) (s x : Operand) (ho : o.op = .call { callee := .builtin .append, args := #[s, x], argTypes := #[TS, TS] })
    {v : Value} {xs : List α} (hs : a.eval s = v) (hb : base ≤ w.heap.size) (hown : w.ownsRow base T k v xs.length (xs.flatMap cells)) (y : α) {b c : Nat} {T' : TypeId} (hx : a.eval x = .slice (some ⟨b, 0, none⟩) 1 c) (hy : w.heap[b]? = some (.cells (cells y).toArray T' (0, 0))) (hn : xs.length ≤ 4194304)
    (h : ∀ v' w', w'.ownsRow base T k v' (xs ++ [y]).length ((xs ++ [y]).flatMap cells) → Chg v.ownBlock.toList w w' → (v'.ownBlock = v.ownBlock ∨ v'.ownBlock = some w.heap.size) → K (a.put o.dst v') w') : o.wp Try.prog a w K Q := by
  cases hi : Try.prog.info? T with
  | none => rw [hi] at hI; cases hI
  | some i =>
    rw [hi] at hI
    simp only [Option.map_some, Option.some.injEq, Prod.mk.injEq] at hI
    obtain ⟨i1, i2, i3⟩ := hI
    obtain ⟨v', w', hr, h1, h2, _, h4⟩ := run_append_own_at (P := Try.prog) w base TS o.type T i z k bytes hT hi i1 i2 i3 hz hpos v xs.length (xs.flatMap cells) hown ⟨b, 0, none⟩ 1 c (cells y) (by rw [hcl, Nat.one_mul]) (by
      intro j u hu
      rw [ld_add, Nat.zero_add, cell_blk hy]
      simpa using hu) (hone y) (by simp only [maxLen]; omega) (by
      calc (xs.length + 1) * bytes ≤ (xs.length + 1) * 1024 := Nat.mul_le_mul_left _ hby
        _ ≤ 140737488355328 := by omega) hb
    unfold Oper.wp execOp
    simp only [ho, resolve, invoke, builtin, Sem.run_bind, Sem.run_pure, Result.andThen_ok, List.map_toArray, List.map_cons, List.map_nil, hs, hx, hr]
    refine h v' w' ?_ ⟨h2.os, h2.tape, h2.output, h2.size, fun k hk hn => h2.block k hk (fun e => hn (by first | (rw [e]; simp; done) | (rw [← e]; simp; done)))⟩ h4
    rw [List.length_append, List.length_singleton, List.flatMap_append, List.flatMap_singleton]
    exact h1
theorem wp_appRZ_IntS {o : Oper} {a : Act} {K : Act → World → Prop} {Q : Exit → Act → World → Prop} {w : World} (base : Nat) (s x : Operand) (ho : o.op = .call { callee := .builtin .append, args := #[s, x], argTypes := #[38, 38] })
    {v : Value} {xs : List SlV} (hs : a.eval s = v) (hb : base ≤ w.heap.size) (hown : w.ownsRow base 24 1 v xs.length (xs.flatMap SlV.cells)) (y : SlV) {b c : Nat} {T' : TypeId} (hx : a.eval x = .slice (some ⟨b, 0, none⟩) 1 c) (hy : w.heap[b]? = some (.cells (SlV.cells y).toArray T' (0, 0))) (hn : xs.length ≤ 4194304)
    (h : ∀ v' w', w'.ownsRow base 24 1 v' (xs ++ [y]).length ((xs ++ [y]).flatMap SlV.cells) → Chg v.ownBlock.toList w w' → (v'.ownBlock = v.ownBlock ∨ v'.ownBlock = some w.heap.size) → K (a.put o.dst v') w') : o.wp Try.prog a w K Q :=
  wp_appRZ (cells := SlV.cells) (k := 1) (bytes := 24) (z := .slice none 0 0) Try.underlying38 (by kernel_rfl) rfl (by decide) (by decide) (fun _ => rfl) slv_one base s x ho hs hb hown y hx hy hn h

section
variable {α : Type} {sch : Sch} {dat : α → Dat}
/-- The slices es own the blocks B, each on its own, and read as xss. -/
def ElsOwn (sch : Sch) (dat : α → Dat) (lo : Nat) (w : World) (es : List SlV) (xss : List (List α)) (B : List Nat) : Prop :=
  ∃ Bs : List (List Nat), Bs.length = es.length ∧ es.length = xss.length ∧ B = Bs.flatten ∧ B.Nodup ∧ (∀ b ∈ B, lo ≤ b ∧ b < w.heap.size) ∧ ∀ (i : Nat) (e : SlV) (xs : List α), es[i]? = some e → xss[i]? = some xs → ∃ Bi : List Nat, Bs[i]? = some Bi ∧ Own w (.sl sch) (SlV.cells e) (ldat dat xs) Bi
theorem ElsOwn.nil (lo : Nat) (w : World) : ElsOwn sch dat lo w [] [] [] := ⟨[], rfl, rfl, rfl, by simp, by simp, fun i e xs h => by simp at h⟩
theorem ElsOwn.len {lo : Nat} {w : World} {es : List SlV} {xss : List (List α)} {B : List Nat} (h : ElsOwn sch dat lo w es xss B) : es.length = xss.length := by
  obtain ⟨_, _, h, _⟩ := h; exact h
theorem ElsOwn.nodup {lo : Nat} {w : World} {es : List SlV} {xss : List (List α)} {B : List Nat} (h : ElsOwn sch dat lo w es xss B) : B.Nodup := by
  obtain ⟨_, _, _, _, h, _⟩ := h; exact h
theorem ElsOwn.rng {lo : Nat} {w : World} {es : List SlV} {xss : List (List α)} {B : List Nat} (h : ElsOwn sch dat lo w es xss B) : ∀ b ∈ B, lo ≤ b ∧ b < w.heap.size := by
  obtain ⟨_, _, _, _, _, h, _⟩ := h; exact h
theorem ElsOwn.chg {lo : Nat} {w w' : World} {es : List SlV} {xss : List (List α)} {B B' : List Nat} (h : ElsOwn sch dat lo w es xss B) (hc : Chg B' w w') (hd : ∀ b ∈ B', b ∉ B) : ElsOwn sch dat lo w' es xss B := by
  obtain ⟨Bs, h1, h2, rfl, h4, h5, h6⟩ := h
  refine ⟨Bs, h1, h2, rfl, h4, fun b hb => ⟨(h5 b hb).1, Nat.lt_of_lt_of_le (h5 b hb).2 hc.size⟩, fun i e xs he hx => ?_⟩
  obtain ⟨Bi, hB, ho⟩ := h6 i e xs he hx
  have hin : ∀ b ∈ Bi, b ∈ Bs.flatten := fun b hb => List.mem_flatten.2 ⟨Bi, List.mem_of_getElem? hB, hb⟩
  exact ⟨Bi, hB, ho.chg hc (fun b hb => (h5 b (hin b hb)).2) (fun b hb hb' => hd b hb' (hin b hb))⟩
theorem ElsOwn.of {lo : Nat} {w w' : World} {es : List SlV} {xss : List (List α)} {B : List Nat} (h : ElsOwn sch dat lo w es xss B) (hE : Ext w w') : ElsOwn sch dat lo w' es xss B := h.chg (Chg.of_ext hE []) (by simp)
theorem ElsOwn.snoc {lo lo' hi : Nat} {w : World} {es : List SlV} {xss : List (List α)} {B : List Nat} {p : Option Addr} {n c : Nat} {xs : List α} (h : ElsOwn sch dat lo w es xss B) (ho : OwnR lo' hi w (.sl sch) [.slice p n c] (.l (xs.map dat))) (hl : lo ≤ lo') (hB : ∀ b ∈ B, b < lo') :
    ∃ B1, (∀ b ∈ B1, lo' ≤ b ∧ b < hi) ∧ ElsOwn sch dat lo w (es ++ [⟨p, n, c⟩]) (xss ++ [xs]) (B ++ B1) := by
  obtain ⟨Bs, h1, h2, rfl, h4, h5, h6⟩ := h
  obtain ⟨hh, B1, k1, k2, k3⟩ := ho
  refine ⟨B1, k2, Bs ++ [B1], by simp [h1], by simp [h2], by simp, List.nodup_append.2 ⟨h4, k1, fun a ha b hb e => ?_⟩, fun b hb => ?_, fun i e ys he hy => ?_⟩
  · have := hB a ha; have := k2 b hb; omega
  · rcases List.mem_append.1 hb with hb | hb
    · exact h5 b hb
    · have := k2 b hb; omega
  · rcases Nat.lt_or_ge i es.length with hi' | hi'
    · rw [List.getElem?_append_left hi'] at he
      rw [List.getElem?_append_left (by omega)] at hy
      obtain ⟨Bi, g1, g2⟩ := h6 i e ys he hy
      exact ⟨Bi, by rw [List.getElem?_append_left (by omega)]; exact g1, g2⟩
    · have hi2 : i = es.length := by
        have := (List.getElem?_eq_some_iff.1 he).1
        simp at this; omega
      subst hi2
      rw [List.getElem?_append_right (by omega), Nat.sub_self] at he
      rw [List.getElem?_append_right (by omega), h2, Nat.sub_self] at hy
      simp only [List.getElem?_cons_zero, Option.some.injEq] at he hy
      subst he hy
      exact ⟨B1, by rw [List.getElem?_append_right (by omega), h1, Nat.sub_self]; rfl, k3⟩
theorem els_step {lo lo' hi : Nat} {wr wA w1 w2 : World} {es : List SlV} {xss : List (List α)} {B : List Nat} {p : Option Addr} {n c : Nat} {xs : List α} {v v' : Value} (h : ElsOwn sch dat lo wr es xss B) (ho : OwnR lo' hi wA (.sl sch) [.slice p n c] (.l (xs.map dat))) (hE1 : Ext wr w1) (hE2 : Ext wA w1)
    (hc : Chg v.ownBlock.toList w1 w2) (hat : v'.ownBlock = v.ownBlock ∨ v'.ownBlock = some w1.heap.size) (hdis : ∀ g, v.ownBlock = some g → g ∉ B) (hlt : ∀ g, v.ownBlock = some g → g < lo') (hl : lo ≤ lo') (hB : wr.heap.size ≤ lo') :
    ∃ B', ElsOwn sch dat lo w2 (es ++ [⟨p, n, c⟩]) (xss ++ [xs]) B' ∧ ∀ g, v'.ownBlock = some g → g ∉ B' := by
  have hBr := h.rng
  obtain ⟨B1, hB1, h1⟩ := ElsOwn.snoc (h.of hE1) (ho.of hE2) hl (fun b hb => by have := hBr b hb; omega)
  have hh : hi ≤ w1.heap.size := (ho.of hE2).1
  refine ⟨B ++ B1, h1.chg hc (fun b hb => ?_), fun g hg hm => ?_⟩
  · have hb' : v.ownBlock = some b := by simpa using hb
    intro hm
    rcases List.mem_append.1 hm with hm | hm
    · exact hdis b hb' hm
    · have := hB1 b hm; have := hlt b hb'; omega
  · rcases hat with hat | hat
    · rw [hat] at hg
      rcases List.mem_append.1 hm with hm | hm
      · exact hdis g hg hm
      · have := hB1 g hm; have := hlt g hg; omega
    · rw [hat] at hg
      obtain rfl := Option.some.inj hg
      have := h1.rng _ hm; omega
theorem flatMap_slv (es : List SlV) (i : Nat) : (es.flatMap SlV.cells)[i]? = (es[i]?).map (fun v => .slice v.a v.n v.c) := by
  have : es.flatMap SlV.cells = es.map (fun v => .slice v.a v.n v.c) := by
    induction es with
    | nil => rfl
    | cons e es ih => simp [SlV.cells] at ih ⊢; exact ih
  rw [this, List.getElem?_map]
/-- The row and what its slices own. -/
theorem els_own {lo base : Nat} {w : World} {es : List SlV} {xss : List (List α)} {B : List Nat} {T : TypeId} {a : Option Addr} {n c : Nat} (h : ElsOwn sch dat lo w es xss B) (hr : w.ownsRow base T 1 (.slice a n c) es.length (es.flatMap SlV.cells)) :
    n = xss.length ∧ Own w (.sl (.sl sch)) [.slice a n c] (.l (xss.map (ldat dat))) ((Value.slice a n c).ownBlock.toList ++ B) := by
  obtain ⟨Bs, h1, h2, rfl, h4, h5, h6⟩ := h
  obtain ⟨hl, ⟨hv, h0⟩ | ⟨g, cap, cur, hv, hg, hb, hc, hcm, hcs, ht⟩⟩ := hr
  · obtain ⟨rfl, rfl, rfl⟩ := Value.slice.inj hv
    have hx : xss = [] := List.eq_nil_of_length_eq_zero (by omega)
    have hb : Bs = [] := List.eq_nil_of_length_eq_zero (by omega)
    subst hx hb
    refine ⟨rfl, ?_⟩
    unfold Own
    exact ⟨[], rfl, Nat.zero_le _, .inl ⟨rfl, rfl, none, 0, rfl⟩⟩
  · obtain ⟨rfl, hn, rfl⟩ := Value.slice.inj hv
    refine ⟨by omega, ?_⟩
    unfold Own
    refine ⟨_, rfl, by rw [List.length_map]; omega, .inr ⟨g, c, cur, T, Bs, by rw [List.length_map, hn, h2], rfl, by rw [List.length_map]; omega, hb, fun i x hx => ?_⟩⟩
    rw [List.getElem?_map] at hx
    cases hy : xss[i]? with
    | none => rw [hy] at hx; cases hx
    | some xs =>
      rw [hy] at hx
      obtain rfl := Option.some.inj hx
      have hlt : i < es.length := by have := (List.getElem?_eq_some_iff.1 hy).1; omega
      obtain ⟨Bi, g1, g2⟩ := h6 i es[i] xs (List.getElem?_eq_getElem hlt) hy
      refine ⟨SlV.cells es[i], Bi, g1, fun j v hv => ?_, g2⟩
      have hj : j = 0 := by
        have := (List.getElem?_eq_some_iff.1 hv).1
        simp [SlV.cells] at this; exact this
      subst hj
      have e1 : (es.flatMap SlV.cells)[i]? = some v := by
        rw [flatMap_slv, List.getElem?_eq_getElem hlt]
        simpa [SlV.cells] using hv
      rw [← ht, List.getElem?_take, if_pos (by omega)] at e1
      simpa [Sch.size] using e1
end
end Go.Proofs.Ytcfbfpgcfnpdgaa
