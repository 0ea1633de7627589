/- Rows of one's own that may be appended to: their block, their elements, elements overwritten, an element appended. -/
import Derived.Test.YtbbpipbemhggdaaAppZ
import Derived.Test.YtbbpipbemhggdaaTWlk
import Derived.Test.YtbbpipbemhggdaaTPcl
import Derived.Test.YtbbpipbemhggdaaTInt
namespace Go.Proofs.Ytbbpipbemhggdaa
open Go.RowKit
set_option linter.unusedSimpArgs false
set_option linter.unusedVariables false

/-- v is a slice of one's own with the elements xs, that may be appended to; B: its block. -/
def RowX {α : Type} (w : World) (T : TypeId) (k : Nat) (cells : α → List Value) (v : Value) (xs : List α) (B : List Nat) : Prop :=
  (xs = [] ∧ B = [] ∧ ∃ a, v = .slice a 0 0 ∧ (a = none ∨ ∃ g, a = some (⟨g, 0, none⟩ : Addr))) ∨
  ∃ g cap cur, v = .slice (some ⟨g, 0, none⟩) xs.length cap ∧ B = [g] ∧ w.heap[g]? = some (.cells cur T (0, 0)) ∧ xs.length ≤ cap ∧ cap ≤ maxLen ∧ cur.size = cap * k ∧ FillI cells k cur xs xs.length
section
variable {α : Type} {cells : α → List Value} {dat : α → Dat} {sch : Sch} {k : Nat} {T : TypeId} {w w' : World} {v : Value} {xs : List α} {B : List Nat}
theorem RowX.lt (h : RowX w T k cells v xs B) : ∀ b ∈ B, b < w.heap.size := by
  rcases h with ⟨_, rfl, _⟩ | ⟨g, cap, cur, _, rfl, hb, _⟩
  · simp
  · simpa using lt_blk hb
theorem RowX.slice (h : RowX w T k cells v xs B) : ∃ a c, v = .slice a xs.length c := by
  rcases h with ⟨rfl, rfl, a, rfl, _⟩ | ⟨g, cap, cur, rfl, _⟩
  · exact ⟨_, _, rfl⟩
  · exact ⟨_, _, rfl⟩
theorem RowX.len {a : Option Addr} {n c : Nat} (h : RowX w T k cells (.slice a n c) xs B) : n = xs.length := by
  obtain ⟨a', c', e⟩ := h.slice
  exact (Value.slice.inj e).2.1
theorem RowX.nodup (h : RowX w T k cells v xs B) : B.Nodup := by
  rcases h with ⟨_, rfl, _⟩ | ⟨g, cap, cur, _, rfl, _⟩ <;> simp
theorem RowX.same (h : RowX w T k cells v xs B) (hs : ∀ b ∈ B, w'.heap[b]? = w.heap[b]?) : RowX w' T k cells v xs B := by
  rcases h with h | ⟨g, cap, cur, h1, rfl, h2, h3⟩
  · exact .inl h
  · exact .inr ⟨g, cap, cur, h1, rfl, (hs g (by simp)).trans h2, h3⟩
theorem RowX.chg {B' : List Nat} (h : RowX w T k cells v xs B) (hc : Chg B' w w') (hd : ∀ b ∈ B, b ∉ B') : RowX w' T k cells v xs B :=
  h.same fun b hb => hc.block b (h.lt b hb) (hd b hb)
theorem RowX.of (h : RowX w T k cells v xs B) (hE : Ext w w') : RowX w' T k cells v xs B := h.same fun b hb => hE.block (h.lt b hb)
theorem RowX.max (h : RowX w T k cells v xs B) : xs.length ≤ maxLen := by
  rcases h with ⟨rfl, _⟩ | ⟨g, cap, cur, _, _, _, h1, h2, _⟩
  · exact Nat.zero_le _
  · exact Nat.le_trans h1 h2
theorem mul_row {n cap k : Nat} (h : n ≤ cap) : n * k ≤ cap * k := Nat.mul_le_mul_right _ h
theorem RowX.own (hsz : sch.size = k) (hown : ∀ w x, Own w sch (cells x) (dat x) []) (h : RowX w T k cells v xs B) : Own w (.sl sch) [v] (.l (xs.map dat)) B := by
  have hm := h.max
  rcases h with ⟨rfl, rfl, a, rfl, _⟩ | ⟨g, cap, cur, rfl, rfl, hb, h1, h2, hs, hf⟩
  · exact own_flat_mk (xs := []) (k := k) hsz hown (Nat.zero_le _) (.inl ⟨rfl, rfl⟩)
  · exact own_flat_mk hsz hown hm (.inr ⟨g, cur, T, rfl, rfl, hb, by rw [hs]; exact mul_row h1, hf⟩)
theorem fill_take (hcl : ∀ x, (cells x).length = k) {cur : Array Value} (hs : xs.length * k ≤ cur.size) (hf : FillI cells k cur xs xs.length) : cur.toList.take (xs.length * k) = xs.flatMap cells := by
  have hl : (xs.flatMap cells).length = xs.length * k := by
    rw [List.length_flatMap, List.map_congr_left (g := fun _ => k) (fun x _ => hcl x), List.map_const', List.sum_replicate_nat]
  apply List.ext_getElem?
  intro j
  by_cases hj : j < xs.length * k
  · obtain ⟨u, hu⟩ : ∃ u, (xs.flatMap cells)[j]? = some u := ⟨_, List.getElem?_eq_getElem (by omega)⟩
    rw [hu, List.getElem?_take, if_pos hj, Array.getElem?_toList]
    obtain ⟨i, r, x, rfl, hr, hx, hc⟩ := flatMap_get hcl xs j u hu
    exact hf i x (List.getElem?_eq_some_iff.1 hx).1 hx r u hc
  · rw [List.getElem?_eq_none (by simp; omega), List.getElem?_eq_none (by omega)]
theorem take_fill (hcl : ∀ x, (cells x).length = k) {cur : Array Value} (ht : cur.toList.take (xs.length * k) = xs.flatMap cells) : FillI cells k cur xs xs.length := by
  intro i x hi hx j u hu
  have hj : j < k := by rw [← hcl x]; exact (List.getElem?_eq_some_iff.1 hu).1
  have e1 : (xs.flatMap cells)[i * k + j]? = some u := by
    clear ht hi
    induction xs generalizing i with
    | nil => simp at hx
    | cons y ys ih =>
      rw [List.flatMap_cons]
      cases i with
      | zero =>
        obtain rfl : y = x := by simpa using hx
        rw [Nat.zero_mul, Nat.zero_add, List.getElem?_append_left (by rw [hcl]; exact hj)]
        exact hu
      | succ i =>
        rw [List.getElem?_append_right (by rw [hcl, Nat.add_mul]; omega), hcl, Nat.add_mul, show i * k + 1 * k + j - k = i * k + j by omega]
        exact ih i (by simpa using hx)
  have hlt : i * k + j < xs.length * k := by
    have : (i + 1) * k ≤ xs.length * k := Nat.mul_le_mul_right _ hi
    rw [Nat.add_mul, Nat.one_mul] at this
    omega
  rw [← ht, List.getElem?_take, if_pos hlt] at e1
  simpa using e1
theorem rowX_of (hcl : ∀ x, (cells x).length = k) {base : Nat} (h : w.ownsRow base T k v xs.length (xs.flatMap cells)) : RowX w T k cells v xs v.ownBlock.toList ∧ ∀ b ∈ v.ownBlock.toList, base ≤ b := by
  obtain ⟨hl, ⟨rfl, h0⟩ | ⟨g, cap, cur, rfl, hg, hb, hc, hcm, hcs, ht⟩⟩ := h
  · exact ⟨.inl ⟨List.eq_nil_of_length_eq_zero h0, rfl, none, rfl, .inl rfl⟩, by simp [Value.ownBlock]⟩
  · exact ⟨.inr ⟨g, cap, cur, rfl, rfl, hb, hc, hcm, hcs, take_fill hcl ht⟩, by simpa [Value.ownBlock] using hg⟩
theorem RowX.row (hcl : ∀ x, (cells x).length = k) {base : Nat} (h : RowX w T k cells v xs B) (hB : ∀ b ∈ B, base ≤ b) : (xs = [] ∧ B = [] ∧ ∃ a, v = .slice a 0 0 ∧ (a = none ∨ ∃ g, a = some (⟨g, 0, none⟩ : Addr))) ∨ (w.ownsRow base T k v xs.length (xs.flatMap cells) ∧ B = v.ownBlock.toList) := by
  rcases h with h | ⟨g, cap, cur, rfl, rfl, hb, h1, h2, hs, hf⟩
  · exact .inl h
  · refine .inr ⟨⟨?_, .inr ⟨g, cap, cur, rfl, hB g (by simp), hb, h1, h2, hs, fill_take hcl (by rw [hs]; exact mul_row h1) hf⟩⟩, rfl⟩
    rw [List.length_flatMap, List.map_congr_left (g := fun _ => k) (fun x _ => hcl x), List.map_const', List.sum_replicate_nat]
/-- An element: where it lies, and what becomes of the row when it is overwritten. -/
theorem RowX.at {a : Option Addr} {n c : Nat} (hpos : 0 < k) (hcl : ∀ x, (cells x).length = k) (h : RowX w T k cells (.slice a n c) xs B) {j : Nat} (hj : j < xs.length) :
    ∃ (g : Nat) (cur : Array Value) (x : α), a = some ⟨g, 0, none⟩ ∧ B = [g] ∧ n = xs.length ∧ n ≤ c ∧ xs[j]? = some x ∧ w.heap[g]? = some (.cells cur T (0, 0)) ∧ j * k + k ≤ cur.size ∧ (∀ i u, (cells x)[i]? = some u → cur[j * k + i]? = some u) ∧
      ∀ (w' : World) (cur' : Array Value) (y : α), w'.heap[g]? = some (.cells cur' T (0, 0)) → cur'.size = cur.size → (∀ i, ¬ (j * k ≤ i ∧ i < j * k + k) → cur'[i]? = cur[i]?) → (∀ i u, (cells y)[i]? = some u → cur'[j * k + i]? = some u) → RowX w' T k cells (.slice a n c) (xs.set j y) B := by
  rcases h with ⟨rfl, _⟩ | ⟨g, cap, cur, hv, rfl, hb, h1, h2, hs, hf⟩
  · simp at hj
  · obtain ⟨rfl, rfl, rfl⟩ := Value.slice.inj hv
    have hle : j * k + k ≤ cur.size := by
      have : (j + 1) * k ≤ xs.length * k := Nat.mul_le_mul_right _ hj
      have := mul_row (k := k) h1
      rw [Nat.add_mul, Nat.one_mul] at *; omega
    refine ⟨g, cur, xs[j], rfl, rfl, rfl, h1, List.getElem?_eq_getElem hj, hb, hle, fun i u hu => hf j _ hj (List.getElem?_eq_getElem hj) i u hu, fun w' cur' y hb' hs' ho hi => .inr ⟨g, c, cur', by rw [List.length_set], rfl, hb', by rw [List.length_set]; exact h1, h2, by rw [hs', hs], hf.put hcl hj ho hi⟩⟩
end

section
variable {α : Type} {cells : α → List Value} {k bytes : Nat} {z : Value} {TS T : TypeId}
/-- An element appended. -/
theorem wp_appX (hT : Try.prog.underlying TS = some (.slice T)) (hI : (Try.prog.info? T).map (fun i => (i.zero, i.size, i.bytes)) = some (some z, k, bytes)) (hz : z.cells.size = k) (hpos : 0 < k) (hby : bytes ≤ 1024)
    (hcl : ∀ x, (cells x).length = k) (hone : ∀ x, ∀ u ∈ cells x, u.oneCell' = true)
    {o : Oper} {a : Act} {K : Act → World → Prop} {Q : Exit → Act → World → Prop} {w : World} (s x : Operand) (ho : o.op = .call { callee := .builtin .append, args := #[s, x], argTypes := #[TS, TS] })
    {v : Value} {xs : List α} {B : List Nat} (hs : a.eval s = v) (hown : RowX w T k cells v xs B) (y : α) {b c : Nat} {T' : TypeId} (hx : a.eval x = .slice (some ⟨b, 0, none⟩) 1 c) (hy : w.heap[b]? = some (.cells (cells y).toArray T' (0, 0))) (hn : xs.length ≤ 4194304)
    (h : ∀ v' w' B', RowX w' T k cells v' (xs ++ [y]) B' → Chg B w w' → (B' = B ∨ B' = [w.heap.size]) → K (a.put o.dst v') w') : o.wp Try.prog a w K Q := by
  have grow : ∀ (o : Oper) (a : Act) (s x : Operand) (v : Value) (K : Act → World → Prop), o.op = .call { callee := .builtin .append, args := #[s, x], argTypes := #[TS, TS] } → a.eval s = v → a.eval x = .slice (some ⟨b, 0, none⟩) 1 c → w.ownsRow 0 T k v xs.length (xs.flatMap cells) → B = v.ownBlock.toList →
      (∀ v' w' B', RowX w' T k cells v' (xs ++ [y]) B' → Chg B w w' → (B' = B ∨ B' = [w.heap.size]) → K (a.put o.dst v') w') → o.wp Try.prog a w K Q := by
    intro o a s x v K ho hs hx hrow hB h
    refine wp_appRZ hT hI hz hpos hby hcl hone 0 s x ho hs (Nat.zero_le _) hrow y hx hy hn fun v' w' h1 h2 h3 => ?_
    obtain ⟨r1, _⟩ := rowX_of hcl h1
    refine h v' w' _ r1 (hB ▸ h2) ?_
    rw [hB]
    rcases h3 with h3 | h3
    · exact .inl (by rw [h3])
    · exact .inr (by rw [h3]; rfl)
  rcases hown.row hcl (base := 0) (fun _ _ => Nat.zero_le _) with ⟨rfl, rfl, ad, rfl, hb⟩ | ⟨hrow, hB⟩
  · cases hi : Try.prog.info? T with
    | none => rw [hi] at hI; cases hI
    | some i =>
      have hI0 := hI
      rw [hi] at hI
      simp only [Option.map_some, Option.some.injEq, Prod.mk.injEq] at hI
      obtain ⟨i1, i2, i3⟩ := hI
      have hsrc : Src Try.prog i.size TS (.slice (some ⟨b, 0, none⟩) 1 c) 1 (cells y) w := by
        refine Src.ofSlice _ hT _ 1 c _ (by rw [hcl, Nat.one_mul, i2]) (fun j u hu => ?_) (hone y)
        rw [ld_add, Nat.zero_add, cell_blk hy]
        simpa using hu
      have hfit : Builtin.nextslicecap (0 + 1) 0 * i.bytes ≤ 281474976710656 := by
        rw [Nat.zero_add, nextslicecap_zero (by decide), i3]; omega
      have hold : ∀ base : Option Addr, (base = none ∨ ∃ g, base = some (⟨g, 0, none⟩ : Addr)) → (Builtin.firstCells i.size 0 (.slice base 0 0)).run Try.prog w.drew = .ok ([] : List Value).toArray w.drew := fun base hb => by
        rcases hb with rfl | ⟨g, rfl⟩
        · exact run_firstCells_none _ _ _ _ _
        · exact run_firstCells_some (P := Try.prog) w.drew i.size 0 ⟨g, 0, none⟩ 0 0 [] (by simp) (fun j v hv => by simp at hv)
      have run : ∀ base : Option Addr, (base = none ∨ ∃ g, base = some (⟨g, 0, none⟩ : Addr)) → _ := fun base hb => run_append_grow_src (P := Try.prog) (w := w) TS TS o.type T i z hT hi i1 base 0 0 [] (hold base hb) (.slice (some ⟨b, 0, none⟩) 1 c) 1 (cells y) hsrc (by omega) (by omega) hfit
      have e1 := (run ad hb).trans (run none (.inl rfl)).symm
      have h2 := grow { o with op := .call { callee := .builtin .append, args := #[.const (.slice none 0 0), x], argTypes := #[TS, TS] } } a (.const (.slice none 0 0)) x (.slice none 0 0) K rfl rfl hx (World.ownsRow_nil _ _ _ _) rfl h
      have ec : a.eval (.const (.slice none 0 0)) = .slice none 0 0 := rfl
      unfold Oper.wp at h2 ⊢
      simp only [execOp, ho, resolve, invoke, builtin, Sem.run_bind, Sem.run_pure, Result.andThen_ok, List.map_toArray, List.map_cons, List.map_nil, hs, hx, ec] at h2 ⊢
      rw [e1]
      generalize ((Builtin.append_ #[TS, TS] o.type #[Value.slice none 0 0, Value.slice (some { block := b, off := 0 }) 1 c]).run Try.prog w) = r at h2 ⊢
      clear e1 run hold hfit hsrc
      cases r with
      | halt x w' => cases x <;> exact h2
      | ok v w' => exact h2
  · exact grow o a s x v K ho hs hx hrow hB h
/-- append(nil or []T{}, x..): a copy in new memory that may be appended to, or the same nothing. -/
theorem wp_cloneX {dat : α → Dat} {sch : Sch} (hT : Try.prog.underlying TS = some (.slice T)) (hI : (Try.prog.info? T).map (fun i => (i.zero, i.size, i.bytes)) = some (some z, k, bytes)) (hz : z.cells.size = k) (hpos : 0 < k) (hby : bytes ≤ 1024)
    (hsz : sch.size = k) (hcl : ∀ x, (cells x).length = k) (hrd : ∀ hi w vs d, Rd hi w sch vs d → ∃ x, vs = cells x ∧ d = dat x) (hinj : ∀ x y, dat x = dat y → x = y) (hone : ∀ x, ∀ u ∈ cells x, u.oneCell' = true) (_hown : ∀ w x, Own w sch (cells x) (dat x) [])
    {o : Oper} {a : Act} {K : Act → World → Prop} {Q : Exit → Act → World → Prop} {w : World} (s x : Operand) (ho : o.op = .call { callee := .builtin .append, args := #[s, x], argTypes := #[TS, TS] })
    {base : Option Addr} (hs : a.eval s = .slice base 0 0) (hb : base = none ∨ ∃ g, base = some (⟨g, 0, none⟩ : Addr)) (ys : List α) {ad : Option Addr} {m c : Nat} (hx : a.eval x = .slice ad m c) (hy : Re w (.sl sch) [.slice ad m c] (.l (ys.map dat))) (hn : m ≤ 2097152)
    (h : ∀ a' c' t' B, RowX (ext w t') T k cells (.slice a' m c') ys B → (∀ b ∈ B, w.heap.size ≤ b) → K (a.put o.dst (.slice a' m c')) (ext w t')) : o.wp Try.prog a w K Q := by
  have hm := hy.len
  cases hi : Try.prog.info? T with
  | none => rw [hi] at hI; cases hI
  | some i =>
    have hI0 := hI
    rw [hi] at hI
    simp only [Option.map_some, Option.some.injEq, Prod.mk.injEq] at hI
    obtain ⟨i1, i2, i3⟩ := hI
    rcases Nat.eq_zero_or_pos m with h0 | h0
    · subst h0
      obtain rfl : ys = [] := List.length_eq_zero_iff.1 hm.symm
      have hsrc : Src Try.prog i.size TS (.slice ad 0 c) 0 [] w := by
        cases ad with
        | none => exact Src.ofNil _ hT c
        | some ad => exact Src.ofSlice _ hT ad 0 c [] (by simp) (fun j u hu => by simp at hu) (fun u hu => by simp at hu)
      have hrun := run_append_nothing (P := Try.prog) w TS TS o.type T i hT hi base 0 0 (Nat.le_refl _) (.slice ad 0 c) hsrc
      unfold Oper.wp
      simp [execOp, ho, resolve, invoke, builtin, hs, hx, hrun, Result.andThen]
      have := h base 0 ⟨#[], w.drawn⟩ [] (.inl ⟨rfl, rfl, base, rfl, hb⟩) (by simp)
      rwa [ext_refl] at this
    · rcases hy.row hsz hcl hrd hinj with he | ⟨b, o', e, _, hc⟩
      · subst he; simp at hm; omega
      · subst e
        have hsrc : Src Try.prog i.size TS (.slice (some ⟨b, o', none⟩) m c) m (ys.flatMap cells) w := by
          refine Src.ofSlice _ hT _ m c _ ?_ ?_ ?_
          · rw [hm, i2, List.length_flatMap, List.map_congr_left (g := fun _ => k) (fun x _ => hcl x), List.map_const', List.sum_replicate_nat]
          · intro j u hu; rw [ld_add]; exact hc j u hu
          · intro u hu
            obtain ⟨y, _, hy'⟩ := List.mem_flatMap.1 hu
            exact hone y u hy'
        have hfit : Builtin.nextslicecap (0 + m) 0 * i.bytes ≤ 281474976710656 := by
          rw [Nat.zero_add, nextslicecap_zero h0, i3]
          calc m * bytes ≤ 2097152 * 1024 := Nat.mul_le_mul hn hby
            _ ≤ 281474976710656 := by decide
        have hold : ∀ base : Option Addr, (base = none ∨ ∃ g, base = some (⟨g, 0, none⟩ : Addr)) → (Builtin.firstCells i.size 0 (.slice base 0 0)).run Try.prog w.drew = .ok ([] : List Value).toArray w.drew := fun base hb => by
          rcases hb with rfl | ⟨g, rfl⟩
          · exact run_firstCells_none _ _ _ _ _
          · exact run_firstCells_some (P := Try.prog) w.drew i.size 0 ⟨g, 0, none⟩ 0 0 [] (by simp) (fun j v hv => by simp at hv)
        have run : ∀ base : Option Addr, (base = none ∨ ∃ g, base = some (⟨g, 0, none⟩ : Addr)) → _ := fun base hb => run_append_grow_src (P := Try.prog) (w := w) TS TS o.type T i z hT hi i1 base 0 0 [] (hold base hb) (.slice (some ⟨b, o', none⟩) m c) m (ys.flatMap cells) hsrc (by omega) (by omega) hfit
        have e1 := (run base hb).trans (run none (.inl rfl)).symm
        have h2 := wp_apps (K := K) (Q := Q) hT hI0 hz hpos hby hsz hcl hrd hinj hone (o := { o with op := .call { callee := .builtin .append, args := #[.const (.slice none 0 0), x], argTypes := #[TS, TS] } }) (a := a) (w0 := w) (w := w) (v := .slice none 0 0) (.const (.slice none 0 0)) x rfl rfl (Ext.refl w) (xs := []) (World.ownsRow_nil _ _ _ _) ys hx hy (by simp; omega) (fun v' t' hg => by
          rw [List.nil_append] at hg
          obtain ⟨r1, r2⟩ := rowX_of hcl hg
          obtain ⟨a', c', e⟩ := r1.slice
          subst e
          rw [← hm] at r1 r2 ⊢
          exact h a' c' t' _ r1 r2)
        have ec : a.eval (.const (.slice none 0 0)) = .slice none 0 0 := rfl
        unfold Oper.wp at h2 ⊢
        simp only [execOp, ho, resolve, invoke, builtin, Sem.run_bind, Sem.run_pure, Result.andThen_ok, List.map_toArray, List.map_cons, List.map_nil, hs, hx, ec] at h2 ⊢
        rw [e1]
        generalize ((Builtin.append_ #[TS, TS] o.type #[Value.slice none 0 0, Value.slice (some { block := b, off := o' }) m c]).run Try.prog w) = r at h2 ⊢
        clear e1 run hold hfit hsrc hc hy
        cases r with
        | halt x w' => cases x <;> exact h2
        | ok v w' => exact h2
theorem wpList_cloneX {dat : α → Dat} {sch : Sch} (hT : Try.prog.underlying TS = some (.slice T)) (hI : (Try.prog.info? T).map (fun i => (i.zero, i.size, i.bytes)) = some (some z, k, bytes)) (hz : z.cells.size = k) (hpos : 0 < k) (hby : bytes ≤ 1024)
    (hsz : sch.size = k) (hcl : ∀ x, (cells x).length = k) (hrd : ∀ hi w vs d, Rd hi w sch vs d → ∃ x, vs = cells x ∧ d = dat x) (hinj : ∀ x y, dat x = dat y → x = y) (hone : ∀ x, ∀ u ∈ cells x, u.oneCell' = true) (_hown : ∀ w x, Own w sch (cells x) (dat x) [])
    {ops : Array Oper} {rest : List Oper} {o : Oper} {a : Act} {Q : Exit → Act → World → Prop} {w : World} (hgd : o.guard = none) (s x : Operand) (ho : o.op = .call { callee := .builtin .append, args := #[s, x], argTypes := #[TS, TS] })
    {base : Option Addr} (hs : a.eval s = .slice base 0 0) (hb : base = none ∨ ∃ g, base = some (⟨g, 0, none⟩ : Addr)) (ys : List α) {ad : Option Addr} {m c : Nat} (hx : a.eval x = .slice ad m c) (hy : Re w (.sl sch) [.slice ad m c] (.l (ys.map dat))) (hn : m ≤ 2097152)
    (h : ∀ a' c' t' B, RowX (ext w t') T k cells (.slice a' m c') ys B → (∀ b ∈ B, w.heap.size ≤ b) → wpList Try.prog ops Q rest (a.put o.dst (.slice a' m c')) (ext w t')) : wpList Try.prog ops Q (o :: rest) a w :=
  wpList_plain hgd fun _ hK => wp_cloneX hT hI hz hpos hby hsz hcl hrd hinj hone _hown s x ho hs hb ys hx hy hn fun a' c' t' B h1 h2 => hK _ _ (h a' c' t' B h1 h2)
theorem wpList_appXE (hT : Try.prog.underlying TS = some (.slice T)) (hI : (Try.prog.info? T).map (fun i => (i.zero, i.size, i.bytes)) = some (some z, k, bytes)) (hz : z.cells.size = k) (hpos : 0 < k) (hby : bytes ≤ 1024)
    (hcl : ∀ x, (cells x).length = k) (hone : ∀ x, ∀ u ∈ cells x, u.oneCell' = true)
    {ops : Array Oper} {rest : List Oper} {o : Oper} {a : Act} {Q : Exit → Act → World → Prop} {w : World} (hgd : o.guard = none) (w0 : World) (s x : Operand) (ho : o.op = .call { callee := .builtin .append, args := #[s, x], argTypes := #[TS, TS] })
    {v : Value} {xs : List α} {B : List Nat} (hs : a.eval s = v) (hE : Ext w0 w) (hown : RowX w T k cells v xs B) (hB : ∀ b ∈ B, w0.heap.size ≤ b) (y : α) {b c : Nat} {T' : TypeId} (hx : a.eval x = .slice (some ⟨b, 0, none⟩) 1 c) (hy : w.heap[b]? = some (.cells (cells y).toArray T' (0, 0))) (hn : xs.length ≤ 4194304)
    (h : ∀ v' t' B', RowX (ext w0 t') T k cells v' (xs ++ [y]) B' → (∀ b ∈ B', w0.heap.size ≤ b) → wpList Try.prog ops Q rest (a.put o.dst v') (ext w0 t')) : wpList Try.prog ops Q (o :: rest) a w :=
  wpList_plain hgd fun _ hK => wp_appX hT hI hz hpos hby hcl hone s x ho hs hown y hx hy hn fun v' w' B' h1 h2 h3 => by
    obtain ⟨t', rfl⟩ : Ext w0 w' := Ext.of_below (Below.chg hE.below h2 hB)
    refine hK _ _ (h v' t' B' h1 fun b hb => ?_)
    rcases h3 with rfl | rfl
    · exact hB b hb
    · obtain rfl : b = w.heap.size := by simpa using hb
      exact hE.size
theorem ownsRow_of {w w' : World} {base sz n : Nat} {T : TypeId} {v : Value} {xs : List Value} (h : w.ownsRow base T sz v n xs) (hE : Ext w w') : w'.ownsRow base T sz v n xs := by
  obtain ⟨t, rfl⟩ := hE; exact ownsRow_ext h
theorem ownsRow_le {w : World} {base base' sz n : Nat} {T : TypeId} {v : Value} {xs : List Value} (h : w.ownsRow base T sz v n xs) (hb : base' ≤ base) : w.ownsRow base' T sz v n xs :=
  ⟨h.1, h.2.imp id fun ⟨g, cap, cur, h1, h2, h3⟩ => ⟨g, cap, cur, h1, Nat.le_trans hb h2, h3⟩⟩
end
end Go.Proofs.Ytbbpipbemhggdaa
