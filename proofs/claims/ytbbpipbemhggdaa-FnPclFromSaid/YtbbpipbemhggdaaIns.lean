/- slices.Insert of one element into a row of one's own, at structs of int fields: the library's own text walked. -/
import Derived.Test.YtbbpipbemhggdaaAppZ
import Derived.Test.YtbbpipbemhggdaaTWlk
import Derived.Test.YtbbpipbemhggdaaTGst
import Derived.Lib.Overlaps
import Derived.Lib.AppendZerosOnto
import Derived.Laws.IdiomCopy
import Derived.Laws.NewBlocks
namespace Go.Proofs.Ytbbpipbemhggdaa
open Go.RowKit
set_option linter.unusedSimpArgs false
set_option linter.unusedVariables false

/-- A list with an element put in at a place. -/
def insAt {α : Type} (xs : List α) (i : Nat) (y : α) : List α := xs.take i ++ y :: xs.drop i
theorem insAt_len {α : Type} (xs : List α) (i : Nat) (y : α) (h : i ≤ xs.length) : (insAt xs i y).length = xs.length + 1 := by
  simp [insAt]; omega
theorem insAt_end {α : Type} (xs : List α) (y : α) : insAt xs xs.length y = xs ++ [y] := by simp [insAt]
theorem flatMap_take {α : Type} {cells : α → List Value} {k : Nat} (hcl : ∀ x, (cells x).length = k) : ∀ (xs : List α) (i : Nat), i ≤ xs.length → (xs.take i).flatMap cells = (xs.flatMap cells).take (i * k)
  | xs, 0, _ => by simp
  | [], i + 1, h => by simp at h
  | x :: xs, i + 1, h => by
    simp only [List.take_succ_cons, List.flatMap_cons]
    rw [flatMap_take hcl xs i (by simpa using h), List.take_append, hcl, List.take_of_length_le (l := cells x) (by rw [hcl, Nat.add_mul]; omega), show (i + 1) * k - k = i * k by rw [Nat.add_mul]; omega]
theorem flatMap_drop {α : Type} {cells : α → List Value} {k : Nat} (hcl : ∀ x, (cells x).length = k) : ∀ (xs : List α) (i : Nat), i ≤ xs.length → (xs.drop i).flatMap cells = (xs.flatMap cells).drop (i * k)
  | xs, 0, _ => by simp
  | [], i + 1, h => by simp at h
  | x :: xs, i + 1, h => by
    simp only [List.drop_succ_cons, List.flatMap_cons]
    rw [flatMap_drop hcl xs i (by simpa using h), List.drop_append, hcl, List.drop_of_length_le (l := cells x) (by rw [hcl, Nat.add_mul]; omega), show (i + 1) * k - k = i * k by rw [Nat.add_mul]; omega]; rfl
theorem flatMap_len {α : Type} {cells : α → List Value} {k : Nat} (hcl : ∀ x, (cells x).length = k) (xs : List α) : (xs.flatMap cells).length = xs.length * k := by
  rw [List.length_flatMap, List.map_congr_left (g := fun _ => k) (fun x _ => hcl x), List.map_const', List.sum_replicate_nat]
theorem insAt_flat {α : Type} {cells : α → List Value} {k : Nat} (hcl : ∀ x, (cells x).length = k) (xs : List α) (i : Nat) (y : α) (h : i ≤ xs.length) :
    (insAt xs i y).flatMap cells = (xs.flatMap cells).take (i * k) ++ (cells y ++ (xs.flatMap cells).drop (i * k)) := by
  simp only [insAt, List.flatMap_append, List.flatMap_cons]
  rw [flatMap_take hcl xs i h, flatMap_drop hcl xs i h]

theorem setCells_row (w : World) (b : Nat) : ∀ (vs : List Value) (o : Nat) (w : World), w.setCells b o vs = setRow w b o vs
  | [], _, _ => rfl
  | v :: vs, o, w => by
    show (w.setCell ⟨b, o, none⟩ v).setCells b (o + 1) vs = setRow (w.setCell ⟨b, o, none⟩ v) b (o + 1) vs
    exact setCells_row w b vs (o + 1) _
/-- The builtin 'copy' at elements of k cells: all is read before anything is written. -/
theorem run_copy_k {P : Program} (w : World) (dT sT ty elem : TypeId) (b o dLen dCap : Nat) (a : Addr) (sLen sCap k m : Nat) (cs : List Value)
    (hu : P.underlying dT = some (.slice elem)) (hs : (P.info? elem).map (·.size) = some k) (hm : Nat.min sLen dLen = m) (hn : cs.length = m * k)
    (hsrc : ∀ j v, cs[j]? = some v → w.cell? (a.add j) = some v) (hc : ∀ j, j < cs.length → (w.cell? ⟨b, o + j, none⟩).isSome = true) (hf : ∀ j, j < cs.length → w.frozen? ⟨b, o + j, none⟩ = false) (h1 : ∀ v ∈ cs, v.oneCell' = true) :
    (Builtin.copy_ #[dT, sT] ty #[.slice (some ⟨b, o, none⟩) dLen dCap, .slice (some a) sLen sCap]).run P w = .ok (goInt m) (setRow w b o cs) := by
  have hl := run_loadCells_list (P := P) w a cs hsrc
  have hst := run_storeCells_cells (P := P) b o cs 0 w (by simpa using hc) (by simpa using hf) h1
  rw [setCells_row w] at hst
  cases hq : P.info? elem with
  | none => simp [hq] at hs
  | some i =>
    have hi : i.size = k := by simpa [hq] using hs
    rw [hn] at hl
    simp [Builtin.copy_, run_underlying hu, Builtin.lenOf, Builtin.firstCells, sizeOf, typeInfo, hq, hi, hm, hl, hst]
theorem wp_copy_run {P : Program} (w : World) {o : Oper} {a : Act} {K : Act → World → Prop} {Q : Exit → Act → World → Prop} (d s : Operand) (t t' : TypeId)
    (ho : o.op = .call { callee := .builtin .copy, args := #[d, s], argTypes := #[t, t'] }) {v u : Value} (hd : a.eval d = v) (hs : a.eval s = u) {v' : Value} {w' : World}
    (hr : (Builtin.copy_ #[t, t'] o.type #[v, u]).run P w = .ok v' w') (h : K (a.put o.dst v') w') : o.wp P a w K Q := by
  unfold Oper.wp execOp
  simp only [ho, resolve, invoke, builtin, Sem.run_bind, Sem.run_pure, Result.andThen_ok, List.map_toArray, List.map_cons, List.map_nil, hd, hs, hr]
  exact h
theorem wpList_copy_run {P : Program} (w : World) {ops : Array Oper} {rest : List Oper} {o : Oper} {a : Act} {Q : Exit → Act → World → Prop} (hgd : o.guard = none) (d s : Operand) (t t' : TypeId)
    (ho : o.op = .call { callee := .builtin .copy, args := #[d, s], argTypes := #[t, t'] }) {v u : Value} (hd : a.eval d = v) (hs : a.eval s = u) {v' : Value} {w' : World}
    (hr : (Builtin.copy_ #[t, t'] o.type #[v, u]).run P w = .ok v' w') (h : wpList P ops Q rest (a.put o.dst v') w') : wpList P ops Q (o :: rest) a w :=
  wpList_plain hgd fun _ hK => wp_copy_run w d s t t' ho hd hs hr (hK _ _ h)
theorem wpList_appRZ {α : Type} {cells : α → List Value} {k bytes : Nat} {z : Value} {TS T : TypeId} (hT : Try.prog.underlying TS = some (.slice T)) (hI : (Try.prog.info? T).map (fun i => (i.zero, i.size, i.bytes)) = some (some z, k, bytes)) (hz : z.cells.size = k) (hpos : 0 < k) (hby : bytes ≤ 1024)
    (hcl : ∀ x, (cells x).length = k) (hone : ∀ x, ∀ u ∈ cells x, u.oneCell' = true)
    {ops : Array Oper} {rest : List Oper} {o : Oper} {a : Act} {Q : Exit → Act → World → Prop} {w : World} (hgd : o.guard = none) (base : Nat) (s x : Operand) (ho : o.op = .call { callee := .builtin .append, args := #[s, x], argTypes := #[TS, TS] })
    {v : Value} {xs : List α} (hs : a.eval s = v) (hb : base ≤ w.heap.size) (hown : w.ownsRow base T k v xs.length (xs.flatMap cells)) (y : α) {b c : Nat} {T' : TypeId} (hx : a.eval x = .slice (some ⟨b, 0, none⟩) 1 c) (hy : w.heap[b]? = some (.cells (cells y).toArray T' (0, 0))) (hn : xs.length ≤ 4194304)
    (h : ∀ v' w', w'.ownsRow base T k v' (xs ++ [y]).length ((xs ++ [y]).flatMap cells) → Chg v.ownBlock.toList w w' → wpList Try.prog ops Q rest (a.put o.dst v') w') : wpList Try.prog ops Q (o :: rest) a w :=
  wpList_plain hgd fun _ hK => wp_appRZ hT hI hz hpos hby hcl hone base s x ho hs hb hown y hx hy hn fun v' w' h1 h2 _ => hK _ _ (h v' w' h1 h2)

/-- What the two copies leave, cell by cell. -/
theorem ins_row {L cy : List Value} {arr : Array Value} {N p k : Nat} (hL : L.length = N) (hc : cy.length = k) (hp : p ≤ N) (hs : N + k ≤ arr.size) (hpre : ∀ j, j < N + k → arr[j]? = if j < p then L[j]? else if j < p + k then cy[j - p]? else L[j - k]?) :
    arr.toList.take (N + k) = L.take p ++ (cy ++ L.drop p) := by
  apply List.ext_getElem?
  intro j
  by_cases hj : j < N + k
  · rw [List.getElem?_take, if_pos hj, Array.getElem?_toList, hpre j hj]
    by_cases h1 : j < p
    · rw [if_pos h1, List.getElem?_append_left (by simp; omega), List.getElem?_take, if_pos h1]
    · rw [if_neg h1, List.getElem?_append_right (by simp; omega)]
      have e : (L.take p).length = p := by simp; omega
      rw [e]
      by_cases h2 : j < p + k
      · rw [if_pos h2, List.getElem?_append_left (by omega)]
      · rw [if_neg h2, List.getElem?_append_right (by omega), List.getElem?_drop]
        congr 1; omega
  · rw [List.getElem?_eq_none (by simp; omega), List.getElem?_eq_none (by simp; omega)]
/-- In place: the rest shifted, the element laid in. -/
theorem ins_shift {L cy : List Value} {cur : Array Value} {N p k : Nat} (hL : L.length = N) (hc : cy.length = k) (hp : p ≤ N) (hs : N + k ≤ cur.size) (ht : cur.toList.take N = L) (j : Nat) (hj : j < N + k) :
    (putRow (putRow cur (p + k) (L.drop p)) p cy)[j]? = if j < p then L[j]? else if j < p + k then cy[j - p]? else L[j - k]? := by
  have hd : (L.drop p).length = N - p := by simp [hL]
  rw [putRow_get _ _ _ _ (by rw [putRow_size, hc]; omega), hc]
  by_cases h2 : p ≤ j ∧ j < p + k
  · rw [if_pos h2, if_neg (by omega), if_pos h2.2]
  · rw [if_neg h2, putRow_get _ _ _ _ (by rw [hd]; omega), hd]
    by_cases h1 : j < p
    · rw [if_neg (by omega), if_pos h1, ← ht, List.getElem?_take, if_pos (by omega), Array.getElem?_toList]
    · rw [if_pos (by omega), if_neg h1, if_neg (by omega), List.getElem?_drop]
      congr 1; omega
/-- In a new row. -/
theorem ins_new {L cy : List Value} {cur : Array Value} {N p k : Nat} (hL : L.length = N) (hc : cy.length = k) (hp : p ≤ N) (hs : N + k ≤ cur.size) (ht : ∀ j, j < p → cur[j]? = L[j]?) (j : Nat) (hj : j < N + k) :
    (putRow (putRow cur p cy) (p + k) (L.drop p))[j]? = if j < p then L[j]? else if j < p + k then cy[j - p]? else L[j - k]? := by
  have hd : (L.drop p).length = N - p := by simp [hL]
  rw [putRow_get _ _ _ _ (by rw [putRow_size, hd]; omega), hd]
  by_cases h2 : p + k ≤ j
  · rw [if_pos (by omega), if_neg (by omega), if_neg (by omega), List.getElem?_drop]
    congr 1; omega
  · rw [if_neg (by omega), putRow_get _ _ _ _ (by rw [hc]; omega), hc]
    by_cases h1 : j < p
    · rw [if_neg (by omega), if_pos h1]; exact ht j h1
    · rw [if_pos (by omega), if_neg h1, if_pos (by omega)]

theorem Wlk_one (x : Wlk) : ∀ u ∈ Wlk.cells x, u.oneCell' = true := by
  intro u hu
  simp only [Wlk.cells, List.mem_cons, List.mem_nil_iff, or_false] at hu
  (repeat (first | (rcases hu with rfl | hu; rfl) | (subst hu; rfl)))
set_option maxRecDepth 100000 in
set_option maxHeartbeats 4000000 in
theorem insWlk_end (xs : List Wlk) (y : Wlk) (v : Value) (vb vc base : Nat) (w : World) (hown : w.ownsRow base 52 5 v xs.length (xs.flatMap Wlk.cells)) (hb : base ≤ w.heap.size) (hy : w.heap[vb]? = some (.cells (Wlk.cells y).toArray 52 (0, 0))) (hn : xs.length ≤ 1048576) :
    Calls Try.prog 73 #[v, .int .i64 xs.length, .slice (some ⟨vb, 0, none⟩) 1 vc] w fun e w' => ∃ v', e = .returned v' ∧ w'.ownsRow base 52 5 v' (insAt xs xs.length y).length ((insAt xs xs.length y).flatMap Wlk.cells) ∧ Chg v.ownBlock.toList w w' := by
  rw [insAt_end]
  have HO := hid hown
  have HY := hid hy
  rcases hown.2 with ⟨rfl, h0⟩ | ⟨g, cap, cur, rfl, hg, hB, hc, hcm, hcs, ht⟩
  · obtain rfl := List.eq_nil_of_length_eq_zero h0
    clear hown hy h0
    go_enter Try.func73, Try.ntmps73
    go_wp2_with (at_builtin; refine wpList_appRZ (xs := []) (k := 5) (bytes := 40) (z := .agg #[.int .i64 0, .int .i64 0, .int .i64 0, .int .i64 0, .int .i64 0]) Try.underlying50 (by kernel_rfl) rfl (by decide) (by decide) (fun _ => rfl) Wlk_one rfl base _ _ rfl rfl hb HO.out y rfl HY.out (by simp) ?_; intro v' w' hg hc; have HG := hid hg; have HC := hid hc; clear hg hc)
    go_ret
    exact ⟨_, rfl, HG.out, HC.out⟩
  · clear hown hy ht hcs hB
    simp only [maxLen] at hcm
    generalize hm : xs.length = n at *
    by_cases hcn : cap = n
    · subst hcn
      go_enter Try.func73, Try.ntmps73
      go_wp2_with (at_builtin; refine wpList_appRZ (xs := xs) (k := 5) (bytes := 40) (z := .agg #[.int .i64 0, .int .i64 0, .int .i64 0, .int .i64 0, .int .i64 0]) Try.underlying50 (by kernel_rfl) rfl (by decide) (by decide) (fun _ => rfl) Wlk_one rfl base _ _ rfl rfl hb (by rw [hm]; exact HO.out) y rfl HY.out (by omega) ?_; intro v' w' hg hc; have HG := hid hg; have HC := hid hc; clear hg hc)
      go_ret
      exact ⟨_, rfl, HG.out, HC.out⟩
    · go_enter Try.func73, Try.ntmps73
      go_wp2_with (at_builtin; refine wpList_appRZ (xs := xs) (k := 5) (bytes := 40) (z := .agg #[.int .i64 0, .int .i64 0, .int .i64 0, .int .i64 0, .int .i64 0]) Try.underlying50 (by kernel_rfl) rfl (by decide) (by decide) (fun _ => rfl) Wlk_one rfl base _ _ rfl rfl hb (by rw [hm]; exact HO.out) y rfl HY.out (by omega) ?_; intro v' w' hg hc; have HG := hid hg; have HC := hid hc; clear hg hc)
      go_ret
      exact ⟨_, rfl, HG.out, HC.out⟩
set_option maxRecDepth 100000 in
set_option maxHeartbeats 4000000 in
theorem insWlk_room (xs : List Wlk) (y : Wlk) (g cap i vb vc base : Nat) (cur : Array Value) (w : World) (hl : (xs.flatMap Wlk.cells).length = xs.length * 5) (hcap : xs.length < cap) (hcm : cap ≤ 9223372036854775807) (hg : base ≤ g) (hB : w.heap[g]? = some (.cells cur 52 (0, 0))) (hcs : cur.size = cap * 5) (ht : cur.toList.take (xs.length * 5) = xs.flatMap Wlk.cells)
    (hi : i < xs.length) (hy : w.heap[vb]? = some (.cells (Wlk.cells y).toArray 52 (0, 0))) (hvb : vb ≠ g) (hn : xs.length ≤ 1048576) :
    Calls Try.prog 73 #[.slice (some ⟨g, 0, none⟩) xs.length cap, .int .i64 i, .slice (some ⟨vb, 0, none⟩) 1 vc] w fun e w' => ∃ v', e = .returned v' ∧ w'.ownsRow base 52 5 v' (insAt xs i y).length ((insAt xs i y).flatMap Wlk.cells) ∧ Chg [g] w w' := by
  have hcl : ∀ x : Wlk, (Wlk.cells x).length = 5 := fun _ => rfl
  obtain ⟨D, hD⟩ : ∃ D, (xs.flatMap Wlk.cells).drop (i * 5) = D := ⟨_, rfl⟩
  have hDl : D.length = (xs.length - i) * 5 := by rw [← hD, List.length_drop, hl, Nat.sub_mul]
  have hone : ∀ v ∈ xs.flatMap Wlk.cells, v.oneCell' = true := fun v hv => by
    obtain ⟨x, _, hx⟩ := List.mem_flatMap.1 hv
    exact Wlk_one x v hx
  have hsz : ∀ (w : World), (Go.sizeOf 52).run Try.prog w = .ok 5 w := fun w => sizeOf_run (by kernel_rfl) w
  have hszi : (Try.prog.info? 52).map (·.size) = some 5 := by kernel_rfl
  have hov : ∀ lb cb, (callFunc 91 #[.slice (some ⟨vb, 0, none⟩) 1 vc, .slice (some ⟨g, (i + 1) * 5, none⟩) lb cb]).run Try.prog w = .ok (.value (.bool false)) w := fun lb cb => by
    rw [run_callFunc_extern Try.func91 (by kernel_rfl) (by kernel_rfl) (by kernel_rfl) (e := Extern.SlicesOverlaps.overlaps #[50, 50] #[4]) (by kernel_rfl),
      Lib.run_overlaps_apart w 50 4 52 Try.underlying50 5 hsz ⟨vb, 0, none⟩ ⟨g, (i + 1) * 5, none⟩ 1 vc lb cb hvb 52 52 5 cur.size (by simp [World.shape?, hy, Wlk.cells]) (by simp [World.shape?, hB]) (by omega) (frozen_blk hy 0) (frozen_blk hy 5)]
    rfl
  generalize hm : xs.length = n at *
  have HB := hid hB
  have HY := hid hy
  have HT := hid ht
  have HD := hid hD
  have HL := hid hl
  clear hB hy ht hD hl hone hszi
  go_enter Try.func73, Try.ntmps73
  go_wp2_with (simp only [hov])
  have hget : ∀ j u, D[j]? = some u → cur[i * 5 + j]? = some u := fun j u hu => by
    rw [← HD.out, List.getElem?_drop, ← HT.out, List.getElem?_take] at hu
    split at hu
    · simpa using hu
    · cases hu
  have hin : i * 5 + 5 ≤ n * 5 := by omega
  have hc1 := run_copy_k (P := Try.prog) w.drew 50 50 3 52 g ((i + 1) * 5) (n - i) (cap - (i + 1)) ⟨g, i * 5, none⟩ (n + 1 - i) (cap - i) 5 (n - i) D Try.underlying50 (by kernel_rfl)
    (by simp only [Nat.min_def]; split <;> omega) hDl (fun j u hu => by rw [ld_add]; exact (cell_blk (w := w.drew) HB.out _).trans (hget j u hu))
    (fun j hj => by obtain ⟨u, hu⟩ := some_blk (w := w.drew) HB.out ((i + 1) * 5 + j) (by omega); rw [hu]; rfl) (fun j hj => frozen_blk (w := w.drew) HB.out _)
    (fun v hv => by
      rw [← HD.out] at hv
      obtain ⟨x, _, hx⟩ := List.mem_flatMap.1 (List.mem_of_mem_drop hv)
      exact Wlk_one x v hx)
  have HC1 := hid hc1
  clear hc1 hget
  with_reducible refine wp_region_mixR (R := g) (by kernel_rfl) (by decide +kernel) ?_
  repeat (refine mix_pure rfl ?_; (first | go_big_quiet_skip | (go_big_quiet_want; go_big_quiet_op; go_big_quiet_on)); refine wpQuiet_nil ?_)
  refine mix_mk rfl (by rfl) (fun K hK => ?_)
  refine wp_copy_run _ _ _ _ _ rfl rfl rfl HC1.out ?_
  refine hK _ _ (extR_of ?_) ?_
  · exact Chg.setRow (by simp) _ (Chg.refl _ _)
  clear hK K
  refine mix_nil ?_
  obtain ⟨W1, hW1⟩ : ∃ W1, setRow w.drew g ((i + 1) * 5) D = W1 := ⟨_, rfl⟩
  have hb1 : W1.heap[g]? = some (.cells (putRow cur ((i + 1) * 5) D) 52 (0, 0)) := by rw [← hW1]; exact blk_setRow D HB.out
  have hch1 : Chg [g] w W1 := by rw [← hW1]; exact Chg.setRow (by simp) _ (Chg.drew (Chg.refl _ _))
  have hy1 : W1.heap[vb]? = some (.cells (Wlk.cells y).toArray 52 (0, 0)) := (hch1.block vb (lt_blk HY.out) (by simpa using hvb)).trans HY.out
  have hps : (putRow cur ((i + 1) * 5) D).size = cap * 5 := by rw [putRow_size, hcs]
  have hc2 := run_copy_k (P := Try.prog) W1 50 50 3 52 g (i * 5) (n + 1 - i) (cap - i) ⟨vb, 0, none⟩ 1 vc 5 1 (Wlk.cells y) Try.underlying50 (by kernel_rfl)
    (by simp only [Nat.min_def]; split <;> omega) (by rw [hcl, Nat.one_mul]) (fun j u hu => by rw [ld_add, Nat.zero_add, cell_blk hy1]; simpa using hu)
    (fun j hj => by rw [hcl] at hj; obtain ⟨u, hu⟩ := some_blk hb1 (i * 5 + j) (by omega); rw [hu]; rfl) (fun j hj => frozen_blk hb1 _) (Wlk_one y)
  rw [hW1]
  have HC2 := hid hc2
  have HB1 := hid hb1
  have HCH1 := hid hch1
  clear hW1 hb1 hch1 hy1 hc2 HC1
  go_wp2_with (simp only [HC2.out])
  go_ret
  have hb2 := blk_setRow (o := i * 5) (Wlk.cells y) HB1.out
  have hil : i ≤ xs.length := by omega
  refine ⟨.slice (some ⟨g, 0, none⟩) (n + 1) cap, rfl, ⟨by rw [flatMap_len hcl], .inr ⟨g, cap, _, by rw [insAt_len _ _ _ hil, hm], hg, hb2, by rw [insAt_len _ _ _ hil, hm]; omega, by simpa [maxLen] using hcm, by rw [putRow_size, hps], ?_⟩⟩, Chg.setRow (by simp) _ HCH1.out⟩
  rw [insAt_flat hcl _ _ _ hil, insAt_len _ _ _ hil, hm, Nat.add_mul, Nat.one_mul]
  have hNk : n * 5 + 5 ≤ cur.size := by rw [hcs]; have : (n + 1) * 5 ≤ cap * 5 := Nat.mul_le_mul_right _ hcap; omega
  refine ins_row HL.out rfl (by omega) (by rw [putRow_size, putRow_size]; exact hNk) fun j hj => ?_
  have := ins_shift (cy := Wlk.cells y) (p := i * 5) HL.out rfl (by omega) hNk HT.out j hj
  rw [← HD.out, show (i + 1) * 5 = i * 5 + 5 by omega]
  exact this
set_option maxRecDepth 100000 in
set_option maxHeartbeats 4000000 in
theorem insWlk_full (xs : List Wlk) (y : Wlk) (g cap i vb vc base : Nat) (cur : Array Value) (w : World) (hl : (xs.flatMap Wlk.cells).length = xs.length * 5) (hcap0 : xs.length ≤ cap) (hcap : cap < xs.length + 1) (hcm : cap ≤ 9223372036854775807) (hb0 : base ≤ w.heap.size) (hB : w.heap[g]? = some (.cells cur 52 (0, 0))) (hcs : cur.size = cap * 5) (ht : cur.toList.take (xs.length * 5) = xs.flatMap Wlk.cells)
    (hi : i < xs.length) (hy : w.heap[vb]? = some (.cells (Wlk.cells y).toArray 52 (0, 0))) (hn : xs.length ≤ 1048576) :
    Calls Try.prog 73 #[.slice (some ⟨g, 0, none⟩) xs.length cap, .int .i64 i, .slice (some ⟨vb, 0, none⟩) 1 vc] w fun e w' => ∃ v', e = .returned v' ∧ w'.ownsRow base 52 5 v' (insAt xs i y).length ((insAt xs i y).flatMap Wlk.cells) ∧ Chg [g] w w' := by
  have hcl : ∀ x : Wlk, (Wlk.cells x).length = 5 := fun _ => rfl
  obtain rfl : cap = xs.length := by omega
  clear hcap0 hcap
  generalize hm : xs.length = n at *
  obtain ⟨D, hD⟩ : ∃ D, (xs.flatMap Wlk.cells).drop (i * 5) = D := ⟨_, rfl⟩
  have hDl : D.length = (n - i) * 5 := by rw [← hD, List.length_drop, hl, Nat.sub_mul]
  have hone : ∀ v ∈ xs.flatMap Wlk.cells, v.oneCell' = true := fun v hv => by
    obtain ⟨x, _, hx⟩ := List.mem_flatMap.1 hv
    exact Wlk_one x v hx
  obtain ⟨i0, hi0, hz0, hs0, hbb0⟩ : ∃ i0, Try.prog.info? 52 = some i0 ∧ i0.zero = some (.agg #[.int .i64 0, .int .i64 0, .int .i64 0, .int .i64 0, .int .i64 0]) ∧ i0.size = 5 ∧ i0.bytes = 40 := ⟨_, rfl, rfl, rfl, rfl⟩
  have hA : (xs.flatMap Wlk.cells).take (i * 5) = (xs.take i).flatMap Wlk.cells := (flatMap_take hcl xs i (by omega)).symm
  have hold : (Builtin.firstCells i0.size i (.slice (some ⟨g, 0, none⟩) i n)).run Try.prog w.drew = .ok ((xs.flatMap Wlk.cells).take (i * 5)).toArray w.drew := by
    rw [hs0]
    refine run_firstCells_some w.drew 5 i ⟨g, 0, none⟩ i n _ (by rw [List.length_take, hl]; omega) (fun j v hj => ?_)
    rw [ld_add, Nat.zero_add]
    refine (cell_blk (w := w.drew) hB _).trans ?_
    rw [List.getElem?_take] at hj
    split at hj
    · rw [← ht, List.getElem?_take] at hj
      split at hj
      · simpa using hj
      · cases hj
    · cases hj
  have hrz : ∀ ty, (Builtin.append_ #[50, 3] ty #[.slice (some ⟨g, 0, none⟩) i n, .int .i64 ((n : Int) + 1 - (i : Int))]).run Try.prog w =
      .ok (.slice (some ⟨w.heap.size, 0, none⟩) (n + 1) (grownCap w (n + 1) n 52)) (w.drew.alloc (.cells (((xs.flatMap Wlk.cells).take (i * 5)).toArray ++ Builtin.zeroCells (Value.cells (.agg #[.int .i64 0, .int .i64 0, .int .i64 0, .int .i64 0, .int .i64 0])) (n + 1 - i) ++ Builtin.zeroCells (Value.cells (.agg #[.int .i64 0, .int .i64 0, .int .i64 0, .int .i64 0, .int .i64 0])) (grownCap w (n + 1) n 52 - (n + 1))) 52)) := fun ty => by
    have hik : i + (n + 1 - i) = n + 1 := by omega
    have hkk : (n : Int) + 1 - (i : Int) = ((n + 1 - i : Nat) : Int) := by omega
    have h := Lib.run_append_grow_zeros (P := Try.prog) w 50 3 ty 52 i0 _ .i64 .i64 Try.underlying50 Try.underlying3 hi0 hz0 (some ⟨g, 0, none⟩) i n _ hold (n + 1 - i) (by omega) (by omega) (by omega) (by omega) (by rw [hbb0]; omega) (by rw [hbb0, hik]; exact growslice_fits (by omega) (by omega))
    rw [hik] at h
    rw [hkk]
    exact h
  obtain ⟨G, hG⟩ : ∃ G, G = grownCap w (n + 1) n 52 := ⟨_, rfl⟩
  have hGn : n + 1 ≤ G := by rw [hG]; exact grownCap_ge w _ _ _
  have hG63 : G ≤ 9223372036854775807 := by
    have := grownCap_le_maxLen w (n + 1) n 52 (by unfold maxLen; omega)
    rw [← hG] at this
    unfold maxLen at this
    omega
  obtain ⟨ROW, hROW⟩ : ∃ ROW : Array Value, ROW = ((xs.flatMap Wlk.cells).take (i * 5)).toArray ++ Builtin.zeroCells (Value.cells (.agg #[.int .i64 0, .int .i64 0, .int .i64 0, .int .i64 0, .int .i64 0])) (n + 1 - i) ++ Builtin.zeroCells (Value.cells (.agg #[.int .i64 0, .int .i64 0, .int .i64 0, .int .i64 0, .int .i64 0])) (G - (n + 1)) := ⟨_, rfl⟩
  rw [← hG] at hrz
  rw [← hROW] at hrz
  have hzl : ∀ m, (Builtin.zeroCells (Value.cells (.agg #[.int .i64 0, .int .i64 0, .int .i64 0, .int .i64 0, .int .i64 0])) m).size = m * 5 := fun m => by
    simp [Builtin.zeroCells, Value.cells]
  have hRl : ROW.size = G * 5 := by
    rw [hROW, Array.size_append, Array.size_append, hzl, hzl, List.size_toArray, List.length_take, hl]
    omega
  have hRp : ∀ j, j < i * 5 → ROW[j]? = (xs.flatMap Wlk.cells)[j]? := fun j hj => by
    rw [hROW, Array.append_assoc, Array.getElem?_append, if_pos (by rw [List.size_toArray, List.length_take, hl]; omega), List.getElem?_toArray, List.getElem?_take, if_pos hj]
  obtain ⟨W1, hW1⟩ : ∃ W1, w.drew.alloc (.cells ROW 52) = W1 := ⟨_, rfl⟩
  obtain ⟨b, hbe⟩ : ∃ b, w.heap.size = b := ⟨_, rfl⟩
  have hb1 : W1.heap[b]? = some (.cells ROW 52 (0, 0)) := by rw [← hW1, ← hbe]; exact alloc_last rfl
  have hch1 : Chg [] w W1 := by rw [← hW1]; exact Chg.alloc (Chg.drew (Chg.refl _ _))
  have hvb := lt_blk hy
  have hgb := lt_blk hB
  have hbv : b ≠ vb := by omega
  have hbg : b ≠ g := by omega
  have hy1 : W1.heap[vb]? = some (.cells (Wlk.cells y).toArray 52 (0, 0)) := (hch1.block vb hvb (by simp)).trans hy
  have hg1 : W1.heap[g]? = some (.cells cur 52 (0, 0)) := (hch1.block g hgb (by simp)).trans hB
  rw [hW1, hbe] at hrz
  have hc2 := run_copy_k (P := Try.prog) W1 50 50 3 52 b (i * 5) (n + 1 - i) (G - i) ⟨vb, 0, none⟩ 1 vc 5 1 (Wlk.cells y) Try.underlying50 (by kernel_rfl)
    (by simp only [Nat.min_def]; split <;> omega) (by rw [hcl, Nat.one_mul]) (fun j u hu => by rw [ld_add, Nat.zero_add, cell_blk hy1]; simpa using hu)
    (fun j hj => by rw [hcl] at hj; obtain ⟨u, hu⟩ := some_blk hb1 (i * 5 + j) (by omega); rw [hu]; rfl) (fun j hj => frozen_blk hb1 _) (Wlk_one y)
  obtain ⟨W2, hW2⟩ : ∃ W2, setRow W1 b (i * 5) (Wlk.cells y) = W2 := ⟨_, rfl⟩
  rw [hW2] at hc2
  have hb2 : W2.heap[b]? = some (.cells (putRow ROW (i * 5) (Wlk.cells y)) 52 (0, 0)) := by rw [← hW2]; exact blk_setRow _ hb1
  have hch2 : Chg [b] W1 W2 := by rw [← hW2]; exact Chg.setRow (by simp) _ (Chg.refl _ _)
  have hg2 : W2.heap[g]? = some (.cells cur 52 (0, 0)) := (hch2.block g (lt_blk hg1) (by simpa using Ne.symm hbg)).trans hg1
  have hget : ∀ j u, D[j]? = some u → cur[i * 5 + j]? = some u := fun j u hu => by
    rw [← hD, List.getElem?_drop, ← ht, List.getElem?_take] at hu
    split at hu
    · simpa using hu
    · cases hu
  have hc3 := run_copy_k (P := Try.prog) W2.drew 50 50 3 52 b ((i + 1) * 5) (n - i) (G - (i + 1)) ⟨g, i * 5, none⟩ (n - i) (n - i) 5 (n - i) D Try.underlying50 (by kernel_rfl)
    (by simp only [Nat.min_def]; split <;> omega) hDl (fun j u hu => by rw [ld_add]; exact (cell_blk (w := W2.drew) hg2 _).trans (hget j u hu))
    (fun j hj => by obtain ⟨u, hu⟩ := some_blk (w := W2.drew) hb2 ((i + 1) * 5 + j) (by rw [putRow_size]; omega); rw [hu]; rfl) (fun j hj => frozen_blk (w := W2.drew) hb2 _)
    (fun v hv => hone v (List.mem_of_mem_drop (hD ▸ hv)))
  have HRZ := hid hrz
  have HC2 := hid hc2
  have HC3 := hid hc3
  have HB2 := hid hb2
  have HCH := hid (show Chg [] w W1 ∧ Chg [b] W1 W2 from ⟨hch1, hch2⟩)
  have HL := hid hl
  have HD := hid hD
  have HRL := hid hRl
  have HRP := hid hRp
  have HBE := hid hbe
  clear hrz hc2 hc3 hb2 hg2 hch2 hch1 hb1 hy1 hg1 hW2 hW1 hl hD hRl hRp hROW hzl hG hget hold hi0 hz0 hs0 hbb0 hA hone hB hy ht i0 hbe
  have hcn : ¬ (n = i) := by omega
  have hGi : ¬ (G = i) := by omega
  have hGi1 : ¬ (G = i + 1) := by omega
  go_enter Try.func73, Try.ntmps73
  go_wp2_with (first | (at_builtin; refine Lib.wpList_append_run _ rfl _ _ _ _ rfl _ _ rfl rfl _ _ (HRZ.out _) ?_) | (simp only [HC2.out]))
  with_reducible refine wp_region_mixR (R := b) (by kernel_rfl) (by decide +kernel) ?_
  repeat (refine mix_pure rfl ?_; (first | go_big_quiet_skip | (go_big_quiet_want; go_big_quiet_op; go_big_quiet_on)); refine wpQuiet_nil ?_)
  refine mix_mk rfl (by rfl) (fun K hK => ?_)
  refine wp_copy_run _ _ _ _ _ rfl rfl rfl HC3.out ?_
  refine hK _ _ (extR_of ?_) ?_
  · exact Chg.setRow (by simp) _ (Chg.refl _ _)
  clear hK K
  refine mix_nil ?_
  go_wp2
  go_ret
  have hb3 := blk_setRow (w := W2.drew) (o := (i + 1) * 5) D HB2.out
  have hil : i ≤ xs.length := by omega
  refine ⟨.slice (some ⟨b, 0, none⟩) (n + 1) G, rfl, ⟨by rw [flatMap_len hcl], .inr ⟨b, G, _, by rw [insAt_len _ _ _ hil, hm], by rw [← HBE.out]; exact hb0, hb3, by rw [insAt_len _ _ _ hil, hm]; omega, by simpa [maxLen] using hG63, by rw [putRow_size, putRow_size, HRL.out], ?_⟩⟩, ?_⟩
  · rw [insAt_flat hcl _ _ _ hil, insAt_len _ _ _ hil, hm, Nat.add_mul, Nat.one_mul]
    have hNk : n * 5 + 5 ≤ ROW.size := by rw [HRL.out]; have : (n + 1) * 5 ≤ G * 5 := Nat.mul_le_mul_right _ hGn; omega
    refine ins_row HL.out rfl (by omega) (by rw [putRow_size, putRow_size]; exact hNk) fun j hj => ?_
    have := ins_new (cy := Wlk.cells y) (p := i * 5) HL.out rfl (by omega) hNk HRP.out j hj
    rw [← HD.out, show (i + 1) * 5 = i * 5 + 5 by omega]
    exact this
  · have h1 : Chg [] w W2 := Chg.up HCH.out.1 HCH.out.2 (by simp [HBE.out])
    exact (Chg.up h1 (Chg.setRow (B := [b]) (by simp) D (Chg.drew (Chg.refl _ _))) (by simp [HBE.out])).mono (by simp)
/-- slices.Insert(s, i, y) of a row of one's own: a row of one's own with y at i. -/
theorem insWlk_c (xs : List Wlk) (y : Wlk) (v : Value) (i vb vc base : Nat) (w : World) (hown : w.ownsRow base 52 5 v xs.length (xs.flatMap Wlk.cells)) (hb : base ≤ w.heap.size) (hi : i ≤ xs.length) (hy : w.heap[vb]? = some (.cells (Wlk.cells y).toArray 52 (0, 0))) (hvb : ∀ g, v.ownBlock = some g → vb ≠ g) (hn : xs.length ≤ 1048576) :
    Calls Try.prog 73 #[v, .int .i64 i, .slice (some ⟨vb, 0, none⟩) 1 vc] w fun e w' => ∃ v', e = .returned v' ∧ w'.ownsRow base 52 5 v' (insAt xs i y).length ((insAt xs i y).flatMap Wlk.cells) ∧ Chg v.ownBlock.toList w w' := by
  rcases Nat.lt_or_ge i xs.length with hlt | hge
  · rcases hown.2 with ⟨_, h0⟩ | ⟨g, cap, cur, rfl, hg, hB, hc, hcm, hcs, ht⟩
    · omega
    · simp only [maxLen] at hcm
      rcases Nat.lt_or_ge xs.length cap with h1 | h1
      · exact insWlk_room xs y g cap i vb vc base cur w hown.1 h1 hcm hg hB hcs ht hlt hy (hvb g rfl) hn
      · exact insWlk_full xs y g cap i vb vc base cur w hown.1 hc (by omega) hcm hb hB hcs ht hlt hy hn
  · obtain rfl : i = xs.length := by omega
    exact insWlk_end xs y v vb vc base w hown hb hy hn
theorem Gst_one (x : Gst) : ∀ u ∈ Gst.cells x, u.oneCell' = true := by
  intro u hu
  simp only [Gst.cells, List.mem_cons, List.mem_nil_iff, or_false] at hu
  (repeat (first | (rcases hu with rfl | hu; rfl) | (subst hu; rfl)))
set_option maxRecDepth 100000 in
set_option maxHeartbeats 4000000 in
theorem insGst_end (xs : List Gst) (y : Gst) (v : Value) (vb vc base : Nat) (w : World) (hown : w.ownsRow base 71 7 v xs.length (xs.flatMap Gst.cells)) (hb : base ≤ w.heap.size) (hy : w.heap[vb]? = some (.cells (Gst.cells y).toArray 71 (0, 0))) (hn : xs.length ≤ 1048576) :
    Calls Try.prog 95 #[v, .int .i64 xs.length, .slice (some ⟨vb, 0, none⟩) 1 vc] w fun e w' => ∃ v', e = .returned v' ∧ w'.ownsRow base 71 7 v' (insAt xs xs.length y).length ((insAt xs xs.length y).flatMap Gst.cells) ∧ Chg v.ownBlock.toList w w' := by
  rw [insAt_end]
  have HO := hid hown
  have HY := hid hy
  rcases hown.2 with ⟨rfl, h0⟩ | ⟨g, cap, cur, rfl, hg, hB, hc, hcm, hcs, ht⟩
  · obtain rfl := List.eq_nil_of_length_eq_zero h0
    clear hown hy h0
    go_enter Try.func95, Try.ntmps95
    go_wp2_with (at_builtin; refine wpList_appRZ (xs := []) (k := 7) (bytes := 56) (z := .agg #[.int .i64 0, .int .i64 0, .int .i64 0, .int .i64 0, .int .i64 0, .int .i64 0, .int .i64 0]) Try.underlying69 (by kernel_rfl) rfl (by decide) (by decide) (fun _ => rfl) Gst_one rfl base _ _ rfl rfl hb HO.out y rfl HY.out (by simp) ?_; intro v' w' hg hc; have HG := hid hg; have HC := hid hc; clear hg hc)
    go_ret
    exact ⟨_, rfl, HG.out, HC.out⟩
  · clear hown hy ht hcs hB
    simp only [maxLen] at hcm
    generalize hm : xs.length = n at *
    by_cases hcn : cap = n
    · subst hcn
      go_enter Try.func95, Try.ntmps95
      go_wp2_with (at_builtin; refine wpList_appRZ (xs := xs) (k := 7) (bytes := 56) (z := .agg #[.int .i64 0, .int .i64 0, .int .i64 0, .int .i64 0, .int .i64 0, .int .i64 0, .int .i64 0]) Try.underlying69 (by kernel_rfl) rfl (by decide) (by decide) (fun _ => rfl) Gst_one rfl base _ _ rfl rfl hb (by rw [hm]; exact HO.out) y rfl HY.out (by omega) ?_; intro v' w' hg hc; have HG := hid hg; have HC := hid hc; clear hg hc)
      go_ret
      exact ⟨_, rfl, HG.out, HC.out⟩
    · go_enter Try.func95, Try.ntmps95
      go_wp2_with (at_builtin; refine wpList_appRZ (xs := xs) (k := 7) (bytes := 56) (z := .agg #[.int .i64 0, .int .i64 0, .int .i64 0, .int .i64 0, .int .i64 0, .int .i64 0, .int .i64 0]) Try.underlying69 (by kernel_rfl) rfl (by decide) (by decide) (fun _ => rfl) Gst_one rfl base _ _ rfl rfl hb (by rw [hm]; exact HO.out) y rfl HY.out (by omega) ?_; intro v' w' hg hc; have HG := hid hg; have HC := hid hc; clear hg hc)
      go_ret
      exact ⟨_, rfl, HG.out, HC.out⟩
set_option maxRecDepth 100000 in
set_option maxHeartbeats 4000000 in
theorem insGst_room (xs : List Gst) (y : Gst) (g cap i vb vc base : Nat) (cur : Array Value) (w : World) (hl : (xs.flatMap Gst.cells).length = xs.length * 7) (hcap : xs.length < cap) (hcm : cap ≤ 9223372036854775807) (hg : base ≤ g) (hB : w.heap[g]? = some (.cells cur 71 (0, 0))) (hcs : cur.size = cap * 7) (ht : cur.toList.take (xs.length * 7) = xs.flatMap Gst.cells)
    (hi : i < xs.length) (hy : w.heap[vb]? = some (.cells (Gst.cells y).toArray 71 (0, 0))) (hvb : vb ≠ g) (hn : xs.length ≤ 1048576) :
    Calls Try.prog 95 #[.slice (some ⟨g, 0, none⟩) xs.length cap, .int .i64 i, .slice (some ⟨vb, 0, none⟩) 1 vc] w fun e w' => ∃ v', e = .returned v' ∧ w'.ownsRow base 71 7 v' (insAt xs i y).length ((insAt xs i y).flatMap Gst.cells) ∧ Chg [g] w w' := by
  have hcl : ∀ x : Gst, (Gst.cells x).length = 7 := fun _ => rfl
  obtain ⟨D, hD⟩ : ∃ D, (xs.flatMap Gst.cells).drop (i * 7) = D := ⟨_, rfl⟩
  have hDl : D.length = (xs.length - i) * 7 := by rw [← hD, List.length_drop, hl, Nat.sub_mul]
  have hone : ∀ v ∈ xs.flatMap Gst.cells, v.oneCell' = true := fun v hv => by
    obtain ⟨x, _, hx⟩ := List.mem_flatMap.1 hv
    exact Gst_one x v hx
  have hsz : ∀ (w : World), (Go.sizeOf 71).run Try.prog w = .ok 7 w := fun w => sizeOf_run (by kernel_rfl) w
  have hszi : (Try.prog.info? 71).map (·.size) = some 7 := by kernel_rfl
  have hov : ∀ lb cb, (callFunc 98 #[.slice (some ⟨vb, 0, none⟩) 1 vc, .slice (some ⟨g, (i + 1) * 7, none⟩) lb cb]).run Try.prog w = .ok (.value (.bool false)) w := fun lb cb => by
    rw [run_callFunc_extern Try.func98 (by kernel_rfl) (by kernel_rfl) (by kernel_rfl) (e := Extern.SlicesOverlaps.overlaps #[69, 69] #[4]) (by kernel_rfl),
      Lib.run_overlaps_apart w 69 4 71 Try.underlying69 7 hsz ⟨vb, 0, none⟩ ⟨g, (i + 1) * 7, none⟩ 1 vc lb cb hvb 71 71 7 cur.size (by simp [World.shape?, hy, Gst.cells]) (by simp [World.shape?, hB]) (by omega) (frozen_blk hy 0) (frozen_blk hy 7)]
    rfl
  generalize hm : xs.length = n at *
  have HB := hid hB
  have HY := hid hy
  have HT := hid ht
  have HD := hid hD
  have HL := hid hl
  clear hB hy ht hD hl hone hszi
  go_enter Try.func95, Try.ntmps95
  go_wp2_with (simp only [hov])
  have hget : ∀ j u, D[j]? = some u → cur[i * 7 + j]? = some u := fun j u hu => by
    rw [← HD.out, List.getElem?_drop, ← HT.out, List.getElem?_take] at hu
    split at hu
    · simpa using hu
    · cases hu
  have hin : i * 7 + 7 ≤ n * 7 := by omega
  have hc1 := run_copy_k (P := Try.prog) w.drew 69 69 3 71 g ((i + 1) * 7) (n - i) (cap - (i + 1)) ⟨g, i * 7, none⟩ (n + 1 - i) (cap - i) 7 (n - i) D Try.underlying69 (by kernel_rfl)
    (by simp only [Nat.min_def]; split <;> omega) hDl (fun j u hu => by rw [ld_add]; exact (cell_blk (w := w.drew) HB.out _).trans (hget j u hu))
    (fun j hj => by obtain ⟨u, hu⟩ := some_blk (w := w.drew) HB.out ((i + 1) * 7 + j) (by omega); rw [hu]; rfl) (fun j hj => frozen_blk (w := w.drew) HB.out _)
    (fun v hv => by
      rw [← HD.out] at hv
      obtain ⟨x, _, hx⟩ := List.mem_flatMap.1 (List.mem_of_mem_drop hv)
      exact Gst_one x v hx)
  have HC1 := hid hc1
  clear hc1 hget
  with_reducible refine wp_region_mixR (R := g) (by kernel_rfl) (by decide +kernel) ?_
  repeat (refine mix_pure rfl ?_; (first | go_big_quiet_skip | (go_big_quiet_want; go_big_quiet_op; go_big_quiet_on)); refine wpQuiet_nil ?_)
  refine mix_mk rfl (by rfl) (fun K hK => ?_)
  refine wp_copy_run _ _ _ _ _ rfl rfl rfl HC1.out ?_
  refine hK _ _ (extR_of ?_) ?_
  · exact Chg.setRow (by simp) _ (Chg.refl _ _)
  clear hK K
  refine mix_nil ?_
  obtain ⟨W1, hW1⟩ : ∃ W1, setRow w.drew g ((i + 1) * 7) D = W1 := ⟨_, rfl⟩
  have hb1 : W1.heap[g]? = some (.cells (putRow cur ((i + 1) * 7) D) 71 (0, 0)) := by rw [← hW1]; exact blk_setRow D HB.out
  have hch1 : Chg [g] w W1 := by rw [← hW1]; exact Chg.setRow (by simp) _ (Chg.drew (Chg.refl _ _))
  have hy1 : W1.heap[vb]? = some (.cells (Gst.cells y).toArray 71 (0, 0)) := (hch1.block vb (lt_blk HY.out) (by simpa using hvb)).trans HY.out
  have hps : (putRow cur ((i + 1) * 7) D).size = cap * 7 := by rw [putRow_size, hcs]
  have hc2 := run_copy_k (P := Try.prog) W1 69 69 3 71 g (i * 7) (n + 1 - i) (cap - i) ⟨vb, 0, none⟩ 1 vc 7 1 (Gst.cells y) Try.underlying69 (by kernel_rfl)
    (by simp only [Nat.min_def]; split <;> omega) (by rw [hcl, Nat.one_mul]) (fun j u hu => by rw [ld_add, Nat.zero_add, cell_blk hy1]; simpa using hu)
    (fun j hj => by rw [hcl] at hj; obtain ⟨u, hu⟩ := some_blk hb1 (i * 7 + j) (by omega); rw [hu]; rfl) (fun j hj => frozen_blk hb1 _) (Gst_one y)
  rw [hW1]
  have HC2 := hid hc2
  have HB1 := hid hb1
  have HCH1 := hid hch1
  clear hW1 hb1 hch1 hy1 hc2 HC1
  go_wp2_with (simp only [HC2.out])
  go_ret
  have hb2 := blk_setRow (o := i * 7) (Gst.cells y) HB1.out
  have hil : i ≤ xs.length := by omega
  refine ⟨.slice (some ⟨g, 0, none⟩) (n + 1) cap, rfl, ⟨by rw [flatMap_len hcl], .inr ⟨g, cap, _, by rw [insAt_len _ _ _ hil, hm], hg, hb2, by rw [insAt_len _ _ _ hil, hm]; omega, by simpa [maxLen] using hcm, by rw [putRow_size, hps], ?_⟩⟩, Chg.setRow (by simp) _ HCH1.out⟩
  rw [insAt_flat hcl _ _ _ hil, insAt_len _ _ _ hil, hm, Nat.add_mul, Nat.one_mul]
  have hNk : n * 7 + 7 ≤ cur.size := by rw [hcs]; have : (n + 1) * 7 ≤ cap * 7 := Nat.mul_le_mul_right _ hcap; omega
  refine ins_row HL.out rfl (by omega) (by rw [putRow_size, putRow_size]; exact hNk) fun j hj => ?_
  have := ins_shift (cy := Gst.cells y) (p := i * 7) HL.out rfl (by omega) hNk HT.out j hj
  rw [← HD.out, show (i + 1) * 7 = i * 7 + 7 by omega]
  exact this
set_option maxRecDepth 100000 in
set_option maxHeartbeats 4000000 in
theorem insGst_full (xs : List Gst) (y : Gst) (g cap i vb vc base : Nat) (cur : Array Value) (w : World) (hl : (xs.flatMap Gst.cells).length = xs.length * 7) (hcap0 : xs.length ≤ cap) (hcap : cap < xs.length + 1) (hcm : cap ≤ 9223372036854775807) (hb0 : base ≤ w.heap.size) (hB : w.heap[g]? = some (.cells cur 71 (0, 0))) (hcs : cur.size = cap * 7) (ht : cur.toList.take (xs.length * 7) = xs.flatMap Gst.cells)
    (hi : i < xs.length) (hy : w.heap[vb]? = some (.cells (Gst.cells y).toArray 71 (0, 0))) (hn : xs.length ≤ 1048576) :
    Calls Try.prog 95 #[.slice (some ⟨g, 0, none⟩) xs.length cap, .int .i64 i, .slice (some ⟨vb, 0, none⟩) 1 vc] w fun e w' => ∃ v', e = .returned v' ∧ w'.ownsRow base 71 7 v' (insAt xs i y).length ((insAt xs i y).flatMap Gst.cells) ∧ Chg [g] w w' := by
  have hcl : ∀ x : Gst, (Gst.cells x).length = 7 := fun _ => rfl
  obtain rfl : cap = xs.length := by omega
  clear hcap0 hcap
  generalize hm : xs.length = n at *
  obtain ⟨D, hD⟩ : ∃ D, (xs.flatMap Gst.cells).drop (i * 7) = D := ⟨_, rfl⟩
  have hDl : D.length = (n - i) * 7 := by rw [← hD, List.length_drop, hl, Nat.sub_mul]
  have hone : ∀ v ∈ xs.flatMap Gst.cells, v.oneCell' = true := fun v hv => by
    obtain ⟨x, _, hx⟩ := List.mem_flatMap.1 hv
    exact Gst_one x v hx
  obtain ⟨i0, hi0, hz0, hs0, hbb0⟩ : ∃ i0, Try.prog.info? 71 = some i0 ∧ i0.zero = some (.agg #[.int .i64 0, .int .i64 0, .int .i64 0, .int .i64 0, .int .i64 0, .int .i64 0, .int .i64 0]) ∧ i0.size = 7 ∧ i0.bytes = 56 := ⟨_, rfl, rfl, rfl, rfl⟩
  have hA : (xs.flatMap Gst.cells).take (i * 7) = (xs.take i).flatMap Gst.cells := (flatMap_take hcl xs i (by omega)).symm
  have hold : (Builtin.firstCells i0.size i (.slice (some ⟨g, 0, none⟩) i n)).run Try.prog w.drew = .ok ((xs.flatMap Gst.cells).take (i * 7)).toArray w.drew := by
    rw [hs0]
    refine run_firstCells_some w.drew 7 i ⟨g, 0, none⟩ i n _ (by rw [List.length_take, hl]; omega) (fun j v hj => ?_)
    rw [ld_add, Nat.zero_add]
    refine (cell_blk (w := w.drew) hB _).trans ?_
    rw [List.getElem?_take] at hj
    split at hj
    · rw [← ht, List.getElem?_take] at hj
      split at hj
      · simpa using hj
      · cases hj
    · cases hj
  have hrz : ∀ ty, (Builtin.append_ #[69, 3] ty #[.slice (some ⟨g, 0, none⟩) i n, .int .i64 ((n : Int) + 1 - (i : Int))]).run Try.prog w =
      .ok (.slice (some ⟨w.heap.size, 0, none⟩) (n + 1) (grownCap w (n + 1) n 71)) (w.drew.alloc (.cells (((xs.flatMap Gst.cells).take (i * 7)).toArray ++ Builtin.zeroCells (Value.cells (.agg #[.int .i64 0, .int .i64 0, .int .i64 0, .int .i64 0, .int .i64 0, .int .i64 0, .int .i64 0])) (n + 1 - i) ++ Builtin.zeroCells (Value.cells (.agg #[.int .i64 0, .int .i64 0, .int .i64 0, .int .i64 0, .int .i64 0, .int .i64 0, .int .i64 0])) (grownCap w (n + 1) n 71 - (n + 1))) 71)) := fun ty => by
    have hik : i + (n + 1 - i) = n + 1 := by omega
    have hkk : (n : Int) + 1 - (i : Int) = ((n + 1 - i : Nat) : Int) := by omega
    have h := Lib.run_append_grow_zeros (P := Try.prog) w 69 3 ty 71 i0 _ .i64 .i64 Try.underlying69 Try.underlying3 hi0 hz0 (some ⟨g, 0, none⟩) i n _ hold (n + 1 - i) (by omega) (by omega) (by omega) (by omega) (by rw [hbb0]; omega) (by rw [hbb0, hik]; exact growslice_fits (by omega) (by omega))
    rw [hik] at h
    rw [hkk]
    exact h
  obtain ⟨G, hG⟩ : ∃ G, G = grownCap w (n + 1) n 71 := ⟨_, rfl⟩
  have hGn : n + 1 ≤ G := by rw [hG]; exact grownCap_ge w _ _ _
  have hG63 : G ≤ 9223372036854775807 := by
    have := grownCap_le_maxLen w (n + 1) n 71 (by unfold maxLen; omega)
    rw [← hG] at this
    unfold maxLen at this
    omega
  obtain ⟨ROW, hROW⟩ : ∃ ROW : Array Value, ROW = ((xs.flatMap Gst.cells).take (i * 7)).toArray ++ Builtin.zeroCells (Value.cells (.agg #[.int .i64 0, .int .i64 0, .int .i64 0, .int .i64 0, .int .i64 0, .int .i64 0, .int .i64 0])) (n + 1 - i) ++ Builtin.zeroCells (Value.cells (.agg #[.int .i64 0, .int .i64 0, .int .i64 0, .int .i64 0, .int .i64 0, .int .i64 0, .int .i64 0])) (G - (n + 1)) := ⟨_, rfl⟩
  rw [← hG] at hrz
  rw [← hROW] at hrz
  have hzl : ∀ m, (Builtin.zeroCells (Value.cells (.agg #[.int .i64 0, .int .i64 0, .int .i64 0, .int .i64 0, .int .i64 0, .int .i64 0, .int .i64 0])) m).size = m * 7 := fun m => by
    simp [Builtin.zeroCells, Value.cells]
  have hRl : ROW.size = G * 7 := by
    rw [hROW, Array.size_append, Array.size_append, hzl, hzl, List.size_toArray, List.length_take, hl]
    omega
  have hRp : ∀ j, j < i * 7 → ROW[j]? = (xs.flatMap Gst.cells)[j]? := fun j hj => by
    rw [hROW, Array.append_assoc, Array.getElem?_append, if_pos (by rw [List.size_toArray, List.length_take, hl]; omega), List.getElem?_toArray, List.getElem?_take, if_pos hj]
  obtain ⟨W1, hW1⟩ : ∃ W1, w.drew.alloc (.cells ROW 71) = W1 := ⟨_, rfl⟩
  obtain ⟨b, hbe⟩ : ∃ b, w.heap.size = b := ⟨_, rfl⟩
  have hb1 : W1.heap[b]? = some (.cells ROW 71 (0, 0)) := by rw [← hW1, ← hbe]; exact alloc_last rfl
  have hch1 : Chg [] w W1 := by rw [← hW1]; exact Chg.alloc (Chg.drew (Chg.refl _ _))
  have hvb := lt_blk hy
  have hgb := lt_blk hB
  have hbv : b ≠ vb := by omega
  have hbg : b ≠ g := by omega
  have hy1 : W1.heap[vb]? = some (.cells (Gst.cells y).toArray 71 (0, 0)) := (hch1.block vb hvb (by simp)).trans hy
  have hg1 : W1.heap[g]? = some (.cells cur 71 (0, 0)) := (hch1.block g hgb (by simp)).trans hB
  rw [hW1, hbe] at hrz
  have hc2 := run_copy_k (P := Try.prog) W1 69 69 3 71 b (i * 7) (n + 1 - i) (G - i) ⟨vb, 0, none⟩ 1 vc 7 1 (Gst.cells y) Try.underlying69 (by kernel_rfl)
    (by simp only [Nat.min_def]; split <;> omega) (by rw [hcl, Nat.one_mul]) (fun j u hu => by rw [ld_add, Nat.zero_add, cell_blk hy1]; simpa using hu)
    (fun j hj => by rw [hcl] at hj; obtain ⟨u, hu⟩ := some_blk hb1 (i * 7 + j) (by omega); rw [hu]; rfl) (fun j hj => frozen_blk hb1 _) (Gst_one y)
  obtain ⟨W2, hW2⟩ : ∃ W2, setRow W1 b (i * 7) (Gst.cells y) = W2 := ⟨_, rfl⟩
  rw [hW2] at hc2
  have hb2 : W2.heap[b]? = some (.cells (putRow ROW (i * 7) (Gst.cells y)) 71 (0, 0)) := by rw [← hW2]; exact blk_setRow _ hb1
  have hch2 : Chg [b] W1 W2 := by rw [← hW2]; exact Chg.setRow (by simp) _ (Chg.refl _ _)
  have hg2 : W2.heap[g]? = some (.cells cur 71 (0, 0)) := (hch2.block g (lt_blk hg1) (by simpa using Ne.symm hbg)).trans hg1
  have hget : ∀ j u, D[j]? = some u → cur[i * 7 + j]? = some u := fun j u hu => by
    rw [← hD, List.getElem?_drop, ← ht, List.getElem?_take] at hu
    split at hu
    · simpa using hu
    · cases hu
  have hc3 := run_copy_k (P := Try.prog) W2.drew 69 69 3 71 b ((i + 1) * 7) (n - i) (G - (i + 1)) ⟨g, i * 7, none⟩ (n - i) (n - i) 7 (n - i) D Try.underlying69 (by kernel_rfl)
    (by simp only [Nat.min_def]; split <;> omega) hDl (fun j u hu => by rw [ld_add]; exact (cell_blk (w := W2.drew) hg2 _).trans (hget j u hu))
    (fun j hj => by obtain ⟨u, hu⟩ := some_blk (w := W2.drew) hb2 ((i + 1) * 7 + j) (by rw [putRow_size]; omega); rw [hu]; rfl) (fun j hj => frozen_blk (w := W2.drew) hb2 _)
    (fun v hv => hone v (List.mem_of_mem_drop (hD ▸ hv)))
  have HRZ := hid hrz
  have HC2 := hid hc2
  have HC3 := hid hc3
  have HB2 := hid hb2
  have HCH := hid (show Chg [] w W1 ∧ Chg [b] W1 W2 from ⟨hch1, hch2⟩)
  have HL := hid hl
  have HD := hid hD
  have HRL := hid hRl
  have HRP := hid hRp
  have HBE := hid hbe
  clear hrz hc2 hc3 hb2 hg2 hch2 hch1 hb1 hy1 hg1 hW2 hW1 hl hD hRl hRp hROW hzl hG hget hold hi0 hz0 hs0 hbb0 hA hone hB hy ht i0 hbe
  have hcn : ¬ (n = i) := by omega
  have hGi : ¬ (G = i) := by omega
  have hGi1 : ¬ (G = i + 1) := by omega
  go_enter Try.func95, Try.ntmps95
  go_wp2_with (first | (at_builtin; refine Lib.wpList_append_run _ rfl _ _ _ _ rfl _ _ rfl rfl _ _ (HRZ.out _) ?_) | (simp only [HC2.out]))
  with_reducible refine wp_region_mixR (R := b) (by kernel_rfl) (by decide +kernel) ?_
  repeat (refine mix_pure rfl ?_; (first | go_big_quiet_skip | (go_big_quiet_want; go_big_quiet_op; go_big_quiet_on)); refine wpQuiet_nil ?_)
  refine mix_mk rfl (by rfl) (fun K hK => ?_)
  refine wp_copy_run _ _ _ _ _ rfl rfl rfl HC3.out ?_
  refine hK _ _ (extR_of ?_) ?_
  · exact Chg.setRow (by simp) _ (Chg.refl _ _)
  clear hK K
  refine mix_nil ?_
  go_wp2
  go_ret
  have hb3 := blk_setRow (w := W2.drew) (o := (i + 1) * 7) D HB2.out
  have hil : i ≤ xs.length := by omega
  refine ⟨.slice (some ⟨b, 0, none⟩) (n + 1) G, rfl, ⟨by rw [flatMap_len hcl], .inr ⟨b, G, _, by rw [insAt_len _ _ _ hil, hm], by rw [← HBE.out]; exact hb0, hb3, by rw [insAt_len _ _ _ hil, hm]; omega, by simpa [maxLen] using hG63, by rw [putRow_size, putRow_size, HRL.out], ?_⟩⟩, ?_⟩
  · rw [insAt_flat hcl _ _ _ hil, insAt_len _ _ _ hil, hm, Nat.add_mul, Nat.one_mul]
    have hNk : n * 7 + 7 ≤ ROW.size := by rw [HRL.out]; have : (n + 1) * 7 ≤ G * 7 := Nat.mul_le_mul_right _ hGn; omega
    refine ins_row HL.out rfl (by omega) (by rw [putRow_size, putRow_size]; exact hNk) fun j hj => ?_
    have := ins_new (cy := Gst.cells y) (p := i * 7) HL.out rfl (by omega) hNk HRP.out j hj
    rw [← HD.out, show (i + 1) * 7 = i * 7 + 7 by omega]
    exact this
  · have h1 : Chg [] w W2 := Chg.up HCH.out.1 HCH.out.2 (by simp [HBE.out])
    exact (Chg.up h1 (Chg.setRow (B := [b]) (by simp) D (Chg.drew (Chg.refl _ _))) (by simp [HBE.out])).mono (by simp)
/-- slices.Insert(s, i, y) of a row of one's own: a row of one's own with y at i. -/
theorem insGst_c (xs : List Gst) (y : Gst) (v : Value) (i vb vc base : Nat) (w : World) (hown : w.ownsRow base 71 7 v xs.length (xs.flatMap Gst.cells)) (hb : base ≤ w.heap.size) (hi : i ≤ xs.length) (hy : w.heap[vb]? = some (.cells (Gst.cells y).toArray 71 (0, 0))) (hvb : ∀ g, v.ownBlock = some g → vb ≠ g) (hn : xs.length ≤ 1048576) :
    Calls Try.prog 95 #[v, .int .i64 i, .slice (some ⟨vb, 0, none⟩) 1 vc] w fun e w' => ∃ v', e = .returned v' ∧ w'.ownsRow base 71 7 v' (insAt xs i y).length ((insAt xs i y).flatMap Gst.cells) ∧ Chg v.ownBlock.toList w w' := by
  rcases Nat.lt_or_ge i xs.length with hlt | hge
  · rcases hown.2 with ⟨_, h0⟩ | ⟨g, cap, cur, rfl, hg, hB, hc, hcm, hcs, ht⟩
    · omega
    · simp only [maxLen] at hcm
      rcases Nat.lt_or_ge xs.length cap with h1 | h1
      · exact insGst_room xs y g cap i vb vc base cur w hown.1 h1 hcm hg hB hcs ht hlt hy (hvb g rfl) hn
      · exact insGst_full xs y g cap i vb vc base cur w hown.1 hc (by omega) hcm hb hB hcs ht hlt hy hn
  · obtain rfl : i = xs.length := by omega
    exact insGst_end xs y v vb vc base w hown hb hy hn
end Go.Proofs.Ytbbpipbemhggdaa
