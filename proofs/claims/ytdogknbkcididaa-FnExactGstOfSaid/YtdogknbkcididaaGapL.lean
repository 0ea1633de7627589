/- The walk of a region in which one block is made at any time and stored into at the end. -/
import Derived.Test.YtdogknbkcididaaGap
import Derived.Test.YtdogknbkcididaaSt
namespace Go.Proofs.Ytdogknbkcididaa
open Go.RowKit
set_option linter.unusedSimpArgs false
set_option linter.unusedVariables false

@[go_sem] theorem drew_size' (w : World) : w.drew.heap.size = w.heap.size := rfl
@[go_sem] theorem drew_cell'' (w : World) (a : Addr) : w.drew.cell? a = w.cell? a := rfl
@[go_sem] theorem drew_frozen'' (w : World) (a : Addr) : w.drew.frozen? a = w.frozen? a := rfl
section
variable {P : Program} {ops : Array Oper} {Q : Exit → Act → World → Prop} {base : World} {K : List (Nat × Nat) → Act → World → Prop}
def wpGapL (P : Program) (ops : Array Oper) (base : World) (K : List (Nat × Nat) → Act → World → Prop) : List Oper → List (Nat × Nat) → Act → World → Prop
  | [], iv, a, w => K iv a w
  | o :: r, iv, a, w => if isMk o.op then (if Region.wanted o (yielded ops a.tmps) then ∀ W, Ext w W → o.wp P a W (fun a' w' => Ext W w' ∧ wpGapL P ops base K r ((W.heap.size, w'.heap.size) :: iv) a' w') Qn else wpGapL P ops base K r iv (a.put o.dst undef) w)
      else ∃ v, YieldsIf P ops (fun w' => ∃ t, w' = ext base t) o v a ∧ wpGapL P ops base K r iv (a.put o.dst v) w
theorem gap_of_list {K' : List (Nat × Nat) → Act → World → Prop} (hK : ∀ iv a w, K iv a w → K' iv a w) : ∀ (l : List Oper) (rem : List Nat) (iv : List (Nat × Nat)) (a : Act) (w : World), rem.map (fun i => ops[i]?) = l.map some → wpGapL P ops base K l iv a w → wpGap P ops base K' rem iv a w
  | [], rem, iv, a, w, hl, h => by
    obtain rfl : rem = [] := by simpa using hl
    exact hK iv a w h
  | o :: l, rem, iv, a, w, hl, h => by
    cases rem with
    | nil => simp at hl
    | cons i rem =>
      simp only [List.map_cons, List.cons.injEq] at hl
      simp only [wpGap, hl.1]
      simp only [wpGapL] at h
      split
      · rename_i hm
        rw [if_pos hm] at h
        split
        · rename_i hw
          rw [if_pos hw] at h
          exact fun W hE => wp_Qn' (fun a' w' ⟨h1, h2⟩ => ⟨h1, gap_of_list hK l rem _ a' w' hl.2 h2⟩) (h W hE)
        · rename_i hw
          rw [if_neg hw] at h
          exact gap_of_list hK l rem iv _ w hl.2 h
      · rename_i hm
        rw [if_neg hm] at h
        obtain ⟨v, hy, h⟩ := h
        exact ⟨v, hy, gap_of_list hK l rem iv _ w hl.2 h⟩

theorem gap_pure {o : Oper} {r : List Oper} {iv : List (Nat × Nat)} {a : Act} {w : World} (hk : isMk o.op = false) (h : wpQuiet P ops (fun w' => ∃ t, w' = ext base t) (fun a' => wpGapL P ops base K r iv a' w) [o] a) : wpGapL P ops base K (o :: r) iv a w := by
  unfold wpGapL
  rw [if_neg (by rw [hk]; decide)]
  unfold wpQuiet at h
  split at h
  · rename_i hw
    obtain ⟨v, h1, h2⟩ := h
    exact ⟨v, .inl ⟨hw, fun w hS => value_of_quiet hk (h1 w hS)⟩, h2⟩
  · rename_i hw
    exact ⟨undef, .inr ⟨by simpa using hw, rfl⟩, h⟩
theorem gap_skip {o : Oper} {r : List Oper} {iv : List (Nat × Nat)} {a : Act} {w : World} (hw : Region.wanted o (yielded ops a.tmps) = false) (h : wpGapL P ops base K r iv (a.put o.dst undef) w) : wpGapL P ops base K (o :: r) iv a w := by
  unfold wpGapL
  split
  · rw [if_neg (by rw [hw]; decide)]; exact h
  · exact ⟨_, .inr ⟨hw, rfl⟩, h⟩
theorem gap_mk {o : Oper} {r : List Oper} {iv : List (Nat × Nat)} {a : Act} {w : World} (hk : isMk o.op = true) (hw : Region.wanted o (yielded ops a.tmps) = true) (h : ∀ W, Ext w W → ∀ R : Act → World → Prop, (∀ a' w', Ext W w' → wpGapL P ops base K r ((W.heap.size, w'.heap.size) :: iv) a' w' → R a' w') → o.wp P a W R Qn) : wpGapL P ops base K (o :: r) iv a w := by
  unfold wpGapL
  rw [if_pos hk, if_pos hw]
  exact fun W hE => h W hE _ fun a' w' h1 h2 => ⟨h1, h2⟩

theorem st_blk {b : Nat} {T : TypeId} : ∀ (vs : List Value) (arr : Array Value) (w : World) (o i : Nat), w.heap[b]? = some (.cells arr T (0, 0)) → o + i + vs.length ≤ arr.size → (∀ v ∈ vs, v.oneCell' = true) →
    (storeCells ⟨b, o, none⟩ vs i).run P w = .ok () (setRow w b (o + i) vs)
  | [], arr, w, o, i, _, _, _ => by simp [storeCells, setRow]
  | v :: vs, arr, w, o, i, hb, h, hv => by
    simp only [List.length_cons] at h
    have hc : w.cell? ⟨b, o + i, none⟩ = some (arr[o + i]'(by omega)) := by rw [cell_blk hb]; exact Array.getElem?_eq_getElem _
    have hf := frozen_blk hb (o + i)
    have h1 := run_store P w ⟨b, o + i, none⟩ v .plain (hv v (by simp))
    have h2 := st_blk vs (arr.setIfInBounds (o + i) v) (w.setCell ⟨b, o + i, none⟩ v) o (i + 1) (blk_set hb) (by simp; omega) (fun u hu => hv u (by simp [hu]))
    simp only [hc, hf] at h1
    simp only [storeCells, ld_add, Sem.run_bind, h1, Result.andThen_ok, h2, Bool.false_eq_true, if_false, setRow]
    rfl
theorem putRow_all (vs : List Value) (arr : Array Value) (h : vs.length = arr.size) : putRow arr 0 vs = vs.toArray := by
  apply Array.ext_getElem?
  intro i
  rw [putRow_get vs arr 0 i (by omega)]
  split
  · simp
  · rw [Array.getElem?_eq_none (by omega), Array.getElem?_eq_none (by simp; omega)]

end
section
variable {Q : Exit → Act → World → Prop}
/-- The region: all ahead of the store in the order of the text, but for the block made at any time; then that block p, holding what was stored, in a world that is new. -/
theorem wp_region_gap (z N : Nat) (zarr : Array Value) (T : TypeId) {id : Nat} {a : Act} {w : World} {l : List Oper} {oz oN : Oper} {l1 l2 : List Oper} {zd : Nat} {y : Operand} (hm : Try.prog.follows .mixedOrders = true) (hB : gapOk l.toArray z N = true)
    (hz : l.toArray[z]? = some oz) (hN : l.toArray[N]? = some oN) (hgz : oz.guard = none) (hgN : oN.guard = none) (hmz : isMk oz.op = true) (hzd : oz.dst = some zd)
    (hrun : ∀ (a : Act) (w : World), (execOp a.eval oz).run Try.prog w = .ok (.value (.pointer (some ⟨w.heap.size, 0, none⟩))) (w.alloc (.cells zarr T)))
    (h1 : ((List.range N).filter (fun i => i != z)).map (fun i => l.toArray[i]?) = l1.map some) (hlen : ((List.range N).filter (fun i => i != z)).length + 1 = N) (h2 : l.drop (N + 1) = l2)
    (hop : oN.op = .store T (.tmp zd) y) (hdN : oN.dst = none) (hsz : (Try.prog.info? T).map (·.size) = some zarr.size)
    (h : wpGapL Try.prog l.toArray w (fun iv a w2 => ∀ W p, Ext w2 W → w.heap.size ≤ p → p < W.heap.size → (∀ q ∈ iv, p < q.1 ∨ q.2 ≤ p) → ∃ vs : List Value, (a.put (some zd) (.pointer (some ⟨p, 0, none⟩))).eval y = .agg vs.toArray ∧ vs.length = zarr.size ∧ (∀ v ∈ vs, v.oneCell' = true) ∧
      ((a.put (some zd) (.pointer (some ⟨p, 0, none⟩))).eval (.tmp zd) = .pointer (some ⟨p, 0, none⟩)) ∧
      ∀ W', Ext w W' → Chg [p] W W' → W'.heap[p]? = some (.cells vs.toArray T (0, 0)) → wpMixL Try.prog l.toArray (fun w' => ∃ t, w' = ext w t) (Qt Q) l2 (a.put (some zd) (.pointer (some ⟨p, 0, none⟩))) W') l1 [] a w.drew) : (Code.region id l.toArray true).wp Try.prog Q a w := by
  refine Code.wp_mono (Q := Qt Q) (fun e a w h => by cases e <;> first | exact h | exact False.elim h) (wp_region_held (S := fun w' => Ext w w') hm ?_)
  have hs := gapOk_spec hB
  have hNs := hs.2.2.1
  have hrep : ∀ j, j < l.toArray.size → (Array.replicate l.toArray.size false).getD j true = false := fun j hj => by
    have h' : j < l.length := by simpa using hj
    simp [h']
  have kk : ∀ iv a w2, (fun iv a w2 => ∀ W p, Ext w2 W → w.heap.size ≤ p → p < W.heap.size → (∀ q ∈ iv, p < q.1 ∨ q.2 ≤ p) → ∃ vs : List Value, (a.put (some zd) (.pointer (some ⟨p, 0, none⟩))).eval y = .agg vs.toArray ∧ vs.length = zarr.size ∧ (∀ v ∈ vs, v.oneCell' = true) ∧
      ((a.put (some zd) (.pointer (some ⟨p, 0, none⟩))).eval (.tmp zd) = .pointer (some ⟨p, 0, none⟩)) ∧
      ∀ W', Ext w W' → Chg [p] W W' → W'.heap[p]? = some (.cells vs.toArray T (0, 0)) → wpMixL Try.prog l.toArray (fun w' => ∃ t, w' = ext w t) (Qt Q) l2 (a.put (some zd) (.pointer (some ⟨p, 0, none⟩))) W') iv a w2 → gapK Try.prog l.toArray (Qt Q) w N oz oN (.cells zarr T) iv a w2 := by
    intro iv a w2 hK W p hE hB0 hp hb hiv
    have hlt := lt_blk hb
    obtain ⟨vs, q1, q2, q3, q5, q4⟩ := hK W p hE (by simpa using hp) hlt hiv
    have hst := st_blk (P := Try.prog) (b := p) (T := T) vs zarr W 0 0 hb (by omega) q3
    have hsize := sizeOf_run hsz W
    have hch : Chg [p] W (setRow W p 0 vs) := Chg.setRow (by simp) vs (Chg.refl _ _)
    have hbl : (setRow W p 0 vs).heap[p]? = some (.cells vs.toArray T (0, 0)) := by
      have := blk_setRow vs (o := 0) hb
      rwa [putRow_all vs zarr q2] at this
    have hEW : Ext w (setRow W p 0 vs) := Ext.of_below (Below.chg (w0 := w) hB0.below hch fun k hk => (by
      obtain rfl : k = p := by simpa using hk
      exact hp))
    have h4 := q4 _ hEW hch hbl
    have h5 := mix_of_list (P := Try.prog) (S := fun w' => ∃ t, w' = ext w t) (Q := Qt Q) l2 (N + 1) _ _ (fun j => by rw [← h2]; simp [List.getElem?_drop]) h4
    have el : l2.length = l.toArray.size - (N + 1) := by rw [← h2]; simp
    rw [el] at h5
    unfold Oper.wp execOp
    have hrun2 : (Instr.storeAt T (.pointer (some ⟨p, 0, none⟩)) (.agg vs.toArray)).run Try.prog W = .ok () (setRow W p 0 vs) := by
      have hst' : (storeCells ⟨p, 0, none⟩ vs 0).run Try.prog W = .ok () (setRow W p 0 vs) := by simpa using hst
      simp [Instr.storeAt, Instr.sureAddr, storeVar, Sem.run_bind, hsize, Value.cells, hst', q2]
    rw [hzd]
    simp only [hop, ptrTo, q1, q5, Sem.run_bind, hrun2, Result.andThen_ok]
    refine ⟨hEW, ?_⟩
    rw [hdN]
    exact h5
  have g := gap_sound (P := Try.prog) (Q := Qt Q) (base := w) (zobj := .cells zarr T) hB hz hN hgz hgN hmz hrun (fun c a d v w h => h) (((List.range N).filter (fun i => i != z)).length + 1) ((List.range N).filter (fun i => i != z)) (Array.replicate l.toArray.size false) a none [] w.drew (by simp) (List.Pairwise.filter _ List.pairwise_lt_range) (by simp)
    (fun j => by
      simp only [List.mem_filter, List.mem_range, bne_iff_ne]
      constructor
      · rintro ⟨h1, h2⟩; exact ⟨h1, h2, hrep j (by omega)⟩
      · rintro ⟨h1, h2, _⟩; exact ⟨h1, h2⟩) (by rw [hrep z (by have := hs.2.1; omega)]; rfl) (fun j h1 h2 => hrep j h2) ((Ext.refl w).drew) (by simp) (fun p hp => by cases hp)
    (gap_of_list kk l1 _ [] a w.drew h1 h)
  have e : N + (l.toArray.size - N) = l.toArray.size := by omega
  rw [hlen, e] at g
  exact g
theorem wp_region_gap' (z N : Nat) (zarr : Array Value) (T : TypeId) {id : Nat} {a : Act} {w : World} {l : List Oper} {oz oN : Oper} {zd : Nat} {y : Operand} (hm : Try.prog.follows .mixedOrders = true) (hB : gapOk l.toArray z N = true)
    (h1 : ((List.range N).filter (fun i => i != z)).map (fun i => l.toArray[i]?) = ((l.take N).eraseIdx z).map some) (hlen : ((List.range N).filter (fun i => i != z)).length + 1 = N) (hsz : (Try.prog.info? T).map (·.size) = some zarr.size)
    (hz : l.toArray[z]? = some oz) (hN : l.toArray[N]? = some oN) (hgz : oz.guard = none) (hgN : oN.guard = none) (hmz : isMk oz.op = true) (hzd : oz.dst = some zd)
    (hop : oN.op = .store T (.tmp zd) y) (hdN : oN.dst = none)
    (hrun : ∀ (a : Act) (w : World), (execOp a.eval oz).run Try.prog w = .ok (.value (.pointer (some ⟨w.heap.size, 0, none⟩))) (w.alloc (.cells zarr T)))
    (h : wpGapL Try.prog l.toArray w (fun iv a w2 => ∀ W p, Ext w2 W → w.heap.size ≤ p → p < W.heap.size → (∀ q ∈ iv, p < q.1 ∨ q.2 ≤ p) → ∃ vs : List Value, (a.put (some zd) (.pointer (some ⟨p, 0, none⟩))).eval y = .agg vs.toArray ∧ vs.length = zarr.size ∧ (∀ v ∈ vs, v.oneCell' = true) ∧
      ((a.put (some zd) (.pointer (some ⟨p, 0, none⟩))).eval (.tmp zd) = .pointer (some ⟨p, 0, none⟩)) ∧
      ∀ W', Ext w W' → Chg [p] W W' → W'.heap[p]? = some (.cells vs.toArray T (0, 0)) → wpMixL Try.prog l.toArray (fun w' => ∃ t, w' = ext w t) (Qt Q) (l.drop (N + 1)) (a.put (some zd) (.pointer (some ⟨p, 0, none⟩))) W') ((l.take N).eraseIdx z) [] a w.drew) : (Code.region id l.toArray true).wp Try.prog Q a w :=
  wp_region_gap z N zarr T hm hB hz hN hgz hgN hmz hzd hrun h1 hlen rfl hop hdN hsz h
theorem gap_nil {P : Program} {ops : Array Oper} {base : World} {K : List (Nat × Nat) → Act → World → Prop} {iv : List (Nat × Nat)} {a : Act} {w : World} (h : K iv a w) : wpGapL P ops base K [] iv a w := h
theorem Ext.cell {a b : World} (h : Ext a b) {k : Nat} (hk : k < a.heap.size) (o : Nat) : b.cell? ⟨k, o, none⟩ = a.cell? ⟨k, o, none⟩ := World.cell?_of_block (a := ⟨k, o, none⟩) (h.block hk)
theorem gap_own {V1 V W' : World} {lo hi p b0 : Nat} {s : Sch} {vs : List Value} {d : Dat} (hO : OwnR lo hi V1 s vs d) (hE1 : Ext V1 V) (hc : Chg [p] V W') (hd : p < lo ∨ hi ≤ p) (hl : b0 ≤ lo) : ∃ lo' hi', b0 ≤ lo' ∧ hi' ≤ W'.heap.size ∧ OwnR lo' hi' W' s vs d := by
  have h1 := OwnR.of hO hE1
  have h2 : ChgR p (p + 1) V W' := hc.toR fun k hk => by
    obtain rfl : k = p := by simpa using hk
    omega
  have h3 := OwnR.chg h1 h2 (by omega)
  exact ⟨lo, hi, hl, h3.1, h3⟩
theorem gap_own2 {V1 V W' : World} {lo hi p b0 : Nat} {s : Sch} {vs : List Value} {d : Dat} (hO : OwnR lo hi V1 s vs d) (hE1 : Ext V1 V) (hc : Chg [p] V W') (hd : p < lo ∨ hi ≤ p) (hl : b0 ≤ lo) : ∃ lo' hi', b0 ≤ lo' ∧ hi' ≤ W'.heap.size ∧ (p < lo' ∨ hi' ≤ p) ∧ OwnR lo' hi' W' s vs d := by
  have h1 := OwnR.of hO hE1
  have h2 : ChgR p (p + 1) V W' := hc.toR fun k hk => by
    obtain rfl : k = p := by simpa using hk
    omega
  have h3 := OwnR.chg h1 h2 (by omega)
  exact ⟨lo, hi, hl, h3.1, hd, h3⟩
end
end Go.Proofs.Ytdogknbkcididaa
