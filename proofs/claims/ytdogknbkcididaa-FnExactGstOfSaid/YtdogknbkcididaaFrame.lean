/- The frame of a law's proof: arguments opened by the shape of their types; the row's post out of 'it returns true, and old memory is as it was'. -/
import Derived.Test.YtdogknbkcididaaRep
import Derived.ProofKit
import Derived.OpenShut
import Derived.Deep.Slices
namespace Go.Proofs.Ytdogknbkcididaa
open Go.ChangeShapes Go.WideShapes Go.ChangeAt Go.RowKit

mutual
/-- The type t has the shape s. -/
def fits (P : Program) : TypeId → Sch → Bool
  | t, .int => (match P.underlying t with | some (.int .i64) => true | _ => false)
  | t, .bool => (match P.underlying t with | some .bool => true | _ => false)
  | t, .sl e => (match P.underlying t with | some (.slice u) => P.cellsOf u == e.size && decide (0 < e.size) && fits P u e | _ => false)
  | t, .st fs => (match P.underlying t with | some (.struct gs) => P.cellsOf t == Sch.sizes fs && fitsL P gs.toList fs 0 | _ => false)
def fitsL (P : Program) : List Field → List Sch → Nat → Bool
  | [], [], _ => true
  | g :: gs, f :: fs, o => g.offset == o && P.cellsOf g.type == f.size && fits P g.type f && fitsL P gs fs (o + f.size)
  | _, _, _ => false
end

section
variable {H : Type} {enc : TypeId × Value → H} {P : Program} {w : World}

mutual
theorem rd_of_trod : ∀ (s : Sch) (t : TypeId) (cs : List Value) (x : DataW H × List MemPlace) (fuel : Nat), fits P t s = true → DataW.trod enc P w 0 (fun _ => true) true fuel t cs = some x → ∃ d, Rd w.heap.size w s cs d ∧ cs.length = s.size
  | .int, t, cs, x, fuel, hf, h => by
    unfold fits at hf
    split at hf
    · rename_i ht
      obtain ⟨n, hcs, _, _⟩ := DataW.trod_int ht h
      exact ⟨.i n, by unfold Rd; exact ⟨n, hcs, rfl⟩, by rw [hcs]; rfl⟩
    · cases hf
  | .bool, t, cs, x, fuel, hf, h => by
    unfold fits at hf
    split at hf
    · rename_i ht
      obtain ⟨b, hcs, _⟩ := DataW.trod_bool ht h
      exact ⟨.b b, by unfold Rd; exact ⟨b, hcs, rfl⟩, by rw [hcs]; rfl⟩
    · cases hf
  | .sl e, t, cs, x, fuel, hf, h => by
    unfold fits at hf
    split at hf
    · rename_i u ht
      simp only [Bool.and_eq_true, beq_iff_eq, decide_eq_true_eq] at hf
      obtain ⟨⟨hc, hpos⟩, hfe⟩ := hf
      rcases Go.Deep.open_slice ht h with ⟨hcs, _⟩ | ⟨a, len, cap, m, n, D, Pl, hcs, _, hl, hm, hmm, _, hi⟩
      · exact ⟨.l [], by unfold Rd; exact ⟨none, 0, 0, [], hcs, rfl, rfl, Nat.zero_le _, fun i x hx => by simp at hx⟩, by rw [hcs]; rfl⟩
      · have hlm : len ≤ m := by rw [hmm]; simp; exact hl
        rw [hc] at hi
        have key : ∀ k, k ≤ len → ∃ ds : List Dat, ds.length = k ∧ ∀ i x, ds[i]? = some x → ∃ b o es, some a = some (⟨b, o, none⟩ : Addr) ∧ b < w.heap.size ∧ (∀ j v, es[j]? = some v → w.cell? ⟨b, o + i * e.size + j, none⟩ = some v) ∧ Rd w.heap.size w e es x := by
          intro k
          induction k with
          | zero => exact fun _ => ⟨[], rfl, fun i x hx => by simp at hx⟩
          | succ k ih =>
            intro hk
            obtain ⟨ds, hlen, hds⟩ := ih (by omega)
            obtain ⟨cs', hcells, htr⟩ := hi k (by omega)
            obtain ⟨d, hrd, hsz⟩ := rd_of_trod e u cs' _ n hfe htr
            obtain ⟨_, hcl, hat⟩ := World.cells?_some hcells
            obtain ⟨cs0, hcells0, _⟩ := hi 0 (by omega)
            obtain ⟨_, hcl0, hat0⟩ := World.cells?_some hcells0
            have h0 := hat0 0 hpos
            have e0 : cs0[0]? = some (cs0[0]'(by omega)) := List.getElem?_eq_getElem (by omega)
            rw [e0] at h0
            obtain ⟨b, o, sp⟩ := a
            have hsp : sp = none := by simpa [Addr.add] using World.cell?_spot h0
            subst hsp
            have hb : b < w.heap.size := by have := block_lt_of_cell h0; simpa [Addr.add] using this
            refine ⟨ds ++ [d], by simp [hlen], fun i x hx => ?_⟩
            rcases Nat.lt_trichotomy i k with hik | hik | hik
            · rw [List.getElem?_append_left (by omega)] at hx
              exact hds i x hx
            · subst hik
              rw [List.getElem?_append_right (by omega), hlen] at hx
              simp at hx
              subst hx
              refine ⟨b, o, cs', rfl, hb, fun j v hv => ?_, hrd⟩
              have hj : j < e.size := by
                rcases Nat.lt_or_ge j e.size with h' | h'
                · exact h'
                · rw [List.getElem?_eq_none (by omega)] at hv; cases hv
              have := hat j hj
              rw [hv] at this
              rw [← this]
              congr 1
              simp only [Addr.add]
              split <;> split <;> simp_all <;> omega
            · rw [List.getElem?_eq_none (by simp [hlen]; omega)] at hx; cases hx
        obtain ⟨ds, hlen, hds⟩ := key len (Nat.le_refl _)
        exact ⟨.l ds, by unfold Rd; exact ⟨some a, len, cap, ds, hcs, rfl, hlen, by omega, hds⟩, by rw [hcs]; rfl⟩
    · cases hf
  | .st fs, t, cs, x, fuel, hf, h => by
    unfold fits at hf
    split at hf
    · rename_i gs ht
      simp only [Bool.and_eq_true, beq_iff_eq] at hf
      obtain ⟨hc, hfl⟩ := hf
      obtain ⟨xs, n, _, _, hlen, _, hg⟩ := DataW.trod_struct ht h
      obtain ⟨ds, hds⟩ := rdL_of_trod fs gs.toList 0 cs n hfl (by rw [hlen, hc]; simp) (fun g hg' => by
        obtain ⟨i, hi⟩ := List.getElem?_of_mem hg'
        have := hg i g (by simpa using hi)
        cases hx : xs[i]? with
        | none =>
          have hi' := (List.getElem?_eq_some_iff.1 hi).1
          rw [List.getElem?_eq_none_iff] at hx
          simp at hi'
          omega
        | some y => rw [hx] at this; exact ⟨y, this⟩)
      exact ⟨.s ds, by unfold Rd; exact ⟨ds, rfl, by simpa using hds⟩, by rw [hlen, hc]; rfl⟩
    · cases hf
theorem rdL_of_trod : ∀ (fs : List Sch) (gs : List Field) (o : Nat) (cs : List Value) (n : Nat), fitsL P gs fs o = true → cs.length = o + Sch.sizes fs →
    (∀ g ∈ gs, ∃ y, DataW.trod enc P w 0 (fun _ => true) true n g.type ((cs.drop g.offset).take (P.cellsOf g.type)) = some y) → ∃ ds, RdL w.heap.size w fs (cs.drop o) ds
  | [], gs, o, cs, n, hf, hl, h => by
    refine ⟨[], ?_⟩
    unfold RdL
    refine ⟨List.drop_eq_nil_of_le (by rw [hl]; simp [Sch.sizes]), rfl⟩
  | f :: fs, [], o, cs, n, hf, hl, h => by simp [fitsL] at hf
  | f :: fs, g :: gs, o, cs, n, hf, hl, h => by
    simp only [fitsL, Bool.and_eq_true, beq_iff_eq] at hf
    obtain ⟨⟨⟨h1, h2⟩, h3⟩, h4⟩ := hf
    obtain ⟨y, hy⟩ := h g (List.mem_cons_self)
    rw [h1, h2] at hy
    obtain ⟨d, hd, _⟩ := rd_of_trod f g.type _ y n h3 hy
    simp only [Sch.sizes] at hl
    obtain ⟨ds, hds⟩ := rdL_of_trod fs gs (o + f.size) cs n h4 (by omega) (fun g' hg' => h g' (List.mem_cons_of_mem _ hg'))
    refine ⟨d :: ds, ?_⟩
    unfold RdL
    refine ⟨(cs.drop o).take f.size, cs.drop (o + f.size), d, ds, ?_, rfl, hd, hds⟩
    rw [← List.drop_drop, List.take_append_drop]
end

/-- An argument of shape s: what it reads as. -/
theorem open_arg {s : Sch} {t : TypeId} {v : Value} {d : DataW H} {p : List MemPlace} (hf : fits P t s = true) (h : DataW.Trod enc P w 0 (fun _ => true) true t v d p) : ∃ d', Rd w.heap.size w s v.cells.toList d' := by
  obtain ⟨fuel, h⟩ := h
  obtain ⟨d', h', _⟩ := rd_of_trod s t _ _ fuel hf h
  exact ⟨d', h'⟩

theorem trodAll_below {W W' : World} (hl : laidOutB P = true) (hb : Below W.heap.size W W') : ∀ (ts : List TypeId) (vs : List Value) (ds : List (DataW H)) (p : List MemPlace), (∀ t ∈ ts, P.readableRec t = true ∧ t < P.types.size) → (∀ x ∈ p, x.block < W.heap.size) →
    DataW.TrodAll enc P W 0 (fun _ => true) true ts vs ds p → DataW.TrodAll enc P W' 0 (fun b => decide (b < W.heap.size)) true ts vs ds p
  | [], vs, ds, p, _, _, h => by
    obtain ⟨rfl, rfl, rfl⟩ := trodAll_nil h
    rfl
  | t :: ts, vs, ds, p, hr, hp, h => by
    obtain ⟨v, vs', d, ds', q, q', rfl, rfl, rfl, h0, h1⟩ := trodAll_cons h
    obtain ⟨r1, r2⟩ := hr t (List.mem_cons_self)
    exact trodAll_cons_mk (Below.trod hl r1 r2 h0 hb fun x hx => hp x (List.mem_append_left _ hx)) (trodAll_below hl hb ts vs' ds' q' (fun t' ht' => hr t' (List.mem_cons_of_mem _ ht')) (fun x hx => hp x (List.mem_append_right _ hx)) h1)

/-- The row's post, out of 'it returned true, and below the heap's old size nothing has turned'. -/
theorem law_post {f : Func} {s : ChangeSpec} {b : TypeId} {W W' : World} {args : Array Value} {ds gs : List (DataW H)} {before : List MemPlace} (hl : laidOutB P = true) (hres : f.resultTypes = #[b]) (hbt : P.underlying b = some .bool)
    (hvars : s.vars = []) (hread0 : (f.params.toList.all fun t => P.readableRec t && decide (t < P.types.size)) = true)
    (hW : DataW.Whole enc P f.params.toList s.vars false W args.toList ds gs before) (hs : ∀ (ds : List (DataW H)), ds.length = f.params.size → s.fn H (ds ++ []) = { results := [.lit (.bool true)], args := ds })
    (hb : Below W.heap.size W W') : s.post enc P f false true false false W args (.bool true) W' := by
  have hread : ∀ t ∈ f.params.toList, P.readableRec t = true ∧ t < P.types.size := fun t ht => by have := List.all_eq_true.1 hread0 t ht; simpa using this
  have hW' := hW
  have hlt := hW.lt
  obtain ⟨p, q, hA, hV, rfl, hfz, hnd⟩ := hW
  rw [hvars] at hV
  obtain ⟨rfl, rfl⟩ := trodVars_none hV
  have hlen : ds.length = f.params.size := by
    have : ∀ (ts : List TypeId) (vs : List Value) (ds : List (DataW H)) (p : List MemPlace), DataW.TrodAll enc P W 0 (fun _ => true) true ts vs ds p → ds.length = ts.length := by
      intro ts
      induction ts with
      | nil => intro vs ds p h; obtain ⟨rfl, rfl, rfl⟩ := trodAll_nil h; rfl
      | cons t ts ih => intro vs ds p h; obtain ⟨v, vs', d, ds', q, q', rfl, rfl, rfl, h0, h1⟩ := trodAll_cons h; simp [ih _ _ _ h1]
    simpa using this _ _ _ _ hA
  have hfn := hs ds hlen
  refine ⟨ds, [], p ++ [], [], p, [], hW', ?_, ?_, ?_, hb.frame _, fun h => by cases h⟩
  · rw [hfn, hres]
    exact trodAll_mk1 (shut_bool hbt true)
  · rw [hfn]
    exact trodAll_below hl hb _ _ _ _ hread (fun x hx => hlt x (by simpa using hx)) hA
  · rw [hfn, hvars]; rfl
end
theorem own_knob : ownKnob Try.prog.godebug = none := by kernel_rfl
theorem laid_out : laidOutB Try.prog = true := by kernel_rfl
theorem bool_ty : Try.prog.underlying 4 = some .bool := by kernel_rfl
theorem rd_int {hi : Nat} {w : World} {vs : List Value} {d : Dat} (h : Rd hi w .int vs d) : ∃ n, vs = [.int .i64 n] ∧ d = .i n := by unfold Rd at h; exact h
end Go.Proofs.Ytdogknbkcididaa
