/- Memory: what reads as data in a world (Re), rows of cells in a new block, stores into one's own blocks (Chg), slices of plain elements that one owns. -/
import Derived.Test.YtdogknbkcididaaTypes
import Derived.Deep.DeepAppendWide
import Derived.Deep.Upon
namespace Go.Proofs.Ytdogknbkcididaa
open Go.RowKit

/-- The cells vs read as d in w. -/
def Re (w : World) (s : Sch) (vs : List Value) (d : Dat) : Prop := Rd w.heap.size w s vs d
theorem Re.of {w w' : World} {s : Sch} {vs : List Value} {d : Dat} (h : Re w s vs d) (hE : Ext w w') : Re w' s vs d :=
  Rd.mono hE.size s vs d (Rd.same (hE.same (Nat.le_refl _)) s vs d h)
theorem Re.ext {w : World} {t : Xt} {s : Sch} {vs : List Value} {d : Dat} (h : Re w s vs d) : Re (ext w t) s vs d := h.of ⟨t, rfl⟩
theorem sl_len {hi : Nat} {w : World} {e : Sch} {a : Option Addr} {n c : Nat} {ds : List Dat} (h : Rd hi w (.sl e) [.slice a n c] (.l ds)) : n = ds.length ∧ n ≤ maxLen := by
  unfold Rd at h
  obtain ⟨a', n', c', ds', h1, h2, h3, h4, h5⟩ := h
  simp only [List.cons.injEq, Value.slice.injEq, and_true] at h1
  obtain ⟨rfl, rfl, rfl⟩ := h1
  simp only [Dat.l.injEq] at h2
  subst h2
  exact ⟨h3.symm, h4⟩
theorem Re.len {α : Type} {w : World} {e : Sch} {a : Option Addr} {n c : Nat} {f : α → Dat} {xs : List α} (h : Re w (.sl e) [.slice a n c] (.l (xs.map f))) : n = xs.length := by
  have := (sl_len h).1; simpa using this
theorem Re.max {w : World} {e : Sch} {a : Option Addr} {n c : Nat} {ds : List Dat} (h : Re w (.sl e) [.slice a n c] (.l ds)) : n ≤ 9223372036854775807 := by
  have := (sl_len h).2; simpa [maxLen] using this
/-- Whatever reads as a list is a slice. -/
theorem Re.slice {w : World} {e : Sch} {vs : List Value} {ds : List Dat} (h : Re w (.sl e) vs (.l ds)) : ∃ a c, vs = [.slice a ds.length c] := by
  unfold Re Rd at h
  obtain ⟨a, n, c, ds', h1, h2, h3, h4, h5⟩ := h
  simp only [Dat.l.injEq] at h2
  subst h2
  exact ⟨a, c, by rw [h1, h3]⟩

/-- w' is w but for the blocks B, draws, and blocks added. -/
structure Chg (B : List Nat) (w w' : World) : Prop where
  os : w'.os = w.os
  tape : w'.tape = w.tape
  output : w'.output = w.output
  size : w.heap.size ≤ w'.heap.size
  block : ∀ k, k < w.heap.size → k ∉ B → w'.heap[k]? = w.heap[k]?
theorem Chg.refl (B : List Nat) (w : World) : Chg B w w := ⟨rfl, rfl, rfl, Nat.le_refl _, fun _ _ _ => rfl⟩
theorem Chg.trans {B : List Nat} {a b c : World} (h : Chg B a b) (k : Chg B b c) : Chg B a c :=
  ⟨k.os.trans h.os, k.tape.trans h.tape, k.output.trans h.output, Nat.le_trans h.size k.size, fun i hi hn => (k.block i (Nat.lt_of_lt_of_le hi h.size) hn).trans (h.block i hi hn)⟩
theorem Chg.mono {B B' : List Nat} {w w' : World} (h : Chg B w w') (hs : ∀ b ∈ B, b ∈ B') : Chg B' w w' :=
  ⟨h.os, h.tape, h.output, h.size, fun k hk hn => h.block k hk fun hb => hn (hs k hb)⟩
theorem Chg.of_ext {w w' : World} (h : Ext w w') (B : List Nat) : Chg B w w' := by
  obtain ⟨t, rfl⟩ := h; exact ⟨rfl, rfl, rfl, by simp [ext_size], fun k hk _ => ext_block _ _ _ hk⟩
theorem Chg.drew {B : List Nat} {a w : World} (h : Chg B a w) : Chg B a w.drew := ⟨h.os, h.tape, h.output, h.size, h.block⟩
theorem Chg.set {B : List Nat} {a w : World} (h : Chg B a w) {b o : Nat} (hb : b ∈ B) (v : Value) : Chg B a (w.setCell ⟨b, o, none⟩ v) :=
  h.trans ⟨rfl, rfl, rfl, by simp [World.setCell], fun k _ hn => Below.heap_setCell _ _ _ _ fun e => hn (by subst e; exact hb)⟩
theorem Chg.below {B : List Nat} {w w' : World} {n : Nat} (h : Chg B w w') (hn : n ≤ w.heap.size) (hB : ∀ b ∈ B, n ≤ b) : Below n w w' :=
  ⟨h.os, h.tape, h.output, h.size, fun k hk => h.block k (by omega) fun hb => by have := hB k hb; omega⟩
theorem Below.chg {B : List Nat} {w0 w w' : World} (h0 : Below w0.heap.size w0 w) (h : Chg B w w') (hB : ∀ b ∈ B, w0.heap.size ≤ b) : Below w0.heap.size w0 w' :=
  h0.trans (h.below h0.size hB)
/-- What is owned apart from the blocks changed stays. -/
theorem Own.chg {B B' : List Nat} {w w' : World} {s : Sch} {vs : List Value} {d : Dat} (h : Own w s vs d B) (hc : Chg B' w w') (hlt : ∀ b ∈ B, b < w.heap.size) (hd : ∀ b ∈ B, b ∉ B') : Own w' s vs d B :=
  Own.same s vs d B (fun b hb => hc.block b (hlt b hb) (hd b hb)) h
theorem Own.of {B : List Nat} {w w' : World} {s : Sch} {vs : List Value} {d : Dat} (h : Own w s vs d B) (hE : Ext w w') (hlt : ∀ b ∈ B, b < w.heap.size) : Own w' s vs d B :=
  Own.same s vs d B (fun b hb => hE.block (hlt b hb)) h
theorem Own.re {B : List Nat} {w : World} {s : Sch} {vs : List Value} {d : Dat} (h : Own w s vs d B) (hlt : ∀ b ∈ B, b < w.heap.size) : Re w s vs d := Own.rd s vs d B hlt h

/-- The blocks that are new in w', each once. -/
def News (w w' : World) (B : List Nat) : Prop := B.Nodup ∧ ∀ b ∈ B, w.heap.size ≤ b ∧ b < w'.heap.size

theorem blk_set {w : World} {b o : Nat} {v : Value} {arr : Array Value} {T : TypeId} {fr : Nat × Nat} (h : w.heap[b]? = some (.cells arr T fr)) : (w.setCell ⟨b, o, none⟩ v).heap[b]? = some (.cells (arr.setIfInBounds o v) T fr) := by
  simp [World.setCell, Array.getElem?_modify, h]
theorem cell_blk {w : World} {b : Nat} {arr : Array Value} {T : TypeId} {fr : Nat × Nat} (h : w.heap[b]? = some (.cells arr T fr)) (o : Nat) : w.cell? ⟨b, o, none⟩ = arr[o]? := by
  simp [World.cell?, h]
theorem some_blk {w : World} {b : Nat} {arr : Array Value} {T : TypeId} {fr : Nat × Nat} (h : w.heap[b]? = some (.cells arr T fr)) (o : Nat) (ho : o < arr.size) : ∃ u, w.cell? ⟨b, o, none⟩ = some u :=
  ⟨_, (cell_blk h o).trans (Array.getElem?_eq_getElem ho)⟩
theorem frozen_blk {w : World} {b : Nat} {arr : Array Value} {T : TypeId} (h : w.heap[b]? = some (.cells arr T (0, 0))) (o : Nat) : w.frozen? ⟨b, o, none⟩ = false := by
  simp [World.frozen?, h]
theorem lt_blk {w : World} {b : Nat} {o : Obj} (h : w.heap[b]? = some o) : b < w.heap.size := (Array.getElem?_eq_some_iff.1 h).1

/-- Making a slice of the given type: a new block of zero cells. -/
theorem mk_gen {T E : TypeId} {z : Value} {k bytes : Nat} (hT : Try.prog.underlying T = some (.slice E)) (hE : (Try.prog.info? E).map (fun i => (i.zero, i.size, i.bytes)) = some (some z, k, bytes)) (n : Nat) (hn : n ≤ 1048576) (hb : bytes ≤ 1024) (w : World) :
    (Instr.makeSlice T (.int .i64 (n : Int)) (.int .i64 (n : Int))).run Try.prog w = .ok (.slice (some ⟨w.heap.size, 0, none⟩) n n) (w.alloc (.cells (madeCells z.cells (n * k)) E)) := by
  cases hi : Try.prog.info? E with
  | none => rw [hi] at hE; cases hE
  | some i =>
    rw [hi] at hE
    simp only [Option.map_some, Option.some.injEq, Prod.mk.injEq] at hE
    obtain ⟨h1, h2, h3⟩ := hE
    have hbn : (i.bytes : Int) * (n : Int) ≤ 281474976710656 := by
      have : i.bytes * n ≤ 1024 * 1048576 := Nat.mul_le_mul (by omega) hn
      have h : ((i.bytes * n : Nat) : Int) ≤ 281474976710656 := by omega
      rwa [Int.natCast_mul] at h
    have := run_make (P := Try.prog) w T E i z hT hi h1 .i64 .i64 n n (by omega) (Int.le_refl _) hbn (by omega)
    rw [h2] at this
    simpa using this

theorem arr_set {arr : Array Value} {i : Nat} {v : Value} (h : i < arr.size) (j : Nat) : (arr.setIfInBounds i v)[j]? = if i = j then some v else arr[j]? := by
  rw [Array.getElem?_setIfInBounds]; split <;> simp_all

/-- The row arr with vs put from o on. -/
def putRow (arr : Array Value) (o : Nat) : List Value → Array Value
  | [] => arr
  | v :: vs => putRow (arr.setIfInBounds o v) (o + 1) vs
theorem putRow_size : ∀ (vs : List Value) (arr : Array Value) (o : Nat), (putRow arr o vs).size = arr.size
  | [], _, _ => rfl
  | v :: vs, arr, o => by simp [putRow, putRow_size vs]
theorem putRow_get : ∀ (vs : List Value) (arr : Array Value) (o i : Nat), o + vs.length ≤ arr.size → (putRow arr o vs)[i]? = if o ≤ i ∧ i < o + vs.length then vs[i - o]? else arr[i]?
  | [], arr, o, i, _ => by
    rw [if_neg (by simp)]; rfl
  | v :: vs, arr, o, i, h => by
    simp only [List.length_cons] at h
    simp only [putRow]
    rw [putRow_get vs _ (o + 1) i (by simp; omega), arr_set (by omega)]
    simp only [List.length_cons]
    by_cases h1 : o + 1 ≤ i ∧ i < o + 1 + vs.length
    · rw [if_pos h1, if_pos (by omega), show i - o = (i - (o + 1)) + 1 by omega]; rfl
    · rw [if_neg h1]
      by_cases h2 : o = i
      · subst h2; rw [if_pos rfl, if_pos (by omega)]; simp
      · rw [if_neg h2, if_neg (by omega)]
theorem st_row {P : Program} (w : World) (T : TypeId) (t : Xt) : ∀ (vs : List Value) (arr : Array Value) (o i : Nat), o + i + vs.length ≤ arr.size → (∀ v ∈ vs, v.oneCell' = true) →
    (storeCells ⟨w.heap.size, o, none⟩ vs i).run P (ext (w.alloc (.cells arr T)) t) = .ok () (ext (w.alloc (.cells (putRow arr (o + i) vs) T)) t)
  | [], arr, o, i, _, _ => by simp [storeCells, putRow]
  | v :: vs, arr, o, i, h, hv => by
    simp only [List.length_cons] at h
    have hc : (ext (w.alloc (.cells arr T)) t).cell? ⟨w.heap.size, o + i, none⟩ = some (arr[o + i]'(by omega)) := by
      rw [ext_cell' _ _ _ _ (by simp), World.cell?_alloc_at _ _ _ _ rfl]
      exact Array.getElem?_eq_getElem _
    have hf : (ext (w.alloc (.cells arr T)) t).frozen? ⟨w.heap.size, o + i, none⟩ = false := by
      rw [ext_frozen' _ _ _ _ (by simp), World.frozen?_alloc_at _ _ _ _ rfl]
    have hs : (ext (w.alloc (.cells arr T)) t).setCell ⟨w.heap.size, o + i, none⟩ v = ext (w.alloc (.cells (arr.setIfInBounds (o + i) v) T)) t := by
      rw [ext_setCell _ _ _ _ _ (by simp), World.setCell_alloc_at _ _ _ _ _ rfl]
    have h1 := run_store P (ext (w.alloc (.cells arr T)) t) ⟨w.heap.size, o + i, none⟩ v .plain (hv v (by simp))
    have h2 := st_row (P := P) w T t vs (arr.setIfInBounds (o + i) v) o (i + 1) (by simp; omega) (fun u hu => hv u (by simp [hu]))
    simp only [hc, hf] at h1
    simp only [storeCells, ld_add, Sem.run_bind, h1, hs, Result.andThen_ok, h2, Bool.false_eq_true, if_false]
    rfl

/-- The first k elements are in place. -/
def FillI {α : Type} (cells : α → List Value) (sz : Nat) (arr : Array Value) (xs : List α) (k : Nat) : Prop :=
  ∀ i x, i < k → xs[i]? = some x → ∀ j v, (cells x)[j]? = some v → arr[i * sz + j]? = some v
theorem FillI.step {α : Type} {cells : α → List Value} {sz : Nat} {arr : Array Value} {xs : List α} {k : Nat} {x : α} (h : FillI cells sz arr xs k) (hx : xs[k]? = some x) (hs : ∀ y, (cells y).length = sz) (hb : k * sz + sz ≤ arr.size) :
    FillI cells sz (putRow arr (k * sz) (cells x)) xs (k + 1) := by
  intro i y hi hy j v hv
  have hj : j < sz := by
    have := (List.getElem?_eq_some_iff.1 hv).1
    rw [hs] at this; exact this
  rw [putRow_get _ _ _ _ (by rw [hs]; exact hb), hs]
  rcases Nat.lt_or_ge i k with hik | hik
  · have : (i + 1) * sz ≤ k * sz := Nat.mul_le_mul_right _ hik
    rw [Nat.add_mul, Nat.one_mul] at this
    rw [if_neg (by omega)]
    exact h i y hik hy j v hv
  · obtain rfl : i = k := by omega
    rw [hx] at hy
    obtain rfl := Option.some.inj hy
    rw [if_pos (by omega), Nat.add_sub_cancel_left]
    exact hv


theorem sizeOf_run {T : TypeId} {k : Nat} (h : (Try.prog.info? T).map (·.size) = some k) (w : World) : (sizeOf T).run Try.prog w = .ok k w := by
  cases hq : Try.prog.info? T with
  | none => simp [hq] at h
  | some i =>
    have hs : i.size = k := by simpa [hq] using h
    simp [sizeOf, typeInfo, hq, hs]


/-- Several cells stored one behind the other. -/
def setRow (w : World) (b o : Nat) : List Value → World
  | [] => w
  | v :: vs => setRow (w.setCell ⟨b, o, none⟩ v) b (o + 1) vs
theorem blk_setRow {b : Nat} {T : TypeId} {fr : Nat × Nat} : ∀ (vs : List Value) {w : World} {o : Nat} {arr : Array Value}, w.heap[b]? = some (.cells arr T fr) → (setRow w b o vs).heap[b]? = some (.cells (putRow arr o vs) T fr)
  | [], _, _, _, h => h
  | v :: vs, w, o, arr, h => by simp only [setRow, putRow]; exact blk_setRow vs (blk_set h)
theorem Chg.setRow {B : List Nat} {a : World} {b : Nat} (hb : b ∈ B) : ∀ (vs : List Value) {w : World} {o : Nat}, Chg B a w → Chg B a (setRow w b o vs)
  | [], _, _, h => h
  | v :: vs, w, o, h => by simp only [Go.Proofs.Ytdogknbkcididaa.setRow]; exact Chg.setRow hb vs (h.set hb v)

mutual
/-- No slices within. -/
def Sch.plain : Sch → Bool
  | .int => true
  | .bool => true
  | .sl _ => false
  | .st fs => Sch.plains fs
def Sch.plains : List Sch → Bool
  | [] => true
  | f :: fs => f.plain && Sch.plains fs
end
mutual
theorem own_plain {w : World} : ∀ (s : Sch) (vs : List Value) (d : Dat) (B : List Nat), s.plain = true → Own w s vs d B → B = []
  | .int, _, _, _, _, h => by unfold Own at h; exact h.2
  | .bool, _, _, _, _, h => by unfold Own at h; exact h.2
  | .sl _, _, _, _, hp, _ => by simp [Sch.plain] at hp
  | .st fs, vs, d, B, hp, h => by
    unfold Own at h
    obtain ⟨ds, _, hl⟩ := h
    exact ownL_plain fs vs ds B (by simpa [Sch.plain] using hp) hl
theorem ownL_plain {w : World} : ∀ (fs : List Sch) (vs : List Value) (ds : List Dat) (B : List Nat), Sch.plains fs = true → OwnL w fs vs ds B → B = []
  | [], _, _, _, _, h => by unfold OwnL at h; exact h.2.2
  | f :: fs, vs, ds, B, hp, h => by
    unfold OwnL at h
    obtain ⟨v1, v2, d1, d2, B1, B2, h1, h2, h3, h4, h5⟩ := h
    simp only [Sch.plains, Bool.and_eq_true] at hp
    rw [h3, own_plain f v1 d1 B1 hp.1 h4, ownL_plain fs v2 d2 B2 hp.2 h5]
    rfl
end
theorem flatten_nils (Bs : List (List Nat)) (h : ∀ B ∈ Bs, B = []) : Bs.flatten = [] := by
  simpa using h

/-- A slice of plain elements that one owns: nothing, or a block of one's own. -/
def OwnF {α : Type} (cells : α → List Value) (sz : Nat) (w : World) (a : Option Addr) (xs : List α) (B : List Nat) : Prop :=
  (xs = [] ∧ B = []) ∨ ∃ (b : Nat) (arr : Array Value) (T : TypeId), a = some ⟨b, 0, none⟩ ∧ B = [b] ∧ w.heap[b]? = some (.cells arr T (0, 0)) ∧ xs.length * sz ≤ arr.size ∧ FillI cells sz arr xs xs.length
section
variable {α : Type} {cells : α → List Value} {dat : α → Dat} {sch : Sch} {k : Nat}
theorem own_flat (hsz : sch.size = k) (hpos : 0 < k) (hpl : sch.plain = true) (hcl : ∀ x, (cells x).length = k) (hrd : ∀ hi w vs d, Rd hi w sch vs d → ∃ x, vs = cells x ∧ d = dat x) (hinj : ∀ x y, dat x = dat y → x = y)
    {w : World} {a : Option Addr} {n c : Nat} {xs : List α} {B : List Nat} (h : Own w (.sl sch) [.slice a n c] (.l (xs.map dat)) B) : n = xs.length ∧ n ≤ maxLen ∧ OwnF cells k w a xs B := by
  unfold Own at h
  obtain ⟨ds, hd, hm, ⟨h0, hB, a', c', hv⟩ | ⟨b, c', arr, T, Bs, hv, hB, hlen, hb, hi⟩⟩ := h
  · simp only [Dat.l.injEq] at hd
    subst hd
    simp only [List.cons.injEq, Value.slice.injEq, and_true] at hv
    have hx : xs = [] := by simpa using h0
    exact ⟨by rw [hv.2.1, hx]; rfl, by rw [hv.2.1]; exact Nat.zero_le _, .inl ⟨hx, hB⟩⟩
  · simp only [Dat.l.injEq] at hd
    subst hd
    simp only [List.cons.injEq, Value.slice.injEq, and_true, List.length_map] at hv hm hlen
    obtain ⟨rfl, rfl, rfl⟩ := hv
    have key : ∀ i x, xs[i]? = some x → Bs[i]? = some [] ∧ ∀ j v, (cells x)[j]? = some v → arr[i * k + j]? = some v := by
      intro i x hx
      obtain ⟨es, Bi, hBi, hc, ho⟩ := hi i (dat x) (by simp [hx])
      obtain rfl := own_plain sch es (dat x) Bi hpl ho
      obtain ⟨y, rfl, hy⟩ := hrd (w.heap.size) w es (dat x) (Own.rd sch es (dat x) [] (fun _ h => by simp at h) ho)
      obtain rfl := hinj _ _ hy
      rw [hsz] at hc
      exact ⟨hBi, hc⟩
    refine ⟨rfl, hm, .inr ⟨b, arr, T, rfl, ?_, hb, ?_, fun i x _ hx => (key i x hx).2⟩⟩
    · rw [hB, flatten_nils Bs fun B hB' => ?_]
      obtain ⟨i, hi'⟩ := List.getElem?_of_mem hB'
      have hlt : i < xs.length := by rw [← hlen]; exact (List.getElem?_eq_some_iff.1 hi').1
      have := (key i xs[i] (by simp [hlt])).1
      rw [hi'] at this
      exact Option.some.inj this
    · rcases Nat.eq_zero_or_pos xs.length with h0 | h0
      · rw [h0]; simp
      · have hx : xs[xs.length - 1]? = some (xs[xs.length - 1]'(by omega)) := List.getElem?_eq_getElem (by omega)
        have hl := hcl (xs[xs.length - 1]'(by omega))
        have hc : (cells (xs[xs.length - 1]'(by omega)))[k - 1]? = some ((cells (xs[xs.length - 1]'(by omega)))[k - 1]'(by omega)) := List.getElem?_eq_getElem (by omega)
        have h1 := (Array.getElem?_eq_some_iff.1 ((key _ _ hx).2 _ _ hc)).1
        have h2 : xs.length * k = (xs.length - 1) * k + k := by
          have : xs.length = (xs.length - 1) + 1 := by omega
          conv => lhs; rw [this, Nat.add_mul, Nat.one_mul]
        omega
theorem own_flat_mk (hsz : sch.size = k) (hown : ∀ w x, Own w sch (cells x) (dat x) []) {w : World} {a : Option Addr} {c : Nat} {xs : List α} {B : List Nat} (hm : xs.length ≤ maxLen) (h : OwnF cells k w a xs B) :
    Own w (.sl sch) [.slice a xs.length c] (.l (xs.map dat)) B := by
  unfold Own
  rcases h with ⟨rfl, rfl⟩ | ⟨b, arr, T, rfl, rfl, hb, hsz', hf⟩
  · exact ⟨[], rfl, Nat.zero_le _, .inl ⟨rfl, rfl, a, c, rfl⟩⟩
  · refine ⟨_, rfl, by simpa using hm, .inr ⟨b, c, arr, T, List.replicate xs.length [], by simp, by rw [flatten_nils _ (fun B hB => (List.mem_replicate.1 hB).2)], by simp, hb, ?_⟩⟩
    intro i x hx
    rw [List.getElem?_map] at hx
    cases hy : xs[i]? with
    | none => rw [hy] at hx; cases hx
    | some y =>
      rw [hy] at hx
      simp only [Option.map_some, Option.some.injEq] at hx
      subst hx
      have hi : i < xs.length := (List.getElem?_eq_some_iff.1 hy).1
      exact ⟨cells y, [], by simp [hi], fun j v hv => by rw [hsz]; exact hf i y hi hy j v hv, hown _ y⟩
end
theorem OwnF.lt {α : Type} {cells : α → List Value} {sz : Nat} {w : World} {a : Option Addr} {xs : List α} {B : List Nat} (h : OwnF cells sz w a xs B) : ∀ b ∈ B, b < w.heap.size := by
  rcases h with ⟨_, rfl⟩ | ⟨b, arr, T, _, rfl, hb, _⟩
  · simp
  · simpa using lt_blk hb

/-- What is owned, each block once, all of them in a range of blocks that lie there. -/
def OwnR (lo hi : Nat) (w : World) (s : Sch) (vs : List Value) (d : Dat) : Prop := hi ≤ w.heap.size ∧ ∃ B : List Nat, B.Nodup ∧ (∀ b ∈ B, lo ≤ b ∧ b < hi) ∧ Own w s vs d B
theorem OwnR.re {lo hi : Nat} {w : World} {s : Sch} {vs : List Value} {d : Dat} (h : OwnR lo hi w s vs d) : Re w s vs d := by
  obtain ⟨hh, B, _, hr, ho⟩ := h
  exact ho.re fun b hb => Nat.lt_of_lt_of_le (hr b hb).2 hh
theorem OwnR.of {lo hi : Nat} {w w' : World} {s : Sch} {vs : List Value} {d : Dat} (h : OwnR lo hi w s vs d) (hE : Ext w w') : OwnR lo hi w' s vs d := by
  obtain ⟨hh, B, hn, hr, ho⟩ := h
  exact ⟨Nat.le_trans hh hE.size, B, hn, hr, ho.of hE fun b hb => Nat.lt_of_lt_of_le (hr b hb).2 hh⟩
theorem OwnR.mono {lo hi lo' hi' : Nat} {w : World} {s : Sch} {vs : List Value} {d : Dat} (h : OwnR lo hi w s vs d) (h1 : lo' ≤ lo) (h2 : hi ≤ hi') (h3 : hi' ≤ w.heap.size) : OwnR lo' hi' w s vs d := by
  obtain ⟨_, B, hn, hr, ho⟩ := h
  exact ⟨h3, B, hn, fun b hb => ⟨Nat.le_trans h1 (hr b hb).1, Nat.lt_of_lt_of_le (hr b hb).2 h2⟩, ho⟩
/-- w' is w but for blocks in a range, draws, and blocks added. -/
structure ChgR (lo hi : Nat) (w w' : World) : Prop where
  os : w'.os = w.os
  tape : w'.tape = w.tape
  output : w'.output = w.output
  size : w.heap.size ≤ w'.heap.size
  block : ∀ k, k < w.heap.size → (k < lo ∨ hi ≤ k) → w'.heap[k]? = w.heap[k]?
theorem Chg.toR {B : List Nat} {lo hi : Nat} {w w' : World} (h : Chg B w w') (hr : ∀ b ∈ B, lo ≤ b ∧ b < hi) : ChgR lo hi w w' :=
  ⟨h.os, h.tape, h.output, h.size, fun k hk ho => h.block k hk fun hb => by have := hr k hb; omega⟩
theorem ChgR.below {lo hi n : Nat} {w w' : World} (h : ChgR lo hi w w') (hn : n ≤ w.heap.size) (hl : n ≤ lo) : Below n w w' :=
  ⟨h.os, h.tape, h.output, h.size, fun k hk => h.block k (by omega) (.inl (by omega))⟩
theorem OwnR.chg {lo hi lo' hi' : Nat} {w w' : World} {s : Sch} {vs : List Value} {d : Dat} (h : OwnR lo hi w s vs d) (hc : ChgR lo' hi' w w') (hd : hi ≤ lo' ∨ hi' ≤ lo) : OwnR lo hi w' s vs d := by
  obtain ⟨hh, B, hn, hr, ho⟩ := h
  exact ⟨Nat.le_trans hh hc.size, B, hn, hr, Own.same s vs d B (fun b hb => hc.block b (Nat.lt_of_lt_of_le (hr b hb).2 hh) (by have := hr b hb; omega)) ho⟩
/-- A reading of old blocks, when only new ones have changed. -/
theorem Re.below {w0 w' : World} {s : Sch} {vs : List Value} {d : Dat} (h : Re w0 s vs d) (hb : Below w0.heap.size w0 w') : Re w' s vs d :=
  Rd.mono hb.size s vs d (Rd.same (fun b hb' => hb.block b hb') s vs d h)

theorem bel_ext {W w w' : World} (h : Below W.heap.size W w) (hE : Ext w w') : Below W.heap.size W w' := h.trans ((Ext.below hE).mono h.size)
theorem bel_chg {lo hi : Nat} {W w w' : World} (h : Below W.heap.size W w) (hc : ChgR lo hi w w') (hl : W.heap.size ≤ lo) : Below W.heap.size W w' := h.trans (hc.below h.size hl)

/-- What came back is a new slice of one's own. -/
def MadeL (w : World) (sch : Sch) (n : Nat) (ds : List Dat) (e : Ending) (w' : World) : Prop :=
  ∃ a c, e = .returned (.slice a n c) ∧ Ext w w' ∧ OwnR w.heap.size w'.heap.size w' (.sl sch) [.slice a n c] (.l ds)
theorem MadeL.mk_flat {α : Type} {cells : α → List Value} {dat : α → Dat} {sch : Sch} {k : Nat} (hsz : sch.size = k) (hown : ∀ w x, Own w sch (cells x) (dat x) []) {w : World} {arr : Array Value} {T : TypeId} {t : Xt} {xs : List α} {n : Nat}
    (hn : n = xs.length) (hm : n ≤ 9223372036854775807) (hs : xs.length * k ≤ arr.size) (hf : FillI cells k arr xs xs.length) : MadeL w sch n (xs.map dat) (.returned (.slice (some ⟨w.heap.size, 0, none⟩) n n)) (ext (w.alloc (.cells arr T)) t) := by
  subst hn
  refine ⟨_, _, rfl, ((Ext.refl w).alloc _).ext _, Nat.le_refl _, [w.heap.size], by simp, ?_, own_flat_mk hsz hown (by simpa [maxLen] using hm) (.inr ⟨_, arr, T, rfl, rfl, ?_, hs, hf⟩)⟩
  · intro b hb
    obtain rfl : b = w.heap.size := by simpa using hb
    exact ⟨Nat.le_refl _, by simp [ext_size]; omega⟩
  · rw [ext_block _ _ _ (by simp), heap_alloc_new]
/-- A result out of kit's own row. -/
theorem MadeL.mk_row {α : Type} {cells : α → List Value} {dat : α → Dat} {sch : Sch} {k : Nat} (hsz : sch.size = k) (hown : ∀ w x, Own w sch (cells x) (dat x) []) (hcl : ∀ x, (cells x).length = k) {w w' : World} {T : TypeId} {xs : List α} {v : Value} (hE : Ext w w')
    (hm : xs.length ≤ 9223372036854775807) (h : w'.ownsRow w.heap.size T k v xs.length (xs.flatMap cells)) : MadeL w sch xs.length (xs.map dat) (.returned v) w' := by
  obtain ⟨hl, ⟨rfl, h0⟩ | ⟨g, cap, cur, rfl, hg, hb, hc, hcm, hcs, ht⟩⟩ := h
  · have hx : xs = [] := List.eq_nil_of_length_eq_zero h0
    subst hx
    exact ⟨none, 0, rfl, hE, Nat.le_refl _, [], by simp, by simp, own_flat_mk (xs := []) (k := k) hsz hown (Nat.zero_le _) (.inl ⟨rfl, rfl⟩)⟩
  · refine ⟨_, _, rfl, hE, Nat.le_refl _, [g], by simp, ?_, own_flat_mk hsz hown (by simpa [maxLen] using hm) (.inr ⟨g, cur, T, rfl, rfl, hb, ?_, ?_⟩)⟩
    · intro b hb'
      obtain rfl : b = g := by simpa using hb'
      exact ⟨hg, lt_blk hb⟩
    · rw [hcs]; exact Nat.mul_le_mul_right _ hc
    · intro i x hi hx j u hu
      have hj : j < k := by rw [← hcl x]; exact (List.getElem?_eq_some_iff.1 hu).1
      have e1 : (xs.flatMap cells)[i * k + j]? = some u := by
        clear hl ht hcs hc hi hm
        induction xs generalizing i with
        | nil => simp at hx
        | cons y ys ih =>
          rw [List.flatMap_cons]
          cases i with
          | zero =>
            obtain rfl : y = x := by simpa using hx
            rw [Nat.zero_mul, Nat.zero_add, List.getElem?_append_left (by rw [hcl]; exact hj)]
            exact hu
          | succ i =>
            rw [List.getElem?_append_right (by rw [hcl, Nat.add_mul]; omega), hcl, Nat.add_mul, show i * k + 1 * k + j - k = i * k + j by omega]
            exact ih i (by simpa using hx)
      have hlt : i * k + j < xs.length * k := by
        have : (i + 1) * k ≤ xs.length * k := Nat.mul_le_mul_right _ hi
        rw [Nat.add_mul, Nat.one_mul] at this
        omega
      rw [← ht, List.getElem?_take, if_pos hlt] at e1
      simpa using e1

theorem alloc_last {w : World} {o : Obj} {b : Nat} (h : b = w.heap.size) : (w.alloc o).heap[b]? = some o := by subst h; exact heap_alloc_new w o
/-- An element appended to a row of one's own, in a world that adds to w0. -/
theorem wp_app {α : Type} {cells : α → List Value} {k bytes : Nat} {z : Value} {TS T : TypeId} (hT : Try.prog.underlying TS = some (.slice T)) (hI : (Try.prog.info? T).map (fun i => (i.zero, i.size, i.bytes)) = some (some z, k, bytes)) (hz : z.cells.size = k) (hpos : 0 < k) (hby : bytes ≤ 1024)
    (hcl : ∀ x, (cells x).length = k) (hone : ∀ x, ∀ u ∈ cells x, u.oneCell' = true)
    {o : Oper} {a : Act} {K : Act → World → Prop} {Q : Exit → Act → World → Prop} {w0 w : World} (s x : Operand) (ho : o.op = .call { callee := .builtin .append, args := #[s, x], argTypes := #[TS, TS] })
    {v : Value} {xs : List α} (hs : a.eval s = v) (hE : Ext w0 w) (hown : w.ownsRow w0.heap.size T k v xs.length (xs.flatMap cells)) (y : α) {b c : Nat} {T' : TypeId} (hx : a.eval x = .slice (some ⟨b, 0, none⟩) 1 c) (hy : w.heap[b]? = some (.cells (cells y).toArray T' (0, 0))) (hn : xs.length ≤ 4194304)
    (h : ∀ v' t', (ext w0 t').ownsRow w0.heap.size T k v' (xs ++ [y]).length ((xs ++ [y]).flatMap cells) → K (a.put o.dst v') (ext w0 t')) : o.wp Try.prog a w K Q := by
  cases hi : Try.prog.info? T with
  | none => rw [hi] at hI; cases hI
  | some i =>
    rw [hi] at hI
    simp only [Option.map_some, Option.some.injEq, Prod.mk.injEq] at hI
    obtain ⟨i1, i2, i3⟩ := hI
    refine wp_append_own_wide w s x TS ho w0.heap.size T i z k bytes hT hi i1 i2 i3 hz hpos v xs.length (xs.flatMap cells) hs hown ⟨b, 0, none⟩ 1 c (cells y) hx (by rw [hcl, Nat.one_mul]) ?_ (hone y) ?_ ?_ hE.size ?_
    · intro j u hu
      rw [ld_add, Nat.zero_add, cell_blk hy]
      simpa using hu
    · simp only [maxLen]; omega
    · calc (xs.length + 1 + (xs.length + 1) / 4 + 192) * bytes ≤ (xs.length + 1 + (xs.length + 1) / 4 + 192) * 1024 := Nat.mul_le_mul_left _ hby
        _ ≤ 281474976710656 := by omega
    · intro v' w' h1 h2 _
      have hE' : Ext w0 w' := Ext.of_below (hE.below.grown h2 hE.size fun k hk => (hown.lt k hk).1)
      obtain ⟨t', rfl⟩ := hE'
      refine h v' t' ?_
      rw [List.length_append, List.length_singleton, List.flatMap_append, List.flatMap_singleton]
      exact h1

theorem wpList_app {α : Type} {cells : α → List Value} {k bytes : Nat} {z : Value} {TS T : TypeId} (hT : Try.prog.underlying TS = some (.slice T)) (hI : (Try.prog.info? T).map (fun i => (i.zero, i.size, i.bytes)) = some (some z, k, bytes)) (hz : z.cells.size = k) (hpos : 0 < k) (hby : bytes ≤ 1024)
    (hcl : ∀ x, (cells x).length = k) (hone : ∀ x, ∀ u ∈ cells x, u.oneCell' = true)
    {ops : Array Oper} {rest : List Oper} {o : Oper} {a : Act} {Q : Exit → Act → World → Prop} {w0 w : World} (hgd : o.guard = none) (s x : Operand) (ho : o.op = .call { callee := .builtin .append, args := #[s, x], argTypes := #[TS, TS] })
    {v : Value} {xs : List α} (hs : a.eval s = v) (hE : Ext w0 w) (hown : w.ownsRow w0.heap.size T k v xs.length (xs.flatMap cells)) (y : α) {b c : Nat} {T' : TypeId} (hx : a.eval x = .slice (some ⟨b, 0, none⟩) 1 c) (hy : w.heap[b]? = some (.cells (cells y).toArray T' (0, 0))) (hn : xs.length ≤ 4194304)
    (h : ∀ v' t', (ext w0 t').ownsRow w0.heap.size T k v' (xs ++ [y]).length ((xs ++ [y]).flatMap cells) → wpList Try.prog ops Q rest (a.put o.dst v') (ext w0 t')) : wpList Try.prog ops Q (o :: rest) a w :=
  wpList_plain hgd fun _ hK => wp_app hT hI hz hpos hby hcl hone s x ho hs hE hown y hx hy hn fun v' t' hg => hK _ _ (h v' t' hg)

theorem ownsRow_ext {w : World} {t : Xt} {base sz n : Nat} {T : TypeId} {v : Value} {xs : List Value} (h : w.ownsRow base T sz v n xs) : (ext w t).ownsRow base T sz v n xs := by
  refine ⟨h.1, h.2.imp id fun ⟨g, cap, cur, h1, h2, h3, h4⟩ => ⟨g, cap, cur, h1, h2, ?_, h4⟩⟩
  rw [ext_block _ _ _ (lt_blk h3)]; exact h3
theorem ownsRow_alloc {w : World} {o : Obj} {base sz n : Nat} {T : TypeId} {v : Value} {xs : List Value} (h : w.ownsRow base T sz v n xs) : (w.alloc o).ownsRow base T sz v n xs := by
  rw [alloc_ext]; exact ownsRow_ext h
theorem ownsRow_drew {w : World} {base sz n : Nat} {T : TypeId} {v : Value} {xs : List Value} (h : w.ownsRow base T sz v n xs) : w.drew.ownsRow base T sz v n xs := h
theorem filt_yes {α : Type} {p : α → Bool} {xs : List α} {k : Nat} {x : α} (hx : xs[k]? = some x) (hp : p x = true) : (xs.take (k + 1)).filter p = (xs.take k).filter p ++ [x] := by
  rw [List.take_add_one, hx, List.filter_append]; simp [hp]
theorem filt_no {α : Type} {p : α → Bool} {xs : List α} {k : Nat} {x : α} (hx : xs[k]? = some x) (hp : p x = false) : (xs.take (k + 1)).filter p = (xs.take k).filter p := by
  rw [List.take_add_one, hx, List.filter_append]; simp [hp]
theorem filt_len {α : Type} (p : α → Bool) (xs : List α) (k : Nat) : ((xs.take k).filter p).length ≤ k := Nat.le_trans (List.length_filter_le _ _) (List.length_take_le _ _)
theorem flatMap_get {α : Type} {cells : α → List Value} {k : Nat} (hcl : ∀ x, (cells x).length = k) : ∀ (xs : List α) (j : Nat) (u : Value), (xs.flatMap cells)[j]? = some u → ∃ i r x, j = i * k + r ∧ r < k ∧ xs[i]? = some x ∧ (cells x)[r]? = some u
  | [], j, u, h => by simp at h
  | y :: ys, j, u, h => by
    rw [List.flatMap_cons] at h
    by_cases hj : j < k
    · rw [List.getElem?_append_left (by rw [hcl]; exact hj)] at h
      exact ⟨0, j, y, by simp, hj, rfl, h⟩
    · rw [List.getElem?_append_right (by rw [hcl]; omega), hcl] at h
      obtain ⟨i, r, x, h1, h2, h3, h4⟩ := flatMap_get hcl ys _ u h
      exact ⟨i + 1, r, x, by rw [Nat.add_mul]; omega, h2, by simpa using h3, h4⟩
/-- A slice that reads as plain elements: where its cells lie. -/
theorem Re.row {α : Type} {cells : α → List Value} {dat : α → Dat} {sch : Sch} {k : Nat} (hsz : sch.size = k) (hcl : ∀ x, (cells x).length = k) (hrd : ∀ hi w vs d, Rd hi w sch vs d → ∃ x, vs = cells x ∧ d = dat x) (hinj : ∀ x y, dat x = dat y → x = y)
    {w : World} {a : Option Addr} {n c : Nat} {xs : List α} (h : Re w (.sl sch) [.slice a n c] (.l (xs.map dat))) :
    xs = [] ∨ ∃ b o, a = some ⟨b, o, none⟩ ∧ b < w.heap.size ∧ ∀ j u, (xs.flatMap cells)[j]? = some u → w.cell? ⟨b, o + j, none⟩ = some u := by
  unfold Re Rd at h
  obtain ⟨a', n', c', ds, h1, h2, h3, h4, h5⟩ := h
  simp only [List.cons.injEq, Value.slice.injEq, and_true] at h1
  obtain ⟨rfl, rfl, rfl⟩ := h1
  simp only [Dat.l.injEq] at h2
  subst h2
  cases hx : xs with
  | nil => exact .inl rfl
  | cons x0 xs0 =>
    right
    rw [← hx]
    have at_ : ∀ i x, xs[i]? = some x → ∃ b o, a = some ⟨b, o, none⟩ ∧ b < w.heap.size ∧ ∀ r u, (cells x)[r]? = some u → w.cell? ⟨b, o + i * k + r, none⟩ = some u := by
      intro i x hi
      obtain ⟨b, o, es, ha, hb, hc, hr⟩ := h5 i (dat x) (by simp [hi])
      obtain ⟨y, rfl, hy⟩ := hrd _ _ _ _ hr
      obtain rfl := hinj _ _ hy
      rw [hsz] at hc
      exact ⟨b, o, ha, hb, hc⟩
    obtain ⟨b, o, rfl, hb, _⟩ := at_ 0 x0 (by rw [hx]; rfl)
    refine ⟨b, o, rfl, hb, fun j u hu => ?_⟩
    obtain ⟨i, r, x, rfl, _, hi, hr⟩ := flatMap_get hcl xs j u hu
    obtain ⟨b', o', e, _, hc⟩ := at_ i x hi
    simp only [Option.some.injEq, Addr.mk.injEq, and_true] at e
    obtain ⟨rfl, rfl⟩ := e
    rw [← Nat.add_assoc]
    exact hc r u hr
/-- A whole slice appended to a row of one's own, in a world that adds to w0. -/
theorem wp_apps {α : Type} {cells : α → List Value} {dat : α → Dat} {sch : Sch} {k bytes : Nat} {z : Value} {TS T : TypeId} (hT : Try.prog.underlying TS = some (.slice T)) (hI : (Try.prog.info? T).map (fun i => (i.zero, i.size, i.bytes)) = some (some z, k, bytes)) (hz : z.cells.size = k) (hpos : 0 < k) (hby : bytes ≤ 1024)
    (hsz : sch.size = k) (hcl : ∀ x, (cells x).length = k) (hrd : ∀ hi w vs d, Rd hi w sch vs d → ∃ x, vs = cells x ∧ d = dat x) (hinj : ∀ x y, dat x = dat y → x = y) (hone : ∀ x, ∀ u ∈ cells x, u.oneCell' = true)
    {o : Oper} {a : Act} {K : Act → World → Prop} {Q : Exit → Act → World → Prop} {w0 w : World} (s x : Operand) (ho : o.op = .call { callee := .builtin .append, args := #[s, x], argTypes := #[TS, TS] })
    {v : Value} {xs : List α} (hs : a.eval s = v) (hE : Ext w0 w) (hown : w.ownsRow w0.heap.size T k v xs.length (xs.flatMap cells)) (ys : List α) {ad : Option Addr} {m c : Nat} (hx : a.eval x = .slice ad m c) (hy : Re w (.sl sch) [.slice ad m c] (.l (ys.map dat))) (hn : xs.length + m ≤ 4194304)
    (h : ∀ v' t', (ext w0 t').ownsRow w0.heap.size T k v' (xs ++ ys).length ((xs ++ ys).flatMap cells) → K (a.put o.dst v') (ext w0 t')) : o.wp Try.prog a w K Q := by
  have hm := hy.len
  cases hi : Try.prog.info? T with
  | none => rw [hi] at hI; cases hI
  | some i =>
    rw [hi] at hI
    simp only [Option.map_some, Option.some.injEq, Prod.mk.injEq] at hI
    obtain ⟨i1, i2, i3⟩ := hI
    have go : ∀ b o', ad = some (⟨b, o', none⟩ : Addr) → (∀ j u, (ys.flatMap cells)[j]? = some u → w.cell? ⟨b, o' + j, none⟩ = some u) → o.wp Try.prog a w K Q := by
      intro b o' e hc
      subst e
      refine wp_append_own_wide w s x TS ho w0.heap.size T i z k bytes hT hi i1 i2 i3 hz hpos v xs.length (xs.flatMap cells) hs hown ⟨b, o', none⟩ m c (ys.flatMap cells) hx ?_ ?_ ?_ ?_ ?_ hE.size ?_
      · rw [hm, List.length_flatMap, List.map_congr_left (g := fun _ => k) (fun x _ => hcl x), List.map_const', List.sum_replicate_nat]
      · intro j u hu
        rw [ld_add]
        exact hc j u hu
      · intro u hu
        obtain ⟨y, _, hy'⟩ := List.mem_flatMap.1 hu
        exact hone y u hy'
      · simp only [maxLen]; omega
      · calc (xs.length + m + (xs.length + m) / 4 + 192) * bytes ≤ (xs.length + m + (xs.length + m) / 4 + 192) * 1024 := Nat.mul_le_mul_left _ hby
          _ ≤ 281474976710656 := by omega
      · intro v' w' h1 h2 _
        have hE' : Ext w0 w' := Ext.of_below (hE.below.grown h2 hE.size fun k hk => (hown.lt k hk).1)
        obtain ⟨t', rfl⟩ := hE'
        refine h v' t' ?_
        rw [List.length_append, List.flatMap_append, ← hm]
        exact h1
    rcases hy.row hsz hcl hrd hinj with he | ⟨b, o', e, _, hc⟩
    · subst he
      obtain rfl : m = 0 := hm
      cases ad with
      | none =>
        obtain ⟨t, rfl⟩ := hE
        have h0 := h v t (by simpa using hown)
        have hl : ∃ base sl sc, v = .slice base sl sc ∧ sl ≤ sc := by
          rcases hown.2 with ⟨rfl, _⟩ | ⟨g, cap, cur, rfl, _, _, hc, _⟩
          · exact ⟨none, 0, 0, rfl, Nat.le_refl _⟩
          · exact ⟨_, _, _, rfl, hc⟩
        obtain ⟨base, sl, sc, rfl, hle⟩ := hl
        have hrun := run_append_nothing (P := Try.prog) (ext w0 t) TS TS o.type T i hT hi base sl sc hle (.slice none 0 c) (Src.ofNil _ (size := i.size) hT c)
        unfold Oper.wp
        simp [execOp, ho, resolve, invoke, builtin, hs, hx, hrun, Result.andThen]
        exact h0
      | some ad =>
        obtain ⟨b, o', sp⟩ := ad
        cases sp with
        | none => exact go b o' rfl fun j u hu => by simp at hu
        | some sp =>
          refine wp_append_own_wide w s x TS ho w0.heap.size T i z k bytes hT hi i1 i2 i3 hz hpos v xs.length (xs.flatMap cells) hs hown ⟨b, o', some sp⟩ 0 c [] hx (by simp) (fun j u hu => by simp at hu) (fun u hu => by simp at hu) ?_ ?_ hE.size ?_
          · simp only [maxLen]; omega
          · calc (xs.length + 0 + (xs.length + 0) / 4 + 192) * bytes ≤ (xs.length + 0 + (xs.length + 0) / 4 + 192) * 1024 := Nat.mul_le_mul_left _ hby
              _ ≤ 281474976710656 := by omega
          · intro v' w' h1 h2 _
            have hE' : Ext w0 w' := Ext.of_below (hE.below.grown h2 hE.size fun k hk => (hown.lt k hk).1)
            obtain ⟨t', rfl⟩ := hE'
            exact h v' t' (by simpa using h1)
    · exact go b o' e hc

theorem wpList_apps {α : Type} {cells : α → List Value} {dat : α → Dat} {sch : Sch} {k bytes : Nat} {z : Value} {TS T : TypeId} (hT : Try.prog.underlying TS = some (.slice T)) (hI : (Try.prog.info? T).map (fun i => (i.zero, i.size, i.bytes)) = some (some z, k, bytes)) (hz : z.cells.size = k) (hpos : 0 < k) (hby : bytes ≤ 1024)
    (hsz : sch.size = k) (hcl : ∀ x, (cells x).length = k) (hrd : ∀ hi w vs d, Rd hi w sch vs d → ∃ x, vs = cells x ∧ d = dat x) (hinj : ∀ x y, dat x = dat y → x = y) (hone : ∀ x, ∀ u ∈ cells x, u.oneCell' = true)
    {ops : Array Oper} {rest : List Oper} {o : Oper} {a : Act} {Q : Exit → Act → World → Prop} {w0 w : World} (hgd : o.guard = none) (s x : Operand) (ho : o.op = .call { callee := .builtin .append, args := #[s, x], argTypes := #[TS, TS] })
    {v : Value} {xs : List α} (hs : a.eval s = v) (hE : Ext w0 w) (hown : w.ownsRow w0.heap.size T k v xs.length (xs.flatMap cells)) (ys : List α) {ad : Option Addr} {m c : Nat} (hx : a.eval x = .slice ad m c) (hy : Re w (.sl sch) [.slice ad m c] (.l (ys.map dat))) (hn : xs.length + m ≤ 4194304)
    (h : ∀ v' t', (ext w0 t').ownsRow w0.heap.size T k v' (xs ++ ys).length ((xs ++ ys).flatMap cells) → wpList Try.prog ops Q rest (a.put o.dst v') (ext w0 t')) : wpList Try.prog ops Q (o :: rest) a w :=
  wpList_plain hgd fun _ hK => wp_apps hT hI hz hpos hby hsz hcl hrd hinj hone s x ho hs hE hown ys hx hy hn fun v' t' hg => hK _ _ (h v' t' hg)

/-- The list of marks of a type: the i-th from q on. -/
def marksOf {α : Type} (mk : Int → α) (sz : Nat) (q : Int) (n : Nat) : List α := (List.range n).map fun i => mk (q + (sz * i : Nat))
theorem marksOf_length {α : Type} (mk : Int → α) (sz : Nat) (q : Int) (n : Nat) : (marksOf mk sz q n).length = n := by simp [marksOf]
theorem marksOf_get {α : Type} (mk : Int → α) (sz : Nat) (q : Int) (n i : Nat) (h : i < n) : (marksOf mk sz q n)[i]? = some (mk (q + (sz * i : Nat))) := by simp [marksOf, h]
theorem FillI.put {α : Type} {cells : α → List Value} {k : Nat} {arr arr' : Array Value} {xs : List α} {j : Nat} {x : α} (h : FillI cells k arr xs xs.length) (hcl : ∀ y, (cells y).length = k) (hlt : j < xs.length)
    (ho : ∀ i, ¬ (j * k ≤ i ∧ i < j * k + k) → arr'[i]? = arr[i]?) (hi : ∀ i v, (cells x)[i]? = some v → arr'[j * k + i]? = some v) : FillI cells k arr' (xs.set j x) (xs.set j x).length := by
  intro i y hiy hy r v hv
  rw [List.length_set] at hiy
  have hr : r < k := by rw [← hcl y]; exact (List.getElem?_eq_some_iff.1 hv).1
  rw [List.getElem?_set] at hy
  split at hy
  · rename_i e
    subst e
    obtain rfl := Option.some.inj (show some x = some y by simpa [hlt] using hy)
    exact hi r v hv
  · rename_i e
    rw [ho _ ?_]
    · exact h i y hiy hy r v hv
    · intro ⟨h1, h2⟩
      rcases Nat.lt_or_gt_of_ne e with h3 | h3
      · have : (j + 1) * k ≤ i * k := Nat.mul_le_mul_right _ h3
        rw [Nat.add_mul, Nat.one_mul] at this; omega
      · have : (i + 1) * k ≤ j * k := Nat.mul_le_mul_right _ h3
        rw [Nat.add_mul, Nat.one_mul] at this; omega

/-- A slice of plain elements of one's own with something in it: its block; what becomes of it when one element is overwritten. -/
theorem own_at {α : Type} {cells : α → List Value} {dat : α → Dat} {sch : Sch} {k : Nat} (hsz : sch.size = k) (hpos : 0 < k) (hpl : sch.plain = true) (hcl : ∀ x, (cells x).length = k) (hrd : ∀ hi w vs d, Rd hi w sch vs d → ∃ x, vs = cells x ∧ d = dat x) (hinj : ∀ x y, dat x = dat y → x = y) (hown : ∀ w x, Own w sch (cells x) (dat x) [])
    {w : World} {a : Option Addr} {n c : Nat} {xs : List α} {B : List Nat} (h : Own w (.sl sch) [.slice a n c] (.l (xs.map dat)) B) {j : Nat} (hj : j < n) :
    ∃ (b : Nat) (arr : Array Value) (T : TypeId) (x : α), a = some ⟨b, 0, none⟩ ∧ B = [b] ∧ n = xs.length ∧ xs[j]? = some x ∧ w.heap[b]? = some (.cells arr T (0, 0)) ∧ j * k + k ≤ arr.size ∧ (∀ i v, (cells x)[i]? = some v → w.cell? ⟨b, j * k + i, none⟩ = some v) ∧ (∀ o, w.frozen? ⟨b, o, none⟩ = false) ∧
      ∀ (w' : World) (arr' : Array Value) (y : α), w'.heap[b]? = some (.cells arr' T (0, 0)) → arr'.size = arr.size → (∀ i, ¬ (j * k ≤ i ∧ i < j * k + k) → arr'[i]? = arr[i]?) → (∀ i v, (cells y)[i]? = some v → arr'[j * k + i]? = some v) →
        Own w' (.sl sch) [.slice (some ⟨b, 0, none⟩) n c] (.l ((xs.set j y).map dat)) [b] := by
  obtain ⟨hl, hm, hf⟩ := own_flat hsz hpos hpl hcl hrd hinj h
  rcases hf with ⟨rfl, rfl⟩ | ⟨b, arr, T, rfl, rfl, hb, hs, hf⟩
  · simp at hl; omega
  · have hlt : j < xs.length := by omega
    have hle : j * k + k ≤ arr.size := by
      have : (j + 1) * k ≤ xs.length * k := Nat.mul_le_mul_right _ hlt
      rw [Nat.add_mul, Nat.one_mul] at this; omega
    refine ⟨b, arr, T, xs[j], rfl, rfl, hl, List.getElem?_eq_getElem hlt, hb, hle, fun i v hv => ?_, fun o => frozen_blk hb o, fun w' arr' y hb' hs' ho hi => ?_⟩
    · rw [cell_blk hb]
      exact hf j _ hlt (List.getElem?_eq_getElem hlt) i v hv
    · have h2 := own_flat_mk (w := w') (cells := cells) (dat := dat) (k := k) (a := some ⟨b, 0, none⟩) (c := c) (xs := xs.set j y) (B := [b]) hsz hown (by rw [List.length_set]; omega)
        (.inr ⟨b, arr', T, rfl, rfl, hb', by rw [List.length_set, hs']; exact hs, hf.put hcl hlt ho hi⟩)
      rw [List.length_set, ← hl] at h2
      exact h2

/-- A row of one's own in a world that adds to w, as a slice that is owned. -/
theorem own_of_row {α : Type} {cells : α → List Value} {dat : α → Dat} {sch : Sch} {k : Nat} (hsz : sch.size = k) (hown : ∀ w x, Own w sch (cells x) (dat x) []) (hcl : ∀ x, (cells x).length = k) {w w' : World} {T : TypeId} {xs : List α} {v : Value} (hE : Ext w w')
    (hm : xs.length ≤ 9223372036854775807) (h : w'.ownsRow w.heap.size T k v xs.length (xs.flatMap cells)) : ∃ a c, v = .slice a xs.length c ∧ OwnR w.heap.size w'.heap.size w' (.sl sch) [.slice a xs.length c] (.l (xs.map dat)) := by
  obtain ⟨a, c, h1, _, h3⟩ := MadeL.mk_row hsz hown hcl hE hm h
  exact ⟨a, c, Ending.returned.inj h1, h3⟩

/-- append([]T(nil), s..): a copy in new memory. -/
theorem wp_clone {α : Type} {cells : α → List Value} {dat : α → Dat} {sch : Sch} {k bytes : Nat} {z : Value} {TS T : TypeId} (hT : Try.prog.underlying TS = some (.slice T)) (hI : (Try.prog.info? T).map (fun i => (i.zero, i.size, i.bytes)) = some (some z, k, bytes)) (hz : z.cells.size = k) (hpos : 0 < k) (hby : bytes ≤ 1024)
    (hsz : sch.size = k) (hcl : ∀ x, (cells x).length = k) (hrd : ∀ hi w vs d, Rd hi w sch vs d → ∃ x, vs = cells x ∧ d = dat x) (hinj : ∀ x y, dat x = dat y → x = y) (hone : ∀ x, ∀ u ∈ cells x, u.oneCell' = true) (hown : ∀ w x, Own w sch (cells x) (dat x) [])
    {o : Oper} {a : Act} {K : Act → World → Prop} {Q : Exit → Act → World → Prop} {w : World} (s x : Operand) (ho : o.op = .call { callee := .builtin .append, args := #[s, x], argTypes := #[TS, TS] })
    (hs : a.eval s = .slice none 0 0) (ys : List α) {ad : Option Addr} {m c : Nat} (hx : a.eval x = .slice ad m c) (hy : Re w (.sl sch) [.slice ad m c] (.l (ys.map dat))) (hn : m ≤ 1048576)
    (h : ∀ a' c' t', OwnR w.heap.size (ext w t').heap.size (ext w t') (.sl sch) [.slice a' m c'] (.l (ys.map dat)) → K (a.put o.dst (.slice a' m c')) (ext w t')) : o.wp Try.prog a w K Q := by
  refine wp_apps hT hI hz hpos hby hsz hcl hrd hinj hone s x ho hs (Ext.refl w) (xs := []) (by simpa using World.ownsRow_nil _ _ _ _) ys hx hy (by simp; omega) fun v' t' hg => ?_
  have hm := hy.len
  rw [List.nil_append] at hg
  obtain ⟨a', c', rfl, ho⟩ := own_of_row (dat := dat) hsz hown hcl ⟨t', rfl⟩ (by omega) hg
  rw [← hm] at ho ⊢
  exact h _ _ _ ho

theorem wpList_clone {α : Type} {cells : α → List Value} {dat : α → Dat} {sch : Sch} {k bytes : Nat} {z : Value} {TS T : TypeId} (hT : Try.prog.underlying TS = some (.slice T)) (hI : (Try.prog.info? T).map (fun i => (i.zero, i.size, i.bytes)) = some (some z, k, bytes)) (hz : z.cells.size = k) (hpos : 0 < k) (hby : bytes ≤ 1024)
    (hsz : sch.size = k) (hcl : ∀ x, (cells x).length = k) (hrd : ∀ hi w vs d, Rd hi w sch vs d → ∃ x, vs = cells x ∧ d = dat x) (hinj : ∀ x y, dat x = dat y → x = y) (hone : ∀ x, ∀ u ∈ cells x, u.oneCell' = true) (hown : ∀ w x, Own w sch (cells x) (dat x) [])
    {ops : Array Oper} {rest : List Oper} {o : Oper} {a : Act} {Q : Exit → Act → World → Prop} {w : World} (hgd : o.guard = none) (s x : Operand) (ho : o.op = .call { callee := .builtin .append, args := #[s, x], argTypes := #[TS, TS] })
    (hs : a.eval s = .slice none 0 0) (ys : List α) {ad : Option Addr} {m c : Nat} (hx : a.eval x = .slice ad m c) (hy : Re w (.sl sch) [.slice ad m c] (.l (ys.map dat))) (hn : m ≤ 1048576)
    (h : ∀ a' c' t', OwnR w.heap.size (ext w t').heap.size (ext w t') (.sl sch) [.slice a' m c'] (.l (ys.map dat)) → wpList Try.prog ops Q rest (a.put o.dst (.slice a' m c')) (ext w t')) : wpList Try.prog ops Q (o :: rest) a w :=
  wpList_plain hgd fun _ hK => wp_clone hT hI hz hpos hby hsz hcl hrd hinj hone hown s x ho hs ys hx hy hn fun a' c' t' hg => hK _ _ (h a' c' t' hg)

/-- append([]T{}, s..): a copy in new memory, behind an empty block. -/
theorem wp_clone0 {α : Type} {cells : α → List Value} {dat : α → Dat} {sch : Sch} {k bytes : Nat} {z : Value} {TS T : TypeId} (hT : Try.prog.underlying TS = some (.slice T)) (hI : (Try.prog.info? T).map (fun i => (i.zero, i.size, i.bytes)) = some (some z, k, bytes)) (hz : z.cells.size = k) (hpos : 0 < k) (hby : bytes ≤ 1024)
    (hsz : sch.size = k) (hcl : ∀ x, (cells x).length = k) (hrd : ∀ hi w vs d, Rd hi w sch vs d → ∃ x, vs = cells x ∧ d = dat x) (hinj : ∀ x y, dat x = dat y → x = y) (hone : ∀ x, ∀ u ∈ cells x, u.oneCell' = true) (hown : ∀ w x, Own w sch (cells x) (dat x) [])
    {o : Oper} {a : Act} {K : Act → World → Prop} {Q : Exit → Act → World → Prop} {w : World} (s x : Operand) (ho : o.op = .call { callee := .builtin .append, args := #[s, x], argTypes := #[TS, TS] })
    (hs : a.eval s = .slice (some ⟨w.heap.size, 0, none⟩) 0 0) (ys : List α) {ad : Option Addr} {m c : Nat} (hx : a.eval x = .slice ad m c) (hy : Re w (.sl sch) [.slice ad m c] (.l (ys.map dat))) (hn : m ≤ 1048576)
    (h : ∀ a' c' t', OwnR w.heap.size (ext w t').heap.size (ext w t') (.sl sch) [.slice a' m c'] (.l (ys.map dat)) → K (a.put o.dst (.slice a' m c')) (ext w t')) : o.wp Try.prog a (w.alloc (.cells #[] T)) K Q := by
  refine wp_apps hT hI hz hpos hby hsz hcl hrd hinj hone s x ho hs (w0 := w) ((Ext.refl w).alloc _) (xs := []) (by simpa using World.ownsRow_made w #[] 0 (Nat.le_refl _) (Nat.zero_le _) (by simp)) ys hx (hy.of ((Ext.refl w).alloc _)) (by simp; omega) fun v' t' hg => ?_
  have hm := hy.len
  rw [List.nil_append] at hg
  obtain ⟨a', c', rfl, ho⟩ := own_of_row (dat := dat) hsz hown hcl ⟨t', rfl⟩ (by omega) hg
  rw [← hm] at ho ⊢
  exact h _ _ _ ho

theorem wpList_clone0 {α : Type} {cells : α → List Value} {dat : α → Dat} {sch : Sch} {k bytes : Nat} {z : Value} {TS T : TypeId} (hT : Try.prog.underlying TS = some (.slice T)) (hI : (Try.prog.info? T).map (fun i => (i.zero, i.size, i.bytes)) = some (some z, k, bytes)) (hz : z.cells.size = k) (hpos : 0 < k) (hby : bytes ≤ 1024)
    (hsz : sch.size = k) (hcl : ∀ x, (cells x).length = k) (hrd : ∀ hi w vs d, Rd hi w sch vs d → ∃ x, vs = cells x ∧ d = dat x) (hinj : ∀ x y, dat x = dat y → x = y) (hone : ∀ x, ∀ u ∈ cells x, u.oneCell' = true) (hown : ∀ w x, Own w sch (cells x) (dat x) [])
    {ops : Array Oper} {rest : List Oper} {o : Oper} {a : Act} {Q : Exit → Act → World → Prop} {w : World} (hgd : o.guard = none) (s x : Operand) (ho : o.op = .call { callee := .builtin .append, args := #[s, x], argTypes := #[TS, TS] })
    (hs : a.eval s = .slice (some ⟨w.heap.size, 0, none⟩) 0 0) (ys : List α) {ad : Option Addr} {m c : Nat} (hx : a.eval x = .slice ad m c) (hy : Re w (.sl sch) [.slice ad m c] (.l (ys.map dat))) (hn : m ≤ 1048576)
    (h : ∀ a' c' t', OwnR w.heap.size (ext w t').heap.size (ext w t') (.sl sch) [.slice a' m c'] (.l (ys.map dat)) → wpList Try.prog ops Q rest (a.put o.dst (.slice a' m c')) (ext w t')) : wpList Try.prog ops Q (o :: rest) a (w.alloc (.cells #[] T)) :=
  wpList_plain hgd fun _ hK => wp_clone0 hT hI hz hpos hby hsz hcl hrd hinj hone hown s x ho hs ys hx hy hn fun a' c' t' hg => hK _ _ (h a' c' t' hg)
end Go.Proofs.Ytdogknbkcididaa
