/- Structs with slices in them: what is owned, field by field. -/
import Derived.Test.YtdogknbkcididaaMem
import Derived.Test.YtdogknbkcididaaSeg
import Derived.Test.YtdogknbkcididaaScal
namespace Go.Proofs.Ytdogknbkcididaa
open Go.RowKit

def OwnRL (lo hi : Nat) (w : World) (fs : List Sch) (vs : List Value) (ds : List Dat) : Prop := hi ≤ w.heap.size ∧ ∃ B : List Nat, B.Nodup ∧ (∀ b ∈ B, lo ≤ b ∧ b < hi) ∧ OwnL w fs vs ds B
theorem OwnRL.nil {lo hi : Nat} {w : World} (h : hi ≤ w.heap.size) : OwnRL lo hi w [] [] [] := ⟨h, [], by simp, by simp, by unfold OwnL; exact ⟨rfl, rfl, rfl⟩⟩
theorem OwnRL.one {lo hi : Nat} {w : World} {s : Sch} {v1 vs : List Value} {d : Dat} {fs : List Sch} {ds : List Dat} (h : Own w s v1 d []) (k : OwnRL lo hi w fs vs ds) : OwnRL lo hi w (s :: fs) (v1 ++ vs) (d :: ds) := by
  obtain ⟨hh, B, hn, hr, ho⟩ := k
  refine ⟨hh, B, hn, hr, ?_⟩
  unfold OwnL
  exact ⟨v1, vs, d, ds, [], B, rfl, rfl, rfl, h, ho⟩
theorem OwnRL.cons {lo l1 m1 l2 hi : Nat} {w : World} {s : Sch} {v1 vs : List Value} {d : Dat} {fs : List Sch} {ds : List Dat} (h : OwnR l1 m1 w s v1 d) (k : OwnRL l2 hi w fs vs ds) (h0 : lo ≤ l1) (h1 : l1 ≤ m1) (h2 : m1 ≤ l2) (h3 : l2 ≤ hi) : OwnRL lo hi w (s :: fs) (v1 ++ vs) (d :: ds) := by
  obtain ⟨_, B1, hn1, hr1, ho1⟩ := h
  obtain ⟨hh, B2, hn2, hr2, ho2⟩ := k
  refine ⟨hh, B1 ++ B2, ?_, ?_, ?_⟩
  · refine List.nodup_append.2 ⟨hn1, hn2, fun a ha b hb e => ?_⟩
    have := hr1 a ha; have := hr2 b hb; omega
  · intro b hb
    rcases List.mem_append.1 hb with hb | hb
    · have := hr1 b hb; omega
    · have := hr2 b hb; omega
  · unfold OwnL
    exact ⟨v1, vs, d, ds, B1, B2, rfl, rfl, rfl, ho1, ho2⟩
theorem OwnRL.cons' {l1 m1 l2 hi : Nat} {w : World} {s : Sch} {v1 vs : List Value} {d : Dat} {fs : List Sch} {ds : List Dat} (h : OwnR l1 m1 w s v1 d) (k : OwnRL l2 hi w fs vs ds) (h1 : l1 ≤ m1) (h2 : m1 ≤ l2) (h3 : l2 ≤ hi) : OwnRL l1 hi w (s :: fs) (v1 ++ vs) (d :: ds) :=
  OwnRL.cons h k (Nat.le_refl _) h1 h2 h3
theorem OwnRL.nil' {hi : Nat} {w : World} (h : hi ≤ w.heap.size) : OwnRL hi hi w [] [] [] := OwnRL.nil h
theorem OwnRL.st {lo hi : Nat} {w : World} {fs : List Sch} {vs : List Value} {ds : List Dat} (h : OwnRL lo hi w fs vs ds) : OwnR lo hi w (.st fs) vs (.s ds) := by
  obtain ⟨hh, B, hn, hr, ho⟩ := h
  refine ⟨hh, B, hn, hr, ?_⟩
  unfold Own
  exact ⟨ds, rfl, ho⟩
theorem OwnRL.lo {lo lo' hi : Nat} {w : World} {fs : List Sch} {vs : List Value} {ds : List Dat} (h : OwnRL lo hi w fs vs ds) (hl : lo' ≤ lo) : OwnRL lo' hi w fs vs ds := by
  obtain ⟨hh, B, hn, hr, ho⟩ := h
  exact ⟨hh, B, hn, fun b hb => ⟨Nat.le_trans hl (hr b hb).1, (hr b hb).2⟩, ho⟩
/-- Blocks made before were stored into. -/
theorem OwnR.fin {lo hi : Nat} {X X' w' : World} {t : Xt} {s : Sch} {vs : List Value} {d : Dat} (h : OwnR lo hi (ext X t) s vs d) (hE : Ext (ext X' t) w') (hs : X'.heap.size = X.heap.size) (hl : X.heap.size ≤ lo) : OwnR lo hi w' s vs d := by
  refine OwnR.of ?_ hE
  obtain ⟨hh, B, hn, hr, ho⟩ := h
  refine ⟨by rw [ext_size] at hh ⊢; omega, B, hn, hr, Own.same s vs d B (fun b hb => ?_) ho⟩
  have hb1 := (hr b hb).1
  rw [ext_heap, ext_heap, Array.getElem?_append, Array.getElem?_append, if_neg (by omega), if_neg (by omega), hs]

/-- A cell of another block than those changed. -/
theorem Chg.cell {B : List Nat} {w w' : World} (hc : Chg B w w') {b : Nat} (hb : b < w.heap.size) (hn : b ∉ B) (o : Nat) : w'.cell? ⟨b, o, none⟩ = w.cell? ⟨b, o, none⟩ :=
  World.cell?_of_block (a := ⟨b, o, none⟩) (hc.block b hb hn)
theorem Chg.left {B1 B2 : List Nat} {w w' : World} (h : Chg B1 w w') : Chg (B1 ++ B2) w w' := h.mono fun _ hb => List.mem_append_left _ hb
theorem Chg.right {B1 B2 : List Nat} {w w' : World} (h : Chg B2 w w') : Chg (B1 ++ B2) w w' := h.mono fun _ hb => List.mem_append_right _ hb
theorem OwnL.chg {B B' : List Nat} {w w' : World} {fs : List Sch} {vs : List Value} {ds : List Dat} (h : OwnL w fs vs ds B) (hc : Chg B' w w') (hlt : ∀ b ∈ B, b < w.heap.size) (hd : ∀ b ∈ B, b ∉ B') : OwnL w' fs vs ds B :=
  OwnL.same fs vs ds B (fun b hb => hc.block b (hlt b hb) (hd b hb)) h
theorem ownL_cons {w : World} {s : Sch} {fs : List Sch} {vs : List Value} {ds : List Dat} {B : List Nat} (h : OwnL w (s :: fs) vs ds B) : ∃ v1 v2 d1 d2 B1 B2, vs = v1 ++ v2 ∧ ds = d1 :: d2 ∧ B = B1 ++ B2 ∧ Own w s v1 d1 B1 ∧ OwnL w fs v2 d2 B2 := by
  unfold OwnL at h; exact h
theorem ownL_mk {w : World} {s : Sch} {fs : List Sch} {v1 v2 : List Value} {d1 : Dat} {d2 : List Dat} {B1 B2 : List Nat} (h1 : Own w s v1 d1 B1) (h2 : OwnL w fs v2 d2 B2) : OwnL w (s :: fs) (v1 ++ v2) (d1 :: d2) (B1 ++ B2) := by
  unfold OwnL; exact ⟨v1, v2, d1, d2, B1, B2, rfl, rfl, rfl, h1, h2⟩
theorem ownL_nil {w : World} : OwnL w [] [] [] [] := by unfold OwnL; exact ⟨rfl, rfl, rfl⟩
theorem own_len {w : World} {e : Sch} {vs : List Value} {d : Dat} {B : List Nat} (h : Own w (.sl e) vs d B) : vs.length = 1 := by
  unfold Own at h
  obtain ⟨ds, _, _, ⟨_, _, a, c, rfl⟩ | ⟨b, c, arr, ty, Bs, rfl, _⟩⟩ := h <;> rfl
theorem own_int_cell {w : World} {vs : List Value} {d : Dat} {B : List Nat} (h : Own w .int vs d B) : (∃ n, vs = [.int .i64 n] ∧ d = .i n) ∧ B = [] := by unfold Own at h; exact h
theorem own_bool_cell {w : World} {vs : List Value} {d : Dat} {B : List Nat} (h : Own w .bool vs d B) : (∃ n, vs = [.bool n] ∧ d = .b n) ∧ B = [] := by unfold Own at h; exact h
/-- The first of several slices in a struct. -/
theorem ownL_sl {w : World} {e : Sch} {fs : List Sch} {v : Value} {vs : List Value} {d : Dat} {ds : List Dat} {B : List Nat} (h : OwnL w (.sl e :: fs) (v :: vs) (d :: ds) B) : ∃ B1 B2, B = B1 ++ B2 ∧ Own w (.sl e) [v] d B1 ∧ OwnL w fs vs ds B2 := by
  obtain ⟨v1, v2, d1, d2, B1, B2, h1, h2, h3, h4, h5⟩ := ownL_cons h
  have hl := own_len h4
  match v1, hl with
  | [u], _ =>
    simp only [List.singleton_append, List.cons.injEq] at h1 h2
    obtain ⟨rfl, rfl⟩ := h1
    obtain ⟨rfl, rfl⟩ := h2
    exact ⟨B1, B2, h3, h4, h5⟩
theorem ownL_int {w : World} {fs : List Sch} {v : Value} {vs : List Value} {d : Dat} {ds : List Dat} {B : List Nat} (h : OwnL w (.int :: fs) (v :: vs) (d :: ds) B) : OwnL w fs vs ds B := by
  obtain ⟨v1, v2, d1, d2, B1, B2, h1, h2, h3, h4, h5⟩ := ownL_cons h
  obtain ⟨⟨n, rfl, rfl⟩, rfl⟩ := own_int_cell h4
  simp only [List.singleton_append, List.cons.injEq] at h1 h2
  obtain ⟨rfl, rfl⟩ := h1
  obtain ⟨rfl, rfl⟩ := h2
  rw [h3]; exact h5
theorem own_st {w : World} {fs : List Sch} {vs : List Value} {ds : List Dat} {B : List Nat} (h : Own w (.st fs) vs (.s ds) B) : OwnL w fs vs ds B := by
  unfold Own at h
  obtain ⟨ds', hd, hl⟩ := h
  simp only [Dat.s.injEq] at hd
  subst hd
  exact hl
theorem own_st_mk {w : World} {fs : List Sch} {vs : List Value} {ds : List Dat} {B : List Nat} (h : OwnL w fs vs ds B) : Own w (.st fs) vs (.s ds) B := by
  unfold Own; exact ⟨ds, rfl, h⟩
theorem nodup_l {B1 B2 : List Nat} (h : (B1 ++ B2).Nodup) : ∀ b ∈ B2, b ∉ B1 := fun b hb h1 => (List.nodup_append.1 h).2.2 b h1 b hb rfl
theorem nodup_r {B1 B2 : List Nat} (h : (B1 ++ B2).Nodup) : ∀ b ∈ B1, b ∉ B2 := fun b hb h1 => (List.nodup_append.1 h).2.2 b hb b h1 rfl
theorem nodup_t {B1 B2 : List Nat} (h : (B1 ++ B2).Nodup) : B2.Nodup := (List.nodup_append.1 h).2.1

theorem blk_drew {w : World} {b : Nat} {x : Option Obj} (h : w.heap[b]? = x) : w.drew.heap[b]? = x := h
theorem blk_other {w : World} {b b' o : Nat} {v : Value} {x : Option Obj} (h : w.heap[b]? = x) (hn : b ≠ b') : (w.setCell ⟨b', o, none⟩ v).heap[b]? = x := (Below.heap_setCell _ _ _ _ hn).trans h
theorem blk_ext {w : World} {t : Xt} {b : Nat} {x : Obj} (h : w.heap[b]? = some x) : (ext w t).heap[b]? = some x := (ext_block _ _ _ (lt_blk h)).trans h
theorem blk_alloc {w : World} {b : Nat} {o x : Obj} (h : w.heap[b]? = some x) : (w.alloc o).heap[b]? = some x := by rw [alloc_ext]; exact blk_ext h
theorem Chg.ext {B : List Nat} {a w : World} {t : Xt} (h : Chg B a w) : Chg B a (Go.Proofs.Ytdogknbkcididaa.ext w t) := h.trans (Chg.of_ext ⟨t, rfl⟩ B)
theorem Chg.drewl {B : List Nat} {a w : World} (h : Chg B a w) : Chg B a.drew w := ⟨h.os, h.tape, h.output, h.size, h.block⟩
theorem Chg.both {B : List Nat} {a w : World} {o : Obj} (h : Chg B a w) (hs : a.heap.size = w.heap.size) : Chg B (a.alloc o) (w.alloc o) := by
  refine ⟨h.os, h.tape, h.output, by simp [hs], fun k hk hn => ?_⟩
  rcases Nat.lt_or_ge k a.heap.size with h1 | h1
  · rw [heap_alloc_old a o (r := k) h1, heap_alloc_old w o (r := k) (by omega)]
    exact h.block k h1 hn
  · obtain rfl : k = a.heap.size := by simp at hk; omega
    rw [heap_alloc_new]
    rw [show a.heap.size = w.heap.size from hs, heap_alloc_new]
theorem Chg.turn {a : World} {o o' : Obj} {R : Nat} (hR : a.heap.size = R) : Chg [R] (a.alloc o) (a.alloc o') := by
  refine ⟨rfl, rfl, rfl, by simp, fun k hk hn => ?_⟩
  have h1 : k < a.heap.size := by simp at hk hn; omega
  rw [heap_alloc_old a o' (r := k) h1, heap_alloc_old a o (r := k) h1]
theorem Chg.alloc {B : List Nat} {a w : World} {o : Obj} (h : Chg B a w) : Chg B a (w.alloc o) := h.trans (Chg.of_ext ((Ext.refl w).alloc o) B)

/-- The world with one block turned, blocks added, and draws. -/
def putBlk (w : World) (R : Nat) (ob : Obj) : World := { w with heap := w.heap.setIfInBounds R ob }
structure Xr where
  t : Xt
  ob : Obj
instance : Inhabited Xr := ⟨⟨⟨#[], 0⟩, .cells #[] 0 (0, 0)⟩⟩
def extR (w : World) (R : Nat) (x : Xr) : World := ext (putBlk w R x.ob) x.t
theorem putBlk_block (w : World) (R : Nat) (ob : Obj) (b : Nat) (hn : b ≠ R) : (putBlk w R ob).heap[b]? = w.heap[b]? := by
  simp [putBlk, Array.getElem?_setIfInBounds_ne (Ne.symm hn)]
theorem extR_block (w : World) (R : Nat) (x : Xr) (b : Nat) (h : b < w.heap.size) (hn : b ≠ R) : (extR w R x).heap[b]? = w.heap[b]? := by
  unfold extR
  rw [ext_block _ _ _ (by simpa [putBlk] using h), putBlk_block _ _ _ _ hn]
@[go_sem] theorem extR_cell' (w : World) (R : Nat) (x : Xr) (b i : Nat) (h : b < w.heap.size) (hn : b ≠ R) : (extR w R x).cell? ⟨b, i, none⟩ = w.cell? ⟨b, i, none⟩ := World.cell?_of_block (a := ⟨b, i, none⟩) (extR_block w R x b h hn)
@[go_sem] theorem extR_frozen' (w : World) (R : Nat) (x : Xr) (b i : Nat) (h : b < w.heap.size) (hn : b ≠ R) : (extR w R x).frozen? ⟨b, i, none⟩ = w.frozen? ⟨b, i, none⟩ := by
  simp [World.frozen?, extR_block w R x b h hn]
@[go_sem high] theorem ne_add_r0 (a b : Nat) (h : a < b) : (a = b) = False := by simp only [eq_iff_iff, iff_false]; omega
@[go_sem high] theorem ne_add_r1 (a b k : Nat) (h : a < b) : (a = b + k) = False := by simp only [eq_iff_iff, iff_false]; omega
@[go_sem high] theorem ne_add_r2 (a b k0 k1 : Nat) (h : a < b) : (a = b + k0 + k1) = False := by simp only [eq_iff_iff, iff_false]; omega
@[go_sem high] theorem ne_add_r3 (a b k0 k1 k2 : Nat) (h : a < b) : (a = b + k0 + k1 + k2) = False := by simp only [eq_iff_iff, iff_false]; omega
theorem extR_of {R : Nat} {w w' : World} (h : Chg [R] w w') : ∃ x, w' = extR w R x := by
  refine ⟨⟨⟨w'.heap.extract w.heap.size w'.heap.size, w'.drawn⟩, (w'.heap[R]?).getD default⟩, ?_⟩
  have hs := h.size
  have e : w'.heap = w.heap.setIfInBounds R ((w'.heap[R]?).getD default) ++ w'.heap.extract w.heap.size w'.heap.size := by
    apply Array.ext_getElem?
    intro i
    rw [Array.getElem?_append, Array.size_setIfInBounds]
    split
    · rename_i hi
      rw [Array.getElem?_setIfInBounds]
      split
      · rename_i e
        subst e
        rw [if_pos hi, Array.getElem?_eq_getElem (by omega)]
        rfl
      · rename_i e
        exact h.block i hi (by simpa using Ne.symm e)
    · rename_i hi
      rw [Array.getElem?_extract]
      split
      · congr 1; omega
      · rw [Array.getElem?_eq_none (by omega)]
  obtain ⟨h1, t1, d1, o1, u1⟩ := w
  obtain ⟨h2, t2, d2, o2, u2⟩ := w'
  obtain ⟨q1, q2, q3, _, _⟩ := h
  simp only at q1 q2 q3 e
  subst q1 q2 q3
  simp only [extR, putBlk, ext]
  rw [← e]
theorem Ext.set {a w : World} (h : Ext a w) {b o : Nat} (hb : a.heap.size ≤ b) (v : Value) : Ext a (w.setCell ⟨b, o, none⟩ v) := by
  refine Ext.of_below (Below.chg (w0 := a) h.below ((Chg.refl [b] w).set (by simp) v) fun k hk => ?_)
  obtain rfl : k = b := by simpa using hk
  exact hb
section
variable {P : Program} {ops : Array Oper} {Q : Exit → Act → World → Prop}
/-- The region that also stores into the block R. -/
theorem wp_region_mixR (R : Nat) {id : Nat} {a : Act} {w : World} {l : List Oper} (hm : P.follows .mixedOrders = true) (hB : segOk l.toArray = true)
    (h : wpMixL P l.toArray (fun w' => ∃ x, w' = extR w.drew R x) (Qt Q) l a w.drew) : (Code.region id l.toArray true).wp P Q a w := by
  refine Code.wp_mono (Q := Qt Q) (fun e a w h => by cases e <;> first | exact h | exact False.elim h) (wp_region_held (S := fun w' => ∃ x, w' = extR w.drew R x) hm ?_)
  have h1 := mix_of_list l 0 a _ (fun j => by simp) h
  have h2 := mix_sound hB (fun c a d v w h => h) (List.range' 0 l.length) (Array.replicate l.toArray.size false) a w.drew (by simp) List.pairwise_lt_range' (fun j => by
    simp only [List.mem_range'_1, List.size_toArray, Nat.zero_le, true_and, Nat.zero_add]
    constructor
    · intro hj; exact ⟨hj, by simp [hj]⟩
    · exact fun hj => hj.1) (extR_of (Chg.refl _ _)) h1
  simpa using h2
theorem wp_gen {c : Code} {a : Act} {w : World} (h : ∀ W, W = w → c.wp P Q a W) : c.wp P Q a w := h w rfl
theorem calls_gen {f : FuncId} {args : Array Value} {w : World} {K : Ending → World → Prop} (h : ∀ W, W = w → Calls P f args W K) : Calls P f args w K := h w rfl
theorem wpList_gen {o : List Oper} {a : Act} {w : World} (h : ∀ W, W = w → wpList P ops Q o a W) : wpList P ops Q o a w := h w rfl
end
theorem ChgR.cell {lo hi : Nat} {w w' : World} (hc : ChgR lo hi w w') {b : Nat} (hb : b < w.heap.size) (ho : b < lo ∨ hi ≤ b) (o : Nat) : w'.cell? ⟨b, o, none⟩ = w.cell? ⟨b, o, none⟩ :=
  World.cell?_of_block (a := ⟨b, o, none⟩) (hc.block b hb ho)
theorem ChgR.frozen {lo hi : Nat} {w w' : World} (hc : ChgR lo hi w w') {b : Nat} (hb : b < w.heap.size) (ho : b < lo ∨ hi ≤ b) (o : Nat) : w'.frozen? ⟨b, o, none⟩ = w.frozen? ⟨b, o, none⟩ := by
  simp [World.frozen?, hc.block b hb ho]
/-- A result cell R was stored into behind what changed the blocks that are owned. -/
theorem fin_res {w W w1 w2 : World} {lo hi R : Nat} {s : Sch} {vs : List Value} {d : Dat} (hE : Ext w W) (hc : ChgR lo hi W w1) (ho : OwnR lo hi w1 s vs d) (hR : w.heap.size ≤ R) (hRl : R < lo) (h2 : Chg [R] w1 w2) : Ext w w2 ∧ OwnR w.heap.size w2.heap.size w2 s vs d := by
  have hb := bel_chg (W := w) hE.below hc (by omega)
  refine ⟨Ext.of_below (Below.chg hb h2 fun k hk => ?_), ?_⟩
  · obtain rfl : k = R := by simpa using hk
    exact hR
  · have hk : ∀ k ∈ [R], R ≤ k ∧ k < R + 1 := fun k hk => by
      obtain rfl : k = R := by simpa using hk
      omega
    have h3 := OwnR.chg ho (h2.toR hk) (.inr (by omega))
    exact h3.mono (by omega) h3.1 (Nat.le_refl _)
end Go.Proofs.Ytdogknbkcididaa
