/- What a value reads as in a world (Rd), and what it owns (Own): trees of integers, bools, structs and slices. -/
import Derived.Test.YtdogknbkcididaaBase
namespace Go.Proofs.Ytdogknbkcididaa
open Go.RowKit

/-- The shape of a type: what it is made of. -/
inductive Sch where
  | int
  | bool
  | st (fs : List Sch)
  | sl (e : Sch)

/-- What a value is as data. -/
inductive Dat where
  | i (n : Int)
  | b (x : Bool)
  | s (ds : List Dat)
  | l (ds : List Dat)

mutual
def Sch.size : Sch → Nat
  | .int => 1
  | .bool => 1
  | .sl _ => 1
  | .st fs => Sch.sizes fs
def Sch.sizes : List Sch → Nat
  | [] => 0
  | f :: fs => f.size + Sch.sizes fs
end

mutual
/-- The cells vs read as d in w, all that they lead to lies in blocks below hi. -/
def Rd (hi : Nat) (w : World) : Sch → List Value → Dat → Prop
  | .int, vs, d => ∃ n, vs = [.int .i64 n] ∧ d = .i n
  | .bool, vs, d => ∃ x, vs = [.bool x] ∧ d = .b x
  | .st fs, vs, d => ∃ ds, d = .s ds ∧ RdL hi w fs vs ds
  | .sl e, vs, d => ∃ a n c ds, vs = [.slice a n c] ∧ d = .l ds ∧ ds.length = n ∧ n ≤ maxLen ∧
      ∀ i x, ds[i]? = some x → ∃ b o es, a = some ⟨b, o, none⟩ ∧ b < hi ∧ (∀ j v, es[j]? = some v → w.cell? ⟨b, o + i * e.size + j, none⟩ = some v) ∧ Rd hi w e es x
def RdL (hi : Nat) (w : World) : List Sch → List Value → List Dat → Prop
  | [], vs, ds => vs = [] ∧ ds = []
  | f :: fs, vs, ds => ∃ v1 v2 d1 d2, vs = v1 ++ v2 ∧ ds = d1 :: d2 ∧ Rd hi w f v1 d1 ∧ RdL hi w fs v2 d2
end

mutual
/-- The cells vs read as d in w; each slice starts at the head of a block of its own; B: these blocks. -/
def Own (w : World) : Sch → List Value → Dat → List Nat → Prop
  | .int, vs, d, B => (∃ n, vs = [.int .i64 n] ∧ d = .i n) ∧ B = []
  | .bool, vs, d, B => (∃ x, vs = [.bool x] ∧ d = .b x) ∧ B = []
  | .st fs, vs, d, B => ∃ ds, d = .s ds ∧ OwnL w fs vs ds B
  | .sl e, vs, d, B => ∃ ds, d = .l ds ∧ ds.length ≤ maxLen ∧
      ((ds = [] ∧ B = [] ∧ ∃ a c, vs = [.slice a 0 c]) ∨
       ∃ (b c : Nat) (arr : Array Value) (ty : TypeId) (Bs : List (List Nat)), vs = [.slice (some ⟨b, 0, none⟩) ds.length c] ∧ B = b :: Bs.flatten ∧ Bs.length = ds.length ∧ w.heap[b]? = some (.cells arr ty (0, 0)) ∧
         ∀ i x, ds[i]? = some x → ∃ es Bi, Bs[i]? = some Bi ∧ (∀ j v, es[j]? = some v → arr[i * e.size + j]? = some v) ∧ Own w e es x Bi)
def OwnL (w : World) : List Sch → List Value → List Dat → List Nat → Prop
  | [], vs, ds, B => vs = [] ∧ ds = [] ∧ B = []
  | f :: fs, vs, ds, B => ∃ v1 v2 d1 d2 B1 B2, vs = v1 ++ v2 ∧ ds = d1 :: d2 ∧ B = B1 ++ B2 ∧ Own w f v1 d1 B1 ∧ OwnL w fs v2 d2 B2
end

/-- w' is as w in all blocks below hi. -/
def Same (p : Nat → Prop) (w w' : World) : Prop := ∀ b, p b → w'.heap[b]? = w.heap[b]?
theorem Ext.same {w w' : World} (h : Ext w w') {hi : Nat} (hh : hi ≤ w.heap.size) : Same (· < hi) w w' := fun _ hb => h.block (Nat.lt_of_lt_of_le hb hh)

mutual
theorem Rd.same {hi : Nat} {w w' : World} (hs : Same (· < hi) w w') : ∀ (s : Sch) (vs : List Value) (d : Dat), Rd hi w s vs d → Rd hi w' s vs d
  | .int, _, _, h => by unfold Rd at h ⊢; exact h
  | .bool, _, _, h => by unfold Rd at h ⊢; exact h
  | .st fs, vs, d, h => by
    unfold Rd at h ⊢
    obtain ⟨ds, hd, hl⟩ := h
    exact ⟨ds, hd, RdL.same hs fs vs ds hl⟩
  | .sl e, vs, d, h => by
    unfold Rd at h ⊢
    obtain ⟨a, n, c, ds, h1, h2, h3, h4, h5⟩ := h
    refine ⟨a, n, c, ds, h1, h2, h3, h4, fun i x hx => ?_⟩
    obtain ⟨b, o, es, ha, hb, hc, hr⟩ := h5 i x hx
    refine ⟨b, o, es, ha, hb, fun j v hv => ?_, Rd.same hs e es x hr⟩
    rw [← hc j v hv]
    exact World.cell?_of_block (hs b hb)
theorem RdL.same {hi : Nat} {w w' : World} (hs : Same (· < hi) w w') : ∀ (fs : List Sch) (vs : List Value) (ds : List Dat), RdL hi w fs vs ds → RdL hi w' fs vs ds
  | [], _, _, h => by unfold RdL at h ⊢; exact h
  | f :: fs, vs, ds, h => by
    unfold RdL at h ⊢
    obtain ⟨v1, v2, d1, d2, h1, h2, h3, h4⟩ := h
    exact ⟨v1, v2, d1, d2, h1, h2, Rd.same hs f v1 d1 h3, RdL.same hs fs v2 d2 h4⟩
end

mutual
theorem Rd.mono {hi hi' : Nat} {w : World} (hh : hi ≤ hi') : ∀ (s : Sch) (vs : List Value) (d : Dat), Rd hi w s vs d → Rd hi' w s vs d
  | .int, _, _, h => by unfold Rd at h ⊢; exact h
  | .bool, _, _, h => by unfold Rd at h ⊢; exact h
  | .st fs, vs, d, h => by
    unfold Rd at h ⊢
    obtain ⟨ds, hd, hl⟩ := h
    exact ⟨ds, hd, RdL.mono hh fs vs ds hl⟩
  | .sl e, vs, d, h => by
    unfold Rd at h ⊢
    obtain ⟨a, n, c, ds, h1, h2, h3, h4, h5⟩ := h
    refine ⟨a, n, c, ds, h1, h2, h3, h4, fun i x hx => ?_⟩
    obtain ⟨b, o, es, ha, hb, hc, hr⟩ := h5 i x hx
    exact ⟨b, o, es, ha, Nat.lt_of_lt_of_le hb hh, hc, Rd.mono hh e es x hr⟩
theorem RdL.mono {hi hi' : Nat} {w : World} (hh : hi ≤ hi') : ∀ (fs : List Sch) (vs : List Value) (ds : List Dat), RdL hi w fs vs ds → RdL hi' w fs vs ds
  | [], _, _, h => by unfold RdL at h ⊢; exact h
  | f :: fs, vs, ds, h => by
    unfold RdL at h ⊢
    obtain ⟨v1, v2, d1, d2, h1, h2, h3, h4⟩ := h
    exact ⟨v1, v2, d1, d2, h1, h2, Rd.mono hh f v1 d1 h3, RdL.mono hh fs v2 d2 h4⟩
end

theorem mem_flatten_of {α : Type} {Bs : List (List α)} {i : Nat} {Bi : List α} {x : α} (h : Bs[i]? = some Bi) (hx : x ∈ Bi) : x ∈ Bs.flatten :=
  List.mem_flatten.2 ⟨Bi, List.mem_of_getElem? h, hx⟩

mutual
theorem Own.same {w w' : World} : ∀ (s : Sch) (vs : List Value) (d : Dat) (B : List Nat), Same (· ∈ B) w w' → Own w s vs d B → Own w' s vs d B
  | .int, _, _, _, _, h => by unfold Own at h ⊢; exact h
  | .bool, _, _, _, _, h => by unfold Own at h ⊢; exact h
  | .st fs, vs, d, B, hs, h => by
    unfold Own at h ⊢
    obtain ⟨ds, hd, hl⟩ := h
    exact ⟨ds, hd, OwnL.same fs vs ds B hs hl⟩
  | .sl e, vs, d, B, hs, h => by
    unfold Own at h ⊢
    obtain ⟨ds, hd, hm, h | ⟨b, c, arr, ty, Bs, h1, h2, h3, h4, h5⟩⟩ := h
    · exact ⟨ds, hd, hm, .inl h⟩
    · refine ⟨ds, hd, hm, .inr ⟨b, c, arr, ty, Bs, h1, h2, h3, ?_, fun i x hx => ?_⟩⟩
      · rw [hs b (by subst h2; exact List.mem_cons_self)]; exact h4
      · obtain ⟨es, Bi, hB, hc, ho⟩ := h5 i x hx
        exact ⟨es, Bi, hB, hc, Own.same e es x Bi (fun k hk => hs k (by subst h2; exact List.mem_cons_of_mem _ (mem_flatten_of hB hk))) ho⟩
theorem OwnL.same {w w' : World} : ∀ (fs : List Sch) (vs : List Value) (ds : List Dat) (B : List Nat), Same (· ∈ B) w w' → OwnL w fs vs ds B → OwnL w' fs vs ds B
  | [], _, _, _, _, h => by unfold OwnL at h ⊢; exact h
  | f :: fs, vs, ds, B, hs, h => by
    unfold OwnL at h ⊢
    obtain ⟨v1, v2, d1, d2, B1, B2, h1, h2, h3, h4, h5⟩ := h
    subst h3
    exact ⟨v1, v2, d1, d2, B1, B2, h1, h2, rfl, Own.same f v1 d1 B1 (fun k hk => hs k (List.mem_append_left _ hk)) h4, OwnL.same fs v2 d2 B2 (fun k hk => hs k (List.mem_append_right _ hk)) h5⟩
end

mutual
theorem Own.rd {hi : Nat} {w : World} : ∀ (s : Sch) (vs : List Value) (d : Dat) (B : List Nat), (∀ b ∈ B, b < hi) → Own w s vs d B → Rd hi w s vs d
  | .int, _, _, _, _, h => by unfold Own at h; unfold Rd; exact h.1
  | .bool, _, _, _, _, h => by unfold Own at h; unfold Rd; exact h.1
  | .st fs, vs, d, B, hs, h => by
    unfold Own at h; unfold Rd
    obtain ⟨ds, hd, hl⟩ := h
    exact ⟨ds, hd, OwnL.rd fs vs ds B hs hl⟩
  | .sl e, vs, d, B, hs, h => by
    unfold Own at h; unfold Rd
    obtain ⟨ds, hd, hm, ⟨h0, h1, a, c, h2⟩ | ⟨b, c, arr, ty, Bs, h1, h2, h3, h4, h5⟩⟩ := h
    · exact ⟨a, 0, c, ds, h2, hd, by rw [h0]; rfl, Nat.zero_le _, fun i x hx => by rw [h0] at hx; simp at hx⟩
    · refine ⟨_, _, c, ds, h1, hd, rfl, hm, fun i x hx => ?_⟩
      obtain ⟨es, Bi, hB, hc, ho⟩ := h5 i x hx
      refine ⟨b, 0, es, rfl, hs b (by subst h2; exact List.mem_cons_self), fun j v hv => ?_, Own.rd e es x Bi (fun k hk => hs k (by subst h2; exact List.mem_cons_of_mem _ (mem_flatten_of hB hk))) ho⟩
      rw [cell_of_row w b _ arr ty _ h4, Nat.zero_add]
      exact hc j v hv
theorem OwnL.rd {hi : Nat} {w : World} : ∀ (fs : List Sch) (vs : List Value) (ds : List Dat) (B : List Nat), (∀ b ∈ B, b < hi) → OwnL w fs vs ds B → RdL hi w fs vs ds
  | [], _, _, _, _, h => by unfold OwnL at h; unfold RdL; exact ⟨h.1, h.2.1⟩
  | f :: fs, vs, ds, B, hs, h => by
    unfold OwnL at h; unfold RdL
    obtain ⟨v1, v2, d1, d2, B1, B2, h1, h2, h3, h4, h5⟩ := h
    subst h3
    exact ⟨v1, v2, d1, d2, h1, h2, Own.rd f v1 d1 B1 (fun k hk => hs k (List.mem_append_left _ hk)) h4, OwnL.rd fs v2 d2 B2 (fun k hk => hs k (List.mem_append_right _ hk)) h5⟩
end
end Go.Proofs.Ytdogknbkcididaa
