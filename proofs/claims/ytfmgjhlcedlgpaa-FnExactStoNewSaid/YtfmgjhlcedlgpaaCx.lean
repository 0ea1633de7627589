/- A cell in memory of one's own: rows that may be appended to. -/
import Derived.Test.YtfmgjhlcedlgpaaRow
import Derived.Test.YtfmgjhlcedlgpaaSS
import Derived.Test.YtfmgjhlcedlgpaaTCll
import Derived.Test.YtfmgjhlcedlgpaaFlowB
namespace Go.Proofs.Ytfmgjhlcedlgpaa
open Go.RowKit
set_option linter.unusedSimpArgs false
set_option linter.unusedVariables false

theorem nodup_flat : ∀ (Ls : List (List Nat)), Ls.flatten.Nodup ↔ (∀ l ∈ Ls, l.Nodup) ∧ Ls.Pairwise (fun a b => ∀ x ∈ a, x ∉ b)
  | [] => by simp
  | l :: Ls => by
    have ih := nodup_flat Ls
    rw [List.flatten_cons, List.nodup_append, List.pairwise_cons, ih]
    constructor
    · rintro ⟨h1, ⟨h2, h3⟩, h4⟩
      refine ⟨fun m hm => ?_, fun m hm x hx hx2 => h4 x hx x (List.mem_flatten.2 ⟨m, hm, hx2⟩) rfl, h3⟩
      rcases List.mem_cons.1 hm with rfl | hm
      · exact h1
      · exact h2 m hm
    · rintro ⟨h1, h2, h3⟩
      refine ⟨h1 l (by simp), ⟨fun m hm => h1 m (by simp [hm]), h3⟩, fun a ha b hb e => ?_⟩
      obtain ⟨m, hm, hb⟩ := List.mem_flatten.1 hb
      subst e
      exact h2 m hm a ha hb
/-- A slice of slices of one's own: the row, and each slice in it. T: the type of the elements; TS: that of their slices. -/
def RowSS {α : Type} (w : World) (TS T : TypeId) (k : Nat) (cells : α → List Value) (v : Value) (xss : List (List α)) (B : List Nat) : Prop :=
  ∃ (es : List SlV) (R : List Nat) (Bs : List (List Nat)), RowX w TS 1 SlV.cells v es R ∧ es.length = xss.length ∧ Bs.length = es.length ∧ B = R ++ Bs.flatten ∧ B.Nodup ∧
    ∀ (i : Nat) (e : SlV) (xs : List α), es[i]? = some e → xss[i]? = some xs → ∃ Bi, Bs[i]? = some Bi ∧ RowX w T k cells (.slice e.a e.n e.c) xs Bi
section
variable {α : Type} {cells : α → List Value} {dat : α → Dat} {sch : Sch} {k : Nat} {T TS : TypeId} {w w' : World} {v : Value} {xss : List (List α)} {B : List Nat}
theorem RowSS.nodup (h : RowSS w TS T k cells v xss B) : B.Nodup := by
  obtain ⟨es, R, Bs, _, _, _, _, h, _⟩ := h; exact h
theorem RowSS.lt (h : RowSS w TS T k cells v xss B) : ∀ b ∈ B, b < w.heap.size := by
  obtain ⟨es, R, Bs, h1, h2, h3, rfl, h5, h6⟩ := h
  intro b hb
  rcases List.mem_append.1 hb with hb | hb
  · exact h1.lt b hb
  · obtain ⟨Bi, hBi, hb⟩ := List.mem_flatten.1 hb
    obtain ⟨i, hi⟩ := List.getElem?_of_mem hBi
    have hlt := (List.getElem?_eq_some_iff.1 hi).1
    obtain ⟨Bj, e1, hr⟩ := h6 i (es[i]'(by omega)) (xss[i]'(by omega)) (List.getElem?_eq_getElem _) (List.getElem?_eq_getElem _)
    rw [hi] at e1
    obtain rfl := Option.some.inj e1
    exact hr.lt b hb
theorem RowSS.same (h : RowSS w TS T k cells v xss B) (hs : ∀ b ∈ B, w'.heap[b]? = w.heap[b]?) : RowSS w' TS T k cells v xss B := by
  obtain ⟨es, R, Bs, h1, h2, h3, rfl, h5, h6⟩ := h
  refine ⟨es, R, Bs, h1.same fun b hb => hs b (List.mem_append_left _ hb), h2, h3, rfl, h5, fun i e xs he hx => ?_⟩
  obtain ⟨Bi, g1, g2⟩ := h6 i e xs he hx
  exact ⟨Bi, g1, g2.same fun b hb => hs b (List.mem_append_right _ (List.mem_flatten.2 ⟨Bi, List.mem_of_getElem? g1, hb⟩))⟩
theorem RowSS.chg {B' : List Nat} (h : RowSS w TS T k cells v xss B) (hc : Chg B' w w') (hd : ∀ b ∈ B, b ∉ B') : RowSS w' TS T k cells v xss B :=
  h.same fun b hb => hc.block b (h.lt b hb) (hd b hb)
theorem RowSS.of (h : RowSS w TS T k cells v xss B) (hE : Ext w w') : RowSS w' TS T k cells v xss B := h.same fun b hb => hE.block (h.lt b hb)
theorem RowSS.slice (h : RowSS w TS T k cells v xss B) : ∃ a c, v = .slice a xss.length c := by
  obtain ⟨es, R, Bs, h1, h2, _⟩ := h
  obtain ⟨a, c, e⟩ := h1.slice
  exact ⟨a, c, by rw [e, h2]⟩
theorem RowSS.max (h : RowSS w TS T k cells v xss B) : xss.length ≤ maxLen := by
  obtain ⟨es, R, Bs, h1, h2, _⟩ := h
  rw [← h2]; exact h1.max
theorem RowSS.own (hsz : sch.size = k) (hown : ∀ w x, Own w sch (cells x) (dat x) []) (h : RowSS w TS T k cells v xss B) : Own w (.sl (.sl sch)) [v] (.l (xss.map (ldat dat))) B := by
  have hm := h.max
  obtain ⟨es, R, Bs, h1, h2, h3, rfl, h5, h6⟩ := h
  unfold Own
  rcases h1 with ⟨rfl, rfl, a, rfl, _⟩ | ⟨g, cap, cur, rfl, rfl, hb, g1, g2, hs, hf⟩
  · have hx : xss = [] := List.eq_nil_of_length_eq_zero h2.symm
    have hB : Bs = [] := List.eq_nil_of_length_eq_zero (by simpa using h3)
    subst hx hB
    exact ⟨[], rfl, Nat.zero_le _, .inl ⟨rfl, rfl, a, 0, rfl⟩⟩
  · refine ⟨_, rfl, by simpa using hm, .inr ⟨g, cap, cur, TS, Bs, by rw [List.length_map, h2], by simp, by rw [List.length_map, h3, h2], hb, fun i x hx => ?_⟩⟩
    rw [List.getElem?_map] at hx
    cases hy : xss[i]? with
    | none => rw [hy] at hx; cases hx
    | some xs =>
      rw [hy] at hx
      obtain rfl := Option.some.inj hx
      have hi := (List.getElem?_eq_some_iff.1 hy).1
      have he : es[i]? = some (es[i]'(by omega)) := List.getElem?_eq_getElem _
      obtain ⟨Bi, g3, g4⟩ := h6 i _ xs he hy
      refine ⟨(es[i]'(by omega)).cells, Bi, g3, fun j u hu => ?_, ?_⟩
      · have hj : j = 0 := by
          have := (List.getElem?_eq_some_iff.1 hu).1
          simp [SlV.cells] at this; exact this
        subst hj
        have := hf i _ (by omega) he 0 u hu
        simpa [Sch.size] using this
      · exact g4.own hsz hown
/-- An element slice: where its header lies; what becomes of the whole when it is replaced. -/
theorem RowSS.at {a : Option Addr} {n c : Nat} (h : RowSS w TS T k cells (.slice a n c) xss B) {j : Nat} (hj : j < xss.length) :
    ∃ (g : Nat) (cur : Array Value) (e : SlV) (xs : List α) (Bj : List Nat), a = some ⟨g, 0, none⟩ ∧ g ∈ B ∧ n = xss.length ∧ n ≤ c ∧ xss[j]? = some xs ∧ w.heap[g]? = some (.cells cur TS (0, 0)) ∧ j < cur.size ∧ cur[j]? = some (.slice e.a e.n e.c) ∧ RowX w T k cells (.slice e.a e.n e.c) xs Bj ∧ (∀ b ∈ Bj, b ∈ B ∧ b ≠ g) ∧
      ∀ (w' : World) (B' : List Nat) (e' : SlV) (xs' : List α), Chg (g :: Bj) w w' → w'.heap[g]? = some (.cells (cur.setIfInBounds j (.slice e'.a e'.n e'.c)) TS (0, 0)) → RowX w' T k cells (.slice e'.a e'.n e'.c) xs' B' → (B' = Bj ∨ ∀ b ∈ B', w.heap.size ≤ b) →
        ∃ B2, RowSS w' TS T k cells (.slice a n c) (xss.set j xs') B2 ∧ ∀ b ∈ B2, b ∈ B ∨ b ∈ B' := by
  have hlt := h.lt
  obtain ⟨es, R, Bs, h1, h2, h3, rfl, h5, h6⟩ := h
  have hje : j < es.length := by omega
  obtain ⟨g, cur, x, rfl, rfl, hn, hnc, hx, hb, hsz, hc, hset⟩ := h1.at Nat.one_pos (fun _ => rfl) hje
  have hxj : xss[j]? = some (xss[j]'hj) := List.getElem?_eq_getElem _
  obtain ⟨Bj, hBj, hr⟩ := h6 j x _ hx hxj
  have hcj : cur[j]? = some (.slice x.a x.n x.c) := by have := hc 0 _ rfl; simpa using this
  have hnd := h5
  rw [List.singleton_append, List.nodup_cons] at hnd
  have hmem : ∀ b ∈ Bj, b ∈ Bs.flatten := fun b hb => List.mem_flatten.2 ⟨Bj, List.mem_of_getElem? hBj, hb⟩
  refine ⟨g, cur, x, _, Bj, rfl, by simp, by omega, hnc, hxj, hb, by omega, hcj, hr, fun b hb => ⟨by simp [hmem b hb], fun e => hnd.1 (e ▸ hmem b hb)⟩, fun w' B' e' xs' hch hb' hr' hB' => ?_⟩
  have hjB : j < Bs.length := by omega
  have hr1 := hset w' (cur.setIfInBounds j (.slice e'.a e'.n e'.c)) e' hb' (by simp) (fun i hi => by rw [Array.getElem?_setIfInBounds_ne (by omega)]) (fun i u hu => by
    have hi : i = 0 := by
      have := (List.getElem?_eq_some_iff.1 hu).1
      simp [SlV.cells] at this; exact this
    subst hi
    rw [Nat.mul_one, Nat.add_zero, arr_set (by omega), if_pos rfl]; exact hu)
  -- the blocks of the other elements
  have hoth : ∀ (i : Nat) (Bi : List Nat), i ≠ j → Bs[i]? = some Bi → ∀ b ∈ Bi, b ∉ Bj := fun i Bi hij hi b hb hbj => by
    have hp := ((nodup_flat _).1 hnd.2).2
    rw [List.pairwise_iff_getElem] at hp
    have hi1 := (List.getElem?_eq_some_iff.1 hi)
    have hj1 := (List.getElem?_eq_some_iff.1 hBj)
    obtain ⟨hi2, hi3⟩ := hi1
    obtain ⟨hj2, hj3⟩ := hj1
    rcases Nat.lt_or_gt_of_ne hij with hl | hl
    · have := hp i j hi2 hj2 hl
      rw [hi3, hj3] at this
      exact this b hb hbj
    · have := hp j i hj2 hi2 hl
      rw [hi3, hj3] at this
      exact this b hbj hb
  have hmem2 : ∀ b ∈ (Bs.set j B').flatten, (b ∈ Bs.flatten ∧ ∃ i Bi, i ≠ j ∧ Bs[i]? = some Bi ∧ b ∈ Bi) ∨ b ∈ B' := fun b hb => by
    obtain ⟨Bi, hBi, hb⟩ := List.mem_flatten.1 hb
    obtain ⟨i, hi⟩ := List.getElem?_of_mem hBi
    rw [List.getElem?_set] at hi
    split at hi
    · rename_i e
      subst e
      obtain rfl : B' = Bi := by simpa [hjB] using hi
      exact .inr hb
    · rename_i e
      exact .inl ⟨List.mem_flatten.2 ⟨Bi, List.mem_of_getElem? hi, hb⟩, i, Bi, Ne.symm e, hi, hb⟩
  refine ⟨g :: (Bs.set j B').flatten, ⟨es.set j e', [g], Bs.set j B', by simpa [hn, List.length_set] using hr1, by simp [h2], by simp [h3], rfl, ?_, fun i e xs he hx2 => ?_⟩, fun b hb => ?_⟩
  · rw [List.nodup_cons]
    refine ⟨fun hm => ?_, ?_⟩
    · rcases hmem2 g hm with ⟨hm, _⟩ | hm
      · exact hnd.1 hm
      · rcases hB' with rfl | hB'
        · exact hnd.1 (hmem g hm)
        · have := hB' g hm; have := lt_blk hb; omega
    · rw [nodup_flat]
      have hp := (nodup_flat _).1 hnd.2
      refine ⟨fun l hl => ?_, ?_⟩
      · rcases List.mem_or_eq_of_mem_set hl with hl | rfl
        · exact hp.1 l hl
        · exact hr'.nodup
      · rw [List.pairwise_iff_getElem]
        intro i1 i2 hi1 hi2 hlt12
        have hp2 := hp.2
        rw [List.pairwise_iff_getElem] at hp2
        rw [List.length_set] at hi1 hi2
        rw [List.getElem_set, List.getElem_set]
        have key : ∀ (i : Nat) (hi : i < Bs.length), i ≠ j → ∀ b ∈ Bs[i], b ∉ B' := fun i hi hij b hb hbB => by
          rcases hB' with rfl | hB'
          · exact hoth i _ hij (List.getElem?_eq_getElem hi) b hb hbB
          · have h9 := hB' b hbB
            have h8 := hlt b (by simp only [List.singleton_append, List.mem_cons]; exact .inr (List.mem_flatten.2 ⟨Bs[i], List.getElem_mem hi, hb⟩))
            omega
        by_cases e1 : j = i1
        · subst e1
          rw [if_pos rfl, if_neg (by omega)]
          intro b hb hb2
          exact key i2 hi2 (by omega) b hb2 hb
        · by_cases e2 : j = i2
          · subst e2
            rw [if_neg e1, if_pos rfl]
            intro b hb hb2
            exact key i1 hi1 (by omega) b hb hb2
          · rw [if_neg e1, if_neg e2]
            exact hp2 i1 i2 hi1 hi2 hlt12
  · rw [List.getElem?_set] at he hx2
    by_cases e1 : j = i
    · subst e1
      rw [if_pos rfl] at he hx2
      simp only [hje, if_true, Option.some.injEq, hj] at he hx2
      subst he hx2
      exact ⟨B', by simp [hjB], hr'⟩
    · rw [if_neg e1] at he hx2
      obtain ⟨Bi, g1, g2⟩ := h6 i e xs he hx2
      refine ⟨Bi, by rw [List.getElem?_set_ne e1]; exact g1, g2.chg hch fun b9 hb9 hm => ?_⟩
      rcases List.mem_cons.1 hm with e9 | hm
      · exact hnd.1 (e9 ▸ List.mem_flatten.2 ⟨Bi, List.mem_of_getElem? g1, hb9⟩)
      · exact hoth i Bi (Ne.symm e1) g1 b9 hb9 hm
  · rcases List.mem_cons.1 hb with rfl | hb
    · exact .inl (by simp)
    · rcases hmem2 b hb with ⟨hm, _⟩ | hm
      · exact .inl (by simp [hm])
      · exact .inr hm
end

/-- A cell's slices in memory of one's own. -/
structure CX (w : World) (c : Cll) (h : CllH) (B1 B3 B4 B5 : List Nat) : Prop where
  x1 : RowX w 29 5 Wlk.cells (.slice h.a1 c.wk.length h.c1) c.wk B1
  x3 : RowSS w 69 95 8 Pcl.cells (.slice h.a3 c.outs.length h.c3) c.outs B3
  x4 : RowX w 3 1 icells (.slice h.a4 c.next.length h.c4) c.next B4
  x5 : RowX w 3 1 icells (.slice h.a5 c.ins.length h.c5) c.ins B5
  nd : (B1 ++ (B3 ++ (B4 ++ B5))).Nodup
theorem CX.own {w : World} {c : Cll} {h : CllH} {B1 B3 B4 B5 : List Nat} {lo : Nat} (x : CX w c h B1 B3 B4 B5) (hlo : ∀ b ∈ B1 ++ (B3 ++ (B4 ++ B5)), lo ≤ b) : OwnR lo w.heap.size w sCll (cllCells c h) (cllDat c) := by
  refine ⟨Nat.le_refl _, B1 ++ (B3 ++ (B4 ++ (B5 ++ []))), by simpa using x.nd, fun b hb => ?_, ?_⟩
  · rw [List.append_nil] at hb
    refine ⟨hlo b hb, ?_⟩
    rcases List.mem_append.1 hb with hb | hb
    · exact x.x1.lt b hb
    · rcases List.mem_append.1 hb with hb | hb
      · exact x.x3.lt b hb
      · rcases List.mem_append.1 hb with hb | hb
        · exact x.x4.lt b hb
        · exact x.x5.lt b hb
  · unfold sCll cllCells cllDat
    refine own_st_mk ?_
    have o1 : Own w (.sl sWlk) [.slice h.a1 c.wk.length h.c1] (.l (c.wk.map Wlk.dat)) B1 := x.x1.own (k := 5) rfl (fun w x => own_Wlk_mk w x)
    have o3 : Own w (.sl (.sl sPcl)) [.slice h.a3 c.outs.length h.c3] (.l (c.outs.map (ldat Pcl.dat))) B3 := x.x3.own (k := 8) rfl (fun w x => own_Pcl_mk w x)
    have o4 : Own w (.sl .int) [.slice h.a4 c.next.length h.c4] (.l (c.next.map Dat.i)) B4 := x.x4.own (k := 1) rfl (fun w x => own_Int_mk w x)
    have o5 : Own w (.sl .int) [.slice h.a5 c.ins.length h.c5] (.l (c.ins.map Dat.i)) B5 := x.x5.own (k := 1) rfl (fun w x => own_Int_mk w x)
    have i : ∀ n : Int, Own w .int [.int .i64 n] (.i n) [] := fun n => by unfold Own; exact ⟨⟨_, rfl, rfl⟩, rfl⟩
    unfold OwnL
    refine ⟨[_], _, _, _, [], _, rfl, rfl, rfl, i _, ?_⟩
    unfold OwnL
    refine ⟨[_], _, _, _, B1, _, rfl, rfl, rfl, o1, ?_⟩
    unfold OwnL
    refine ⟨[_], _, _, _, [], _, rfl, rfl, rfl, i _, ?_⟩
    unfold OwnL
    refine ⟨[_], _, _, _, B3, _, rfl, rfl, rfl, o3, ?_⟩
    unfold OwnL
    refine ⟨[_], _, _, _, B4, _, rfl, rfl, rfl, o4, ?_⟩
    unfold OwnL
    refine ⟨[_], _, _, _, B5, _, rfl, rfl, rfl, o5, ?_⟩
    unfold OwnL
    exact ⟨rfl, rfl, rfl⟩
theorem CX.same {w w' : World} {c : Cll} {h : CllH} {B1 B3 B4 B5 : List Nat} (x : CX w c h B1 B3 B4 B5) (hs : ∀ b ∈ B1 ++ (B3 ++ (B4 ++ B5)), w'.heap[b]? = w.heap[b]?) : CX w' c h B1 B3 B4 B5 :=
  ⟨x.x1.same fun b hb => hs b (by simp [hb]), x.x3.same fun b hb => hs b (by simp [hb]), x.x4.same fun b hb => hs b (by simp [hb]), x.x5.same fun b hb => hs b (by simp [hb]), x.nd⟩
theorem CX.lt {w : World} {c : Cll} {h : CllH} {B1 B3 B4 B5 : List Nat} (x : CX w c h B1 B3 B4 B5) : ∀ b ∈ B1 ++ (B3 ++ (B4 ++ B5)), b < w.heap.size := fun b hb => by
  rcases List.mem_append.1 hb with hb | hb
  · exact x.x1.lt b hb
  · rcases List.mem_append.1 hb with hb | hb
    · exact x.x3.lt b hb
    · rcases List.mem_append.1 hb with hb | hb
      · exact x.x4.lt b hb
      · exact x.x5.lt b hb
theorem CX.chg {w w' : World} {c : Cll} {h : CllH} {B1 B3 B4 B5 B' : List Nat} (x : CX w c h B1 B3 B4 B5) (hc : Chg B' w w') (hd : ∀ b ∈ B1 ++ (B3 ++ (B4 ++ B5)), b ∉ B') : CX w' c h B1 B3 B4 B5 :=
  x.same fun b hb => hc.block b (x.lt b hb) (hd b hb)
theorem CX.of {w w' : World} {c : Cll} {h : CllH} {B1 B3 B4 B5 : List Nat} (x : CX w c h B1 B3 B4 B5) (hE : Ext w w') : CX w' c h B1 B3 B4 B5 := x.same fun b hb => hE.block (x.lt b hb)
/-- A function that answers a cell in new memory. -/
def MadeCX (w : World) (c : Cll) (e : Ending) (w' : World) : Prop :=
  ∃ (h : CllH) (B1 B3 B4 B5 : List Nat), e = .returned (.agg #[.int .i64 c.cell, .slice h.a1 c.wk.length h.c1, .int .i64 c.ground, .slice h.a3 c.outs.length h.c3, .slice h.a4 c.next.length h.c4, .slice h.a5 c.ins.length h.c5]) ∧ Ext w w' ∧ CX w' c h B1 B3 B4 B5 ∧ ∀ b ∈ B1 ++ (B3 ++ (B4 ++ B5)), w.heap.size ≤ b
theorem MadeCX.made {w w' : World} {c : Cll} {e : Ending} (h : MadeCX w c e w') : MadeC w c e w' := by
  obtain ⟨h, B1, B3, B4, B5, rfl, hE, hx, hb⟩ := h
  exact ⟨h, rfl, hE, hx.own hb⟩
end Go.Proofs.Ytfmgjhlcedlgpaa
