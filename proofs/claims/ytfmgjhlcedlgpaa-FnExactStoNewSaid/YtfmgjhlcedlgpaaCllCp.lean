/- The copies of a cell. -/
import Derived.Test.YtfmgjhlcedlgpaaCx
import Derived.Test.YtfmgjhlcedlgpaaClo
import Derived.Test.YtfmgjhlcedlgpaaFlowB
import Derived.Test.YtfmgjhlcedlgpaaSegN
import Derived.Test.YtfmgjhlcedlgpaaCllOk
namespace Go.Proofs.Ytfmgjhlcedlgpaa
open Go.RowKit
set_option linter.unusedSimpArgs false
set_option linter.unusedVariables false

theorem nodup4 {B1 B2 B3 B4 : List Nat} (m1 m2 m3 : Nat) (n1 : B1.Nodup) (n2 : B2.Nodup) (n3 : B3.Nodup) (n4 : B4.Nodup) (h1 : ∀ b ∈ B1, b < m1) (h2 : ∀ b ∈ B2, m1 ≤ b ∧ b < m2) (h3 : ∀ b ∈ B3, m2 ≤ b ∧ b < m3) (h4 : ∀ b ∈ B4, m3 ≤ b) (l1 : m1 ≤ m2) (l2 : m2 ≤ m3) : (B1 ++ (B2 ++ (B3 ++ B4))).Nodup := by
  refine List.nodup_append.2 ⟨n1, List.nodup_append.2 ⟨n2, List.nodup_append.2 ⟨n3, n4, fun a ha b hb e => ?_⟩, fun a ha b hb e => ?_⟩, fun a ha b hb e => ?_⟩
  · have := h3 a ha; have := h4 b hb; omega
  · have := h2 a ha
    rcases List.mem_append.1 hb with hb | hb
    · have := h3 b hb; omega
    · have := h4 b hb; omega
  · have := h1 a ha
    rcases List.mem_append.1 hb with hb | hb
    · have := h2 b hb; omega
    · rcases List.mem_append.1 hb with hb | hb
      · have := h3 b hb; omega
      · have := h4 b hb; omega
theorem fin_blk {X X' w' : World} {t : Xt} {b : Nat} (hb : X.heap.size ≤ b) (hlt : b < (ext X t).heap.size) (hE : Ext (ext X' t) w') (hs : X'.heap.size = X.heap.size) : w'.heap[b]? = (ext X t).heap[b]? := by
  rw [hE.block (by rw [ext_size] at hlt ⊢; omega), ext_heap, ext_heap, Array.getElem?_append, Array.getElem?_append, if_neg (by omega), if_neg (by omega), hs]
section
variable {α : Type} {cells : α → List Value} {k : Nat} {T TS : TypeId}
/-- Blocks made before were stored into. -/
theorem RowX.fin {X X' w' : World} {t : Xt} {v : Value} {xs : List α} {B : List Nat} (h : RowX (ext X t) T k cells v xs B) (hB : ∀ b ∈ B, X.heap.size ≤ b) (hE : Ext (ext X' t) w') (hs : X'.heap.size = X.heap.size) : RowX w' T k cells v xs B :=
  h.same fun b hb => fin_blk (hB b hb) (h.lt b hb) hE hs
theorem RowSS.fin {X X' w' : World} {t : Xt} {v : Value} {xss : List (List α)} {B : List Nat} (h : RowSS (ext X t) TS T k cells v xss B) (hB : ∀ b ∈ B, X.heap.size ≤ b) (hE : Ext (ext X' t) w') (hs : X'.heap.size = X.heap.size) : RowSS w' TS T k cells v xss B :=
  h.same fun b hb => fin_blk (hB b hb) (h.lt b hb) hE hs
theorem RowSS.nil {w : World} {v : Value} (h : RowX w TS 1 SlV.cells v [] []) : RowSS w TS T k cells v ([] : List (List α)) [] :=
  ⟨[], [], [], h, rfl, rfl, rfl, by simp, fun i e xs h => by simp at h⟩
/-- One more slice of one's own. -/
theorem rowss_snoc {w w1 w2 : World} {v v' : Value} {xss : List (List α)} {es : List SlV} {R R' B1 : List Nat} {Bs : List (List Nat)} {e : SlV} {xs : List α} {lo : Nat} (h1 : RowX w TS 1 SlV.cells v es R) (h2 : es.length = xss.length) (h3 : Bs.length = es.length) (h5 : (R ++ Bs.flatten).Nodup)
    (h6 : ∀ (i : Nat) (e : SlV) (xs : List α), es[i]? = some e → xss[i]? = some xs → ∃ Bi, Bs[i]? = some Bi ∧ RowX w T k cells (.slice e.a e.n e.c) xs Bi) (hlo : ∀ b ∈ R ++ Bs.flatten, lo ≤ b) (hE : Ext w w1) (hx : RowX w1 T k cells (.slice e.a e.n e.c) xs B1) (hB1 : ∀ b ∈ B1, w.heap.size ≤ b) (hlw : lo ≤ w.heap.size)
    (hr : RowX w2 TS 1 SlV.cells v' (es ++ [e]) R') (hc : Chg R w1 w2) (hR : R' = R ∨ R' = [w1.heap.size]) :
    ∃ B, RowSS w2 TS T k cells v' (xss ++ [xs]) B ∧ (∀ b ∈ B, lo ≤ b) := by
  have hlt : ∀ b ∈ R ++ Bs.flatten, b < w.heap.size := (show RowSS w TS T k cells v xss _ from ⟨es, R, Bs, h1, h2, h3, rfl, h5, h6⟩).lt
  have hs := hE.size
  have hx1 := hx.lt
  have hR' : ∀ b ∈ R', b ∉ (Bs ++ [B1]).flatten ∧ lo ≤ b := fun b hb => by
    rw [List.flatten_append, List.flatten_singleton]
    rcases hR with rfl | rfl
    · have hw := hlt b (List.mem_append_left _ hb)
      refine ⟨fun hm => ?_, hlo b (List.mem_append_left _ hb)⟩
      rcases List.mem_append.1 hm with hm | hm
      · exact nodup_r h5 b hb hm
      · have := hB1 b hm; omega
    · obtain rfl : b = w1.heap.size := by simpa using hb
      refine ⟨fun hm => ?_, by omega⟩
      rcases List.mem_append.1 hm with hm | hm
      · have := hlt _ (List.mem_append_right _ hm); omega
      · have := hx1 _ hm; omega
  refine ⟨R' ++ (Bs ++ [B1]).flatten, ⟨es ++ [e], R', Bs ++ [B1], hr, by simp [h2], by simp [h3], rfl, ?_, fun i e9 xs9 he hx9 => ?_⟩, fun b hb => ?_⟩
  · refine List.nodup_append.2 ⟨hr.nodup, ?_, fun a ha b hb e => (hR' a ha).1 (e ▸ hb)⟩
    rw [List.flatten_append, List.flatten_singleton]
    refine List.nodup_append.2 ⟨nodup_t h5, hx.nodup, fun a ha b hb e => ?_⟩
    have h7 := hlt a (List.mem_append_right _ ha); have h8 := hB1 b hb; omega
  · rcases Nat.lt_or_ge i es.length with hi | hi
    · rw [List.getElem?_append_left hi] at he
      rw [List.getElem?_append_left (by omega)] at hx9
      obtain ⟨Bi, g1, g2⟩ := h6 i e9 xs9 he hx9
      refine ⟨Bi, by rw [List.getElem?_append_left (by omega)]; exact g1, (g2.of hE).chg hc fun b hb hm => ?_⟩
      exact nodup_r h5 b hm (List.mem_flatten.2 ⟨Bi, List.mem_of_getElem? g1, hb⟩)
    · have hi2 : i = es.length := by
        have := (List.getElem?_eq_some_iff.1 he).1
        simp at this; omega
      subst hi2
      rw [List.getElem?_append_right (by omega), Nat.sub_self] at he
      rw [List.getElem?_append_right (by omega), h2, Nat.sub_self] at hx9
      simp only [List.getElem?_cons_zero, Option.some.injEq] at he hx9
      subst he hx9
      refine ⟨B1, by rw [List.getElem?_append_right (by omega), h3, Nat.sub_self]; rfl, hx.chg hc fun b hb hm => ?_⟩
      have h7 := hlt b (List.mem_append_left _ hm); have h8 := hB1 b hb; omega
  · rcases List.mem_append.1 hb with hb | hb
    · exact (hR' b hb).2
    · rw [List.flatten_append, List.flatten_singleton] at hb
      rcases List.mem_append.1 hb with hb | hb
      · exact hlo b (List.mem_append_right _ hb)
      · exact Nat.le_trans hlw (hB1 b hb)
/-- append(v, xs): one more slice of one's own. -/
theorem wp_appSS {TSS : TypeId} (hT : Try.prog.underlying TSS = some (.slice TS)) (hI : (Try.prog.info? TS).map (fun i => (i.zero, i.size, i.bytes)) = some (some (.slice none 0 0), 1, 24))
    {o : Oper} {a : Act} {K : Act → World → Prop} {Q : Exit → Act → World → Prop} {w wr : World} (lo : Nat) (s x : Operand) (ho : o.op = .call { callee := .builtin .append, args := #[s, x], argTypes := #[TSS, TSS] })
    {v : Value} {xss : List (List α)} {B B1 : List Nat} {ea : Option Addr} {en ec : Nat} {xs : List α} (hs : a.eval s = v) (h : RowSS wr TS T k cells v xss B) (hB : ∀ b ∈ B, lo ≤ b) (hE : Ext wr w) (hx : RowX w T k cells (.slice ea en ec) xs B1) (hB1 : ∀ b ∈ B1, wr.heap.size ≤ b) (hlo : lo ≤ wr.heap.size)
    {b c : Nat} {T' : TypeId} (hv : a.eval x = .slice (some ⟨b, 0, none⟩) 1 c) (hy : w.heap[b]? = some (.cells #[.slice ea en ec] T' (0, 0))) (hn : xss.length ≤ 4194304)
    (hK : ∀ v' w2 B', RowSS w2 TS T k cells v' (xss ++ [xs]) B' → Chg B w w2 → (∀ b ∈ B', lo ≤ b) → K (a.put o.dst v') w2) : o.wp Try.prog a w K Q := by
  obtain ⟨es, R, Bs, h1, h2, h3, rfl, h5, h6⟩ := h
  refine wp_appX (cells := SlV.cells) (k := 1) (bytes := 24) (z := .slice none 0 0) hT hI rfl (by decide) (by decide) (fun _ => rfl) slv_one s x ho hs (h1.of hE) ⟨ea, en, ec⟩ hv hy (by omega) fun v' w2 R' g1 g2 g3 => ?_
  obtain ⟨B', g4, g5⟩ := rowss_snoc h1 h2 h3 h5 h6 hB hE hx hB1 hlo g1 g2 g3
  exact hK v' w2 B' g4 (g2.mono fun b hb => List.mem_append_left _ hb) g5
theorem wpList_appSS {TSS : TypeId} (hT : Try.prog.underlying TSS = some (.slice TS)) (hI : (Try.prog.info? TS).map (fun i => (i.zero, i.size, i.bytes)) = some (some (.slice none 0 0), 1, 24))
    {ops : Array Oper} {rest : List Oper} {o : Oper} {a : Act} {Q : Exit → Act → World → Prop} {w wr : World} (hgd : o.guard = none) (w0 : World) (s x : Operand) (ho : o.op = .call { callee := .builtin .append, args := #[s, x], argTypes := #[TSS, TSS] })
    {v : Value} {xss : List (List α)} {B B1 : List Nat} {ea : Option Addr} {en ec : Nat} {xs : List α} (hs : a.eval s = v) (h : RowSS wr TS T k cells v xss B) (hB : ∀ b ∈ B, w0.heap.size ≤ b) (hE0 : Ext w0 wr) (hE : Ext wr w) (hx : RowX w T k cells (.slice ea en ec) xs B1) (hB1 : ∀ b ∈ B1, wr.heap.size ≤ b)
    {b c : Nat} {T' : TypeId} (hv : a.eval x = .slice (some ⟨b, 0, none⟩) 1 c) (hy : w.heap[b]? = some (.cells #[.slice ea en ec] T' (0, 0))) (hn : xss.length ≤ 4194304)
    (hK : ∀ v' t' B', RowSS (ext w0 t') TS T k cells v' (xss ++ [xs]) B' → (∀ b ∈ B', w0.heap.size ≤ b) → wpList Try.prog ops Q rest (a.put o.dst v') (ext w0 t')) : wpList Try.prog ops Q (o :: rest) a w :=
  wpList_plain hgd fun _ hk => wp_appSS hT hI w0.heap.size s x ho hs h hB hE hx hB1 hE0.size hv hy hn fun v' w2 B' g1 g2 g3 => by
    obtain ⟨t', rfl⟩ : Ext w0 w2 := Ext.of_below (Below.chg (hE0.trans hE).below g2 hB)
    exact hk _ _ (hK v' t' B' g1 g3)
end
set_option maxHeartbeats 1000000 in
theorem sCloneWlk_x (xs : List Wlk) (a : Option Addr) (n c : Nat) (w : World) (hx : Re w (.sl sWlk) [.slice a n c] (.l (xs.map Wlk.dat))) (hn : n ≤ 1048576) :
    Calls Try.prog 89 #[.slice a n c] w (MadeX w 29 5 Wlk.cells xs) := by
  have HX := hid hx
  have hl := hx.len
  clear hx
  go_enter Try.func89, Try.ntmps89
  go_wp2_with (refine wpList_cloneX (cells := Wlk.cells) (k := 5) (bytes := 40) (z := .agg #[.int .i64 0, .int .i64 0, .int .i64 0, .int .i64 0, .int .i64 0]) Try.underlying26 (by kernel_rfl) rfl (by decide) (by decide) rfl (fun _ => rfl) (fun _ _ _ _ h => rd_Wlk h) (fun _ _ h => Wlk.dat_inj h) (fun x u hu => by simp only [Wlk.cells, List.mem_cons, List.not_mem_nil, or_false] at hu; rcases hu with rfl | rfl | rfl | rfl | rfl <;> rfl) (fun w x => own_Wlk_mk w x) rfl _ _ rfl rfl (.inr ⟨_, rfl⟩) xs rfl (HX.out.of (by ((try simp only [ext_drew]); (try simp only [ext_ext]); repeat (first | exact Ext.refl _ | with_reducible apply Ext.add | with_reducible apply Ext.dr | apply Ext.alloc | apply Ext.ext | apply Ext.drew | refine Ext.trans ?_ (by assumption))))) (by omega) ?_; intro a' c' t' B' hr hB; have HR := hid hr; have HB := hid hB; clear hr hB)
  go_ret
  subst hl
  exact ⟨a', c', B', rfl, (by ((try simp only [ext_drew]); (try simp only [ext_ext]); repeat (first | exact Ext.refl _ | with_reducible apply Ext.add | with_reducible apply Ext.dr | apply Ext.alloc | apply Ext.ext | apply Ext.drew | refine Ext.trans ?_ (by assumption)))), HR.out.of (by ((try simp only [ext_drew]); (try simp only [ext_ext]); repeat (first | exact Ext.refl _ | with_reducible apply Ext.add | with_reducible apply Ext.dr | apply Ext.alloc | apply Ext.ext | apply Ext.drew | refine Ext.trans ?_ (by assumption)))), fun b hb => Nat.le_trans (by (try simp [go_sem]) <;> (try simp [Xt.add]) <;> omega) (HB.out b hb)⟩
set_option maxRecDepth 100000 in
set_option maxHeartbeats 8000000 in
theorem sCllCopy_x (c : Cll) (h : CllH) (w : World) (hx : ReC w c h) (hb : BdC c) :
    Calls Try.prog 76 #[.agg #[.int .i64 c.cell, .slice h.a1 c.wk.length h.c1, .int .i64 c.ground, .slice h.a3 c.outs.length h.c3, .slice h.a4 c.next.length h.c4, .slice h.a5 c.ins.length h.c5]] w (MadeCX w c) := by
  obtain ⟨a1, c1, a3, c3, a4, c4, a5, c5⟩ := h
  obtain ⟨r1, r3, r4, r5⟩ := hx
  obtain ⟨b1, b3, bo, b4, b5⟩ := hb
  dsimp only at r1 r3 r4 r5 ⊢
  have H1 := hid r1
  have H3 := hid r3
  have H4 := hid r4
  have H5 := hid r5
  have BO := hid bo
  clear r1 r3 r4 r5 bo
  go_enter Try.func76, Try.ntmps76
  go_wp2_with (go_at_call 89; (with_reducible refine (sCloneWlk_x c.wk _ _ _ _ (H1.out.of (by ((try simp only [ext_drew]); (try simp only [ext_ext]); repeat (first | exact Ext.refl _ | with_reducible apply Ext.add | with_reducible apply Ext.dr | apply Ext.alloc | apply Ext.ext | apply Ext.drew | refine Ext.trans ?_ (by assumption))))) (by omega)).mono ?_); rintro e w' ⟨p1, q1, B1, rfl, ⟨t, rfl⟩, hr1, hB1⟩; have X1 := hid hr1; have Y1 := hid hB1; clear hr1 hB1)
  refine wp_gen fun B0 hB0 => ?_
  have EB : Ext w B0 := by rw [hB0]; ((try simp only [ext_drew]); (try simp only [ext_ext]); repeat (first | exact Ext.refl _ | with_reducible apply Ext.add | with_reducible apply Ext.dr | apply Ext.alloc | apply Ext.ext | apply Ext.drew | refine Ext.trans ?_ (by assumption)))
  have X1b := hid (show RowX B0 29 5 Wlk.cells (.slice p1 c.wk.length q1) c.wk B1 by rw [hB0]; exact X1.out.fin Y1.out (by ((try simp only [ext_drew]); (try simp only [ext_ext]); repeat (first | exact Ext.refl _ | with_reducible apply Ext.add | with_reducible apply Ext.dr | apply Ext.alloc | apply Ext.ext | apply Ext.drew | refine Ext.trans ?_ (by assumption)))) (by simp))
  have Y1b := hid (show ∀ b ∈ B1, w.heap.size + 2 ≤ b from fun b hb => Nat.le_trans (by (try simp [go_sem]) <;> (try simp [Xt.add]) <;> omega) (Y1.out b hb))
  have hM : B0.heap[w.heap.size]? = some (.cells #[.int .i64 c.cell, .slice p1 c.wk.length q1, .int .i64 c.ground, .slice a3 c.outs.length c3, .slice a4 c.next.length c4, .slice a5 c.ins.length c5] 39 (0, 0)) := by rw [hB0]; exact blk_alloc (blk_ext (blk_alloc (alloc_last rfl)))
  have hR : B0.heap[w.heap.size + 1]? = some (.cells #[.int .i64 0, .slice none 0 0, .int .i64 0, .slice none 0 0, .slice none 0 0, .slice none 0 0] 39 (0, 0)) := by rw [hB0]; exact blk_alloc (blk_ext (alloc_last (by simp)))
  have HG0 := hid (show RowX B0 69 1 SlV.cells (.slice (some ⟨w.heap.size + 1 + 1 + t.bs.size, 0, none⟩) 0 0) [] [] from .inl ⟨rfl, rfl, _, rfl, .inr ⟨_, rfl⟩⟩)
  clear hB0 X1 Y1
  have cM0 : B0.cell? ⟨w.heap.size, 0, none⟩ = some (.int .i64 c.cell) := (cell_blk hM 0).trans rfl
  have zM0 := frozen_blk hM 0
  have cM1 : B0.cell? ⟨w.heap.size, 1, none⟩ = some (.slice p1 c.wk.length q1) := (cell_blk hM 1).trans rfl
  have zM1 := frozen_blk hM 1
  have cM2 : B0.cell? ⟨w.heap.size, 2, none⟩ = some (.int .i64 c.ground) := (cell_blk hM 2).trans rfl
  have zM2 := frozen_blk hM 2
  have cM3 : B0.cell? ⟨w.heap.size, 3, none⟩ = some (.slice a3 c.outs.length c3) := (cell_blk hM 3).trans rfl
  have zM3 := frozen_blk hM 3
  have cM4 : B0.cell? ⟨w.heap.size, 4, none⟩ = some (.slice a4 c.next.length c4) := (cell_blk hM 4).trans rfl
  have zM4 := frozen_blk hM 4
  have cM5 : B0.cell? ⟨w.heap.size, 5, none⟩ = some (.slice a5 c.ins.length c5) := (cell_blk hM 5).trans rfl
  have zM5 := frozen_blk hM 5
  have cR0 : B0.cell? ⟨w.heap.size + 1, 0, none⟩ = some (.int .i64 0) := (cell_blk hR 0).trans rfl
  have zR0 := frozen_blk hR 0
  have cR1 : B0.cell? ⟨w.heap.size + 1, 1, none⟩ = some (.slice none 0 0) := (cell_blk hR 1).trans rfl
  have zR1 := frozen_blk hR 1
  have cR2 : B0.cell? ⟨w.heap.size + 1, 2, none⟩ = some (.int .i64 0) := (cell_blk hR 2).trans rfl
  have zR2 := frozen_blk hR 2
  have cR3 : B0.cell? ⟨w.heap.size + 1, 3, none⟩ = some (.slice none 0 0) := (cell_blk hR 3).trans rfl
  have zR3 := frozen_blk hR 3
  have cR4 : B0.cell? ⟨w.heap.size + 1, 4, none⟩ = some (.slice none 0 0) := (cell_blk hR 4).trans rfl
  have zR4 := frozen_blk hR 4
  have cR5 : B0.cell? ⟨w.heap.size + 1, 5, none⟩ = some (.slice none 0 0) := (cell_blk hR 5).trans rfl
  have zR5 := frozen_blk hR 5
  have lM : w.heap.size < B0.heap.size := lt_blk hM
  have lR : w.heap.size + 1 < B0.heap.size := lt_blk hR
  have HM := hid hM
  have HR := hid hR
  clear hM hR
  go_loopw [3, 4] (fun v i wr => ∃ (k : Nat) (B : List Nat), k ≤ c.outs.length ∧ i = .int .i64 k ∧ RowSS wr 69 95 8 Pcl.cells v (c.outs.take k) B ∧ (∀ b ∈ B, B0.heap.size ≤ b) ∧ Ext B0 wr) (fun _ i _ => c.outs.length - (intOf i).toNat)
  case atStart => exact ⟨0, [], Nat.zero_le _, rfl, RowSS.nil HG0.out, by simp, (by ((try simp only [ext_drew]); (try simp only [ext_ext]); repeat (first | exact Ext.refl _ | with_reducible apply Ext.add | with_reducible apply Ext.dr | apply Ext.alloc | apply Ext.ext | apply Ext.drew | refine Ext.trans ?_ (by assumption))))⟩
  case round =>
    obtain ⟨k, B, hk, rfl, hg, hgb, t2, rfl⟩ := hrel
    have HG := hid hg
    have HGb := hid hgb
    clear hg hgb
    by_cases hlt : k < c.outs.length
    · obtain ⟨xs, b, o, a', c', hxk, rfl, hb, f0, hre⟩ := at_SS H3.out hlt
      have f1 : B0.cell? ⟨b, o + k, none⟩ = some (.slice a' xs.length c') := (World.cell?_of_block (a := ⟨b, o + k, none⟩) (Ext.block EB hb)).trans f0
      have hb0 : b < B0.heap.size := Nat.lt_of_lt_of_le hb EB.size
      have hxm : xs.length ≤ 1048576 := BO.out xs (List.mem_of_getElem? hxk)
      have HRe := hid (hre.of EB)
      have HEk := hid (show c.outs.take (k + 1) = c.outs.take k ++ [xs] by rw [List.take_add_one, hxk]; rfl)
      have hlen : (c.outs.take k).length ≤ 4194304 := by rw [List.length_take]; omega
      clear hxk f0 hre
      go_wp2_with (first
        | (refine wpList_cloneX (cells := Pcl.cells) (k := 8) (bytes := 64) (z := .agg #[.int .i64 0, .int .i64 0, .int .i64 0, .int .i64 0, .int .i64 0, .int .i64 0, .int .i64 0, .int .i64 0]) Try.underlying69 (by kernel_rfl) rfl (by decide) (by decide) rfl (fun _ => rfl) (fun _ _ _ _ h => rd_Pcl h) (fun _ _ h => Pcl.dat_inj h) (fun x u hu => by simp only [Pcl.cells, List.mem_cons, List.not_mem_nil, or_false] at hu; rcases hu with rfl | rfl | rfl | rfl | rfl | rfl | rfl | rfl <;> rfl) (fun w x => own_Pcl_mk w x) rfl _ _ rfl rfl (.inr ⟨_, rfl⟩) xs rfl (HRe.out.of (by ((try simp only [ext_drew]); (try simp only [ext_ext]); repeat (first | exact Ext.refl _ | with_reducible apply Ext.add | with_reducible apply Ext.dr | apply Ext.alloc | apply Ext.ext | apply Ext.drew | refine Ext.trans ?_ (by assumption))))) (by omega) ?_; intro a5 c5 t5 B5 hr hB; have X5 := hid hr; have Y5 := hid hB; clear hr hB)
        | (refine wpList_appSS (wr := ext B0 t2) Try.underlying36 (by kernel_rfl) rfl B0 _ _ rfl rfl HG.out HGb.out (by ((try simp only [ext_drew]); (try simp only [ext_ext]); repeat (first | exact Ext.refl _ | with_reducible apply Ext.add | with_reducible apply Ext.dr | apply Ext.alloc | apply Ext.ext | apply Ext.drew | refine Ext.trans ?_ (by assumption)))) (by ((try simp only [ext_drew]); (try simp only [ext_ext]); repeat (first | exact Ext.refl _ | with_reducible apply Ext.add | with_reducible apply Ext.dr | apply Ext.alloc | apply Ext.ext | apply Ext.drew | refine Ext.trans ?_ (by assumption)))) (X5.out.of (by ((try simp only [ext_drew]); (try simp only [ext_ext]); repeat (first | exact Ext.refl _ | with_reducible apply Ext.add | with_reducible apply Ext.dr | apply Ext.alloc | apply Ext.ext | apply Ext.drew | refine Ext.trans ?_ (by assumption))))) (fun b hb => Nat.le_trans (by (try simp [go_sem]) <;> (try simp [Xt.add]) <;> omega) (Y5.out b hb)) rfl (alloc_last (by (try simp [go_sem]) <;> (try simp [Xt.add]) <;> omega)) hlen ?_; intro v6 t6 B6 hr hB; have X6 := hid hr; have Y6 := hid hB; clear hr hB))
      go_roundw
      case rel => exact ⟨k + 1, B6, by omega, by go_num, by rw [HEk.out]; exact X6.out, Y6.out, (by ((try simp only [ext_drew]); (try simp only [ext_ext]); repeat (first | exact Ext.refl _ | with_reducible apply Ext.add | with_reducible apply Ext.dr | apply Ext.alloc | apply Ext.ext | apply Ext.drew | refine Ext.trans ?_ (by assumption))))⟩
      case measure => simp [intOf]; omega
    · have hke : k = c.outs.length := by omega
      subst hke
      rw [List.take_length] at HG
      obtain ⟨p3, q3, rfl⟩ := HG.out.slice
      go_wp2_with (first
        | (refine wpList_cloneX (cells := icells) (k := 1) (bytes := 8) (z := .int .i64 0) Try.underlying37 (by kernel_rfl) rfl (by decide) (by decide) rfl (fun _ => rfl) (fun _ _ _ _ h => rd_Int h) (fun _ _ h => idat_inj h) ione (fun w x => own_Int_mk w x) rfl _ _ rfl rfl (.inr ⟨_, rfl⟩) c.next rfl (Re.below H4.out (Below.chg (w0 := w) (Ext.below EB) (B := [w.heap.size, w.heap.size + 1]) (by repeat (first | with_reducible exact Chg.refl _ _ | with_reducible apply Chg.drew | with_reducible apply Chg.drewl | with_reducible refine Chg.turn (by simp) | with_reducible refine Chg.both ?_ (by simp) | (with_reducible refine Chg.set ?_ (by simp) _) | with_reducible apply Chg.alloc | with_reducible apply Chg.ext)) (by simp))) (by omega) ?_; intro p4 q4 t4 B4 hr hB; have X4 := hid hr; have Y4 := hid hB; clear hr hB)
        | (refine wpList_cloneX (cells := icells) (k := 1) (bytes := 8) (z := .int .i64 0) Try.underlying37 (by kernel_rfl) rfl (by decide) (by decide) rfl (fun _ => rfl) (fun _ _ _ _ h => rd_Int h) (fun _ _ h => idat_inj h) ione (fun w x => own_Int_mk w x) rfl _ _ rfl rfl (.inr ⟨_, rfl⟩) c.ins rfl (Re.below H5.out (Below.chg (w0 := w) (Ext.below EB) (B := [w.heap.size, w.heap.size + 1]) (by repeat (first | with_reducible exact Chg.refl _ _ | with_reducible apply Chg.drew | with_reducible apply Chg.drewl | with_reducible refine Chg.turn (by simp) | with_reducible refine Chg.both ?_ (by simp) | (with_reducible refine Chg.set ?_ (by simp) _) | with_reducible apply Chg.alloc | with_reducible apply Chg.ext)) (by simp))) (by omega) ?_; intro p5 q5 t5 B5 hr hB; have X5 := hid hr; have Y5 := hid hB; clear hr hB))
      refine bodyPost_ret (v := .agg #[.int .i64 c.cell, .slice p1 c.wk.length q1, .int .i64 c.ground, .slice p3 c.outs.length q3, .slice p4 c.next.length q4, .slice p5 c.ins.length q5]) (by simp [results, Try.results76, go_sem, cM0, cR0, cM1, cR1, cM2, cR2, cM3, cR3, cM4, cR4, cM5, cR5, lM, lR]) rfl ?_
      have l1 := X1b.out.lt
      have l3 := HG.out.lt
      have l4 := X4.out.lt
      have y4 := Y4.out
      have y5 := Y5.out
      simp only [ext_size, World.size_alloc, World.size_setCell] at l3 l4 y4 y5
      refine ⟨⟨p1, q1, p3, q3, p4, q4, p5, q5⟩, B1, B, B4, B5, rfl, Ext.of_below (Below.chg (w0 := w) (Ext.below EB) (B := [w.heap.size, w.heap.size + 1]) (by repeat (first | with_reducible exact Chg.refl _ _ | with_reducible apply Chg.drew | with_reducible apply Chg.drewl | with_reducible refine Chg.turn (by simp) | with_reducible refine Chg.both ?_ (by simp) | (with_reducible refine Chg.set ?_ (by simp) _) | with_reducible apply Chg.alloc | with_reducible apply Chg.ext)) (by simp)), ⟨X1b.out.chg (B' := [w.heap.size, w.heap.size + 1]) (by repeat (first | with_reducible exact Chg.refl _ _ | with_reducible apply Chg.drew | with_reducible apply Chg.drewl | with_reducible refine Chg.turn (by simp) | with_reducible refine Chg.both ?_ (by simp) | (with_reducible refine Chg.set ?_ (by simp) _) | with_reducible apply Chg.alloc | with_reducible apply Chg.ext)) (fun b hb => by have := Y1b.out b hb; simp; omega), HG.out.fin HGb.out (by ((try simp only [ext_drew]); (try simp only [ext_ext]); repeat (first | exact Ext.refl _ | with_reducible apply Ext.add | with_reducible apply Ext.dr | apply Ext.alloc | apply Ext.ext | apply Ext.drew | refine Ext.trans ?_ (by assumption)))) (by simp), X4.out.fin Y4.out (by ((try simp only [ext_drew]); (try simp only [ext_ext]); repeat (first | exact Ext.refl _ | with_reducible apply Ext.add | with_reducible apply Ext.dr | apply Ext.alloc | apply Ext.ext | apply Ext.drew | refine Ext.trans ?_ (by assumption)))) (by simp [go_sem]), X5.out.fin Y5.out (by ((try simp only [ext_drew]); (try simp only [ext_ext]); repeat (first | exact Ext.refl _ | with_reducible apply Ext.add | with_reducible apply Ext.dr | apply Ext.alloc | apply Ext.ext | apply Ext.drew | refine Ext.trans ?_ (by assumption)))) (by simp [go_sem]), ?_⟩, ?_⟩
      · exact nodup4 B0.heap.size (B0.heap.size + t2.bs.size + 1) (B0.heap.size + t2.bs.size + 1 + t4.bs.size) X1b.out.nodup HG.out.nodup X4.out.nodup X5.out.nodup l1 (fun b hb => ⟨HGb.out b hb, by have := l3 b hb; omega⟩) (fun b hb => ⟨y4 b hb, l4 b hb⟩) (fun b hb => by have := y5 b hb; omega) (by omega) (by omega)
      · intro b hb
        rcases List.mem_append.1 hb with hb | hb
        · have := Y1b.out b hb; omega
        · rcases List.mem_append.1 hb with hb | hb
          · have := HGb.out b hb; omega
          · rcases List.mem_append.1 hb with hb | hb
            · have := y4 b hb; omega
            · have := y5 b hb; omega
end Go.Proofs.Ytfmgjhlcedlgpaa
