/- Packed texts: CllCpI, PclX, CllOkS, CllAk, CllAkF, WlkF, WlkO, Ins, WlkP, Pure, Cdo, CllSn, CllGv, CllDf, Blk2 -/
import Derived.Test.YtablgohncilmfaaZD1
import Derived.Test.YtablgohncilmfaaZD2
import Derived.Lib.Overlaps
import Derived.Lib.AppendZerosOnto
import Derived.Laws.IdiomCopy
import Derived.Laws.NewBlocks
namespace Go.Proofs.Ytablgohncilmfaa
open Go.RowKit
set_option linter.unusedSimpArgs false
set_option linter.unusedVariables false

theorem chg_six {Y X : World} {b : Nat} {v0 v1 v2 v3 v4 v5 : Value} (h : X = (((((Y.setCell ⟨b, 0, none⟩ v0).setCell ⟨b, 1, none⟩ v1).setCell ⟨b, 2, none⟩ v2).setCell ⟨b, 3, none⟩ v3).setCell ⟨b, 4, none⟩ v4).setCell ⟨b, 5, none⟩ v5) : Chg [b] Y X := by
  rw [h]; exact (Chg.set (Chg.set (Chg.set (Chg.set (Chg.set (Chg.set (Chg.refl _ _) (by simp) _) (by simp) _) (by simp) _) (by simp) _) (by simp) _) (by simp) _)
theorem rowX_R {α : Type} {w : World} {T : TypeId} {k lo : Nat} {cells : α → List Value} {v : Value} {xs : List α} {B : List Nat} (h : RowX w T k cells v xs B) (hB : ∀ b ∈ B, lo ≤ b) (hlo : lo ≤ w.heap.size) : ∃ R, (∀ b ∈ B, b = R) ∧ lo ≤ R ∧ R ≠ w.heap.size := by
  have hl := h.lt
  rcases h with ⟨_, rfl, _⟩ | ⟨g, cap, cur, _, rfl, _⟩
  · exact ⟨w.heap.size + 1, by simp, by omega, by omega⟩
  · exact ⟨g, by simp, hB g (by simp), by have := hl g (by simp); omega⟩
/-- What the program's copy of a cell owns. -/
theorem cll_four {c : Cll} {X wr : World} {l1 h1 l4 h4 l5 h5 lo T : Nat} {p1 p4 p5 : Option Addr} {q1 q4 q5 : Nat} {v3 : Value} {B1 B3 B4 B5 : List Nat}
    (x1 : RowX X 43 5 Wlk.cells (.slice p1 c.wk.length q1) c.wk B1) (r1 : ∀ b ∈ B1, l1 ≤ b ∧ b < h1) (x4 : RowX X 3 1 icells (.slice p4 c.next.length q4) c.next B4) (r4 : ∀ b ∈ B4, l4 ≤ b ∧ b < h4) (x5 : RowX X 3 1 icells (.slice p5 c.ins.length q5) c.ins B5) (r5 : ∀ b ∈ B5, l5 ≤ b ∧ b < h5)
    (d14 : h1 ≤ l4 ∨ h4 ≤ l1) (d15 : h1 ≤ l5 ∨ h5 ≤ l1) (d45 : h4 ≤ l5 ∨ h5 ≤ l4) (hl1 : lo ≤ l1) (hl4 : lo ≤ l4) (hl5 : lo ≤ l5) (t1 : T < l1 ∨ h1 ≤ T) (t4 : T < l4 ∨ h4 ≤ T) (t5 : T < l5 ∨ h5 ≤ T)
    (hc : Chg [T] X wr) (hlo : lo ≤ X.heap.size) (x3 : RowSS wr 62 45 8 Pcl.cells v3 c.outs B3) (r3 : ∀ b ∈ B3, X.heap.size ≤ b) :
    ∃ p3 q3, v3 = .slice p3 c.outs.length q3 ∧ CX wr c ⟨p1, q1, p3, q3, p4, q4, p5, q5⟩ B1 B3 B4 B5 ∧ ∀ b ∈ B1 ++ (B3 ++ (B4 ++ B5)), lo ≤ b := by
  obtain ⟨p3, q3, rfl⟩ := x3.slice
  have k1 := x1.lt; have k4 := x4.lt; have k5 := x5.lt
  refine ⟨p3, q3, rfl, ⟨x1.chg hc fun b hb => ?_, x3, x4.chg hc fun b hb => ?_, x5.chg hc fun b hb => ?_, ?_⟩, fun b hb => ?_⟩
  · have := r1 b hb; simp; omega
  · have := r4 b hb; simp; omega
  · have := r5 b hb; simp; omega
  · refine List.nodup_append.2 ⟨x1.nodup, List.nodup_append.2 ⟨x3.nodup, List.nodup_append.2 ⟨x4.nodup, x5.nodup, fun a ha b hb e => ?_⟩, fun a ha b hb e => ?_⟩, fun a ha b hb e => ?_⟩
    · have := r4 a ha; have := r5 b hb; omega
    · have := r3 a ha
      rcases List.mem_append.1 hb with hb | hb
      · have := k4 b hb; omega
      · have := k5 b hb; omega
    · have := r1 a ha; have := k1 a ha
      rcases List.mem_append.1 hb with hb | hb
      · have := r3 b hb; omega
      · rcases List.mem_append.1 hb with hb | hb
        · have := r4 b hb; omega
        · have := r5 b hb; omega
  · rcases List.mem_append.1 hb with hb | hb
    · have := r1 b hb; omega
    · rcases List.mem_append.1 hb with hb | hb
      · have := r3 b hb; omega
      · rcases List.mem_append.1 hb with hb | hb
        · have := r4 b hb; omega
        · have := r5 b hb; omega
set_option maxRecDepth 100000 in
set_option maxHeartbeats 40000000 in
theorem iCllCopy_x (c : Cll) (h : CllH) (w : World) (hx : ReC w c h) (hb : BdC c) :
    Calls Try.prog 54 #[.agg #[.int .i64 c.cell, .slice h.a1 c.wk.length h.c1, .int .i64 c.ground, .slice h.a3 c.outs.length h.c3, .slice h.a4 c.next.length h.c4, .slice h.a5 c.ins.length h.c5]] w (MadeCX w c) := by
  obtain ⟨a1, c1, a3, c3, a4, c4, a5, c5⟩ := h
  obtain ⟨r1, r3, r4, r5⟩ := hx
  obtain ⟨b1, b3, bo, b4, b5⟩ := hb
  dsimp only at r1 r3 r4 r5 ⊢
  have H1 := hid r1
  have H3 := hid r3
  have H4 := hid r4
  have H5 := hid r5
  have BO := hid bo
  clear r1 r3 r4 r5 bo
  go_enter Try.func54, Try.ntmps54
  try go_wp2_with (first
      | fail
      | (
        with_reducible refine wp_region_mix (by kernel_rfl) (by decide +kernel) ?_
        repeat (first
          | (refine mix_pure rfl ?_; (first | go_big_quiet_skip | (go_big_quiet_want; go_big_quiet_op; go_big_quiet_on)); refine wpQuiet_nil ?_)
          | (refine mix_skip (by rfl) ?_; (try simp only [Act.put, List.setIfInBounds_toArray, List.set_cons_zero, List.set_cons_succ]))
          | (refine mix_mk rfl (by rfl) (fun K hK => ?_); (first | (go_simp; first | skip)); (show K _ _); refine hK _ _ (show Ext _ _ from zq0) ?_; clear hK K; (try simp only [Act.put, List.setIfInBounds_toArray, List.set_cons_zero, List.set_cons_succ])))
        refine mix_nil ?_)
      | (
        with_reducible refine wp_region_ext (by kernel_rfl) (by kernel_rfl) ?_
        repeat (first | go_big_quiet_skip | (go_big_quiet_want; go_big_quiet_op; first | go_big_quiet_on | (apply Exists.intro; refine ⟨fun _ => ?_, ?_⟩; (fail); (try rw [h1]); (try rw [h2]); (try rw [h3]); (try rw [h4]); (try rw [p1]); (try rw [p2]); (try rw [p3]); (try rw [p4]); (try rw [r1]); (try rw [r2]); (try rw [r3]); (try rw [r4]); (try rw [r5]); (try rw [r6]); (try rw [q3]); (try rw [q4]); (try rw [hp]); (try rw [hq]); go_big_quiet_on)))
        refine wpQuiet_nil ?_
        rintro _ ⟨tq, rfl⟩))
  refine wp_region_flow [6, 7, 8, 9, 10, 11, 12, 13, 14, 15, 16, 17, 18, 19, 3] (fun i σ lo hi w9 => match i with
    | 0 => σ 0 = .pointer (some ⟨w.heap.size, 0, none⟩)
    | 1 => σ 1 = .int .i64 c.cell
    | 2 => σ 2 = .pointer (some ⟨w.heap.size, 1, none⟩)
    | 3 => σ 3 = .slice a1 c.wk.length c1
    | 4 => MkX 43 5 Wlk.cells c.wk (σ 4) lo hi w9
    | 5 => σ 5 = .pointer (some ⟨w.heap.size, 2, none⟩)
    | 6 => σ 6 = .int .i64 c.ground
    | 7 => σ 7 = .pointer (some ⟨w.heap.size, 4, none⟩)
    | 8 => σ 8 = .slice a4 c.next.length c4
    | 9 => MkX 3 1 icells c.next (σ 9) lo hi w9
    | 10 => σ 10 = .pointer (some ⟨w.heap.size, 5, none⟩)
    | 11 => σ 11 = .slice a5 c.ins.length c5
    | 12 => MkX 3 1 icells c.ins (σ 12) lo hi w9
    | 13 => σ 13 = .agg #[.int .i64 c.cell, σ 4, .int .i64 c.ground, .slice none 0 0, σ 9, σ 12]
    | _ => MkA #[.int .i64 0, .slice none 0 0, .int .i64 0, .slice none 0 0, .slice none 0 0, .slice none 0 0] 37 (σ 14) lo hi w9) (by kernel_rfl) (by decide +kernel) (by simp) ?_ ?_ ?_ ?_
  · intro i oo hi ho σ σ' lo hi' w9 h hS
    match i, hi, ho with
    | 0, _, ho =>
      have e0 := h 0 (.inl rfl)
      try dsimp only at hS ⊢
      rw [e0] at hS
      exact hS
    | 1, _, ho =>
      have e0 := h 1 (.inl rfl)
      try dsimp only at hS ⊢
      rw [e0] at hS
      exact hS
    | 2, _, ho =>
      have e0 := h 2 (.inl rfl)
      try dsimp only at hS ⊢
      rw [e0] at hS
      exact hS
    | 3, _, ho =>
      have e0 := h 3 (.inl rfl)
      try dsimp only at hS ⊢
      rw [e0] at hS
      exact hS
    | 4, _, ho =>
      have e0 := h 4 (.inl rfl)
      try dsimp only at hS ⊢
      rw [e0] at hS
      exact hS
    | 5, _, ho =>
      have e0 := h 5 (.inl rfl)
      try dsimp only at hS ⊢
      rw [e0] at hS
      exact hS
    | 6, _, ho =>
      have e0 := h 6 (.inl rfl)
      try dsimp only at hS ⊢
      rw [e0] at hS
      exact hS
    | 7, _, ho =>
      have e0 := h 7 (.inl rfl)
      try dsimp only at hS ⊢
      rw [e0] at hS
      exact hS
    | 8, _, ho =>
      have e0 := h 8 (.inl rfl)
      try dsimp only at hS ⊢
      rw [e0] at hS
      exact hS
    | 9, _, ho =>
      have e0 := h 9 (.inl rfl)
      try dsimp only at hS ⊢
      rw [e0] at hS
      exact hS
    | 10, _, ho =>
      have e0 := h 10 (.inl rfl)
      try dsimp only at hS ⊢
      rw [e0] at hS
      exact hS
    | 11, _, ho =>
      have e0 := h 11 (.inl rfl)
      try dsimp only at hS ⊢
      rw [e0] at hS
      exact hS
    | 12, _, ho =>
      have e0 := h 12 (.inl rfl)
      try dsimp only at hS ⊢
      rw [e0] at hS
      exact hS
    | 13, _, ho =>
      have e0 := h 13 (.inl rfl)
      obtain rfl := Option.some.inj ho
      have e5 := h 4 (.inr (by kernel_rfl))
      have e10 := h 9 (.inr (by kernel_rfl))
      have e13 := h 12 (.inr (by kernel_rfl))
      try dsimp only at hS ⊢
      rw [e0, e5, e10, e13] at hS
      exact hS
    | 14, _, ho =>
      have e0 := h 14 (.inl rfl)
      try dsimp only at hS ⊢
      rw [e0] at hS
      exact hS
  · intro i hi σ lo hi' w9 w8 hS hle hE
    match i, hi with
    | 0, _ => exact hS
    | 1, _ => exact hS
    | 2, _ => exact hS
    | 3, _ => exact hS
    | 4, _ => exact MkX.ext hS hE
    | 5, _ => exact hS
    | 6, _ => exact hS
    | 7, _ => exact hS
    | 8, _ => exact hS
    | 9, _ => exact MkX.ext hS hE
    | 10, _ => exact hS
    | 11, _ => exact hS
    | 12, _ => exact MkX.ext hS hE
    | 13, _ => exact hS
    | 14, _ => exact MkA.ext hS hE
  · intro i oo hi ho σ L H w9 hE hd
    obtain ⟨t9, rfl⟩ := hE
    match i, hi, ho with
    | 0, _, ho =>
      obtain rfl := Option.some.inj ho
      clear hd ho
      simp only [actS, putS, List.setIfInBounds_toArray, List.set_cons_zero, List.set_cons_succ, Nat.reduceAdd]
      refine flow_K (fun K hK => ?_)
      go_simp
      (show K _ _)
      exact hK _ _ ⟨_, rfl, (show Ext _ _ from zq0), rfl⟩
    | 1, _, ho =>
      obtain rfl := Option.some.inj ho
      have e0 : σ 0 = .pointer (some ⟨w.heap.size, 0, none⟩) := (hd 0 (by kernel_rfl)).2.2.2
      clear hd ho
      simp only [actS, putS, List.setIfInBounds_toArray, List.set_cons_zero, List.set_cons_succ, Nat.reduceAdd, e0]
      refine flow_K (fun K hK => ?_)
      go_simp
      (show K _ _)
      exact hK _ _ ⟨_, rfl, (show Ext _ _ from zq0), rfl⟩
    | 2, _, ho =>
      obtain rfl := Option.some.inj ho
      clear hd ho
      simp only [actS, putS, List.setIfInBounds_toArray, List.set_cons_zero, List.set_cons_succ, Nat.reduceAdd]
      refine flow_K (fun K hK => ?_)
      go_simp
      (show K _ _)
      exact hK _ _ ⟨_, rfl, (show Ext _ _ from zq0), rfl⟩
    | 3, _, ho =>
      obtain rfl := Option.some.inj ho
      have e2 : σ 2 = .pointer (some ⟨w.heap.size, 1, none⟩) := (hd 2 (by kernel_rfl)).2.2.2
      clear hd ho
      simp only [actS, putS, List.setIfInBounds_toArray, List.set_cons_zero, List.set_cons_succ, Nat.reduceAdd, e2]
      refine flow_K (fun K hK => ?_)
      go_simp
      (show K _ _)
      exact hK _ _ ⟨_, rfl, (show Ext _ _ from zq0), rfl⟩
    | 4, _, ho =>
      obtain rfl := Option.some.inj ho
      have e3 : σ 3 = .slice a1 c.wk.length c1 := (hd 3 (by kernel_rfl)).2.2.2
      clear hd ho
      simp only [actS, putS, List.setIfInBounds_toArray, List.set_cons_zero, List.set_cons_succ, Nat.reduceAdd, e3]
      refine flow_K (fun K hK => ?_)
      go_simp
      refine (iCloneWlk_x c.wk a1 _ c1 _ (H1.out.of zq0) (by omega)).mono ?_
      rintro e w8 ⟨a', c', B', rfl, hE', hr', hb'⟩
      (show K _ _)
      exact hK _ _ ⟨_, rfl, hE', ⟨_, _, B', rfl, hr', fun b hb => ⟨hb' b hb, hr'.lt b hb⟩⟩⟩
    | 5, _, ho =>
      obtain rfl := Option.some.inj ho
      clear hd ho
      simp only [actS, putS, List.setIfInBounds_toArray, List.set_cons_zero, List.set_cons_succ, Nat.reduceAdd]
      refine flow_K (fun K hK => ?_)
      go_simp
      (show K _ _)
      exact hK _ _ ⟨_, rfl, (show Ext _ _ from zq0), rfl⟩
    | 6, _, ho =>
      obtain rfl := Option.some.inj ho
      have e5 : σ 5 = .pointer (some ⟨w.heap.size, 2, none⟩) := (hd 5 (by kernel_rfl)).2.2.2
      clear hd ho
      simp only [actS, putS, List.setIfInBounds_toArray, List.set_cons_zero, List.set_cons_succ, Nat.reduceAdd, e5]
      refine flow_K (fun K hK => ?_)
      go_simp
      (show K _ _)
      exact hK _ _ ⟨_, rfl, (show Ext _ _ from zq0), rfl⟩
    | 7, _, ho =>
      obtain rfl := Option.some.inj ho
      clear hd ho
      simp only [actS, putS, List.setIfInBounds_toArray, List.set_cons_zero, List.set_cons_succ, Nat.reduceAdd]
      refine flow_K (fun K hK => ?_)
      go_simp
      (show K _ _)
      exact hK _ _ ⟨_, rfl, (show Ext _ _ from zq0), rfl⟩
    | 8, _, ho =>
      obtain rfl := Option.some.inj ho
      have e7 : σ 7 = .pointer (some ⟨w.heap.size, 4, none⟩) := (hd 7 (by kernel_rfl)).2.2.2
      clear hd ho
      simp only [actS, putS, List.setIfInBounds_toArray, List.set_cons_zero, List.set_cons_succ, Nat.reduceAdd, e7]
      refine flow_K (fun K hK => ?_)
      go_simp
      (show K _ _)
      exact hK _ _ ⟨_, rfl, (show Ext _ _ from zq0), rfl⟩
    | 9, _, ho =>
      obtain rfl := Option.some.inj ho
      have e8 : σ 8 = .slice a4 c.next.length c4 := (hd 8 (by kernel_rfl)).2.2.2
      clear hd ho
      simp only [actS, putS, List.setIfInBounds_toArray, List.set_cons_zero, List.set_cons_succ, Nat.reduceAdd, e8]
      refine flow_K (fun K hK => ?_)
      refine wp_cloneX (cells := icells) (k := 1) (bytes := 8) (z := .int .i64 0) Try.underlying26 (by kernel_rfl) rfl (by decide) (by decide) rfl (fun _ => rfl) (fun _ _ _ _ h => rd_Int h) (fun _ _ h => idat_inj h) ione (fun w x => own_Int_mk w x) _ _ rfl rfl (.inl rfl) c.next rfl (H4.out.of zq0) (by omega) ?_
      intro a' c' t' B' hr' hb'
      exact hK _ _ ⟨_, rfl, ⟨t', rfl⟩, ⟨_, _, B', rfl, hr', fun b hb => ⟨hb' b hb, hr'.lt b hb⟩⟩⟩
    | 10, _, ho =>
      obtain rfl := Option.some.inj ho
      clear hd ho
      simp only [actS, putS, List.setIfInBounds_toArray, List.set_cons_zero, List.set_cons_succ, Nat.reduceAdd]
      refine flow_K (fun K hK => ?_)
      go_simp
      (show K _ _)
      exact hK _ _ ⟨_, rfl, (show Ext _ _ from zq0), rfl⟩
    | 11, _, ho =>
      obtain rfl := Option.some.inj ho
      have e10 : σ 10 = .pointer (some ⟨w.heap.size, 5, none⟩) := (hd 10 (by kernel_rfl)).2.2.2
      clear hd ho
      simp only [actS, putS, List.setIfInBounds_toArray, List.set_cons_zero, List.set_cons_succ, Nat.reduceAdd, e10]
      refine flow_K (fun K hK => ?_)
      go_simp
      (show K _ _)
      exact hK _ _ ⟨_, rfl, (show Ext _ _ from zq0), rfl⟩
    | 12, _, ho =>
      obtain rfl := Option.some.inj ho
      have e11 : σ 11 = .slice a5 c.ins.length c5 := (hd 11 (by kernel_rfl)).2.2.2
      clear hd ho
      simp only [actS, putS, List.setIfInBounds_toArray, List.set_cons_zero, List.set_cons_succ, Nat.reduceAdd, e11]
      refine flow_K (fun K hK => ?_)
      refine wp_cloneX (cells := icells) (k := 1) (bytes := 8) (z := .int .i64 0) Try.underlying26 (by kernel_rfl) rfl (by decide) (by decide) rfl (fun _ => rfl) (fun _ _ _ _ h => rd_Int h) (fun _ _ h => idat_inj h) ione (fun w x => own_Int_mk w x) _ _ rfl rfl (.inl rfl) c.ins rfl (H5.out.of zq0) (by omega) ?_
      intro a' c' t' B' hr' hb'
      exact hK _ _ ⟨_, rfl, ⟨t', rfl⟩, ⟨_, _, B', rfl, hr', fun b hb => ⟨hb' b hb, hr'.lt b hb⟩⟩⟩
    | 13, _, ho =>
      obtain rfl := Option.some.inj ho
      have e1 : σ 1 = .int .i64 c.cell := (hd 1 (by kernel_rfl)).2.2.2
      obtain ⟨pa4, pc4, BB4, e4, _, _⟩ : MkX 43 5 Wlk.cells c.wk (σ 4) (L 4) (H 4) _ := (hd 4 (by kernel_rfl)).2.2.2
      have e6 : σ 6 = .int .i64 c.ground := (hd 6 (by kernel_rfl)).2.2.2
      obtain ⟨pa9, pc9, BB9, e9, _, _⟩ : MkX 3 1 icells c.next (σ 9) (L 9) (H 9) _ := (hd 9 (by kernel_rfl)).2.2.2
      obtain ⟨pa12, pc12, BB12, e12, _, _⟩ : MkX 3 1 icells c.ins (σ 12) (L 12) (H 12) _ := (hd 12 (by kernel_rfl)).2.2.2
      clear hd ho
      simp only [actS, putS, List.setIfInBounds_toArray, List.set_cons_zero, List.set_cons_succ, Nat.reduceAdd, e1, e4, e6, e9, e12]
      refine flow_K (fun K hK => ?_)
      go_simp
      (show K _ _)
      exact hK _ _ ⟨_, rfl, (show Ext _ _ from zq0), (by simp)⟩
    | 14, _, ho =>
      obtain rfl := Option.some.inj ho
      clear hd ho
      simp only [actS, putS, List.setIfInBounds_toArray, List.set_cons_zero, List.set_cons_succ, Nat.reduceAdd]
      refine flow_K (fun K hK => ?_)
      go_simp
      (show K _ _)
      exact hK _ _ ⟨_, rfl, (show Ext _ _ from zq0), ⟨_, rfl, by simp [go_sem], by simp [go_sem], heap_new (by simp [go_sem])⟩⟩
  · intro oo ho σ L H w9 hE hd hap
    obtain ⟨t9, rfl⟩ := hE
    obtain ⟨l0, m0, u0, s0⟩ := hd 0 (by decide)
    have e0 : σ 0 = .pointer (some ⟨w.heap.size, 0, none⟩) := s0
    clear s0
    obtain ⟨l1, m1, u1, s1⟩ := hd 1 (by decide)
    have e1 : σ 1 = .int .i64 c.cell := s1
    clear s1
    obtain ⟨l2, m2, u2, s2⟩ := hd 2 (by decide)
    have e2 : σ 2 = .pointer (some ⟨w.heap.size, 1, none⟩) := s2
    clear s2
    obtain ⟨l3, m3, u3, s3⟩ := hd 3 (by decide)
    have e3 : σ 3 = .slice a1 c.wk.length c1 := s3
    clear s3
    obtain ⟨l4, m4, u4, s4⟩ := hd 4 (by decide)
    obtain ⟨pa4, pc4, BB4, e4, o4, ob4⟩ : MkX 43 5 Wlk.cells c.wk (σ 4) (L 4) (H 4) _ := s4
    obtain ⟨l5, m5, u5, s5⟩ := hd 5 (by decide)
    have e5 : σ 5 = .pointer (some ⟨w.heap.size, 2, none⟩) := s5
    clear s5
    obtain ⟨l6, m6, u6, s6⟩ := hd 6 (by decide)
    have e6 : σ 6 = .int .i64 c.ground := s6
    clear s6
    obtain ⟨l7, m7, u7, s7⟩ := hd 7 (by decide)
    have e7 : σ 7 = .pointer (some ⟨w.heap.size, 4, none⟩) := s7
    clear s7
    obtain ⟨l8, m8, u8, s8⟩ := hd 8 (by decide)
    have e8 : σ 8 = .slice a4 c.next.length c4 := s8
    clear s8
    obtain ⟨l9, m9, u9, s9⟩ := hd 9 (by decide)
    obtain ⟨pa9, pc9, BB9, e9, o9, ob9⟩ : MkX 3 1 icells c.next (σ 9) (L 9) (H 9) _ := s9
    obtain ⟨l10, m10, u10, s10⟩ := hd 10 (by decide)
    have e10 : σ 10 = .pointer (some ⟨w.heap.size, 5, none⟩) := s10
    clear s10
    obtain ⟨l11, m11, u11, s11⟩ := hd 11 (by decide)
    have e11 : σ 11 = .slice a5 c.ins.length c5 := s11
    clear s11
    obtain ⟨l12, m12, u12, s12⟩ := hd 12 (by decide)
    obtain ⟨pa12, pc12, BB12, e12, o12, ob12⟩ : MkX 3 1 icells c.ins (σ 12) (L 12) (H 12) _ := s12
    obtain ⟨l13, m13, u13, s13⟩ := hd 13 (by decide)
    have e13 : σ 13 = .agg #[.int .i64 c.cell, σ 4, .int .i64 c.ground, .slice none 0 0, σ 9, σ 12] := s13
    clear s13
    obtain ⟨l14, m14, u14, s14⟩ := hd 14 (by decide)
    obtain ⟨bx, e14, bl, bh, hbx⟩ : MkA #[.int .i64 0, .slice none 0 0, .int .i64 0, .slice none 0 0, .slice none 0 0, .slice none 0 0] 37 (σ 14) (L 14) (H 14) _ := s14
    rw [e4, e9, e12] at e13
    clear hd
    try simp only [ext_ext] at o4 o9 o12 hbx
    have y0 := (cell_blk hbx 0).trans (show _ = some (Value.int .i64 0) from rfl)
    have z0 := frozen_blk hbx 0
    have y1 := (cell_blk hbx 1).trans (show _ = some (Value.slice none 0 0) from rfl)
    have z1 := frozen_blk hbx 1
    have y2 := (cell_blk hbx 2).trans (show _ = some (Value.int .i64 0) from rfl)
    have z2 := frozen_blk hbx 2
    have y3 := (cell_blk hbx 3).trans (show _ = some (Value.slice none 0 0) from rfl)
    have z3 := frozen_blk hbx 3
    have y4 := (cell_blk hbx 4).trans (show _ = some (Value.slice none 0 0) from rfl)
    have z4 := frozen_blk hbx 4
    have y5 := (cell_blk hbx 5).trans (show _ = some (Value.slice none 0 0) from rfl)
    have z5 := frozen_blk hbx 5
    have HBX := hid hbx
    have lbx := lt_blk hbx
    clear hbx
    simp only [actS, putS, List.setIfInBounds_toArray, List.set_cons_zero, List.set_cons_succ, Nat.reduceAdd, e0, e1, e2, e3, e4, e5, e6, e7, e8, e9, e10, e11, e12, e13, e14]
    obtain rfl := Option.some.inj ho
    refine flow_K (fun K hK => ?_)
    go_simp
    (show K _ _)
    refine hK _ _ ?_
    clear hK K ho
    try simp only [Act.put, List.setIfInBounds_toArray, List.set_cons_zero, List.set_cons_succ]
    simp only [Exit.then]
    rename_i hKont
    refine hKont _ _ ?_
    clear hKont
    refine wp_gen fun X hX => ?_
    have hC := chg_six hX
    have hbX : X.heap[bx]? = some (.cells #[.int .i64 c.cell, .slice pa4 c.wk.length pc4, .int .i64 c.ground, .slice none 0 0, .slice pa9 c.next.length pc9, .slice pa12 c.ins.length pc12] 37 (0, 0)) := by rw [hX]; exact blk_set (blk_set (blk_set (blk_set (blk_set (blk_set HBX.out)))))
    obtain ⟨Y, hY, hCY⟩ := chg_left hC
    have EY : Ext w Y := by rw [hY]; ((try simp only [ext_drew]); (try simp only [ext_ext]); repeat (first | exact Ext.refl _ | with_reducible apply Ext.add | with_reducible apply Ext.dr | apply Ext.alloc | apply Ext.ext | apply Ext.drew | refine Ext.trans ?_ (by assumption)))
    have d4A := hap 4 14 (by decide) (by decide) (by decide)
    have d9A := hap 9 14 (by decide) (by decide) (by decide)
    have d12A := hap 12 14 (by decide) (by decide) (by decide)
    have d49 := hap 4 9 (by decide) (by decide) (by decide)
    have d412 := hap 4 12 (by decide) (by decide) (by decide)
    have d912 := hap 9 12 (by decide) (by decide) (by decide)
    have hbase : w.heap.size + 2 ≤ L 14 := Nat.le_trans zq2 l14
    have hl4 : w.heap.size + 2 ≤ L 4 := Nat.le_trans zq2 l4
    have hl9 : w.heap.size + 2 ≤ L 9 := Nat.le_trans zq2 l9
    have hl12 : w.heap.size + 2 ≤ L 12 := Nat.le_trans zq2 l12
    have t4 : bx < L 4 ∨ H 4 ≤ bx := by omega
    have t9' : bx < L 9 ∨ H 9 ≤ bx := by omega
    have t12 : bx < L 12 ∨ H 12 ≤ bx := by omega
    have q4 := o4.chg hC (fun b hb => by have := ob4 b hb; simp; omega)
    have q9 := o9.chg hC (fun b hb => by have := ob9 b hb; simp; omega)
    have q12 := o12.chg hC (fun b hb => by have := ob12 b hb; simp; omega)
    have hMB : w.heap.size ∉ [bx] := by simp; omega
    have hRB : w.heap.size + 1 ∉ [bx] := by simp; omega
    have xM3 : X.cell? ⟨w.heap.size, 3, none⟩ = some (.slice a3 c.outs.length c3) := (hC.cell zq2 hMB 3).trans (by simp [go_sem])
    have hRX : X.heap[w.heap.size + 1]? = some (.cells #[.int .i64 0, .slice none 0 0, .int .i64 0, .slice none 0 0, .slice none 0 0, .slice none 0 0] 37 (0, 0)) := (hC.block _ zq2 hRB).trans ((ext_block _ _ _ zq2).trans (heap_new (by simp)))
    have lRX := lt_blk hRX
    have lbX := lt_blk hbX
    have lMX : w.heap.size < X.heap.size := by omega
    have EB : Below w.heap.size w X := Below.chg (w0 := w) EY.below hCY (fun b hb => by
      obtain rfl : b = bx := by simpa using hb
      omega)
    have HQ4 := hid q4
    have HQ9 := hid q9
    have HQ12 := hid q12
    have HO4 := hid ob4
    have HO9 := hid ob9
    have HO12 := hid ob12
    have HD := hid (show (H 4 ≤ L 9 ∨ H 9 ≤ L 4) ∧ (H 4 ≤ L 12 ∨ H 12 ≤ L 4) ∧ (H 9 ≤ L 12 ∨ H 12 ≤ L 9) from ⟨d49, d412, d912⟩)
    have HT := hid (show (bx < L 4 ∨ H 4 ≤ bx) ∧ (bx < L 9 ∨ H 9 ≤ bx) ∧ (bx < L 12 ∨ H 12 ≤ bx) from ⟨t4, t9', t12⟩)
    have HL := hid (show w.heap.size + 2 ≤ L 4 ∧ w.heap.size + 2 ≤ L 9 ∧ w.heap.size + 2 ≤ L 12 from ⟨hl4, hl9, hl12⟩)
    have hbxw : w.heap.size + 2 ≤ bx := by omega
    have HB0 := hid hbX
    have HEB := hid EB
    have HRX := hid hRX
    clear y0 y1 y2 y3 y4 y5 z0 z1 z2 z3 z4 z5
    clear hX hC hCY hY q4 q9 q12 HBX hMB hRB hbX lbx hbase hl4 hl9 hl12 EB EY hRX t4 t9' t12 d49 d412 d912 d4A d9A d12A hap bl bh
    clear e0 e1 e2 e3 e4 e5 e6 e7 e8 e9 e10 e11 e12 e13 e14
    clear l0 m0 u0 l1 m1 u1 l2 m2 u2 l3 m3 u3 l4 m4 u4 l5 m5 u5 l6 m6 u6 l7 m7 u7 l8 m8 u8 l9 m9 u9 l10 m10 u10 l11 m11 u11 l12 m12 u12 l13 m13 u13 l14 m14 u14
    clear o4 o9 o12 ob4 ob9 ob12
    generalize hTe : bx = T at *
    clear hTe bx
    try go_wp2_with (first
        | fail
        | (
          with_reducible refine wp_region_mix (by kernel_rfl) (by decide +kernel) ?_
          repeat (first
            | (refine mix_pure rfl ?_; (first | go_big_quiet_skip | (go_big_quiet_want; go_big_quiet_op; go_big_quiet_on)); refine wpQuiet_nil ?_)
            | (refine mix_skip (by rfl) ?_; (try simp only [Act.put, List.setIfInBounds_toArray, List.set_cons_zero, List.set_cons_succ]))
            | (refine mix_mk rfl (by rfl) (fun K hK => ?_); (first | (go_simp; first | skip)); (show K _ _); refine hK _ _ (show Ext _ _ from zq0) ?_; clear hK K; (try simp only [Act.put, List.setIfInBounds_toArray, List.set_cons_zero, List.set_cons_succ])))
          refine mix_nil ?_)
        | (
          with_reducible refine wp_region_ext (by kernel_rfl) (by kernel_rfl) ?_
          repeat (first | go_big_quiet_skip | (go_big_quiet_want; go_big_quiet_op; first | go_big_quiet_on | (apply Exists.intro; refine ⟨fun _ => ?_, ?_⟩; (fail); (try rw [h1]); (try rw [h2]); (try rw [h3]); (try rw [h4]); (try rw [p1]); (try rw [p2]); (try rw [p3]); (try rw [p4]); (try rw [r1]); (try rw [r2]); (try rw [r3]); (try rw [r4]); (try rw [r5]); (try rw [r6]); (try rw [q3]); (try rw [q4]); (try rw [hp]); (try rw [hq]); go_big_quiet_on)))
          refine wpQuiet_nil ?_
          rintro _ ⟨tq, rfl⟩))
    go_loopw [23] (fun i wr => ∃ (k : Nat) (v : Value) (B : List Nat), k ≤ c.outs.length ∧ i = .int .i64 k ∧ wr.heap[T]? = some (.cells #[.int .i64 c.cell, .slice pa4 c.wk.length pc4, .int .i64 c.ground, v, .slice pa9 c.next.length pc9, .slice pa12 c.ins.length pc12] 37 (0, 0)) ∧ RowSS wr 62 45 8 Pcl.cells v (c.outs.take k) B ∧ (∀ b ∈ B, X.heap.size ≤ b) ∧ Chg [T] X wr) (fun i _ => c.outs.length - (intOf i).toNat)
    case atStart => exact ⟨0, .slice none 0 0, [], Nat.zero_le _, rfl, HB0.out, RowSS.nil (.inl ⟨rfl, rfl, none, rfl, .inl rfl⟩), by simp, Chg.refl _ _⟩
    case round =>
      obtain ⟨k, v, B, hk, rfl, hT, hss, hbs, hch⟩ := hrel
      have HC := hid hch
      have hsz := hch.size
      have lT : T < wr.heap.size := lt_blk hT
      have cT0 : wr.cell? ⟨T, 0, none⟩ = some (.int .i64 c.cell) := (cell_blk hT 0).trans rfl
      have cT1 : wr.cell? ⟨T, 1, none⟩ = some (.slice pa4 c.wk.length pc4) := (cell_blk hT 1).trans rfl
      have cT2 : wr.cell? ⟨T, 2, none⟩ = some (.int .i64 c.ground) := (cell_blk hT 2).trans rfl
      have cT3 : wr.cell? ⟨T, 3, none⟩ = some (v) := (cell_blk hT 3).trans rfl
      have cT4 : wr.cell? ⟨T, 4, none⟩ = some (.slice pa9 c.next.length pc9) := (cell_blk hT 4).trans rfl
      have cT5 : wr.cell? ⟨T, 5, none⟩ = some (.slice pa12 c.ins.length pc12) := (cell_blk hT 5).trans rfl
      have zT := frozen_blk hT 3
      have lM : w.heap.size < wr.heap.size := by omega
      have cM3 : wr.cell? ⟨w.heap.size, 3, none⟩ = some (.slice a3 c.outs.length c3) := (hch.cell (by omega) (by simp; omega) 3).trans xM3
      have bR := (hch.block (w.heap.size + 1) (by omega) (by simp; omega)).trans HRX.out
      have cR0 : wr.cell? ⟨w.heap.size + 1, 0, none⟩ = some (.int .i64 0) := (cell_blk bR 0).trans rfl
      have zR0 := frozen_blk bR 0
      have cR1 : wr.cell? ⟨w.heap.size + 1, 1, none⟩ = some (.slice none 0 0) := (cell_blk bR 1).trans rfl
      have zR1 := frozen_blk bR 1
      have cR2 : wr.cell? ⟨w.heap.size + 1, 2, none⟩ = some (.int .i64 0) := (cell_blk bR 2).trans rfl
      have zR2 := frozen_blk bR 2
      have cR3 : wr.cell? ⟨w.heap.size + 1, 3, none⟩ = some (.slice none 0 0) := (cell_blk bR 3).trans rfl
      have zR3 := frozen_blk bR 3
      have cR4 : wr.cell? ⟨w.heap.size + 1, 4, none⟩ = some (.slice none 0 0) := (cell_blk bR 4).trans rfl
      have zR4 := frozen_blk bR 4
      have cR5 : wr.cell? ⟨w.heap.size + 1, 5, none⟩ = some (.slice none 0 0) := (cell_blk bR 5).trans rfl
      have zR5 := frozen_blk bR 5
      have lR : w.heap.size + 1 < wr.heap.size := by omega
      have hbel : Below w.heap.size w wr := Below.chg (w0 := w) HEB.out hch (fun b hb => by
        obtain rfl : b = T := by simpa using hb
        omega)
      have HBl := hid hbel
      have HTb := hid hT
      have HSS := hid hss
      have HBS := hid hbs
      clear hT hch hbel bR hss hbs
      by_cases hlt : k < c.outs.length
      · obtain ⟨xs, b', o', a', c', hxk, rfl, hb', f0, hre⟩ := at_SS H3.out hlt
        have hbx' := (HBl.out).block b' hb'
        have f1 : wr.cell? ⟨b', o' + k, none⟩ = some (.slice a' xs.length c') := (World.cell?_of_block (a := ⟨b', o' + k, none⟩) hbx').trans f0
        have lb1 : b' < wr.heap.size := by omega
        have HK := hid hxk
        have hxm : xs.length ≤ 1048576 := BO.out xs (List.mem_of_getElem? hxk)
        have HRe := hid (Re.below hre HBl.out)
        clear hxk f0 hre hbx'
        obtain ⟨es, Rl, Bs, g1, g2, g3, g4, g5, g6⟩ := HSS.out
        have hbs2 : ∀ b ∈ Rl ++ Bs.flatten, X.heap.size ≤ b := g4 ▸ HBS.out
        obtain ⟨R, hRl, hRlo, hRne⟩ := rowX_R g1 (lo := X.heap.size) (fun b hb => hbs2 b (by simp [hb])) hsz
        have HG1 := hid g1
        have HG2 := hid (show es.length = (c.outs.take k).length ∧ Bs.length = es.length ∧ (Rl ++ Bs.flatten).Nodup from ⟨g2, g3, g4 ▸ g5⟩)
        have HG6 := hid g6
        have HG7 := hid hbs2
        have HRl := hid hRl
        have hTR : T ≠ R := by omega
        have hRT : R ≠ T := by omega
        have hcR : wr.heap.size ≠ R := Ne.symm hRne
        have hMR : w.heap.size ≠ R := by omega
        have hbR : b' ≠ R := by omega
        have dT : ∀ t, (ext wr.drew t).cell? ⟨T, 3, none⟩ = some v := fun t => (ext_cell' _ _ _ _ lT).trans cT3
        have dZ : ∀ t, (ext wr.drew t).frozen? ⟨T, 3, none⟩ = false := fun t => (ext_frozen' _ _ _ _ lT).trans zT
        have hlen : es.length ≤ 4194304 := by rw [g2, List.length_take]; omega
        have HEk := hid (show c.outs.take (k + 1) = c.outs.take k ++ [xs] by rw [List.take_add_one, HK.out]; rfl)
        clear g1 g2 g3 g4 g5 g6 hbs2 hRl hRne
        try go_wp2_with (first
            | fail
            | (
              with_reducible refine wp_region_mix (by kernel_rfl) (by decide +kernel) ?_
              repeat (first
                | (refine mix_pure rfl ?_; (first | go_big_quiet_skip | (go_big_quiet_want; go_big_quiet_op; go_big_quiet_on)); refine wpQuiet_nil ?_)
                | (refine mix_skip (by rfl) ?_; (try simp only [Act.put, List.setIfInBounds_toArray, List.set_cons_zero, List.set_cons_succ]))
                | (refine mix_mk rfl (by rfl) (fun K hK => ?_); (first | (go_simp; first | skip)); (show K _ _); refine hK _ _ (show Ext _ _ from zq0) ?_; clear hK K; (try simp only [Act.put, List.setIfInBounds_toArray, List.set_cons_zero, List.set_cons_succ])))
              refine mix_nil ?_)
            | (
              with_reducible refine wp_region_ext (by kernel_rfl) (by kernel_rfl) ?_
              repeat (first | go_big_quiet_skip | (go_big_quiet_want; go_big_quiet_op; first | go_big_quiet_on | (apply Exists.intro; refine ⟨fun _ => ?_, ?_⟩; (fail); (try rw [h1]); (try rw [h2]); (try rw [h3]); (try rw [h4]); (try rw [p1]); (try rw [p2]); (try rw [p3]); (try rw [p4]); (try rw [r1]); (try rw [r2]); (try rw [r3]); (try rw [r4]); (try rw [r5]); (try rw [r6]); (try rw [q3]); (try rw [q4]); (try rw [hp]); (try rw [hq]); go_big_quiet_on)))
              refine wpQuiet_nil ?_
              rintro _ ⟨tq, rfl⟩))
        try go_wp2_with (first
            | (go_at_call 101; (with_reducible refine (iClonePcl_x xs _ _ _ _ (HRe.out.of zq0) (by omega)).mono ?_); rintro e w' ⟨p5, q5, B5, rfl, ⟨t5, rfl⟩, hr5, hb5⟩; have X5 := hid hr5; have Y5 := hid hb5; clear hr5 hb5) | (refine wp_appX (cells := SlV.cells) (k := 1) (bytes := 24) (z := .slice none 0 0) Try.underlying35 (by kernel_rfl) rfl (by decide) (by decide) (fun _ => rfl) slv_one _ _ rfl rfl (HG1.out.of zq0) ⟨p5, xs.length, q5⟩ rfl (alloc_last zq2) hlen ?_; intro v2 w2 R2 hr2 hc2 hR2; obtain ⟨sa, sc, e2⟩ := hr2.slice; rw [List.length_append, List.length_singleton] at e2; subst e2; have HSS2 := hid (rowss_snoc HG1.out HG2.out.1 HG2.out.2.1 HG2.out.2.2 HG6.out HG7.out zq0 (X5.out.of zq0) (fun b hb => Nat.le_trans zq2 (Y5.out b hb)) hsz hr2 hc2 hR2); have hcR2 := hc2.mono (B' := [R]) (fun b hb => by rw [HRl.out b hb]; simp); have HC2 := hid hcR2; have l2 : T < w2.heap.size := Nat.lt_of_lt_of_le zq2 hcR2.size; have q2 : w2.cell? ⟨T, 3, none⟩ = some v := (hcR2.cell zq2 (by simp [hTR]) 3).trans (by simp [go_sem, cT3, lT, dT]); have b2 : w2.heap[T]? = some (.cells #[.int .i64 c.cell, .slice pa4 c.wk.length pc4, .int .i64 c.ground, v, .slice pa9 c.next.length pc9, .slice pa12 c.ins.length pc12] 37 (0, 0)) := (hcR2.block T zq2 (by simp [hTR])).trans (by repeat (first | with_reducible exact HTb.out | with_reducible apply blk_drew | with_reducible refine blk_set ?_ | (with_reducible refine blk_other ?_ (by first | assumption | omega)) | with_reducible refine blk_ext ?_ | with_reducible refine blk_alloc ?_)); have z2 : w2.frozen? ⟨T, 3, none⟩ = false := (Chg.frozen hcR2 zq2 (by simp [hTR]) 3).trans (by simp [go_sem, zT, lT, dZ]); have B2 := hid b2; clear hr2 hc2 b2 hcR2 hR2)
            | (
              with_reducible refine wp_region_NR (R) (by kernel_rfl) (by decide +kernel) (by decide +kernel) rfl rfl ?_
              simp only [List.dropLast_cons_cons, List.dropLast_singleton]
              repeat (first
                | (refine mix_pure rfl ?_; (first | go_big_quiet_skip | (go_big_quiet_want; go_big_quiet_op; go_big_quiet_on)); refine wpQuiet_nil ?_)
                | (refine mix_skip (by rfl) ?_; (try simp only [Act.put, List.setIfInBounds_toArray, List.set_cons_zero, List.set_cons_succ]))
                | (refine mix_mk rfl (by rfl) (fun K hK => ?_); (first | (refine wp_appX (cells := SlV.cells) (k := 1) (bytes := 24) (z := .slice none 0 0) Try.underlying35 (by kernel_rfl) rfl (by decide) (by decide) (fun _ => rfl) slv_one _ _ rfl rfl (HG1.out.of zq0) ⟨p5, xs.length, q5⟩ rfl (alloc_last zq2) hlen ?_; intro v2 w2 R2 hr2 hc2 hR2; obtain ⟨sa, sc, e2⟩ := hr2.slice; rw [List.length_append, List.length_singleton] at e2; subst e2; have HSS2 := hid (rowss_snoc HG1.out HG2.out.1 HG2.out.2.1 HG2.out.2.2 HG6.out HG7.out zq0 (X5.out.of zq0) (fun b hb => Nat.le_trans zq2 (Y5.out b hb)) hsz hr2 hc2 hR2); have hcR2 := hc2.mono (B' := [R]) (fun b hb => by rw [HRl.out b hb]; simp); have HC2 := hid hcR2; have l2 : T < w2.heap.size := Nat.lt_of_lt_of_le zq2 hcR2.size; have q2 : w2.cell? ⟨T, 3, none⟩ = some v := (hcR2.cell zq2 (by simp [hTR]) 3).trans (by simp [go_sem, cT3, lT, dT]); have b2 : w2.heap[T]? = some (.cells #[.int .i64 c.cell, .slice pa4 c.wk.length pc4, .int .i64 c.ground, v, .slice pa9 c.next.length pc9, .slice pa12 c.ins.length pc12] 37 (0, 0)) := (hcR2.block T zq2 (by simp [hTR])).trans (by repeat (first | with_reducible exact HTb.out | with_reducible apply blk_drew | with_reducible refine blk_set ?_ | (with_reducible refine blk_other ?_ (by first | assumption | omega)) | with_reducible refine blk_ext ?_ | with_reducible refine blk_alloc ?_)); have z2 : w2.frozen? ⟨T, 3, none⟩ = false := (Chg.frozen hcR2 zq2 (by simp [hTR]) 3).trans (by simp [go_sem, zT, lT, dZ]); have B2 := hid b2; clear hr2 hc2 b2 hcR2 hR2) | (go_simp; first | (go_at_call 101; (with_reducible refine (iClonePcl_x xs _ _ _ _ (HRe.out.of zq0) (by omega)).mono ?_); rintro e w' ⟨p5, q5, B5, rfl, ⟨t5, rfl⟩, hr5, hb5⟩; have X5 := hid hr5; have Y5 := hid hb5; clear hr5 hb5) | skip)); (show K _ _); refine hK _ _ (extR_of (by repeat (first | with_reducible exact Chg.refl _ _ | with_reducible apply Chg.drew | with_reducible apply Chg.drewl | with_reducible refine Chg.turn (by simp) | with_reducible refine Chg.both ?_ (by simp) | (with_reducible refine Chg.set ?_ (by simp) _) | with_reducible apply Chg.alloc | with_reducible apply Chg.ext | with_reducible refine Chg.trans ?_ (Hid.out (by assumption))))) ?_; clear hK K; (try simp only [Act.put, List.setIfInBounds_toArray, List.set_cons_zero, List.set_cons_succ])))
              refine mixN_nil (fun K hK => ?_)
              go_simp
              (show K _ _)
              refine hK _ _ ?_
              clear hK K
              (try simp only [Act.put, List.setIfInBounds_toArray, List.set_cons_zero, List.set_cons_succ])))
        go_roundw
        case rel =>
          obtain ⟨B', hE', hd'⟩ := HSS2.out
          refine ⟨k + 1, _, B', by omega, by go_num, (by exact blk_set B2.out), ?_, hd', Chg.set (Chg.up (by repeat (first | with_reducible exact HC.out | with_reducible apply Chg.drew | with_reducible apply Chg.alloc | with_reducible apply Chg.ext)) HC2.out (by simp; omega)) (by simp) _⟩
          rw [HEk.out]
          exact hE'.chg ((Chg.refl [T] w2).set (b := T) (by simp) _) (fun b hb hm => by
            obtain rfl : b = T := by simpa using hm
            have := hd' _ hb
            omega)
        case measure => simp [intOf]; omega
      · have hke : k = c.outs.length := by omega
        subst hke
        rw [List.take_length] at HSS
        obtain ⟨p3, q3, e3, hcx, hlo⟩ := cll_four (lo := w.heap.size + 2) HQ4.out HO4.out HQ9.out HO9.out HQ12.out HO12.out HD.out.1 HD.out.2.1 HD.out.2.2 HL.out.1 HL.out.2.1 HL.out.2.2 HT.out.1 HT.out.2.1 HT.out.2.2 HC.out (by omega) HSS.out HBS.out
        subst e3
        have HCX := hid hcx
        have HLO := hid hlo
        clear hcx hlo
        try go_wp2_with (first
            | fail
            | (
              with_reducible refine wp_region_mix (by kernel_rfl) (by decide +kernel) ?_
              repeat (first
                | (refine mix_pure rfl ?_; (first | go_big_quiet_skip | (go_big_quiet_want; go_big_quiet_op; go_big_quiet_on)); refine wpQuiet_nil ?_)
                | (refine mix_skip (by rfl) ?_; (try simp only [Act.put, List.setIfInBounds_toArray, List.set_cons_zero, List.set_cons_succ]))
                | (refine mix_mk rfl (by rfl) (fun K hK => ?_); (first | (go_simp; first | skip)); (show K _ _); refine hK _ _ (show Ext _ _ from zq0) ?_; clear hK K; (try simp only [Act.put, List.setIfInBounds_toArray, List.set_cons_zero, List.set_cons_succ])))
              refine mix_nil ?_)
            | (
              with_reducible refine wp_region_ext (by kernel_rfl) (by kernel_rfl) ?_
              repeat (first | go_big_quiet_skip | (go_big_quiet_want; go_big_quiet_op; first | go_big_quiet_on | (apply Exists.intro; refine ⟨fun _ => ?_, ?_⟩; (fail); (try rw [h1]); (try rw [h2]); (try rw [h3]); (try rw [h4]); (try rw [p1]); (try rw [p2]); (try rw [p3]); (try rw [p4]); (try rw [r1]); (try rw [r2]); (try rw [r3]); (try rw [r4]); (try rw [r5]); (try rw [r6]); (try rw [q3]); (try rw [q4]); (try rw [hp]); (try rw [hq]); go_big_quiet_on)))
              refine wpQuiet_nil ?_
              rintro _ ⟨tq, rfl⟩))
        refine bodyPost_ret (v := .agg #[.int .i64 c.cell, .slice pa4 c.wk.length pc4, .int .i64 c.ground, .slice p3 c.outs.length q3, .slice pa9 c.next.length pc9, .slice pa12 c.ins.length pc12]) (by simp [results, Try.results54, go_sem, cT0, cT1, cT2, cT3, cT4, cT5, cR0, cR1, cR2, cR3, cR4, cR5, lR, lT]) rfl ?_
        refine ⟨⟨pa4, pc4, p3, q3, pa9, pc9, pa12, pc12⟩, _, _, _, _, rfl, Ext.of_below (Below.chg (w0 := w) HBl.out (B := [w.heap.size + 1]) zq1 (by simp)), HCX.out.chg (B' := [w.heap.size + 1]) zq1 (fun b hb => by have := HLO.out b hb; simp; omega), fun b hb => by have := HLO.out b hb; omega⟩
end Go.Proofs.Ytablgohncilmfaa

namespace Go.Proofs.Ytablgohncilmfaa
open Go.RowKit
set_option linter.unusedSimpArgs false
set_option linter.unusedVariables false

theorem made_row {α : Type} {cells : α → List Value} {k : Nat} {T : TypeId} {w w' : World} {v : Value} {xs : List α} (hcl : ∀ x, (cells x).length = k) (hE : Ext w w') (h : w'.ownsRow w.heap.size T k v xs.length (xs.flatMap cells)) : MadeX w T k cells xs (.returned v) w' := by
  obtain ⟨h1, h2⟩ := rowX_of hcl h
  obtain ⟨a, c, rfl⟩ := h1.slice
  exact ⟨a, c, _, rfl, hE, h1, h2⟩
end Go.Proofs.Ytablgohncilmfaa

namespace Go.Proofs.Ytablgohncilmfaa
open Go.RowKit
set_option linter.unusedSimpArgs false
set_option linter.unusedVariables false

set_option maxRecDepth 100000 in
set_option maxHeartbeats 4000000 in
theorem sSide_c (m : Mp) (c : Cll) (h : CllH) (s : Int) (k : Nat) (hs : s = (k : Int)) (hk : k < 2) (l3 : c.outs.length = 2) (l4 : c.next.length = 2) (l5 : c.ins.length = 2) (w : World) (hx : ReC w c h) (hb : BdC c) :
    Calls Try.prog 85 #[.agg #[.int .i64 m.c, .int .i64 m.w], .agg #[.int .i64 c.cell, .slice h.a1 c.wk.length h.c1, .int .i64 c.ground, .slice h.a3 c.outs.length h.c3, .slice h.a4 c.next.length h.c4, .slice h.a5 c.ins.length h.c5], .int .i64 s] w fun e w' => e = .returned (.bool (sideAt m c k)) ∧ Ext w w' := by
  subst hs
  have H3 := hid hx.r3
  have H4 := hid hx.r4
  have H5 := hid hx.r5
  have BO := hid hb.bo
  have B3 := hb.b3
  have B4 := hb.b4
  have B5 := hb.b5
  clear hx hb
  obtain ⟨a1, c1, a3, c3, a4, c4, a5, c5⟩ := h
  dsimp only at H3 H4 H5 ⊢
  have lt3 : k < c.outs.length := by omega
  have lt4 : k < c.next.length := by omega
  have lt5 : k < c.ins.length := by omega
  have HL3 := hid l3
  have HL4 := hid l4
  have HL5 := hid l5
  clear l3 l4 l5
  obtain ⟨xs, b3, o3, xa, xc, hx3, rfl, hb3, f3, hr3⟩ := at_SS H3.out lt3
  obtain ⟨nx, b4, o4, hx4, rfl, hb4, f4⟩ := at_Int H4.out lt4
  obtain ⟨ix, b5, o5, hx5, rfl, hb5, f5⟩ := at_Int H5.out lt5
  have HSE := hid (sideAt_eq (m := m) hx3 hx4 hx5)
  have hxb : xs.length ≤ 1048576 := BO.out xs (List.mem_of_getElem? hx3)
  have HR3 := hid hr3
  have hb3' : b3 ≤ w.heap.size := Nat.le_of_lt hb3
  have hb4' : b4 ≤ w.heap.size := Nat.le_of_lt hb4
  have hb5' : b5 ≤ w.heap.size := Nat.le_of_lt hb5
  clear hx3 hx4 hx5 hr3
  cases p1 : pclListOk m xs nx with
  | false =>
    have E := hid (show sideAt m c k = false by rw [HSE.out]; simp only [sideOk, p1, Bool.false_and])
    go_enter Try.func85, Try.ntmps85
    try go_wp2_with (first
        | (go_at_call 46; refine (sPlcSide_c _ _ _ _).mono ?_; rintro e w' ⟨rfl, t, rfl⟩) | (go_at_call 118; refine (sPclListOk_c _ _ _ _ _ _ _ (Re.of (Hid.out (by assumption)) zq0) (by omega)).mono ?_; rintro e w' ⟨rfl, t, rfl⟩) | (go_at_call 82; refine (l1In_c _ _ _ _).mono ?_; rintro e w' ⟨rfl, rfl⟩)
        | (
          with_reducible refine wp_region_mix (by kernel_rfl) (by decide +kernel) ?_
          repeat (first
            | (refine mix_pure rfl ?_; (first | go_big_quiet_skip | (go_big_quiet_want; go_big_quiet_op; go_big_quiet_on)); refine wpQuiet_nil ?_)
            | (refine mix_skip (by rfl) ?_; (try simp only [Act.put, List.setIfInBounds_toArray, List.set_cons_zero, List.set_cons_succ]))
            | (refine mix_mk rfl (by rfl) (fun K hK => ?_); (first | (go_simp; first | (go_at_call 46; refine (sPlcSide_c _ _ _ _).mono ?_; rintro e w' ⟨rfl, t, rfl⟩) | (go_at_call 118; refine (sPclListOk_c _ _ _ _ _ _ _ (Re.of (Hid.out (by assumption)) zq0) (by omega)).mono ?_; rintro e w' ⟨rfl, t, rfl⟩) | (go_at_call 82; refine (l1In_c _ _ _ _).mono ?_; rintro e w' ⟨rfl, rfl⟩) | skip)); (show K _ _); refine hK _ _ (show Ext _ _ from zq0) ?_; clear hK K; (try simp only [Act.put, List.setIfInBounds_toArray, List.set_cons_zero, List.set_cons_succ])))
          refine mix_nil ?_)
        | (
          with_reducible refine wp_region_ext (by kernel_rfl) (by kernel_rfl) ?_
          repeat (first | go_big_quiet_skip | (go_big_quiet_want; go_big_quiet_op; first | go_big_quiet_on | (apply Exists.intro; refine ⟨fun _ => ?_, ?_⟩; ((first | (go_at_call 46; first | exact quiet_call (sPlcSide_c _ _ _ _) | exact quiet_call2 (sPlcSide_c _ _ _ _)) | (go_at_call 118; first | exact quiet_call (sPclListOk_c _ _ _ _ _ _ _ (Re.of (Hid.out (by assumption)) zq0) (by omega)) | exact quiet_call2 (sPclListOk_c _ _ _ _ _ _ _ (Re.of (Hid.out (by assumption)) zq0) (by omega))) | (go_at_call 82; first | exact quiet_same (l1In_c _ _ _ _) | exact quiet_same2 (l1In_c _ _ _ _)))); (try rw [h1]); (try rw [h2]); (try rw [h3]); (try rw [h4]); (try rw [p1]); (try rw [p2]); (try rw [p3]); (try rw [p4]); (try rw [r1]); (try rw [r2]); (try rw [r3]); (try rw [r4]); (try rw [r5]); (try rw [r6]); (try rw [q3]); (try rw [q4]); (try rw [hp]); (try rw [hq]); go_big_quiet_on)))
          refine wpQuiet_nil ?_
          rintro _ ⟨tq, rfl⟩))
    go_ret
    exact ⟨ret_bool (by rw [E.out]), zq0⟩
  | true =>
    cases p2 : inB ix 0 5000 with
    | false =>
      have E := hid (show sideAt m c k = false by rw [HSE.out]; simp only [sideOk, p2, Bool.false_and, Bool.and_false])
      go_enter Try.func85, Try.ntmps85
      try go_wp2_with (first
          | (go_at_call 46; refine (sPlcSide_c _ _ _ _).mono ?_; rintro e w' ⟨rfl, t, rfl⟩) | (go_at_call 118; refine (sPclListOk_c _ _ _ _ _ _ _ (Re.of (Hid.out (by assumption)) zq0) (by omega)).mono ?_; rintro e w' ⟨rfl, t, rfl⟩) | (go_at_call 82; refine (l1In_c _ _ _ _).mono ?_; rintro e w' ⟨rfl, rfl⟩)
          | (
            with_reducible refine wp_region_mix (by kernel_rfl) (by decide +kernel) ?_
            repeat (first
              | (refine mix_pure rfl ?_; (first | go_big_quiet_skip | (go_big_quiet_want; go_big_quiet_op; go_big_quiet_on)); refine wpQuiet_nil ?_)
              | (refine mix_skip (by rfl) ?_; (try simp only [Act.put, List.setIfInBounds_toArray, List.set_cons_zero, List.set_cons_succ]))
              | (refine mix_mk rfl (by rfl) (fun K hK => ?_); (first | (go_simp; first | (go_at_call 46; refine (sPlcSide_c _ _ _ _).mono ?_; rintro e w' ⟨rfl, t, rfl⟩) | (go_at_call 118; refine (sPclListOk_c _ _ _ _ _ _ _ (Re.of (Hid.out (by assumption)) zq0) (by omega)).mono ?_; rintro e w' ⟨rfl, t, rfl⟩) | (go_at_call 82; refine (l1In_c _ _ _ _).mono ?_; rintro e w' ⟨rfl, rfl⟩) | skip)); (show K _ _); refine hK _ _ (show Ext _ _ from zq0) ?_; clear hK K; (try simp only [Act.put, List.setIfInBounds_toArray, List.set_cons_zero, List.set_cons_succ])))
            refine mix_nil ?_)
          | (
            with_reducible refine wp_region_ext (by kernel_rfl) (by kernel_rfl) ?_
            repeat (first | go_big_quiet_skip | (go_big_quiet_want; go_big_quiet_op; first | go_big_quiet_on | (apply Exists.intro; refine ⟨fun _ => ?_, ?_⟩; ((first | (go_at_call 46; first | exact quiet_call (sPlcSide_c _ _ _ _) | exact quiet_call2 (sPlcSide_c _ _ _ _)) | (go_at_call 118; first | exact quiet_call (sPclListOk_c _ _ _ _ _ _ _ (Re.of (Hid.out (by assumption)) zq0) (by omega)) | exact quiet_call2 (sPclListOk_c _ _ _ _ _ _ _ (Re.of (Hid.out (by assumption)) zq0) (by omega))) | (go_at_call 82; first | exact quiet_same (l1In_c _ _ _ _) | exact quiet_same2 (l1In_c _ _ _ _)))); (try rw [h1]); (try rw [h2]); (try rw [h3]); (try rw [h4]); (try rw [p1]); (try rw [p2]); (try rw [p3]); (try rw [p4]); (try rw [r1]); (try rw [r2]); (try rw [r3]); (try rw [r4]); (try rw [r5]); (try rw [r6]); (try rw [q3]); (try rw [q4]); (try rw [hp]); (try rw [hq]); go_big_quiet_on)))
            refine wpQuiet_nil ?_
            rintro _ ⟨tq, rfl⟩))
      go_ret
      exact ⟨ret_bool (by rw [E.out]), zq0⟩
    | true =>
      cases p3 : (plcSide m c.cell (k : Int) == -1) with
      | true =>
        have P3 := hid (show plcSide m c.cell (k : Int) = -1 by simpa using p3)
        cases p4 : (nx == 0) with
        | false =>
          have E := hid (show sideAt m c k = false by rw [HSE.out]; simp only [sideOk, P3.out, p4, if_true, Bool.false_and, Bool.and_false])
          go_enter Try.func85, Try.ntmps85
          try go_wp2_with (first
              | (go_at_call 46; refine (sPlcSide_c _ _ _ _).mono ?_; rintro e w' ⟨rfl, t, rfl⟩) | (go_at_call 118; refine (sPclListOk_c _ _ _ _ _ _ _ (Re.of (Hid.out (by assumption)) zq0) (by omega)).mono ?_; rintro e w' ⟨rfl, t, rfl⟩) | (go_at_call 82; refine (l1In_c _ _ _ _).mono ?_; rintro e w' ⟨rfl, rfl⟩)
              | (
                with_reducible refine wp_region_mix (by kernel_rfl) (by decide +kernel) ?_
                repeat (first
                  | (refine mix_pure rfl ?_; (first | go_big_quiet_skip | (go_big_quiet_want; go_big_quiet_op; go_big_quiet_on)); refine wpQuiet_nil ?_)
                  | (refine mix_skip (by rfl) ?_; (try simp only [Act.put, List.setIfInBounds_toArray, List.set_cons_zero, List.set_cons_succ]))
                  | (refine mix_mk rfl (by rfl) (fun K hK => ?_); (first | (go_simp; first | (go_at_call 46; refine (sPlcSide_c _ _ _ _).mono ?_; rintro e w' ⟨rfl, t, rfl⟩) | (go_at_call 118; refine (sPclListOk_c _ _ _ _ _ _ _ (Re.of (Hid.out (by assumption)) zq0) (by omega)).mono ?_; rintro e w' ⟨rfl, t, rfl⟩) | (go_at_call 82; refine (l1In_c _ _ _ _).mono ?_; rintro e w' ⟨rfl, rfl⟩) | skip)); (show K _ _); refine hK _ _ (show Ext _ _ from zq0) ?_; clear hK K; (try simp only [Act.put, List.setIfInBounds_toArray, List.set_cons_zero, List.set_cons_succ])))
                refine mix_nil ?_)
              | (
                with_reducible refine wp_region_ext (by kernel_rfl) (by kernel_rfl) ?_
                repeat (first | go_big_quiet_skip | (go_big_quiet_want; go_big_quiet_op; first | go_big_quiet_on | (apply Exists.intro; refine ⟨fun _ => ?_, ?_⟩; ((first | (go_at_call 46; first | exact quiet_call (sPlcSide_c _ _ _ _) | exact quiet_call2 (sPlcSide_c _ _ _ _)) | (go_at_call 118; first | exact quiet_call (sPclListOk_c _ _ _ _ _ _ _ (Re.of (Hid.out (by assumption)) zq0) (by omega)) | exact quiet_call2 (sPclListOk_c _ _ _ _ _ _ _ (Re.of (Hid.out (by assumption)) zq0) (by omega))) | (go_at_call 82; first | exact quiet_same (l1In_c _ _ _ _) | exact quiet_same2 (l1In_c _ _ _ _)))); (try rw [h1]); (try rw [h2]); (try rw [h3]); (try rw [h4]); (try rw [p1]); (try rw [p2]); (try rw [p3]); (try rw [p4]); (try rw [r1]); (try rw [r2]); (try rw [r3]); (try rw [r4]); (try rw [r5]); (try rw [r6]); (try rw [q3]); (try rw [q4]); (try rw [hp]); (try rw [hq]); go_big_quiet_on)))
                refine wpQuiet_nil ?_
                rintro _ ⟨tq, rfl⟩))
          go_ret
          exact ⟨ret_bool (by rw [E.out]), zq0⟩
        | true =>
          cases p5 : (ix == 0) with
          | false =>
            have E := hid (show sideAt m c k = false by rw [HSE.out]; simp only [sideOk, P3.out, p5, if_true, Bool.false_and, Bool.and_false])
            go_enter Try.func85, Try.ntmps85
            try go_wp2_with (first
                | (go_at_call 46; refine (sPlcSide_c _ _ _ _).mono ?_; rintro e w' ⟨rfl, t, rfl⟩) | (go_at_call 118; refine (sPclListOk_c _ _ _ _ _ _ _ (Re.of (Hid.out (by assumption)) zq0) (by omega)).mono ?_; rintro e w' ⟨rfl, t, rfl⟩) | (go_at_call 82; refine (l1In_c _ _ _ _).mono ?_; rintro e w' ⟨rfl, rfl⟩)
                | (
                  with_reducible refine wp_region_mix (by kernel_rfl) (by decide +kernel) ?_
                  repeat (first
                    | (refine mix_pure rfl ?_; (first | go_big_quiet_skip | (go_big_quiet_want; go_big_quiet_op; go_big_quiet_on)); refine wpQuiet_nil ?_)
                    | (refine mix_skip (by rfl) ?_; (try simp only [Act.put, List.setIfInBounds_toArray, List.set_cons_zero, List.set_cons_succ]))
                    | (refine mix_mk rfl (by rfl) (fun K hK => ?_); (first | (go_simp; first | (go_at_call 46; refine (sPlcSide_c _ _ _ _).mono ?_; rintro e w' ⟨rfl, t, rfl⟩) | (go_at_call 118; refine (sPclListOk_c _ _ _ _ _ _ _ (Re.of (Hid.out (by assumption)) zq0) (by omega)).mono ?_; rintro e w' ⟨rfl, t, rfl⟩) | (go_at_call 82; refine (l1In_c _ _ _ _).mono ?_; rintro e w' ⟨rfl, rfl⟩) | skip)); (show K _ _); refine hK _ _ (show Ext _ _ from zq0) ?_; clear hK K; (try simp only [Act.put, List.setIfInBounds_toArray, List.set_cons_zero, List.set_cons_succ])))
                  refine mix_nil ?_)
                | (
                  with_reducible refine wp_region_ext (by kernel_rfl) (by kernel_rfl) ?_
                  repeat (first | go_big_quiet_skip | (go_big_quiet_want; go_big_quiet_op; first | go_big_quiet_on | (apply Exists.intro; refine ⟨fun _ => ?_, ?_⟩; ((first | (go_at_call 46; first | exact quiet_call (sPlcSide_c _ _ _ _) | exact quiet_call2 (sPlcSide_c _ _ _ _)) | (go_at_call 118; first | exact quiet_call (sPclListOk_c _ _ _ _ _ _ _ (Re.of (Hid.out (by assumption)) zq0) (by omega)) | exact quiet_call2 (sPclListOk_c _ _ _ _ _ _ _ (Re.of (Hid.out (by assumption)) zq0) (by omega))) | (go_at_call 82; first | exact quiet_same (l1In_c _ _ _ _) | exact quiet_same2 (l1In_c _ _ _ _)))); (try rw [h1]); (try rw [h2]); (try rw [h3]); (try rw [h4]); (try rw [p1]); (try rw [p2]); (try rw [p3]); (try rw [p4]); (try rw [r1]); (try rw [r2]); (try rw [r3]); (try rw [r4]); (try rw [r5]); (try rw [r6]); (try rw [q3]); (try rw [q4]); (try rw [hp]); (try rw [hq]); go_big_quiet_on)))
                  refine wpQuiet_nil ?_
                  rintro _ ⟨tq, rfl⟩))
            go_ret
            exact ⟨ret_bool (by rw [E.out]), zq0⟩
          | true =>
            have E := hid (show sideAt m c k = true by rw [HSE.out]; simp only [sideOk, p1, p2, P3.out, p4, p5, if_true, Bool.and_self])
            go_enter Try.func85, Try.ntmps85
            try go_wp2_with (first
                | (go_at_call 46; refine (sPlcSide_c _ _ _ _).mono ?_; rintro e w' ⟨rfl, t, rfl⟩) | (go_at_call 118; refine (sPclListOk_c _ _ _ _ _ _ _ (Re.of (Hid.out (by assumption)) zq0) (by omega)).mono ?_; rintro e w' ⟨rfl, t, rfl⟩) | (go_at_call 82; refine (l1In_c _ _ _ _).mono ?_; rintro e w' ⟨rfl, rfl⟩)
                | (
                  with_reducible refine wp_region_mix (by kernel_rfl) (by decide +kernel) ?_
                  repeat (first
                    | (refine mix_pure rfl ?_; (first | go_big_quiet_skip | (go_big_quiet_want; go_big_quiet_op; go_big_quiet_on)); refine wpQuiet_nil ?_)
                    | (refine mix_skip (by rfl) ?_; (try simp only [Act.put, List.setIfInBounds_toArray, List.set_cons_zero, List.set_cons_succ]))
                    | (refine mix_mk rfl (by rfl) (fun K hK => ?_); (first | (go_simp; first | (go_at_call 46; refine (sPlcSide_c _ _ _ _).mono ?_; rintro e w' ⟨rfl, t, rfl⟩) | (go_at_call 118; refine (sPclListOk_c _ _ _ _ _ _ _ (Re.of (Hid.out (by assumption)) zq0) (by omega)).mono ?_; rintro e w' ⟨rfl, t, rfl⟩) | (go_at_call 82; refine (l1In_c _ _ _ _).mono ?_; rintro e w' ⟨rfl, rfl⟩) | skip)); (show K _ _); refine hK _ _ (show Ext _ _ from zq0) ?_; clear hK K; (try simp only [Act.put, List.setIfInBounds_toArray, List.set_cons_zero, List.set_cons_succ])))
                  refine mix_nil ?_)
                | (
                  with_reducible refine wp_region_ext (by kernel_rfl) (by kernel_rfl) ?_
                  repeat (first | go_big_quiet_skip | (go_big_quiet_want; go_big_quiet_op; first | go_big_quiet_on | (apply Exists.intro; refine ⟨fun _ => ?_, ?_⟩; ((first | (go_at_call 46; first | exact quiet_call (sPlcSide_c _ _ _ _) | exact quiet_call2 (sPlcSide_c _ _ _ _)) | (go_at_call 118; first | exact quiet_call (sPclListOk_c _ _ _ _ _ _ _ (Re.of (Hid.out (by assumption)) zq0) (by omega)) | exact quiet_call2 (sPclListOk_c _ _ _ _ _ _ _ (Re.of (Hid.out (by assumption)) zq0) (by omega))) | (go_at_call 82; first | exact quiet_same (l1In_c _ _ _ _) | exact quiet_same2 (l1In_c _ _ _ _)))); (try rw [h1]); (try rw [h2]); (try rw [h3]); (try rw [h4]); (try rw [p1]); (try rw [p2]); (try rw [p3]); (try rw [p4]); (try rw [r1]); (try rw [r2]); (try rw [r3]); (try rw [r4]); (try rw [r5]); (try rw [r6]); (try rw [q3]); (try rw [q4]); (try rw [hp]); (try rw [hq]); go_big_quiet_on)))
                  refine wpQuiet_nil ?_
                  rintro _ ⟨tq, rfl⟩))
            go_ret
            exact ⟨ret_bool (by rw [E.out]), zq0⟩
      | false =>
        have P3 := hid (show ¬ plcSide m c.cell (k : Int) = -1 by simpa using p3)
        go_enter Try.func85, Try.ntmps85
        try go_wp2_with (first
            | (go_at_call 46; refine (sPlcSide_c _ _ _ _).mono ?_; rintro e w' ⟨rfl, t, rfl⟩) | (go_at_call 118; refine (sPclListOk_c _ _ _ _ _ _ _ (Re.of (Hid.out (by assumption)) zq0) (by omega)).mono ?_; rintro e w' ⟨rfl, t, rfl⟩) | (go_at_call 82; refine (l1In_c _ _ _ _).mono ?_; rintro e w' ⟨rfl, rfl⟩)
            | (
              with_reducible refine wp_region_mix (by kernel_rfl) (by decide +kernel) ?_
              repeat (first
                | (refine mix_pure rfl ?_; (first | go_big_quiet_skip | (go_big_quiet_want; go_big_quiet_op; go_big_quiet_on)); refine wpQuiet_nil ?_)
                | (refine mix_skip (by rfl) ?_; (try simp only [Act.put, List.setIfInBounds_toArray, List.set_cons_zero, List.set_cons_succ]))
                | (refine mix_mk rfl (by rfl) (fun K hK => ?_); (first | (go_simp; first | (go_at_call 46; refine (sPlcSide_c _ _ _ _).mono ?_; rintro e w' ⟨rfl, t, rfl⟩) | (go_at_call 118; refine (sPclListOk_c _ _ _ _ _ _ _ (Re.of (Hid.out (by assumption)) zq0) (by omega)).mono ?_; rintro e w' ⟨rfl, t, rfl⟩) | (go_at_call 82; refine (l1In_c _ _ _ _).mono ?_; rintro e w' ⟨rfl, rfl⟩) | skip)); (show K _ _); refine hK _ _ (show Ext _ _ from zq0) ?_; clear hK K; (try simp only [Act.put, List.setIfInBounds_toArray, List.set_cons_zero, List.set_cons_succ])))
              refine mix_nil ?_)
            | (
              with_reducible refine wp_region_ext (by kernel_rfl) (by kernel_rfl) ?_
              repeat (first | go_big_quiet_skip | (go_big_quiet_want; go_big_quiet_op; first | go_big_quiet_on | (apply Exists.intro; refine ⟨fun _ => ?_, ?_⟩; ((first | (go_at_call 46; first | exact quiet_call (sPlcSide_c _ _ _ _) | exact quiet_call2 (sPlcSide_c _ _ _ _)) | (go_at_call 118; first | exact quiet_call (sPclListOk_c _ _ _ _ _ _ _ (Re.of (Hid.out (by assumption)) zq0) (by omega)) | exact quiet_call2 (sPclListOk_c _ _ _ _ _ _ _ (Re.of (Hid.out (by assumption)) zq0) (by omega))) | (go_at_call 82; first | exact quiet_same (l1In_c _ _ _ _) | exact quiet_same2 (l1In_c _ _ _ _)))); (try rw [h1]); (try rw [h2]); (try rw [h3]); (try rw [h4]); (try rw [p1]); (try rw [p2]); (try rw [p3]); (try rw [p4]); (try rw [r1]); (try rw [r2]); (try rw [r3]); (try rw [r4]); (try rw [r5]); (try rw [r6]); (try rw [q3]); (try rw [q4]); (try rw [hp]); (try rw [hq]); go_big_quiet_on)))
              refine wpQuiet_nil ?_
              rintro _ ⟨tq, rfl⟩))
        go_loopw [8] (fun i wr => ∃ j : Nat, j ≤ xs.length ∧ i = .int .i64 j ∧ allI (goesTo m (plcSide m c.cell (k : Int))) 0 (xs.take j) = true ∧ Ext ((w.alloc (Obj.cells #[.int .i64 m.c, .int .i64 m.w] 40)).alloc (Obj.cells #[.int .i64 c.cell, .slice a1 c.wk.length c1, .int .i64 c.ground, .slice (some ⟨b3, o3, none⟩) c.outs.length c3, .slice (some ⟨b4, o4, none⟩) c.next.length c4, .slice (some ⟨b5, o5, none⟩) c.ins.length c5] 37)) wr) (fun i _ => xs.length - (intOf i).toNat)
        case atStart => exact ⟨0, Nat.zero_le _, rfl, rfl, zq0⟩
        case round =>
          obtain ⟨j, hj, rfl, hal, t3, rfl⟩ := hrel
          have HA := hid hal
          clear hal
          by_cases hlt3 : j < xs.length
          · obtain ⟨x, b, o, hxk, rfl, hb, g0, g1, g2, g3, g4, g5, g6, g7⟩ := at_Pcl HR3.out hlt3
            have HK := hid hxk
            have hb1 : b ≤ w.heap.size := Nat.le_of_lt hb
            clear hxk
            cases q1 : (x.kind == 1) with
            | false =>
              have HB := hid (allI_step (p := goesTo m (plcSide m c.cell (k : Int))) HK.out HA.out (by simp [goesTo, q1]))
              try go_wp2_with (first
                  | (go_at_call 84; refine (sPlcCell_c _ _ _).mono ?_; rintro e w' ⟨rfl, t, rfl⟩)
                  | (
                    with_reducible refine wp_region_mix (by kernel_rfl) (by decide +kernel) ?_
                    repeat (first
                      | (refine mix_pure rfl ?_; (first | go_big_quiet_skip | (go_big_quiet_want; go_big_quiet_op; go_big_quiet_on)); refine wpQuiet_nil ?_)
                      | (refine mix_skip (by rfl) ?_; (try simp only [Act.put, List.setIfInBounds_toArray, List.set_cons_zero, List.set_cons_succ]))
                      | (refine mix_mk rfl (by rfl) (fun K hK => ?_); (first | (go_simp; first | (go_at_call 84; refine (sPlcCell_c _ _ _).mono ?_; rintro e w' ⟨rfl, t, rfl⟩) | skip)); (show K _ _); refine hK _ _ (show Ext _ _ from zq0) ?_; clear hK K; (try simp only [Act.put, List.setIfInBounds_toArray, List.set_cons_zero, List.set_cons_succ])))
                    refine mix_nil ?_)
                  | (
                    with_reducible refine wp_region_ext (by kernel_rfl) (by kernel_rfl) ?_
                    repeat (first | go_big_quiet_skip | (go_big_quiet_want; go_big_quiet_op; first | go_big_quiet_on | (apply Exists.intro; refine ⟨fun _ => ?_, ?_⟩; ((first | (go_at_call 84; first | exact quiet_call (sPlcCell_c _ _ _) | exact quiet_call2 (sPlcCell_c _ _ _)))); (try rw [h1]); (try rw [h2]); (try rw [h3]); (try rw [h4]); (try rw [p1]); (try rw [p2]); (try rw [p3]); (try rw [p4]); (try rw [r1]); (try rw [r2]); (try rw [r3]); (try rw [r4]); (try rw [r5]); (try rw [r6]); (try rw [q3]); (try rw [q4]); (try rw [hp]); (try rw [hq]); go_big_quiet_on)))
                    refine wpQuiet_nil ?_
                    rintro _ ⟨tq, rfl⟩))
              go_roundw
              case rel => exact ⟨j + 1, by omega, by go_num, HB.out, zq0⟩
              case measure => simp [intOf]; omega
            | true =>
              cases q2 : (plcCell m x.wk.at_ != plcSide m c.cell (k : Int)) with
              | true =>
                have E := hid (show sideAt m c k = false by
                  have h9 := allI_fail (p := goesTo m (plcSide m c.cell (k : Int))) HK.out (by simp only [bne, Bool.not_eq_true'] at q2; simp only [goesTo, q1, q2, Bool.not_true, Bool.or_self])
                  rw [HSE.out]
                  simp only [sideOk, h9, P3.out, if_false, Bool.and_false])
                try go_wp2_with (first
                    | (go_at_call 84; refine (sPlcCell_c _ _ _).mono ?_; rintro e w' ⟨rfl, t, rfl⟩)
                    | (
                      with_reducible refine wp_region_mix (by kernel_rfl) (by decide +kernel) ?_
                      repeat (first
                        | (refine mix_pure rfl ?_; (first | go_big_quiet_skip | (go_big_quiet_want; go_big_quiet_op; go_big_quiet_on)); refine wpQuiet_nil ?_)
                        | (refine mix_skip (by rfl) ?_; (try simp only [Act.put, List.setIfInBounds_toArray, List.set_cons_zero, List.set_cons_succ]))
                        | (refine mix_mk rfl (by rfl) (fun K hK => ?_); (first | (go_simp; first | (go_at_call 84; refine (sPlcCell_c _ _ _).mono ?_; rintro e w' ⟨rfl, t, rfl⟩) | skip)); (show K _ _); refine hK _ _ (show Ext _ _ from zq0) ?_; clear hK K; (try simp only [Act.put, List.setIfInBounds_toArray, List.set_cons_zero, List.set_cons_succ])))
                      refine mix_nil ?_)
                    | (
                      with_reducible refine wp_region_ext (by kernel_rfl) (by kernel_rfl) ?_
                      repeat (first | go_big_quiet_skip | (go_big_quiet_want; go_big_quiet_op; first | go_big_quiet_on | (apply Exists.intro; refine ⟨fun _ => ?_, ?_⟩; ((first | (go_at_call 84; first | exact quiet_call (sPlcCell_c _ _ _) | exact quiet_call2 (sPlcCell_c _ _ _)))); (try rw [h1]); (try rw [h2]); (try rw [h3]); (try rw [h4]); (try rw [p1]); (try rw [p2]); (try rw [p3]); (try rw [p4]); (try rw [r1]); (try rw [r2]); (try rw [r3]); (try rw [r4]); (try rw [r5]); (try rw [r6]); (try rw [q3]); (try rw [q4]); (try rw [hp]); (try rw [hq]); go_big_quiet_on)))
                      refine wpQuiet_nil ?_
                      rintro _ ⟨tq, rfl⟩))
                go_ret
                exact ⟨ret_bool (by rw [E.out]), zq0⟩
              | false =>
                have HB := hid (allI_step (p := goesTo m (plcSide m c.cell (k : Int))) HK.out HA.out (by simp only [bne, Bool.not_eq_false'] at q2; simp only [goesTo, q1, q2, Bool.or_true]))
                try go_wp2_with (first
                    | (go_at_call 84; refine (sPlcCell_c _ _ _).mono ?_; rintro e w' ⟨rfl, t, rfl⟩)
                    | (
                      with_reducible refine wp_region_mix (by kernel_rfl) (by decide +kernel) ?_
                      repeat (first
                        | (refine mix_pure rfl ?_; (first | go_big_quiet_skip | (go_big_quiet_want; go_big_quiet_op; go_big_quiet_on)); refine wpQuiet_nil ?_)
                        | (refine mix_skip (by rfl) ?_; (try simp only [Act.put, List.setIfInBounds_toArray, List.set_cons_zero, List.set_cons_succ]))
                        | (refine mix_mk rfl (by rfl) (fun K hK => ?_); (first | (go_simp; first | (go_at_call 84; refine (sPlcCell_c _ _ _).mono ?_; rintro e w' ⟨rfl, t, rfl⟩) | skip)); (show K _ _); refine hK _ _ (show Ext _ _ from zq0) ?_; clear hK K; (try simp only [Act.put, List.setIfInBounds_toArray, List.set_cons_zero, List.set_cons_succ])))
                      refine mix_nil ?_)
                    | (
                      with_reducible refine wp_region_ext (by kernel_rfl) (by kernel_rfl) ?_
                      repeat (first | go_big_quiet_skip | (go_big_quiet_want; go_big_quiet_op; first | go_big_quiet_on | (apply Exists.intro; refine ⟨fun _ => ?_, ?_⟩; ((first | (go_at_call 84; first | exact quiet_call (sPlcCell_c _ _ _) | exact quiet_call2 (sPlcCell_c _ _ _)))); (try rw [h1]); (try rw [h2]); (try rw [h3]); (try rw [h4]); (try rw [p1]); (try rw [p2]); (try rw [p3]); (try rw [p4]); (try rw [r1]); (try rw [r2]); (try rw [r3]); (try rw [r4]); (try rw [r5]); (try rw [r6]); (try rw [q3]); (try rw [q4]); (try rw [hp]); (try rw [hq]); go_big_quiet_on)))
                      refine wpQuiet_nil ?_
                      rintro _ ⟨tq, rfl⟩))
                go_roundw
                case rel => exact ⟨j + 1, by omega, by go_num, HB.out, zq0⟩
                case measure => simp [intOf]; omega
          · have HALL := hid (allI_all (p := goesTo m (plcSide m c.cell (k : Int))) (xs := xs) (k := j) (by omega) HA.out)
            have E := hid (show sideAt m c k = true by rw [HSE.out]; simp only [sideOk, p1, p2, P3.out, HALL.out, if_false, Bool.and_self])
            try go_wp2_with (first
                | fail
                | (
                  with_reducible refine wp_region_mix (by kernel_rfl) (by decide +kernel) ?_
                  repeat (first
                    | (refine mix_pure rfl ?_; (first | go_big_quiet_skip | (go_big_quiet_want; go_big_quiet_op; go_big_quiet_on)); refine wpQuiet_nil ?_)
                    | (refine mix_skip (by rfl) ?_; (try simp only [Act.put, List.setIfInBounds_toArray, List.set_cons_zero, List.set_cons_succ]))
                    | (refine mix_mk rfl (by rfl) (fun K hK => ?_); (first | (go_simp; first | skip)); (show K _ _); refine hK _ _ (show Ext _ _ from zq0) ?_; clear hK K; (try simp only [Act.put, List.setIfInBounds_toArray, List.set_cons_zero, List.set_cons_succ])))
                  refine mix_nil ?_)
                | (
                  with_reducible refine wp_region_ext (by kernel_rfl) (by kernel_rfl) ?_
                  repeat (first | go_big_quiet_skip | (go_big_quiet_want; go_big_quiet_op; first | go_big_quiet_on | (apply Exists.intro; refine ⟨fun _ => ?_, ?_⟩; (fail); (try rw [h1]); (try rw [h2]); (try rw [h3]); (try rw [h4]); (try rw [p1]); (try rw [p2]); (try rw [p3]); (try rw [p4]); (try rw [r1]); (try rw [r2]); (try rw [r3]); (try rw [r4]); (try rw [r5]); (try rw [r6]); (try rw [q3]); (try rw [q4]); (try rw [hp]); (try rw [hq]); go_big_quiet_on)))
                  refine wpQuiet_nil ?_
                  rintro _ ⟨tq, rfl⟩))
            go_ret
            exact ⟨ret_bool (by rw [E.out]), zq0⟩

set_option maxRecDepth 100000 in
set_option maxHeartbeats 4000000 in
theorem sCllOk_c (m : Mp) (c : Cll) (h : CllH) (w : World) (hx : ReC w c h) (hb : BdC c) :
    Calls Try.prog 33 #[.agg #[.int .i64 m.c, .int .i64 m.w], .agg #[.int .i64 c.cell, .slice h.a1 c.wk.length h.c1, .int .i64 c.ground, .slice h.a3 c.outs.length h.c3, .slice h.a4 c.next.length h.c4, .slice h.a5 c.ins.length h.c5]] w fun e w' => e = .returned (.bool (cllOk m c)) ∧ Ext w w' := by
  have HX := hid hx
  have H1 := hid hx.r1
  have B1 := hb.b1
  have B3 := hb.b3
  have B4 := hb.b4
  have B5 := hb.b5
  have HBD := hid hb
  clear hx hb
  obtain ⟨a1, c1, a3, c3, a4, c4, a5, c5⟩ := h
  dsimp only at H1 ⊢
  cases r1 : plcOk m with
  | false =>
    have hfail : cllHead m c = false := by simp [cllHead, r1]
    have E := hid (cllOk_fail_head (m := m) (c := c) hfail)
    clear hfail
    go_enter Try.func33, Try.ntmps33
    try go_wp2_with (first
        | (go_at_call 81; refine (sPlcOk_c _ _).mono ?_; rintro e w' ⟨rfl, t, rfl⟩) | (go_at_call 82; refine (l1In_c _ _ _ _).mono ?_; rintro e w' ⟨rfl, rfl⟩) | (go_at_call 83; refine (sWlkListOk_c _ _ _ _ _ _ (Re.of (Hid.out (by assumption)) zq0) (by omega)).mono ?_; rintro e w' ⟨rfl, t, rfl⟩)
        | (
          with_reducible refine wp_region_mix (by kernel_rfl) (by decide +kernel) ?_
          repeat (first
            | (refine mix_pure rfl ?_; (first | go_big_quiet_skip | (go_big_quiet_want; go_big_quiet_op; go_big_quiet_on)); refine wpQuiet_nil ?_)
            | (refine mix_skip (by rfl) ?_; (try simp only [Act.put, List.setIfInBounds_toArray, List.set_cons_zero, List.set_cons_succ]))
            | (refine mix_mk rfl (by rfl) (fun K hK => ?_); (first | (go_simp; first | (go_at_call 81; refine (sPlcOk_c _ _).mono ?_; rintro e w' ⟨rfl, t, rfl⟩) | (go_at_call 82; refine (l1In_c _ _ _ _).mono ?_; rintro e w' ⟨rfl, rfl⟩) | (go_at_call 83; refine (sWlkListOk_c _ _ _ _ _ _ (Re.of (Hid.out (by assumption)) zq0) (by omega)).mono ?_; rintro e w' ⟨rfl, t, rfl⟩) | skip)); (show K _ _); refine hK _ _ (show Ext _ _ from zq0) ?_; clear hK K; (try simp only [Act.put, List.setIfInBounds_toArray, List.set_cons_zero, List.set_cons_succ])))
          refine mix_nil ?_)
        | (
          with_reducible refine wp_region_ext (by kernel_rfl) (by kernel_rfl) ?_
          repeat (first | go_big_quiet_skip | (go_big_quiet_want; go_big_quiet_op; first | go_big_quiet_on | (apply Exists.intro; refine ⟨fun _ => ?_, ?_⟩; ((first | (go_at_call 81; first | exact quiet_call (sPlcOk_c _ _) | exact quiet_call2 (sPlcOk_c _ _)) | (go_at_call 82; first | exact quiet_same (l1In_c _ _ _ _) | exact quiet_same2 (l1In_c _ _ _ _)) | (go_at_call 83; first | exact quiet_call (sWlkListOk_c _ _ _ _ _ _ (Re.of (Hid.out (by assumption)) zq0) (by omega)) | exact quiet_call2 (sWlkListOk_c _ _ _ _ _ _ (Re.of (Hid.out (by assumption)) zq0) (by omega))))); (try rw [h1]); (try rw [h2]); (try rw [h3]); (try rw [h4]); (try rw [p1]); (try rw [p2]); (try rw [p3]); (try rw [p4]); (try rw [r1]); (try rw [r2]); (try rw [r3]); (try rw [r4]); (try rw [r5]); (try rw [r6]); (try rw [q3]); (try rw [q4]); (try rw [hp]); (try rw [hq]); go_big_quiet_on)))
          refine wpQuiet_nil ?_
          rintro _ ⟨tq, rfl⟩))
    go_ret
    exact ⟨ret_bool (by rw [E.out]), zq0⟩
  | true =>
    have mc0 : 2 ≤ m.c := (plcOk_iff.1 r1).1.1
    have mc1 : m.c ≤ 4 := (plcOk_iff.1 r1).1.2
    cases r2 : inB c.cell 0 (m.c - 1) with
    | false =>
      have hfail : cllHead m c = false := by simp [cllHead, r2]
      have E := hid (cllOk_fail_head (m := m) (c := c) hfail)
      clear hfail
      go_enter Try.func33, Try.ntmps33
      try go_wp2_with (first
          | (go_at_call 81; refine (sPlcOk_c _ _).mono ?_; rintro e w' ⟨rfl, t, rfl⟩) | (go_at_call 82; refine (l1In_c _ _ _ _).mono ?_; rintro e w' ⟨rfl, rfl⟩) | (go_at_call 83; refine (sWlkListOk_c _ _ _ _ _ _ (Re.of (Hid.out (by assumption)) zq0) (by omega)).mono ?_; rintro e w' ⟨rfl, t, rfl⟩)
          | (
            with_reducible refine wp_region_mix (by kernel_rfl) (by decide +kernel) ?_
            repeat (first
              | (refine mix_pure rfl ?_; (first | go_big_quiet_skip | (go_big_quiet_want; go_big_quiet_op; go_big_quiet_on)); refine wpQuiet_nil ?_)
              | (refine mix_skip (by rfl) ?_; (try simp only [Act.put, List.setIfInBounds_toArray, List.set_cons_zero, List.set_cons_succ]))
              | (refine mix_mk rfl (by rfl) (fun K hK => ?_); (first | (go_simp; first | (go_at_call 81; refine (sPlcOk_c _ _).mono ?_; rintro e w' ⟨rfl, t, rfl⟩) | (go_at_call 82; refine (l1In_c _ _ _ _).mono ?_; rintro e w' ⟨rfl, rfl⟩) | (go_at_call 83; refine (sWlkListOk_c _ _ _ _ _ _ (Re.of (Hid.out (by assumption)) zq0) (by omega)).mono ?_; rintro e w' ⟨rfl, t, rfl⟩) | skip)); (show K _ _); refine hK _ _ (show Ext _ _ from zq0) ?_; clear hK K; (try simp only [Act.put, List.setIfInBounds_toArray, List.set_cons_zero, List.set_cons_succ])))
            refine mix_nil ?_)
          | (
            with_reducible refine wp_region_ext (by kernel_rfl) (by kernel_rfl) ?_
            repeat (first | go_big_quiet_skip | (go_big_quiet_want; go_big_quiet_op; first | go_big_quiet_on | (apply Exists.intro; refine ⟨fun _ => ?_, ?_⟩; ((first | (go_at_call 81; first | exact quiet_call (sPlcOk_c _ _) | exact quiet_call2 (sPlcOk_c _ _)) | (go_at_call 82; first | exact quiet_same (l1In_c _ _ _ _) | exact quiet_same2 (l1In_c _ _ _ _)) | (go_at_call 83; first | exact quiet_call (sWlkListOk_c _ _ _ _ _ _ (Re.of (Hid.out (by assumption)) zq0) (by omega)) | exact quiet_call2 (sWlkListOk_c _ _ _ _ _ _ (Re.of (Hid.out (by assumption)) zq0) (by omega))))); (try rw [h1]); (try rw [h2]); (try rw [h3]); (try rw [h4]); (try rw [p1]); (try rw [p2]); (try rw [p3]); (try rw [p4]); (try rw [r1]); (try rw [r2]); (try rw [r3]); (try rw [r4]); (try rw [r5]); (try rw [r6]); (try rw [q3]); (try rw [q4]); (try rw [hp]); (try rw [hq]); go_big_quiet_on)))
            refine wpQuiet_nil ?_
            rintro _ ⟨tq, rfl⟩))
      go_ret
      exact ⟨ret_bool (by rw [E.out]), zq0⟩
    | true =>
      cases r0 : wlkAll m c.wk with
      | false =>
        have hfail : cllHead m c = false := by simp [cllHead, r0]
        have E := hid (cllOk_fail_head (m := m) (c := c) hfail)
        clear hfail
        go_enter Try.func33, Try.ntmps33
        try go_wp2_with (first
            | (go_at_call 81; refine (sPlcOk_c _ _).mono ?_; rintro e w' ⟨rfl, t, rfl⟩) | (go_at_call 82; refine (l1In_c _ _ _ _).mono ?_; rintro e w' ⟨rfl, rfl⟩) | (go_at_call 83; refine (sWlkListOk_c _ _ _ _ _ _ (Re.of (Hid.out (by assumption)) zq0) (by omega)).mono ?_; rintro e w' ⟨rfl, t, rfl⟩)
            | (
              with_reducible refine wp_region_mix (by kernel_rfl) (by decide +kernel) ?_
              repeat (first
                | (refine mix_pure rfl ?_; (first | go_big_quiet_skip | (go_big_quiet_want; go_big_quiet_op; go_big_quiet_on)); refine wpQuiet_nil ?_)
                | (refine mix_skip (by rfl) ?_; (try simp only [Act.put, List.setIfInBounds_toArray, List.set_cons_zero, List.set_cons_succ]))
                | (refine mix_mk rfl (by rfl) (fun K hK => ?_); (first | (go_simp; first | (go_at_call 81; refine (sPlcOk_c _ _).mono ?_; rintro e w' ⟨rfl, t, rfl⟩) | (go_at_call 82; refine (l1In_c _ _ _ _).mono ?_; rintro e w' ⟨rfl, rfl⟩) | (go_at_call 83; refine (sWlkListOk_c _ _ _ _ _ _ (Re.of (Hid.out (by assumption)) zq0) (by omega)).mono ?_; rintro e w' ⟨rfl, t, rfl⟩) | skip)); (show K _ _); refine hK _ _ (show Ext _ _ from zq0) ?_; clear hK K; (try simp only [Act.put, List.setIfInBounds_toArray, List.set_cons_zero, List.set_cons_succ])))
              refine mix_nil ?_)
            | (
              with_reducible refine wp_region_ext (by kernel_rfl) (by kernel_rfl) ?_
              repeat (first | go_big_quiet_skip | (go_big_quiet_want; go_big_quiet_op; first | go_big_quiet_on | (apply Exists.intro; refine ⟨fun _ => ?_, ?_⟩; ((first | (go_at_call 81; first | exact quiet_call (sPlcOk_c _ _) | exact quiet_call2 (sPlcOk_c _ _)) | (go_at_call 82; first | exact quiet_same (l1In_c _ _ _ _) | exact quiet_same2 (l1In_c _ _ _ _)) | (go_at_call 83; first | exact quiet_call (sWlkListOk_c _ _ _ _ _ _ (Re.of (Hid.out (by assumption)) zq0) (by omega)) | exact quiet_call2 (sWlkListOk_c _ _ _ _ _ _ (Re.of (Hid.out (by assumption)) zq0) (by omega))))); (try rw [h1]); (try rw [h2]); (try rw [h3]); (try rw [h4]); (try rw [p1]); (try rw [p2]); (try rw [p3]); (try rw [p4]); (try rw [r1]); (try rw [r2]); (try rw [r3]); (try rw [r4]); (try rw [r5]); (try rw [r6]); (try rw [q3]); (try rw [q4]); (try rw [hp]); (try rw [hq]); go_big_quiet_on)))
              refine wpQuiet_nil ?_
              rintro _ ⟨tq, rfl⟩))
        go_ret
        exact ⟨ret_bool (by rw [E.out]), zq0⟩
      | true =>
        cases r3 : inB c.ground 0 900 with
        | false =>
          have hfail : cllHead m c = false := by simp [cllHead, r3]
          have E := hid (cllOk_fail_head (m := m) (c := c) hfail)
          clear hfail
          go_enter Try.func33, Try.ntmps33
          try go_wp2_with (first
              | (go_at_call 81; refine (sPlcOk_c _ _).mono ?_; rintro e w' ⟨rfl, t, rfl⟩) | (go_at_call 82; refine (l1In_c _ _ _ _).mono ?_; rintro e w' ⟨rfl, rfl⟩) | (go_at_call 83; refine (sWlkListOk_c _ _ _ _ _ _ (Re.of (Hid.out (by assumption)) zq0) (by omega)).mono ?_; rintro e w' ⟨rfl, t, rfl⟩)
              | (
                with_reducible refine wp_region_mix (by kernel_rfl) (by decide +kernel) ?_
                repeat (first
                  | (refine mix_pure rfl ?_; (first | go_big_quiet_skip | (go_big_quiet_want; go_big_quiet_op; go_big_quiet_on)); refine wpQuiet_nil ?_)
                  | (refine mix_skip (by rfl) ?_; (try simp only [Act.put, List.setIfInBounds_toArray, List.set_cons_zero, List.set_cons_succ]))
                  | (refine mix_mk rfl (by rfl) (fun K hK => ?_); (first | (go_simp; first | (go_at_call 81; refine (sPlcOk_c _ _).mono ?_; rintro e w' ⟨rfl, t, rfl⟩) | (go_at_call 82; refine (l1In_c _ _ _ _).mono ?_; rintro e w' ⟨rfl, rfl⟩) | (go_at_call 83; refine (sWlkListOk_c _ _ _ _ _ _ (Re.of (Hid.out (by assumption)) zq0) (by omega)).mono ?_; rintro e w' ⟨rfl, t, rfl⟩) | skip)); (show K _ _); refine hK _ _ (show Ext _ _ from zq0) ?_; clear hK K; (try simp only [Act.put, List.setIfInBounds_toArray, List.set_cons_zero, List.set_cons_succ])))
                refine mix_nil ?_)
              | (
                with_reducible refine wp_region_ext (by kernel_rfl) (by kernel_rfl) ?_
                repeat (first | go_big_quiet_skip | (go_big_quiet_want; go_big_quiet_op; first | go_big_quiet_on | (apply Exists.intro; refine ⟨fun _ => ?_, ?_⟩; ((first | (go_at_call 81; first | exact quiet_call (sPlcOk_c _ _) | exact quiet_call2 (sPlcOk_c _ _)) | (go_at_call 82; first | exact quiet_same (l1In_c _ _ _ _) | exact quiet_same2 (l1In_c _ _ _ _)) | (go_at_call 83; first | exact quiet_call (sWlkListOk_c _ _ _ _ _ _ (Re.of (Hid.out (by assumption)) zq0) (by omega)) | exact quiet_call2 (sWlkListOk_c _ _ _ _ _ _ (Re.of (Hid.out (by assumption)) zq0) (by omega))))); (try rw [h1]); (try rw [h2]); (try rw [h3]); (try rw [h4]); (try rw [p1]); (try rw [p2]); (try rw [p3]); (try rw [p4]); (try rw [r1]); (try rw [r2]); (try rw [r3]); (try rw [r4]); (try rw [r5]); (try rw [r6]); (try rw [q3]); (try rw [q4]); (try rw [hp]); (try rw [hq]); go_big_quiet_on)))
                refine wpQuiet_nil ?_
                rintro _ ⟨tq, rfl⟩))
          go_ret
          exact ⟨ret_bool (by rw [E.out]), zq0⟩
        | true =>
          cases l3 : ((c.outs.length : Int) != 2) with
          | true =>
            have hfail : cllHead m c = false := by simp only [bne, Bool.not_eq_true'] at l3; simp only [cllHead, l3, Bool.and_false, Bool.false_and]
            have E := hid (cllOk_fail_head (m := m) (c := c) hfail)
            clear hfail
            go_enter Try.func33, Try.ntmps33
            try go_wp2_with (first
                | (go_at_call 81; refine (sPlcOk_c _ _).mono ?_; rintro e w' ⟨rfl, t, rfl⟩) | (go_at_call 82; refine (l1In_c _ _ _ _).mono ?_; rintro e w' ⟨rfl, rfl⟩) | (go_at_call 83; refine (sWlkListOk_c _ _ _ _ _ _ (Re.of (Hid.out (by assumption)) zq0) (by omega)).mono ?_; rintro e w' ⟨rfl, t, rfl⟩)
                | (
                  with_reducible refine wp_region_mix (by kernel_rfl) (by decide +kernel) ?_
                  repeat (first
                    | (refine mix_pure rfl ?_; (first | go_big_quiet_skip | (go_big_quiet_want; go_big_quiet_op; go_big_quiet_on)); refine wpQuiet_nil ?_)
                    | (refine mix_skip (by rfl) ?_; (try simp only [Act.put, List.setIfInBounds_toArray, List.set_cons_zero, List.set_cons_succ]))
                    | (refine mix_mk rfl (by rfl) (fun K hK => ?_); (first | (go_simp; first | (go_at_call 81; refine (sPlcOk_c _ _).mono ?_; rintro e w' ⟨rfl, t, rfl⟩) | (go_at_call 82; refine (l1In_c _ _ _ _).mono ?_; rintro e w' ⟨rfl, rfl⟩) | (go_at_call 83; refine (sWlkListOk_c _ _ _ _ _ _ (Re.of (Hid.out (by assumption)) zq0) (by omega)).mono ?_; rintro e w' ⟨rfl, t, rfl⟩) | skip)); (show K _ _); refine hK _ _ (show Ext _ _ from zq0) ?_; clear hK K; (try simp only [Act.put, List.setIfInBounds_toArray, List.set_cons_zero, List.set_cons_succ])))
                  refine mix_nil ?_)
                | (
                  with_reducible refine wp_region_ext (by kernel_rfl) (by kernel_rfl) ?_
                  repeat (first | go_big_quiet_skip | (go_big_quiet_want; go_big_quiet_op; first | go_big_quiet_on | (apply Exists.intro; refine ⟨fun _ => ?_, ?_⟩; ((first | (go_at_call 81; first | exact quiet_call (sPlcOk_c _ _) | exact quiet_call2 (sPlcOk_c _ _)) | (go_at_call 82; first | exact quiet_same (l1In_c _ _ _ _) | exact quiet_same2 (l1In_c _ _ _ _)) | (go_at_call 83; first | exact quiet_call (sWlkListOk_c _ _ _ _ _ _ (Re.of (Hid.out (by assumption)) zq0) (by omega)) | exact quiet_call2 (sWlkListOk_c _ _ _ _ _ _ (Re.of (Hid.out (by assumption)) zq0) (by omega))))); (try rw [h1]); (try rw [h2]); (try rw [h3]); (try rw [h4]); (try rw [p1]); (try rw [p2]); (try rw [p3]); (try rw [p4]); (try rw [r1]); (try rw [r2]); (try rw [r3]); (try rw [r4]); (try rw [r5]); (try rw [r6]); (try rw [q3]); (try rw [q4]); (try rw [hp]); (try rw [hq]); go_big_quiet_on)))
                  refine wpQuiet_nil ?_
                  rintro _ ⟨tq, rfl⟩))
            go_ret
            exact ⟨ret_bool (by rw [E.out]), zq0⟩
          | false =>
            cases l4 : ((c.next.length : Int) != 2) with
            | true =>
              have hfail : cllHead m c = false := by simp only [bne, Bool.not_eq_true'] at l4; simp only [cllHead, l4, Bool.and_false, Bool.false_and]
              have E := hid (cllOk_fail_head (m := m) (c := c) hfail)
              clear hfail
              go_enter Try.func33, Try.ntmps33
              try go_wp2_with (first
                  | (go_at_call 81; refine (sPlcOk_c _ _).mono ?_; rintro e w' ⟨rfl, t, rfl⟩) | (go_at_call 82; refine (l1In_c _ _ _ _).mono ?_; rintro e w' ⟨rfl, rfl⟩) | (go_at_call 83; refine (sWlkListOk_c _ _ _ _ _ _ (Re.of (Hid.out (by assumption)) zq0) (by omega)).mono ?_; rintro e w' ⟨rfl, t, rfl⟩)
                  | (
                    with_reducible refine wp_region_mix (by kernel_rfl) (by decide +kernel) ?_
                    repeat (first
                      | (refine mix_pure rfl ?_; (first | go_big_quiet_skip | (go_big_quiet_want; go_big_quiet_op; go_big_quiet_on)); refine wpQuiet_nil ?_)
                      | (refine mix_skip (by rfl) ?_; (try simp only [Act.put, List.setIfInBounds_toArray, List.set_cons_zero, List.set_cons_succ]))
                      | (refine mix_mk rfl (by rfl) (fun K hK => ?_); (first | (go_simp; first | (go_at_call 81; refine (sPlcOk_c _ _).mono ?_; rintro e w' ⟨rfl, t, rfl⟩) | (go_at_call 82; refine (l1In_c _ _ _ _).mono ?_; rintro e w' ⟨rfl, rfl⟩) | (go_at_call 83; refine (sWlkListOk_c _ _ _ _ _ _ (Re.of (Hid.out (by assumption)) zq0) (by omega)).mono ?_; rintro e w' ⟨rfl, t, rfl⟩) | skip)); (show K _ _); refine hK _ _ (show Ext _ _ from zq0) ?_; clear hK K; (try simp only [Act.put, List.setIfInBounds_toArray, List.set_cons_zero, List.set_cons_succ])))
                    refine mix_nil ?_)
                  | (
                    with_reducible refine wp_region_ext (by kernel_rfl) (by kernel_rfl) ?_
                    repeat (first | go_big_quiet_skip | (go_big_quiet_want; go_big_quiet_op; first | go_big_quiet_on | (apply Exists.intro; refine ⟨fun _ => ?_, ?_⟩; ((first | (go_at_call 81; first | exact quiet_call (sPlcOk_c _ _) | exact quiet_call2 (sPlcOk_c _ _)) | (go_at_call 82; first | exact quiet_same (l1In_c _ _ _ _) | exact quiet_same2 (l1In_c _ _ _ _)) | (go_at_call 83; first | exact quiet_call (sWlkListOk_c _ _ _ _ _ _ (Re.of (Hid.out (by assumption)) zq0) (by omega)) | exact quiet_call2 (sWlkListOk_c _ _ _ _ _ _ (Re.of (Hid.out (by assumption)) zq0) (by omega))))); (try rw [h1]); (try rw [h2]); (try rw [h3]); (try rw [h4]); (try rw [p1]); (try rw [p2]); (try rw [p3]); (try rw [p4]); (try rw [r1]); (try rw [r2]); (try rw [r3]); (try rw [r4]); (try rw [r5]); (try rw [r6]); (try rw [q3]); (try rw [q4]); (try rw [hp]); (try rw [hq]); go_big_quiet_on)))
                    refine wpQuiet_nil ?_
                    rintro _ ⟨tq, rfl⟩))
              go_ret
              exact ⟨ret_bool (by rw [E.out]), zq0⟩
            | false =>
              cases l5 : ((c.ins.length : Int) != 2) with
              | true =>
                have hfail : cllHead m c = false := by simp only [bne, Bool.not_eq_true'] at l5; simp only [cllHead, l5, Bool.and_false, Bool.false_and]
                have E := hid (cllOk_fail_head (m := m) (c := c) hfail)
                clear hfail
                go_enter Try.func33, Try.ntmps33
                try go_wp2_with (first
                    | (go_at_call 81; refine (sPlcOk_c _ _).mono ?_; rintro e w' ⟨rfl, t, rfl⟩) | (go_at_call 82; refine (l1In_c _ _ _ _).mono ?_; rintro e w' ⟨rfl, rfl⟩) | (go_at_call 83; refine (sWlkListOk_c _ _ _ _ _ _ (Re.of (Hid.out (by assumption)) zq0) (by omega)).mono ?_; rintro e w' ⟨rfl, t, rfl⟩)
                    | (
                      with_reducible refine wp_region_mix (by kernel_rfl) (by decide +kernel) ?_
                      repeat (first
                        | (refine mix_pure rfl ?_; (first | go_big_quiet_skip | (go_big_quiet_want; go_big_quiet_op; go_big_quiet_on)); refine wpQuiet_nil ?_)
                        | (refine mix_skip (by rfl) ?_; (try simp only [Act.put, List.setIfInBounds_toArray, List.set_cons_zero, List.set_cons_succ]))
                        | (refine mix_mk rfl (by rfl) (fun K hK => ?_); (first | (go_simp; first | (go_at_call 81; refine (sPlcOk_c _ _).mono ?_; rintro e w' ⟨rfl, t, rfl⟩) | (go_at_call 82; refine (l1In_c _ _ _ _).mono ?_; rintro e w' ⟨rfl, rfl⟩) | (go_at_call 83; refine (sWlkListOk_c _ _ _ _ _ _ (Re.of (Hid.out (by assumption)) zq0) (by omega)).mono ?_; rintro e w' ⟨rfl, t, rfl⟩) | skip)); (show K _ _); refine hK _ _ (show Ext _ _ from zq0) ?_; clear hK K; (try simp only [Act.put, List.setIfInBounds_toArray, List.set_cons_zero, List.set_cons_succ])))
                      refine mix_nil ?_)
                    | (
                      with_reducible refine wp_region_ext (by kernel_rfl) (by kernel_rfl) ?_
                      repeat (first | go_big_quiet_skip | (go_big_quiet_want; go_big_quiet_op; first | go_big_quiet_on | (apply Exists.intro; refine ⟨fun _ => ?_, ?_⟩; ((first | (go_at_call 81; first | exact quiet_call (sPlcOk_c _ _) | exact quiet_call2 (sPlcOk_c _ _)) | (go_at_call 82; first | exact quiet_same (l1In_c _ _ _ _) | exact quiet_same2 (l1In_c _ _ _ _)) | (go_at_call 83; first | exact quiet_call (sWlkListOk_c _ _ _ _ _ _ (Re.of (Hid.out (by assumption)) zq0) (by omega)) | exact quiet_call2 (sWlkListOk_c _ _ _ _ _ _ (Re.of (Hid.out (by assumption)) zq0) (by omega))))); (try rw [h1]); (try rw [h2]); (try rw [h3]); (try rw [h4]); (try rw [p1]); (try rw [p2]); (try rw [p3]); (try rw [p4]); (try rw [r1]); (try rw [r2]); (try rw [r3]); (try rw [r4]); (try rw [r5]); (try rw [r6]); (try rw [q3]); (try rw [q4]); (try rw [hp]); (try rw [hq]); go_big_quiet_on)))
                      refine wpQuiet_nil ?_
                      rintro _ ⟨tq, rfl⟩))
                go_ret
                exact ⟨ret_bool (by rw [E.out]), zq0⟩
              | false =>
                have hl3 : c.outs.length = 2 := by have : (c.outs.length : Int) = 2 := by simpa [bne] using l3
                                                   omega
                have hl4 : c.next.length = 2 := by have : (c.next.length : Int) = 2 := by simpa [bne] using l4
                                                   omega
                have hl5 : c.ins.length = 2 := by have : (c.ins.length : Int) = 2 := by simpa [bne] using l5
                                                  omega
                have HHD := hid (show cllHead m c = true from cllHead_iff.2 ⟨r1, r2, r0, r3, by omega, by omega, by omega⟩)
                have HL3 := hid hl3
                have HL4 := hid hl4
                have HL5 := hid hl5
                clear hl3 hl4 hl5
                go_enter Try.func33, Try.ntmps33
                try go_wp2_with (first
                    | (go_at_call 81; refine (sPlcOk_c _ _).mono ?_; rintro e w' ⟨rfl, t, rfl⟩) | (go_at_call 82; refine (l1In_c _ _ _ _).mono ?_; rintro e w' ⟨rfl, rfl⟩) | (go_at_call 83; refine (sWlkListOk_c _ _ _ _ _ _ (Re.of (Hid.out (by assumption)) zq0) (by omega)).mono ?_; rintro e w' ⟨rfl, t, rfl⟩)
                    | (
                      with_reducible refine wp_region_mix (by kernel_rfl) (by decide +kernel) ?_
                      repeat (first
                        | (refine mix_pure rfl ?_; (first | go_big_quiet_skip | (go_big_quiet_want; go_big_quiet_op; go_big_quiet_on)); refine wpQuiet_nil ?_)
                        | (refine mix_skip (by rfl) ?_; (try simp only [Act.put, List.setIfInBounds_toArray, List.set_cons_zero, List.set_cons_succ]))
                        | (refine mix_mk rfl (by rfl) (fun K hK => ?_); (first | (go_simp; first | (go_at_call 81; refine (sPlcOk_c _ _).mono ?_; rintro e w' ⟨rfl, t, rfl⟩) | (go_at_call 82; refine (l1In_c _ _ _ _).mono ?_; rintro e w' ⟨rfl, rfl⟩) | (go_at_call 83; refine (sWlkListOk_c _ _ _ _ _ _ (Re.of (Hid.out (by assumption)) zq0) (by omega)).mono ?_; rintro e w' ⟨rfl, t, rfl⟩) | skip)); (show K _ _); refine hK _ _ (show Ext _ _ from zq0) ?_; clear hK K; (try simp only [Act.put, List.setIfInBounds_toArray, List.set_cons_zero, List.set_cons_succ])))
                      refine mix_nil ?_)
                    | (
                      with_reducible refine wp_region_ext (by kernel_rfl) (by kernel_rfl) ?_
                      repeat (first | go_big_quiet_skip | (go_big_quiet_want; go_big_quiet_op; first | go_big_quiet_on | (apply Exists.intro; refine ⟨fun _ => ?_, ?_⟩; ((first | (go_at_call 81; first | exact quiet_call (sPlcOk_c _ _) | exact quiet_call2 (sPlcOk_c _ _)) | (go_at_call 82; first | exact quiet_same (l1In_c _ _ _ _) | exact quiet_same2 (l1In_c _ _ _ _)) | (go_at_call 83; first | exact quiet_call (sWlkListOk_c _ _ _ _ _ _ (Re.of (Hid.out (by assumption)) zq0) (by omega)) | exact quiet_call2 (sWlkListOk_c _ _ _ _ _ _ (Re.of (Hid.out (by assumption)) zq0) (by omega))))); (try rw [h1]); (try rw [h2]); (try rw [h3]); (try rw [h4]); (try rw [p1]); (try rw [p2]); (try rw [p3]); (try rw [p4]); (try rw [r1]); (try rw [r2]); (try rw [r3]); (try rw [r4]); (try rw [r5]); (try rw [r6]); (try rw [q3]); (try rw [q4]); (try rw [hp]); (try rw [hq]); go_big_quiet_on)))
                      refine wpQuiet_nil ?_
                      rintro _ ⟨tq, rfl⟩))
                go_loopw [5] (fun i wr => ∃ k : Nat, k ≤ c.wk.length ∧ i = .int .i64 k ∧ allI (inCell m c.cell) 0 (c.wk.take k) = true ∧ Ext ((w.alloc (Obj.cells #[.int .i64 m.c, .int .i64 m.w] 40)).alloc (Obj.cells #[.int .i64 c.cell, .slice a1 c.wk.length c1, .int .i64 c.ground, .slice a3 c.outs.length c3, .slice a4 c.next.length c4, .slice a5 c.ins.length c5] 37)) wr) (fun i _ => c.wk.length - (intOf i).toNat)
                case atStart => exact ⟨0, Nat.zero_le _, rfl, rfl, zq0⟩
                case round =>
                  obtain ⟨k, hk, rfl, hal, t', rfl⟩ := hrel
                  have HA := hid hal
                  clear hal
                  by_cases hlt : k < c.wk.length
                  · obtain ⟨x, b, o, hxk, rfl, hb, f0, f1, f2, f3, f4⟩ := at_Wlk H1.out hlt
                    have HK := hid hxk
                    have hb1 : b ≤ w.heap.size := Nat.le_of_lt hb
                    clear hxk
                    cases h1 : (plcCell m x.at_ != c.cell) with
                    | true =>
                      have E := hid (cllOk_fail_wk (m := m) (c := c) (allI_fail (p := inCell m c.cell) HK.out (by simpa [inCell] using h1)))
                      try go_wp2_with (first
                          | (go_at_call 84; refine (sPlcCell_c _ _ _).mono ?_; rintro e w' ⟨rfl, t, rfl⟩)
                          | (
                            with_reducible refine wp_region_mix (by kernel_rfl) (by decide +kernel) ?_
                            repeat (first
                              | (refine mix_pure rfl ?_; (first | go_big_quiet_skip | (go_big_quiet_want; go_big_quiet_op; go_big_quiet_on)); refine wpQuiet_nil ?_)
                              | (refine mix_skip (by rfl) ?_; (try simp only [Act.put, List.setIfInBounds_toArray, List.set_cons_zero, List.set_cons_succ]))
                              | (refine mix_mk rfl (by rfl) (fun K hK => ?_); (first | (go_simp; first | (go_at_call 84; refine (sPlcCell_c _ _ _).mono ?_; rintro e w' ⟨rfl, t, rfl⟩) | skip)); (show K _ _); refine hK _ _ (show Ext _ _ from zq0) ?_; clear hK K; (try simp only [Act.put, List.setIfInBounds_toArray, List.set_cons_zero, List.set_cons_succ])))
                            refine mix_nil ?_)
                          | (
                            with_reducible refine wp_region_ext (by kernel_rfl) (by kernel_rfl) ?_
                            repeat (first | go_big_quiet_skip | (go_big_quiet_want; go_big_quiet_op; first | go_big_quiet_on | (apply Exists.intro; refine ⟨fun _ => ?_, ?_⟩; ((first | (go_at_call 84; first | exact quiet_call (sPlcCell_c _ _ _) | exact quiet_call2 (sPlcCell_c _ _ _)))); (try rw [h1]); (try rw [h2]); (try rw [h3]); (try rw [h4]); (try rw [p1]); (try rw [p2]); (try rw [p3]); (try rw [p4]); (try rw [r1]); (try rw [r2]); (try rw [r3]); (try rw [r4]); (try rw [r5]); (try rw [r6]); (try rw [q3]); (try rw [q4]); (try rw [hp]); (try rw [hq]); go_big_quiet_on)))
                            refine wpQuiet_nil ?_
                            rintro _ ⟨tq, rfl⟩))
                      go_ret
                      exact ⟨ret_bool (by rw [E.out]), zq0⟩
                    | false =>
                      have HB := hid (allI_step (p := inCell m c.cell) HK.out HA.out (by simpa [inCell] using h1))
                      try go_wp2_with (first
                          | (go_at_call 84; refine (sPlcCell_c _ _ _).mono ?_; rintro e w' ⟨rfl, t, rfl⟩)
                          | (
                            with_reducible refine wp_region_mix (by kernel_rfl) (by decide +kernel) ?_
                            repeat (first
                              | (refine mix_pure rfl ?_; (first | go_big_quiet_skip | (go_big_quiet_want; go_big_quiet_op; go_big_quiet_on)); refine wpQuiet_nil ?_)
                              | (refine mix_skip (by rfl) ?_; (try simp only [Act.put, List.setIfInBounds_toArray, List.set_cons_zero, List.set_cons_succ]))
                              | (refine mix_mk rfl (by rfl) (fun K hK => ?_); (first | (go_simp; first | (go_at_call 84; refine (sPlcCell_c _ _ _).mono ?_; rintro e w' ⟨rfl, t, rfl⟩) | skip)); (show K _ _); refine hK _ _ (show Ext _ _ from zq0) ?_; clear hK K; (try simp only [Act.put, List.setIfInBounds_toArray, List.set_cons_zero, List.set_cons_succ])))
                            refine mix_nil ?_)
                          | (
                            with_reducible refine wp_region_ext (by kernel_rfl) (by kernel_rfl) ?_
                            repeat (first | go_big_quiet_skip | (go_big_quiet_want; go_big_quiet_op; first | go_big_quiet_on | (apply Exists.intro; refine ⟨fun _ => ?_, ?_⟩; ((first | (go_at_call 84; first | exact quiet_call (sPlcCell_c _ _ _) | exact quiet_call2 (sPlcCell_c _ _ _)))); (try rw [h1]); (try rw [h2]); (try rw [h3]); (try rw [h4]); (try rw [p1]); (try rw [p2]); (try rw [p3]); (try rw [p4]); (try rw [r1]); (try rw [r2]); (try rw [r3]); (try rw [r4]); (try rw [r5]); (try rw [r6]); (try rw [q3]); (try rw [q4]); (try rw [hp]); (try rw [hq]); go_big_quiet_on)))
                            refine wpQuiet_nil ?_
                            rintro _ ⟨tq, rfl⟩))
                      go_roundw
                      case rel => exact ⟨k + 1, by omega, by go_num, HB.out, zq0⟩
                      case measure => simp [intOf]; omega
                  · have HW := hid (allI_all (p := inCell m c.cell) (xs := c.wk) (k := k) (by omega) HA.out)
                    clear HA
                    cases s0 : sideAt m c 0 with
                    | false =>
                      have E := hid (cllOk_fail_side (m := m) (c := c) (k := 0) (by decide) s0)
                      try go_wp2_with (first
                          | (go_at_call 85; (with_reducible refine (sSide_c m c ⟨a1, c1, a3, c3, a4, c4, a5, c5⟩ 0 0 rfl (by decide) HL3.out HL4.out HL5.out _ (ReC.of HX.out zq0) HBD.out).mono ?_); rintro e w' ⟨rfl, t, rfl⟩)
                          | (
                            with_reducible refine wp_region_mix (by kernel_rfl) (by decide +kernel) ?_
                            repeat (first
                              | (refine mix_pure rfl ?_; (first | go_big_quiet_skip | (go_big_quiet_want; go_big_quiet_op; go_big_quiet_on)); refine wpQuiet_nil ?_)
                              | (refine mix_skip (by rfl) ?_; (try simp only [Act.put, List.setIfInBounds_toArray, List.set_cons_zero, List.set_cons_succ]))
                              | (refine mix_mk rfl (by rfl) (fun K hK => ?_); (first | (go_simp; first | (go_at_call 85; (with_reducible refine (sSide_c m c ⟨a1, c1, a3, c3, a4, c4, a5, c5⟩ 0 0 rfl (by decide) HL3.out HL4.out HL5.out _ (ReC.of HX.out zq0) HBD.out).mono ?_); rintro e w' ⟨rfl, t, rfl⟩) | skip)); (show K _ _); refine hK _ _ (show Ext _ _ from zq0) ?_; clear hK K; (try simp only [Act.put, List.setIfInBounds_toArray, List.set_cons_zero, List.set_cons_succ])))
                            refine mix_nil ?_)
                          | (
                            with_reducible refine wp_region_ext (by kernel_rfl) (by kernel_rfl) ?_
                            repeat (first | go_big_quiet_skip | (go_big_quiet_want; go_big_quiet_op; first | go_big_quiet_on | (apply Exists.intro; refine ⟨fun _ => ?_, ?_⟩; (fail); (try rw [h1]); (try rw [h2]); (try rw [h3]); (try rw [h4]); (try rw [p1]); (try rw [p2]); (try rw [p3]); (try rw [p4]); (try rw [r1]); (try rw [r2]); (try rw [r3]); (try rw [r4]); (try rw [r5]); (try rw [r6]); (try rw [q3]); (try rw [q4]); (try rw [hp]); (try rw [hq]); go_big_quiet_on)))
                            refine wpQuiet_nil ?_
                            rintro _ ⟨tq, rfl⟩))
                      go_ret
                      exact ⟨ret_bool (by rw [E.out]), zq0⟩
                    | true =>
                      have E := hid (show cllOk m c = sideAt m c 1 by simp only [cllOk, HHD.out, HW.out, s0, Bool.true_and])
                      try go_wp2_with (first
                          | (go_at_call 85; (with_reducible refine (sSide_c m c ⟨a1, c1, a3, c3, a4, c4, a5, c5⟩ 0 0 rfl (by decide) HL3.out HL4.out HL5.out _ (ReC.of HX.out zq0) HBD.out).mono ?_); rintro e w' ⟨rfl, t, rfl⟩) | (go_at_call 85; (with_reducible refine (sSide_c m c ⟨a1, c1, a3, c3, a4, c4, a5, c5⟩ 1 1 rfl (by decide) HL3.out HL4.out HL5.out _ (ReC.of HX.out zq0) HBD.out).mono ?_); rintro e w' ⟨rfl, t, rfl⟩)
                          | (
                            with_reducible refine wp_region_mix (by kernel_rfl) (by decide +kernel) ?_
                            repeat (first
                              | (refine mix_pure rfl ?_; (first | go_big_quiet_skip | (go_big_quiet_want; go_big_quiet_op; go_big_quiet_on)); refine wpQuiet_nil ?_)
                              | (refine mix_skip (by rfl) ?_; (try simp only [Act.put, List.setIfInBounds_toArray, List.set_cons_zero, List.set_cons_succ]))
                              | (refine mix_mk rfl (by rfl) (fun K hK => ?_); (first | (go_simp; first | (go_at_call 85; (with_reducible refine (sSide_c m c ⟨a1, c1, a3, c3, a4, c4, a5, c5⟩ 0 0 rfl (by decide) HL3.out HL4.out HL5.out _ (ReC.of HX.out zq0) HBD.out).mono ?_); rintro e w' ⟨rfl, t, rfl⟩) | (go_at_call 85; (with_reducible refine (sSide_c m c ⟨a1, c1, a3, c3, a4, c4, a5, c5⟩ 1 1 rfl (by decide) HL3.out HL4.out HL5.out _ (ReC.of HX.out zq0) HBD.out).mono ?_); rintro e w' ⟨rfl, t, rfl⟩) | skip)); (show K _ _); refine hK _ _ (show Ext _ _ from zq0) ?_; clear hK K; (try simp only [Act.put, List.setIfInBounds_toArray, List.set_cons_zero, List.set_cons_succ])))
                            refine mix_nil ?_)
                          | (
                            with_reducible refine wp_region_ext (by kernel_rfl) (by kernel_rfl) ?_
                            repeat (first | go_big_quiet_skip | (go_big_quiet_want; go_big_quiet_op; first | go_big_quiet_on | (apply Exists.intro; refine ⟨fun _ => ?_, ?_⟩; (fail); (try rw [h1]); (try rw [h2]); (try rw [h3]); (try rw [h4]); (try rw [p1]); (try rw [p2]); (try rw [p3]); (try rw [p4]); (try rw [r1]); (try rw [r2]); (try rw [r3]); (try rw [r4]); (try rw [r5]); (try rw [r6]); (try rw [q3]); (try rw [q4]); (try rw [hp]); (try rw [hq]); go_big_quiet_on)))
                            refine wpQuiet_nil ?_
                            rintro _ ⟨tq, rfl⟩))
                      go_ret
                      exact ⟨ret_bool (by rw [E.out]), zq0⟩
end Go.Proofs.Ytablgohncilmfaa

namespace Go.Proofs.Ytablgohncilmfaa
open Go.RowKit
set_option linter.unusedSimpArgs false
set_option linter.unusedVariables false

theorem nod_app {A B : List Nat} (h : (A ++ B).Nodup) {x : Nat} (hx : x ∈ A) : x ∉ B := fun hb => (List.nodup_append.1 h).2.2 x hx x hb rfl
/-- The parcels of a cell in memory replaced. -/
theorem CX.setOuts {w w' : World} {c : Cll} {h : CllH} {B1 B2 B3 B4 B5 : List Nat} {outs' : List (List Pcl)} (x : CX w c h B1 B3 B4 B5) (hc : Chg B3 w w') (hss : RowSS w' 62 45 8 Pcl.cells (.slice h.a3 outs'.length h.c3) outs' B2) (hb : ∀ b ∈ B2, b ∈ B3 ∨ w.heap.size ≤ b) :
    CX w' { c with outs := outs' } h B1 B2 B4 B5 := by
  have nd := x.nd
  have n1 : ∀ b ∈ B1, b ∉ B3 := fun b hb h3 => nod_app nd hb (by simp [h3])
  have nd2 := (List.nodup_append.1 nd).2.1
  have n4 : ∀ b ∈ B4 ++ B5, b ∉ B3 := fun b hb h3 => nod_app nd2 h3 hb
  have l1 := x.x1.lt
  have l4 := x.x4.lt
  have l5 := x.x5.lt
  refine ⟨x.x1.chg hc n1, hss, x.x4.chg hc fun b hb => n4 b (by simp [hb]), x.x5.chg hc fun b hb => n4 b (by simp [hb]), ?_⟩
  refine List.nodup_append.2 ⟨x.x1.nodup, List.nodup_append.2 ⟨hss.nodup, (List.nodup_append.1 nd2).2.1, fun a ha b hb' e => ?_⟩, fun a ha b hb' e => ?_⟩
  · subst e
    rcases hb a ha with h9 | h9
    · exact n4 a hb' h9
    · rcases List.mem_append.1 hb' with h8 | h8
      · have := l4 a h8; omega
      · have := l5 a h8; omega
  · subst e
    rcases List.mem_append.1 hb' with h8 | h8
    · rcases hb a h8 with h9 | h9
      · exact n1 a ha h9
      · have := l1 a ha; omega
    · exact nod_app nd ha (List.mem_append_right _ h8)
end Go.Proofs.Ytablgohncilmfaa

namespace Go.Proofs.Ytablgohncilmfaa
open Go.RowKit
set_option linter.unusedSimpArgs false
set_option linter.unusedVariables false

def cllZ : Cll := ⟨0, [], 0, [], [], []⟩
def outsAt (c : Cll) (s : Int) : List Pcl := (c.outs[s.toNat]?).getD []
def nextAt (c : Cll) (s : Int) : Int := (c.next[s.toNat]?).getD 0
theorem ownL_nil_cll (w : World) : Own w sCll (cllCells cllZ ⟨none, 0, none, 0, none, 0, none, 0⟩) (cllDat cllZ) [] := by
  have nl : ∀ e : Sch, Own w (.sl e) [.slice none 0 0] (.l []) [] := fun e => by
    unfold Own; exact ⟨[], rfl, Nat.zero_le _, .inl ⟨rfl, rfl, none, 0, rfl⟩⟩
  have i : Own w .int [.int .i64 0] (.i 0) [] := by unfold Own; exact ⟨⟨_, rfl, rfl⟩, rfl⟩
  unfold sCll cllDat
  refine own_st_mk ?_
  unfold OwnL; refine ⟨[_], _, _, _, [], [], rfl, rfl, rfl, i, ?_⟩
  unfold OwnL; refine ⟨[_], _, _, _, [], [], rfl, rfl, rfl, nl _, ?_⟩
  unfold OwnL; refine ⟨[_], _, _, _, [], [], rfl, rfl, rfl, i, ?_⟩
  unfold OwnL; refine ⟨[_], _, _, _, [], [], rfl, rfl, rfl, nl _, ?_⟩
  unfold OwnL; refine ⟨[_], _, _, _, [], [], rfl, rfl, rfl, nl _, ?_⟩
  unfold OwnL; refine ⟨[_], _, _, _, [], [], rfl, rfl, rfl, nl _, ?_⟩
  unfold OwnL; exact ⟨rfl, rfl, rfl⟩
/-- A cell and something beside it, the cell in new memory. -/
def MadeCV (w : World) (c : Cll) (x : Value) (e : Ending) (w' : World) : Prop :=
  ∃ h : CllH, e = .returned (.tuple #[.agg #[.int .i64 c.cell, .slice h.a1 c.wk.length h.c1, .int .i64 c.ground, .slice h.a3 c.outs.length h.c3, .slice h.a4 c.next.length h.c4, .slice h.a5 c.ins.length h.c5], x]) ∧ Ext w w' ∧ OwnR w.heap.size w'.heap.size w' sCll (cllCells c h) (cllDat c)
theorem CX.re {w : World} {c : Cll} {h : CllH} {B1 B3 B4 B5 : List Nat} (x : CX w c h B1 B3 B4 B5) : ReC w c h := (x.own (lo := 0) (fun _ _ => Nat.zero_le _)).cll
theorem CX.fin {X X' w' : World} {t : Xt} {c : Cll} {h : CllH} {B1 B3 B4 B5 : List Nat} (x : CX (ext X t) c h B1 B3 B4 B5) (hB : ∀ b ∈ B1 ++ (B3 ++ (B4 ++ B5)), X.heap.size ≤ b) (hE : Ext (ext X' t) w') (hs : X'.heap.size = X.heap.size) : CX w' c h B1 B3 B4 B5 :=
  x.same fun b hb => fin_blk (hB b hb) (x.lt b hb) hE hs
end Go.Proofs.Ytablgohncilmfaa

namespace Go.Proofs.Ytablgohncilmfaa
open Go.RowKit

/-- The place of the first element that passes; -1 for none. -/
def idxFrom {α : Type} (p : α → Bool) : Nat → List α → Int
  | _, [] => -1
  | i, x :: r => if p x then (i : Int) else idxFrom p (i + 1) r
theorem idxFrom_hit {α : Type} {p : α → Bool} : ∀ {xs : List α} {i k : Nat} {x : α}, xs[k]? = some x → (∀ y ∈ xs.take k, p y = false) → p x = true → idxFrom p i xs = ((i + k : Nat) : Int)
  | y :: ys, i, 0, x, h, _, hp => by
    obtain rfl : y = x := by simpa using h
    simp [idxFrom, hp]
  | y :: ys, i, k + 1, x, h, ha, hp => by
    have h0 := ha y (by simp)
    simp only [idxFrom, h0, Bool.false_eq_true, if_false]
    rw [idxFrom_hit (i := i + 1) (k := k) (by simpa using h) (fun z hz => ha z (by simp [hz])) hp, show i + 1 + k = i + (k + 1) by omega]
theorem idxFrom_none {α : Type} {p : α → Bool} : ∀ {xs : List α} {i : Nat}, (∀ y ∈ xs, p y = false) → idxFrom p i xs = -1
  | [], _, _ => rfl
  | y :: ys, i, h => by
    simp only [idxFrom, h y (by simp), Bool.false_eq_true, if_false]
    exact idxFrom_none fun z hz => h z (by simp [hz])
theorem take_step {α : Type} {p : α → Bool} {xs : List α} {k : Nat} {x : α} (h : ∀ y ∈ xs.take k, p y = false) (hx : xs[k]? = some x) (hp : p x = false) : ∀ y ∈ xs.take (k + 1), p y = false := by
  rw [List.take_add_one, hx]
  intro y hy
  rcases List.mem_append.1 hy with h' | h'
  · exact h y h'
  · obtain rfl : y = x := by simpa using h'
    exact hp
theorem take_end {α : Type} {p : α → Bool} {xs : List α} {k : Nat} (h : ∀ y ∈ xs.take k, p y = false) (hk : xs.length ≤ k) : ∀ y ∈ xs, p y = false := by
  rwa [List.take_of_length_le hk] at h

def idIs (id : Int) (x : Wlk) : Bool := x.id == id
def wlkPlace (xs : List Wlk) (id : Int) : Int := idxFrom (idIs id) 0 xs
def wlkZ : Wlk := ⟨0, 0, 0, 0, 0⟩
/-- The first walker with a number. -/
def wlkGet (xs : List Wlk) (id : Int) : Wlk := (xs.find? (idIs id)).getD wlkZ
def wlkHas (xs : List Wlk) (id : Int) : Bool := (xs.find? (idIs id)).isSome
theorem find_hit {α : Type} {p : α → Bool} {xs : List α} {k : Nat} {x : α} (h : xs[k]? = some x) (ha : ∀ y ∈ xs.take k, p y = false) (hp : p x = true) : xs.find? p = some x := by
  have hk := (List.getElem?_eq_some_iff.1 h).1
  have e : xs = xs.take k ++ x :: xs.drop (k + 1) := by
    have := List.take_append_drop k xs
    rw [← (List.getElem?_eq_some_iff.1 h).2, ← List.drop_eq_getElem_cons hk]
    exact this.symm
  rw [e, List.find?_append, List.find?_eq_none.2 (fun y hy => by simp [ha y hy])]
  simp [hp]
theorem find_miss {α : Type} {p : α → Bool} {xs : List α} (h : ∀ y ∈ xs, p y = false) : xs.find? p = none := List.find?_eq_none.2 fun y hy => by simp [h y hy]

theorem place1_c (x : Wlk) (b : Nat) (id : Int) (w : World) (hb : b < w.heap.size) (hc : w.cell? ⟨b, 0, none⟩ = some (.int .i64 id)) :
    Calls Try.prog 120 #[.agg #[.int .i64 x.id, .int .i64 x.at_, .int .i64 x.coins, .int .i64 x.seq, .int .i64 x.last], .pointer (some ⟨b, 0, none⟩)] w fun e w' => e = .returned (.bool (idIs id x)) ∧ Ext w w' := by
  go_enter Try.func120, Try.ntmps120
  try go_wp2_with (first
      | fail
      | (
        with_reducible refine wp_region_mix (by kernel_rfl) (by decide +kernel) ?_
        repeat (first
          | (refine mix_pure rfl ?_; (first | go_big_quiet_skip | (go_big_quiet_want; go_big_quiet_op; go_big_quiet_on)); refine wpQuiet_nil ?_)
          | (refine mix_skip (by rfl) ?_; (try simp only [Act.put, List.setIfInBounds_toArray, List.set_cons_zero, List.set_cons_succ]))
          | (refine mix_mk rfl (by rfl) (fun K hK => ?_); (first | (go_simp; first | skip)); (show K _ _); refine hK _ _ (show Ext _ _ from zq0) ?_; clear hK K; (try simp only [Act.put, List.setIfInBounds_toArray, List.set_cons_zero, List.set_cons_succ])))
        refine mix_nil ?_)
      | (
        with_reducible refine wp_region_ext (by kernel_rfl) (by kernel_rfl) ?_
        repeat (first | go_big_quiet_skip | (go_big_quiet_want; go_big_quiet_op; first | go_big_quiet_on | (apply Exists.intro; refine ⟨fun _ => ?_, ?_⟩; (fail); (try rw [h1]); (try rw [h2]); (try rw [h3]); (try rw [h4]); (try rw [p1]); (try rw [p2]); (try rw [p3]); (try rw [p4]); (try rw [r1]); (try rw [r2]); (try rw [r3]); (try rw [r4]); (try rw [r5]); (try rw [r6]); (try rw [q3]); (try rw [q4]); (try rw [hp]); (try rw [hq]); go_big_quiet_on)))
        refine wpQuiet_nil ?_
        rintro _ ⟨tq, rfl⟩))
  go_ret
  exact ⟨rfl, zq0⟩

set_option maxHeartbeats 1000000 in
theorem idxF_c (xs : List Wlk) (a : Option Addr) (n c b : Nat) (id : Int) (w : World) (hx : Re w (.sl sWlk) [.slice a n c] (.l (xs.map Wlk.dat))) (hn : n ≤ 1048576) (hb : b < w.heap.size) (hc : w.cell? ⟨b, 0, none⟩ = some (.int .i64 id)) :
    Calls Try.prog 119 #[.slice a n c, .func (.func 120) #[] #[.pointer (some ⟨b, 0, none⟩)]] w fun e w' => e = .returned (.int .i64 (wlkPlace xs id)) ∧ Ext w w' := by
  have HX := hid hx
  clear hx
  go_enter Try.func119, Try.ntmps119
  go_wp2
  go_loopw [8] (fun i wr => ∃ k : Nat, k ≤ n ∧ i = .int .i64 k ∧ (∀ y ∈ xs.take k, idIs id y = false) ∧ Ext w wr) (fun i _ => n - (intOf i).toNat)
  case atStart => exact ⟨0, Nat.zero_le _, rfl, by simp, Ext.refl _⟩
  case round =>
    obtain ⟨k, hk, rfl, hal, t, rfl⟩ := hrel
    have HA := hid hal
    clear hal
    by_cases hlt : k < n
    · obtain ⟨x, b1, o1, hxk, rfl, hb1, f0, f1, f2, f3, f4⟩ := at_Wlk HX.out hlt
      have HK := hid hxk
      clear hxk
      cases hp : idIs id x with
      | true =>
        have E := hid (show wlkPlace xs id = (k : Int) by rw [wlkPlace, idxFrom_hit HK.out HA.out hp]; simp)
        try go_wp2_with (first
            | (go_at_call 120; (with_reducible refine (place1_c x b id _ (by simp [ext_size]; omega) (by rw [ext_cell' _ _ _ _ hb]; exact hc)).mono ?_); rintro e w' ⟨rfl, t, rfl⟩)
            | (
              with_reducible refine wp_region_mix (by kernel_rfl) (by decide +kernel) ?_
              repeat (first
                | (refine mix_pure rfl ?_; (first | go_big_quiet_skip | (go_big_quiet_want; go_big_quiet_op; go_big_quiet_on)); refine wpQuiet_nil ?_)
                | (refine mix_skip (by rfl) ?_; (try simp only [Act.put, List.setIfInBounds_toArray, List.set_cons_zero, List.set_cons_succ]))
                | (refine mix_mk rfl (by rfl) (fun K hK => ?_); (first | (go_simp; first | (go_at_call 120; (with_reducible refine (place1_c x b id _ (by simp [ext_size]; omega) (by rw [ext_cell' _ _ _ _ hb]; exact hc)).mono ?_); rintro e w' ⟨rfl, t, rfl⟩) | skip)); (show K _ _); refine hK _ _ (show Ext _ _ from zq0) ?_; clear hK K; (try simp only [Act.put, List.setIfInBounds_toArray, List.set_cons_zero, List.set_cons_succ])))
              refine mix_nil ?_)
            | (
              with_reducible refine wp_region_ext (by kernel_rfl) (by kernel_rfl) ?_
              repeat (first | go_big_quiet_skip | (go_big_quiet_want; go_big_quiet_op; first | go_big_quiet_on | (apply Exists.intro; refine ⟨fun _ => ?_, ?_⟩; (fail); (try rw [h1]); (try rw [h2]); (try rw [h3]); (try rw [h4]); (try rw [p1]); (try rw [p2]); (try rw [p3]); (try rw [p4]); (try rw [r1]); (try rw [r2]); (try rw [r3]); (try rw [r4]); (try rw [r5]); (try rw [r6]); (try rw [q3]); (try rw [q4]); (try rw [hp]); (try rw [hq]); go_big_quiet_on)))
              refine wpQuiet_nil ?_
              rintro _ ⟨tq, rfl⟩))
        go_ret
        exact ⟨ret_int E.out.symm, zq0⟩
      | false =>
        have HB := hid (take_step HA.out HK.out hp)
        try go_wp2_with (first
            | (go_at_call 120; (with_reducible refine (place1_c x b id _ (by simp [ext_size]; omega) (by rw [ext_cell' _ _ _ _ hb]; exact hc)).mono ?_); rintro e w' ⟨rfl, t, rfl⟩)
            | (
              with_reducible refine wp_region_mix (by kernel_rfl) (by decide +kernel) ?_
              repeat (first
                | (refine mix_pure rfl ?_; (first | go_big_quiet_skip | (go_big_quiet_want; go_big_quiet_op; go_big_quiet_on)); refine wpQuiet_nil ?_)
                | (refine mix_skip (by rfl) ?_; (try simp only [Act.put, List.setIfInBounds_toArray, List.set_cons_zero, List.set_cons_succ]))
                | (refine mix_mk rfl (by rfl) (fun K hK => ?_); (first | (go_simp; first | (go_at_call 120; (with_reducible refine (place1_c x b id _ (by simp [ext_size]; omega) (by rw [ext_cell' _ _ _ _ hb]; exact hc)).mono ?_); rintro e w' ⟨rfl, t, rfl⟩) | skip)); (show K _ _); refine hK _ _ (show Ext _ _ from zq0) ?_; clear hK K; (try simp only [Act.put, List.setIfInBounds_toArray, List.set_cons_zero, List.set_cons_succ])))
              refine mix_nil ?_)
            | (
              with_reducible refine wp_region_ext (by kernel_rfl) (by kernel_rfl) ?_
              repeat (first | go_big_quiet_skip | (go_big_quiet_want; go_big_quiet_op; first | go_big_quiet_on | (apply Exists.intro; refine ⟨fun _ => ?_, ?_⟩; (fail); (try rw [h1]); (try rw [h2]); (try rw [h3]); (try rw [h4]); (try rw [p1]); (try rw [p2]); (try rw [p3]); (try rw [p4]); (try rw [r1]); (try rw [r2]); (try rw [r3]); (try rw [r4]); (try rw [r5]); (try rw [r6]); (try rw [q3]); (try rw [q4]); (try rw [hp]); (try rw [hq]); go_big_quiet_on)))
              refine wpQuiet_nil ?_
              rintro _ ⟨tq, rfl⟩))
        go_roundw
        case rel => exact ⟨k + 1, by omega, by go_num, HB.out, zq0⟩
        case measure => simp [intOf]; omega
    · have E := hid (show wlkPlace xs id = -1 from idxFrom_none (take_end HA.out (by rw [← HX.out.len]; omega)))
      go_wp2
      go_ret
      exact ⟨ret_int E.out.symm, zq0⟩

theorem place_c (xs : List Wlk) (a : Option Addr) (n c : Nat) (id : Int) (w : World) (hx : Re w (.sl sWlk) [.slice a n c] (.l (xs.map Wlk.dat))) (hn : n ≤ 1048576) :
    Calls Try.prog 86 #[.slice a n c, .int .i64 id] w fun e w' => e = .returned (.int .i64 (wlkPlace xs id)) ∧ Ext w w' := by
  have HX := hid hx
  clear hx
  go_enter Try.func86, Try.ntmps86
  try go_wp2_with (first
      | (go_at_call 119; (with_reducible refine (idxF_c xs _ _ _ _ id _ (HX.out.of zq0) hn (by simp) (by simp [go_sem])).mono ?_); rintro e w' ⟨rfl, t, rfl⟩)
      | (
        with_reducible refine wp_region_mix (by kernel_rfl) (by decide +kernel) ?_
        repeat (first
          | (refine mix_pure rfl ?_; (first | go_big_quiet_skip | (go_big_quiet_want; go_big_quiet_op; go_big_quiet_on)); refine wpQuiet_nil ?_)
          | (refine mix_skip (by rfl) ?_; (try simp only [Act.put, List.setIfInBounds_toArray, List.set_cons_zero, List.set_cons_succ]))
          | (refine mix_mk rfl (by rfl) (fun K hK => ?_); (first | (go_simp; first | (go_at_call 119; (with_reducible refine (idxF_c xs _ _ _ _ id _ (HX.out.of zq0) hn (by simp) (by simp [go_sem])).mono ?_); rintro e w' ⟨rfl, t, rfl⟩) | skip)); (show K _ _); refine hK _ _ (show Ext _ _ from zq0) ?_; clear hK K; (try simp only [Act.put, List.setIfInBounds_toArray, List.set_cons_zero, List.set_cons_succ])))
        refine mix_nil ?_)
      | (
        with_reducible refine wp_region_ext (by kernel_rfl) (by kernel_rfl) ?_
        repeat (first | go_big_quiet_skip | (go_big_quiet_want; go_big_quiet_op; first | go_big_quiet_on | (apply Exists.intro; refine ⟨fun _ => ?_, ?_⟩; (fail); (try rw [h1]); (try rw [h2]); (try rw [h3]); (try rw [h4]); (try rw [p1]); (try rw [p2]); (try rw [p3]); (try rw [p4]); (try rw [r1]); (try rw [r2]); (try rw [r3]); (try rw [r4]); (try rw [r5]); (try rw [r6]); (try rw [q3]); (try rw [q4]); (try rw [hp]); (try rw [hq]); go_big_quiet_on)))
        refine wpQuiet_nil ?_
        rintro _ ⟨tq, rfl⟩))
  go_ret
  exact ⟨rfl, zq0⟩

theorem place_lt {α : Type} {p : α → Bool} : ∀ {xs : List α} {i : Nat}, idxFrom p i xs = -1 ∧ (∀ y ∈ xs, p y = false) ∨ ∃ k x, idxFrom p i xs = ((i + k : Nat) : Int) ∧ xs[k]? = some x ∧ (∀ y ∈ xs.take k, p y = false) ∧ p x = true
  | [], _ => .inl ⟨rfl, by simp⟩
  | y :: ys, i => by
    cases hp : p y with
    | true => exact .inr ⟨0, y, by simp [idxFrom, hp], rfl, by simp, hp⟩
    | false =>
      rcases place_lt (p := p) (xs := ys) (i := i + 1) with ⟨h1, h2⟩ | ⟨k, x, h1, h2, h3, h4⟩
      · exact .inl ⟨by simp [idxFrom, hp, h1], by simp [hp]; simpa using h2⟩
      · refine .inr ⟨k + 1, x, by simp only [idxFrom, hp, Bool.false_eq_true, if_false, h1]; rw [show i + 1 + k = i + (k + 1) by omega], by simpa using h2, ?_, h4⟩
        intro z hz
        simp only [List.take_succ_cons, List.mem_cons] at hz
        rcases hz with rfl | hz
        · exact hp
        · exact h3 z hz

set_option maxHeartbeats 1000000 in
theorem sWlkFind_c (xs : List Wlk) (a : Option Addr) (n c : Nat) (id : Int) (w : World) (hx : Re w (.sl sWlk) [.slice a n c] (.l (xs.map Wlk.dat))) (hn : n ≤ 1048576) :
    Calls Try.prog 37 #[.slice a n c, .int .i64 id] w fun e w' => e = .returned (.tuple #[.agg #[.int .i64 (wlkGet xs id).id, .int .i64 (wlkGet xs id).at_, .int .i64 (wlkGet xs id).coins, .int .i64 (wlkGet xs id).seq, .int .i64 (wlkGet xs id).last], .bool (wlkHas xs id)]) ∧ Ext w w' := by
  have HX := hid hx
  clear hx
  go_enter Try.func37, Try.ntmps37
  go_wp2
  go_loopw [6] (fun i wr => ∃ k : Nat, k ≤ n ∧ i = .int .i64 k ∧ (∀ y ∈ xs.take k, idIs id y = false) ∧ Ext (w.alloc (.cells #[.int .i64 0, .int .i64 0, .int .i64 0, .int .i64 0, .int .i64 0] 43)) wr) (fun i _ => n - (intOf i).toNat)
  case atStart => exact ⟨0, Nat.zero_le _, rfl, by simp, Ext.refl _⟩
  case round =>
    obtain ⟨k, hk, rfl, hal, t, rfl⟩ := hrel
    have HA := hid hal
    clear hal
    by_cases hlt : k < n
    · obtain ⟨x, b1, o1, hxk, rfl, hb1, f0, f1, f2, f3, f4⟩ := at_Wlk HX.out hlt
      have HK := hid hxk
      clear hxk
      have hb2 : b1 ≤ w.heap.size := Nat.le_of_lt hb1
      cases hp : idIs id x with
      | true =>
        have E1 := hid (show wlkGet xs id = x by rw [wlkGet, find_hit HK.out HA.out hp]; rfl)
        have E2 := hid (show wlkHas xs id = true by rw [wlkHas, find_hit HK.out HA.out hp]; rfl)
        have hp' : (x.id == id) = true := hp
        clear hp
        try go_wp2_with (first
            | fail
            | (
              with_reducible refine wp_region_mix (by kernel_rfl) (by decide +kernel) ?_
              repeat (first
                | (refine mix_pure rfl ?_; (first | go_big_quiet_skip | (go_big_quiet_want; go_big_quiet_op; go_big_quiet_on)); refine wpQuiet_nil ?_)
                | (refine mix_skip (by rfl) ?_; (try simp only [Act.put, List.setIfInBounds_toArray, List.set_cons_zero, List.set_cons_succ]))
                | (refine mix_mk rfl (by rfl) (fun K hK => ?_); (first | (go_simp; first | skip)); (show K _ _); refine hK _ _ (show Ext _ _ from zq0) ?_; clear hK K; (try simp only [Act.put, List.setIfInBounds_toArray, List.set_cons_zero, List.set_cons_succ])))
              refine mix_nil ?_)
            | (
              with_reducible refine wp_region_ext (by kernel_rfl) (by kernel_rfl) ?_
              repeat (first | go_big_quiet_skip | (go_big_quiet_want; go_big_quiet_op; first | go_big_quiet_on | (apply Exists.intro; refine ⟨fun _ => ?_, ?_⟩; (fail); (try rw [h1]); (try rw [h2]); (try rw [h3]); (try rw [h4]); (try rw [p1]); (try rw [p2]); (try rw [p3]); (try rw [p4]); (try rw [r1]); (try rw [r2]); (try rw [r3]); (try rw [r4]); (try rw [r5]); (try rw [r6]); (try rw [q3]); (try rw [q4]); (try rw [hp]); (try rw [hq]); go_big_quiet_on)))
              refine wpQuiet_nil ?_
              rintro _ ⟨tq, rfl⟩))
        rw [E1.out, E2.out]
        exact bodyPost_ret (v := .tuple #[.agg #[.int .i64 x.id, .int .i64 x.at_, .int .i64 x.coins, .int .i64 x.seq, .int .i64 x.last], .bool true]) (by simp [results, Try.results37, go_sem]) rfl ⟨rfl, zq0⟩
      | false =>
        have HB := hid (take_step HA.out HK.out hp)
        have hp' : (x.id == id) = false := hp
        clear hp
        try go_wp2_with (first
            | fail
            | (
              with_reducible refine wp_region_mix (by kernel_rfl) (by decide +kernel) ?_
              repeat (first
                | (refine mix_pure rfl ?_; (first | go_big_quiet_skip | (go_big_quiet_want; go_big_quiet_op; go_big_quiet_on)); refine wpQuiet_nil ?_)
                | (refine mix_skip (by rfl) ?_; (try simp only [Act.put, List.setIfInBounds_toArray, List.set_cons_zero, List.set_cons_succ]))
                | (refine mix_mk rfl (by rfl) (fun K hK => ?_); (first | (go_simp; first | skip)); (show K _ _); refine hK _ _ (show Ext _ _ from zq0) ?_; clear hK K; (try simp only [Act.put, List.setIfInBounds_toArray, List.set_cons_zero, List.set_cons_succ])))
              refine mix_nil ?_)
            | (
              with_reducible refine wp_region_ext (by kernel_rfl) (by kernel_rfl) ?_
              repeat (first | go_big_quiet_skip | (go_big_quiet_want; go_big_quiet_op; first | go_big_quiet_on | (apply Exists.intro; refine ⟨fun _ => ?_, ?_⟩; (fail); (try rw [h1]); (try rw [h2]); (try rw [h3]); (try rw [h4]); (try rw [p1]); (try rw [p2]); (try rw [p3]); (try rw [p4]); (try rw [r1]); (try rw [r2]); (try rw [r3]); (try rw [r4]); (try rw [r5]); (try rw [r6]); (try rw [q3]); (try rw [q4]); (try rw [hp]); (try rw [hq]); go_big_quiet_on)))
              refine wpQuiet_nil ?_
              rintro _ ⟨tq, rfl⟩))
        go_roundw
        case rel => exact ⟨k + 1, by omega, by go_num, HB.out, zq0⟩
        case measure => simp [intOf]; omega
    · have h2 := take_end HA.out (by rw [← HX.out.len]; omega)
      have E1 := hid (show wlkGet xs id = wlkZ by rw [wlkGet, find_miss h2]; rfl)
      have E2 := hid (show wlkHas xs id = false by rw [wlkHas, find_miss h2]; rfl)
      clear h2
      try go_wp2_with (first
          | fail
          | (
            with_reducible refine wp_region_mix (by kernel_rfl) (by decide +kernel) ?_
            repeat (first
              | (refine mix_pure rfl ?_; (first | go_big_quiet_skip | (go_big_quiet_want; go_big_quiet_op; go_big_quiet_on)); refine wpQuiet_nil ?_)
              | (refine mix_skip (by rfl) ?_; (try simp only [Act.put, List.setIfInBounds_toArray, List.set_cons_zero, List.set_cons_succ]))
              | (refine mix_mk rfl (by rfl) (fun K hK => ?_); (first | (go_simp; first | skip)); (show K _ _); refine hK _ _ (show Ext _ _ from zq0) ?_; clear hK K; (try simp only [Act.put, List.setIfInBounds_toArray, List.set_cons_zero, List.set_cons_succ])))
            refine mix_nil ?_)
          | (
            with_reducible refine wp_region_ext (by kernel_rfl) (by kernel_rfl) ?_
            repeat (first | go_big_quiet_skip | (go_big_quiet_want; go_big_quiet_op; first | go_big_quiet_on | (apply Exists.intro; refine ⟨fun _ => ?_, ?_⟩; (fail); (try rw [h1]); (try rw [h2]); (try rw [h3]); (try rw [h4]); (try rw [p1]); (try rw [p2]); (try rw [p3]); (try rw [p4]); (try rw [r1]); (try rw [r2]); (try rw [r3]); (try rw [r4]); (try rw [r5]); (try rw [r6]); (try rw [q3]); (try rw [q4]); (try rw [hp]); (try rw [hq]); go_big_quiet_on)))
            refine wpQuiet_nil ?_
            rintro _ ⟨tq, rfl⟩))
      rw [E1.out, E2.out]
      exact bodyPost_ret (v := .tuple #[.agg #[.int .i64 wlkZ.id, .int .i64 wlkZ.at_, .int .i64 wlkZ.coins, .int .i64 wlkZ.seq, .int .i64 wlkZ.last], .bool false]) (by simp [results, Try.results37, go_sem, wlkZ]) rfl ⟨rfl, zq0⟩
end Go.Proofs.Ytablgohncilmfaa

namespace Go.Proofs.Ytablgohncilmfaa
open Go.RowKit

def notId (id : Int) (x : Wlk) : Bool := !(x.id == id)
def wlkOut (xs : List Wlk) (id : Int) : List Wlk := xs.filter (notId id)
theorem wlkOut_len (xs : List Wlk) (id : Int) : (wlkOut xs id).length ≤ xs.length := List.length_filter_le _ _
end Go.Proofs.Ytablgohncilmfaa

namespace Go.Proofs.Ytablgohncilmfaa
open Go.RowKit
set_option linter.unusedSimpArgs false
set_option linter.unusedVariables false

/-- A list with an element put in at a place. -/
def insAt {α : Type} (xs : List α) (i : Nat) (y : α) : List α := xs.take i ++ y :: xs.drop i
theorem insAt_len {α : Type} (xs : List α) (i : Nat) (y : α) (h : i ≤ xs.length) : (insAt xs i y).length = xs.length + 1 := by
  simp [insAt]; omega
theorem insAt_end {α : Type} (xs : List α) (y : α) : insAt xs xs.length y = xs ++ [y] := by simp [insAt]
theorem flatMap_take {α : Type} {cells : α → List Value} {k : Nat} (hcl : ∀ x, (cells x).length = k) : ∀ (xs : List α) (i : Nat), i ≤ xs.length → (xs.take i).flatMap cells = (xs.flatMap cells).take (i * k)
  | xs, 0, _ => by simp
  | [], i + 1, h => by simp at h
  | x :: xs, i + 1, h => by
    simp only [List.take_succ_cons, List.flatMap_cons]
    rw [flatMap_take hcl xs i (by simpa using h), List.take_append, hcl, List.take_of_length_le (l := cells x) (by rw [hcl, Nat.add_mul]; omega), show (i + 1) * k - k = i * k by rw [Nat.add_mul]; omega]
theorem flatMap_drop {α : Type} {cells : α → List Value} {k : Nat} (hcl : ∀ x, (cells x).length = k) : ∀ (xs : List α) (i : Nat), i ≤ xs.length → (xs.drop i).flatMap cells = (xs.flatMap cells).drop (i * k)
  | xs, 0, _ => by simp
  | [], i + 1, h => by simp at h
  | x :: xs, i + 1, h => by
    simp only [List.drop_succ_cons, List.flatMap_cons]
    rw [flatMap_drop hcl xs i (by simpa using h), List.drop_append, hcl, List.drop_of_length_le (l := cells x) (by rw [hcl, Nat.add_mul]; omega), show (i + 1) * k - k = i * k by rw [Nat.add_mul]; omega]; rfl
theorem flatMap_len {α : Type} {cells : α → List Value} {k : Nat} (hcl : ∀ x, (cells x).length = k) (xs : List α) : (xs.flatMap cells).length = xs.length * k := by
  rw [List.length_flatMap, List.map_congr_left (g := fun _ => k) (fun x _ => hcl x), List.map_const', List.sum_replicate_nat]
theorem insAt_flat {α : Type} {cells : α → List Value} {k : Nat} (hcl : ∀ x, (cells x).length = k) (xs : List α) (i : Nat) (y : α) (h : i ≤ xs.length) :
    (insAt xs i y).flatMap cells = (xs.flatMap cells).take (i * k) ++ (cells y ++ (xs.flatMap cells).drop (i * k)) := by
  simp only [insAt, List.flatMap_append, List.flatMap_cons]
  rw [flatMap_take hcl xs i h, flatMap_drop hcl xs i h]

theorem setCells_row (w : World) (b : Nat) : ∀ (vs : List Value) (o : Nat) (w : World), w.setCells b o vs = setRow w b o vs
  | [], _, _ => rfl
  | v :: vs, o, w => by
    show (w.setCell ⟨b, o, none⟩ v).setCells b (o + 1) vs = setRow (w.setCell ⟨b, o, none⟩ v) b (o + 1) vs
    exact setCells_row w b vs (o + 1) _
/-- The builtin 'copy' at elements of k cells: all is read before anything is written. -/
theorem run_copy_k {P : Program} (w : World) (dT sT ty elem : TypeId) (b o dLen dCap : Nat) (a : Addr) (sLen sCap k m : Nat) (cs : List Value)
    (hu : P.underlying dT = some (.slice elem)) (hs : (P.info? elem).map (·.size) = some k) (hm : Nat.min sLen dLen = m) (hn : cs.length = m * k)
    (hsrc : ∀ j v, cs[j]? = some v → w.cell? (a.add j) = some v) (hc : ∀ j, j < cs.length → (w.cell? ⟨b, o + j, none⟩).isSome = true) (hf : ∀ j, j < cs.length → w.frozen? ⟨b, o + j, none⟩ = false) (h1 : ∀ v ∈ cs, v.oneCell' = true) :
    (Builtin.copy_ #[dT, sT] ty #[.slice (some ⟨b, o, none⟩) dLen dCap, .slice (some a) sLen sCap]).run P w = .ok (goInt m) (setRow w b o cs) := by
  have hl := run_loadCells_list (P := P) w a cs hsrc
  have hst := run_storeCells_cells (P := P) b o cs 0 w (by simpa using hc) (by simpa using hf) h1
  rw [setCells_row w] at hst
  cases hq : P.info? elem with
  | none => simp [hq] at hs
  | some i =>
    have hi : i.size = k := by simpa [hq] using hs
    rw [hn] at hl
    simp [Builtin.copy_, run_underlying hu, Builtin.lenOf, Builtin.firstCells, sizeOf, typeInfo, hq, hi, hm, hl, hst]
theorem wp_copy_run {P : Program} (w : World) {o : Oper} {a : Act} {K : Act → World → Prop} {Q : Exit → Act → World → Prop} (d s : Operand) (t t' : TypeId)
    (ho : o.op = .call { callee := .builtin .copy, args := #[d, s], argTypes := #[t, t'] }) {v u : Value} (hd : a.eval d = v) (hs : a.eval s = u) {v' : Value} {w' : World}
    (hr : (Builtin.copy_ #[t, t'] o.type #[v, u]).run P w = .ok v' w') (h : K (a.put o.dst v') w') : o.wp P a w K Q := by
  unfold Oper.wp execOp
  simp only [ho, resolve, invoke, builtin, Sem.run_bind, Sem.run_pure, Result.andThen_ok, List.map_toArray, List.map_cons, List.map_nil, hd, hs, hr]
  exact h
theorem wpList_appRZ {α : Type} {cells : α → List Value} {k bytes : Nat} {z : Value} {TS T : TypeId} (hT : Try.prog.underlying TS = some (.slice T)) (hI : (Try.prog.info? T).map (fun i => (i.zero, i.size, i.bytes)) = some (some z, k, bytes)) (hz : z.cells.size = k) (hpos : 0 < k) (hby : bytes ≤ 1024)
    (hcl : ∀ x, (cells x).length = k) (hone : ∀ x, ∀ u ∈ cells x, u.oneCell' = true)
    {ops : Array Oper} {rest : List Oper} {o : Oper} {a : Act} {Q : Exit → Act → World → Prop} {w : World} (hgd : o.guard = none) (base : Nat) (s x : Operand) (ho : o.op = .call { callee := .builtin .append, args := #[s, x], argTypes := #[TS, TS] })
    {v : Value} {xs : List α} (hs : a.eval s = v) (hb : base ≤ w.heap.size) (hown : w.ownsRow base T k v xs.length (xs.flatMap cells)) (y : α) {b c : Nat} {T' : TypeId} (hx : a.eval x = .slice (some ⟨b, 0, none⟩) 1 c) (hy : w.heap[b]? = some (.cells (cells y).toArray T' (0, 0))) (hn : xs.length ≤ 4194304)
    (h : ∀ v' w', w'.ownsRow base T k v' (xs ++ [y]).length ((xs ++ [y]).flatMap cells) → Chg v.ownBlock.toList w w' → wpList Try.prog ops Q rest (a.put o.dst v') w') : wpList Try.prog ops Q (o :: rest) a w :=
  wpList_plain hgd fun _ hK => wp_appRZ hT hI hz hpos hby hcl hone base s x ho hs hb hown y hx hy hn fun v' w' h1 h2 _ => hK _ _ (h v' w' h1 h2)

/-- What the two copies leave, cell by cell. -/
theorem ins_row {L cy : List Value} {arr : Array Value} {N p k : Nat} (hL : L.length = N) (hc : cy.length = k) (hp : p ≤ N) (hs : N + k ≤ arr.size) (hpre : ∀ j, j < N + k → arr[j]? = if j < p then L[j]? else if j < p + k then cy[j - p]? else L[j - k]?) :
    arr.toList.take (N + k) = L.take p ++ (cy ++ L.drop p) := by
  apply List.ext_getElem?
  intro j
  by_cases hj : j < N + k
  · rw [List.getElem?_take, if_pos hj, Array.getElem?_toList, hpre j hj]
    by_cases h1 : j < p
    · rw [if_pos h1, List.getElem?_append_left (by simp; omega), List.getElem?_take, if_pos h1]
    · rw [if_neg h1, List.getElem?_append_right (by simp; omega)]
      have e : (L.take p).length = p := by simp; omega
      rw [e]
      by_cases h2 : j < p + k
      · rw [if_pos h2, List.getElem?_append_left (by omega)]
      · rw [if_neg h2, List.getElem?_append_right (by omega), List.getElem?_drop]
        congr 1; omega
  · rw [List.getElem?_eq_none (by simp; omega), List.getElem?_eq_none (by simp; omega)]
/-- In place: the rest shifted, the element laid in. -/
theorem ins_shift {L cy : List Value} {cur : Array Value} {N p k : Nat} (hL : L.length = N) (hc : cy.length = k) (hp : p ≤ N) (hs : N + k ≤ cur.size) (ht : cur.toList.take N = L) (j : Nat) (hj : j < N + k) :
    (putRow (putRow cur (p + k) (L.drop p)) p cy)[j]? = if j < p then L[j]? else if j < p + k then cy[j - p]? else L[j - k]? := by
  have hd : (L.drop p).length = N - p := by simp [hL]
  rw [putRow_get _ _ _ _ (by rw [putRow_size, hc]; omega), hc]
  by_cases h2 : p ≤ j ∧ j < p + k
  · rw [if_pos h2, if_neg (by omega), if_pos h2.2]
  · rw [if_neg h2, putRow_get _ _ _ _ (by rw [hd]; omega), hd]
    by_cases h1 : j < p
    · rw [if_neg (by omega), if_pos h1, ← ht, List.getElem?_take, if_pos (by omega), Array.getElem?_toList]
    · rw [if_pos (by omega), if_neg h1, if_neg (by omega), List.getElem?_drop]
      congr 1; omega
/-- In a new row. -/
theorem ins_new {L cy : List Value} {cur : Array Value} {N p k : Nat} (hL : L.length = N) (hc : cy.length = k) (hp : p ≤ N) (hs : N + k ≤ cur.size) (ht : ∀ j, j < p → cur[j]? = L[j]?) (j : Nat) (hj : j < N + k) :
    (putRow (putRow cur p cy) (p + k) (L.drop p))[j]? = if j < p then L[j]? else if j < p + k then cy[j - p]? else L[j - k]? := by
  have hd : (L.drop p).length = N - p := by simp [hL]
  rw [putRow_get _ _ _ _ (by rw [putRow_size, hd]; omega), hd]
  by_cases h2 : p + k ≤ j
  · rw [if_pos (by omega), if_neg (by omega), if_neg (by omega), List.getElem?_drop]
    congr 1; omega
  · rw [if_neg (by omega), putRow_get _ _ _ _ (by rw [hc]; omega), hc]
    by_cases h1 : j < p
    · rw [if_neg (by omega), if_pos h1]; exact ht j h1
    · rw [if_pos (by omega), if_neg h1, if_pos (by omega)]

theorem Wlk_one (x : Wlk) : ∀ u ∈ Wlk.cells x, u.oneCell' = true := by
  intro u hu
  simp only [Wlk.cells, List.mem_cons, List.mem_nil_iff, or_false] at hu
  (repeat (first | (rcases hu with rfl | hu; rfl) | (subst hu; rfl)))
set_option maxRecDepth 100000 in
set_option maxHeartbeats 4000000 in
theorem insWlk_end (xs : List Wlk) (y : Wlk) (v : Value) (vb vc base : Nat) (w : World) (hown : w.ownsRow base 43 5 v xs.length (xs.flatMap Wlk.cells)) (hb : base ≤ w.heap.size) (hy : w.heap[vb]? = some (.cells (Wlk.cells y).toArray 43 (0, 0))) (hn : xs.length ≤ 1048576) :
    Calls Try.prog 129 #[v, .int .i64 xs.length, .slice (some ⟨vb, 0, none⟩) 1 vc] w fun e w' => ∃ v', e = .returned v' ∧ w'.ownsRow base 43 5 v' (insAt xs xs.length y).length ((insAt xs xs.length y).flatMap Wlk.cells) ∧ Chg v.ownBlock.toList w w' := by
  rw [insAt_end]
  have HO := hid hown
  have HY := hid hy
  rcases hown.2 with ⟨rfl, h0⟩ | ⟨g, cap, cur, rfl, hg, hB, hc, hcm, hcs, ht⟩
  · obtain rfl := List.eq_nil_of_length_eq_zero h0
    clear hown hy h0
    go_enter Try.func129, Try.ntmps129
    go_wp2_with (at_builtin; refine wpList_appRZ (xs := []) (k := 5) (bytes := 40) (z := .agg #[.int .i64 0, .int .i64 0, .int .i64 0, .int .i64 0, .int .i64 0]) Try.underlying34 (by kernel_rfl) rfl (by decide) (by decide) (fun _ => rfl) Wlk_one rfl base _ _ rfl rfl hb HO.out y rfl HY.out (by simp) ?_; intro v' w' hg hc; have HG := hid hg; have HC := hid hc; clear hg hc)
    go_ret
    exact ⟨_, rfl, HG.out, HC.out⟩
  · clear hown hy ht hcs hB
    simp only [maxLen] at hcm
    generalize hm : xs.length = n at *
    by_cases hcn : cap = n
    · subst hcn
      go_enter Try.func129, Try.ntmps129
      go_wp2_with (at_builtin; refine wpList_appRZ (xs := xs) (k := 5) (bytes := 40) (z := .agg #[.int .i64 0, .int .i64 0, .int .i64 0, .int .i64 0, .int .i64 0]) Try.underlying34 (by kernel_rfl) rfl (by decide) (by decide) (fun _ => rfl) Wlk_one rfl base _ _ rfl rfl hb (by rw [hm]; exact HO.out) y rfl HY.out (by omega) ?_; intro v' w' hg hc; have HG := hid hg; have HC := hid hc; clear hg hc)
      go_ret
      exact ⟨_, rfl, HG.out, HC.out⟩
    · go_enter Try.func129, Try.ntmps129
      go_wp2_with (at_builtin; refine wpList_appRZ (xs := xs) (k := 5) (bytes := 40) (z := .agg #[.int .i64 0, .int .i64 0, .int .i64 0, .int .i64 0, .int .i64 0]) Try.underlying34 (by kernel_rfl) rfl (by decide) (by decide) (fun _ => rfl) Wlk_one rfl base _ _ rfl rfl hb (by rw [hm]; exact HO.out) y rfl HY.out (by omega) ?_; intro v' w' hg hc; have HG := hid hg; have HC := hid hc; clear hg hc)
      go_ret
      exact ⟨_, rfl, HG.out, HC.out⟩
set_option maxRecDepth 100000 in
set_option maxHeartbeats 4000000 in
theorem insWlk_room (xs : List Wlk) (y : Wlk) (g cap i vb vc base : Nat) (cur : Array Value) (w : World) (hl : (xs.flatMap Wlk.cells).length = xs.length * 5) (hcap : xs.length < cap) (hcm : cap ≤ 9223372036854775807) (hg : base ≤ g) (hB : w.heap[g]? = some (.cells cur 43 (0, 0))) (hcs : cur.size = cap * 5) (ht : cur.toList.take (xs.length * 5) = xs.flatMap Wlk.cells)
    (hi : i < xs.length) (hy : w.heap[vb]? = some (.cells (Wlk.cells y).toArray 43 (0, 0))) (hvb : vb ≠ g) (hn : xs.length ≤ 1048576) :
    Calls Try.prog 129 #[.slice (some ⟨g, 0, none⟩) xs.length cap, .int .i64 i, .slice (some ⟨vb, 0, none⟩) 1 vc] w fun e w' => ∃ v', e = .returned v' ∧ w'.ownsRow base 43 5 v' (insAt xs i y).length ((insAt xs i y).flatMap Wlk.cells) ∧ Chg [g] w w' := by
  have hcl : ∀ x : Wlk, (Wlk.cells x).length = 5 := fun _ => rfl
  obtain ⟨D, hD⟩ : ∃ D, (xs.flatMap Wlk.cells).drop (i * 5) = D := ⟨_, rfl⟩
  have hDl : D.length = (xs.length - i) * 5 := by rw [← hD, List.length_drop, hl, Nat.sub_mul]
  have hone : ∀ v ∈ xs.flatMap Wlk.cells, v.oneCell' = true := fun v hv => by
    obtain ⟨x, _, hx⟩ := List.mem_flatMap.1 hv
    exact Wlk_one x v hx
  have hsz : ∀ (w : World), (Go.sizeOf 43).run Try.prog w = .ok 5 w := fun w => sizeOf_run (by kernel_rfl) w
  have hszi : (Try.prog.info? 43).map (·.size) = some 5 := by kernel_rfl
  have hov : ∀ lb cb, (callFunc 140 #[.slice (some ⟨vb, 0, none⟩) 1 vc, .slice (some ⟨g, (i + 1) * 5, none⟩) lb cb]).run Try.prog w = .ok (.value (.bool false)) w := fun lb cb => by
    rw [run_callFunc_extern Try.func140 (by kernel_rfl) (by kernel_rfl) (by kernel_rfl) (e := Extern.SlicesOverlaps.overlaps #[34, 34] #[4]) (by kernel_rfl),
      Lib.run_overlaps_apart w 34 4 43 Try.underlying34 5 hsz ⟨vb, 0, none⟩ ⟨g, (i + 1) * 5, none⟩ 1 vc lb cb hvb 43 43 5 cur.size (by simp [World.shape?, hy, Wlk.cells]) (by simp [World.shape?, hB]) (by omega) (frozen_blk hy 0) (frozen_blk hy 5)]
    rfl
  generalize hm : xs.length = n at *
  have HB := hid hB
  have HY := hid hy
  have HT := hid ht
  have HD := hid hD
  have HL := hid hl
  clear hB hy ht hD hl hone hszi
  go_enter Try.func129, Try.ntmps129
  go_wp2_with (simp only [hov])
  have hget : ∀ j u, D[j]? = some u → cur[i * 5 + j]? = some u := fun j u hu => by
    rw [← HD.out, List.getElem?_drop, ← HT.out, List.getElem?_take] at hu
    split at hu
    · simpa using hu
    · cases hu
  have hin : i * 5 + 5 ≤ n * 5 := by omega
  have hc1 := run_copy_k (P := Try.prog) w.drew 34 34 3 43 g ((i + 1) * 5) (n - i) (cap - (i + 1)) ⟨g, i * 5, none⟩ (n + 1 - i) (cap - i) 5 (n - i) D Try.underlying34 (by kernel_rfl)
    (by simp only [Nat.min_def]; split <;> omega) hDl (fun j u hu => by rw [ld_add]; exact (cell_blk (w := w.drew) HB.out _).trans (hget j u hu))
    (fun j hj => by obtain ⟨u, hu⟩ := some_blk (w := w.drew) HB.out ((i + 1) * 5 + j) (by omega); rw [hu]; rfl) (fun j hj => frozen_blk (w := w.drew) HB.out _)
    (fun v hv => by
      rw [← HD.out] at hv
      obtain ⟨x, _, hx⟩ := List.mem_flatMap.1 (List.mem_of_mem_drop hv)
      exact Wlk_one x v hx)
  have HC1 := hid hc1
  clear hc1 hget
  with_reducible refine wp_region_mixR (R := g) (by kernel_rfl) (by decide +kernel) ?_
  repeat (refine mix_pure rfl ?_; (first | go_big_quiet_skip | (go_big_quiet_want; go_big_quiet_op; go_big_quiet_on)); refine wpQuiet_nil ?_)
  refine mix_mk rfl (by rfl) (fun K hK => ?_)
  refine wp_copy_run _ _ _ _ _ rfl rfl rfl HC1.out ?_
  refine hK _ _ (extR_of ?_) ?_
  · exact Chg.setRow (by simp) _ (Chg.refl _ _)
  clear hK K
  refine mix_nil ?_
  obtain ⟨W1, hW1⟩ : ∃ W1, setRow w.drew g ((i + 1) * 5) D = W1 := ⟨_, rfl⟩
  have hb1 : W1.heap[g]? = some (.cells (putRow cur ((i + 1) * 5) D) 43 (0, 0)) := by rw [← hW1]; exact blk_setRow D HB.out
  have hch1 : Chg [g] w W1 := by rw [← hW1]; exact Chg.setRow (by simp) _ (Chg.drew (Chg.refl _ _))
  have hy1 : W1.heap[vb]? = some (.cells (Wlk.cells y).toArray 43 (0, 0)) := (hch1.block vb (lt_blk HY.out) (by simpa using hvb)).trans HY.out
  have hps : (putRow cur ((i + 1) * 5) D).size = cap * 5 := by rw [putRow_size, hcs]
  have hc2 := run_copy_k (P := Try.prog) W1 34 34 3 43 g (i * 5) (n + 1 - i) (cap - i) ⟨vb, 0, none⟩ 1 vc 5 1 (Wlk.cells y) Try.underlying34 (by kernel_rfl)
    (by simp only [Nat.min_def]; split <;> omega) (by rw [hcl, Nat.one_mul]) (fun j u hu => by rw [ld_add, Nat.zero_add, cell_blk hy1]; simpa using hu)
    (fun j hj => by rw [hcl] at hj; obtain ⟨u, hu⟩ := some_blk hb1 (i * 5 + j) (by omega); rw [hu]; rfl) (fun j hj => frozen_blk hb1 _) (Wlk_one y)
  rw [hW1]
  have HC2 := hid hc2
  have HB1 := hid hb1
  have HCH1 := hid hch1
  clear hW1 hb1 hch1 hy1 hc2 HC1
  go_wp2_with (simp only [HC2.out])
  go_ret
  have hb2 := blk_setRow (o := i * 5) (Wlk.cells y) HB1.out
  have hil : i ≤ xs.length := by omega
  refine ⟨.slice (some ⟨g, 0, none⟩) (n + 1) cap, rfl, ⟨by rw [flatMap_len hcl], .inr ⟨g, cap, _, by rw [insAt_len _ _ _ hil, hm], hg, hb2, by rw [insAt_len _ _ _ hil, hm]; omega, by simpa [maxLen] using hcm, by rw [putRow_size, hps], ?_⟩⟩, Chg.setRow (by simp) _ HCH1.out⟩
  rw [insAt_flat hcl _ _ _ hil, insAt_len _ _ _ hil, hm, Nat.add_mul, Nat.one_mul]
  have hNk : n * 5 + 5 ≤ cur.size := by rw [hcs]; have : (n + 1) * 5 ≤ cap * 5 := Nat.mul_le_mul_right _ hcap; omega
  refine ins_row HL.out rfl (by omega) (by rw [putRow_size, putRow_size]; exact hNk) fun j hj => ?_
  have := ins_shift (cy := Wlk.cells y) (p := i * 5) HL.out rfl (by omega) hNk HT.out j hj
  rw [← HD.out, show (i + 1) * 5 = i * 5 + 5 by omega]
  exact this
set_option maxRecDepth 100000 in
set_option maxHeartbeats 4000000 in
theorem insWlk_full (xs : List Wlk) (y : Wlk) (g cap i vb vc base : Nat) (cur : Array Value) (w : World) (hl : (xs.flatMap Wlk.cells).length = xs.length * 5) (hcap0 : xs.length ≤ cap) (hcap : cap < xs.length + 1) (hcm : cap ≤ 9223372036854775807) (hb0 : base ≤ w.heap.size) (hB : w.heap[g]? = some (.cells cur 43 (0, 0))) (hcs : cur.size = cap * 5) (ht : cur.toList.take (xs.length * 5) = xs.flatMap Wlk.cells)
    (hi : i < xs.length) (hy : w.heap[vb]? = some (.cells (Wlk.cells y).toArray 43 (0, 0))) (hn : xs.length ≤ 1048576) :
    Calls Try.prog 129 #[.slice (some ⟨g, 0, none⟩) xs.length cap, .int .i64 i, .slice (some ⟨vb, 0, none⟩) 1 vc] w fun e w' => ∃ v', e = .returned v' ∧ w'.ownsRow base 43 5 v' (insAt xs i y).length ((insAt xs i y).flatMap Wlk.cells) ∧ Chg [g] w w' := by
  have hcl : ∀ x : Wlk, (Wlk.cells x).length = 5 := fun _ => rfl
  obtain rfl : cap = xs.length := by omega
  clear hcap0 hcap
  generalize hm : xs.length = n at *
  obtain ⟨D, hD⟩ : ∃ D, (xs.flatMap Wlk.cells).drop (i * 5) = D := ⟨_, rfl⟩
  have hDl : D.length = (n - i) * 5 := by rw [← hD, List.length_drop, hl, Nat.sub_mul]
  have hone : ∀ v ∈ xs.flatMap Wlk.cells, v.oneCell' = true := fun v hv => by
    obtain ⟨x, _, hx⟩ := List.mem_flatMap.1 hv
    exact Wlk_one x v hx
  obtain ⟨i0, hi0, hz0, hs0, hbb0⟩ : ∃ i0, Try.prog.info? 43 = some i0 ∧ i0.zero = some (.agg #[.int .i64 0, .int .i64 0, .int .i64 0, .int .i64 0, .int .i64 0]) ∧ i0.size = 5 ∧ i0.bytes = 40 := ⟨_, rfl, rfl, rfl, rfl⟩
  have hA : (xs.flatMap Wlk.cells).take (i * 5) = (xs.take i).flatMap Wlk.cells := (flatMap_take hcl xs i (by omega)).symm
  have hold : (Builtin.firstCells i0.size i (.slice (some ⟨g, 0, none⟩) i n)).run Try.prog w.drew = .ok ((xs.flatMap Wlk.cells).take (i * 5)).toArray w.drew := by
    rw [hs0]
    refine run_firstCells_some w.drew 5 i ⟨g, 0, none⟩ i n _ (by rw [List.length_take, hl]; omega) (fun j v hj => ?_)
    rw [ld_add, Nat.zero_add]
    refine (cell_blk (w := w.drew) hB _).trans ?_
    rw [List.getElem?_take] at hj
    split at hj
    · rw [← ht, List.getElem?_take] at hj
      split at hj
      · simpa using hj
      · cases hj
    · cases hj
  have hrz : ∀ ty, (Builtin.append_ #[34, 3] ty #[.slice (some ⟨g, 0, none⟩) i n, .int .i64 ((n : Int) + 1 - (i : Int))]).run Try.prog w =
      .ok (.slice (some ⟨w.heap.size, 0, none⟩) (n + 1) (grownCap w (n + 1) n 43)) (w.drew.alloc (.cells (((xs.flatMap Wlk.cells).take (i * 5)).toArray ++ Builtin.zeroCells (Value.cells (.agg #[.int .i64 0, .int .i64 0, .int .i64 0, .int .i64 0, .int .i64 0])) (n + 1 - i) ++ Builtin.zeroCells (Value.cells (.agg #[.int .i64 0, .int .i64 0, .int .i64 0, .int .i64 0, .int .i64 0])) (grownCap w (n + 1) n 43 - (n + 1))) 43)) := fun ty => by
    have hik : i + (n + 1 - i) = n + 1 := by omega
    have hkk : (n : Int) + 1 - (i : Int) = ((n + 1 - i : Nat) : Int) := by omega
    have h := Lib.run_append_grow_zeros (P := Try.prog) w 34 3 ty 43 i0 _ .i64 .i64 Try.underlying34 Try.underlying3 hi0 hz0 (some ⟨g, 0, none⟩) i n _ hold (n + 1 - i) (by omega) (by omega) (by omega) (by omega) (by rw [hbb0]; omega) (by rw [hbb0, hik]; exact growslice_fits (by omega) (by omega))
    rw [hik] at h
    rw [hkk]
    exact h
  obtain ⟨G, hG⟩ : ∃ G, G = grownCap w (n + 1) n 43 := ⟨_, rfl⟩
  have hGn : n + 1 ≤ G := by rw [hG]; exact grownCap_ge w _ _ _
  have hG63 : G ≤ 9223372036854775807 := by
    have := grownCap_le_maxLen w (n + 1) n 43 (by unfold maxLen; omega)
    rw [← hG] at this
    unfold maxLen at this
    omega
  obtain ⟨ROW, hROW⟩ : ∃ ROW : Array Value, ROW = ((xs.flatMap Wlk.cells).take (i * 5)).toArray ++ Builtin.zeroCells (Value.cells (.agg #[.int .i64 0, .int .i64 0, .int .i64 0, .int .i64 0, .int .i64 0])) (n + 1 - i) ++ Builtin.zeroCells (Value.cells (.agg #[.int .i64 0, .int .i64 0, .int .i64 0, .int .i64 0, .int .i64 0])) (G - (n + 1)) := ⟨_, rfl⟩
  rw [← hG] at hrz
  rw [← hROW] at hrz
  have hzl : ∀ m, (Builtin.zeroCells (Value.cells (.agg #[.int .i64 0, .int .i64 0, .int .i64 0, .int .i64 0, .int .i64 0])) m).size = m * 5 := fun m => by
    simp [Builtin.zeroCells, Value.cells]
  have hRl : ROW.size = G * 5 := by
    rw [hROW, Array.size_append, Array.size_append, hzl, hzl, List.size_toArray, List.length_take, hl]
    omega
  have hRp : ∀ j, j < i * 5 → ROW[j]? = (xs.flatMap Wlk.cells)[j]? := fun j hj => by
    rw [hROW, Array.append_assoc, Array.getElem?_append, if_pos (by rw [List.size_toArray, List.length_take, hl]; omega), List.getElem?_toArray, List.getElem?_take, if_pos hj]
  obtain ⟨W1, hW1⟩ : ∃ W1, w.drew.alloc (.cells ROW 43) = W1 := ⟨_, rfl⟩
  obtain ⟨b, hbe⟩ : ∃ b, w.heap.size = b := ⟨_, rfl⟩
  have hb1 : W1.heap[b]? = some (.cells ROW 43 (0, 0)) := by rw [← hW1, ← hbe]; exact alloc_last rfl
  have hch1 : Chg [] w W1 := by rw [← hW1]; exact Chg.alloc (Chg.drew (Chg.refl _ _))
  have hvb := lt_blk hy
  have hgb := lt_blk hB
  have hbv : b ≠ vb := by omega
  have hbg : b ≠ g := by omega
  have hy1 : W1.heap[vb]? = some (.cells (Wlk.cells y).toArray 43 (0, 0)) := (hch1.block vb hvb (by simp)).trans hy
  have hg1 : W1.heap[g]? = some (.cells cur 43 (0, 0)) := (hch1.block g hgb (by simp)).trans hB
  rw [hW1, hbe] at hrz
  have hc2 := run_copy_k (P := Try.prog) W1 34 34 3 43 b (i * 5) (n + 1 - i) (G - i) ⟨vb, 0, none⟩ 1 vc 5 1 (Wlk.cells y) Try.underlying34 (by kernel_rfl)
    (by simp only [Nat.min_def]; split <;> omega) (by rw [hcl, Nat.one_mul]) (fun j u hu => by rw [ld_add, Nat.zero_add, cell_blk hy1]; simpa using hu)
    (fun j hj => by rw [hcl] at hj; obtain ⟨u, hu⟩ := some_blk hb1 (i * 5 + j) (by omega); rw [hu]; rfl) (fun j hj => frozen_blk hb1 _) (Wlk_one y)
  obtain ⟨W2, hW2⟩ : ∃ W2, setRow W1 b (i * 5) (Wlk.cells y) = W2 := ⟨_, rfl⟩
  rw [hW2] at hc2
  have hb2 : W2.heap[b]? = some (.cells (putRow ROW (i * 5) (Wlk.cells y)) 43 (0, 0)) := by rw [← hW2]; exact blk_setRow _ hb1
  have hch2 : Chg [b] W1 W2 := by rw [← hW2]; exact Chg.setRow (by simp) _ (Chg.refl _ _)
  have hg2 : W2.heap[g]? = some (.cells cur 43 (0, 0)) := (hch2.block g (lt_blk hg1) (by simpa using Ne.symm hbg)).trans hg1
  have hget : ∀ j u, D[j]? = some u → cur[i * 5 + j]? = some u := fun j u hu => by
    rw [← hD, List.getElem?_drop, ← ht, List.getElem?_take] at hu
    split at hu
    · simpa using hu
    · cases hu
  have hc3 := run_copy_k (P := Try.prog) W2.drew 34 34 3 43 b ((i + 1) * 5) (n - i) (G - (i + 1)) ⟨g, i * 5, none⟩ (n - i) (n - i) 5 (n - i) D Try.underlying34 (by kernel_rfl)
    (by simp only [Nat.min_def]; split <;> omega) hDl (fun j u hu => by rw [ld_add]; exact (cell_blk (w := W2.drew) hg2 _).trans (hget j u hu))
    (fun j hj => by obtain ⟨u, hu⟩ := some_blk (w := W2.drew) hb2 ((i + 1) * 5 + j) (by rw [putRow_size]; omega); rw [hu]; rfl) (fun j hj => frozen_blk (w := W2.drew) hb2 _)
    (fun v hv => hone v (List.mem_of_mem_drop (hD ▸ hv)))
  have HRZ := hid hrz
  have HC2 := hid hc2
  have HC3 := hid hc3
  have HB2 := hid hb2
  have HCH := hid (show Chg [] w W1 ∧ Chg [b] W1 W2 from ⟨hch1, hch2⟩)
  have HL := hid hl
  have HD := hid hD
  have HRL := hid hRl
  have HRP := hid hRp
  have HBE := hid hbe
  clear hrz hc2 hc3 hb2 hg2 hch2 hch1 hb1 hy1 hg1 hW2 hW1 hl hD hRl hRp hROW hzl hG hget hold hi0 hz0 hs0 hbb0 hA hone hB hy ht i0 hbe
  have hcn : ¬ (n = i) := by omega
  have hGi : ¬ (G = i) := by omega
  have hGi1 : ¬ (G = i + 1) := by omega
  go_enter Try.func129, Try.ntmps129
  go_wp2_with (first | (at_builtin; refine Lib.wpList_append_run _ rfl _ _ _ _ rfl _ _ rfl rfl _ _ (HRZ.out _) ?_) | (simp only [HC2.out]))
  with_reducible refine wp_region_mixR (R := b) (by kernel_rfl) (by decide +kernel) ?_
  repeat (refine mix_pure rfl ?_; (first | go_big_quiet_skip | (go_big_quiet_want; go_big_quiet_op; go_big_quiet_on)); refine wpQuiet_nil ?_)
  refine mix_mk rfl (by rfl) (fun K hK => ?_)
  refine wp_copy_run _ _ _ _ _ rfl rfl rfl HC3.out ?_
  refine hK _ _ (extR_of ?_) ?_
  · exact Chg.setRow (by simp) _ (Chg.refl _ _)
  clear hK K
  refine mix_nil ?_
  go_wp2
  go_ret
  have hb3 := blk_setRow (w := W2.drew) (o := (i + 1) * 5) D HB2.out
  have hil : i ≤ xs.length := by omega
  refine ⟨.slice (some ⟨b, 0, none⟩) (n + 1) G, rfl, ⟨by rw [flatMap_len hcl], .inr ⟨b, G, _, by rw [insAt_len _ _ _ hil, hm], by rw [← HBE.out]; exact hb0, hb3, by rw [insAt_len _ _ _ hil, hm]; omega, by simpa [maxLen] using hG63, by rw [putRow_size, putRow_size, HRL.out], ?_⟩⟩, ?_⟩
  · rw [insAt_flat hcl _ _ _ hil, insAt_len _ _ _ hil, hm, Nat.add_mul, Nat.one_mul]
    have hNk : n * 5 + 5 ≤ ROW.size := by rw [HRL.out]; have : (n + 1) * 5 ≤ G * 5 := Nat.mul_le_mul_right _ hGn; omega
    refine ins_row HL.out rfl (by omega) (by rw [putRow_size, putRow_size]; exact hNk) fun j hj => ?_
    have := ins_new (cy := Wlk.cells y) (p := i * 5) HL.out rfl (by omega) hNk HRP.out j hj
    rw [← HD.out, show (i + 1) * 5 = i * 5 + 5 by omega]
    exact this
  · have h1 : Chg [] w W2 := Chg.up HCH.out.1 HCH.out.2 (by simp [HBE.out])
    exact (Chg.up h1 (Chg.setRow (B := [b]) (by simp) D (Chg.drew (Chg.refl _ _))) (by simp [HBE.out])).mono (by simp)
/-- slices.Insert(s, i, y) of a row of one's own: a row of one's own with y at i. -/
theorem insWlk_c (xs : List Wlk) (y : Wlk) (v : Value) (i vb vc base : Nat) (w : World) (hown : w.ownsRow base 43 5 v xs.length (xs.flatMap Wlk.cells)) (hb : base ≤ w.heap.size) (hi : i ≤ xs.length) (hy : w.heap[vb]? = some (.cells (Wlk.cells y).toArray 43 (0, 0))) (hvb : ∀ g, v.ownBlock = some g → vb ≠ g) (hn : xs.length ≤ 1048576) :
    Calls Try.prog 129 #[v, .int .i64 i, .slice (some ⟨vb, 0, none⟩) 1 vc] w fun e w' => ∃ v', e = .returned v' ∧ w'.ownsRow base 43 5 v' (insAt xs i y).length ((insAt xs i y).flatMap Wlk.cells) ∧ Chg v.ownBlock.toList w w' := by
  rcases Nat.lt_or_ge i xs.length with hlt | hge
  · rcases hown.2 with ⟨_, h0⟩ | ⟨g, cap, cur, rfl, hg, hB, hc, hcm, hcs, ht⟩
    · omega
    · simp only [maxLen] at hcm
      rcases Nat.lt_or_ge xs.length cap with h1 | h1
      · exact insWlk_room xs y g cap i vb vc base cur w hown.1 h1 hcm hg hB hcs ht hlt hy (hvb g rfl) hn
      · exact insWlk_full xs y g cap i vb vc base cur w hown.1 hc (by omega) hcm hb hB hcs ht hlt hy hn
  · obtain rfl : i = xs.length := by omega
    exact insWlk_end xs y v vb vc base w hown hb hy hn
end Go.Proofs.Ytablgohncilmfaa

namespace Go.Proofs.Ytablgohncilmfaa
open Go.RowKit
set_option linter.unusedSimpArgs false
set_option linter.unusedVariables false

/-- The place of the first element that passes; the length for none. -/
def pos {α : Type} (p : α → Bool) : List α → Nat
  | [] => 0
  | x :: r => if p x then 0 else pos p r + 1
theorem pos_le {α : Type} (p : α → Bool) : ∀ xs : List α, pos p xs ≤ xs.length
  | [] => Nat.le_refl _
  | x :: r => by
    simp only [pos, List.length_cons]
    have := pos_le p r
    split <;> omega
theorem pos_hit {α : Type} {p : α → Bool} : ∀ {xs : List α} {k : Nat} {x : α}, xs[k]? = some x → (∀ y ∈ xs.take k, p y = false) → p x = true → pos p xs = k
  | [], _, _, h, _, _ => by simp at h
  | y :: ys, 0, x, h, _, hp => by
    obtain rfl : y = x := by simpa using h
    simp [pos, hp]
  | y :: ys, k + 1, x, h, ha, hp => by
    have h0 := ha y (by simp)
    simp only [pos, h0, Bool.false_eq_true, if_false]
    rw [pos_hit (k := k) (by simpa using h) (fun z hz => ha z (by simp [hz])) hp]
theorem pos_none {α : Type} {p : α → Bool} : ∀ {xs : List α}, (∀ y ∈ xs, p y = false) → pos p xs = xs.length
  | [], _ => rfl
  | y :: ys, h => by
    simp only [pos, h y (by simp), Bool.false_eq_true, if_false, List.length_cons]
    rw [pos_none fun z hz => h z (by simp [hz])]
def idGt (id : Int) (x : Wlk) : Bool := decide (id < x.id)
def putAt (xs : List Wlk) (y : Wlk) : Nat := pos (idGt y.id) (wlkOut xs y.id)
/-- A list with a walker. -/
def wlkPut (xs : List Wlk) (y : Wlk) : List Wlk := insAt (wlkOut xs y.id) (putAt xs y) y
theorem putAt_le (xs : List Wlk) (y : Wlk) : putAt xs y ≤ (wlkOut xs y.id).length := pos_le _ _
theorem wlkPut_len (xs : List Wlk) (y : Wlk) : (wlkPut xs y).length ≤ xs.length + 1 := by
  rw [wlkPut, insAt_len _ _ _ (putAt_le xs y)]
  have := wlkOut_len xs y.id; omega

set_option maxHeartbeats 1000000 in
theorem iWlkOut_r (xs : List Wlk) (a : Option Addr) (n c : Nat) (id : Int) (w : World) (hx : Re w (.sl sWlk) [.slice a n c] (.l (xs.map Wlk.dat))) (hn : n ≤ 1048576) :
    Calls Try.prog 110 #[.slice a n c, .int .i64 id] w fun e w' => ∃ v, e = .returned v ∧ Ext w w' ∧ w'.ownsRow w.heap.size 43 5 v (wlkOut xs id).length ((wlkOut xs id).flatMap Wlk.cells) := by
  have HX := hid hx
  clear hx
  go_enter Try.func110, Try.ntmps110
  go_wp2
  go_loopw [5, 10] (fun v i wr => ∃ (k : Nat), k ≤ n ∧ i = .int .i64 k ∧ wr.ownsRow w.heap.size 43 5 v ((xs.take k).filter (notId id)).length (((xs.take k).filter (notId id)).flatMap Wlk.cells) ∧ Ext w wr) (fun _ i _ => n - (intOf i).toNat)
  case atStart => exact ⟨0, Nat.zero_le _, rfl, by simpa using World.ownsRow_nil _ _ _ _, zq0⟩
  case round =>
    obtain ⟨k, hk, rfl, hg, t, rfl⟩ := hrel
    have HG := hid hg
    clear hg
    by_cases hlt : k < n
    · obtain ⟨x, b1, o1, hxk, rfl, hb1, f0, f1, f2, f3, f4⟩ := at_Wlk HX.out hlt
      have HK := hid hxk
      clear hxk
      have hb2 : b1 ≤ w.heap.size := Nat.le_of_lt hb1
      have hfl := filt_len (notId id) xs k
      cases hp : (x.id == id) with
      | true =>
        have HF := hid (filt_no (p := notId id) HK.out (by simp [notId, hp]))
        try go_wp2_with (first
            | fail
            | (
              with_reducible refine wp_region_mix (by kernel_rfl) (by decide +kernel) ?_
              repeat (first
                | (refine mix_pure rfl ?_; (first | go_big_quiet_skip | (go_big_quiet_want; go_big_quiet_op; go_big_quiet_on)); refine wpQuiet_nil ?_)
                | (refine mix_skip (by rfl) ?_; (try simp only [Act.put, List.setIfInBounds_toArray, List.set_cons_zero, List.set_cons_succ]))
                | (refine mix_mk rfl (by rfl) (fun K hK => ?_); (first | (go_simp; first | skip)); (show K _ _); refine hK _ _ (show Ext _ _ from zq0) ?_; clear hK K; (try simp only [Act.put, List.setIfInBounds_toArray, List.set_cons_zero, List.set_cons_succ])))
              refine mix_nil ?_)
            | (
              with_reducible refine wp_region_ext (by kernel_rfl) (by kernel_rfl) ?_
              repeat (first | go_big_quiet_skip | (go_big_quiet_want; go_big_quiet_op; first | go_big_quiet_on | (apply Exists.intro; refine ⟨fun _ => ?_, ?_⟩; (fail); (try rw [h1]); (try rw [h2]); (try rw [h3]); (try rw [h4]); (try rw [p1]); (try rw [p2]); (try rw [p3]); (try rw [p4]); (try rw [r1]); (try rw [r2]); (try rw [r3]); (try rw [r4]); (try rw [r5]); (try rw [r6]); (try rw [q3]); (try rw [q4]); (try rw [hp]); (try rw [hq]); go_big_quiet_on)))
              refine wpQuiet_nil ?_
              rintro _ ⟨tq, rfl⟩))
        go_roundw
        case rel => exact ⟨k + 1, by omega, by go_num, by rw [HF.out]; exact (by repeat (first | with_reducible apply ownsRow_alloc | exact HG.out | with_reducible apply ownsRow_drew | with_reducible apply ownsRow_ext)), zq0⟩
        case measure => simp [intOf]; omega
      | false =>
        have HF := hid (filt_yes (p := notId id) HK.out (by simp [notId, hp]))
        go_wp2_with (first | ((refine wpList_app_Wlk (w0 := w) (xs := (xs.take k).filter (notId id)) rfl _ _ rfl rfl zq0 (by repeat (first | with_reducible apply ownsRow_alloc | exact HG.out | with_reducible apply ownsRow_drew | with_reducible apply ownsRow_ext)) (x) rfl (alloc_last (by simp [go_sem])) (by omega) ?_); intro v' t' hg; have HG' := hid hg; clear hg))
        go_roundw
        case rel => exact ⟨k + 1, by omega, by go_num, by rw [HF.out]; exact HG'.out, zq0⟩
        case measure => simp [intOf]; omega
    · have HE := hid (show xs.take k = xs from List.take_of_length_le (by rw [← HX.out.len]; omega))
      go_wp2
      go_ret
      rw [HE.out] at HG
      exact ⟨_, rfl, zq0, HG.out⟩
set_option maxHeartbeats 1000000 in
theorem sWlkOut_r (xs : List Wlk) (a : Option Addr) (n c : Nat) (id : Int) (w : World) (hx : Re w (.sl sWlk) [.slice a n c] (.l (xs.map Wlk.dat))) (hn : n ≤ 1048576) :
    Calls Try.prog 126 #[.slice a n c, .int .i64 id] w fun e w' => ∃ v, e = .returned v ∧ Ext w w' ∧ w'.ownsRow w.heap.size 43 5 v (wlkOut xs id).length ((wlkOut xs id).flatMap Wlk.cells) := by
  have HX := hid hx
  clear hx
  go_enter Try.func126, Try.ntmps126
  go_wp2
  go_loopw [5, 6] (fun v i wr => ∃ (k : Nat), k ≤ n ∧ i = .int .i64 k ∧ wr.ownsRow w.heap.size 43 5 v ((xs.take k).filter (notId id)).length (((xs.take k).filter (notId id)).flatMap Wlk.cells) ∧ Ext w wr) (fun _ i _ => n - (intOf i).toNat)
  case atStart => exact ⟨0, Nat.zero_le _, rfl, by simpa using World.ownsRow_made _ #[] 0 (Nat.le_refl _) (Nat.zero_le _) rfl, zq0⟩
  case round =>
    obtain ⟨k, hk, rfl, hg, t, rfl⟩ := hrel
    have HG := hid hg
    clear hg
    by_cases hlt : k < n
    · obtain ⟨x, b1, o1, hxk, rfl, hb1, f0, f1, f2, f3, f4⟩ := at_Wlk HX.out hlt
      have HK := hid hxk
      clear hxk
      have hb2 : b1 ≤ w.heap.size := Nat.le_of_lt hb1
      have hfl := filt_len (notId id) xs k
      cases hp : (x.id == id) with
      | true =>
        have HF := hid (filt_no (p := notId id) HK.out (by simp [notId, hp]))
        try go_wp2_with (first
            | fail
            | (
              with_reducible refine wp_region_mix (by kernel_rfl) (by decide +kernel) ?_
              repeat (first
                | (refine mix_pure rfl ?_; (first | go_big_quiet_skip | (go_big_quiet_want; go_big_quiet_op; go_big_quiet_on)); refine wpQuiet_nil ?_)
                | (refine mix_skip (by rfl) ?_; (try simp only [Act.put, List.setIfInBounds_toArray, List.set_cons_zero, List.set_cons_succ]))
                | (refine mix_mk rfl (by rfl) (fun K hK => ?_); (first | (go_simp; first | skip)); (show K _ _); refine hK _ _ (show Ext _ _ from zq0) ?_; clear hK K; (try simp only [Act.put, List.setIfInBounds_toArray, List.set_cons_zero, List.set_cons_succ])))
              refine mix_nil ?_)
            | (
              with_reducible refine wp_region_ext (by kernel_rfl) (by kernel_rfl) ?_
              repeat (first | go_big_quiet_skip | (go_big_quiet_want; go_big_quiet_op; first | go_big_quiet_on | (apply Exists.intro; refine ⟨fun _ => ?_, ?_⟩; (fail); (try rw [h1]); (try rw [h2]); (try rw [h3]); (try rw [h4]); (try rw [p1]); (try rw [p2]); (try rw [p3]); (try rw [p4]); (try rw [r1]); (try rw [r2]); (try rw [r3]); (try rw [r4]); (try rw [r5]); (try rw [r6]); (try rw [q3]); (try rw [q4]); (try rw [hp]); (try rw [hq]); go_big_quiet_on)))
              refine wpQuiet_nil ?_
              rintro _ ⟨tq, rfl⟩))
        go_roundw
        case rel => exact ⟨k + 1, by omega, by go_num, by rw [HF.out]; exact (by repeat (first | with_reducible apply ownsRow_alloc | exact HG.out | with_reducible apply ownsRow_drew | with_reducible apply ownsRow_ext)), zq0⟩
        case measure => simp [intOf]; omega
      | false =>
        have HF := hid (filt_yes (p := notId id) HK.out (by simp [notId, hp]))
        go_wp2_with (first | ((refine wpList_app_Wlk (w0 := w) (xs := (xs.take k).filter (notId id)) rfl _ _ rfl rfl zq0 (by repeat (first | with_reducible apply ownsRow_alloc | exact HG.out | with_reducible apply ownsRow_drew | with_reducible apply ownsRow_ext)) (x) rfl (alloc_last (by simp [go_sem])) (by omega) ?_); intro v' t' hg; have HG' := hid hg; clear hg))
        go_roundw
        case rel => exact ⟨k + 1, by omega, by go_num, by rw [HF.out]; exact HG'.out, zq0⟩
        case measure => simp [intOf]; omega
    · have HE := hid (show xs.take k = xs from List.take_of_length_le (by rw [← HX.out.len]; omega))
      go_wp2
      go_ret
      rw [HE.out] at HG
      exact ⟨_, rfl, zq0, HG.out⟩

theorem put1_c (x : Wlk) (b : Nat) (id : Int) (w : World) (hb : b < w.heap.size) (hc : w.cell? ⟨b, 0, none⟩ = some (.int .i64 id)) :
    Calls Try.prog 128 #[.agg #[.int .i64 x.id, .int .i64 x.at_, .int .i64 x.coins, .int .i64 x.seq, .int .i64 x.last], .pointer (some ⟨b, 0, none⟩)] w fun e w' => e = .returned (.bool (idGt id x)) ∧ Ext w w' := by
  go_enter Try.func128, Try.ntmps128
  try go_wp2_with (first
      | fail
      | (
        with_reducible refine wp_region_mix (by kernel_rfl) (by decide +kernel) ?_
        repeat (first
          | (refine mix_pure rfl ?_; (first | go_big_quiet_skip | (go_big_quiet_want; go_big_quiet_op; go_big_quiet_on)); refine wpQuiet_nil ?_)
          | (refine mix_skip (by rfl) ?_; (try simp only [Act.put, List.setIfInBounds_toArray, List.set_cons_zero, List.set_cons_succ]))
          | (refine mix_mk rfl (by rfl) (fun K hK => ?_); (first | (go_simp; first | skip)); (show K _ _); refine hK _ _ (show Ext _ _ from zq0) ?_; clear hK K; (try simp only [Act.put, List.setIfInBounds_toArray, List.set_cons_zero, List.set_cons_succ])))
        refine mix_nil ?_)
      | (
        with_reducible refine wp_region_ext (by kernel_rfl) (by kernel_rfl) ?_
        repeat (first | go_big_quiet_skip | (go_big_quiet_want; go_big_quiet_op; first | go_big_quiet_on | (apply Exists.intro; refine ⟨fun _ => ?_, ?_⟩; (fail); (try rw [h1]); (try rw [h2]); (try rw [h3]); (try rw [h4]); (try rw [p1]); (try rw [p2]); (try rw [p3]); (try rw [p4]); (try rw [r1]); (try rw [r2]); (try rw [r3]); (try rw [r4]); (try rw [r5]); (try rw [r6]); (try rw [q3]); (try rw [q4]); (try rw [hp]); (try rw [hq]); go_big_quiet_on)))
        refine wpQuiet_nil ?_
        rintro _ ⟨tq, rfl⟩))
  go_ret
  exact ⟨rfl, zq0⟩

set_option maxHeartbeats 1000000 in
theorem idxP_c (xs : List Wlk) (a : Option Addr) (n c b : Nat) (id q : Int) (w : World) (hx : Re w (.sl sWlk) [.slice a n c] (.l (xs.map Wlk.dat))) (hn : n ≤ 1048576) (hb : b < w.heap.size) (hc : w.cell? ⟨b, 0, none⟩ = some (.int .i64 id)) (hq : (if pos (idGt id) xs < xs.length then ((pos (idGt id) xs : Nat) : Int) else -1) = q) :
    Calls Try.prog 119 #[.slice a n c, .func (.func 128) #[] #[.pointer (some ⟨b, 0, none⟩)]] w fun e w' => e = .returned (.int .i64 q) ∧ Ext w w' := by
  have HX := hid hx
  have HQ := hid hq
  clear hx hq
  go_enter Try.func119, Try.ntmps119
  go_wp2
  go_loopw [8] (fun i wr => ∃ k : Nat, k ≤ n ∧ i = .int .i64 k ∧ (∀ y ∈ xs.take k, idGt id y = false) ∧ Ext w wr) (fun i _ => n - (intOf i).toNat)
  case atStart => exact ⟨0, Nat.zero_le _, rfl, by simp, Ext.refl _⟩
  case round =>
    obtain ⟨k, hk, rfl, hal, t, rfl⟩ := hrel
    have HA := hid hal
    clear hal
    by_cases hlt : k < n
    · obtain ⟨x, b1, o1, hxk, rfl, hb1, f0, f1, f2, f3, f4⟩ := at_Wlk HX.out hlt
      have HK := hid hxk
      clear hxk
      cases hp : idGt id x with
      | true =>
        have E := hid (show q = (k : Int) by rw [← HQ.out, pos_hit HK.out HA.out hp, if_pos (by have := HX.out.len; omega)])
        try go_wp2_with (first
            | (go_at_call 128; (with_reducible refine (put1_c x b id _ (by simp [ext_size]; omega) (by rw [ext_cell' _ _ _ _ hb]; exact hc)).mono ?_); rintro e w' ⟨rfl, t, rfl⟩)
            | (
              with_reducible refine wp_region_mix (by kernel_rfl) (by decide +kernel) ?_
              repeat (first
                | (refine mix_pure rfl ?_; (first | go_big_quiet_skip | (go_big_quiet_want; go_big_quiet_op; go_big_quiet_on)); refine wpQuiet_nil ?_)
                | (refine mix_skip (by rfl) ?_; (try simp only [Act.put, List.setIfInBounds_toArray, List.set_cons_zero, List.set_cons_succ]))
                | (refine mix_mk rfl (by rfl) (fun K hK => ?_); (first | (go_simp; first | (go_at_call 128; (with_reducible refine (put1_c x b id _ (by simp [ext_size]; omega) (by rw [ext_cell' _ _ _ _ hb]; exact hc)).mono ?_); rintro e w' ⟨rfl, t, rfl⟩) | skip)); (show K _ _); refine hK _ _ (show Ext _ _ from zq0) ?_; clear hK K; (try simp only [Act.put, List.setIfInBounds_toArray, List.set_cons_zero, List.set_cons_succ])))
              refine mix_nil ?_)
            | (
              with_reducible refine wp_region_ext (by kernel_rfl) (by kernel_rfl) ?_
              repeat (first | go_big_quiet_skip | (go_big_quiet_want; go_big_quiet_op; first | go_big_quiet_on | (apply Exists.intro; refine ⟨fun _ => ?_, ?_⟩; (fail); (try rw [h1]); (try rw [h2]); (try rw [h3]); (try rw [h4]); (try rw [p1]); (try rw [p2]); (try rw [p3]); (try rw [p4]); (try rw [r1]); (try rw [r2]); (try rw [r3]); (try rw [r4]); (try rw [r5]); (try rw [r6]); (try rw [q3]); (try rw [q4]); (try rw [hp]); (try rw [hq]); go_big_quiet_on)))
              refine wpQuiet_nil ?_
              rintro _ ⟨tq, rfl⟩))
        go_ret
        exact ⟨ret_int E.out.symm, zq0⟩
      | false =>
        try go_wp2_with (first
            | (go_at_call 128; (with_reducible refine (put1_c x b id _ (by simp [ext_size]; omega) (by rw [ext_cell' _ _ _ _ hb]; exact hc)).mono ?_); rintro e w' ⟨rfl, t, rfl⟩)
            | (
              with_reducible refine wp_region_mix (by kernel_rfl) (by decide +kernel) ?_
              repeat (first
                | (refine mix_pure rfl ?_; (first | go_big_quiet_skip | (go_big_quiet_want; go_big_quiet_op; go_big_quiet_on)); refine wpQuiet_nil ?_)
                | (refine mix_skip (by rfl) ?_; (try simp only [Act.put, List.setIfInBounds_toArray, List.set_cons_zero, List.set_cons_succ]))
                | (refine mix_mk rfl (by rfl) (fun K hK => ?_); (first | (go_simp; first | (go_at_call 128; (with_reducible refine (put1_c x b id _ (by simp [ext_size]; omega) (by rw [ext_cell' _ _ _ _ hb]; exact hc)).mono ?_); rintro e w' ⟨rfl, t, rfl⟩) | skip)); (show K _ _); refine hK _ _ (show Ext _ _ from zq0) ?_; clear hK K; (try simp only [Act.put, List.setIfInBounds_toArray, List.set_cons_zero, List.set_cons_succ])))
              refine mix_nil ?_)
            | (
              with_reducible refine wp_region_ext (by kernel_rfl) (by kernel_rfl) ?_
              repeat (first | go_big_quiet_skip | (go_big_quiet_want; go_big_quiet_op; first | go_big_quiet_on | (apply Exists.intro; refine ⟨fun _ => ?_, ?_⟩; (fail); (try rw [h1]); (try rw [h2]); (try rw [h3]); (try rw [h4]); (try rw [p1]); (try rw [p2]); (try rw [p3]); (try rw [p4]); (try rw [r1]); (try rw [r2]); (try rw [r3]); (try rw [r4]); (try rw [r5]); (try rw [r6]); (try rw [q3]); (try rw [q4]); (try rw [hp]); (try rw [hq]); go_big_quiet_on)))
              refine wpQuiet_nil ?_
              rintro _ ⟨tq, rfl⟩))
        go_roundw
        case rel => exact ⟨k + 1, by omega, by go_num, take_step HA.out HK.out hp, zq0⟩
        case measure => simp [intOf]; omega
    · have HE := hid (show q = -1 by rw [← HQ.out, pos_none (take_end HA.out (by have := HX.out.len; omega)), if_neg (by omega)])
      go_wp2
      go_ret
      exact ⟨ret_int HE.out.symm, zq0⟩
theorem row_reW {w : World} {base : Nat} {a : Option Addr} {n c : Nat} {xs : List Wlk} (hm : xs.length ≤ 9223372036854775807) (h : w.ownsRow base 43 5 (.slice a n c) xs.length (xs.flatMap Wlk.cells)) : n = xs.length ∧ Re w (.sl sWlk) [.slice a n c] (.l (xs.map Wlk.dat)) := by
  obtain ⟨a9, c9, e9, h9⟩ := own_row (dat := Wlk.dat) (sch := sWlk) (k := 5) rfl (fun w x => own_Wlk_mk w x) (fun _ => rfl) hm h
  obtain ⟨rfl, rfl, rfl⟩ := Value.slice.inj e9
  exact ⟨rfl, h9.re⟩
set_option maxRecDepth 100000 in
set_option maxHeartbeats 4000000 in
theorem iWlkPut_c (xs : List Wlk) (y : Wlk) (a : Option Addr) (n c : Nat) (w : World) (hx : Re w (.sl sWlk) [.slice a n c] (.l (xs.map Wlk.dat))) (hn : n ≤ 1048576) :
    Calls Try.prog 102 #[.slice a n c, .agg #[.int .i64 y.id, .int .i64 y.at_, .int .i64 y.coins, .int .i64 y.seq, .int .i64 y.last]] w (MadeX w 43 5 Wlk.cells (wlkPut xs y)) := by
  have HX := hid hx
  have HL := hid hx.len
  clear hx
  have hol : (wlkOut xs y.id).length ≤ 1048576 := by have := wlkOut_len xs y.id; have := HL.out; omega
  obtain ⟨p, hp⟩ : ∃ p, putAt xs y = p := ⟨_, rfl⟩
  have HP := hid hp
  have hple : p ≤ (wlkOut xs y.id).length := hp ▸ putAt_le xs y
  clear hp
  by_cases hlt : p < (wlkOut xs y.id).length
  · have HQ := hid (show (if pos (idGt y.id) (wlkOut xs y.id) < (wlkOut xs y.id).length then ((pos (idGt y.id) (wlkOut xs y.id) : Nat) : Int) else -1) = (p : Int) by rw [show pos (idGt y.id) (wlkOut xs y.id) = p from HP.out, if_pos hlt])
    go_enter Try.func102, Try.ntmps102
    go_wp2_with (first
      | (go_at_call 110; ((with_reducible refine (iWlkOut_r xs _ _ _ _ _ (HX.out.of zq0) (by omega)).mono ?_); rintro e w' ⟨v, rfl, ⟨t, rfl⟩, hrow⟩; obtain ⟨sa, sn, sc, rfl⟩ := row_slice hrow; obtain ⟨hsn, hre⟩ := row_reW (by omega) hrow; have HG := hid (ownsRow_le (base' := w.heap.size) hrow (by simp)); have HRo := hid hre; have hsm : sn ≤ 1048576 := (by omega); have HSN := hid hsn; clear hrow hre hsn))
      | (go_at_call 119; (with_reducible refine (idxP_c (wlkOut xs y.id) _ _ _ _ y.id (p : Int) _ (HRo.out.of zq0) hsm zq2 (by simp [go_sem]) HQ.out).mono ?_); rintro e w' ⟨rfl, t2, rfl⟩)
      | (go_at_call 129; ((refine (insWlk_c (wlkOut xs y.id) y _ p _ _ w.heap.size _ (ownsRow_of HG.out zq0) zq2 hple (by exact alloc_last zq2) (fun g hg => Nat.ne_of_gt (Nat.lt_of_lt_of_le (HG.out.lt g hg).2 zq2)) (by omega)).mono ?_); rintro e w' ⟨v2, rfl, hrow2, hch⟩; obtain ⟨t3, rfl⟩ : Ext w w' := Ext.of_below (Below.chg (w0 := w) (Ext.below zq0) hch (fun g hg => (HG.out.lt g (by simpa using hg)).1)); obtain ⟨ra, rn, rc, rfl⟩ := row_slice hrow2; obtain ⟨hrn, hre2⟩ := row_reW (by rw [insAt_len _ _ _ hple]; omega) hrow2; have HR2 := hid hre2; have hrm : rn ≤ 2097152 := (by rw [hrn, insAt_len _ _ _ hple]; omega); have HRN := hid hrn; clear hrow2 hch hre2 hrn))
      | (go_at_call 100; ((with_reducible refine (iCloneWlk_x (insAt (wlkOut xs y.id) p y) _ _ _ _ (HR2.out.of zq0) hrm).mono ?_); rintro e w' ⟨a4, c4, B4, rfl, ⟨t4, rfl⟩, hx4, hb4⟩; have HX4 := hid hx4; have HB4 := hid hb4; clear hx4 hb4)))
    go_ret
    rw [show wlkPut xs y = insAt (wlkOut xs y.id) p y by have h9 := HSN.out; first | (rw [wlkPut, HP.out]; done) | (rw [wlkPut, HP.out]; congr 1; omega)]
    exact ⟨a4, c4, B4, rfl, zq0, HX4.out.of zq0, fun b hb => Nat.le_trans zq2 (HB4.out b hb)⟩
  · have hpe : p = (wlkOut xs y.id).length := by omega
    have HQ := hid (show (if pos (idGt y.id) (wlkOut xs y.id) < (wlkOut xs y.id).length then ((pos (idGt y.id) (wlkOut xs y.id) : Nat) : Int) else -1) = -1 by rw [show pos (idGt y.id) (wlkOut xs y.id) = p from HP.out, if_neg hlt])
    go_enter Try.func102, Try.ntmps102
    go_wp2_with (first
      | (go_at_call 110; ((with_reducible refine (iWlkOut_r xs _ _ _ _ _ (HX.out.of zq0) (by omega)).mono ?_); rintro e w' ⟨v, rfl, ⟨t, rfl⟩, hrow⟩; obtain ⟨sa, sn, sc, rfl⟩ := row_slice hrow; obtain ⟨hsn, hre⟩ := row_reW (by omega) hrow; have HG := hid (ownsRow_le (base' := w.heap.size) hrow (by simp)); have HRo := hid hre; have hsm : sn ≤ 1048576 := (by omega); have HSN := hid hsn; clear hrow hre hsn))
      | (go_at_call 119; (with_reducible refine (idxP_c (wlkOut xs y.id) _ _ _ _ y.id (-1) _ (HRo.out.of zq0) hsm zq2 (by simp [go_sem]) HQ.out).mono ?_); rintro e w' ⟨rfl, t2, rfl⟩)
      | (go_at_call 129; ((refine (insWlk_c (wlkOut xs y.id) y _ sn _ _ w.heap.size _ (ownsRow_of HG.out zq0) zq2 (show sn ≤ (wlkOut xs y.id).length from Nat.le_of_eq HSN.out) (by exact alloc_last zq2) (fun g hg => Nat.ne_of_gt (Nat.lt_of_lt_of_le (HG.out.lt g hg).2 zq2)) (by omega)).mono ?_); rintro e w' ⟨v2, rfl, hrow2, hch⟩; obtain ⟨t3, rfl⟩ : Ext w w' := Ext.of_below (Below.chg (w0 := w) (Ext.below zq0) hch (fun g hg => (HG.out.lt g (by simpa using hg)).1)); obtain ⟨ra, rn, rc, rfl⟩ := row_slice hrow2; obtain ⟨hrn, hre2⟩ := row_reW (by rw [insAt_len _ _ _ (show sn ≤ (wlkOut xs y.id).length from Nat.le_of_eq HSN.out)]; omega) hrow2; have HR2 := hid hre2; have hrm : rn ≤ 2097152 := (by rw [hrn, insAt_len _ _ _ (show sn ≤ (wlkOut xs y.id).length from Nat.le_of_eq HSN.out)]; omega); have HRN := hid hrn; clear hrow2 hch hre2 hrn))
      | (go_at_call 100; ((with_reducible refine (iCloneWlk_x (insAt (wlkOut xs y.id) sn y) _ _ _ _ (HR2.out.of zq0) hrm).mono ?_); rintro e w' ⟨a4, c4, B4, rfl, ⟨t4, rfl⟩, hx4, hb4⟩; have HX4 := hid hx4; have HB4 := hid hb4; clear hx4 hb4)))
    go_ret
    rw [show wlkPut xs y = insAt (wlkOut xs y.id) sn y by have h9 := HSN.out; first | (rw [wlkPut, HP.out]; done) | (rw [wlkPut, HP.out]; congr 1; omega)]
    exact ⟨a4, c4, B4, rfl, zq0, HX4.out.of zq0, fun b hb => Nat.le_trans zq2 (HB4.out b hb)⟩
/-- What the reference has built behind k elements. -/
def outK (r : List Wlk) (p : Nat) (y : Wlk) (k : Nat) : List Wlk := if p < k then insAt (r.take k) p y else r.take k
theorem outK_len (r : List Wlk) (p : Nat) (y : Wlk) (k : Nat) : (outK r p y k).length ≤ r.length + 1 := by
  unfold outK
  split
  · simp only [insAt, List.length_append, List.length_cons, List.length_take, List.length_drop]; omega
  · rw [List.length_take]; omega
theorem outK_done {r : List Wlk} {p : Nat} {y x : Wlk} {k : Nat} (h : p < k) (hx : r[k]? = some x) : outK r p y (k + 1) = outK r p y k ++ [x] := by
  have hk := (List.getElem?_eq_some_iff.1 hx).1
  unfold outK
  rw [if_pos (by omega), if_pos h, insAt, insAt, List.take_add_one, hx]
  simp only [Option.toList_some]
  rw [List.take_append_of_le_length (by simp; omega), List.drop_append_of_le_length (by simp; omega)]
  simp
theorem outK_at {r : List Wlk} {y x : Wlk} {k : Nat} (hx : r[k]? = some x) : outK r k y (k + 1) = (outK r k y k ++ [y]) ++ [x] := by
  have hk := (List.getElem?_eq_some_iff.1 hx).1
  unfold outK
  rw [if_pos (by omega), if_neg (by omega), insAt, List.take_add_one, hx]
  simp only [Option.toList_some]
  have e : (List.take k r).length = k := by simp; omega
  rw [List.take_append_of_le_length (by omega), List.drop_append_of_le_length (by omega), List.take_of_length_le (by omega), List.drop_of_length_le (by omega)]
  simp
theorem outK_lt {r : List Wlk} {p : Nat} {y x : Wlk} {k : Nat} (h : k < p) (hx : r[k]? = some x) : outK r p y (k + 1) = outK r p y k ++ [x] := by
  unfold outK
  rw [if_neg (by omega), if_neg (by omega), List.take_add_one, hx]; rfl
theorem pos_at {α : Type} {p : α → Bool} : ∀ {xs : List α} {k : Nat} {x : α}, xs[k]? = some x → (k < pos p xs → p x = false) ∧ (k = pos p xs → p x = true)
  | [], _, _, h => by simp at h
  | z :: zs, 0, x, h => by
    obtain rfl : z = x := by simpa using h
    simp only [pos]
    cases hz : p z <;> simp
  | z :: zs, k + 1, x, h => by
    have := pos_at (p := p) (k := k) (xs := zs) (x := x) (by simpa using h)
    simp only [pos]
    cases hz : p z with
    | true => simp
    | false =>
      simp only [Bool.false_eq_true, if_false]
      exact ⟨fun h1 => this.1 (by omega), fun h1 => this.2 (by omega)⟩
set_option maxRecDepth 100000 in
set_option maxHeartbeats 4000000 in
theorem sWlkPut_c (xs : List Wlk) (y : Wlk) (a : Option Addr) (n c : Nat) (w : World) (hx : Re w (.sl sWlk) [.slice a n c] (.l (xs.map Wlk.dat))) (hn : n ≤ 1048576) :
    Calls Try.prog 95 #[.slice a n c, .agg #[.int .i64 y.id, .int .i64 y.at_, .int .i64 y.coins, .int .i64 y.seq, .int .i64 y.last]] w (MadeX w 43 5 Wlk.cells (wlkPut xs y)) := by
  have HX := hid hx
  have HL := hid hx.len
  clear hx
  have hol : (wlkOut xs y.id).length ≤ 1048576 := by have := wlkOut_len xs y.id; have := HL.out; omega
  obtain ⟨p, hp⟩ : ∃ p, putAt xs y = p := ⟨_, rfl⟩
  have HP := hid hp
  have hple : p ≤ (wlkOut xs y.id).length := hp ▸ putAt_le xs y
  clear hp
  go_enter Try.func95, Try.ntmps95
  go_wp2_with (go_at_call 126; (with_reducible refine (sWlkOut_r xs _ _ _ _ _ (HX.out.of zq0) (by omega)).mono ?_); rintro e w' ⟨v, rfl, ⟨t, rfl⟩, hrow⟩; obtain ⟨sa, sn, sc, rfl⟩ := row_slice hrow; obtain ⟨hsn, hre⟩ := row_reW (by omega) hrow; have HRo := hid hre; have hsm : sn ≤ 1048576 := (by omega); have HSN := hid hsn; clear hrow hre hsn)
  refine wp_gen fun B0 hB0 => ?_
  have EB : Ext w B0 := by rw [hB0]; ((try simp only [ext_drew]); (try simp only [ext_ext]); repeat (first | exact Ext.refl _ | with_reducible apply Ext.add | with_reducible apply Ext.dr | apply Ext.alloc | apply Ext.ext | apply Ext.drew | refine Ext.trans ?_ (by assumption)))
  have HRb := hid (show Re B0 (.sl sWlk) [.slice sa sn sc] (.l ((wlkOut xs y.id).map Wlk.dat)) by rw [hB0]; exact HRo.out.of zq0)
  have lM : w.heap.size < B0.heap.size := by rw [hB0]; ((try simp [go_sem]) <;> (try simp [Xt.add]) <;> omega)
  have cM0 : B0.cell? ⟨w.heap.size, 0, none⟩ = some (.int .i64 y.id) := by rw [hB0]; simp [go_sem]
  have cM1 : B0.cell? ⟨w.heap.size, 1, none⟩ = some (.int .i64 y.at_) := by rw [hB0]; simp [go_sem]
  have cM2 : B0.cell? ⟨w.heap.size, 2, none⟩ = some (.int .i64 y.coins) := by rw [hB0]; simp [go_sem]
  have cM3 : B0.cell? ⟨w.heap.size, 3, none⟩ = some (.int .i64 y.seq) := by rw [hB0]; simp [go_sem]
  have cM4 : B0.cell? ⟨w.heap.size, 4, none⟩ = some (.int .i64 y.last) := by rw [hB0]; simp [go_sem]
  have HG0 := hid (show RowX B0 43 5 Wlk.cells (.slice (some ⟨w.heap.size + 1 + t.bs.size, 0, none⟩) 0 0) [] [] from .inl ⟨rfl, rfl, _, rfl, .inr ⟨_, rfl⟩⟩)
  clear hB0 HRo
  go_loopw [6, 7, 8] (fun v d i wr => ∃ (k : Nat) (B : List Nat), k ≤ sn ∧ i = .int .i64 k ∧ d = .bool (decide (p < k)) ∧ RowX wr 43 5 Wlk.cells v (outK (wlkOut xs y.id) p y k) B ∧ (∀ b ∈ B, B0.heap.size ≤ b) ∧ Ext B0 wr) (fun _ _ i _ => sn - (intOf i).toNat)
  case atStart => exact ⟨0, [], Nat.zero_le _, rfl, by simp, HG0.out, by simp, zq0⟩
  case round =>
    obtain ⟨k, B, hk, rfl, rfl, hg, hgb, t2, rfl⟩ := hrel
    have HG := hid hg
    have HGb := hid hgb
    have hol2 := outK_len (wlkOut xs y.id) p y k
    clear hg hgb
    by_cases hlt : k < sn
    · obtain ⟨x, b1, o1, hxk, rfl, hb1, f0, f1, f2, f3, f4⟩ := at_Wlk HRb.out hlt
      have HK := hid hxk
      obtain ⟨g1, g2⟩ := pos_at (p := idGt y.id) hxk
      rw [show pos (idGt y.id) (wlkOut xs y.id) = p from HP.out] at g1 g2
      clear hxk
      rcases Nat.lt_trichotomy p k with hpk | hpk | hpk
      · have hd : decide (p < k) = true := by simp [hpk]
        have HD := hid (show decide (p < k + 1) = true by simp; omega)
        have HE := hid (outK_done (y := y) hpk HK.out)
        clear g1 g2
        go_wp2
        with_reducible refine wp_region_ext (by kernel_rfl) (by kernel_rfl) ?_
        repeat (go_big_quiet_step (fail))
        refine wpQuiet_nil ?_
        rintro _ ⟨tq, rfl⟩
        go_wp2_with (first | ((refine wpList_appXE (cells := Wlk.cells) (k := 5) (bytes := 40) (z := .agg #[.int .i64 0, .int .i64 0, .int .i64 0, .int .i64 0, .int .i64 0]) Try.underlying34 (by kernel_rfl) rfl (by decide) (by decide) (fun _ => rfl) (fun x u hu => by simp only [Wlk.cells, List.mem_cons, List.not_mem_nil, or_false] at hu; rcases hu with rfl | rfl | rfl | rfl | rfl <;> rfl) rfl (B0) _ _ rfl rfl zq0 (xs := outK (wlkOut xs y.id) p y k) (HG.out.of zq0) HGb.out (x) rfl (alloc_last zq2) (by omega) ?_); intro v' t' B' hg hb; have HG' := hid hg; have HG'b := hid hb; clear hg hb))
        go_roundw
        case rel => exact ⟨k + 1, _, by omega, by go_num, by rw [HD.out], by rw [HE.out]; exact HG'.out, HG'b.out, zq0⟩
        case measure => simp [intOf]; omega
      · subst hpk
        have hd : decide (p < p) = false := by simp
        have HD := hid (show decide (p < p + 1) = true by simp)
        have HE := hid (outK_at (y := y) HK.out)
        have hgt : decide (y.id < x.id) = true := g2 rfl
        have hol3 : (outK (wlkOut xs y.id) p y p ++ [y]).length ≤ 4194304 := by rw [List.length_append]; simp; omega
        clear g1 g2
        go_wp2
        with_reducible refine wp_region_ext (by kernel_rfl) (by kernel_rfl) ?_
        repeat (go_big_quiet_step (fail))
        refine wpQuiet_nil ?_
        rintro _ ⟨tq, rfl⟩
        go_wp2_with (first | ((refine wpList_appXE (cells := Wlk.cells) (k := 5) (bytes := 40) (z := .agg #[.int .i64 0, .int .i64 0, .int .i64 0, .int .i64 0, .int .i64 0]) Try.underlying34 (by kernel_rfl) rfl (by decide) (by decide) (fun _ => rfl) (fun x u hu => by simp only [Wlk.cells, List.mem_cons, List.not_mem_nil, or_false] at hu; rcases hu with rfl | rfl | rfl | rfl | rfl <;> rfl) rfl (B0) _ _ rfl rfl zq0 (xs := outK (wlkOut xs y.id) p y p) (HG.out.of zq0) HGb.out (y) rfl (alloc_last zq2) (by omega) ?_); intro v' t' B' hg hb; have HG' := hid hg; have HG'b := hid hb; clear hg hb) | ((refine wpList_appXE (cells := Wlk.cells) (k := 5) (bytes := 40) (z := .agg #[.int .i64 0, .int .i64 0, .int .i64 0, .int .i64 0, .int .i64 0]) Try.underlying34 (by kernel_rfl) rfl (by decide) (by decide) (fun _ => rfl) (fun x u hu => by simp only [Wlk.cells, List.mem_cons, List.not_mem_nil, or_false] at hu; rcases hu with rfl | rfl | rfl | rfl | rfl <;> rfl) rfl (B0) _ _ rfl rfl zq0 (xs := outK (wlkOut xs y.id) p y p ++ [y]) (HG'.out.of zq0) HG'b.out (x) rfl (alloc_last zq2) (by omega) ?_); intro v' t' B' hg hb; have HG'' := hid hg; have HG''b := hid hb; clear hg hb))
        go_roundw
        case rel => exact ⟨p + 1, _, by omega, by go_num, by rw [HD.out], by rw [HE.out]; exact HG''.out, HG''b.out, zq0⟩
        case measure => simp [intOf]; omega
      · have hd : decide (p < k) = false := by simp; omega
        have HD := hid (show decide (p < k + 1) = false by simp; omega)
        have HE := hid (outK_lt (y := y) hpk HK.out)
        have hgt : decide (y.id < x.id) = false := g1 hpk
        clear g1 g2
        go_wp2
        with_reducible refine wp_region_ext (by kernel_rfl) (by kernel_rfl) ?_
        repeat (go_big_quiet_step (fail))
        refine wpQuiet_nil ?_
        rintro _ ⟨tq, rfl⟩
        go_wp2_with (first | ((refine wpList_appXE (cells := Wlk.cells) (k := 5) (bytes := 40) (z := .agg #[.int .i64 0, .int .i64 0, .int .i64 0, .int .i64 0, .int .i64 0]) Try.underlying34 (by kernel_rfl) rfl (by decide) (by decide) (fun _ => rfl) (fun x u hu => by simp only [Wlk.cells, List.mem_cons, List.not_mem_nil, or_false] at hu; rcases hu with rfl | rfl | rfl | rfl | rfl <;> rfl) rfl (B0) _ _ rfl rfl zq0 (xs := outK (wlkOut xs y.id) p y k) (HG.out.of zq0) HGb.out (x) rfl (alloc_last zq2) (by omega) ?_); intro v' t' B' hg hb; have HG' := hid hg; have HG'b := hid hb; clear hg hb))
        go_roundw
        case rel => exact ⟨k + 1, _, by omega, by go_num, by rw [HD.out], by rw [HE.out]; exact HG'.out, HG'b.out, zq0⟩
        case measure => simp [intOf]; omega
    · have hke : k = sn := by omega
      subst hke
      by_cases hpk : p < k
      · have hd : decide (p < k) = true := by simp [hpk]
        have HE := hid (show outK (wlkOut xs y.id) p y k = wlkPut xs y by rw [outK, if_pos hpk, List.take_of_length_le (Nat.le_of_eq HSN.out.symm), wlkPut, HP.out])
        obtain ⟨a5, c5, rfl⟩ := HG.out.slice
        rw [HE.out] at HG ⊢
        go_wp2
        go_ret
        exact ⟨a5, c5, B, rfl, zq0, HG.out, fun b hb => Nat.le_trans (Nat.le_of_lt lM) (HGb.out b hb)⟩
      · have hd : decide (p < k) = false := by simp; omega
        have HE := hid (show outK (wlkOut xs y.id) p y k ++ [y] = wlkPut xs y by
          rw [outK, if_neg hpk, List.take_of_length_le (Nat.le_of_eq HSN.out.symm), wlkPut, HP.out, show p = (wlkOut xs y.id).length by have := HSN.out; omega, insAt_end])
        go_wp2_with (first | ((refine wpList_appXE (cells := Wlk.cells) (k := 5) (bytes := 40) (z := .agg #[.int .i64 0, .int .i64 0, .int .i64 0, .int .i64 0, .int .i64 0]) Try.underlying34 (by kernel_rfl) rfl (by decide) (by decide) (fun _ => rfl) (fun x u hu => by simp only [Wlk.cells, List.mem_cons, List.not_mem_nil, or_false] at hu; rcases hu with rfl | rfl | rfl | rfl | rfl <;> rfl) rfl (B0) _ _ rfl rfl zq0 (xs := outK (wlkOut xs y.id) p y k) (HG.out.of zq0) HGb.out (y) rfl (alloc_last zq2) (by omega) ?_); intro v' t' B' hg hb; have HG' := hid hg; have HG'b := hid hb; clear hg hb))
        go_ret
        rw [HE.out] at HG'
        obtain ⟨a5, c5, rfl⟩ := HG'.out.slice
        exact ⟨a5, c5, _, rfl, zq0, HG'.out, fun b hb => Nat.le_trans (Nat.le_of_lt lM) (HG'b.out b hb)⟩
end Go.Proofs.Ytablgohncilmfaa

namespace Go.Proofs.Ytablgohncilmfaa
open Go.RowKit
set_option linter.unusedSimpArgs false
set_option linter.unusedVariables false

theorem adj_pairwise {α : Type} {r : α → α → Prop} (ht : ∀ a b c, r a b → r b c → r a c) {xs : List α} (h : ∀ (i : Nat) (x y : α), xs[i]? = some x → xs[i + 1]? = some y → r x y) : xs.Pairwise r := by
  rw [List.pairwise_iff_getElem]
  intro i j hi hj hij
  obtain ⟨d, rfl⟩ : ∃ d, j = i + 1 + d := ⟨j - i - 1, by omega⟩
  induction d with
  | zero => exact h i _ _ (List.getElem?_eq_getElem hi) (List.getElem?_eq_getElem hj)
  | succ d ih => exact ht _ _ _ (ih (by omega) (by omega)) (h (i + 1 + d) _ _ (List.getElem?_eq_getElem (by omega)) (List.getElem?_eq_getElem hj))
def Asc (xs : List Wlk) : Prop := xs.Pairwise (fun a b => a.id < b.id)
theorem wlkAll_iff {m : Mp} {xs : List Wlk} : wlkAll m xs = true ↔ (∀ x ∈ xs, wlkOk m x = true) ∧ Asc xs := by
  unfold wlkAll
  rw [allI_iff]
  constructor
  · intro h
    refine ⟨fun x hx => ?_, adj_pairwise (r := fun a b : Wlk => a.id < b.id) (fun a b c h1 h2 => Int.lt_trans h1 h2) fun i x y hx hy => ?_⟩
    · obtain ⟨k, hk⟩ := List.getElem?_of_mem hx
      have := h k x hk
      simp only [wlkAt, Bool.and_eq_true] at this
      exact this.1
    · have := h (i + 1) y hy
      simp only [wlkAt, Bool.and_eq_true, Nat.zero_add] at this
      rw [ordAt_succ hx] at this
      simpa using this.2
  · rintro ⟨h1, h2⟩ k x hx
    simp only [wlkAt, Bool.and_eq_true, Nat.zero_add]
    refine ⟨h1 x (List.mem_of_getElem? hx), ?_⟩
    cases k with
    | zero => rfl
    | succ k =>
      obtain ⟨y, hy⟩ : ∃ y, xs[k]? = some y := ⟨_, List.getElem?_eq_getElem (by have := (List.getElem?_eq_some_iff.1 hx).1; omega)⟩
      rw [ordAt_succ hy, decide_eq_true_eq]
      obtain ⟨hk, rfl⟩ := List.getElem?_eq_some_iff.1 hx
      obtain ⟨hk', rfl⟩ := List.getElem?_eq_some_iff.1 hy
      exact List.pairwise_iff_getElem.1 h2 k (k + 1) hk' hk (by omega)
theorem home_iff {m : Mp} {c : Int} {xs : List Wlk} : allI (inCell m c) 0 xs = true ↔ ∀ x ∈ xs, plcCell m x.at_ = c := by
  rw [allI_iff]
  constructor
  · intro h x hx
    obtain ⟨k, hk⟩ := List.getElem?_of_mem hx
    simpa [inCell] using h k x hk
  · intro h k x hx
    simpa [inCell] using h x (List.mem_of_getElem? hx)
end Go.Proofs.Ytablgohncilmfaa

namespace Go.Proofs.Ytablgohncilmfaa
open Go.RowKit
set_option linter.unusedSimpArgs false
set_option linter.unusedVariables false

theorem asc_split {xs : List Wlk} {k : Nat} {x : Wlk} (h : Asc xs) (hx : xs[k]? = some x) : ∃ A B, xs = A ++ x :: B ∧ A.length = k ∧ (∀ a ∈ A, a.id < x.id) ∧ (∀ b ∈ B, x.id < b.id) ∧ Asc A ∧ Asc B ∧ ∀ a ∈ A, ∀ b ∈ B, a.id < b.id := by
  obtain ⟨hk, hx'⟩ := List.getElem?_eq_some_iff.1 hx
  have e : xs = xs.take k ++ x :: xs.drop (k + 1) := by
    have := List.take_append_drop k xs
    rw [← hx', ← List.drop_eq_getElem_cons hk]
    exact this.symm
  refine ⟨xs.take k, xs.drop (k + 1), e, by simp; omega, ?_⟩
  unfold Asc at h
  rw [e] at h
  rw [List.pairwise_append, List.pairwise_cons] at h
  exact ⟨fun a ha => h.2.2 a ha x (by simp), h.2.1.1, h.1, h.2.1.2, fun a ha b hb => h.2.2 a ha b (by simp [hb])⟩
theorem pos_app {α : Type} {p : α → Bool} {A B : List α} (hA : ∀ a ∈ A, p a = false) : pos p (A ++ B) = A.length + pos p B := by
  induction A with
  | nil => simp
  | cons a A ih =>
    simp only [List.cons_append, pos, hA a (by simp), Bool.false_eq_true, if_false, List.length_cons]
    rw [ih fun b hb => hA b (by simp [hb])]; omega
theorem pos_zero {p : Wlk → Bool} {B : List Wlk} (hB : ∀ b ∈ B, p b = true) : pos p B = 0 := by
  cases B with
  | nil => rfl
  | cons b B => simp [pos, hB b (by simp)]
theorem out_mid {A B : List Wlk} {x : Wlk} {id : Int} (hx : x.id = id) (hA : ∀ a ∈ A, a.id < id) (hB : ∀ b ∈ B, id < b.id) : wlkOut (A ++ x :: B) id = A ++ B := by
  unfold wlkOut
  rw [List.filter_append, List.filter_cons]
  have e1 : A.filter (notId id) = A := List.filter_eq_self.2 fun a ha => by have := hA a ha; simp [notId]; omega
  have e2 : B.filter (notId id) = B := List.filter_eq_self.2 fun a ha => by have := hB a ha; simp [notId]; omega
  rw [e1, e2]
  simp [notId, hx]
theorem put_set {xs : List Wlk} {k : Nat} {x y : Wlk} (h : Asc xs) (hx : xs[k]? = some x) (hid : x.id = y.id) : wlkPut xs y = xs.set k y := by
  obtain ⟨A, B, rfl, rfl, hA, hB, _⟩ := asc_split h hx
  have e : wlkOut (A ++ x :: B) y.id = A ++ B := out_mid hid (fun a ha => by have := hA a ha; omega) (fun b hb => by have := hB b hb; omega)
  have ep : pos (idGt y.id) (A ++ B) = A.length := by
    rw [pos_app fun a ha => by have := hA a ha; simp [idGt]; omega, pos_zero fun b hb => by have := hB b hb; simp [idGt]; omega, Nat.add_zero]
  rw [wlkPut, putAt, e, ep, insAt]
  simp
theorem asc_set {xs : List Wlk} {k : Nat} {x y : Wlk} (h : Asc xs) (hx : xs[k]? = some x) (hid : x.id = y.id) : Asc (xs.set k y) := by
  obtain ⟨A, B, rfl, rfl, hA, hB, a1, a2, a3⟩ := asc_split h hx
  unfold Asc at a1 a2 ⊢
  rw [List.set_append_right _ _ (Nat.le_refl _), Nat.sub_self, List.set_cons_zero, List.pairwise_append, List.pairwise_cons]
  refine ⟨a1, ⟨fun b hb => by rw [← hid]; exact hB b hb, a2⟩, fun a ha b hb => ?_⟩
  rcases List.mem_cons.1 hb with rfl | hb
  · rw [← hid]; exact hA a ha
  · exact a3 a ha b hb
/-- Who is found, in a list in order: just the one that is there. -/
theorem get_at {xs : List Wlk} {k : Nat} {x : Wlk} (h : Asc xs) (hx : xs[k]? = some x) : wlkGet xs x.id = x ∧ wlkHas xs x.id = true ∧ wlkPlace xs x.id = (k : Int) := by
  obtain ⟨A, B, rfl, rfl, hA, hB, _⟩ := asc_split h hx
  have ht : ∀ y ∈ (A ++ x :: B).take A.length, idIs x.id y = false := fun y hy => by
    rw [List.take_left'] at hy
    · have := hA y hy; simp [idIs]; omega
    · rfl
  have hf := find_hit hx ht (by simp [idIs])
  refine ⟨by rw [wlkGet, hf]; rfl, by rw [wlkHas, hf]; rfl, ?_⟩
  rw [wlkPlace, idxFrom_hit hx ht (by simp [idIs])]; simp
theorem get_no {xs : List Wlk} {id : Int} (h : ∀ x ∈ xs, x.id ≠ id) : wlkGet xs id = wlkZ ∧ wlkHas xs id = false ∧ wlkPlace xs id = -1 := by
  have hn : ∀ y ∈ xs, idIs id y = false := fun y hy => by simpa [idIs] using h y hy
  exact ⟨by rw [wlkGet, find_miss hn]; rfl, by rw [wlkHas, find_miss hn]; rfl, by rw [wlkPlace, idxFrom_none hn]⟩
theorem has_or (xs : List Wlk) (id : Int) : (∀ x ∈ xs, x.id ≠ id) ∨ ∃ (k : Nat) (x : Wlk), xs[k]? = some x ∧ x.id = id := by
  rcases place_lt (p := idIs id) (xs := xs) (i := 0) with ⟨_, h2⟩ | ⟨k, x, _, h2, _, h4⟩
  · exact .inl fun x hx => by simpa [idIs] using h2 x hx
  · exact .inr ⟨k, x, h2, by simpa [idIs] using h4⟩

/-- A parcel put under way. -/
def postC (c : Cll) (s : Int) (p : Pcl) : Cll := { c with outs := c.outs.set s.toNat (outsAt c s ++ [{ p with n := nextAt c s }]), next := c.next.set s.toNat (nextAt c s + 1) }
def putC (c : Cll) (y : Wlk) : Cll := { c with wk := wlkPut c.wk y }
def setC (c : Cll) (k : Nat) (y : Wlk) : Cll := { c with wk := c.wk.set k y }
def sStep (m : Mp) (c : Cll) (w : Wlk) (side : Int) : Cll × Int :=
  if plcCell m (w.at_ + (2 * side - 1)) = -1 then (c, 2)
  else if plcCell m (w.at_ + (2 * side - 1)) = c.cell then (putC c { w with at_ := w.at_ + (2 * side - 1) }, 1)
  else if nextAt c side = 5000 then (c, 2)
  else ({ postC c side ⟨0, 1, { w with at_ := w.at_ + (2 * side - 1), last := 1 }, 0⟩ with wk := wlkOut c.wk w.id }, 1)
def sGive (c : Cll) (w : Wlk) (to n : Int) : Cll × Int :=
  if wlkHas c.wk to = false then (c, 4)
  else if w.coins < n then (c, 3)
  else if (wlkGet c.wk to).coins + n > 99 then (c, 5)
  else (putC (putC c { w with coins := w.coins - n }) { wlkGet c.wk to with coins := (wlkGet c.wk to).coins + n }, 1)
def sDrop (c : Cll) (w : Wlk) (n : Int) : Cll × Int :=
  if w.coins < n then (c, 3) else if c.ground + n > 900 then (c, 5)
  else ({ putC c { w with coins := w.coins - n } with ground := c.ground + n }, 1)
def sPick (c : Cll) (w : Wlk) (n : Int) : Cll × Int :=
  if c.ground < n then (c, 6) else if w.coins + n > 99 then (c, 5)
  else ({ putC c { w with coins := w.coins + n } with ground := c.ground - n }, 1)
def sThrow (m : Mp) (c : Cll) (w : Wlk) (side n : Int) : Cll × Int :=
  if plcEdge m w.at_ side = false then (c, 7) else if w.coins < n then (c, 3) else if nextAt c side = 5000 then (c, 5)
  else (putC (postC c side ⟨0, 2, wlkZ, n⟩) { w with coins := w.coins - n }, 1)
def sKind (m : Mp) (c : Cll) (w : Wlk) (o : Ord) : Cll × Int :=
  if o.kind = 1 then sStep m c w o.to_ else if o.kind = 2 then sGive c w o.to_ o.n else if o.kind = 3 then sDrop c w o.n
  else if o.kind = 4 then sPick c w o.n else if o.kind = 5 then sThrow m c w o.to_ o.n else (c, 1)
def sEnd (o : Ord) (y : Cll × Int) : Cll × Int := if wlkHas y.1.wk o.who = true then (putC y.1 { wlkGet y.1.wk o.who with last := y.2 }, y.2) else y
def sDo (m : Mp) (c : Cll) (o : Ord) : Cll × Int :=
  if wlkHas c.wk o.who = false then (c, 9)
  else if o.seq < (wlkGet c.wk o.who).seq then (c, 8)
  else if o.seq = (wlkGet c.wk o.who).seq then (c, (wlkGet c.wk o.who).last)
  else sEnd o (sKind m (putC c { wlkGet c.wk o.who with seq := o.seq }) { wlkGet c.wk o.who with seq := o.seq } o)
def iLast (c : Cll) (k : Nat) (y : Wlk) (code : Int) : Cll × Int := (setC c k { y with last := code }, code)
def iStep (m : Mp) (c : Cll) (k : Nat) (y : Wlk) (side : Int) : Cll × Int :=
  if plcCell m (y.at_ + (2 * side - 1)) = -1 then iLast c k y 2
  else if plcCell m (y.at_ + (2 * side - 1)) = c.cell then iLast c k { y with at_ := y.at_ + (2 * side - 1) } 1
  else if nextAt c side = 5000 then iLast c k y 2
  else ({ postC c side ⟨0, 1, { y with at_ := y.at_ + (2 * side - 1), last := 1 }, 0⟩ with wk := wlkOut c.wk y.id }, 1)
def iGive (c : Cll) (k : Nat) (y : Wlk) (to n : Int) : Cll × Int :=
  if wlkHas c.wk to = false then iLast c k y 4
  else if y.coins < n then iLast c k y 3
  else if (wlkGet c.wk to).coins + n > 99 then iLast c k y 5
  else iLast (setC c (wlkPlace c.wk to).toNat { wlkGet c.wk to with coins := (wlkGet c.wk to).coins + n }) k { y with coins := y.coins - n } 1
def iDrop (c : Cll) (k : Nat) (y : Wlk) (n : Int) : Cll × Int :=
  if y.coins < n then iLast c k y 3 else if c.ground + n > 900 then iLast c k y 5
  else iLast { c with ground := c.ground + n } k { y with coins := y.coins - n } 1
def iPick (c : Cll) (k : Nat) (y : Wlk) (n : Int) : Cll × Int :=
  if c.ground < n then iLast c k y 6 else if y.coins + n > 99 then iLast c k y 5
  else iLast { c with ground := c.ground - n } k { y with coins := y.coins + n } 1
def iThrow (m : Mp) (c : Cll) (k : Nat) (y : Wlk) (side n : Int) : Cll × Int :=
  if plcEdge m y.at_ side = false then iLast c k y 7 else if y.coins < n then iLast c k y 3 else if nextAt c side = 5000 then iLast c k y 5
  else iLast (postC c side ⟨0, 2, wlkZ, n⟩) k { y with coins := y.coins - n } 1
def iKind (m : Mp) (c : Cll) (k : Nat) (y : Wlk) (o : Ord) : Cll × Int :=
  if o.kind = 1 then iStep m c k y o.to_ else if o.kind = 2 then iGive c k y o.to_ o.n else if o.kind = 3 then iDrop c k y o.n
  else if o.kind = 4 then iPick c k y o.n else if o.kind = 5 then iThrow m c k y o.to_ o.n else iLast c k y 1

theorem set_at {xs : List Wlk} {k : Nat} {x y : Wlk} (hx : xs[k]? = some x) : (xs.set k y)[k]? = some y := by
  rw [List.getElem?_set_self (List.getElem?_eq_some_iff.1 hx).1]
theorem end_put {o : Ord} {c : Cll} {k : Nat} {x y : Wlk} {n : Int} (h : Asc c.wk) (hx : c.wk[k]? = some x) (hid : x.id = o.who) (hy : y = x) : sEnd o (c, n) = (setC c k { y with last := n }, n) := by
  subst hy
  obtain ⟨g1, g2, _⟩ := get_at h hx
  rw [sEnd, ← hid]
  simp only [g2, if_true, g1, putC, setC, put_set h hx (show y.id = ({ y with last := n } : Wlk).id from rfl)]
theorem putC_set {c : Cll} {k : Nat} {x y : Wlk} (h : Asc c.wk) (hx : c.wk[k]? = some x) (hid : x.id = y.id) : putC c y = setC c k y := by
  unfold putC setC
  rw [put_set h hx hid]
theorem next_setC (c : Cll) (k : Nat) (y : Wlk) (s : Int) : nextAt (setC c k y) s = nextAt c s := rfl
theorem do_hit {m : Mp} {c : Cll} {o : Ord} {k : Nat} {x : Wlk} (h : Asc c.wk) (hx : c.wk[k]? = some x) (hid : x.id = o.who) (hk : o.kind = 2 → o.to_ ≠ o.who) :
    sEnd o (sKind m (putC c { x with seq := o.seq }) { x with seq := o.seq } o) = iKind m c k { x with seq := o.seq } o := by
  have ep : putC c { x with seq := o.seq } = setC c k { x with seq := o.seq } := by rw [putC, setC, put_set (y := { x with seq := o.seq }) h hx rfl]
  rw [ep]
  obtain ⟨y, hy⟩ : ∃ y : Wlk, ({ x with seq := o.seq } : Wlk) = y := ⟨_, rfl⟩
  have hyid : x.id = y.id := by rw [← hy]
  rw [hy]
  have h1 : Asc (setC c k y).wk := asc_set h hx hyid
  have hx1 : (setC c k y).wk[k]? = some y := set_at hx
  have hyw : y.id = o.who := by omega
  have e0 : ∀ n, sEnd o (setC c k y, n) = iLast c k y n := fun n => by
    rw [end_put h1 hx1 hyw rfl]
    simp only [iLast, setC, List.set_set]
  have e1 : ∀ (d : Cll) (z : Wlk) (n : Int), d.wk = (setC c k y).wk → z.id = y.id → sEnd o (putC d z, n) = iLast d k z n := fun d z n hd hz => by
    have hz1 : Asc d.wk := hd ▸ h1
    have hz2 : d.wk[k]? = some y := hd ▸ hx1
    have ez : putC d z = setC d k z := putC_set hz1 hz2 hz.symm
    rw [ez, end_put (k := k) (x := z) (y := z) (asc_set hz1 hz2 hz.symm) (set_at hz2) (by omega) rfl]
    simp only [iLast, setC, List.set_set]
  have e2 : ∀ (d : Cll) (z : Wlk) (n : Int), d.wk = (setC c k y).wk → z.id = y.id → iLast d k z n = iLast { d with wk := c.wk } k z n := fun d z n hd hz => by
    simp only [iLast, setC, hd, List.set_set]
  unfold sKind iKind
  split
  · -- a step
    unfold sStep iStep
    rw [show (setC c k y).cell = c.cell from rfl, next_setC]
    split
    · exact e0 2
    · split
      · exact Eq.trans (e1 _ _ _ rfl rfl) (Eq.trans (e2 _ _ _ rfl rfl) rfl)
      · split
        · exact e0 2
        · have eo : wlkOut (setC c k y).wk y.id = wlkOut c.wk y.id := by
            obtain ⟨A, B, hAB, hAk, hA, hB, _⟩ := asc_split h hx
            rw [show (setC c k y).wk = A ++ y :: B by simp only [setC, hAB]; rw [← hAk]; simp, hAB,
              out_mid rfl (fun a ha => by have := hA a ha; omega) (fun b hb => by have := hB b hb; omega), out_mid hyid (fun a ha => by have := hA a ha; omega) (fun b hb => by have := hB b hb; omega)]
          have en : ∀ z ∈ wlkOut c.wk y.id, z.id ≠ o.who := fun z hz => by
            have := (List.mem_filter.1 hz).2
            rw [← hyw]; simpa [notId] using this
          rw [sEnd, if_neg (by simp only [eo]; rw [(get_no en).2.1]; decide), eo]
          rfl
  · split
    · -- a gift
      rename_i h2
      unfold sGive iGive
      have hne := hk h2
      rcases has_or c.wk o.to_ with hno | ⟨j, z, hj, hjid⟩
      · have hno1 : ∀ u ∈ (setC c k y).wk, u.id ≠ o.to_ := fun u hu => by
          rcases List.mem_or_eq_of_mem_set hu with hu | rfl
          · exact hno u hu
          · omega
        rw [if_pos (get_no hno1).2.1, if_pos (get_no hno).2.1]
        exact e0 4
      · have hjk : k ≠ j := fun e => by
          subst e
          rw [hx] at hj
          obtain rfl := Option.some.inj hj
          omega
        have hj1 : (setC c k y).wk[j]? = some z := by simp only [setC]; rw [List.getElem?_set_ne hjk]; exact hj
        obtain ⟨g1, g2, g3⟩ := get_at h hj
        obtain ⟨f1, f2, f3⟩ := get_at h1 hj1
        rw [hjid] at g1 g2 g3 f1 f2 f3
        rw [g1, g2, g3, f1, f2]
        simp only [Bool.true_eq_false, if_false]
        split
        · exact e0 3
        · split
          · exact e0 5
          · obtain ⟨z2, hz2⟩ : ∃ z2 : Wlk, ({ z with coins := z.coins + o.n } : Wlk) = z2 := ⟨_, rfl⟩
            obtain ⟨y2, hy2⟩ : ∃ y2 : Wlk, ({ y with coins := y.coins - o.n } : Wlk) = y2 := ⟨_, rfl⟩
            have iz : z.id = z2.id := by rw [← hz2]
            have iy : y.id = y2.id := by rw [← hy2]
            rw [hz2, hy2]
            have a1 : putC (setC c k y) y2 = setC (setC c k y) k y2 := putC_set h1 hx1 iy
            have a1' : Asc (setC (setC c k y) k y2).wk := asc_set h1 hx1 iy
            have a2 : (setC (setC c k y) k y2).wk[j]? = some z := by simp only [setC]; rw [List.getElem?_set_ne hjk, List.getElem?_set_ne hjk]; exact hj
            have a3 : putC (setC (setC c k y) k y2) z2 = setC (setC (setC c k y) k y2) j z2 := putC_set a1' a2 iz
            have a4 : Asc (setC (setC (setC c k y) k y2) j z2).wk := asc_set a1' a2 iz
            have a5 : (setC (setC (setC c k y) k y2) j z2).wk[k]? = some y2 := by simp only [setC]; rw [List.getElem?_set_ne (Ne.symm hjk)]; exact set_at (set_at hx)
            rw [a1, a3, end_put (k := k) (x := y2) (y := y2) a4 a5 (by omega) rfl]
            simp only [iLast, setC, Int.toNat_natCast, List.set_set]
            try rw [List.set_comm _ _ (Ne.symm hjk)]
            try simp only [List.set_set]
            try rw [List.set_comm _ _ hjk]
            try rw [List.set_comm _ _ (Ne.symm hjk)]
            try simp only [List.set_set]
            try rw [List.set_comm _ _ hjk]
    · split
      · unfold sDrop iDrop
        rw [show (setC c k y).ground = c.ground from rfl]
        split
        · exact e0 3
        · split
          · exact e0 5
          · rw [show ({ putC (setC c k y) { y with coins := y.coins - o.n } with ground := c.ground + o.n } : Cll) = putC { setC c k y with ground := c.ground + o.n } { y with coins := y.coins - o.n } from rfl]
            exact Eq.trans (e1 _ _ _ rfl rfl) (Eq.trans (e2 _ _ _ rfl rfl) rfl)
      · split
        · unfold sPick iPick
          rw [show (setC c k y).ground = c.ground from rfl]
          split
          · exact e0 6
          · split
            · exact e0 5
            · rw [show ({ putC (setC c k y) { y with coins := y.coins + o.n } with ground := c.ground - o.n } : Cll) = putC { setC c k y with ground := c.ground - o.n } { y with coins := y.coins + o.n } from rfl]
              exact Eq.trans (e1 _ _ _ rfl rfl) (Eq.trans (e2 _ _ _ rfl rfl) rfl)
        · split
          · unfold sThrow iThrow
            rw [next_setC]
            split
            · exact e0 7
            · split
              · exact e0 3
              · split
                · exact e0 5
                · exact Eq.trans (e1 _ _ _ rfl rfl) (Eq.trans (e2 _ _ _ rfl rfl) rfl)
          · exact e0 1
end Go.Proofs.Ytablgohncilmfaa

namespace Go.Proofs.Ytablgohncilmfaa
open Go.RowKit
set_option linter.unusedSimpArgs false
set_option linter.unusedVariables false

/-- The walkers of a cell in memory replaced. -/
theorem CX.setWk {w w' : World} {c : Cll} {h : CllH} {B1 B1' B3 B4 B5 : List Nat} {wk' : List Wlk} {a1 : Option Addr} {c1 : Nat} (x : CX w c h B1 B3 B4 B5) (hc : Chg B1 w w') (hr : RowX w' 43 5 Wlk.cells (.slice a1 wk'.length c1) wk' B1') (hb : ∀ b ∈ B1', b ∈ B1 ∨ w.heap.size ≤ b) :
    CX w' { c with wk := wk' } { h with a1 := a1, c1 := c1 } B1' B3 B4 B5 := by
  have nd := List.nodup_append.1 x.nd
  have n1 : ∀ b ∈ B3 ++ (B4 ++ B5), b ∉ B1 := fun b hb h1 => nd.2.2 b h1 b hb rfl
  refine ⟨hr, x.x3.chg hc fun b hb => n1 b (by simp [hb]), x.x4.chg hc fun b hb => n1 b (by simp [hb]), x.x5.chg hc fun b hb => n1 b (by simp [hb]), ?_⟩
  refine List.nodup_append.2 ⟨hr.nodup, nd.2.1, fun a ha b hb' e => ?_⟩
  subst e
  rcases hb a ha with h9 | h9
  · exact n1 a hb' h9
  · have := x.lt a (by simp only [List.mem_append] at hb' ⊢; exact .inr hb'); omega
/-- The next numbers of a cell in memory replaced. -/
theorem CX.setNext {w w' : World} {c : Cll} {h : CllH} {B1 B3 B4 B5 : List Nat} {next' : List Int} (x : CX w c h B1 B3 B4 B5) (hc : Chg B4 w w') (hr : RowX w' 3 1 icells (.slice h.a4 next'.length h.c4) next' B4) : CX w' { c with next := next' } h B1 B3 B4 B5 := by
  have nd := x.nd
  have n1 : ∀ b ∈ B1, b ∉ B4 := fun b hb h3 => nod_app nd hb (by simp [h3])
  have nd2 := (List.nodup_append.1 nd).2.1
  have n3 : ∀ b ∈ B3, b ∉ B4 := fun b hb h3 => nod_app nd2 hb (by simp [h3])
  have nd3 := (List.nodup_append.1 nd2).2.1
  have n5 : ∀ b ∈ B5, b ∉ B4 := fun b hb h3 => nod_app nd3 h3 hb
  exact ⟨x.x1.chg hc n1, x.x3.chg hc n3, hr, x.x5.chg hc n5, x.nd⟩
theorem rowX_R2 {α : Type} {w : World} {T : TypeId} {k : Nat} {cells : α → List Value} {v : Value} {xs : List α} {B : List Nat} (h : RowX w T k cells v xs B) : ∃ R, (∀ b ∈ B, b = R) ∧ w.heap.size ≠ R ∧ ∀ X, X < w.heap.size → X ∉ B → X ≠ R ∧ R ≠ X := by
  have hl := h.lt
  rcases h with ⟨_, rfl, _⟩ | ⟨g, cap, cur, _, rfl, _⟩
  · exact ⟨w.heap.size + 1, by simp, by omega, fun X hX _ => by omega⟩
  · exact ⟨g, by simp, by have := hl g (by simp); omega, fun X _ hn => by simp at hn; omega⟩
theorem chgR_block {V w1 w2 : World} {R b : Nat} (hE : Ext V w1) (hc : Chg [R] w1 w2) (hb : b < V.heap.size) (hn : b ≠ R) : w2.heap[b]? = V.heap[b]? :=
  (hc.block b (Nat.lt_of_lt_of_le hb hE.size) (by simpa using hn)).trans (hE.block hb)
theorem chgR_cell {V w1 w2 : World} {R b : Nat} (hE : Ext V w1) (hc : Chg [R] w1 w2) (hb : b < V.heap.size) (hn : b ≠ R) (o : Nat) : w2.cell? ⟨b, o, none⟩ = V.cell? ⟨b, o, none⟩ :=
  World.cell?_of_block (a := ⟨b, o, none⟩) (chgR_block hE hc hb hn)
theorem chgR_frozen {V w1 w2 : World} {R b : Nat} (hE : Ext V w1) (hc : Chg [R] w1 w2) (hb : b < V.heap.size) (hn : b ≠ R) (o : Nat) : w2.frozen? ⟨b, o, none⟩ = V.frozen? ⟨b, o, none⟩ := by
  simp [World.frozen?, chgR_block hE hc hb hn]
theorem chgR_lt {V w1 w2 : World} {B : List Nat} {b : Nat} (hE : Ext V w1) (hc : Chg B w1 w2) (hb : b < V.heap.size) : b < w2.heap.size := Nat.lt_of_lt_of_le (Nat.lt_of_lt_of_le hb hE.size) hc.size
def pclSet (p : Pcl) (n : Int) : Pcl := { p with n := n }
theorem postC_eq {c : Cll} {k : Nat} {xs : List Pcl} {nx : Int} (hxs : c.outs[k]? = some xs) (hnx : c.next[k]? = some nx) (p : Pcl) : postC c k p = { c with outs := c.outs.set k (xs ++ [pclSet p nx]), next := c.next.set k (nx + 1) } := by
  simp only [postC, outsAt, nextAt, Int.toNat_natCast, hxs, hnx, Option.getD_some, pclSet]
theorem nextAt_eq {c : Cll} {k : Nat} {nx : Int} (hnx : c.next[k]? = some nx) : nextAt c k = nx := by simp [nextAt, hnx]
/-- An element of a row of numbers overwritten. -/
theorem icells_put {cur : Array Value} {k : Nat} {v : Int} (hz : k < cur.size) : (∀ i, ¬ (k * 1 ≤ i ∧ i < k * 1 + 1) → (cur.setIfInBounds k (.int .i64 v))[i]? = cur[i]?) ∧ ∀ i u, (icells v)[i]? = some u → (cur.setIfInBounds k (.int .i64 v))[k * 1 + i]? = some u := by
  refine ⟨fun i hi => by rw [Array.getElem?_setIfInBounds_ne (by omega)], fun i u hu => ?_⟩
  have hi : i = 0 := by
    have := (List.getElem?_eq_some_iff.1 hu).1
    simp [icells] at this; exact this
  subst hi
  rw [Nat.mul_one, Nat.add_zero, arr_set hz, if_pos rfl]; exact hu

set_option maxRecDepth 100000 in
set_option maxHeartbeats 8000000 in
theorem send_c (c : Cll) (h : CllH) (T k : Nat) (p : Pcl) (nx : Int) (xs : List Pcl) (B1 B3 B4 B5 : List Nat) (w : World) (hT : w.heap[T]? = some (.cells #[.int .i64 c.cell, .slice h.a1 c.wk.length h.c1, .int .i64 c.ground, .slice h.a3 c.outs.length h.c3, .slice h.a4 c.next.length h.c4, .slice h.a5 c.ins.length h.c5] 37 (0, 0))) (hx : CX w c h B1 B3 B4 B5) (hTB : T ∉ B3 ++ B4)
    (hxs : c.outs[k]? = some xs) (hnx : c.next[k]? = some nx) (h0 : 0 ≤ nx) (h1 : nx ≤ 5000) (hn : xs.length ≤ 1048576) :
    Calls Try.prog 109 #[.pointer (some ⟨T, 0, none⟩), .int .i64 k, .agg #[.int .i64 p.n, .int .i64 p.kind, .int .i64 p.wk.id, .int .i64 p.wk.at_, .int .i64 p.wk.coins, .int .i64 p.wk.seq, .int .i64 p.wk.last, .int .i64 p.coins]] w fun e w' => ∃ B3', e = .returned (.bool (!(nx == 5000))) ∧ CX w' (bif nx == 5000 then c else postC c k p) h B1 B3' B4 B5 ∧ Chg (B3 ++ B4) w w' ∧ (∀ b ∈ B3', b ∈ B3 ∨ w.heap.size ≤ b) := by
  obtain ⟨a1, c1, a3, c3, a4, c4, a5, c5⟩ := h
  have HX := hid hx
  have hs3 : k < c.outs.length := (List.getElem?_eq_some_iff.1 hxs).1
  have hs4 : k < c.next.length := (List.getElem?_eq_some_iff.1 hnx).1
  have HPC := hid (postC_eq hxs hnx p)
  obtain ⟨g4, cur4, y4, e4, hB4, hl4, hc4, hy4, hb4, hz4, hv4, hu4⟩ := hx.x4.at Nat.one_pos (fun _ => rfl) hs4
  rw [hnx] at hy4
  obtain rfl := Option.some.inj hy4
  obtain ⟨g3, cur3, e, ys, Bj, e3, hg3, hl3, hc3, hys, hb3, hz3, hv3, hre, hBj, hu3⟩ := hx.x3.at hs3
  rw [hxs] at hys
  obtain rfl := Option.some.inj hys
  dsimp only at e3 e4
  subst e3 e4 hB4
  have hen := hre.len
  obtain ⟨ea, en, ec⟩ := e
  dsimp only at hen hv3 hre
  subst hen
  have f4 : w.cell? ⟨g4, k, none⟩ = some (.int .i64 nx) := (cell_blk hb4 k).trans (by have := hv4 0 _ rfl; simpa using this)
  have f3 : w.cell? ⟨g3, k, none⟩ = some (.slice ea xs.length ec) := (cell_blk hb3 k).trans hv3
  have l4 := lt_blk hb4
  have l3 := lt_blk hb3
  have hm := hx.x3.max
  have hm4 := hx.x4.max
  simp only [maxLen] at hm hm4
  have lT := lt_blk hT
  have cT3 : w.cell? ⟨T, 3, none⟩ = some (.slice (some ⟨g3, 0, none⟩) c.outs.length c3) := (cell_blk hT 3).trans rfl
  have cT4 : w.cell? ⟨T, 4, none⟩ = some (.slice (some ⟨g4, 0, none⟩) c.next.length c4) := (cell_blk hT 4).trans rfl
  have z3 := frozen_blk hb3 k
  have z4 := frozen_blk hb4 k
  have hg3T : g3 ≠ T := fun e => hTB (by simp [← e, hg3])
  have hg4T : g4 ≠ T := fun e => hTB (by simp [← e])
  have h34 : g3 ≠ g4 := fun e => nod_app ((List.nodup_append.1 hx.nd).2.1) hg3 (by simp [e])
  have HNJ := hid (show ∀ b ∈ Bj, b ≠ T ∧ b ≠ g4 from fun b hb => ⟨fun e => hTB (by simp [← e, (hBj b hb).1]), fun e => nod_app ((List.nodup_append.1 hx.nd).2.1) (hBj b hb).1 (by simp [e])⟩)
  have HB4 := hid hb4
  have HB3 := hid hb3
  have HZ4 := hid hz4
  have HZ3 := hid hz3
  have HU4 := hid hu4
  have HU3 := hid hu3
  have HRE := hid hre
  have HBJ := hid hBj
  have HG3 := hid hg3
  have HHT := hid hT
  clear hT hx hxs hnx hu3 hu4 hb3 hb4 hv3 hv4 hre hBj hg3 hTB hz3 hz4 hy4 hys
  by_cases t1 : nx = 5000
  · subst t1
    go_enter Try.func109, Try.ntmps109
    try go_wp2_with (first
        | fail
        | (
          with_reducible refine wp_region_mix (by kernel_rfl) (by decide +kernel) ?_
          repeat (first
            | (refine mix_pure rfl ?_; (first | go_big_quiet_skip | (go_big_quiet_want; go_big_quiet_op; go_big_quiet_on)); refine wpQuiet_nil ?_)
            | (refine mix_skip (by rfl) ?_; (try simp only [Act.put, List.setIfInBounds_toArray, List.set_cons_zero, List.set_cons_succ]))
            | (refine mix_mk rfl (by rfl) (fun K hK => ?_); (first | (go_simp; first | skip)); (show K _ _); refine hK _ _ (show Ext _ _ from zq0) ?_; clear hK K; (try simp only [Act.put, List.setIfInBounds_toArray, List.set_cons_zero, List.set_cons_succ])))
          refine mix_nil ?_)
        | (
          with_reducible refine wp_region_ext (by kernel_rfl) (by kernel_rfl) ?_
          repeat (first | go_big_quiet_skip | (go_big_quiet_want; go_big_quiet_op; first | go_big_quiet_on | (apply Exists.intro; refine ⟨fun _ => ?_, ?_⟩; (fail); (try rw [h1]); (try rw [h2]); (try rw [h3]); (try rw [h4]); (try rw [p1]); (try rw [p2]); (try rw [p3]); (try rw [p4]); (try rw [r1]); (try rw [r2]); (try rw [r3]); (try rw [r4]); (try rw [r5]); (try rw [r6]); (try rw [q3]); (try rw [q4]); (try rw [hp]); (try rw [hq]); go_big_quiet_on)))
          refine wpQuiet_nil ?_
          rintro _ ⟨tq, rfl⟩))
    go_ret
    exact ⟨ret_bool rfl, B3, HX.out.of zq0, Chg.of_ext zq0 _, fun b hb => .inl hb⟩
  · have t2 : (nx == 5000) = false := by simpa using t1
    go_enter Try.func109, Try.ntmps109
    go_wp2_with (fail)
    refine wp_gen fun V hV => ?_
    have EV : Ext w V := by rw [hV]; ((try simp only [ext_drew]); (try simp only [ext_ext]); repeat (first | exact Ext.refl _ | with_reducible apply Ext.add | with_reducible apply Ext.dr | apply Ext.alloc | apply Ext.ext | apply Ext.drew | refine Ext.trans ?_ (by assumption)))
    have hP : V.heap[w.heap.size]? = some (.cells #[.int .i64 nx, .int .i64 p.kind, .int .i64 p.wk.id, .int .i64 p.wk.at_, .int .i64 p.wk.coins, .int .i64 p.wk.seq, .int .i64 p.wk.last, .int .i64 p.coins] 45 (0, 0)) := by rw [hV]; exact alloc_last (by simp)
    obtain ⟨P, hPe⟩ : ∃ P, w.heap.size = P := ⟨_, rfl⟩
    have lP : P < V.heap.size := by rw [← hPe]; exact lt_blk hP
    rw [hPe] at hP ⊢
    have HPE := hid hPe
    have hRE : RowX V 45 8 Pcl.cells (.slice ea xs.length ec) xs Bj := HRE.out.of EV
    obtain ⟨R, hRl, hRne, hRx⟩ := rowX_R2 hRE
    have HRE2 := hid hRE
    have HRl := hid hRl
    have lTV := Nat.lt_of_lt_of_le lT EV.size
    have l3V := Nat.lt_of_lt_of_le l3 EV.size
    have l4V := Nat.lt_of_lt_of_le l4 EV.size
    obtain ⟨hTR, hRT⟩ := hRx T lTV (fun hb => (HNJ.out T hb).1 rfl)
    obtain ⟨hg3R, hRg3⟩ := hRx g3 l3V (fun hb => (HBJ.out g3 hb).2 rfl)
    obtain ⟨hg4R, hRg4⟩ := hRx g4 l4V (fun hb => (HNJ.out g4 hb).2 rfl)
    obtain ⟨hPR, hRP⟩ := hRx P lP (fun hb => by have := HRE.out.lt P hb; omega)
    have f3V := (EV.cell l3 k).trans f3
    have f4V := (EV.cell l4 k).trans f4
    have b3V := (EV.block l3).trans HB3.out
    have b4V := (EV.block l4).trans HB4.out
    have z3V := frozen_blk b3V k
    have z4V := frozen_blk b4V k
    have cT3V := (EV.cell lT 3).trans cT3
    have cT4V := (EV.cell lT 4).trans cT4
    have cP0 := (cell_blk hP 0).trans (show _ = some (Value.int .i64 nx) from rfl)
    have cP1 := (cell_blk hP 1).trans (show _ = some (Value.int .i64 p.kind) from rfl)
    have cP2 := (cell_blk hP 2).trans (show _ = some (Value.int .i64 p.wk.id) from rfl)
    have cP3 := (cell_blk hP 3).trans (show _ = some (Value.int .i64 p.wk.at_) from rfl)
    have cP4 := (cell_blk hP 4).trans (show _ = some (Value.int .i64 p.wk.coins) from rfl)
    have cP5 := (cell_blk hP 5).trans (show _ = some (Value.int .i64 p.wk.seq) from rfl)
    have cP6 := (cell_blk hP 6).trans (show _ = some (Value.int .i64 p.wk.last) from rfl)
    have cP7 := (cell_blk hP 7).trans (show _ = some (Value.int .i64 p.coins) from rfl)
    have HEV := hid EV
    have HB3V := hid b3V
    have HB4V := hid b4V
    have hlen : xs.length ≤ 4194304 := by omega
    have dG3 : ∀ t, (ext V.drew t).cell? ⟨g3, k, none⟩ = some (.slice ea xs.length ec) := fun t => (ext_cell' _ _ _ _ l3V).trans f3V
    have dZ3 : ∀ t, (ext V.drew t).frozen? ⟨g3, k, none⟩ = false := fun t => (ext_frozen' _ _ _ _ l3V).trans z3V
    have dG4 : ∀ t, (ext V.drew t).cell? ⟨g4, k, none⟩ = some (.int .i64 nx) := fun t => (ext_cell' _ _ _ _ l4V).trans f4V
    have dZ4 : ∀ t, (ext V.drew t).frozen? ⟨g4, k, none⟩ = false := fun t => (ext_frozen' _ _ _ _ l4V).trans z4V
    have dT4 : ∀ t, (ext V.drew t).cell? ⟨T, 4, none⟩ = some (.slice (some ⟨g4, 0, none⟩) c.next.length c4) := fun t => (ext_cell' _ _ _ _ lTV).trans cT4V
    clear hV hP hPe hRE hRl hRx f3 f4 z3 z4 cT3 cT4 b3V b4V EV
    try go_wp2_with (first
        | (refine wp_appX (cells := Pcl.cells) (k := 8) (bytes := 64) (z := .agg #[.int .i64 0, .int .i64 0, .int .i64 0, .int .i64 0, .int .i64 0, .int .i64 0, .int .i64 0, .int .i64 0]) Try.underlying62 (by kernel_rfl) rfl (by decide) (by decide) (fun _ => rfl) (fun x u hu => by simp only [Pcl.cells, List.mem_cons, List.not_mem_nil, or_false] at hu; rcases hu with rfl | rfl | rfl | rfl | rfl | rfl | rfl | rfl <;> rfl) _ _ rfl rfl (HRE2.out.of zq0) (pclSet p nx) rfl (alloc_last zq2) hlen ?_; intro v2 w2 R2 hr2 hc2 hR2; obtain ⟨sa, sc, e2⟩ := hr2.slice; rw [List.length_append, List.length_singleton] at e2; subst e2; have HR2 := hid hr2; have HRR := hid hR2; have hcR := hc2.mono (B' := [R]) (fun b hb => by rw [HRl.out b hb]; simp); have HC2 := hid hcR; have l32 := chgR_lt zq0 hcR l3V; have lT2 := chgR_lt zq0 hcR lTV; have l42 := chgR_lt zq0 hcR l4V; have q3 := (chgR_cell zq0 hcR l3V hg3R k).trans f3V; have y3 := (chgR_frozen zq0 hcR l3V hg3R k).trans z3V; have q4 := (chgR_cell zq0 hcR l4V hg4R k).trans f4V; have y4 := (chgR_frozen zq0 hcR l4V hg4R k).trans z4V; have qT := (chgR_cell zq0 hcR lTV hTR 4).trans cT4V; have B3w := hid ((chgR_block zq0 hcR l3V hg3R).trans HB3V.out); have B4w := hid ((chgR_block zq0 hcR l4V hg4R).trans HB4V.out); have HCW := hid ((Chg.of_ext (show Ext V _ from zq0) Bj).trans hc2); clear hr2 hc2 hR2 hcR)
        | (
          with_reducible refine wp_region_NR (R) (by kernel_rfl) (by decide +kernel) (by decide +kernel) rfl rfl ?_
          simp only [List.dropLast_cons_cons, List.dropLast_singleton]
          repeat (first
            | (refine mix_pure rfl ?_; (first | go_big_quiet_skip | (go_big_quiet_want; go_big_quiet_op; go_big_quiet_on)); refine wpQuiet_nil ?_)
            | (refine mix_skip (by rfl) ?_; (try simp only [Act.put, List.setIfInBounds_toArray, List.set_cons_zero, List.set_cons_succ]))
            | (refine mix_mk rfl (by rfl) (fun K hK => ?_); (first | (refine wp_appX (cells := Pcl.cells) (k := 8) (bytes := 64) (z := .agg #[.int .i64 0, .int .i64 0, .int .i64 0, .int .i64 0, .int .i64 0, .int .i64 0, .int .i64 0, .int .i64 0]) Try.underlying62 (by kernel_rfl) rfl (by decide) (by decide) (fun _ => rfl) (fun x u hu => by simp only [Pcl.cells, List.mem_cons, List.not_mem_nil, or_false] at hu; rcases hu with rfl | rfl | rfl | rfl | rfl | rfl | rfl | rfl <;> rfl) _ _ rfl rfl (HRE2.out.of zq0) (pclSet p nx) rfl (alloc_last zq2) hlen ?_; intro v2 w2 R2 hr2 hc2 hR2; obtain ⟨sa, sc, e2⟩ := hr2.slice; rw [List.length_append, List.length_singleton] at e2; subst e2; have HR2 := hid hr2; have HRR := hid hR2; have hcR := hc2.mono (B' := [R]) (fun b hb => by rw [HRl.out b hb]; simp); have HC2 := hid hcR; have l32 := chgR_lt zq0 hcR l3V; have lT2 := chgR_lt zq0 hcR lTV; have l42 := chgR_lt zq0 hcR l4V; have q3 := (chgR_cell zq0 hcR l3V hg3R k).trans f3V; have y3 := (chgR_frozen zq0 hcR l3V hg3R k).trans z3V; have q4 := (chgR_cell zq0 hcR l4V hg4R k).trans f4V; have y4 := (chgR_frozen zq0 hcR l4V hg4R k).trans z4V; have qT := (chgR_cell zq0 hcR lTV hTR 4).trans cT4V; have B3w := hid ((chgR_block zq0 hcR l3V hg3R).trans HB3V.out); have B4w := hid ((chgR_block zq0 hcR l4V hg4R).trans HB4V.out); have HCW := hid ((Chg.of_ext (show Ext V _ from zq0) Bj).trans hc2); clear hr2 hc2 hR2 hcR) | (go_simp; first | skip)); (show K _ _); refine hK _ _ (extR_of (by repeat (first | with_reducible exact Chg.refl _ _ | with_reducible apply Chg.drew | with_reducible apply Chg.drewl | with_reducible refine Chg.turn (by simp) | with_reducible refine Chg.both ?_ (by simp) | (with_reducible refine Chg.set ?_ (by simp) _) | with_reducible apply Chg.alloc | with_reducible apply Chg.ext | with_reducible refine Chg.trans ?_ (Hid.out (by assumption))))) ?_; clear hK K; (try simp only [Act.put, List.setIfInBounds_toArray, List.set_cons_zero, List.set_cons_succ])))
          refine mixN_nil (fun K hK => ?_)
          go_simp
          (show K _ _)
          refine hK _ _ ?_
          clear hK K
          (try simp only [Act.put, List.setIfInBounds_toArray, List.set_cons_zero, List.set_cons_succ])))
    go_ret
    have hc3 : Chg [g3] w2 (w2.setCell ⟨g3, k, none⟩ (.slice sa (xs.length + 1) sc)) := zq1
    have hc4 : Chg [g4] (w2.setCell ⟨g3, k, none⟩ (.slice sa (xs.length + 1) sc)) ((w2.setCell ⟨g3, k, none⟩ (.slice sa (xs.length + 1) sc)).setCell ⟨g4, k, none⟩ (.int .i64 (nx + 1))) := zq1
    have hcw : Chg (g3 :: Bj) w (w2.setCell ⟨g3, k, none⟩ (.slice sa (xs.length + 1) sc)) := (Chg.of_ext HEV.out _).trans ((HCW.out.mono (fun b hb => List.mem_cons_of_mem _ hb)).trans (hc3.mono (by simp)))
    obtain ⟨B2, hss, hb2⟩ := HU3.out (w2.setCell ⟨g3, k, none⟩ (.slice sa (xs.length + 1) sc)) R2 ⟨sa, xs.length + 1, sc⟩ (xs ++ [pclSet p nx]) hcw (by exact blk_set B3w.out) (HR2.out.chg (B' := [g3]) hc3 (fun b hb hm => by
      obtain rfl : b = g3 := by simpa using hm
      rcases HRR.out with e | e
      · rw [e] at hb; exact (HBJ.out b hb).2 rfl
      · rw [e] at hb; have := l3V; simp at hb; omega)) (by
      rcases HRR.out with e | e
      · exact .inl e
      · exact .inr fun b hb => by rw [e] at hb; have := HEV.out.size; simp at hb; omega)
    have hb3 : ∀ b ∈ B2, b ∈ B3 ∨ w.heap.size ≤ b := fun b hb => by
      rcases hb2 b hb with h9 | h9
      · exact .inl h9
      · rcases HRR.out with e | e
        · rw [e] at h9; exact .inl (HBJ.out b h9).1
        · rw [e] at h9; have := HEV.out.size; simp at h9; exact .inr (by omega)
    have hcw3 : Chg B3 w (w2.setCell ⟨g3, k, none⟩ (.slice sa (xs.length + 1) sc)) := hcw.mono fun b hb => by
      rcases List.mem_cons.1 hb with rfl | hb
      · exact HG3.out
      · exact (HBJ.out b hb).1
    have hx1 := HX.out.setOuts hcw3 (by rw [List.length_set]; exact hss) hb3
    obtain ⟨u1, u2⟩ := icells_put (cur := cur4) (k := k) (v := nx + 1) (by have := HZ4.out; omega)
    have HR4 := hid ((show RowX ((w2.setCell ⟨g3, k, none⟩ (.slice sa (xs.length + 1) sc)).setCell ⟨g4, k, none⟩ (.int .i64 (nx + 1))) 3 1 icells (.slice (some ⟨g4, 0, none⟩) c.next.length c4) (c.next.set k (nx + 1)) [g4] from HU4.out _ _ _ (by exact blk_set (blk_other B4w.out (Ne.symm h34))) (by simp) u1 u2))
    have hx2 := hx1.setNext hc4 (next' := c.next.set k (nx + 1)) (by rw [List.length_set]; exact HR4.out)
    have hall : Chg (B3 ++ [g4]) w ((w2.setCell ⟨g3, k, none⟩ (.slice sa (xs.length + 1) sc)).setCell ⟨g4, k, none⟩ (.int .i64 (nx + 1))) := (hcw3.mono (fun b hb => List.mem_append_left _ hb)).trans (hc4.mono (fun b hb => List.mem_append_right _ hb))
    refine ⟨B2, ret_bool (by rw [t2]; rfl), ?_, hall, hb3⟩
    rw [t2, cond_false, HPC.out]
    exact hx2
end Go.Proofs.Ytablgohncilmfaa

namespace Go.Proofs.Ytablgohncilmfaa
open Go.RowKit
set_option linter.unusedSimpArgs false
set_option linter.unusedVariables false

/-- Where a walker's numbers lie. -/
theorem CX.wkAt {w : World} {c : Cll} {g c1 c3 c4 c5 j : Nat} {a3 a4 a5 : Option Addr} {B1 B3 B4 B5 : List Nat} {y : Wlk} (x : CX w c ⟨some ⟨g, 0, none⟩, c1, a3, c3, a4, c4, a5, c5⟩ B1 B3 B4 B5) (hj : c.wk[j]? = some y) :
    B1 = [g] ∧ g < w.heap.size ∧ j < c.wk.length ∧ (∀ i v, y.cells[i]? = some v → w.cell? ⟨g, j * 5 + i, none⟩ = some v) ∧ ∀ o, w.frozen? ⟨g, o, none⟩ = false := by
  have hl := (List.getElem?_eq_some_iff.1 hj).1
  obtain ⟨g', cur, y', e1, e2, hn, hnc, hy, hb, hz, hv, hu⟩ := x.x1.at (k := 5) (by decide) (fun _ => rfl) hl
  simp only [Option.some.injEq, Addr.mk.injEq, and_true] at e1
  subst e1
  rw [hj] at hy
  obtain rfl := Option.some.inj hy
  exact ⟨e2, lt_blk hb, hl, fun i v hi => (cell_blk hb _).trans (hv i v hi), fun o => frozen_blk hb o⟩
/-- One number of a walker overwritten. -/
theorem CX.wkSet {w : World} {c : Cll} {g c1 c3 c4 c5 j : Nat} {a3 a4 a5 : Option Addr} {B1 B3 B4 B5 : List Nat} {y y' : Wlk} (x : CX w c ⟨some ⟨g, 0, none⟩, c1, a3, c3, a4, c4, a5, c5⟩ B1 B3 B4 B5) (hj : c.wk[j]? = some y) (i : Nat) (v : Value) (hi : i < 5) (hc : y'.cells = y.cells.set i v) :
    CX (w.setCell ⟨g, j * 5 + i, none⟩ v) (setC c j y') ⟨some ⟨g, 0, none⟩, c1, a3, c3, a4, c4, a5, c5⟩ B1 B3 B4 B5 := by
  have hl := (List.getElem?_eq_some_iff.1 hj).1
  obtain ⟨g', cur, y0, e1, e2, hn, hnc, hy, hb, hz, hv, hu⟩ := x.x1.at (k := 5) (by decide) (fun _ => rfl) hl
  simp only [Option.some.injEq, Addr.mk.injEq, and_true] at e1
  subst e1
  rw [hj] at hy
  obtain rfl := Option.some.inj hy
  have hr := hu (w.setCell ⟨g, j * 5 + i, none⟩ v) (cur.setIfInBounds (j * 5 + i) v) y' (blk_set hb) (by simp) (fun q hq => by rw [Array.getElem?_setIfInBounds_ne (by omega)]) (fun q u hq => by
    rw [hc, List.getElem?_set] at hq
    split at hq
    · rename_i e
      subst e
      have : i < y.cells.length := by rw [Wlk.cells_length]; exact hi
      rw [if_pos this] at hq
      obtain rfl := Option.some.inj hq
      exact (arr_set (by omega) _).trans (if_pos rfl)
    · rename_i e
      rw [Array.getElem?_setIfInBounds_ne (by omega)]
      exact hv q u hq)
  have := x.setWk (wk' := c.wk.set j y') (a1 := some ⟨g, 0, none⟩) (c1 := c1) (B1' := B1) (w' := w.setCell ⟨g, j * 5 + i, none⟩ v) ((Chg.refl B1 w).set (by rw [e2]; simp) v) (by rw [List.length_set]; exact hr) (fun b hb => .inl hb)
  exact this
theorem CX.flat {w : World} {c c' : Cll} {h : CllH} {B1 B3 B4 B5 : List Nat} (x : CX w c h B1 B3 B4 B5) (h1 : c'.wk = c.wk) (h3 : c'.outs = c.outs) (h4 : c'.next = c.next) (h5 : c'.ins = c.ins) : CX w c' h B1 B3 B4 B5 := by
  obtain ⟨cc, wk, gr, ou, ne, ii⟩ := c
  obtain ⟨cc', wk', gr', ou', ne', ii'⟩ := c'
  subst h1 h3 h4 h5
  exact ⟨x.x1, x.x3, x.x4, x.x5, x.nd⟩
def gvP (c : Cll) (k : Nat) (y : Wlk) (to n : Int) : Cll × Int :=
  if wlkHas c.wk to = false then (c, 4)
  else if y.coins < n then (c, 3)
  else if (wlkGet c.wk to).coins + n > 99 then (c, 5)
  else (setC (setC c k { y with coins := y.coins - n }) (wlkPlace c.wk to).toNat { wlkGet c.wk to with coins := (wlkGet c.wk to).coins + n }, 1)
set_option maxRecDepth 100000 in
set_option maxHeartbeats 8000000 in
theorem give_c (c : Cll) (g c1 c3 c4 c5 T k : Nat) (a3 a4 a5 : Option Addr) (y : Wlk) (o : Ord) (B1 B3 B4 B5 : List Nat) (w : World) (hT : w.heap[T]? = some (.cells #[.int .i64 c.cell, .slice (some ⟨g, 0, none⟩) c.wk.length c1, .int .i64 c.ground, .slice a3 c.outs.length c3, .slice a4 c.next.length c4, .slice a5 c.ins.length c5] 37 (0, 0))) (hx : CX w c ⟨some ⟨g, 0, none⟩, c1, a3, c3, a4, c4, a5, c5⟩ B1 B3 B4 B5) (hTB : T ∉ B1)
    (hy : c.wk[k]? = some y) (hne : o.to_ ≠ y.id) (hb : ∀ x ∈ c.wk, 0 ≤ x.coins ∧ x.coins ≤ 99) (n1 : 1 ≤ o.n) (n9 : o.n ≤ 9) (hl : c.wk.length ≤ 1048576) :
    Calls Try.prog 111 #[.pointer (some ⟨T, 0, none⟩), .pointer (some ⟨g, k * 5, none⟩), .agg #[.int .i64 o.who, .int .i64 o.seq, .int .i64 o.kind, .int .i64 o.to_, .int .i64 o.n]] w fun e w' => e = .returned (.int .i64 (gvP c k y o.to_ o.n).2) ∧ CX w' (gvP c k y o.to_ o.n).1 ⟨some ⟨g, 0, none⟩, c1, a3, c3, a4, c4, a5, c5⟩ B1 B3 B4 B5 ∧ Chg B1 w w' := by
  have HX := hid hx
  obtain ⟨rfl, lg, hk, hyc, hfr⟩ := hx.wkAt hy
  have HRe := hid hx.re.r1
  have lT := lt_blk hT
  have cT1 : w.cell? ⟨T, 1, none⟩ = some (.slice (some ⟨g, 0, none⟩) c.wk.length c1) := (cell_blk hT 1).trans rfl
  have hTg : T ≠ g := by simpa using hTB
  have hgT : g ≠ T := Ne.symm hTg
  have y2 := hyc 2 _ rfl
  have z2 := hfr (k * 5 + 2)
  have HB := hid (hb y (List.mem_of_getElem? hy))
  have hyb := HB.out
  have HY := hid hy
  have HT := hid hT
  clear hT hx hyc
  rcases place_lt (p := idIs o.to_) (xs := c.wk) (i := 0) with ⟨h1, h2⟩ | ⟨j, z, h1, h2, h3, h4⟩
  · have E := hid (show gvP c k y o.to_ o.n = (c, 4) by
      rw [gvP, if_pos]
      rw [wlkHas, find_miss h2]; rfl)
    have H1 : wlkPlace c.wk o.to_ = -1 := h1
    clear h1 h2 hfr hb hy
    rw [E.out]
    go_enter Try.func111, Try.ntmps111
    try go_wp2_with (first
        | (go_at_call 86; refine (place_c _ _ _ _ _ _ (Re.of (Hid.out (by assumption)) zq0) (by omega)).mono ?_; rintro e w' ⟨rfl, t, rfl⟩)
        | (
          with_reducible refine wp_region_mix (by kernel_rfl) (by decide +kernel) ?_
          repeat (first
            | (refine mix_pure rfl ?_; (first | go_big_quiet_skip | (go_big_quiet_want; go_big_quiet_op; go_big_quiet_on)); refine wpQuiet_nil ?_)
            | (refine mix_skip (by rfl) ?_; (try simp only [Act.put, List.setIfInBounds_toArray, List.set_cons_zero, List.set_cons_succ]))
            | (refine mix_mk rfl (by rfl) (fun K hK => ?_); (first | (go_simp; first | (go_at_call 86; refine (place_c _ _ _ _ _ _ (Re.of (Hid.out (by assumption)) zq0) (by omega)).mono ?_; rintro e w' ⟨rfl, t, rfl⟩) | skip)); (show K _ _); refine hK _ _ (show Ext _ _ from zq0) ?_; clear hK K; (try simp only [Act.put, List.setIfInBounds_toArray, List.set_cons_zero, List.set_cons_succ])))
          refine mix_nil ?_)
        | (
          with_reducible refine wp_region_ext (by kernel_rfl) (by kernel_rfl) ?_
          repeat (first | go_big_quiet_skip | (go_big_quiet_want; go_big_quiet_op; first | go_big_quiet_on | (apply Exists.intro; refine ⟨fun _ => ?_, ?_⟩; ((first | (go_at_call 86; first | exact quiet_call (place_c _ _ _ _ _ _ (Re.of (Hid.out (by assumption)) zq0) (by omega)) | exact quiet_call2 (place_c _ _ _ _ _ _ (Re.of (Hid.out (by assumption)) zq0) (by omega))))); (try rw [h1]); (try rw [h2]); (try rw [h3]); (try rw [h4]); (try rw [p1]); (try rw [p2]); (try rw [p3]); (try rw [p4]); (try rw [r1]); (try rw [r2]); (try rw [r3]); (try rw [r4]); (try rw [r5]); (try rw [r6]); (try rw [q3]); (try rw [q4]); (try rw [hp]); (try rw [hq]); go_big_quiet_on)))
          refine wpQuiet_nil ?_
          rintro _ ⟨tq, rfl⟩))
    go_ret
    exact ⟨rfl, HX.out.of zq0, Chg.of_ext zq0 _⟩
  · have hg : wlkGet c.wk o.to_ = z := by rw [wlkGet, find_hit h2 h3 h4]; rfl
    have hh : wlkHas c.wk o.to_ = true := by rw [wlkHas, find_hit h2 h3 h4]; rfl
    have H1 : wlkPlace c.wk o.to_ = (j : Int) := by rw [wlkPlace, h1]; simp
    have hid' : z.id = o.to_ := by simpa [idIs] using h4
    have hkj : k ≠ j := fun e => by
      subst e
      rw [hy] at h2
      obtain rfl := Option.some.inj h2
      exact hne hid'.symm
    have hjk : j ≠ k := Ne.symm hkj
    have hj : j < c.wk.length := (List.getElem?_eq_some_iff.1 h2).1
    have HZ := hid h2
    obtain ⟨_, _, _, hzc, _⟩ := HX.out.wkAt h2
    have x2 := hzc 2 _ rfl
    have u2 := hfr (j * 5 + 2)
    have hzb := hb z (List.mem_of_getElem? h2)
    have p1 : decide ((j : Int) < 0) = false := by simp
    have HP := hid (show gvP c k y o.to_ o.n = if y.coins < o.n then (c, 3) else if z.coins + o.n > 99 then (c, 5) else (setC (setC c k { y with coins := y.coins - o.n }) j { z with coins := z.coins + o.n }, 1) by
      rw [gvP, if_neg (by rw [hh]; decide), hg, H1]; rfl)
    clear h1 h2 h3 h4 hfr hzc hb hg hh hid' hy hne
    by_cases t1 : y.coins < o.n
    · have E := hid (show gvP c k y o.to_ o.n = (c, 3) by rw [HP.out, if_pos t1])
      rw [E.out]
      go_enter Try.func111, Try.ntmps111
      try go_wp2_with (first
          | (go_at_call 86; refine (place_c _ _ _ _ _ _ (Re.of (Hid.out (by assumption)) zq0) (by omega)).mono ?_; rintro e w' ⟨rfl, t, rfl⟩)
          | (
            with_reducible refine wp_region_mix (by kernel_rfl) (by decide +kernel) ?_
            repeat (first
              | (refine mix_pure rfl ?_; (first | go_big_quiet_skip | (go_big_quiet_want; go_big_quiet_op; go_big_quiet_on)); refine wpQuiet_nil ?_)
              | (refine mix_skip (by rfl) ?_; (try simp only [Act.put, List.setIfInBounds_toArray, List.set_cons_zero, List.set_cons_succ]))
              | (refine mix_mk rfl (by rfl) (fun K hK => ?_); (first | (go_simp; first | (go_at_call 86; refine (place_c _ _ _ _ _ _ (Re.of (Hid.out (by assumption)) zq0) (by omega)).mono ?_; rintro e w' ⟨rfl, t, rfl⟩) | skip)); (show K _ _); refine hK _ _ (show Ext _ _ from zq0) ?_; clear hK K; (try simp only [Act.put, List.setIfInBounds_toArray, List.set_cons_zero, List.set_cons_succ])))
            refine mix_nil ?_)
          | (
            with_reducible refine wp_region_ext (by kernel_rfl) (by kernel_rfl) ?_
            repeat (first | go_big_quiet_skip | (go_big_quiet_want; go_big_quiet_op; first | go_big_quiet_on | (apply Exists.intro; refine ⟨fun _ => ?_, ?_⟩; ((first | (go_at_call 86; first | exact quiet_call (place_c _ _ _ _ _ _ (Re.of (Hid.out (by assumption)) zq0) (by omega)) | exact quiet_call2 (place_c _ _ _ _ _ _ (Re.of (Hid.out (by assumption)) zq0) (by omega))))); (try rw [h1]); (try rw [h2]); (try rw [h3]); (try rw [h4]); (try rw [p1]); (try rw [p2]); (try rw [p3]); (try rw [p4]); (try rw [r1]); (try rw [r2]); (try rw [r3]); (try rw [r4]); (try rw [r5]); (try rw [r6]); (try rw [q3]); (try rw [q4]); (try rw [hp]); (try rw [hq]); go_big_quiet_on)))
            refine wpQuiet_nil ?_
            rintro _ ⟨tq, rfl⟩))
      go_ret
      exact ⟨rfl, HX.out.of zq0, Chg.of_ext zq0 _⟩
    · by_cases t2 : z.coins + o.n > 99
      · have E := hid (show gvP c k y o.to_ o.n = (c, 5) by rw [HP.out, if_neg t1, if_pos t2])
        rw [E.out]
        go_enter Try.func111, Try.ntmps111
        try go_wp2_with (first
            | (go_at_call 86; refine (place_c _ _ _ _ _ _ (Re.of (Hid.out (by assumption)) zq0) (by omega)).mono ?_; rintro e w' ⟨rfl, t, rfl⟩)
            | (
              with_reducible refine wp_region_mix (by kernel_rfl) (by decide +kernel) ?_
              repeat (first
                | (refine mix_pure rfl ?_; (first | go_big_quiet_skip | (go_big_quiet_want; go_big_quiet_op; go_big_quiet_on)); refine wpQuiet_nil ?_)
                | (refine mix_skip (by rfl) ?_; (try simp only [Act.put, List.setIfInBounds_toArray, List.set_cons_zero, List.set_cons_succ]))
                | (refine mix_mk rfl (by rfl) (fun K hK => ?_); (first | (go_simp; first | (go_at_call 86; refine (place_c _ _ _ _ _ _ (Re.of (Hid.out (by assumption)) zq0) (by omega)).mono ?_; rintro e w' ⟨rfl, t, rfl⟩) | skip)); (show K _ _); refine hK _ _ (show Ext _ _ from zq0) ?_; clear hK K; (try simp only [Act.put, List.setIfInBounds_toArray, List.set_cons_zero, List.set_cons_succ])))
              refine mix_nil ?_)
            | (
              with_reducible refine wp_region_ext (by kernel_rfl) (by kernel_rfl) ?_
              repeat (first | go_big_quiet_skip | (go_big_quiet_want; go_big_quiet_op; first | go_big_quiet_on | (apply Exists.intro; refine ⟨fun _ => ?_, ?_⟩; ((first | (go_at_call 86; first | exact quiet_call (place_c _ _ _ _ _ _ (Re.of (Hid.out (by assumption)) zq0) (by omega)) | exact quiet_call2 (place_c _ _ _ _ _ _ (Re.of (Hid.out (by assumption)) zq0) (by omega))))); (try rw [h1]); (try rw [h2]); (try rw [h3]); (try rw [h4]); (try rw [p1]); (try rw [p2]); (try rw [p3]); (try rw [p4]); (try rw [r1]); (try rw [r2]); (try rw [r3]); (try rw [r4]); (try rw [r5]); (try rw [r6]); (try rw [q3]); (try rw [q4]); (try rw [hp]); (try rw [hq]); go_big_quiet_on)))
              refine wpQuiet_nil ?_
              rintro _ ⟨tq, rfl⟩))
        go_ret
        exact ⟨rfl, HX.out.of zq0, Chg.of_ext zq0 _⟩
      · have E := hid (show gvP c k y o.to_ o.n = (setC (setC c k { y with coins := y.coins - o.n }) j { z with coins := z.coins + o.n }, 1) by rw [HP.out, if_neg t1, if_neg t2])
        rw [E.out]
        go_enter Try.func111, Try.ntmps111
        go_wp2_with (fail)
        with_reducible refine wp_region_ext (by kernel_rfl) (by kernel_rfl) ?_
        repeat (go_big_quiet_step ((first | (go_at_call 86; first | exact quiet_call (place_c _ _ _ _ _ _ (Re.of (Hid.out (by assumption)) zq0) (by omega)) | exact quiet_call2 (place_c _ _ _ _ _ _ (Re.of (Hid.out (by assumption)) zq0) (by omega))))))
        refine wpQuiet_nil ?_
        rintro _ ⟨tq, rfl⟩
        go_wp2_with (fail)
        with_reducible refine wp_region_ext (by kernel_rfl) (by kernel_rfl) ?_
        repeat (go_big_quiet_step (fail))
        refine wpQuiet_nil ?_
        rintro _ ⟨tq, rfl⟩
        go_wp2_with (fail)
        with_reducible refine wp_region_ext (by kernel_rfl) (by kernel_rfl) ?_
        repeat (go_big_quiet_step (fail))
        refine wpQuiet_nil ?_
        rintro _ ⟨tq, rfl⟩
        go_wp2_with (fail)
        go_region
        go_wp2_with (fail)
        go_region
        go_wp2_with (fail)
        go_ret
        refine ⟨rfl, ?_, zq1⟩
        have r1 := HX.out.wkSet HY.out 2 (.int .i64 (y.coins - o.n)) (y' := { y with coins := y.coins - o.n }) (by decide) rfl
        have r2 := r1.wkSet (j := j) (y := z) (show (c.wk.set k _)[j]? = some z by rw [List.getElem?_set_ne hkj]; exact HZ.out) 2 (.int .i64 (z.coins + o.n)) (y' := { z with coins := z.coins + o.n }) (by decide) rfl
        exact r2.of zq0
end Go.Proofs.Ytablgohncilmfaa

namespace Go.Proofs.Ytablgohncilmfaa
open Go.RowKit
set_option linter.unusedSimpArgs false
set_option linter.unusedVariables false

theorem wlk_bd {m : Mp} {x : Wlk} (h : wlkOk m x = true) : (0 ≤ x.at_ ∧ x.at_ ≤ 31) ∧ (1 ≤ x.id ∧ x.id ≤ 9) ∧ (0 ≤ x.coins ∧ x.coins ≤ 99) ∧ (0 ≤ x.seq ∧ x.seq ≤ 900) ∧ (0 ≤ x.last ∧ x.last ≤ 9) := by
  simp only [wlkOk, ranged, Bool.and_eq_true, bne_iff_ne, ne_eq, inB_iff] at h
  obtain ⟨h0, ⟨⟨h1, h2⟩, h3⟩, h4⟩ := h
  obtain ⟨hp, p0, p1, _⟩ := plcCell_ne h0
  have := mul_bd hp
  exact ⟨⟨p0, by omega⟩, h1, h2, h3, h4⟩
theorem ord_bd {o : Ord} (h : ordOk o = true) : (1 ≤ o.who ∧ o.who ≤ 9) ∧ (1 ≤ o.seq ∧ o.seq ≤ 900) ∧ (1 ≤ o.kind ∧ o.kind ≤ 6) ∧ (o.kind = 1 → 0 ≤ o.to_ ∧ o.to_ ≤ 1) ∧ (o.kind = 2 → o.to_ ≠ o.who) ∧ (o.kind = 5 → 0 ≤ o.to_ ∧ o.to_ ≤ 1) ∧ (0 ≤ o.n ∧ o.n ≤ 9) ∧ (2 ≤ o.kind → o.kind ≤ 5 → 1 ≤ o.n) := by
  unfold ordOk at h
  simp only [Bool.and_eq_true, inB_iff] at h
  obtain ⟨⟨h1, h2⟩, h3⟩ := h
  refine ⟨h1, h2, ?_⟩
  split at h3
  · simp only [Bool.and_eq_true, inB_iff, beq_iff_eq] at h3; omega
  · split at h3
    · simp only [Bool.and_eq_true, inB_iff, bne_iff_ne, ne_eq] at h3
      refine ⟨by omega, by omega, fun _ => h3.1.2, by omega, by omega, by omega⟩
    · split at h3
      · simp only [Bool.and_eq_true, inB_iff, beq_iff_eq] at h3; omega
      · split at h3
        · simp only [Bool.and_eq_true, inB_iff] at h3; omega
        · split at h3
          · simp only [Bool.and_eq_true, beq_iff_eq] at h3; omega
          · cases h3
/-- What a cell that is ok is bound to. -/
structure CllF (m : Mp) (c : Cll) : Prop where
  mp : plcOk m = true
  cell : 0 ≤ c.cell ∧ c.cell ≤ m.c - 1 ∧ c.cell ≤ 3
  asc : Asc c.wk
  wk : ∀ x ∈ c.wk, wlkOk m x = true
  home : ∀ x ∈ c.wk, plcCell m x.at_ = c.cell
  gr : 0 ≤ c.ground ∧ c.ground ≤ 900
  lo : c.outs.length = 2
  ln : c.next.length = 2
  li : c.ins.length = 2
  side : ∀ k : Nat, k < 2 → ∃ (xs : List Pcl) (nx ix : Int), c.outs[k]? = some xs ∧ c.next[k]? = some nx ∧ c.ins[k]? = some ix ∧ pclListOk m xs nx = true ∧ (0 ≤ nx ∧ nx ≤ 5000) ∧ (0 ≤ ix ∧ ix ≤ 5000) ∧ xs.length ≤ 5000 ∧ (plcSide m c.cell k = -1 → nx = 0 ∧ ix = 0) ∧ (plcSide m c.cell k ≠ -1 → ∀ p ∈ xs, p.kind = 1 → plcCell m p.wk.at_ = plcSide m c.cell k)
theorem pcl_next {m : Mp} {xs : List Pcl} {nx : Int} (h : pclListOk m xs nx = true) : (0 ≤ nx ∧ nx ≤ 5000) ∧ (xs.length : Int) ≤ nx := by
  simp only [pclListOk, Bool.and_eq_true, decide_eq_true_eq] at h
  exact ⟨inB_iff.1 h.1.1.2, h.1.2⟩
theorem side_iff {m : Mp} {cell side : Int} {xs : List Pcl} {nx ix : Int} : sideOk m cell side xs nx ix = true ↔ pclListOk m xs nx = true ∧ (0 ≤ ix ∧ ix ≤ 5000) ∧ (plcSide m cell side = -1 → nx = 0 ∧ ix = 0) ∧ (plcSide m cell side ≠ -1 → ∀ p ∈ xs, p.kind = 1 → plcCell m p.wk.at_ = plcSide m cell side) := by
  unfold sideOk
  simp only [Bool.and_eq_true, inB_iff, and_assoc]
  refine and_congr_right fun _ => and_congr_right fun _ => and_congr_right fun _ => ?_
  by_cases h : plcSide m cell side = -1
  · simp [h]
  · simp only [h, if_false, false_implies, true_and, ne_eq, not_false_eq_true, true_implies, allI_iff]
    constructor
    · intro h2 p hp hk
      obtain ⟨k, hk2⟩ := List.getElem?_of_mem hp
      have := h2 k p hk2
      simp only [goesTo, hk, beq_self_eq_true, Bool.not_true, Bool.false_or, beq_iff_eq] at this
      exact this
    · intro h2 k p hp
      simp only [goesTo, Bool.or_eq_true, Bool.not_eq_true', beq_eq_false_iff_ne, beq_iff_eq]
      by_cases hk : p.kind = 1
      · exact .inr (h2 p (List.mem_of_getElem? hp) hk)
      · exact .inl hk
theorem cllF_iff {m : Mp} {c : Cll} : cllOk m c = true ↔ CllF m c := by
  constructor
  · intro h
    simp only [cllOk, Bool.and_eq_true] at h
    obtain ⟨⟨⟨hh, hw⟩, k0⟩, k1⟩ := h
    obtain ⟨h1, h2, h3, h4, lo, ln, li⟩ := cllHead_iff.1 hh
    obtain ⟨hwk, hasc⟩ := wlkAll_iff.1 h3
    have b2 := inB_iff.1 h2
    have b4 := inB_iff.1 h4
    have bm := (plcOk_iff.1 h1).1
    refine ⟨h1, ⟨b2.1, b2.2, by omega⟩, hasc, hwk, home_iff.1 hw, b4, by omega, by omega, by omega, fun k hk => ?_⟩
    obtain ⟨xs, hxs⟩ : ∃ x, c.outs[k]? = some x := ⟨_, List.getElem?_eq_getElem (by omega)⟩
    obtain ⟨nx, hnx⟩ : ∃ x, c.next[k]? = some x := ⟨_, List.getElem?_eq_getElem (by omega)⟩
    obtain ⟨ix, hix⟩ : ∃ x, c.ins[k]? = some x := ⟨_, List.getElem?_eq_getElem (by omega)⟩
    have hso : sideAt m c k = true := by
      match k, hk with
      | 0, _ => exact k0
      | 1, _ => exact k1
    rw [sideAt_eq hxs hnx hix] at hso
    obtain ⟨s1, s2, s3, s4⟩ := side_iff.1 hso
    obtain ⟨p1, p2⟩ := pcl_next s1
    exact ⟨xs, nx, ix, hxs, hnx, hix, s1, p1, s2, by omega, s3, s4⟩
  · intro h
    refine cllOk_true (cllHead_iff.2 ⟨h.mp, inB_iff.2 ⟨h.cell.1, h.cell.2.1⟩, wlkAll_iff.2 ⟨h.wk, h.asc⟩, inB_iff.2 h.gr, by have := h.lo; omega, by have := h.ln; omega, by have := h.li; omega⟩) (home_iff.2 h.home) fun k hk => ?_
    obtain ⟨xs, nx, ix, hxs, hnx, hix, s1, _, s2, _, s3, s4⟩ := h.side k hk
    rw [sideAt_eq hxs hnx hix]
    exact side_iff.2 ⟨s1, s2, s3, s4⟩
def iDo (m : Mp) (c : Cll) (o : Ord) : Cll × Int :=
  if wlkHas c.wk o.who = false then (c, 9)
  else if o.seq < (wlkGet c.wk o.who).seq then (c, 8)
  else if o.seq = (wlkGet c.wk o.who).seq then (c, (wlkGet c.wk o.who).last)
  else iKind m c (wlkPlace c.wk o.who).toNat { wlkGet c.wk o.who with seq := o.seq } o
/-- Both ways come to the same. -/
theorem sDo_eq {m : Mp} {c : Cll} {o : Ord} (h : cllOk m c = true) (ho : ordOk o = true) : sDo m c o = iDo m c o := by
  have F := cllF_iff.1 h
  rcases has_or c.wk o.who with hn | ⟨k, x, hx, hid'⟩
  · have := (get_no hn).2.1
    simp only [sDo, iDo, this, if_true]
  · obtain ⟨g1, g2, g3⟩ := get_at F.asc hx
    rw [hid'] at g1 g2 g3
    simp only [sDo, iDo, g1, g2, g3, Bool.true_eq_false, if_false, Int.toNat_natCast]
    split
    · rfl
    · split
      · rfl
      · exact do_hit F.asc hx hid' (ord_bd ho).2.2.2.2.1
theorem CX.wkSet2 {w : World} {c : Cll} {g c1 c3 c4 c5 j : Nat} {a3 a4 a5 : Option Addr} {B1 B3 B4 B5 : List Nat} {y y' : Wlk} (x : CX w (setC c j y) ⟨some ⟨g, 0, none⟩, c1, a3, c3, a4, c4, a5, c5⟩ B1 B3 B4 B5) (hj : j < c.wk.length) (i : Nat) (v : Value) (hi : i < 5) (hc : y'.cells = y.cells.set i v) :
    CX (w.setCell ⟨g, j * 5 + i, none⟩ v) (setC c j y') ⟨some ⟨g, 0, none⟩, c1, a3, c3, a4, c4, a5, c5⟩ B1 B3 B4 B5 := by
  have h1 : (setC c j y).wk[j]? = some y := by simp only [setC]; rw [List.getElem?_set_self hj]
  have := x.wkSet h1 i v hi hc
  have e : setC (setC c j y) j y' = setC c j y' := by simp only [setC, List.set_set]
  rw [e] at this
  exact this
set_option maxHeartbeats 1000000 in
theorem iWlkOut_x (xs : List Wlk) (a : Option Addr) (n c : Nat) (id : Int) (w : World) (hx : Re w (.sl sWlk) [.slice a n c] (.l (xs.map Wlk.dat))) (hn : n ≤ 1048576) :
    Calls Try.prog 110 #[.slice a n c, .int .i64 id] w (MadeX w 43 5 Wlk.cells (wlkOut xs id)) := by
  refine (iWlkOut_r xs a n c id w hx hn).mono ?_
  rintro e w' ⟨v, rfl, hE, hr⟩
  exact made_row (fun _ => rfl) hE hr
set_option maxHeartbeats 1000000 in
theorem sWlkOut_x (xs : List Wlk) (a : Option Addr) (n c : Nat) (id : Int) (w : World) (hx : Re w (.sl sWlk) [.slice a n c] (.l (xs.map Wlk.dat))) (hn : n ≤ 1048576) :
    Calls Try.prog 126 #[.slice a n c, .int .i64 id] w (MadeX w 43 5 Wlk.cells (wlkOut xs id)) := by
  refine (sWlkOut_r xs a n c id w hx hn).mono ?_
  rintro e w' ⟨v, rfl, hE, hr⟩
  exact made_row (fun _ => rfl) hE hr
end Go.Proofs.Ytablgohncilmfaa

namespace Go.Proofs.Ytablgohncilmfaa
open Go.RowKit
theorem blk_set2 {w : World} {b o : Nat} {v : Value} {arr arr' : Array Value} {T : TypeId} {fr : Nat × Nat} (h : w.heap[b]? = some (.cells arr T fr)) (he : arr.setIfInBounds o v = arr') : (w.setCell ⟨b, o, none⟩ v).heap[b]? = some (.cells arr' T fr) := by
  rw [← he]; exact blk_set h
end Go.Proofs.Ytablgohncilmfaa

