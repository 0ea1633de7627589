/- Packed texts: CllCpI, CllOkS, CllAk, CllAkF, WlkF, WlkO, Ins, WlkP, Pure, Cdo, CllSn, CllGv, CllDf, Cdk, Cin, Blk2, SegU, CllDs, CllRv, CllSs, CllSd, CllSi -/
import Derived.Test.YtablgohncilmfaaZI1
import Derived.Test.YtablgohncilmfaaZI2
import Derived.Lib.Overlaps
import Derived.Lib.AppendZerosOnto
import Derived.Laws.IdiomCopy
import Derived.Laws.NewBlocks
namespace Go.Proofs.Ytablgohncilmfaa
open Go.RowKit
set_option linter.unusedSimpArgs false
set_option linter.unusedVariables false

theorem chg_six {Y X : World} {b : Nat} {v0 v1 v2 v3 v4 v5 : Value} (h : X = (((((Y.setCell ⟨b, 0, none⟩ v0).setCell ⟨b, 1, none⟩ v1).setCell ⟨b, 2, none⟩ v2).setCell ⟨b, 3, none⟩ v3).setCell ⟨b, 4, none⟩ v4).setCell ⟨b, 5, none⟩ v5) : Chg [b] Y X := by
  rw [h]; exact (Chg.set (Chg.set (Chg.set (Chg.set (Chg.set (Chg.set (Chg.refl _ _) (by simp) _) (by simp) _) (by simp) _) (by simp) _) (by simp) _) (by simp) _)
theorem rowX_R {α : Type} {w : World} {T : TypeId} {k lo : Nat} {cells : α → List Value} {v : Value} {xs : List α} {B : List Nat} (h : RowX w T k cells v xs B) (hB : ∀ b ∈ B, lo ≤ b) (hlo : lo ≤ w.heap.size) : ∃ R, (∀ b ∈ B, b = R) ∧ lo ≤ R ∧ R ≠ w.heap.size := by
  have hl := h.lt
  rcases h with ⟨_, rfl, _⟩ | ⟨g, cap, cur, _, rfl, _⟩
  · exact ⟨w.heap.size + 1, by simp, by omega, by omega⟩
  · exact ⟨g, by simp, hB g (by simp), by have := hl g (by simp); omega⟩
/-- What the program's copy of a cell owns. -/
theorem cll_four {c : Cll} {X wr : World} {l1 h1 l4 h4 l5 h5 lo T : Nat} {p1 p4 p5 : Option Addr} {q1 q4 q5 : Nat} {v3 : Value} {B1 B3 B4 B5 : List Nat}
    (x1 : RowX X 43 5 Wlk.cells (.slice p1 c.wk.length q1) c.wk B1) (r1 : ∀ b ∈ B1, l1 ≤ b ∧ b < h1) (x4 : RowX X 3 1 icells (.slice p4 c.next.length q4) c.next B4) (r4 : ∀ b ∈ B4, l4 ≤ b ∧ b < h4) (x5 : RowX X 3 1 icells (.slice p5 c.ins.length q5) c.ins B5) (r5 : ∀ b ∈ B5, l5 ≤ b ∧ b < h5)
    (d14 : h1 ≤ l4 ∨ h4 ≤ l1) (d15 : h1 ≤ l5 ∨ h5 ≤ l1) (d45 : h4 ≤ l5 ∨ h5 ≤ l4) (hl1 : lo ≤ l1) (hl4 : lo ≤ l4) (hl5 : lo ≤ l5) (t1 : T < l1 ∨ h1 ≤ T) (t4 : T < l4 ∨ h4 ≤ T) (t5 : T < l5 ∨ h5 ≤ T)
    (hc : Chg [T] X wr) (hlo : lo ≤ X.heap.size) (x3 : RowSS wr 62 45 8 Pcl.cells v3 c.outs B3) (r3 : ∀ b ∈ B3, X.heap.size ≤ b) :
    ∃ p3 q3, v3 = .slice p3 c.outs.length q3 ∧ CX wr c ⟨p1, q1, p3, q3, p4, q4, p5, q5⟩ B1 B3 B4 B5 ∧ ∀ b ∈ B1 ++ (B3 ++ (B4 ++ B5)), lo ≤ b := by
  obtain ⟨p3, q3, rfl⟩ := x3.slice
  have k1 := x1.lt; have k4 := x4.lt; have k5 := x5.lt
  refine ⟨p3, q3, rfl, ⟨x1.chg hc fun b hb => ?_, x3, x4.chg hc fun b hb => ?_, x5.chg hc fun b hb => ?_, ?_⟩, fun b hb => ?_⟩
  · have := r1 b hb; simp; omega
  · have := r4 b hb; simp; omega
  · have := r5 b hb; simp; omega
  · refine List.nodup_append.2 ⟨x1.nodup, List.nodup_append.2 ⟨x3.nodup, List.nodup_append.2 ⟨x4.nodup, x5.nodup, fun a ha b hb e => ?_⟩, fun a ha b hb e => ?_⟩, fun a ha b hb e => ?_⟩
    · have := r4 a ha; have := r5 b hb; omega
    · have := r3 a ha
      rcases List.mem_append.1 hb with hb | hb
      · have := k4 b hb; omega
      · have := k5 b hb; omega
    · have := r1 a ha; have := k1 a ha
      rcases List.mem_append.1 hb with hb | hb
      · have := r3 b hb; omega
      · rcases List.mem_append.1 hb with hb | hb
        · have := r4 b hb; omega
        · have := r5 b hb; omega
  · rcases List.mem_append.1 hb with hb | hb
    · have := r1 b hb; omega
    · rcases List.mem_append.1 hb with hb | hb
      · have := r3 b hb; omega
      · rcases List.mem_append.1 hb with hb | hb
        · have := r4 b hb; omega
        · have := r5 b hb; omega
set_option maxRecDepth 100000 in
set_option maxHeartbeats 40000000 in
theorem iCllCopy_x (c : Cll) (h : CllH) (w : World) (hx : ReC w c h) (hb : BdC c) :
    Calls Try.prog 54 #[.agg #[.int .i64 c.cell, .slice h.a1 c.wk.length h.c1, .int .i64 c.ground, .slice h.a3 c.outs.length h.c3, .slice h.a4 c.next.length h.c4, .slice h.a5 c.ins.length h.c5]] w (MadeCX w c) := by
  obtain ⟨a1, c1, a3, c3, a4, c4, a5, c5⟩ := h
  obtain ⟨r1, r3, r4, r5⟩ := hx
  obtain ⟨b1, b3, bo, b4, b5⟩ := hb
  dsimp only at r1 r3 r4 r5 ⊢
  have H1 := hid r1
  have H3 := hid r3
  have H4 := hid r4
  have H5 := hid r5
  have BO := hid bo
  clear r1 r3 r4 r5 bo
  go_enter Try.func54, Try.ntmps54
  try go_wp2_with (first
      | fail
      | (
        with_reducible refine wp_region_mix (by kernel_rfl) (by decide +kernel) ?_
        repeat (first
          | (refine mix_pure rfl ?_; (first | go_big_quiet_skip | (go_big_quiet_want; go_big_quiet_op; go_big_quiet_on)); refine wpQuiet_nil ?_)
          | (refine mix_skip (by rfl) ?_; (try simp only [Act.put, List.setIfInBounds_toArray, List.set_cons_zero, List.set_cons_succ]))
          | (refine mix_mk rfl (by rfl) (fun K hK => ?_); (first | (go_simp; first | skip)); (show K _ _); refine hK _ _ (show Ext _ _ from zq0) ?_; clear hK K; (try simp only [Act.put, List.setIfInBounds_toArray, List.set_cons_zero, List.set_cons_succ])))
        refine mix_nil ?_)
      | (
        with_reducible refine wp_region_ext (by kernel_rfl) (by kernel_rfl) ?_
        repeat (first | go_big_quiet_skip | (go_big_quiet_want; go_big_quiet_op; first | go_big_quiet_on | (apply Exists.intro; refine ⟨fun _ => ?_, ?_⟩; (fail); (try rw [h1]); (try rw [h2]); (try rw [h3]); (try rw [h4]); (try rw [p1]); (try rw [p2]); (try rw [p3]); (try rw [p4]); (try rw [r1]); (try rw [r2]); (try rw [r3]); (try rw [r4]); (try rw [r5]); (try rw [r6]); (try rw [q3]); (try rw [q4]); (try rw [hp]); (try rw [hq]); go_big_quiet_on)))
        refine wpQuiet_nil ?_
        rintro _ ⟨tq, rfl⟩))
  refine wp_region_flow [6, 7, 8, 9, 10, 11, 12, 13, 14, 15, 16, 17, 18, 19, 3] (fun i σ lo hi w9 => match i with
    | 0 => σ 0 = .pointer (some ⟨w.heap.size, 0, none⟩)
    | 1 => σ 1 = .int .i64 c.cell
    | 2 => σ 2 = .pointer (some ⟨w.heap.size, 1, none⟩)
    | 3 => σ 3 = .slice a1 c.wk.length c1
    | 4 => MkX 43 5 Wlk.cells c.wk (σ 4) lo hi w9
    | 5 => σ 5 = .pointer (some ⟨w.heap.size, 2, none⟩)
    | 6 => σ 6 = .int .i64 c.ground
    | 7 => σ 7 = .pointer (some ⟨w.heap.size, 4, none⟩)
    | 8 => σ 8 = .slice a4 c.next.length c4
    | 9 => MkX 3 1 icells c.next (σ 9) lo hi w9
    | 10 => σ 10 = .pointer (some ⟨w.heap.size, 5, none⟩)
    | 11 => σ 11 = .slice a5 c.ins.length c5
    | 12 => MkX 3 1 icells c.ins (σ 12) lo hi w9
    | 13 => σ 13 = .agg #[.int .i64 c.cell, σ 4, .int .i64 c.ground, .slice none 0 0, σ 9, σ 12]
    | _ => MkA #[.int .i64 0, .slice none 0 0, .int .i64 0, .slice none 0 0, .slice none 0 0, .slice none 0 0] 37 (σ 14) lo hi w9) (by kernel_rfl) (by decide +kernel) (by simp) ?_ ?_ ?_ ?_
  · intro i oo hi ho σ σ' lo hi' w9 h hS
    match i, hi, ho with
    | 0, _, ho =>
      have e0 := h 0 (.inl rfl)
      try dsimp only at hS ⊢
      rw [e0] at hS
      exact hS
    | 1, _, ho =>
      have e0 := h 1 (.inl rfl)
      try dsimp only at hS ⊢
      rw [e0] at hS
      exact hS
    | 2, _, ho =>
      have e0 := h 2 (.inl rfl)
      try dsimp only at hS ⊢
      rw [e0] at hS
      exact hS
    | 3, _, ho =>
      have e0 := h 3 (.inl rfl)
      try dsimp only at hS ⊢
      rw [e0] at hS
      exact hS
    | 4, _, ho =>
      have e0 := h 4 (.inl rfl)
      try dsimp only at hS ⊢
      rw [e0] at hS
      exact hS
    | 5, _, ho =>
      have e0 := h 5 (.inl rfl)
      try dsimp only at hS ⊢
      rw [e0] at hS
      exact hS
    | 6, _, ho =>
      have e0 := h 6 (.inl rfl)
      try dsimp only at hS ⊢
      rw [e0] at hS
      exact hS
    | 7, _, ho =>
      have e0 := h 7 (.inl rfl)
      try dsimp only at hS ⊢
      rw [e0] at hS
      exact hS
    | 8, _, ho =>
      have e0 := h 8 (.inl rfl)
      try dsimp only at hS ⊢
      rw [e0] at hS
      exact hS
    | 9, _, ho =>
      have e0 := h 9 (.inl rfl)
      try dsimp only at hS ⊢
      rw [e0] at hS
      exact hS
    | 10, _, ho =>
      have e0 := h 10 (.inl rfl)
      try dsimp only at hS ⊢
      rw [e0] at hS
      exact hS
    | 11, _, ho =>
      have e0 := h 11 (.inl rfl)
      try dsimp only at hS ⊢
      rw [e0] at hS
      exact hS
    | 12, _, ho =>
      have e0 := h 12 (.inl rfl)
      try dsimp only at hS ⊢
      rw [e0] at hS
      exact hS
    | 13, _, ho =>
      have e0 := h 13 (.inl rfl)
      obtain rfl := Option.some.inj ho
      have e5 := h 4 (.inr (by kernel_rfl))
      have e10 := h 9 (.inr (by kernel_rfl))
      have e13 := h 12 (.inr (by kernel_rfl))
      try dsimp only at hS ⊢
      rw [e0, e5, e10, e13] at hS
      exact hS
    | 14, _, ho =>
      have e0 := h 14 (.inl rfl)
      try dsimp only at hS ⊢
      rw [e0] at hS
      exact hS
  · intro i hi σ lo hi' w9 w8 hS hle hE
    match i, hi with
    | 0, _ => exact hS
    | 1, _ => exact hS
    | 2, _ => exact hS
    | 3, _ => exact hS
    | 4, _ => exact MkX.ext hS hE
    | 5, _ => exact hS
    | 6, _ => exact hS
    | 7, _ => exact hS
    | 8, _ => exact hS
    | 9, _ => exact MkX.ext hS hE
    | 10, _ => exact hS
    | 11, _ => exact hS
    | 12, _ => exact MkX.ext hS hE
    | 13, _ => exact hS
    | 14, _ => exact MkA.ext hS hE
  · intro i oo hi ho σ L H w9 hE hd
    obtain ⟨t9, rfl⟩ := hE
    match i, hi, ho with
    | 0, _, ho =>
      obtain rfl := Option.some.inj ho
      clear hd ho
      simp only [actS, putS, List.setIfInBounds_toArray, List.set_cons_zero, List.set_cons_succ, Nat.reduceAdd]
      refine flow_K (fun K hK => ?_)
      go_simp
      (show K _ _)
      exact hK _ _ ⟨_, rfl, (show Ext _ _ from zq0), rfl⟩
    | 1, _, ho =>
      obtain rfl := Option.some.inj ho
      have e0 : σ 0 = .pointer (some ⟨w.heap.size, 0, none⟩) := (hd 0 (by kernel_rfl)).2.2.2
      clear hd ho
      simp only [actS, putS, List.setIfInBounds_toArray, List.set_cons_zero, List.set_cons_succ, Nat.reduceAdd, e0]
      refine flow_K (fun K hK => ?_)
      go_simp
      (show K _ _)
      exact hK _ _ ⟨_, rfl, (show Ext _ _ from zq0), rfl⟩
    | 2, _, ho =>
      obtain rfl := Option.some.inj ho
      clear hd ho
      simp only [actS, putS, List.setIfInBounds_toArray, List.set_cons_zero, List.set_cons_succ, Nat.reduceAdd]
      refine flow_K (fun K hK => ?_)
      go_simp
      (show K _ _)
      exact hK _ _ ⟨_, rfl, (show Ext _ _ from zq0), rfl⟩
    | 3, _, ho =>
      obtain rfl := Option.some.inj ho
      have e2 : σ 2 = .pointer (some ⟨w.heap.size, 1, none⟩) := (hd 2 (by kernel_rfl)).2.2.2
      clear hd ho
      simp only [actS, putS, List.setIfInBounds_toArray, List.set_cons_zero, List.set_cons_succ, Nat.reduceAdd, e2]
      refine flow_K (fun K hK => ?_)
      go_simp
      (show K _ _)
      exact hK _ _ ⟨_, rfl, (show Ext _ _ from zq0), rfl⟩
    | 4, _, ho =>
      obtain rfl := Option.some.inj ho
      have e3 : σ 3 = .slice a1 c.wk.length c1 := (hd 3 (by kernel_rfl)).2.2.2
      clear hd ho
      simp only [actS, putS, List.setIfInBounds_toArray, List.set_cons_zero, List.set_cons_succ, Nat.reduceAdd, e3]
      refine flow_K (fun K hK => ?_)
      go_simp
      refine (iCloneWlk_x c.wk a1 _ c1 _ (H1.out.of zq0) (by omega)).mono ?_
      rintro e w8 ⟨a', c', B', rfl, hE', hr', hb'⟩
      (show K _ _)
      exact hK _ _ ⟨_, rfl, hE', ⟨_, _, B', rfl, hr', fun b hb => ⟨hb' b hb, hr'.lt b hb⟩⟩⟩
    | 5, _, ho =>
      obtain rfl := Option.some.inj ho
      clear hd ho
      simp only [actS, putS, List.setIfInBounds_toArray, List.set_cons_zero, List.set_cons_succ, Nat.reduceAdd]
      refine flow_K (fun K hK => ?_)
      go_simp
      (show K _ _)
      exact hK _ _ ⟨_, rfl, (show Ext _ _ from zq0), rfl⟩
    | 6, _, ho =>
      obtain rfl := Option.some.inj ho
      have e5 : σ 5 = .pointer (some ⟨w.heap.size, 2, none⟩) := (hd 5 (by kernel_rfl)).2.2.2
      clear hd ho
      simp only [actS, putS, List.setIfInBounds_toArray, List.set_cons_zero, List.set_cons_succ, Nat.reduceAdd, e5]
      refine flow_K (fun K hK => ?_)
      go_simp
      (show K _ _)
      exact hK _ _ ⟨_, rfl, (show Ext _ _ from zq0), rfl⟩
    | 7, _, ho =>
      obtain rfl := Option.some.inj ho
      clear hd ho
      simp only [actS, putS, List.setIfInBounds_toArray, List.set_cons_zero, List.set_cons_succ, Nat.reduceAdd]
      refine flow_K (fun K hK => ?_)
      go_simp
      (show K _ _)
      exact hK _ _ ⟨_, rfl, (show Ext _ _ from zq0), rfl⟩
    | 8, _, ho =>
      obtain rfl := Option.some.inj ho
      have e7 : σ 7 = .pointer (some ⟨w.heap.size, 4, none⟩) := (hd 7 (by kernel_rfl)).2.2.2
      clear hd ho
      simp only [actS, putS, List.setIfInBounds_toArray, List.set_cons_zero, List.set_cons_succ, Nat.reduceAdd, e7]
      refine flow_K (fun K hK => ?_)
      go_simp
      (show K _ _)
      exact hK _ _ ⟨_, rfl, (show Ext _ _ from zq0), rfl⟩
    | 9, _, ho =>
      obtain rfl := Option.some.inj ho
      have e8 : σ 8 = .slice a4 c.next.length c4 := (hd 8 (by kernel_rfl)).2.2.2
      clear hd ho
      simp only [actS, putS, List.setIfInBounds_toArray, List.set_cons_zero, List.set_cons_succ, Nat.reduceAdd, e8]
      refine flow_K (fun K hK => ?_)
      refine wp_cloneX (cells := icells) (k := 1) (bytes := 8) (z := .int .i64 0) Try.underlying26 (by kernel_rfl) rfl (by decide) (by decide) rfl (fun _ => rfl) (fun _ _ _ _ h => rd_Int h) (fun _ _ h => idat_inj h) ione (fun w x => own_Int_mk w x) _ _ rfl rfl (.inl rfl) c.next rfl (H4.out.of zq0) (by omega) ?_
      intro a' c' t' B' hr' hb'
      exact hK _ _ ⟨_, rfl, ⟨t', rfl⟩, ⟨_, _, B', rfl, hr', fun b hb => ⟨hb' b hb, hr'.lt b hb⟩⟩⟩
    | 10, _, ho =>
      obtain rfl := Option.some.inj ho
      clear hd ho
      simp only [actS, putS, List.setIfInBounds_toArray, List.set_cons_zero, List.set_cons_succ, Nat.reduceAdd]
      refine flow_K (fun K hK => ?_)
      go_simp
      (show K _ _)
      exact hK _ _ ⟨_, rfl, (show Ext _ _ from zq0), rfl⟩
    | 11, _, ho =>
      obtain rfl := Option.some.inj ho
      have e10 : σ 10 = .pointer (some ⟨w.heap.size, 5, none⟩) := (hd 10 (by kernel_rfl)).2.2.2
      clear hd ho
      simp only [actS, putS, List.setIfInBounds_toArray, List.set_cons_zero, List.set_cons_succ, Nat.reduceAdd, e10]
      refine flow_K (fun K hK => ?_)
      go_simp
      (show K _ _)
      exact hK _ _ ⟨_, rfl, (show Ext _ _ from zq0), rfl⟩
    | 12, _, ho =>
      obtain rfl := Option.some.inj ho
      have e11 : σ 11 = .slice a5 c.ins.length c5 := (hd 11 (by kernel_rfl)).2.2.2
      clear hd ho
      simp only [actS, putS, List.setIfInBounds_toArray, List.set_cons_zero, List.set_cons_succ, Nat.reduceAdd, e11]
      refine flow_K (fun K hK => ?_)
      refine wp_cloneX (cells := icells) (k := 1) (bytes := 8) (z := .int .i64 0) Try.underlying26 (by kernel_rfl) rfl (by decide) (by decide) rfl (fun _ => rfl) (fun _ _ _ _ h => rd_Int h) (fun _ _ h => idat_inj h) ione (fun w x => own_Int_mk w x) _ _ rfl rfl (.inl rfl) c.ins rfl (H5.out.of zq0) (by omega) ?_
      intro a' c' t' B' hr' hb'
      exact hK _ _ ⟨_, rfl, ⟨t', rfl⟩, ⟨_, _, B', rfl, hr', fun b hb => ⟨hb' b hb, hr'.lt b hb⟩⟩⟩
    | 13, _, ho =>
      obtain rfl := Option.some.inj ho
      have e1 : σ 1 = .int .i64 c.cell := (hd 1 (by kernel_rfl)).2.2.2
      obtain ⟨pa4, pc4, BB4, e4, _, _⟩ : MkX 43 5 Wlk.cells c.wk (σ 4) (L 4) (H 4) _ := (hd 4 (by kernel_rfl)).2.2.2
      have e6 : σ 6 = .int .i64 c.ground := (hd 6 (by kernel_rfl)).2.2.2
      obtain ⟨pa9, pc9, BB9, e9, _, _⟩ : MkX 3 1 icells c.next (σ 9) (L 9) (H 9) _ := (hd 9 (by kernel_rfl)).2.2.2
      obtain ⟨pa12, pc12, BB12, e12, _, _⟩ : MkX 3 1 icells c.ins (σ 12) (L 12) (H 12) _ := (hd 12 (by kernel_rfl)).2.2.2
      clear hd ho
      simp only [actS, putS, List.setIfInBounds_toArray, List.set_cons_zero, List.set_cons_succ, Nat.reduceAdd, e1, e4, e6, e9, e12]
      refine flow_K (fun K hK => ?_)
      go_simp
      (show K _ _)
      exact hK _ _ ⟨_, rfl, (show Ext _ _ from zq0), (by simp)⟩
    | 14, _, ho =>
      obtain rfl := Option.some.inj ho
      clear hd ho
      simp only [actS, putS, List.setIfInBounds_toArray, List.set_cons_zero, List.set_cons_succ, Nat.reduceAdd]
      refine flow_K (fun K hK => ?_)
      go_simp
      (show K _ _)
      exact hK _ _ ⟨_, rfl, (show Ext _ _ from zq0), ⟨_, rfl, by simp [go_sem], by simp [go_sem], heap_new (by simp [go_sem])⟩⟩
  · intro oo ho σ L H w9 hE hd hap
    obtain ⟨t9, rfl⟩ := hE
    obtain ⟨l0, m0, u0, s0⟩ := hd 0 (by decide)
    have e0 : σ 0 = .pointer (some ⟨w.heap.size, 0, none⟩) := s0
    clear s0
    obtain ⟨l1, m1, u1, s1⟩ := hd 1 (by decide)
    have e1 : σ 1 = .int .i64 c.cell := s1
    clear s1
    obtain ⟨l2, m2, u2, s2⟩ := hd 2 (by decide)
    have e2 : σ 2 = .pointer (some ⟨w.heap.size, 1, none⟩) := s2
    clear s2
    obtain ⟨l3, m3, u3, s3⟩ := hd 3 (by decide)
    have e3 : σ 3 = .slice a1 c.wk.length c1 := s3
    clear s3
    obtain ⟨l4, m4, u4, s4⟩ := hd 4 (by decide)
    obtain ⟨pa4, pc4, BB4, e4, o4, ob4⟩ : MkX 43 5 Wlk.cells c.wk (σ 4) (L 4) (H 4) _ := s4
    obtain ⟨l5, m5, u5, s5⟩ := hd 5 (by decide)
    have e5 : σ 5 = .pointer (some ⟨w.heap.size, 2, none⟩) := s5
    clear s5
    obtain ⟨l6, m6, u6, s6⟩ := hd 6 (by decide)
    have e6 : σ 6 = .int .i64 c.ground := s6
    clear s6
    obtain ⟨l7, m7, u7, s7⟩ := hd 7 (by decide)
    have e7 : σ 7 = .pointer (some ⟨w.heap.size, 4, none⟩) := s7
    clear s7
    obtain ⟨l8, m8, u8, s8⟩ := hd 8 (by decide)
    have e8 : σ 8 = .slice a4 c.next.length c4 := s8
    clear s8
    obtain ⟨l9, m9, u9, s9⟩ := hd 9 (by decide)
    obtain ⟨pa9, pc9, BB9, e9, o9, ob9⟩ : MkX 3 1 icells c.next (σ 9) (L 9) (H 9) _ := s9
    obtain ⟨l10, m10, u10, s10⟩ := hd 10 (by decide)
    have e10 : σ 10 = .pointer (some ⟨w.heap.size, 5, none⟩) := s10
    clear s10
    obtain ⟨l11, m11, u11, s11⟩ := hd 11 (by decide)
    have e11 : σ 11 = .slice a5 c.ins.length c5 := s11
    clear s11
    obtain ⟨l12, m12, u12, s12⟩ := hd 12 (by decide)
    obtain ⟨pa12, pc12, BB12, e12, o12, ob12⟩ : MkX 3 1 icells c.ins (σ 12) (L 12) (H 12) _ := s12
    obtain ⟨l13, m13, u13, s13⟩ := hd 13 (by decide)
    have e13 : σ 13 = .agg #[.int .i64 c.cell, σ 4, .int .i64 c.ground, .slice none 0 0, σ 9, σ 12] := s13
    clear s13
    obtain ⟨l14, m14, u14, s14⟩ := hd 14 (by decide)
    obtain ⟨bx, e14, bl, bh, hbx⟩ : MkA #[.int .i64 0, .slice none 0 0, .int .i64 0, .slice none 0 0, .slice none 0 0, .slice none 0 0] 37 (σ 14) (L 14) (H 14) _ := s14
    rw [e4, e9, e12] at e13
    clear hd
    try simp only [ext_ext] at o4 o9 o12 hbx
    have y0 := (cell_blk hbx 0).trans (show _ = some (Value.int .i64 0) from rfl)
    have z0 := frozen_blk hbx 0
    have y1 := (cell_blk hbx 1).trans (show _ = some (Value.slice none 0 0) from rfl)
    have z1 := frozen_blk hbx 1
    have y2 := (cell_blk hbx 2).trans (show _ = some (Value.int .i64 0) from rfl)
    have z2 := frozen_blk hbx 2
    have y3 := (cell_blk hbx 3).trans (show _ = some (Value.slice none 0 0) from rfl)
    have z3 := frozen_blk hbx 3
    have y4 := (cell_blk hbx 4).trans (show _ = some (Value.slice none 0 0) from rfl)
    have z4 := frozen_blk hbx 4
    have y5 := (cell_blk hbx 5).trans (show _ = some (Value.slice none 0 0) from rfl)
    have z5 := frozen_blk hbx 5
    have HBX := hid hbx
    have lbx := lt_blk hbx
    clear hbx
    simp only [actS, putS, List.setIfInBounds_toArray, List.set_cons_zero, List.set_cons_succ, Nat.reduceAdd, e0, e1, e2, e3, e4, e5, e6, e7, e8, e9, e10, e11, e12, e13, e14]
    obtain rfl := Option.some.inj ho
    refine flow_K (fun K hK => ?_)
    go_simp
    (show K _ _)
    refine hK _ _ ?_
    clear hK K ho
    try simp only [Act.put, List.setIfInBounds_toArray, List.set_cons_zero, List.set_cons_succ]
    simp only [Exit.then]
    rename_i hKont
    refine hKont _ _ ?_
    clear hKont
    refine wp_gen fun X hX => ?_
    have hC := chg_six hX
    have hbX : X.heap[bx]? = some (.cells #[.int .i64 c.cell, .slice pa4 c.wk.length pc4, .int .i64 c.ground, .slice none 0 0, .slice pa9 c.next.length pc9, .slice pa12 c.ins.length pc12] 37 (0, 0)) := by rw [hX]; exact blk_set (blk_set (blk_set (blk_set (blk_set (blk_set HBX.out)))))
    obtain ⟨Y, hY, hCY⟩ := chg_left hC
    have EY : Ext w Y := by rw [hY]; ((try simp only [ext_drew]); (try simp only [ext_ext]); repeat (first | exact Ext.refl _ | with_reducible apply Ext.add | with_reducible apply Ext.dr | apply Ext.alloc | apply Ext.ext | apply Ext.drew | refine Ext.trans ?_ (by assumption)))
    have d4A := hap 4 14 (by decide) (by decide) (by decide)
    have d9A := hap 9 14 (by decide) (by decide) (by decide)
    have d12A := hap 12 14 (by decide) (by decide) (by decide)
    have d49 := hap 4 9 (by decide) (by decide) (by decide)
    have d412 := hap 4 12 (by decide) (by decide) (by decide)
    have d912 := hap 9 12 (by decide) (by decide) (by decide)
    have hbase : w.heap.size + 2 ≤ L 14 := Nat.le_trans zq1 l14
    have hl4 : w.heap.size + 2 ≤ L 4 := Nat.le_trans zq1 l4
    have hl9 : w.heap.size + 2 ≤ L 9 := Nat.le_trans zq1 l9
    have hl12 : w.heap.size + 2 ≤ L 12 := Nat.le_trans zq1 l12
    have t4 : bx < L 4 ∨ H 4 ≤ bx := by omega
    have t9' : bx < L 9 ∨ H 9 ≤ bx := by omega
    have t12 : bx < L 12 ∨ H 12 ≤ bx := by omega
    have q4 := o4.chg hC (fun b hb => by have := ob4 b hb; simp; omega)
    have q9 := o9.chg hC (fun b hb => by have := ob9 b hb; simp; omega)
    have q12 := o12.chg hC (fun b hb => by have := ob12 b hb; simp; omega)
    have hMB : w.heap.size ∉ [bx] := by simp; omega
    have hRB : w.heap.size + 1 ∉ [bx] := by simp; omega
    have xM3 : X.cell? ⟨w.heap.size, 3, none⟩ = some (.slice a3 c.outs.length c3) := (hC.cell zq1 hMB 3).trans (by simp [go_sem])
    have hRX : X.heap[w.heap.size + 1]? = some (.cells #[.int .i64 0, .slice none 0 0, .int .i64 0, .slice none 0 0, .slice none 0 0, .slice none 0 0] 37 (0, 0)) := (hC.block _ zq1 hRB).trans ((ext_block _ _ _ zq1).trans (heap_new (by simp)))
    have lRX := lt_blk hRX
    have lbX := lt_blk hbX
    have lMX : w.heap.size < X.heap.size := by omega
    have EB : Below w.heap.size w X := Below.chg (w0 := w) EY.below hCY (fun b hb => by
      obtain rfl : b = bx := by simpa using hb
      omega)
    have HQ4 := hid q4
    have HQ9 := hid q9
    have HQ12 := hid q12
    have HO4 := hid ob4
    have HO9 := hid ob9
    have HO12 := hid ob12
    have HD := hid (show (H 4 ≤ L 9 ∨ H 9 ≤ L 4) ∧ (H 4 ≤ L 12 ∨ H 12 ≤ L 4) ∧ (H 9 ≤ L 12 ∨ H 12 ≤ L 9) from ⟨d49, d412, d912⟩)
    have HT := hid (show (bx < L 4 ∨ H 4 ≤ bx) ∧ (bx < L 9 ∨ H 9 ≤ bx) ∧ (bx < L 12 ∨ H 12 ≤ bx) from ⟨t4, t9', t12⟩)
    have HL := hid (show w.heap.size + 2 ≤ L 4 ∧ w.heap.size + 2 ≤ L 9 ∧ w.heap.size + 2 ≤ L 12 from ⟨hl4, hl9, hl12⟩)
    have hbxw : w.heap.size + 2 ≤ bx := by omega
    have HB0 := hid hbX
    have HEB := hid EB
    have HRX := hid hRX
    clear y0 y1 y2 y3 y4 y5 z0 z1 z2 z3 z4 z5
    clear hX hC hCY hY q4 q9 q12 HBX hMB hRB hbX lbx hbase hl4 hl9 hl12 EB EY hRX t4 t9' t12 d49 d412 d912 d4A d9A d12A hap bl bh
    clear e0 e1 e2 e3 e4 e5 e6 e7 e8 e9 e10 e11 e12 e13 e14
    clear l0 m0 u0 l1 m1 u1 l2 m2 u2 l3 m3 u3 l4 m4 u4 l5 m5 u5 l6 m6 u6 l7 m7 u7 l8 m8 u8 l9 m9 u9 l10 m10 u10 l11 m11 u11 l12 m12 u12 l13 m13 u13 l14 m14 u14
    clear o4 o9 o12 ob4 ob9 ob12
    generalize hTe : bx = T at *
    clear hTe bx
    try go_wp2_with (first
        | fail
        | (
          with_reducible refine wp_region_mix (by kernel_rfl) (by decide +kernel) ?_
          repeat (first
            | (refine mix_pure rfl ?_; (first | go_big_quiet_skip | (go_big_quiet_want; go_big_quiet_op; go_big_quiet_on)); refine wpQuiet_nil ?_)
            | (refine mix_skip (by rfl) ?_; (try simp only [Act.put, List.setIfInBounds_toArray, List.set_cons_zero, List.set_cons_succ]))
            | (refine mix_mk rfl (by rfl) (fun K hK => ?_); (first | (go_simp; first | skip)); (show K _ _); refine hK _ _ (show Ext _ _ from zq0) ?_; clear hK K; (try simp only [Act.put, List.setIfInBounds_toArray, List.set_cons_zero, List.set_cons_succ])))
          refine mix_nil ?_)
        | (
          with_reducible refine wp_region_ext (by kernel_rfl) (by kernel_rfl) ?_
          repeat (first | go_big_quiet_skip | (go_big_quiet_want; go_big_quiet_op; first | go_big_quiet_on | (apply Exists.intro; refine ⟨fun _ => ?_, ?_⟩; (fail); (try rw [h1]); (try rw [h2]); (try rw [h3]); (try rw [h4]); (try rw [p1]); (try rw [p2]); (try rw [p3]); (try rw [p4]); (try rw [r1]); (try rw [r2]); (try rw [r3]); (try rw [r4]); (try rw [r5]); (try rw [r6]); (try rw [q3]); (try rw [q4]); (try rw [hp]); (try rw [hq]); go_big_quiet_on)))
          refine wpQuiet_nil ?_
          rintro _ ⟨tq, rfl⟩))
    go_loopw [23] (fun i wr => ∃ (k : Nat) (v : Value) (B : List Nat), k ≤ c.outs.length ∧ i = .int .i64 k ∧ wr.heap[T]? = some (.cells #[.int .i64 c.cell, .slice pa4 c.wk.length pc4, .int .i64 c.ground, v, .slice pa9 c.next.length pc9, .slice pa12 c.ins.length pc12] 37 (0, 0)) ∧ RowSS wr 62 45 8 Pcl.cells v (c.outs.take k) B ∧ (∀ b ∈ B, X.heap.size ≤ b) ∧ Chg [T] X wr) (fun i _ => c.outs.length - (intOf i).toNat)
    case atStart => exact ⟨0, .slice none 0 0, [], Nat.zero_le _, rfl, HB0.out, RowSS.nil (.inl ⟨rfl, rfl, none, rfl, .inl rfl⟩), by simp, Chg.refl _ _⟩
    case round =>
      obtain ⟨k, v, B, hk, rfl, hT, hss, hbs, hch⟩ := hrel
      have HC := hid hch
      have hsz := hch.size
      have lT : T < wr.heap.size := lt_blk hT
      have cT0 : wr.cell? ⟨T, 0, none⟩ = some (.int .i64 c.cell) := (cell_blk hT 0).trans rfl
      have cT1 : wr.cell? ⟨T, 1, none⟩ = some (.slice pa4 c.wk.length pc4) := (cell_blk hT 1).trans rfl
      have cT2 : wr.cell? ⟨T, 2, none⟩ = some (.int .i64 c.ground) := (cell_blk hT 2).trans rfl
      have cT3 : wr.cell? ⟨T, 3, none⟩ = some (v) := (cell_blk hT 3).trans rfl
      have cT4 : wr.cell? ⟨T, 4, none⟩ = some (.slice pa9 c.next.length pc9) := (cell_blk hT 4).trans rfl
      have cT5 : wr.cell? ⟨T, 5, none⟩ = some (.slice pa12 c.ins.length pc12) := (cell_blk hT 5).trans rfl
      have zT := frozen_blk hT 3
      have lM : w.heap.size < wr.heap.size := by omega
      have cM3 : wr.cell? ⟨w.heap.size, 3, none⟩ = some (.slice a3 c.outs.length c3) := (hch.cell (by omega) (by simp; omega) 3).trans xM3
      have bR := (hch.block (w.heap.size + 1) (by omega) (by simp; omega)).trans HRX.out
      have cR0 : wr.cell? ⟨w.heap.size + 1, 0, none⟩ = some (.int .i64 0) := (cell_blk bR 0).trans rfl
      have zR0 := frozen_blk bR 0
      have cR1 : wr.cell? ⟨w.heap.size + 1, 1, none⟩ = some (.slice none 0 0) := (cell_blk bR 1).trans rfl
      have zR1 := frozen_blk bR 1
      have cR2 : wr.cell? ⟨w.heap.size + 1, 2, none⟩ = some (.int .i64 0) := (cell_blk bR 2).trans rfl
      have zR2 := frozen_blk bR 2
      have cR3 : wr.cell? ⟨w.heap.size + 1, 3, none⟩ = some (.slice none 0 0) := (cell_blk bR 3).trans rfl
      have zR3 := frozen_blk bR 3
      have cR4 : wr.cell? ⟨w.heap.size + 1, 4, none⟩ = some (.slice none 0 0) := (cell_blk bR 4).trans rfl
      have zR4 := frozen_blk bR 4
      have cR5 : wr.cell? ⟨w.heap.size + 1, 5, none⟩ = some (.slice none 0 0) := (cell_blk bR 5).trans rfl
      have zR5 := frozen_blk bR 5
      have lR : w.heap.size + 1 < wr.heap.size := by omega
      have hbel : Below w.heap.size w wr := Below.chg (w0 := w) HEB.out hch (fun b hb => by
        obtain rfl : b = T := by simpa using hb
        omega)
      have HBl := hid hbel
      have HTb := hid hT
      have HSS := hid hss
      have HBS := hid hbs
      clear hT hch hbel bR hss hbs
      by_cases hlt : k < c.outs.length
      · obtain ⟨xs, b', o', a', c', hxk, rfl, hb', f0, hre⟩ := at_SS H3.out hlt
        have hbx' := (HBl.out).block b' hb'
        have f1 : wr.cell? ⟨b', o' + k, none⟩ = some (.slice a' xs.length c') := (World.cell?_of_block (a := ⟨b', o' + k, none⟩) hbx').trans f0
        have lb1 : b' < wr.heap.size := by omega
        have HK := hid hxk
        have hxm : xs.length ≤ 1048576 := BO.out xs (List.mem_of_getElem? hxk)
        have HRe := hid (Re.below hre HBl.out)
        clear hxk f0 hre hbx'
        obtain ⟨es, Rl, Bs, g1, g2, g3, g4, g5, g6⟩ := HSS.out
        have hbs2 : ∀ b ∈ Rl ++ Bs.flatten, X.heap.size ≤ b := g4 ▸ HBS.out
        obtain ⟨R, hRl, hRlo, hRne⟩ := rowX_R g1 (lo := X.heap.size) (fun b hb => hbs2 b (by simp [hb])) hsz
        have HG1 := hid g1
        have HG2 := hid (show es.length = (c.outs.take k).length ∧ Bs.length = es.length ∧ (Rl ++ Bs.flatten).Nodup from ⟨g2, g3, g4 ▸ g5⟩)
        have HG6 := hid g6
        have HG7 := hid hbs2
        have HRl := hid hRl
        have hTR : T ≠ R := by omega
        have hRT : R ≠ T := by omega
        have hcR : wr.heap.size ≠ R := Ne.symm hRne
        have hMR : w.heap.size ≠ R := by omega
        have hbR : b' ≠ R := by omega
        have dT : ∀ t, (ext wr.drew t).cell? ⟨T, 3, none⟩ = some v := fun t => (ext_cell' _ _ _ _ lT).trans cT3
        have dZ : ∀ t, (ext wr.drew t).frozen? ⟨T, 3, none⟩ = false := fun t => (ext_frozen' _ _ _ _ lT).trans zT
        have hlen : es.length ≤ 4194304 := by rw [g2, List.length_take]; omega
        have HEk := hid (show c.outs.take (k + 1) = c.outs.take k ++ [xs] by rw [List.take_add_one, HK.out]; rfl)
        clear g1 g2 g3 g4 g5 g6 hbs2 hRl hRne
        try go_wp2_with (first
            | fail
            | (
              with_reducible refine wp_region_mix (by kernel_rfl) (by decide +kernel) ?_
              repeat (first
                | (refine mix_pure rfl ?_; (first | go_big_quiet_skip | (go_big_quiet_want; go_big_quiet_op; go_big_quiet_on)); refine wpQuiet_nil ?_)
                | (refine mix_skip (by rfl) ?_; (try simp only [Act.put, List.setIfInBounds_toArray, List.set_cons_zero, List.set_cons_succ]))
                | (refine mix_mk rfl (by rfl) (fun K hK => ?_); (first | (go_simp; first | skip)); (show K _ _); refine hK _ _ (show Ext _ _ from zq0) ?_; clear hK K; (try simp only [Act.put, List.setIfInBounds_toArray, List.set_cons_zero, List.set_cons_succ])))
              refine mix_nil ?_)
            | (
              with_reducible refine wp_region_ext (by kernel_rfl) (by kernel_rfl) ?_
              repeat (first | go_big_quiet_skip | (go_big_quiet_want; go_big_quiet_op; first | go_big_quiet_on | (apply Exists.intro; refine ⟨fun _ => ?_, ?_⟩; (fail); (try rw [h1]); (try rw [h2]); (try rw [h3]); (try rw [h4]); (try rw [p1]); (try rw [p2]); (try rw [p3]); (try rw [p4]); (try rw [r1]); (try rw [r2]); (try rw [r3]); (try rw [r4]); (try rw [r5]); (try rw [r6]); (try rw [q3]); (try rw [q4]); (try rw [hp]); (try rw [hq]); go_big_quiet_on)))
              refine wpQuiet_nil ?_
              rintro _ ⟨tq, rfl⟩))
        try go_wp2_with (first
            | (go_at_call 101; (with_reducible refine (iClonePcl_x xs _ _ _ _ (HRe.out.of zq0) (by omega)).mono ?_); rintro e w' ⟨p5, q5, B5, rfl, ⟨t5, rfl⟩, hr5, hb5⟩; have X5 := hid hr5; have Y5 := hid hb5; clear hr5 hb5) | (refine wp_appX (cells := SlV.cells) (k := 1) (bytes := 24) (z := .slice none 0 0) Try.underlying35 (by kernel_rfl) rfl (by decide) (by decide) (fun _ => rfl) slv_one _ _ rfl rfl (HG1.out.of zq0) ⟨p5, xs.length, q5⟩ rfl (alloc_last zq1) hlen ?_; intro v2 w2 R2 hr2 hc2 hR2; obtain ⟨sa, sc, e2⟩ := hr2.slice; rw [List.length_append, List.length_singleton] at e2; subst e2; have HSS2 := hid (rowss_snoc HG1.out HG2.out.1 HG2.out.2.1 HG2.out.2.2 HG6.out HG7.out zq0 (X5.out.of zq0) (fun b hb => Nat.le_trans zq1 (Y5.out b hb)) hsz hr2 hc2 hR2); have hcR2 := hc2.mono (B' := [R]) (fun b hb => by rw [HRl.out b hb]; simp); have HC2 := hid hcR2; have l2 : T < w2.heap.size := Nat.lt_of_lt_of_le zq1 hcR2.size; have q2 : w2.cell? ⟨T, 3, none⟩ = some v := (hcR2.cell zq1 (by simp [hTR]) 3).trans (by simp [go_sem, cT3, lT, dT]); have b2 : w2.heap[T]? = some (.cells #[.int .i64 c.cell, .slice pa4 c.wk.length pc4, .int .i64 c.ground, v, .slice pa9 c.next.length pc9, .slice pa12 c.ins.length pc12] 37 (0, 0)) := (hcR2.block T zq1 (by simp [hTR])).trans (by repeat (first | with_reducible exact HTb.out | with_reducible apply blk_drew | with_reducible refine blk_set ?_ | (with_reducible refine blk_other ?_ (by first | assumption | omega)) | with_reducible refine blk_ext ?_ | with_reducible refine blk_alloc ?_)); have z2 : w2.frozen? ⟨T, 3, none⟩ = false := (Chg.frozen hcR2 zq1 (by simp [hTR]) 3).trans (by simp [go_sem, zT, lT, dZ]); have B2 := hid b2; clear hr2 hc2 b2 hcR2 hR2)
            | (
              with_reducible refine wp_region_NR (R) (by kernel_rfl) (by decide +kernel) (by decide +kernel) rfl rfl ?_
              simp only [List.dropLast_cons_cons, List.dropLast_singleton]
              repeat (first
                | (refine mix_pure rfl ?_; (first | go_big_quiet_skip | (go_big_quiet_want; go_big_quiet_op; go_big_quiet_on)); refine wpQuiet_nil ?_)
                | (refine mix_skip (by rfl) ?_; (try simp only [Act.put, List.setIfInBounds_toArray, List.set_cons_zero, List.set_cons_succ]))
                | (refine mix_mk rfl (by rfl) (fun K hK => ?_); (first | (refine wp_appX (cells := SlV.cells) (k := 1) (bytes := 24) (z := .slice none 0 0) Try.underlying35 (by kernel_rfl) rfl (by decide) (by decide) (fun _ => rfl) slv_one _ _ rfl rfl (HG1.out.of zq0) ⟨p5, xs.length, q5⟩ rfl (alloc_last zq1) hlen ?_; intro v2 w2 R2 hr2 hc2 hR2; obtain ⟨sa, sc, e2⟩ := hr2.slice; rw [List.length_append, List.length_singleton] at e2; subst e2; have HSS2 := hid (rowss_snoc HG1.out HG2.out.1 HG2.out.2.1 HG2.out.2.2 HG6.out HG7.out zq0 (X5.out.of zq0) (fun b hb => Nat.le_trans zq1 (Y5.out b hb)) hsz hr2 hc2 hR2); have hcR2 := hc2.mono (B' := [R]) (fun b hb => by rw [HRl.out b hb]; simp); have HC2 := hid hcR2; have l2 : T < w2.heap.size := Nat.lt_of_lt_of_le zq1 hcR2.size; have q2 : w2.cell? ⟨T, 3, none⟩ = some v := (hcR2.cell zq1 (by simp [hTR]) 3).trans (by simp [go_sem, cT3, lT, dT]); have b2 : w2.heap[T]? = some (.cells #[.int .i64 c.cell, .slice pa4 c.wk.length pc4, .int .i64 c.ground, v, .slice pa9 c.next.length pc9, .slice pa12 c.ins.length pc12] 37 (0, 0)) := (hcR2.block T zq1 (by simp [hTR])).trans (by repeat (first | with_reducible exact HTb.out | with_reducible apply blk_drew | with_reducible refine blk_set ?_ | (with_reducible refine blk_other ?_ (by first | assumption | omega)) | with_reducible refine blk_ext ?_ | with_reducible refine blk_alloc ?_)); have z2 : w2.frozen? ⟨T, 3, none⟩ = false := (Chg.frozen hcR2 zq1 (by simp [hTR]) 3).trans (by simp [go_sem, zT, lT, dZ]); have B2 := hid b2; clear hr2 hc2 b2 hcR2 hR2) | (go_simp; first | (go_at_call 101; (with_reducible refine (iClonePcl_x xs _ _ _ _ (HRe.out.of zq0) (by omega)).mono ?_); rintro e w' ⟨p5, q5, B5, rfl, ⟨t5, rfl⟩, hr5, hb5⟩; have X5 := hid hr5; have Y5 := hid hb5; clear hr5 hb5) | skip)); (show K _ _); refine hK _ _ (extR_of (by repeat (first | with_reducible exact Chg.refl _ _ | with_reducible apply Chg.drew | with_reducible apply Chg.drewl | with_reducible refine Chg.turn (by simp) | with_reducible refine Chg.both ?_ (by simp) | (with_reducible refine Chg.set ?_ (by simp) _) | with_reducible apply Chg.alloc | with_reducible apply Chg.ext | with_reducible refine Chg.trans ?_ (Hid.out (by assumption))))) ?_; clear hK K; (try simp only [Act.put, List.setIfInBounds_toArray, List.set_cons_zero, List.set_cons_succ])))
              refine mixN_nil (fun K hK => ?_)
              go_simp
              (show K _ _)
              refine hK _ _ ?_
              clear hK K
              (try simp only [Act.put, List.setIfInBounds_toArray, List.set_cons_zero, List.set_cons_succ])))
        go_roundw
        case rel =>
          obtain ⟨B', hE', hd'⟩ := HSS2.out
          refine ⟨k + 1, _, B', by omega, by go_num, (by exact blk_set B2.out), ?_, hd', Chg.set (Chg.up (by repeat (first | with_reducible exact HC.out | with_reducible apply Chg.drew | with_reducible apply Chg.alloc | with_reducible apply Chg.ext)) HC2.out (by simp; omega)) (by simp) _⟩
          rw [HEk.out]
          exact hE'.chg ((Chg.refl [T] w2).set (b := T) (by simp) _) (fun b hb hm => by
            obtain rfl : b = T := by simpa using hm
            have := hd' _ hb
            omega)
        case measure => simp [intOf]; omega
      · have hke : k = c.outs.length := by omega
        subst hke
        rw [List.take_length] at HSS
        obtain ⟨p3, q3, e3, hcx, hlo⟩ := cll_four (lo := w.heap.size + 2) HQ4.out HO4.out HQ9.out HO9.out HQ12.out HO12.out HD.out.1 HD.out.2.1 HD.out.2.2 HL.out.1 HL.out.2.1 HL.out.2.2 HT.out.1 HT.out.2.1 HT.out.2.2 HC.out (by omega) HSS.out HBS.out
        subst e3
        have HCX := hid hcx
        have HLO := hid hlo
        clear hcx hlo
        try go_wp2_with (first
            | fail
            | (
              with_reducible refine wp_region_mix (by kernel_rfl) (by decide +kernel) ?_
              repeat (first
                | (refine mix_pure rfl ?_; (first | go_big_quiet_skip | (go_big_quiet_want; go_big_quiet_op; go_big_quiet_on)); refine wpQuiet_nil ?_)
                | (refine mix_skip (by rfl) ?_; (try simp only [Act.put, List.setIfInBounds_toArray, List.set_cons_zero, List.set_cons_succ]))
                | (refine mix_mk rfl (by rfl) (fun K hK => ?_); (first | (go_simp; first | skip)); (show K _ _); refine hK _ _ (show Ext _ _ from zq0) ?_; clear hK K; (try simp only [Act.put, List.setIfInBounds_toArray, List.set_cons_zero, List.set_cons_succ])))
              refine mix_nil ?_)
            | (
              with_reducible refine wp_region_ext (by kernel_rfl) (by kernel_rfl) ?_
              repeat (first | go_big_quiet_skip | (go_big_quiet_want; go_big_quiet_op; first | go_big_quiet_on | (apply Exists.intro; refine ⟨fun _ => ?_, ?_⟩; (fail); (try rw [h1]); (try rw [h2]); (try rw [h3]); (try rw [h4]); (try rw [p1]); (try rw [p2]); (try rw [p3]); (try rw [p4]); (try rw [r1]); (try rw [r2]); (try rw [r3]); (try rw [r4]); (try rw [r5]); (try rw [r6]); (try rw [q3]); (try rw [q4]); (try rw [hp]); (try rw [hq]); go_big_quiet_on)))
              refine wpQuiet_nil ?_
              rintro _ ⟨tq, rfl⟩))
        refine bodyPost_ret (v := .agg #[.int .i64 c.cell, .slice pa4 c.wk.length pc4, .int .i64 c.ground, .slice p3 c.outs.length q3, .slice pa9 c.next.length pc9, .slice pa12 c.ins.length pc12]) (by simp [results, Try.results54, go_sem, cT0, cT1, cT2, cT3, cT4, cT5, cR0, cR1, cR2, cR3, cR4, cR5, lR, lT]) rfl ?_
        refine ⟨⟨pa4, pc4, p3, q3, pa9, pc9, pa12, pc12⟩, _, _, _, _, rfl, Ext.of_below (Below.chg (w0 := w) HBl.out (B := [w.heap.size + 1]) zq2 (by simp)), HCX.out.chg (B' := [w.heap.size + 1]) zq2 (fun b hb => by have := HLO.out b hb; simp; omega), fun b hb => by have := HLO.out b hb; omega⟩
end Go.Proofs.Ytablgohncilmfaa

namespace Go.Proofs.Ytablgohncilmfaa
open Go.RowKit
set_option linter.unusedSimpArgs false
set_option linter.unusedVariables false

set_option maxRecDepth 100000 in
set_option maxHeartbeats 4000000 in
theorem sSide_c (m : Mp) (c : Cll) (h : CllH) (s : Int) (k : Nat) (hs : s = (k : Int)) (hk : k < 2) (l3 : c.outs.length = 2) (l4 : c.next.length = 2) (l5 : c.ins.length = 2) (w : World) (hx : ReC w c h) (hb : BdC c) :
    Calls Try.prog 85 #[.agg #[.int .i64 m.c, .int .i64 m.w], .agg #[.int .i64 c.cell, .slice h.a1 c.wk.length h.c1, .int .i64 c.ground, .slice h.a3 c.outs.length h.c3, .slice h.a4 c.next.length h.c4, .slice h.a5 c.ins.length h.c5], .int .i64 s] w fun e w' => e = .returned (.bool (sideAt m c k)) ∧ Ext w w' := by
  subst hs
  have H3 := hid hx.r3
  have H4 := hid hx.r4
  have H5 := hid hx.r5
  have BO := hid hb.bo
  have B3 := hb.b3
  have B4 := hb.b4
  have B5 := hb.b5
  clear hx hb
  obtain ⟨a1, c1, a3, c3, a4, c4, a5, c5⟩ := h
  dsimp only at H3 H4 H5 ⊢
  have lt3 : k < c.outs.length := by omega
  have lt4 : k < c.next.length := by omega
  have lt5 : k < c.ins.length := by omega
  have HL3 := hid l3
  have HL4 := hid l4
  have HL5 := hid l5
  clear l3 l4 l5
  obtain ⟨xs, b3, o3, xa, xc, hx3, rfl, hb3, f3, hr3⟩ := at_SS H3.out lt3
  obtain ⟨nx, b4, o4, hx4, rfl, hb4, f4⟩ := at_Int H4.out lt4
  obtain ⟨ix, b5, o5, hx5, rfl, hb5, f5⟩ := at_Int H5.out lt5
  have HSE := hid (sideAt_eq (m := m) hx3 hx4 hx5)
  have hxb : xs.length ≤ 1048576 := BO.out xs (List.mem_of_getElem? hx3)
  have HR3 := hid hr3
  have hb3' : b3 ≤ w.heap.size := Nat.le_of_lt hb3
  have hb4' : b4 ≤ w.heap.size := Nat.le_of_lt hb4
  have hb5' : b5 ≤ w.heap.size := Nat.le_of_lt hb5
  clear hx3 hx4 hx5 hr3
  cases p1 : pclListOk m xs nx with
  | false =>
    have E := hid (show sideAt m c k = false by rw [HSE.out]; simp only [sideOk, p1, Bool.false_and])
    go_enter Try.func85, Try.ntmps85
    try go_wp2_with (first
        | (go_at_call 46; refine (sPlcSide_c _ _ _ _).mono ?_; rintro e w' ⟨rfl, t, rfl⟩) | (go_at_call 118; refine (sPclListOk_c _ _ _ _ _ _ _ (Re.of (Hid.out (by assumption)) zq0) (by omega)).mono ?_; rintro e w' ⟨rfl, t, rfl⟩) | (go_at_call 82; refine (l1In_c _ _ _ _).mono ?_; rintro e w' ⟨rfl, rfl⟩)
        | (
          with_reducible refine wp_region_mix (by kernel_rfl) (by decide +kernel) ?_
          repeat (first
            | (refine mix_pure rfl ?_; (first | go_big_quiet_skip | (go_big_quiet_want; go_big_quiet_op; go_big_quiet_on)); refine wpQuiet_nil ?_)
            | (refine mix_skip (by rfl) ?_; (try simp only [Act.put, List.setIfInBounds_toArray, List.set_cons_zero, List.set_cons_succ]))
            | (refine mix_mk rfl (by rfl) (fun K hK => ?_); (first | (go_simp; first | (go_at_call 46; refine (sPlcSide_c _ _ _ _).mono ?_; rintro e w' ⟨rfl, t, rfl⟩) | (go_at_call 118; refine (sPclListOk_c _ _ _ _ _ _ _ (Re.of (Hid.out (by assumption)) zq0) (by omega)).mono ?_; rintro e w' ⟨rfl, t, rfl⟩) | (go_at_call 82; refine (l1In_c _ _ _ _).mono ?_; rintro e w' ⟨rfl, rfl⟩) | skip)); (show K _ _); refine hK _ _ (show Ext _ _ from zq0) ?_; clear hK K; (try simp only [Act.put, List.setIfInBounds_toArray, List.set_cons_zero, List.set_cons_succ])))
          refine mix_nil ?_)
        | (
          with_reducible refine wp_region_ext (by kernel_rfl) (by kernel_rfl) ?_
          repeat (first | go_big_quiet_skip | (go_big_quiet_want; go_big_quiet_op; first | go_big_quiet_on | (apply Exists.intro; refine ⟨fun _ => ?_, ?_⟩; ((first | (go_at_call 46; first | exact quiet_call (sPlcSide_c _ _ _ _) | exact quiet_call2 (sPlcSide_c _ _ _ _)) | (go_at_call 118; first | exact quiet_call (sPclListOk_c _ _ _ _ _ _ _ (Re.of (Hid.out (by assumption)) zq0) (by omega)) | exact quiet_call2 (sPclListOk_c _ _ _ _ _ _ _ (Re.of (Hid.out (by assumption)) zq0) (by omega))) | (go_at_call 82; first | exact quiet_same (l1In_c _ _ _ _) | exact quiet_same2 (l1In_c _ _ _ _)))); (try rw [h1]); (try rw [h2]); (try rw [h3]); (try rw [h4]); (try rw [p1]); (try rw [p2]); (try rw [p3]); (try rw [p4]); (try rw [r1]); (try rw [r2]); (try rw [r3]); (try rw [r4]); (try rw [r5]); (try rw [r6]); (try rw [q3]); (try rw [q4]); (try rw [hp]); (try rw [hq]); go_big_quiet_on)))
          refine wpQuiet_nil ?_
          rintro _ ⟨tq, rfl⟩))
    go_ret
    exact ⟨ret_bool (by rw [E.out]), zq0⟩
  | true =>
    cases p2 : inB ix 0 5000 with
    | false =>
      have E := hid (show sideAt m c k = false by rw [HSE.out]; simp only [sideOk, p2, Bool.false_and, Bool.and_false])
      go_enter Try.func85, Try.ntmps85
      try go_wp2_with (first
          | (go_at_call 46; refine (sPlcSide_c _ _ _ _).mono ?_; rintro e w' ⟨rfl, t, rfl⟩) | (go_at_call 118; refine (sPclListOk_c _ _ _ _ _ _ _ (Re.of (Hid.out (by assumption)) zq0) (by omega)).mono ?_; rintro e w' ⟨rfl, t, rfl⟩) | (go_at_call 82; refine (l1In_c _ _ _ _).mono ?_; rintro e w' ⟨rfl, rfl⟩)
          | (
            with_reducible refine wp_region_mix (by kernel_rfl) (by decide +kernel) ?_
            repeat (first
              | (refine mix_pure rfl ?_; (first | go_big_quiet_skip | (go_big_quiet_want; go_big_quiet_op; go_big_quiet_on)); refine wpQuiet_nil ?_)
              | (refine mix_skip (by rfl) ?_; (try simp only [Act.put, List.setIfInBounds_toArray, List.set_cons_zero, List.set_cons_succ]))
              | (refine mix_mk rfl (by rfl) (fun K hK => ?_); (first | (go_simp; first | (go_at_call 46; refine (sPlcSide_c _ _ _ _).mono ?_; rintro e w' ⟨rfl, t, rfl⟩) | (go_at_call 118; refine (sPclListOk_c _ _ _ _ _ _ _ (Re.of (Hid.out (by assumption)) zq0) (by omega)).mono ?_; rintro e w' ⟨rfl, t, rfl⟩) | (go_at_call 82; refine (l1In_c _ _ _ _).mono ?_; rintro e w' ⟨rfl, rfl⟩) | skip)); (show K _ _); refine hK _ _ (show Ext _ _ from zq0) ?_; clear hK K; (try simp only [Act.put, List.setIfInBounds_toArray, List.set_cons_zero, List.set_cons_succ])))
            refine mix_nil ?_)
          | (
            with_reducible refine wp_region_ext (by kernel_rfl) (by kernel_rfl) ?_
            repeat (first | go_big_quiet_skip | (go_big_quiet_want; go_big_quiet_op; first | go_big_quiet_on | (apply Exists.intro; refine ⟨fun _ => ?_, ?_⟩; ((first | (go_at_call 46; first | exact quiet_call (sPlcSide_c _ _ _ _) | exact quiet_call2 (sPlcSide_c _ _ _ _)) | (go_at_call 118; first | exact quiet_call (sPclListOk_c _ _ _ _ _ _ _ (Re.of (Hid.out (by assumption)) zq0) (by omega)) | exact quiet_call2 (sPclListOk_c _ _ _ _ _ _ _ (Re.of (Hid.out (by assumption)) zq0) (by omega))) | (go_at_call 82; first | exact quiet_same (l1In_c _ _ _ _) | exact quiet_same2 (l1In_c _ _ _ _)))); (try rw [h1]); (try rw [h2]); (try rw [h3]); (try rw [h4]); (try rw [p1]); (try rw [p2]); (try rw [p3]); (try rw [p4]); (try rw [r1]); (try rw [r2]); (try rw [r3]); (try rw [r4]); (try rw [r5]); (try rw [r6]); (try rw [q3]); (try rw [q4]); (try rw [hp]); (try rw [hq]); go_big_quiet_on)))
            refine wpQuiet_nil ?_
            rintro _ ⟨tq, rfl⟩))
      go_ret
      exact ⟨ret_bool (by rw [E.out]), zq0⟩
    | true =>
      cases p3 : (plcSide m c.cell (k : Int) == -1) with
      | true =>
        have P3 := hid (show plcSide m c.cell (k : Int) = -1 by simpa using p3)
        cases p4 : (nx == 0) with
        | false =>
          have E := hid (show sideAt m c k = false by rw [HSE.out]; simp only [sideOk, P3.out, p4, if_true, Bool.false_and, Bool.and_false])
          go_enter Try.func85, Try.ntmps85
          try go_wp2_with (first
              | (go_at_call 46; refine (sPlcSide_c _ _ _ _).mono ?_; rintro e w' ⟨rfl, t, rfl⟩) | (go_at_call 118; refine (sPclListOk_c _ _ _ _ _ _ _ (Re.of (Hid.out (by assumption)) zq0) (by omega)).mono ?_; rintro e w' ⟨rfl, t, rfl⟩) | (go_at_call 82; refine (l1In_c _ _ _ _).mono ?_; rintro e w' ⟨rfl, rfl⟩)
              | (
                with_reducible refine wp_region_mix (by kernel_rfl) (by decide +kernel) ?_
                repeat (first
                  | (refine mix_pure rfl ?_; (first | go_big_quiet_skip | (go_big_quiet_want; go_big_quiet_op; go_big_quiet_on)); refine wpQuiet_nil ?_)
                  | (refine mix_skip (by rfl) ?_; (try simp only [Act.put, List.setIfInBounds_toArray, List.set_cons_zero, List.set_cons_succ]))
                  | (refine mix_mk rfl (by rfl) (fun K hK => ?_); (first | (go_simp; first | (go_at_call 46; refine (sPlcSide_c _ _ _ _).mono ?_; rintro e w' ⟨rfl, t, rfl⟩) | (go_at_call 118; refine (sPclListOk_c _ _ _ _ _ _ _ (Re.of (Hid.out (by assumption)) zq0) (by omega)).mono ?_; rintro e w' ⟨rfl, t, rfl⟩) | (go_at_call 82; refine (l1In_c _ _ _ _).mono ?_; rintro e w' ⟨rfl, rfl⟩) | skip)); (show K _ _); refine hK _ _ (show Ext _ _ from zq0) ?_; clear hK K; (try simp only [Act.put, List.setIfInBounds_toArray, List.set_cons_zero, List.set_cons_succ])))
                refine mix_nil ?_)
              | (
                with_reducible refine wp_region_ext (by kernel_rfl) (by kernel_rfl) ?_
                repeat (first | go_big_quiet_skip | (go_big_quiet_want; go_big_quiet_op; first | go_big_quiet_on | (apply Exists.intro; refine ⟨fun _ => ?_, ?_⟩; ((first | (go_at_call 46; first | exact quiet_call (sPlcSide_c _ _ _ _) | exact quiet_call2 (sPlcSide_c _ _ _ _)) | (go_at_call 118; first | exact quiet_call (sPclListOk_c _ _ _ _ _ _ _ (Re.of (Hid.out (by assumption)) zq0) (by omega)) | exact quiet_call2 (sPclListOk_c _ _ _ _ _ _ _ (Re.of (Hid.out (by assumption)) zq0) (by omega))) | (go_at_call 82; first | exact quiet_same (l1In_c _ _ _ _) | exact quiet_same2 (l1In_c _ _ _ _)))); (try rw [h1]); (try rw [h2]); (try rw [h3]); (try rw [h4]); (try rw [p1]); (try rw [p2]); (try rw [p3]); (try rw [p4]); (try rw [r1]); (try rw [r2]); (try rw [r3]); (try rw [r4]); (try rw [r5]); (try rw [r6]); (try rw [q3]); (try rw [q4]); (try rw [hp]); (try rw [hq]); go_big_quiet_on)))
                refine wpQuiet_nil ?_
                rintro _ ⟨tq, rfl⟩))
          go_ret
          exact ⟨ret_bool (by rw [E.out]), zq0⟩
        | true =>
          cases p5 : (ix == 0) with
          | false =>
            have E := hid (show sideAt m c k = false by rw [HSE.out]; simp only [sideOk, P3.out, p5, if_true, Bool.false_and, Bool.and_false])
            go_enter Try.func85, Try.ntmps85
            try go_wp2_with (first
                | (go_at_call 46; refine (sPlcSide_c _ _ _ _).mono ?_; rintro e w' ⟨rfl, t, rfl⟩) | (go_at_call 118; refine (sPclListOk_c _ _ _ _ _ _ _ (Re.of (Hid.out (by assumption)) zq0) (by omega)).mono ?_; rintro e w' ⟨rfl, t, rfl⟩) | (go_at_call 82; refine (l1In_c _ _ _ _).mono ?_; rintro e w' ⟨rfl, rfl⟩)
                | (
                  with_reducible refine wp_region_mix (by kernel_rfl) (by decide +kernel) ?_
                  repeat (first
                    | (refine mix_pure rfl ?_; (first | go_big_quiet_skip | (go_big_quiet_want; go_big_quiet_op; go_big_quiet_on)); refine wpQuiet_nil ?_)
                    | (refine mix_skip (by rfl) ?_; (try simp only [Act.put, List.setIfInBounds_toArray, List.set_cons_zero, List.set_cons_succ]))
                    | (refine mix_mk rfl (by rfl) (fun K hK => ?_); (first | (go_simp; first | (go_at_call 46; refine (sPlcSide_c _ _ _ _).mono ?_; rintro e w' ⟨rfl, t, rfl⟩) | (go_at_call 118; refine (sPclListOk_c _ _ _ _ _ _ _ (Re.of (Hid.out (by assumption)) zq0) (by omega)).mono ?_; rintro e w' ⟨rfl, t, rfl⟩) | (go_at_call 82; refine (l1In_c _ _ _ _).mono ?_; rintro e w' ⟨rfl, rfl⟩) | skip)); (show K _ _); refine hK _ _ (show Ext _ _ from zq0) ?_; clear hK K; (try simp only [Act.put, List.setIfInBounds_toArray, List.set_cons_zero, List.set_cons_succ])))
                  refine mix_nil ?_)
                | (
                  with_reducible refine wp_region_ext (by kernel_rfl) (by kernel_rfl) ?_
                  repeat (first | go_big_quiet_skip | (go_big_quiet_want; go_big_quiet_op; first | go_big_quiet_on | (apply Exists.intro; refine ⟨fun _ => ?_, ?_⟩; ((first | (go_at_call 46; first | exact quiet_call (sPlcSide_c _ _ _ _) | exact quiet_call2 (sPlcSide_c _ _ _ _)) | (go_at_call 118; first | exact quiet_call (sPclListOk_c _ _ _ _ _ _ _ (Re.of (Hid.out (by assumption)) zq0) (by omega)) | exact quiet_call2 (sPclListOk_c _ _ _ _ _ _ _ (Re.of (Hid.out (by assumption)) zq0) (by omega))) | (go_at_call 82; first | exact quiet_same (l1In_c _ _ _ _) | exact quiet_same2 (l1In_c _ _ _ _)))); (try rw [h1]); (try rw [h2]); (try rw [h3]); (try rw [h4]); (try rw [p1]); (try rw [p2]); (try rw [p3]); (try rw [p4]); (try rw [r1]); (try rw [r2]); (try rw [r3]); (try rw [r4]); (try rw [r5]); (try rw [r6]); (try rw [q3]); (try rw [q4]); (try rw [hp]); (try rw [hq]); go_big_quiet_on)))
                  refine wpQuiet_nil ?_
                  rintro _ ⟨tq, rfl⟩))
            go_ret
            exact ⟨ret_bool (by rw [E.out]), zq0⟩
          | true =>
            have E := hid (show sideAt m c k = true by rw [HSE.out]; simp only [sideOk, p1, p2, P3.out, p4, p5, if_true, Bool.and_self])
            go_enter Try.func85, Try.ntmps85
            try go_wp2_with (first
                | (go_at_call 46; refine (sPlcSide_c _ _ _ _).mono ?_; rintro e w' ⟨rfl, t, rfl⟩) | (go_at_call 118; refine (sPclListOk_c _ _ _ _ _ _ _ (Re.of (Hid.out (by assumption)) zq0) (by omega)).mono ?_; rintro e w' ⟨rfl, t, rfl⟩) | (go_at_call 82; refine (l1In_c _ _ _ _).mono ?_; rintro e w' ⟨rfl, rfl⟩)
                | (
                  with_reducible refine wp_region_mix (by kernel_rfl) (by decide +kernel) ?_
                  repeat (first
                    | (refine mix_pure rfl ?_; (first | go_big_quiet_skip | (go_big_quiet_want; go_big_quiet_op; go_big_quiet_on)); refine wpQuiet_nil ?_)
                    | (refine mix_skip (by rfl) ?_; (try simp only [Act.put, List.setIfInBounds_toArray, List.set_cons_zero, List.set_cons_succ]))
                    | (refine mix_mk rfl (by rfl) (fun K hK => ?_); (first | (go_simp; first | (go_at_call 46; refine (sPlcSide_c _ _ _ _).mono ?_; rintro e w' ⟨rfl, t, rfl⟩) | (go_at_call 118; refine (sPclListOk_c _ _ _ _ _ _ _ (Re.of (Hid.out (by assumption)) zq0) (by omega)).mono ?_; rintro e w' ⟨rfl, t, rfl⟩) | (go_at_call 82; refine (l1In_c _ _ _ _).mono ?_; rintro e w' ⟨rfl, rfl⟩) | skip)); (show K _ _); refine hK _ _ (show Ext _ _ from zq0) ?_; clear hK K; (try simp only [Act.put, List.setIfInBounds_toArray, List.set_cons_zero, List.set_cons_succ])))
                  refine mix_nil ?_)
                | (
                  with_reducible refine wp_region_ext (by kernel_rfl) (by kernel_rfl) ?_
                  repeat (first | go_big_quiet_skip | (go_big_quiet_want; go_big_quiet_op; first | go_big_quiet_on | (apply Exists.intro; refine ⟨fun _ => ?_, ?_⟩; ((first | (go_at_call 46; first | exact quiet_call (sPlcSide_c _ _ _ _) | exact quiet_call2 (sPlcSide_c _ _ _ _)) | (go_at_call 118; first | exact quiet_call (sPclListOk_c _ _ _ _ _ _ _ (Re.of (Hid.out (by assumption)) zq0) (by omega)) | exact quiet_call2 (sPclListOk_c _ _ _ _ _ _ _ (Re.of (Hid.out (by assumption)) zq0) (by omega))) | (go_at_call 82; first | exact quiet_same (l1In_c _ _ _ _) | exact quiet_same2 (l1In_c _ _ _ _)))); (try rw [h1]); (try rw [h2]); (try rw [h3]); (try rw [h4]); (try rw [p1]); (try rw [p2]); (try rw [p3]); (try rw [p4]); (try rw [r1]); (try rw [r2]); (try rw [r3]); (try rw [r4]); (try rw [r5]); (try rw [r6]); (try rw [q3]); (try rw [q4]); (try rw [hp]); (try rw [hq]); go_big_quiet_on)))
                  refine wpQuiet_nil ?_
                  rintro _ ⟨tq, rfl⟩))
            go_ret
            exact ⟨ret_bool (by rw [E.out]), zq0⟩
      | false =>
        have P3 := hid (show ¬ plcSide m c.cell (k : Int) = -1 by simpa using p3)
        go_enter Try.func85, Try.ntmps85
        try go_wp2_with (first
            | (go_at_call 46; refine (sPlcSide_c _ _ _ _).mono ?_; rintro e w' ⟨rfl, t, rfl⟩) | (go_at_call 118; refine (sPclListOk_c _ _ _ _ _ _ _ (Re.of (Hid.out (by assumption)) zq0) (by omega)).mono ?_; rintro e w' ⟨rfl, t, rfl⟩) | (go_at_call 82; refine (l1In_c _ _ _ _).mono ?_; rintro e w' ⟨rfl, rfl⟩)
            | (
              with_reducible refine wp_region_mix (by kernel_rfl) (by decide +kernel) ?_
              repeat (first
                | (refine mix_pure rfl ?_; (first | go_big_quiet_skip | (go_big_quiet_want; go_big_quiet_op; go_big_quiet_on)); refine wpQuiet_nil ?_)
                | (refine mix_skip (by rfl) ?_; (try simp only [Act.put, List.setIfInBounds_toArray, List.set_cons_zero, List.set_cons_succ]))
                | (refine mix_mk rfl (by rfl) (fun K hK => ?_); (first | (go_simp; first | (go_at_call 46; refine (sPlcSide_c _ _ _ _).mono ?_; rintro e w' ⟨rfl, t, rfl⟩) | (go_at_call 118; refine (sPclListOk_c _ _ _ _ _ _ _ (Re.of (Hid.out (by assumption)) zq0) (by omega)).mono ?_; rintro e w' ⟨rfl, t, rfl⟩) | (go_at_call 82; refine (l1In_c _ _ _ _).mono ?_; rintro e w' ⟨rfl, rfl⟩) | skip)); (show K _ _); refine hK _ _ (show Ext _ _ from zq0) ?_; clear hK K; (try simp only [Act.put, List.setIfInBounds_toArray, List.set_cons_zero, List.set_cons_succ])))
              refine mix_nil ?_)
            | (
              with_reducible refine wp_region_ext (by kernel_rfl) (by kernel_rfl) ?_
              repeat (first | go_big_quiet_skip | (go_big_quiet_want; go_big_quiet_op; first | go_big_quiet_on | (apply Exists.intro; refine ⟨fun _ => ?_, ?_⟩; ((first | (go_at_call 46; first | exact quiet_call (sPlcSide_c _ _ _ _) | exact quiet_call2 (sPlcSide_c _ _ _ _)) | (go_at_call 118; first | exact quiet_call (sPclListOk_c _ _ _ _ _ _ _ (Re.of (Hid.out (by assumption)) zq0) (by omega)) | exact quiet_call2 (sPclListOk_c _ _ _ _ _ _ _ (Re.of (Hid.out (by assumption)) zq0) (by omega))) | (go_at_call 82; first | exact quiet_same (l1In_c _ _ _ _) | exact quiet_same2 (l1In_c _ _ _ _)))); (try rw [h1]); (try rw [h2]); (try rw [h3]); (try rw [h4]); (try rw [p1]); (try rw [p2]); (try rw [p3]); (try rw [p4]); (try rw [r1]); (try rw [r2]); (try rw [r3]); (try rw [r4]); (try rw [r5]); (try rw [r6]); (try rw [q3]); (try rw [q4]); (try rw [hp]); (try rw [hq]); go_big_quiet_on)))
              refine wpQuiet_nil ?_
              rintro _ ⟨tq, rfl⟩))
        go_loopw [8] (fun i wr => ∃ j : Nat, j ≤ xs.length ∧ i = .int .i64 j ∧ allI (goesTo m (plcSide m c.cell (k : Int))) 0 (xs.take j) = true ∧ Ext ((w.alloc (Obj.cells #[.int .i64 m.c, .int .i64 m.w] 40)).alloc (Obj.cells #[.int .i64 c.cell, .slice a1 c.wk.length c1, .int .i64 c.ground, .slice (some ⟨b3, o3, none⟩) c.outs.length c3, .slice (some ⟨b4, o4, none⟩) c.next.length c4, .slice (some ⟨b5, o5, none⟩) c.ins.length c5] 37)) wr) (fun i _ => xs.length - (intOf i).toNat)
        case atStart => exact ⟨0, Nat.zero_le _, rfl, rfl, zq0⟩
        case round =>
          obtain ⟨j, hj, rfl, hal, t3, rfl⟩ := hrel
          have HA := hid hal
          clear hal
          by_cases hlt3 : j < xs.length
          · obtain ⟨x, b, o, hxk, rfl, hb, g0, g1, g2, g3, g4, g5, g6, g7⟩ := at_Pcl HR3.out hlt3
            have HK := hid hxk
            have hb1 : b ≤ w.heap.size := Nat.le_of_lt hb
            clear hxk
            cases q1 : (x.kind == 1) with
            | false =>
              have HB := hid (allI_step (p := goesTo m (plcSide m c.cell (k : Int))) HK.out HA.out (by simp [goesTo, q1]))
              try go_wp2_with (first
                  | (go_at_call 84; refine (sPlcCell_c _ _ _).mono ?_; rintro e w' ⟨rfl, t, rfl⟩)
                  | (
                    with_reducible refine wp_region_mix (by kernel_rfl) (by decide +kernel) ?_
                    repeat (first
                      | (refine mix_pure rfl ?_; (first | go_big_quiet_skip | (go_big_quiet_want; go_big_quiet_op; go_big_quiet_on)); refine wpQuiet_nil ?_)
                      | (refine mix_skip (by rfl) ?_; (try simp only [Act.put, List.setIfInBounds_toArray, List.set_cons_zero, List.set_cons_succ]))
                      | (refine mix_mk rfl (by rfl) (fun K hK => ?_); (first | (go_simp; first | (go_at_call 84; refine (sPlcCell_c _ _ _).mono ?_; rintro e w' ⟨rfl, t, rfl⟩) | skip)); (show K _ _); refine hK _ _ (show Ext _ _ from zq0) ?_; clear hK K; (try simp only [Act.put, List.setIfInBounds_toArray, List.set_cons_zero, List.set_cons_succ])))
                    refine mix_nil ?_)
                  | (
                    with_reducible refine wp_region_ext (by kernel_rfl) (by kernel_rfl) ?_
                    repeat (first | go_big_quiet_skip | (go_big_quiet_want; go_big_quiet_op; first | go_big_quiet_on | (apply Exists.intro; refine ⟨fun _ => ?_, ?_⟩; ((first | (go_at_call 84; first | exact quiet_call (sPlcCell_c _ _ _) | exact quiet_call2 (sPlcCell_c _ _ _)))); (try rw [h1]); (try rw [h2]); (try rw [h3]); (try rw [h4]); (try rw [p1]); (try rw [p2]); (try rw [p3]); (try rw [p4]); (try rw [r1]); (try rw [r2]); (try rw [r3]); (try rw [r4]); (try rw [r5]); (try rw [r6]); (try rw [q3]); (try rw [q4]); (try rw [hp]); (try rw [hq]); go_big_quiet_on)))
                    refine wpQuiet_nil ?_
                    rintro _ ⟨tq, rfl⟩))
              go_roundw
              case rel => exact ⟨j + 1, by omega, by go_num, HB.out, zq0⟩
              case measure => simp [intOf]; omega
            | true =>
              cases q2 : (plcCell m x.wk.at_ != plcSide m c.cell (k : Int)) with
              | true =>
                have E := hid (show sideAt m c k = false by
                  have h9 := allI_fail (p := goesTo m (plcSide m c.cell (k : Int))) HK.out (by simp only [bne, Bool.not_eq_true'] at q2; simp only [goesTo, q1, q2, Bool.not_true, Bool.or_self])
                  rw [HSE.out]
                  simp only [sideOk, h9, P3.out, if_false, Bool.and_false])
                try go_wp2_with (first
                    | (go_at_call 84; refine (sPlcCell_c _ _ _).mono ?_; rintro e w' ⟨rfl, t, rfl⟩)
                    | (
                      with_reducible refine wp_region_mix (by kernel_rfl) (by decide +kernel) ?_
                      repeat (first
                        | (refine mix_pure rfl ?_; (first | go_big_quiet_skip | (go_big_quiet_want; go_big_quiet_op; go_big_quiet_on)); refine wpQuiet_nil ?_)
                        | (refine mix_skip (by rfl) ?_; (try simp only [Act.put, List.setIfInBounds_toArray, List.set_cons_zero, List.set_cons_succ]))
                        | (refine mix_mk rfl (by rfl) (fun K hK => ?_); (first | (go_simp; first | (go_at_call 84; refine (sPlcCell_c _ _ _).mono ?_; rintro e w' ⟨rfl, t, rfl⟩) | skip)); (show K _ _); refine hK _ _ (show Ext _ _ from zq0) ?_; clear hK K; (try simp only [Act.put, List.setIfInBounds_toArray, List.set_cons_zero, List.set_cons_succ])))
                      refine mix_nil ?_)
                    | (
                      with_reducible refine wp_region_ext (by kernel_rfl) (by kernel_rfl) ?_
                      repeat (first | go_big_quiet_skip | (go_big_quiet_want; go_big_quiet_op; first | go_big_quiet_on | (apply Exists.intro; refine ⟨fun _ => ?_, ?_⟩; ((first | (go_at_call 84; first | exact quiet_call (sPlcCell_c _ _ _) | exact quiet_call2 (sPlcCell_c _ _ _)))); (try rw [h1]); (try rw [h2]); (try rw [h3]); (try rw [h4]); (try rw [p1]); (try rw [p2]); (try rw [p3]); (try rw [p4]); (try rw [r1]); (try rw [r2]); (try rw [r3]); (try rw [r4]); (try rw [r5]); (try rw [r6]); (try rw [q3]); (try rw [q4]); (try rw [hp]); (try rw [hq]); go_big_quiet_on)))
                      refine wpQuiet_nil ?_
                      rintro _ ⟨tq, rfl⟩))
                go_ret
                exact ⟨ret_bool (by rw [E.out]), zq0⟩
              | false =>
                have HB := hid (allI_step (p := goesTo m (plcSide m c.cell (k : Int))) HK.out HA.out (by simp only [bne, Bool.not_eq_false'] at q2; simp only [goesTo, q1, q2, Bool.or_true]))
                try go_wp2_with (first
                    | (go_at_call 84; refine (sPlcCell_c _ _ _).mono ?_; rintro e w' ⟨rfl, t, rfl⟩)
                    | (
                      with_reducible refine wp_region_mix (by kernel_rfl) (by decide +kernel) ?_
                      repeat (first
                        | (refine mix_pure rfl ?_; (first | go_big_quiet_skip | (go_big_quiet_want; go_big_quiet_op; go_big_quiet_on)); refine wpQuiet_nil ?_)
                        | (refine mix_skip (by rfl) ?_; (try simp only [Act.put, List.setIfInBounds_toArray, List.set_cons_zero, List.set_cons_succ]))
                        | (refine mix_mk rfl (by rfl) (fun K hK => ?_); (first | (go_simp; first | (go_at_call 84; refine (sPlcCell_c _ _ _).mono ?_; rintro e w' ⟨rfl, t, rfl⟩) | skip)); (show K _ _); refine hK _ _ (show Ext _ _ from zq0) ?_; clear hK K; (try simp only [Act.put, List.setIfInBounds_toArray, List.set_cons_zero, List.set_cons_succ])))
                      refine mix_nil ?_)
                    | (
                      with_reducible refine wp_region_ext (by kernel_rfl) (by kernel_rfl) ?_
                      repeat (first | go_big_quiet_skip | (go_big_quiet_want; go_big_quiet_op; first | go_big_quiet_on | (apply Exists.intro; refine ⟨fun _ => ?_, ?_⟩; ((first | (go_at_call 84; first | exact quiet_call (sPlcCell_c _ _ _) | exact quiet_call2 (sPlcCell_c _ _ _)))); (try rw [h1]); (try rw [h2]); (try rw [h3]); (try rw [h4]); (try rw [p1]); (try rw [p2]); (try rw [p3]); (try rw [p4]); (try rw [r1]); (try rw [r2]); (try rw [r3]); (try rw [r4]); (try rw [r5]); (try rw [r6]); (try rw [q3]); (try rw [q4]); (try rw [hp]); (try rw [hq]); go_big_quiet_on)))
                      refine wpQuiet_nil ?_
                      rintro _ ⟨tq, rfl⟩))
                go_roundw
                case rel => exact ⟨j + 1, by omega, by go_num, HB.out, zq0⟩
                case measure => simp [intOf]; omega
          · have HALL := hid (allI_all (p := goesTo m (plcSide m c.cell (k : Int))) (xs := xs) (k := j) (by omega) HA.out)
            have E := hid (show sideAt m c k = true by rw [HSE.out]; simp only [sideOk, p1, p2, P3.out, HALL.out, if_false, Bool.and_self])
            try go_wp2_with (first
                | fail
                | (
                  with_reducible refine wp_region_mix (by kernel_rfl) (by decide +kernel) ?_
                  repeat (first
                    | (refine mix_pure rfl ?_; (first | go_big_quiet_skip | (go_big_quiet_want; go_big_quiet_op; go_big_quiet_on)); refine wpQuiet_nil ?_)
                    | (refine mix_skip (by rfl) ?_; (try simp only [Act.put, List.setIfInBounds_toArray, List.set_cons_zero, List.set_cons_succ]))
                    | (refine mix_mk rfl (by rfl) (fun K hK => ?_); (first | (go_simp; first | skip)); (show K _ _); refine hK _ _ (show Ext _ _ from zq0) ?_; clear hK K; (try simp only [Act.put, List.setIfInBounds_toArray, List.set_cons_zero, List.set_cons_succ])))
                  refine mix_nil ?_)
                | (
                  with_reducible refine wp_region_ext (by kernel_rfl) (by kernel_rfl) ?_
                  repeat (first | go_big_quiet_skip | (go_big_quiet_want; go_big_quiet_op; first | go_big_quiet_on | (apply Exists.intro; refine ⟨fun _ => ?_, ?_⟩; (fail); (try rw [h1]); (try rw [h2]); (try rw [h3]); (try rw [h4]); (try rw [p1]); (try rw [p2]); (try rw [p3]); (try rw [p4]); (try rw [r1]); (try rw [r2]); (try rw [r3]); (try rw [r4]); (try rw [r5]); (try rw [r6]); (try rw [q3]); (try rw [q4]); (try rw [hp]); (try rw [hq]); go_big_quiet_on)))
                  refine wpQuiet_nil ?_
                  rintro _ ⟨tq, rfl⟩))
            go_ret
            exact ⟨ret_bool (by rw [E.out]), zq0⟩

set_option maxRecDepth 100000 in
set_option maxHeartbeats 4000000 in
theorem sCllOk_c (m : Mp) (c : Cll) (h : CllH) (w : World) (hx : ReC w c h) (hb : BdC c) :
    Calls Try.prog 33 #[.agg #[.int .i64 m.c, .int .i64 m.w], .agg #[.int .i64 c.cell, .slice h.a1 c.wk.length h.c1, .int .i64 c.ground, .slice h.a3 c.outs.length h.c3, .slice h.a4 c.next.length h.c4, .slice h.a5 c.ins.length h.c5]] w fun e w' => e = .returned (.bool (cllOk m c)) ∧ Ext w w' := by
  have HX := hid hx
  have H1 := hid hx.r1
  have B1 := hb.b1
  have B3 := hb.b3
  have B4 := hb.b4
  have B5 := hb.b5
  have HBD := hid hb
  clear hx hb
  obtain ⟨a1, c1, a3, c3, a4, c4, a5, c5⟩ := h
  dsimp only at H1 ⊢
  cases r1 : plcOk m with
  | false =>
    have hfail : cllHead m c = false := by simp [cllHead, r1]
    have E := hid (cllOk_fail_head (m := m) (c := c) hfail)
    clear hfail
    go_enter Try.func33, Try.ntmps33
    try go_wp2_with (first
        | (go_at_call 81; refine (sPlcOk_c _ _).mono ?_; rintro e w' ⟨rfl, t, rfl⟩) | (go_at_call 82; refine (l1In_c _ _ _ _).mono ?_; rintro e w' ⟨rfl, rfl⟩) | (go_at_call 83; refine (sWlkListOk_c _ _ _ _ _ _ (Re.of (Hid.out (by assumption)) zq0) (by omega)).mono ?_; rintro e w' ⟨rfl, t, rfl⟩)
        | (
          with_reducible refine wp_region_mix (by kernel_rfl) (by decide +kernel) ?_
          repeat (first
            | (refine mix_pure rfl ?_; (first | go_big_quiet_skip | (go_big_quiet_want; go_big_quiet_op; go_big_quiet_on)); refine wpQuiet_nil ?_)
            | (refine mix_skip (by rfl) ?_; (try simp only [Act.put, List.setIfInBounds_toArray, List.set_cons_zero, List.set_cons_succ]))
            | (refine mix_mk rfl (by rfl) (fun K hK => ?_); (first | (go_simp; first | (go_at_call 81; refine (sPlcOk_c _ _).mono ?_; rintro e w' ⟨rfl, t, rfl⟩) | (go_at_call 82; refine (l1In_c _ _ _ _).mono ?_; rintro e w' ⟨rfl, rfl⟩) | (go_at_call 83; refine (sWlkListOk_c _ _ _ _ _ _ (Re.of (Hid.out (by assumption)) zq0) (by omega)).mono ?_; rintro e w' ⟨rfl, t, rfl⟩) | skip)); (show K _ _); refine hK _ _ (show Ext _ _ from zq0) ?_; clear hK K; (try simp only [Act.put, List.setIfInBounds_toArray, List.set_cons_zero, List.set_cons_succ])))
          refine mix_nil ?_)
        | (
          with_reducible refine wp_region_ext (by kernel_rfl) (by kernel_rfl) ?_
          repeat (first | go_big_quiet_skip | (go_big_quiet_want; go_big_quiet_op; first | go_big_quiet_on | (apply Exists.intro; refine ⟨fun _ => ?_, ?_⟩; ((first | (go_at_call 81; first | exact quiet_call (sPlcOk_c _ _) | exact quiet_call2 (sPlcOk_c _ _)) | (go_at_call 82; first | exact quiet_same (l1In_c _ _ _ _) | exact quiet_same2 (l1In_c _ _ _ _)) | (go_at_call 83; first | exact quiet_call (sWlkListOk_c _ _ _ _ _ _ (Re.of (Hid.out (by assumption)) zq0) (by omega)) | exact quiet_call2 (sWlkListOk_c _ _ _ _ _ _ (Re.of (Hid.out (by assumption)) zq0) (by omega))))); (try rw [h1]); (try rw [h2]); (try rw [h3]); (try rw [h4]); (try rw [p1]); (try rw [p2]); (try rw [p3]); (try rw [p4]); (try rw [r1]); (try rw [r2]); (try rw [r3]); (try rw [r4]); (try rw [r5]); (try rw [r6]); (try rw [q3]); (try rw [q4]); (try rw [hp]); (try rw [hq]); go_big_quiet_on)))
          refine wpQuiet_nil ?_
          rintro _ ⟨tq, rfl⟩))
    go_ret
    exact ⟨ret_bool (by rw [E.out]), zq0⟩
  | true =>
    have mc0 : 2 ≤ m.c := (plcOk_iff.1 r1).1.1
    have mc1 : m.c ≤ 4 := (plcOk_iff.1 r1).1.2
    cases r2 : inB c.cell 0 (m.c - 1) with
    | false =>
      have hfail : cllHead m c = false := by simp [cllHead, r2]
      have E := hid (cllOk_fail_head (m := m) (c := c) hfail)
      clear hfail
      go_enter Try.func33, Try.ntmps33
      try go_wp2_with (first
          | (go_at_call 81; refine (sPlcOk_c _ _).mono ?_; rintro e w' ⟨rfl, t, rfl⟩) | (go_at_call 82; refine (l1In_c _ _ _ _).mono ?_; rintro e w' ⟨rfl, rfl⟩) | (go_at_call 83; refine (sWlkListOk_c _ _ _ _ _ _ (Re.of (Hid.out (by assumption)) zq0) (by omega)).mono ?_; rintro e w' ⟨rfl, t, rfl⟩)
          | (
            with_reducible refine wp_region_mix (by kernel_rfl) (by decide +kernel) ?_
            repeat (first
              | (refine mix_pure rfl ?_; (first | go_big_quiet_skip | (go_big_quiet_want; go_big_quiet_op; go_big_quiet_on)); refine wpQuiet_nil ?_)
              | (refine mix_skip (by rfl) ?_; (try simp only [Act.put, List.setIfInBounds_toArray, List.set_cons_zero, List.set_cons_succ]))
              | (refine mix_mk rfl (by rfl) (fun K hK => ?_); (first | (go_simp; first | (go_at_call 81; refine (sPlcOk_c _ _).mono ?_; rintro e w' ⟨rfl, t, rfl⟩) | (go_at_call 82; refine (l1In_c _ _ _ _).mono ?_; rintro e w' ⟨rfl, rfl⟩) | (go_at_call 83; refine (sWlkListOk_c _ _ _ _ _ _ (Re.of (Hid.out (by assumption)) zq0) (by omega)).mono ?_; rintro e w' ⟨rfl, t, rfl⟩) | skip)); (show K _ _); refine hK _ _ (show Ext _ _ from zq0) ?_; clear hK K; (try simp only [Act.put, List.setIfInBounds_toArray, List.set_cons_zero, List.set_cons_succ])))
            refine mix_nil ?_)
          | (
            with_reducible refine wp_region_ext (by kernel_rfl) (by kernel_rfl) ?_
            repeat (first | go_big_quiet_skip | (go_big_quiet_want; go_big_quiet_op; first | go_big_quiet_on | (apply Exists.intro; refine ⟨fun _ => ?_, ?_⟩; ((first | (go_at_call 81; first | exact quiet_call (sPlcOk_c _ _) | exact quiet_call2 (sPlcOk_c _ _)) | (go_at_call 82; first | exact quiet_same (l1In_c _ _ _ _) | exact quiet_same2 (l1In_c _ _ _ _)) | (go_at_call 83; first | exact quiet_call (sWlkListOk_c _ _ _ _ _ _ (Re.of (Hid.out (by assumption)) zq0) (by omega)) | exact quiet_call2 (sWlkListOk_c _ _ _ _ _ _ (Re.of (Hid.out (by assumption)) zq0) (by omega))))); (try rw [h1]); (try rw [h2]); (try rw [h3]); (try rw [h4]); (try rw [p1]); (try rw [p2]); (try rw [p3]); (try rw [p4]); (try rw [r1]); (try rw [r2]); (try rw [r3]); (try rw [r4]); (try rw [r5]); (try rw [r6]); (try rw [q3]); (try rw [q4]); (try rw [hp]); (try rw [hq]); go_big_quiet_on)))
            refine wpQuiet_nil ?_
            rintro _ ⟨tq, rfl⟩))
      go_ret
      exact ⟨ret_bool (by rw [E.out]), zq0⟩
    | true =>
      cases r0 : wlkAll m c.wk with
      | false =>
        have hfail : cllHead m c = false := by simp [cllHead, r0]
        have E := hid (cllOk_fail_head (m := m) (c := c) hfail)
        clear hfail
        go_enter Try.func33, Try.ntmps33
        try go_wp2_with (first
            | (go_at_call 81; refine (sPlcOk_c _ _).mono ?_; rintro e w' ⟨rfl, t, rfl⟩) | (go_at_call 82; refine (l1In_c _ _ _ _).mono ?_; rintro e w' ⟨rfl, rfl⟩) | (go_at_call 83; refine (sWlkListOk_c _ _ _ _ _ _ (Re.of (Hid.out (by assumption)) zq0) (by omega)).mono ?_; rintro e w' ⟨rfl, t, rfl⟩)
            | (
              with_reducible refine wp_region_mix (by kernel_rfl) (by decide +kernel) ?_
              repeat (first
                | (refine mix_pure rfl ?_; (first | go_big_quiet_skip | (go_big_quiet_want; go_big_quiet_op; go_big_quiet_on)); refine wpQuiet_nil ?_)
                | (refine mix_skip (by rfl) ?_; (try simp only [Act.put, List.setIfInBounds_toArray, List.set_cons_zero, List.set_cons_succ]))
                | (refine mix_mk rfl (by rfl) (fun K hK => ?_); (first | (go_simp; first | (go_at_call 81; refine (sPlcOk_c _ _).mono ?_; rintro e w' ⟨rfl, t, rfl⟩) | (go_at_call 82; refine (l1In_c _ _ _ _).mono ?_; rintro e w' ⟨rfl, rfl⟩) | (go_at_call 83; refine (sWlkListOk_c _ _ _ _ _ _ (Re.of (Hid.out (by assumption)) zq0) (by omega)).mono ?_; rintro e w' ⟨rfl, t, rfl⟩) | skip)); (show K _ _); refine hK _ _ (show Ext _ _ from zq0) ?_; clear hK K; (try simp only [Act.put, List.setIfInBounds_toArray, List.set_cons_zero, List.set_cons_succ])))
              refine mix_nil ?_)
            | (
              with_reducible refine wp_region_ext (by kernel_rfl) (by kernel_rfl) ?_
              repeat (first | go_big_quiet_skip | (go_big_quiet_want; go_big_quiet_op; first | go_big_quiet_on | (apply Exists.intro; refine ⟨fun _ => ?_, ?_⟩; ((first | (go_at_call 81; first | exact quiet_call (sPlcOk_c _ _) | exact quiet_call2 (sPlcOk_c _ _)) | (go_at_call 82; first | exact quiet_same (l1In_c _ _ _ _) | exact quiet_same2 (l1In_c _ _ _ _)) | (go_at_call 83; first | exact quiet_call (sWlkListOk_c _ _ _ _ _ _ (Re.of (Hid.out (by assumption)) zq0) (by omega)) | exact quiet_call2 (sWlkListOk_c _ _ _ _ _ _ (Re.of (Hid.out (by assumption)) zq0) (by omega))))); (try rw [h1]); (try rw [h2]); (try rw [h3]); (try rw [h4]); (try rw [p1]); (try rw [p2]); (try rw [p3]); (try rw [p4]); (try rw [r1]); (try rw [r2]); (try rw [r3]); (try rw [r4]); (try rw [r5]); (try rw [r6]); (try rw [q3]); (try rw [q4]); (try rw [hp]); (try rw [hq]); go_big_quiet_on)))
              refine wpQuiet_nil ?_
              rintro _ ⟨tq, rfl⟩))
        go_ret
        exact ⟨ret_bool (by rw [E.out]), zq0⟩
      | true =>
        cases r3 : inB c.ground 0 900 with
        | false =>
          have hfail : cllHead m c = false := by simp [cllHead, r3]
          have E := hid (cllOk_fail_head (m := m) (c := c) hfail)
          clear hfail
          go_enter Try.func33, Try.ntmps33
          try go_wp2_with (first
              | (go_at_call 81; refine (sPlcOk_c _ _).mono ?_; rintro e w' ⟨rfl, t, rfl⟩) | (go_at_call 82; refine (l1In_c _ _ _ _).mono ?_; rintro e w' ⟨rfl, rfl⟩) | (go_at_call 83; refine (sWlkListOk_c _ _ _ _ _ _ (Re.of (Hid.out (by assumption)) zq0) (by omega)).mono ?_; rintro e w' ⟨rfl, t, rfl⟩)
              | (
                with_reducible refine wp_region_mix (by kernel_rfl) (by decide +kernel) ?_
                repeat (first
                  | (refine mix_pure rfl ?_; (first | go_big_quiet_skip | (go_big_quiet_want; go_big_quiet_op; go_big_quiet_on)); refine wpQuiet_nil ?_)
                  | (refine mix_skip (by rfl) ?_; (try simp only [Act.put, List.setIfInBounds_toArray, List.set_cons_zero, List.set_cons_succ]))
                  | (refine mix_mk rfl (by rfl) (fun K hK => ?_); (first | (go_simp; first | (go_at_call 81; refine (sPlcOk_c _ _).mono ?_; rintro e w' ⟨rfl, t, rfl⟩) | (go_at_call 82; refine (l1In_c _ _ _ _).mono ?_; rintro e w' ⟨rfl, rfl⟩) | (go_at_call 83; refine (sWlkListOk_c _ _ _ _ _ _ (Re.of (Hid.out (by assumption)) zq0) (by omega)).mono ?_; rintro e w' ⟨rfl, t, rfl⟩) | skip)); (show K _ _); refine hK _ _ (show Ext _ _ from zq0) ?_; clear hK K; (try simp only [Act.put, List.setIfInBounds_toArray, List.set_cons_zero, List.set_cons_succ])))
                refine mix_nil ?_)
              | (
                with_reducible refine wp_region_ext (by kernel_rfl) (by kernel_rfl) ?_
                repeat (first | go_big_quiet_skip | (go_big_quiet_want; go_big_quiet_op; first | go_big_quiet_on | (apply Exists.intro; refine ⟨fun _ => ?_, ?_⟩; ((first | (go_at_call 81; first | exact quiet_call (sPlcOk_c _ _) | exact quiet_call2 (sPlcOk_c _ _)) | (go_at_call 82; first | exact quiet_same (l1In_c _ _ _ _) | exact quiet_same2 (l1In_c _ _ _ _)) | (go_at_call 83; first | exact quiet_call (sWlkListOk_c _ _ _ _ _ _ (Re.of (Hid.out (by assumption)) zq0) (by omega)) | exact quiet_call2 (sWlkListOk_c _ _ _ _ _ _ (Re.of (Hid.out (by assumption)) zq0) (by omega))))); (try rw [h1]); (try rw [h2]); (try rw [h3]); (try rw [h4]); (try rw [p1]); (try rw [p2]); (try rw [p3]); (try rw [p4]); (try rw [r1]); (try rw [r2]); (try rw [r3]); (try rw [r4]); (try rw [r5]); (try rw [r6]); (try rw [q3]); (try rw [q4]); (try rw [hp]); (try rw [hq]); go_big_quiet_on)))
                refine wpQuiet_nil ?_
                rintro _ ⟨tq, rfl⟩))
          go_ret
          exact ⟨ret_bool (by rw [E.out]), zq0⟩
        | true =>
          cases l3 : ((c.outs.length : Int) != 2) with
          | true =>
            have hfail : cllHead m c = false := by simp only [bne, Bool.not_eq_true'] at l3; simp only [cllHead, l3, Bool.and_false, Bool.false_and]
            have E := hid (cllOk_fail_head (m := m) (c := c) hfail)
            clear hfail
            go_enter Try.func33, Try.ntmps33
            try go_wp2_with (first
                | (go_at_call 81; refine (sPlcOk_c _ _).mono ?_; rintro e w' ⟨rfl, t, rfl⟩) | (go_at_call 82; refine (l1In_c _ _ _ _).mono ?_; rintro e w' ⟨rfl, rfl⟩) | (go_at_call 83; refine (sWlkListOk_c _ _ _ _ _ _ (Re.of (Hid.out (by assumption)) zq0) (by omega)).mono ?_; rintro e w' ⟨rfl, t, rfl⟩)
                | (
                  with_reducible refine wp_region_mix (by kernel_rfl) (by decide +kernel) ?_
                  repeat (first
                    | (refine mix_pure rfl ?_; (first | go_big_quiet_skip | (go_big_quiet_want; go_big_quiet_op; go_big_quiet_on)); refine wpQuiet_nil ?_)
                    | (refine mix_skip (by rfl) ?_; (try simp only [Act.put, List.setIfInBounds_toArray, List.set_cons_zero, List.set_cons_succ]))
                    | (refine mix_mk rfl (by rfl) (fun K hK => ?_); (first | (go_simp; first | (go_at_call 81; refine (sPlcOk_c _ _).mono ?_; rintro e w' ⟨rfl, t, rfl⟩) | (go_at_call 82; refine (l1In_c _ _ _ _).mono ?_; rintro e w' ⟨rfl, rfl⟩) | (go_at_call 83; refine (sWlkListOk_c _ _ _ _ _ _ (Re.of (Hid.out (by assumption)) zq0) (by omega)).mono ?_; rintro e w' ⟨rfl, t, rfl⟩) | skip)); (show K _ _); refine hK _ _ (show Ext _ _ from zq0) ?_; clear hK K; (try simp only [Act.put, List.setIfInBounds_toArray, List.set_cons_zero, List.set_cons_succ])))
                  refine mix_nil ?_)
                | (
                  with_reducible refine wp_region_ext (by kernel_rfl) (by kernel_rfl) ?_
                  repeat (first | go_big_quiet_skip | (go_big_quiet_want; go_big_quiet_op; first | go_big_quiet_on | (apply Exists.intro; refine ⟨fun _ => ?_, ?_⟩; ((first | (go_at_call 81; first | exact quiet_call (sPlcOk_c _ _) | exact quiet_call2 (sPlcOk_c _ _)) | (go_at_call 82; first | exact quiet_same (l1In_c _ _ _ _) | exact quiet_same2 (l1In_c _ _ _ _)) | (go_at_call 83; first | exact quiet_call (sWlkListOk_c _ _ _ _ _ _ (Re.of (Hid.out (by assumption)) zq0) (by omega)) | exact quiet_call2 (sWlkListOk_c _ _ _ _ _ _ (Re.of (Hid.out (by assumption)) zq0) (by omega))))); (try rw [h1]); (try rw [h2]); (try rw [h3]); (try rw [h4]); (try rw [p1]); (try rw [p2]); (try rw [p3]); (try rw [p4]); (try rw [r1]); (try rw [r2]); (try rw [r3]); (try rw [r4]); (try rw [r5]); (try rw [r6]); (try rw [q3]); (try rw [q4]); (try rw [hp]); (try rw [hq]); go_big_quiet_on)))
                  refine wpQuiet_nil ?_
                  rintro _ ⟨tq, rfl⟩))
            go_ret
            exact ⟨ret_bool (by rw [E.out]), zq0⟩
          | false =>
            cases l4 : ((c.next.length : Int) != 2) with
            | true =>
              have hfail : cllHead m c = false := by simp only [bne, Bool.not_eq_true'] at l4; simp only [cllHead, l4, Bool.and_false, Bool.false_and]
              have E := hid (cllOk_fail_head (m := m) (c := c) hfail)
              clear hfail
              go_enter Try.func33, Try.ntmps33
              try go_wp2_with (first
                  | (go_at_call 81; refine (sPlcOk_c _ _).mono ?_; rintro e w' ⟨rfl, t, rfl⟩) | (go_at_call 82; refine (l1In_c _ _ _ _).mono ?_; rintro e w' ⟨rfl, rfl⟩) | (go_at_call 83; refine (sWlkListOk_c _ _ _ _ _ _ (Re.of (Hid.out (by assumption)) zq0) (by omega)).mono ?_; rintro e w' ⟨rfl, t, rfl⟩)
                  | (
                    with_reducible refine wp_region_mix (by kernel_rfl) (by decide +kernel) ?_
                    repeat (first
                      | (refine mix_pure rfl ?_; (first | go_big_quiet_skip | (go_big_quiet_want; go_big_quiet_op; go_big_quiet_on)); refine wpQuiet_nil ?_)
                      | (refine mix_skip (by rfl) ?_; (try simp only [Act.put, List.setIfInBounds_toArray, List.set_cons_zero, List.set_cons_succ]))
                      | (refine mix_mk rfl (by rfl) (fun K hK => ?_); (first | (go_simp; first | (go_at_call 81; refine (sPlcOk_c _ _).mono ?_; rintro e w' ⟨rfl, t, rfl⟩) | (go_at_call 82; refine (l1In_c _ _ _ _).mono ?_; rintro e w' ⟨rfl, rfl⟩) | (go_at_call 83; refine (sWlkListOk_c _ _ _ _ _ _ (Re.of (Hid.out (by assumption)) zq0) (by omega)).mono ?_; rintro e w' ⟨rfl, t, rfl⟩) | skip)); (show K _ _); refine hK _ _ (show Ext _ _ from zq0) ?_; clear hK K; (try simp only [Act.put, List.setIfInBounds_toArray, List.set_cons_zero, List.set_cons_succ])))
                    refine mix_nil ?_)
                  | (
                    with_reducible refine wp_region_ext (by kernel_rfl) (by kernel_rfl) ?_
                    repeat (first | go_big_quiet_skip | (go_big_quiet_want; go_big_quiet_op; first | go_big_quiet_on | (apply Exists.intro; refine ⟨fun _ => ?_, ?_⟩; ((first | (go_at_call 81; first | exact quiet_call (sPlcOk_c _ _) | exact quiet_call2 (sPlcOk_c _ _)) | (go_at_call 82; first | exact quiet_same (l1In_c _ _ _ _) | exact quiet_same2 (l1In_c _ _ _ _)) | (go_at_call 83; first | exact quiet_call (sWlkListOk_c _ _ _ _ _ _ (Re.of (Hid.out (by assumption)) zq0) (by omega)) | exact quiet_call2 (sWlkListOk_c _ _ _ _ _ _ (Re.of (Hid.out (by assumption)) zq0) (by omega))))); (try rw [h1]); (try rw [h2]); (try rw [h3]); (try rw [h4]); (try rw [p1]); (try rw [p2]); (try rw [p3]); (try rw [p4]); (try rw [r1]); (try rw [r2]); (try rw [r3]); (try rw [r4]); (try rw [r5]); (try rw [r6]); (try rw [q3]); (try rw [q4]); (try rw [hp]); (try rw [hq]); go_big_quiet_on)))
                    refine wpQuiet_nil ?_
                    rintro _ ⟨tq, rfl⟩))
              go_ret
              exact ⟨ret_bool (by rw [E.out]), zq0⟩
            | false =>
              cases l5 : ((c.ins.length : Int) != 2) with
              | true =>
                have hfail : cllHead m c = false := by simp only [bne, Bool.not_eq_true'] at l5; simp only [cllHead, l5, Bool.and_false, Bool.false_and]
                have E := hid (cllOk_fail_head (m := m) (c := c) hfail)
                clear hfail
                go_enter Try.func33, Try.ntmps33
                try go_wp2_with (first
                    | (go_at_call 81; refine (sPlcOk_c _ _).mono ?_; rintro e w' ⟨rfl, t, rfl⟩) | (go_at_call 82; refine (l1In_c _ _ _ _).mono ?_; rintro e w' ⟨rfl, rfl⟩) | (go_at_call 83; refine (sWlkListOk_c _ _ _ _ _ _ (Re.of (Hid.out (by assumption)) zq0) (by omega)).mono ?_; rintro e w' ⟨rfl, t, rfl⟩)
                    | (
                      with_reducible refine wp_region_mix (by kernel_rfl) (by decide +kernel) ?_
                      repeat (first
                        | (refine mix_pure rfl ?_; (first | go_big_quiet_skip | (go_big_quiet_want; go_big_quiet_op; go_big_quiet_on)); refine wpQuiet_nil ?_)
                        | (refine mix_skip (by rfl) ?_; (try simp only [Act.put, List.setIfInBounds_toArray, List.set_cons_zero, List.set_cons_succ]))
                        | (refine mix_mk rfl (by rfl) (fun K hK => ?_); (first | (go_simp; first | (go_at_call 81; refine (sPlcOk_c _ _).mono ?_; rintro e w' ⟨rfl, t, rfl⟩) | (go_at_call 82; refine (l1In_c _ _ _ _).mono ?_; rintro e w' ⟨rfl, rfl⟩) | (go_at_call 83; refine (sWlkListOk_c _ _ _ _ _ _ (Re.of (Hid.out (by assumption)) zq0) (by omega)).mono ?_; rintro e w' ⟨rfl, t, rfl⟩) | skip)); (show K _ _); refine hK _ _ (show Ext _ _ from zq0) ?_; clear hK K; (try simp only [Act.put, List.setIfInBounds_toArray, List.set_cons_zero, List.set_cons_succ])))
                      refine mix_nil ?_)
                    | (
                      with_reducible refine wp_region_ext (by kernel_rfl) (by kernel_rfl) ?_
                      repeat (first | go_big_quiet_skip | (go_big_quiet_want; go_big_quiet_op; first | go_big_quiet_on | (apply Exists.intro; refine ⟨fun _ => ?_, ?_⟩; ((first | (go_at_call 81; first | exact quiet_call (sPlcOk_c _ _) | exact quiet_call2 (sPlcOk_c _ _)) | (go_at_call 82; first | exact quiet_same (l1In_c _ _ _ _) | exact quiet_same2 (l1In_c _ _ _ _)) | (go_at_call 83; first | exact quiet_call (sWlkListOk_c _ _ _ _ _ _ (Re.of (Hid.out (by assumption)) zq0) (by omega)) | exact quiet_call2 (sWlkListOk_c _ _ _ _ _ _ (Re.of (Hid.out (by assumption)) zq0) (by omega))))); (try rw [h1]); (try rw [h2]); (try rw [h3]); (try rw [h4]); (try rw [p1]); (try rw [p2]); (try rw [p3]); (try rw [p4]); (try rw [r1]); (try rw [r2]); (try rw [r3]); (try rw [r4]); (try rw [r5]); (try rw [r6]); (try rw [q3]); (try rw [q4]); (try rw [hp]); (try rw [hq]); go_big_quiet_on)))
                      refine wpQuiet_nil ?_
                      rintro _ ⟨tq, rfl⟩))
                go_ret
                exact ⟨ret_bool (by rw [E.out]), zq0⟩
              | false =>
                have hl3 : c.outs.length = 2 := by have : (c.outs.length : Int) = 2 := by simpa [bne] using l3
                                                   omega
                have hl4 : c.next.length = 2 := by have : (c.next.length : Int) = 2 := by simpa [bne] using l4
                                                   omega
                have hl5 : c.ins.length = 2 := by have : (c.ins.length : Int) = 2 := by simpa [bne] using l5
                                                  omega
                have HHD := hid (show cllHead m c = true from cllHead_iff.2 ⟨r1, r2, r0, r3, by omega, by omega, by omega⟩)
                have HL3 := hid hl3
                have HL4 := hid hl4
                have HL5 := hid hl5
                clear hl3 hl4 hl5
                go_enter Try.func33, Try.ntmps33
                try go_wp2_with (first
                    | (go_at_call 81; refine (sPlcOk_c _ _).mono ?_; rintro e w' ⟨rfl, t, rfl⟩) | (go_at_call 82; refine (l1In_c _ _ _ _).mono ?_; rintro e w' ⟨rfl, rfl⟩) | (go_at_call 83; refine (sWlkListOk_c _ _ _ _ _ _ (Re.of (Hid.out (by assumption)) zq0) (by omega)).mono ?_; rintro e w' ⟨rfl, t, rfl⟩)
                    | (
                      with_reducible refine wp_region_mix (by kernel_rfl) (by decide +kernel) ?_
                      repeat (first
                        | (refine mix_pure rfl ?_; (first | go_big_quiet_skip | (go_big_quiet_want; go_big_quiet_op; go_big_quiet_on)); refine wpQuiet_nil ?_)
                        | (refine mix_skip (by rfl) ?_; (try simp only [Act.put, List.setIfInBounds_toArray, List.set_cons_zero, List.set_cons_succ]))
                        | (refine mix_mk rfl (by rfl) (fun K hK => ?_); (first | (go_simp; first | (go_at_call 81; refine (sPlcOk_c _ _).mono ?_; rintro e w' ⟨rfl, t, rfl⟩) | (go_at_call 82; refine (l1In_c _ _ _ _).mono ?_; rintro e w' ⟨rfl, rfl⟩) | (go_at_call 83; refine (sWlkListOk_c _ _ _ _ _ _ (Re.of (Hid.out (by assumption)) zq0) (by omega)).mono ?_; rintro e w' ⟨rfl, t, rfl⟩) | skip)); (show K _ _); refine hK _ _ (show Ext _ _ from zq0) ?_; clear hK K; (try simp only [Act.put, List.setIfInBounds_toArray, List.set_cons_zero, List.set_cons_succ])))
                      refine mix_nil ?_)
                    | (
                      with_reducible refine wp_region_ext (by kernel_rfl) (by kernel_rfl) ?_
                      repeat (first | go_big_quiet_skip | (go_big_quiet_want; go_big_quiet_op; first | go_big_quiet_on | (apply Exists.intro; refine ⟨fun _ => ?_, ?_⟩; ((first | (go_at_call 81; first | exact quiet_call (sPlcOk_c _ _) | exact quiet_call2 (sPlcOk_c _ _)) | (go_at_call 82; first | exact quiet_same (l1In_c _ _ _ _) | exact quiet_same2 (l1In_c _ _ _ _)) | (go_at_call 83; first | exact quiet_call (sWlkListOk_c _ _ _ _ _ _ (Re.of (Hid.out (by assumption)) zq0) (by omega)) | exact quiet_call2 (sWlkListOk_c _ _ _ _ _ _ (Re.of (Hid.out (by assumption)) zq0) (by omega))))); (try rw [h1]); (try rw [h2]); (try rw [h3]); (try rw [h4]); (try rw [p1]); (try rw [p2]); (try rw [p3]); (try rw [p4]); (try rw [r1]); (try rw [r2]); (try rw [r3]); (try rw [r4]); (try rw [r5]); (try rw [r6]); (try rw [q3]); (try rw [q4]); (try rw [hp]); (try rw [hq]); go_big_quiet_on)))
                      refine wpQuiet_nil ?_
                      rintro _ ⟨tq, rfl⟩))
                go_loopw [5] (fun i wr => ∃ k : Nat, k ≤ c.wk.length ∧ i = .int .i64 k ∧ allI (inCell m c.cell) 0 (c.wk.take k) = true ∧ Ext ((w.alloc (Obj.cells #[.int .i64 m.c, .int .i64 m.w] 40)).alloc (Obj.cells #[.int .i64 c.cell, .slice a1 c.wk.length c1, .int .i64 c.ground, .slice a3 c.outs.length c3, .slice a4 c.next.length c4, .slice a5 c.ins.length c5] 37)) wr) (fun i _ => c.wk.length - (intOf i).toNat)
                case atStart => exact ⟨0, Nat.zero_le _, rfl, rfl, zq0⟩
                case round =>
                  obtain ⟨k, hk, rfl, hal, t', rfl⟩ := hrel
                  have HA := hid hal
                  clear hal
                  by_cases hlt : k < c.wk.length
                  · obtain ⟨x, b, o, hxk, rfl, hb, f0, f1, f2, f3, f4⟩ := at_Wlk H1.out hlt
                    have HK := hid hxk
                    have hb1 : b ≤ w.heap.size := Nat.le_of_lt hb
                    clear hxk
                    cases h1 : (plcCell m x.at_ != c.cell) with
                    | true =>
                      have E := hid (cllOk_fail_wk (m := m) (c := c) (allI_fail (p := inCell m c.cell) HK.out (by simpa [inCell] using h1)))
                      try go_wp2_with (first
                          | (go_at_call 84; refine (sPlcCell_c _ _ _).mono ?_; rintro e w' ⟨rfl, t, rfl⟩)
                          | (
                            with_reducible refine wp_region_mix (by kernel_rfl) (by decide +kernel) ?_
                            repeat (first
                              | (refine mix_pure rfl ?_; (first | go_big_quiet_skip | (go_big_quiet_want; go_big_quiet_op; go_big_quiet_on)); refine wpQuiet_nil ?_)
                              | (refine mix_skip (by rfl) ?_; (try simp only [Act.put, List.setIfInBounds_toArray, List.set_cons_zero, List.set_cons_succ]))
                              | (refine mix_mk rfl (by rfl) (fun K hK => ?_); (first | (go_simp; first | (go_at_call 84; refine (sPlcCell_c _ _ _).mono ?_; rintro e w' ⟨rfl, t, rfl⟩) | skip)); (show K _ _); refine hK _ _ (show Ext _ _ from zq0) ?_; clear hK K; (try simp only [Act.put, List.setIfInBounds_toArray, List.set_cons_zero, List.set_cons_succ])))
                            refine mix_nil ?_)
                          | (
                            with_reducible refine wp_region_ext (by kernel_rfl) (by kernel_rfl) ?_
                            repeat (first | go_big_quiet_skip | (go_big_quiet_want; go_big_quiet_op; first | go_big_quiet_on | (apply Exists.intro; refine ⟨fun _ => ?_, ?_⟩; ((first | (go_at_call 84; first | exact quiet_call (sPlcCell_c _ _ _) | exact quiet_call2 (sPlcCell_c _ _ _)))); (try rw [h1]); (try rw [h2]); (try rw [h3]); (try rw [h4]); (try rw [p1]); (try rw [p2]); (try rw [p3]); (try rw [p4]); (try rw [r1]); (try rw [r2]); (try rw [r3]); (try rw [r4]); (try rw [r5]); (try rw [r6]); (try rw [q3]); (try rw [q4]); (try rw [hp]); (try rw [hq]); go_big_quiet_on)))
                            refine wpQuiet_nil ?_
                            rintro _ ⟨tq, rfl⟩))
                      go_ret
                      exact ⟨ret_bool (by rw [E.out]), zq0⟩
                    | false =>
                      have HB := hid (allI_step (p := inCell m c.cell) HK.out HA.out (by simpa [inCell] using h1))
                      try go_wp2_with (first
                          | (go_at_call 84; refine (sPlcCell_c _ _ _).mono ?_; rintro e w' ⟨rfl, t, rfl⟩)
                          | (
                            with_reducible refine wp_region_mix (by kernel_rfl) (by decide +kernel) ?_
                            repeat (first
                              | (refine mix_pure rfl ?_; (first | go_big_quiet_skip | (go_big_quiet_want; go_big_quiet_op; go_big_quiet_on)); refine wpQuiet_nil ?_)
                              | (refine mix_skip (by rfl) ?_; (try simp only [Act.put, List.setIfInBounds_toArray, List.set_cons_zero, List.set_cons_succ]))
                              | (refine mix_mk rfl (by rfl) (fun K hK => ?_); (first | (go_simp; first | (go_at_call 84; refine (sPlcCell_c _ _ _).mono ?_; rintro e w' ⟨rfl, t, rfl⟩) | skip)); (show K _ _); refine hK _ _ (show Ext _ _ from zq0) ?_; clear hK K; (try simp only [Act.put, List.setIfInBounds_toArray, List.set_cons_zero, List.set_cons_succ])))
                            refine mix_nil ?_)
                          | (
                            with_reducible refine wp_region_ext (by kernel_rfl) (by kernel_rfl) ?_
                            repeat (first | go_big_quiet_skip | (go_big_quiet_want; go_big_quiet_op; first | go_big_quiet_on | (apply Exists.intro; refine ⟨fun _ => ?_, ?_⟩; ((first | (go_at_call 84; first | exact quiet_call (sPlcCell_c _ _ _) | exact quiet_call2 (sPlcCell_c _ _ _)))); (try rw [h1]); (try rw [h2]); (try rw [h3]); (try rw [h4]); (try rw [p1]); (try rw [p2]); (try rw [p3]); (try rw [p4]); (try rw [r1]); (try rw [r2]); (try rw [r3]); (try rw [r4]); (try rw [r5]); (try rw [r6]); (try rw [q3]); (try rw [q4]); (try rw [hp]); (try rw [hq]); go_big_quiet_on)))
                            refine wpQuiet_nil ?_
                            rintro _ ⟨tq, rfl⟩))
                      go_roundw
                      case rel => exact ⟨k + 1, by omega, by go_num, HB.out, zq0⟩
                      case measure => simp [intOf]; omega
                  · have HW := hid (allI_all (p := inCell m c.cell) (xs := c.wk) (k := k) (by omega) HA.out)
                    clear HA
                    cases s0 : sideAt m c 0 with
                    | false =>
                      have E := hid (cllOk_fail_side (m := m) (c := c) (k := 0) (by decide) s0)
                      try go_wp2_with (first
                          | (go_at_call 85; (with_reducible refine (sSide_c m c ⟨a1, c1, a3, c3, a4, c4, a5, c5⟩ 0 0 rfl (by decide) HL3.out HL4.out HL5.out _ (ReC.of HX.out zq0) HBD.out).mono ?_); rintro e w' ⟨rfl, t, rfl⟩)
                          | (
                            with_reducible refine wp_region_mix (by kernel_rfl) (by decide +kernel) ?_
                            repeat (first
                              | (refine mix_pure rfl ?_; (first | go_big_quiet_skip | (go_big_quiet_want; go_big_quiet_op; go_big_quiet_on)); refine wpQuiet_nil ?_)
                              | (refine mix_skip (by rfl) ?_; (try simp only [Act.put, List.setIfInBounds_toArray, List.set_cons_zero, List.set_cons_succ]))
                              | (refine mix_mk rfl (by rfl) (fun K hK => ?_); (first | (go_simp; first | (go_at_call 85; (with_reducible refine (sSide_c m c ⟨a1, c1, a3, c3, a4, c4, a5, c5⟩ 0 0 rfl (by decide) HL3.out HL4.out HL5.out _ (ReC.of HX.out zq0) HBD.out).mono ?_); rintro e w' ⟨rfl, t, rfl⟩) | skip)); (show K _ _); refine hK _ _ (show Ext _ _ from zq0) ?_; clear hK K; (try simp only [Act.put, List.setIfInBounds_toArray, List.set_cons_zero, List.set_cons_succ])))
                            refine mix_nil ?_)
                          | (
                            with_reducible refine wp_region_ext (by kernel_rfl) (by kernel_rfl) ?_
                            repeat (first | go_big_quiet_skip | (go_big_quiet_want; go_big_quiet_op; first | go_big_quiet_on | (apply Exists.intro; refine ⟨fun _ => ?_, ?_⟩; (fail); (try rw [h1]); (try rw [h2]); (try rw [h3]); (try rw [h4]); (try rw [p1]); (try rw [p2]); (try rw [p3]); (try rw [p4]); (try rw [r1]); (try rw [r2]); (try rw [r3]); (try rw [r4]); (try rw [r5]); (try rw [r6]); (try rw [q3]); (try rw [q4]); (try rw [hp]); (try rw [hq]); go_big_quiet_on)))
                            refine wpQuiet_nil ?_
                            rintro _ ⟨tq, rfl⟩))
                      go_ret
                      exact ⟨ret_bool (by rw [E.out]), zq0⟩
                    | true =>
                      have E := hid (show cllOk m c = sideAt m c 1 by simp only [cllOk, HHD.out, HW.out, s0, Bool.true_and])
                      try go_wp2_with (first
                          | (go_at_call 85; (with_reducible refine (sSide_c m c ⟨a1, c1, a3, c3, a4, c4, a5, c5⟩ 0 0 rfl (by decide) HL3.out HL4.out HL5.out _ (ReC.of HX.out zq0) HBD.out).mono ?_); rintro e w' ⟨rfl, t, rfl⟩) | (go_at_call 85; (with_reducible refine (sSide_c m c ⟨a1, c1, a3, c3, a4, c4, a5, c5⟩ 1 1 rfl (by decide) HL3.out HL4.out HL5.out _ (ReC.of HX.out zq0) HBD.out).mono ?_); rintro e w' ⟨rfl, t, rfl⟩)
                          | (
                            with_reducible refine wp_region_mix (by kernel_rfl) (by decide +kernel) ?_
                            repeat (first
                              | (refine mix_pure rfl ?_; (first | go_big_quiet_skip | (go_big_quiet_want; go_big_quiet_op; go_big_quiet_on)); refine wpQuiet_nil ?_)
                              | (refine mix_skip (by rfl) ?_; (try simp only [Act.put, List.setIfInBounds_toArray, List.set_cons_zero, List.set_cons_succ]))
                              | (refine mix_mk rfl (by rfl) (fun K hK => ?_); (first | (go_simp; first | (go_at_call 85; (with_reducible refine (sSide_c m c ⟨a1, c1, a3, c3, a4, c4, a5, c5⟩ 0 0 rfl (by decide) HL3.out HL4.out HL5.out _ (ReC.of HX.out zq0) HBD.out).mono ?_); rintro e w' ⟨rfl, t, rfl⟩) | (go_at_call 85; (with_reducible refine (sSide_c m c ⟨a1, c1, a3, c3, a4, c4, a5, c5⟩ 1 1 rfl (by decide) HL3.out HL4.out HL5.out _ (ReC.of HX.out zq0) HBD.out).mono ?_); rintro e w' ⟨rfl, t, rfl⟩) | skip)); (show K _ _); refine hK _ _ (show Ext _ _ from zq0) ?_; clear hK K; (try simp only [Act.put, List.setIfInBounds_toArray, List.set_cons_zero, List.set_cons_succ])))
                            refine mix_nil ?_)
                          | (
                            with_reducible refine wp_region_ext (by kernel_rfl) (by kernel_rfl) ?_
                            repeat (first | go_big_quiet_skip | (go_big_quiet_want; go_big_quiet_op; first | go_big_quiet_on | (apply Exists.intro; refine ⟨fun _ => ?_, ?_⟩; (fail); (try rw [h1]); (try rw [h2]); (try rw [h3]); (try rw [h4]); (try rw [p1]); (try rw [p2]); (try rw [p3]); (try rw [p4]); (try rw [r1]); (try rw [r2]); (try rw [r3]); (try rw [r4]); (try rw [r5]); (try rw [r6]); (try rw [q3]); (try rw [q4]); (try rw [hp]); (try rw [hq]); go_big_quiet_on)))
                            refine wpQuiet_nil ?_
                            rintro _ ⟨tq, rfl⟩))
                      go_ret
                      exact ⟨ret_bool (by rw [E.out]), zq0⟩
end Go.Proofs.Ytablgohncilmfaa

namespace Go.Proofs.Ytablgohncilmfaa
open Go.RowKit
set_option linter.unusedSimpArgs false
set_option linter.unusedVariables false

theorem nod_app {A B : List Nat} (h : (A ++ B).Nodup) {x : Nat} (hx : x ∈ A) : x ∉ B := fun hb => (List.nodup_append.1 h).2.2 x hx x hb rfl
end Go.Proofs.Ytablgohncilmfaa

namespace Go.Proofs.Ytablgohncilmfaa
open Go.RowKit
set_option linter.unusedSimpArgs false
set_option linter.unusedVariables false

def cllZ : Cll := ⟨0, [], 0, [], [], []⟩
theorem ownL_nil_cll (w : World) : Own w sCll (cllCells cllZ ⟨none, 0, none, 0, none, 0, none, 0⟩) (cllDat cllZ) [] := by
  have nl : ∀ e : Sch, Own w (.sl e) [.slice none 0 0] (.l []) [] := fun e => by
    unfold Own; exact ⟨[], rfl, Nat.zero_le _, .inl ⟨rfl, rfl, none, 0, rfl⟩⟩
  have i : Own w .int [.int .i64 0] (.i 0) [] := by unfold Own; exact ⟨⟨_, rfl, rfl⟩, rfl⟩
  unfold sCll cllDat
  refine own_st_mk ?_
  unfold OwnL; refine ⟨[_], _, _, _, [], [], rfl, rfl, rfl, i, ?_⟩
  unfold OwnL; refine ⟨[_], _, _, _, [], [], rfl, rfl, rfl, nl _, ?_⟩
  unfold OwnL; refine ⟨[_], _, _, _, [], [], rfl, rfl, rfl, i, ?_⟩
  unfold OwnL; refine ⟨[_], _, _, _, [], [], rfl, rfl, rfl, nl _, ?_⟩
  unfold OwnL; refine ⟨[_], _, _, _, [], [], rfl, rfl, rfl, nl _, ?_⟩
  unfold OwnL; refine ⟨[_], _, _, _, [], [], rfl, rfl, rfl, nl _, ?_⟩
  unfold OwnL; exact ⟨rfl, rfl, rfl⟩
/-- A cell and something beside it, the cell in new memory. -/
def MadeCV (w : World) (c : Cll) (x : Value) (e : Ending) (w' : World) : Prop :=
  ∃ h : CllH, e = .returned (.tuple #[.agg #[.int .i64 c.cell, .slice h.a1 c.wk.length h.c1, .int .i64 c.ground, .slice h.a3 c.outs.length h.c3, .slice h.a4 c.next.length h.c4, .slice h.a5 c.ins.length h.c5], x]) ∧ Ext w w' ∧ OwnR w.heap.size w'.heap.size w' sCll (cllCells c h) (cllDat c)
theorem CX.re {w : World} {c : Cll} {h : CllH} {B1 B3 B4 B5 : List Nat} (x : CX w c h B1 B3 B4 B5) : ReC w c h := (x.own (lo := 0) (fun _ _ => Nat.zero_le _)).cll
theorem CX.fin {X X' w' : World} {t : Xt} {c : Cll} {h : CllH} {B1 B3 B4 B5 : List Nat} (x : CX (ext X t) c h B1 B3 B4 B5) (hB : ∀ b ∈ B1 ++ (B3 ++ (B4 ++ B5)), X.heap.size ≤ b) (hE : Ext (ext X' t) w') (hs : X'.heap.size = X.heap.size) : CX w' c h B1 B3 B4 B5 :=
  x.same fun b hb => fin_blk (hB b hb) (x.lt b hb) hE hs
end Go.Proofs.Ytablgohncilmfaa

namespace Go.Proofs.Ytablgohncilmfaa
open Go.RowKit

/-- The place of the first element that passes; -1 for none. -/
def idxFrom {α : Type} (p : α → Bool) : Nat → List α → Int
  | _, [] => -1
  | i, x :: r => if p x then (i : Int) else idxFrom p (i + 1) r
theorem idxFrom_hit {α : Type} {p : α → Bool} : ∀ {xs : List α} {i k : Nat} {x : α}, xs[k]? = some x → (∀ y ∈ xs.take k, p y = false) → p x = true → idxFrom p i xs = ((i + k : Nat) : Int)
  | y :: ys, i, 0, x, h, _, hp => by
    obtain rfl : y = x := by simpa using h
    simp [idxFrom, hp]
  | y :: ys, i, k + 1, x, h, ha, hp => by
    have h0 := ha y (by simp)
    simp only [idxFrom, h0, Bool.false_eq_true, if_false]
    rw [idxFrom_hit (i := i + 1) (k := k) (by simpa using h) (fun z hz => ha z (by simp [hz])) hp, show i + 1 + k = i + (k + 1) by omega]
theorem idxFrom_none {α : Type} {p : α → Bool} : ∀ {xs : List α} {i : Nat}, (∀ y ∈ xs, p y = false) → idxFrom p i xs = -1
  | [], _, _ => rfl
  | y :: ys, i, h => by
    simp only [idxFrom, h y (by simp), Bool.false_eq_true, if_false]
    exact idxFrom_none fun z hz => h z (by simp [hz])
theorem take_step {α : Type} {p : α → Bool} {xs : List α} {k : Nat} {x : α} (h : ∀ y ∈ xs.take k, p y = false) (hx : xs[k]? = some x) (hp : p x = false) : ∀ y ∈ xs.take (k + 1), p y = false := by
  rw [List.take_add_one, hx]
  intro y hy
  rcases List.mem_append.1 hy with h' | h'
  · exact h y h'
  · obtain rfl : y = x := by simpa using h'
    exact hp
theorem take_end {α : Type} {p : α → Bool} {xs : List α} {k : Nat} (h : ∀ y ∈ xs.take k, p y = false) (hk : xs.length ≤ k) : ∀ y ∈ xs, p y = false := by
  rwa [List.take_of_length_le hk] at h

def idIs (id : Int) (x : Wlk) : Bool := x.id == id
def wlkPlace (xs : List Wlk) (id : Int) : Int := idxFrom (idIs id) 0 xs
def wlkZ : Wlk := ⟨0, 0, 0, 0, 0⟩
/-- The first walker with a number. -/
def wlkGet (xs : List Wlk) (id : Int) : Wlk := (xs.find? (idIs id)).getD wlkZ
def wlkHas (xs : List Wlk) (id : Int) : Bool := (xs.find? (idIs id)).isSome
theorem find_hit {α : Type} {p : α → Bool} {xs : List α} {k : Nat} {x : α} (h : xs[k]? = some x) (ha : ∀ y ∈ xs.take k, p y = false) (hp : p x = true) : xs.find? p = some x := by
  have hk := (List.getElem?_eq_some_iff.1 h).1
  have e : xs = xs.take k ++ x :: xs.drop (k + 1) := by
    have := List.take_append_drop k xs
    rw [← (List.getElem?_eq_some_iff.1 h).2, ← List.drop_eq_getElem_cons hk]
    exact this.symm
  rw [e, List.find?_append, List.find?_eq_none.2 (fun y hy => by simp [ha y hy])]
  simp [hp]
theorem find_miss {α : Type} {p : α → Bool} {xs : List α} (h : ∀ y ∈ xs, p y = false) : xs.find? p = none := List.find?_eq_none.2 fun y hy => by simp [h y hy]

theorem place1_c (x : Wlk) (b : Nat) (id : Int) (w : World) (hb : b < w.heap.size) (hc : w.cell? ⟨b, 0, none⟩ = some (.int .i64 id)) :
    Calls Try.prog 120 #[.agg #[.int .i64 x.id, .int .i64 x.at_, .int .i64 x.coins, .int .i64 x.seq, .int .i64 x.last], .pointer (some ⟨b, 0, none⟩)] w fun e w' => e = .returned (.bool (idIs id x)) ∧ Ext w w' := by
  go_enter Try.func120, Try.ntmps120
  try go_wp2_with (first
      | fail
      | (
        with_reducible refine wp_region_mix (by kernel_rfl) (by decide +kernel) ?_
        repeat (first
          | (refine mix_pure rfl ?_; (first | go_big_quiet_skip | (go_big_quiet_want; go_big_quiet_op; go_big_quiet_on)); refine wpQuiet_nil ?_)
          | (refine mix_skip (by rfl) ?_; (try simp only [Act.put, List.setIfInBounds_toArray, List.set_cons_zero, List.set_cons_succ]))
          | (refine mix_mk rfl (by rfl) (fun K hK => ?_); (first | (go_simp; first | skip)); (show K _ _); refine hK _ _ (show Ext _ _ from zq0) ?_; clear hK K; (try simp only [Act.put, List.setIfInBounds_toArray, List.set_cons_zero, List.set_cons_succ])))
        refine mix_nil ?_)
      | (
        with_reducible refine wp_region_ext (by kernel_rfl) (by kernel_rfl) ?_
        repeat (first | go_big_quiet_skip | (go_big_quiet_want; go_big_quiet_op; first | go_big_quiet_on | (apply Exists.intro; refine ⟨fun _ => ?_, ?_⟩; (fail); (try rw [h1]); (try rw [h2]); (try rw [h3]); (try rw [h4]); (try rw [p1]); (try rw [p2]); (try rw [p3]); (try rw [p4]); (try rw [r1]); (try rw [r2]); (try rw [r3]); (try rw [r4]); (try rw [r5]); (try rw [r6]); (try rw [q3]); (try rw [q4]); (try rw [hp]); (try rw [hq]); go_big_quiet_on)))
        refine wpQuiet_nil ?_
        rintro _ ⟨tq, rfl⟩))
  go_ret
  exact ⟨rfl, zq0⟩

set_option maxHeartbeats 1000000 in
theorem idxF_c (xs : List Wlk) (a : Option Addr) (n c b : Nat) (id : Int) (w : World) (hx : Re w (.sl sWlk) [.slice a n c] (.l (xs.map Wlk.dat))) (hn : n ≤ 1048576) (hb : b < w.heap.size) (hc : w.cell? ⟨b, 0, none⟩ = some (.int .i64 id)) :
    Calls Try.prog 119 #[.slice a n c, .func (.func 120) #[] #[.pointer (some ⟨b, 0, none⟩)]] w fun e w' => e = .returned (.int .i64 (wlkPlace xs id)) ∧ Ext w w' := by
  have HX := hid hx
  clear hx
  go_enter Try.func119, Try.ntmps119
  go_wp2
  go_loopw [8] (fun i wr => ∃ k : Nat, k ≤ n ∧ i = .int .i64 k ∧ (∀ y ∈ xs.take k, idIs id y = false) ∧ Ext w wr) (fun i _ => n - (intOf i).toNat)
  case atStart => exact ⟨0, Nat.zero_le _, rfl, by simp, Ext.refl _⟩
  case round =>
    obtain ⟨k, hk, rfl, hal, t, rfl⟩ := hrel
    have HA := hid hal
    clear hal
    by_cases hlt : k < n
    · obtain ⟨x, b1, o1, hxk, rfl, hb1, f0, f1, f2, f3, f4⟩ := at_Wlk HX.out hlt
      have HK := hid hxk
      clear hxk
      cases hp : idIs id x with
      | true =>
        have E := hid (show wlkPlace xs id = (k : Int) by rw [wlkPlace, idxFrom_hit HK.out HA.out hp]; simp)
        try go_wp2_with (first
            | (go_at_call 120; (with_reducible refine (place1_c x b id _ (by simp [ext_size]; omega) (by rw [ext_cell' _ _ _ _ hb]; exact hc)).mono ?_); rintro e w' ⟨rfl, t, rfl⟩)
            | (
              with_reducible refine wp_region_mix (by kernel_rfl) (by decide +kernel) ?_
              repeat (first
                | (refine mix_pure rfl ?_; (first | go_big_quiet_skip | (go_big_quiet_want; go_big_quiet_op; go_big_quiet_on)); refine wpQuiet_nil ?_)
                | (refine mix_skip (by rfl) ?_; (try simp only [Act.put, List.setIfInBounds_toArray, List.set_cons_zero, List.set_cons_succ]))
                | (refine mix_mk rfl (by rfl) (fun K hK => ?_); (first | (go_simp; first | (go_at_call 120; (with_reducible refine (place1_c x b id _ (by simp [ext_size]; omega) (by rw [ext_cell' _ _ _ _ hb]; exact hc)).mono ?_); rintro e w' ⟨rfl, t, rfl⟩) | skip)); (show K _ _); refine hK _ _ (show Ext _ _ from zq0) ?_; clear hK K; (try simp only [Act.put, List.setIfInBounds_toArray, List.set_cons_zero, List.set_cons_succ])))
              refine mix_nil ?_)
            | (
              with_reducible refine wp_region_ext (by kernel_rfl) (by kernel_rfl) ?_
              repeat (first | go_big_quiet_skip | (go_big_quiet_want; go_big_quiet_op; first | go_big_quiet_on | (apply Exists.intro; refine ⟨fun _ => ?_, ?_⟩; (fail); (try rw [h1]); (try rw [h2]); (try rw [h3]); (try rw [h4]); (try rw [p1]); (try rw [p2]); (try rw [p3]); (try rw [p4]); (try rw [r1]); (try rw [r2]); (try rw [r3]); (try rw [r4]); (try rw [r5]); (try rw [r6]); (try rw [q3]); (try rw [q4]); (try rw [hp]); (try rw [hq]); go_big_quiet_on)))
              refine wpQuiet_nil ?_
              rintro _ ⟨tq, rfl⟩))
        go_ret
        exact ⟨ret_int E.out.symm, zq0⟩
      | false =>
        have HB := hid (take_step HA.out HK.out hp)
        try go_wp2_with (first
            | (go_at_call 120; (with_reducible refine (place1_c x b id _ (by simp [ext_size]; omega) (by rw [ext_cell' _ _ _ _ hb]; exact hc)).mono ?_); rintro e w' ⟨rfl, t, rfl⟩)
            | (
              with_reducible refine wp_region_mix (by kernel_rfl) (by decide +kernel) ?_
              repeat (first
                | (refine mix_pure rfl ?_; (first | go_big_quiet_skip | (go_big_quiet_want; go_big_quiet_op; go_big_quiet_on)); refine wpQuiet_nil ?_)
                | (refine mix_skip (by rfl) ?_; (try simp only [Act.put, List.setIfInBounds_toArray, List.set_cons_zero, List.set_cons_succ]))
                | (refine mix_mk rfl (by rfl) (fun K hK => ?_); (first | (go_simp; first | (go_at_call 120; (with_reducible refine (place1_c x b id _ (by simp [ext_size]; omega) (by rw [ext_cell' _ _ _ _ hb]; exact hc)).mono ?_); rintro e w' ⟨rfl, t, rfl⟩) | skip)); (show K _ _); refine hK _ _ (show Ext _ _ from zq0) ?_; clear hK K; (try simp only [Act.put, List.setIfInBounds_toArray, List.set_cons_zero, List.set_cons_succ])))
              refine mix_nil ?_)
            | (
              with_reducible refine wp_region_ext (by kernel_rfl) (by kernel_rfl) ?_
              repeat (first | go_big_quiet_skip | (go_big_quiet_want; go_big_quiet_op; first | go_big_quiet_on | (apply Exists.intro; refine ⟨fun _ => ?_, ?_⟩; (fail); (try rw [h1]); (try rw [h2]); (try rw [h3]); (try rw [h4]); (try rw [p1]); (try rw [p2]); (try rw [p3]); (try rw [p4]); (try rw [r1]); (try rw [r2]); (try rw [r3]); (try rw [r4]); (try rw [r5]); (try rw [r6]); (try rw [q3]); (try rw [q4]); (try rw [hp]); (try rw [hq]); go_big_quiet_on)))
              refine wpQuiet_nil ?_
              rintro _ ⟨tq, rfl⟩))
        go_roundw
        case rel => exact ⟨k + 1, by omega, by go_num, HB.out, zq0⟩
        case measure => simp [intOf]; omega
    · have E := hid (show wlkPlace xs id = -1 from idxFrom_none (take_end HA.out (by rw [← HX.out.len]; omega)))
      go_wp2
      go_ret
      exact ⟨ret_int E.out.symm, zq0⟩

theorem place_c (xs : List Wlk) (a : Option Addr) (n c : Nat) (id : Int) (w : World) (hx : Re w (.sl sWlk) [.slice a n c] (.l (xs.map Wlk.dat))) (hn : n ≤ 1048576) :
    Calls Try.prog 86 #[.slice a n c, .int .i64 id] w fun e w' => e = .returned (.int .i64 (wlkPlace xs id)) ∧ Ext w w' := by
  have HX := hid hx
  clear hx
  go_enter Try.func86, Try.ntmps86
  try go_wp2_with (first
      | (go_at_call 119; (with_reducible refine (idxF_c xs _ _ _ _ id _ (HX.out.of zq0) hn (by simp) (by simp [go_sem])).mono ?_); rintro e w' ⟨rfl, t, rfl⟩)
      | (
        with_reducible refine wp_region_mix (by kernel_rfl) (by decide +kernel) ?_
        repeat (first
          | (refine mix_pure rfl ?_; (first | go_big_quiet_skip | (go_big_quiet_want; go_big_quiet_op; go_big_quiet_on)); refine wpQuiet_nil ?_)
          | (refine mix_skip (by rfl) ?_; (try simp only [Act.put, List.setIfInBounds_toArray, List.set_cons_zero, List.set_cons_succ]))
          | (refine mix_mk rfl (by rfl) (fun K hK => ?_); (first | (go_simp; first | (go_at_call 119; (with_reducible refine (idxF_c xs _ _ _ _ id _ (HX.out.of zq0) hn (by simp) (by simp [go_sem])).mono ?_); rintro e w' ⟨rfl, t, rfl⟩) | skip)); (show K _ _); refine hK _ _ (show Ext _ _ from zq0) ?_; clear hK K; (try simp only [Act.put, List.setIfInBounds_toArray, List.set_cons_zero, List.set_cons_succ])))
        refine mix_nil ?_)
      | (
        with_reducible refine wp_region_ext (by kernel_rfl) (by kernel_rfl) ?_
        repeat (first | go_big_quiet_skip | (go_big_quiet_want; go_big_quiet_op; first | go_big_quiet_on | (apply Exists.intro; refine ⟨fun _ => ?_, ?_⟩; (fail); (try rw [h1]); (try rw [h2]); (try rw [h3]); (try rw [h4]); (try rw [p1]); (try rw [p2]); (try rw [p3]); (try rw [p4]); (try rw [r1]); (try rw [r2]); (try rw [r3]); (try rw [r4]); (try rw [r5]); (try rw [r6]); (try rw [q3]); (try rw [q4]); (try rw [hp]); (try rw [hq]); go_big_quiet_on)))
        refine wpQuiet_nil ?_
        rintro _ ⟨tq, rfl⟩))
  go_ret
  exact ⟨rfl, zq0⟩

theorem place_lt {α : Type} {p : α → Bool} : ∀ {xs : List α} {i : Nat}, idxFrom p i xs = -1 ∧ (∀ y ∈ xs, p y = false) ∨ ∃ k x, idxFrom p i xs = ((i + k : Nat) : Int) ∧ xs[k]? = some x ∧ (∀ y ∈ xs.take k, p y = false) ∧ p x = true
  | [], _ => .inl ⟨rfl, by simp⟩
  | y :: ys, i => by
    cases hp : p y with
    | true => exact .inr ⟨0, y, by simp [idxFrom, hp], rfl, by simp, hp⟩
    | false =>
      rcases place_lt (p := p) (xs := ys) (i := i + 1) with ⟨h1, h2⟩ | ⟨k, x, h1, h2, h3, h4⟩
      · exact .inl ⟨by simp [idxFrom, hp, h1], by simp [hp]; simpa using h2⟩
      · refine .inr ⟨k + 1, x, by simp only [idxFrom, hp, Bool.false_eq_true, if_false, h1]; rw [show i + 1 + k = i + (k + 1) by omega], by simpa using h2, ?_, h4⟩
        intro z hz
        simp only [List.take_succ_cons, List.mem_cons] at hz
        rcases hz with rfl | hz
        · exact hp
        · exact h3 z hz

set_option maxHeartbeats 1000000 in
theorem sWlkFind_c (xs : List Wlk) (a : Option Addr) (n c : Nat) (id : Int) (w : World) (hx : Re w (.sl sWlk) [.slice a n c] (.l (xs.map Wlk.dat))) (hn : n ≤ 1048576) :
    Calls Try.prog 37 #[.slice a n c, .int .i64 id] w fun e w' => e = .returned (.tuple #[.agg #[.int .i64 (wlkGet xs id).id, .int .i64 (wlkGet xs id).at_, .int .i64 (wlkGet xs id).coins, .int .i64 (wlkGet xs id).seq, .int .i64 (wlkGet xs id).last], .bool (wlkHas xs id)]) ∧ Ext w w' := by
  have HX := hid hx
  clear hx
  go_enter Try.func37, Try.ntmps37
  go_wp2
  go_loopw [6] (fun i wr => ∃ k : Nat, k ≤ n ∧ i = .int .i64 k ∧ (∀ y ∈ xs.take k, idIs id y = false) ∧ Ext (w.alloc (.cells #[.int .i64 0, .int .i64 0, .int .i64 0, .int .i64 0, .int .i64 0] 43)) wr) (fun i _ => n - (intOf i).toNat)
  case atStart => exact ⟨0, Nat.zero_le _, rfl, by simp, Ext.refl _⟩
  case round =>
    obtain ⟨k, hk, rfl, hal, t, rfl⟩ := hrel
    have HA := hid hal
    clear hal
    by_cases hlt : k < n
    · obtain ⟨x, b1, o1, hxk, rfl, hb1, f0, f1, f2, f3, f4⟩ := at_Wlk HX.out hlt
      have HK := hid hxk
      clear hxk
      have hb2 : b1 ≤ w.heap.size := Nat.le_of_lt hb1
      cases hp : idIs id x with
      | true =>
        have E1 := hid (show wlkGet xs id = x by rw [wlkGet, find_hit HK.out HA.out hp]; rfl)
        have E2 := hid (show wlkHas xs id = true by rw [wlkHas, find_hit HK.out HA.out hp]; rfl)
        have hp' : (x.id == id) = true := hp
        clear hp
        try go_wp2_with (first
            | fail
            | (
              with_reducible refine wp_region_mix (by kernel_rfl) (by decide +kernel) ?_
              repeat (first
                | (refine mix_pure rfl ?_; (first | go_big_quiet_skip | (go_big_quiet_want; go_big_quiet_op; go_big_quiet_on)); refine wpQuiet_nil ?_)
                | (refine mix_skip (by rfl) ?_; (try simp only [Act.put, List.setIfInBounds_toArray, List.set_cons_zero, List.set_cons_succ]))
                | (refine mix_mk rfl (by rfl) (fun K hK => ?_); (first | (go_simp; first | skip)); (show K _ _); refine hK _ _ (show Ext _ _ from zq0) ?_; clear hK K; (try simp only [Act.put, List.setIfInBounds_toArray, List.set_cons_zero, List.set_cons_succ])))
              refine mix_nil ?_)
            | (
              with_reducible refine wp_region_ext (by kernel_rfl) (by kernel_rfl) ?_
              repeat (first | go_big_quiet_skip | (go_big_quiet_want; go_big_quiet_op; first | go_big_quiet_on | (apply Exists.intro; refine ⟨fun _ => ?_, ?_⟩; (fail); (try rw [h1]); (try rw [h2]); (try rw [h3]); (try rw [h4]); (try rw [p1]); (try rw [p2]); (try rw [p3]); (try rw [p4]); (try rw [r1]); (try rw [r2]); (try rw [r3]); (try rw [r4]); (try rw [r5]); (try rw [r6]); (try rw [q3]); (try rw [q4]); (try rw [hp]); (try rw [hq]); go_big_quiet_on)))
              refine wpQuiet_nil ?_
              rintro _ ⟨tq, rfl⟩))
        rw [E1.out, E2.out]
        exact bodyPost_ret (v := .tuple #[.agg #[.int .i64 x.id, .int .i64 x.at_, .int .i64 x.coins, .int .i64 x.seq, .int .i64 x.last], .bool true]) (by simp [results, Try.results37, go_sem]) rfl ⟨rfl, zq0⟩
      | false =>
        have HB := hid (take_step HA.out HK.out hp)
        have hp' : (x.id == id) = false := hp
        clear hp
        try go_wp2_with (first
            | fail
            | (
              with_reducible refine wp_region_mix (by kernel_rfl) (by decide +kernel) ?_
              repeat (first
                | (refine mix_pure rfl ?_; (first | go_big_quiet_skip | (go_big_quiet_want; go_big_quiet_op; go_big_quiet_on)); refine wpQuiet_nil ?_)
                | (refine mix_skip (by rfl) ?_; (try simp only [Act.put, List.setIfInBounds_toArray, List.set_cons_zero, List.set_cons_succ]))
                | (refine mix_mk rfl (by rfl) (fun K hK => ?_); (first | (go_simp; first | skip)); (show K _ _); refine hK _ _ (show Ext _ _ from zq0) ?_; clear hK K; (try simp only [Act.put, List.setIfInBounds_toArray, List.set_cons_zero, List.set_cons_succ])))
              refine mix_nil ?_)
            | (
              with_reducible refine wp_region_ext (by kernel_rfl) (by kernel_rfl) ?_
              repeat (first | go_big_quiet_skip | (go_big_quiet_want; go_big_quiet_op; first | go_big_quiet_on | (apply Exists.intro; refine ⟨fun _ => ?_, ?_⟩; (fail); (try rw [h1]); (try rw [h2]); (try rw [h3]); (try rw [h4]); (try rw [p1]); (try rw [p2]); (try rw [p3]); (try rw [p4]); (try rw [r1]); (try rw [r2]); (try rw [r3]); (try rw [r4]); (try rw [r5]); (try rw [r6]); (try rw [q3]); (try rw [q4]); (try rw [hp]); (try rw [hq]); go_big_quiet_on)))
              refine wpQuiet_nil ?_
              rintro _ ⟨tq, rfl⟩))
        go_roundw
        case rel => exact ⟨k + 1, by omega, by go_num, HB.out, zq0⟩
        case measure => simp [intOf]; omega
    · have h2 := take_end HA.out (by rw [← HX.out.len]; omega)
      have E1 := hid (show wlkGet xs id = wlkZ by rw [wlkGet, find_miss h2]; rfl)
      have E2 := hid (show wlkHas xs id = false by rw [wlkHas, find_miss h2]; rfl)
      clear h2
      try go_wp2_with (first
          | fail
          | (
            with_reducible refine wp_region_mix (by kernel_rfl) (by decide +kernel) ?_
            repeat (first
              | (refine mix_pure rfl ?_; (first | go_big_quiet_skip | (go_big_quiet_want; go_big_quiet_op; go_big_quiet_on)); refine wpQuiet_nil ?_)
              | (refine mix_skip (by rfl) ?_; (try simp only [Act.put, List.setIfInBounds_toArray, List.set_cons_zero, List.set_cons_succ]))
              | (refine mix_mk rfl (by rfl) (fun K hK => ?_); (first | (go_simp; first | skip)); (show K _ _); refine hK _ _ (show Ext _ _ from zq0) ?_; clear hK K; (try simp only [Act.put, List.setIfInBounds_toArray, List.set_cons_zero, List.set_cons_succ])))
            refine mix_nil ?_)
          | (
            with_reducible refine wp_region_ext (by kernel_rfl) (by kernel_rfl) ?_
            repeat (first | go_big_quiet_skip | (go_big_quiet_want; go_big_quiet_op; first | go_big_quiet_on | (apply Exists.intro; refine ⟨fun _ => ?_, ?_⟩; (fail); (try rw [h1]); (try rw [h2]); (try rw [h3]); (try rw [h4]); (try rw [p1]); (try rw [p2]); (try rw [p3]); (try rw [p4]); (try rw [r1]); (try rw [r2]); (try rw [r3]); (try rw [r4]); (try rw [r5]); (try rw [r6]); (try rw [q3]); (try rw [q4]); (try rw [hp]); (try rw [hq]); go_big_quiet_on)))
            refine wpQuiet_nil ?_
            rintro _ ⟨tq, rfl⟩))
      rw [E1.out, E2.out]
      exact bodyPost_ret (v := .tuple #[.agg #[.int .i64 wlkZ.id, .int .i64 wlkZ.at_, .int .i64 wlkZ.coins, .int .i64 wlkZ.seq, .int .i64 wlkZ.last], .bool false]) (by simp [results, Try.results37, go_sem, wlkZ]) rfl ⟨rfl, zq0⟩
end Go.Proofs.Ytablgohncilmfaa

namespace Go.Proofs.Ytablgohncilmfaa
open Go.RowKit

def notId (id : Int) (x : Wlk) : Bool := !(x.id == id)
def wlkOut (xs : List Wlk) (id : Int) : List Wlk := xs.filter (notId id)
theorem wlkOut_len (xs : List Wlk) (id : Int) : (wlkOut xs id).length ≤ xs.length := List.length_filter_le _ _
end Go.Proofs.Ytablgohncilmfaa

namespace Go.Proofs.Ytablgohncilmfaa
open Go.RowKit
set_option linter.unusedSimpArgs false
set_option linter.unusedVariables false

/-- A list with an element put in at a place. -/
def insAt {α : Type} (xs : List α) (i : Nat) (y : α) : List α := xs.take i ++ y :: xs.drop i
theorem insAt_len {α : Type} (xs : List α) (i : Nat) (y : α) (h : i ≤ xs.length) : (insAt xs i y).length = xs.length + 1 := by
  simp [insAt]; omega
theorem insAt_end {α : Type} (xs : List α) (y : α) : insAt xs xs.length y = xs ++ [y] := by simp [insAt]
theorem flatMap_take {α : Type} {cells : α → List Value} {k : Nat} (hcl : ∀ x, (cells x).length = k) : ∀ (xs : List α) (i : Nat), i ≤ xs.length → (xs.take i).flatMap cells = (xs.flatMap cells).take (i * k)
  | xs, 0, _ => by simp
  | [], i + 1, h => by simp at h
  | x :: xs, i + 1, h => by
    simp only [List.take_succ_cons, List.flatMap_cons]
    rw [flatMap_take hcl xs i (by simpa using h), List.take_append, hcl, List.take_of_length_le (l := cells x) (by rw [hcl, Nat.add_mul]; omega), show (i + 1) * k - k = i * k by rw [Nat.add_mul]; omega]
theorem flatMap_drop {α : Type} {cells : α → List Value} {k : Nat} (hcl : ∀ x, (cells x).length = k) : ∀ (xs : List α) (i : Nat), i ≤ xs.length → (xs.drop i).flatMap cells = (xs.flatMap cells).drop (i * k)
  | xs, 0, _ => by simp
  | [], i + 1, h => by simp at h
  | x :: xs, i + 1, h => by
    simp only [List.drop_succ_cons, List.flatMap_cons]
    rw [flatMap_drop hcl xs i (by simpa using h), List.drop_append, hcl, List.drop_of_length_le (l := cells x) (by rw [hcl, Nat.add_mul]; omega), show (i + 1) * k - k = i * k by rw [Nat.add_mul]; omega]; rfl
theorem flatMap_len {α : Type} {cells : α → List Value} {k : Nat} (hcl : ∀ x, (cells x).length = k) (xs : List α) : (xs.flatMap cells).length = xs.length * k := by
  rw [List.length_flatMap, List.map_congr_left (g := fun _ => k) (fun x _ => hcl x), List.map_const', List.sum_replicate_nat]
theorem insAt_flat {α : Type} {cells : α → List Value} {k : Nat} (hcl : ∀ x, (cells x).length = k) (xs : List α) (i : Nat) (y : α) (h : i ≤ xs.length) :
    (insAt xs i y).flatMap cells = (xs.flatMap cells).take (i * k) ++ (cells y ++ (xs.flatMap cells).drop (i * k)) := by
  simp only [insAt, List.flatMap_append, List.flatMap_cons]
  rw [flatMap_take hcl xs i h, flatMap_drop hcl xs i h]

theorem setCells_row (w : World) (b : Nat) : ∀ (vs : List Value) (o : Nat) (w : World), w.setCells b o vs = setRow w b o vs
  | [], _, _ => rfl
  | v :: vs, o, w => by
    show (w.setCell ⟨b, o, none⟩ v).setCells b (o + 1) vs = setRow (w.setCell ⟨b, o, none⟩ v) b (o + 1) vs
    exact setCells_row w b vs (o + 1) _
/-- The builtin 'copy' at elements of k cells: all is read before anything is written. -/
theorem run_copy_k {P : Program} (w : World) (dT sT ty elem : TypeId) (b o dLen dCap : Nat) (a : Addr) (sLen sCap k m : Nat) (cs : List Value)
    (hu : P.underlying dT = some (.slice elem)) (hs : (P.info? elem).map (·.size) = some k) (hm : Nat.min sLen dLen = m) (hn : cs.length = m * k)
    (hsrc : ∀ j v, cs[j]? = some v → w.cell? (a.add j) = some v) (hc : ∀ j, j < cs.length → (w.cell? ⟨b, o + j, none⟩).isSome = true) (hf : ∀ j, j < cs.length → w.frozen? ⟨b, o + j, none⟩ = false) (h1 : ∀ v ∈ cs, v.oneCell' = true) :
    (Builtin.copy_ #[dT, sT] ty #[.slice (some ⟨b, o, none⟩) dLen dCap, .slice (some a) sLen sCap]).run P w = .ok (goInt m) (setRow w b o cs) := by
  have hl := run_loadCells_list (P := P) w a cs hsrc
  have hst := run_storeCells_cells (P := P) b o cs 0 w (by simpa using hc) (by simpa using hf) h1
  rw [setCells_row w] at hst
  cases hq : P.info? elem with
  | none => simp [hq] at hs
  | some i =>
    have hi : i.size = k := by simpa [hq] using hs
    rw [hn] at hl
    simp [Builtin.copy_, run_underlying hu, Builtin.lenOf, Builtin.firstCells, sizeOf, typeInfo, hq, hi, hm, hl, hst]
theorem wp_copy_run {P : Program} (w : World) {o : Oper} {a : Act} {K : Act → World → Prop} {Q : Exit → Act → World → Prop} (d s : Operand) (t t' : TypeId)
    (ho : o.op = .call { callee := .builtin .copy, args := #[d, s], argTypes := #[t, t'] }) {v u : Value} (hd : a.eval d = v) (hs : a.eval s = u) {v' : Value} {w' : World}
    (hr : (Builtin.copy_ #[t, t'] o.type #[v, u]).run P w = .ok v' w') (h : K (a.put o.dst v') w') : o.wp P a w K Q := by
  unfold Oper.wp execOp
  simp only [ho, resolve, invoke, builtin, Sem.run_bind, Sem.run_pure, Result.andThen_ok, List.map_toArray, List.map_cons, List.map_nil, hd, hs, hr]
  exact h
theorem wpList_appRZ {α : Type} {cells : α → List Value} {k bytes : Nat} {z : Value} {TS T : TypeId} (hT : Try.prog.underlying TS = some (.slice T)) (hI : (Try.prog.info? T).map (fun i => (i.zero, i.size, i.bytes)) = some (some z, k, bytes)) (hz : z.cells.size = k) (hpos : 0 < k) (hby : bytes ≤ 1024)
    (hcl : ∀ x, (cells x).length = k) (hone : ∀ x, ∀ u ∈ cells x, u.oneCell' = true)
    {ops : Array Oper} {rest : List Oper} {o : Oper} {a : Act} {Q : Exit → Act → World → Prop} {w : World} (hgd : o.guard = none) (base : Nat) (s x : Operand) (ho : o.op = .call { callee := .builtin .append, args := #[s, x], argTypes := #[TS, TS] })
    {v : Value} {xs : List α} (hs : a.eval s = v) (hb : base ≤ w.heap.size) (hown : w.ownsRow base T k v xs.length (xs.flatMap cells)) (y : α) {b c : Nat} {T' : TypeId} (hx : a.eval x = .slice (some ⟨b, 0, none⟩) 1 c) (hy : w.heap[b]? = some (.cells (cells y).toArray T' (0, 0))) (hn : xs.length ≤ 4194304)
    (h : ∀ v' w', w'.ownsRow base T k v' (xs ++ [y]).length ((xs ++ [y]).flatMap cells) → Chg v.ownBlock.toList w w' → wpList Try.prog ops Q rest (a.put o.dst v') w') : wpList Try.prog ops Q (o :: rest) a w :=
  wpList_plain hgd fun _ hK => wp_appRZ hT hI hz hpos hby hcl hone base s x ho hs hb hown y hx hy hn fun v' w' h1 h2 _ => hK _ _ (h v' w' h1 h2)

/-- What the two copies leave, cell by cell. -/
theorem ins_row {L cy : List Value} {arr : Array Value} {N p k : Nat} (hL : L.length = N) (hc : cy.length = k) (hp : p ≤ N) (hs : N + k ≤ arr.size) (hpre : ∀ j, j < N + k → arr[j]? = if j < p then L[j]? else if j < p + k then cy[j - p]? else L[j - k]?) :
    arr.toList.take (N + k) = L.take p ++ (cy ++ L.drop p) := by
  apply List.ext_getElem?
  intro j
  by_cases hj : j < N + k
  · rw [List.getElem?_take, if_pos hj, Array.getElem?_toList, hpre j hj]
    by_cases h1 : j < p
    · rw [if_pos h1, List.getElem?_append_left (by simp; omega), List.getElem?_take, if_pos h1]
    · rw [if_neg h1, List.getElem?_append_right (by simp; omega)]
      have e : (L.take p).length = p := by simp; omega
      rw [e]
      by_cases h2 : j < p + k
      · rw [if_pos h2, List.getElem?_append_left (by omega)]
      · rw [if_neg h2, List.getElem?_append_right (by omega), List.getElem?_drop]
        congr 1; omega
  · rw [List.getElem?_eq_none (by simp; omega), List.getElem?_eq_none (by simp; omega)]
/-- In place: the rest shifted, the element laid in. -/
theorem ins_shift {L cy : List Value} {cur : Array Value} {N p k : Nat} (hL : L.length = N) (hc : cy.length = k) (hp : p ≤ N) (hs : N + k ≤ cur.size) (ht : cur.toList.take N = L) (j : Nat) (hj : j < N + k) :
    (putRow (putRow cur (p + k) (L.drop p)) p cy)[j]? = if j < p then L[j]? else if j < p + k then cy[j - p]? else L[j - k]? := by
  have hd : (L.drop p).length = N - p := by simp [hL]
  rw [putRow_get _ _ _ _ (by rw [putRow_size, hc]; omega), hc]
  by_cases h2 : p ≤ j ∧ j < p + k
  · rw [if_pos h2, if_neg (by omega), if_pos h2.2]
  · rw [if_neg h2, putRow_get _ _ _ _ (by rw [hd]; omega), hd]
    by_cases h1 : j < p
    · rw [if_neg (by omega), if_pos h1, ← ht, List.getElem?_take, if_pos (by omega), Array.getElem?_toList]
    · rw [if_pos (by omega), if_neg h1, if_neg (by omega), List.getElem?_drop]
      congr 1; omega
/-- In a new row. -/
theorem ins_new {L cy : List Value} {cur : Array Value} {N p k : Nat} (hL : L.length = N) (hc : cy.length = k) (hp : p ≤ N) (hs : N + k ≤ cur.size) (ht : ∀ j, j < p → cur[j]? = L[j]?) (j : Nat) (hj : j < N + k) :
    (putRow (putRow cur p cy) (p + k) (L.drop p))[j]? = if j < p then L[j]? else if j < p + k then cy[j - p]? else L[j - k]? := by
  have hd : (L.drop p).length = N - p := by simp [hL]
  rw [putRow_get _ _ _ _ (by rw [putRow_size, hd]; omega), hd]
  by_cases h2 : p + k ≤ j
  · rw [if_pos (by omega), if_neg (by omega), if_neg (by omega), List.getElem?_drop]
    congr 1; omega
  · rw [if_neg (by omega), putRow_get _ _ _ _ (by rw [hc]; omega), hc]
    by_cases h1 : j < p
    · rw [if_neg (by omega), if_pos h1]; exact ht j h1
    · rw [if_pos (by omega), if_neg h1, if_pos (by omega)]

theorem Wlk_one (x : Wlk) : ∀ u ∈ Wlk.cells x, u.oneCell' = true := by
  intro u hu
  simp only [Wlk.cells, List.mem_cons, List.mem_nil_iff, or_false] at hu
  (repeat (first | (rcases hu with rfl | hu; rfl) | (subst hu; rfl)))
set_option maxRecDepth 100000 in
set_option maxHeartbeats 4000000 in
theorem insWlk_end (xs : List Wlk) (y : Wlk) (v : Value) (vb vc base : Nat) (w : World) (hown : w.ownsRow base 43 5 v xs.length (xs.flatMap Wlk.cells)) (hb : base ≤ w.heap.size) (hy : w.heap[vb]? = some (.cells (Wlk.cells y).toArray 43 (0, 0))) (hn : xs.length ≤ 1048576) :
    Calls Try.prog 129 #[v, .int .i64 xs.length, .slice (some ⟨vb, 0, none⟩) 1 vc] w fun e w' => ∃ v', e = .returned v' ∧ w'.ownsRow base 43 5 v' (insAt xs xs.length y).length ((insAt xs xs.length y).flatMap Wlk.cells) ∧ Chg v.ownBlock.toList w w' := by
  rw [insAt_end]
  have HO := hid hown
  have HY := hid hy
  rcases hown.2 with ⟨rfl, h0⟩ | ⟨g, cap, cur, rfl, hg, hB, hc, hcm, hcs, ht⟩
  · obtain rfl := List.eq_nil_of_length_eq_zero h0
    clear hown hy h0
    go_enter Try.func129, Try.ntmps129
    go_wp2_with (at_builtin; refine wpList_appRZ (xs := []) (k := 5) (bytes := 40) (z := .agg #[.int .i64 0, .int .i64 0, .int .i64 0, .int .i64 0, .int .i64 0]) Try.underlying34 (by kernel_rfl) rfl (by decide) (by decide) (fun _ => rfl) Wlk_one rfl base _ _ rfl rfl hb HO.out y rfl HY.out (by simp) ?_; intro v' w' hg hc; have HG := hid hg; have HC := hid hc; clear hg hc)
    go_ret
    exact ⟨_, rfl, HG.out, HC.out⟩
  · clear hown hy ht hcs hB
    simp only [maxLen] at hcm
    generalize hm : xs.length = n at *
    by_cases hcn : cap = n
    · subst hcn
      go_enter Try.func129, Try.ntmps129
      go_wp2_with (at_builtin; refine wpList_appRZ (xs := xs) (k := 5) (bytes := 40) (z := .agg #[.int .i64 0, .int .i64 0, .int .i64 0, .int .i64 0, .int .i64 0]) Try.underlying34 (by kernel_rfl) rfl (by decide) (by decide) (fun _ => rfl) Wlk_one rfl base _ _ rfl rfl hb (by rw [hm]; exact HO.out) y rfl HY.out (by omega) ?_; intro v' w' hg hc; have HG := hid hg; have HC := hid hc; clear hg hc)
      go_ret
      exact ⟨_, rfl, HG.out, HC.out⟩
    · go_enter Try.func129, Try.ntmps129
      go_wp2_with (at_builtin; refine wpList_appRZ (xs := xs) (k := 5) (bytes := 40) (z := .agg #[.int .i64 0, .int .i64 0, .int .i64 0, .int .i64 0, .int .i64 0]) Try.underlying34 (by kernel_rfl) rfl (by decide) (by decide) (fun _ => rfl) Wlk_one rfl base _ _ rfl rfl hb (by rw [hm]; exact HO.out) y rfl HY.out (by omega) ?_; intro v' w' hg hc; have HG := hid hg; have HC := hid hc; clear hg hc)
      go_ret
      exact ⟨_, rfl, HG.out, HC.out⟩
set_option maxRecDepth 100000 in
set_option maxHeartbeats 4000000 in
theorem insWlk_room (xs : List Wlk) (y : Wlk) (g cap i vb vc base : Nat) (cur : Array Value) (w : World) (hl : (xs.flatMap Wlk.cells).length = xs.length * 5) (hcap : xs.length < cap) (hcm : cap ≤ 9223372036854775807) (hg : base ≤ g) (hB : w.heap[g]? = some (.cells cur 43 (0, 0))) (hcs : cur.size = cap * 5) (ht : cur.toList.take (xs.length * 5) = xs.flatMap Wlk.cells)
    (hi : i < xs.length) (hy : w.heap[vb]? = some (.cells (Wlk.cells y).toArray 43 (0, 0))) (hvb : vb ≠ g) (hn : xs.length ≤ 1048576) :
    Calls Try.prog 129 #[.slice (some ⟨g, 0, none⟩) xs.length cap, .int .i64 i, .slice (some ⟨vb, 0, none⟩) 1 vc] w fun e w' => ∃ v', e = .returned v' ∧ w'.ownsRow base 43 5 v' (insAt xs i y).length ((insAt xs i y).flatMap Wlk.cells) ∧ Chg [g] w w' := by
  have hcl : ∀ x : Wlk, (Wlk.cells x).length = 5 := fun _ => rfl
  obtain ⟨D, hD⟩ : ∃ D, (xs.flatMap Wlk.cells).drop (i * 5) = D := ⟨_, rfl⟩
  have hDl : D.length = (xs.length - i) * 5 := by rw [← hD, List.length_drop, hl, Nat.sub_mul]
  have hone : ∀ v ∈ xs.flatMap Wlk.cells, v.oneCell' = true := fun v hv => by
    obtain ⟨x, _, hx⟩ := List.mem_flatMap.1 hv
    exact Wlk_one x v hx
  have hsz : ∀ (w : World), (Go.sizeOf 43).run Try.prog w = .ok 5 w := fun w => sizeOf_run (by kernel_rfl) w
  have hszi : (Try.prog.info? 43).map (·.size) = some 5 := by kernel_rfl
  have hov : ∀ lb cb, (callFunc 140 #[.slice (some ⟨vb, 0, none⟩) 1 vc, .slice (some ⟨g, (i + 1) * 5, none⟩) lb cb]).run Try.prog w = .ok (.value (.bool false)) w := fun lb cb => by
    rw [run_callFunc_extern Try.func140 (by kernel_rfl) (by kernel_rfl) (by kernel_rfl) (e := Extern.SlicesOverlaps.overlaps #[34, 34] #[4]) (by kernel_rfl),
      Lib.run_overlaps_apart w 34 4 43 Try.underlying34 5 hsz ⟨vb, 0, none⟩ ⟨g, (i + 1) * 5, none⟩ 1 vc lb cb hvb 43 43 5 cur.size (by simp [World.shape?, hy, Wlk.cells]) (by simp [World.shape?, hB]) (by omega) (frozen_blk hy 0) (frozen_blk hy 5)]
    rfl
  generalize hm : xs.length = n at *
  have HB := hid hB
  have HY := hid hy
  have HT := hid ht
  have HD := hid hD
  have HL := hid hl
  clear hB hy ht hD hl hone hszi
  go_enter Try.func129, Try.ntmps129
  go_wp2_with (simp only [hov])
  have hget : ∀ j u, D[j]? = some u → cur[i * 5 + j]? = some u := fun j u hu => by
    rw [← HD.out, List.getElem?_drop, ← HT.out, List.getElem?_take] at hu
    split at hu
    · simpa using hu
    · cases hu
  have hin : i * 5 + 5 ≤ n * 5 := by omega
  have hc1 := run_copy_k (P := Try.prog) w.drew 34 34 3 43 g ((i + 1) * 5) (n - i) (cap - (i + 1)) ⟨g, i * 5, none⟩ (n + 1 - i) (cap - i) 5 (n - i) D Try.underlying34 (by kernel_rfl)
    (by simp only [Nat.min_def]; split <;> omega) hDl (fun j u hu => by rw [ld_add]; exact (cell_blk (w := w.drew) HB.out _).trans (hget j u hu))
    (fun j hj => by obtain ⟨u, hu⟩ := some_blk (w := w.drew) HB.out ((i + 1) * 5 + j) (by omega); rw [hu]; rfl) (fun j hj => frozen_blk (w := w.drew) HB.out _)
    (fun v hv => by
      rw [← HD.out] at hv
      obtain ⟨x, _, hx⟩ := List.mem_flatMap.1 (List.mem_of_mem_drop hv)
      exact Wlk_one x v hx)
  have HC1 := hid hc1
  clear hc1 hget
  with_reducible refine wp_region_mixR (R := g) (by kernel_rfl) (by decide +kernel) ?_
  repeat (refine mix_pure rfl ?_; (first | go_big_quiet_skip | (go_big_quiet_want; go_big_quiet_op; go_big_quiet_on)); refine wpQuiet_nil ?_)
  refine mix_mk rfl (by rfl) (fun K hK => ?_)
  refine wp_copy_run _ _ _ _ _ rfl rfl rfl HC1.out ?_
  refine hK _ _ (extR_of ?_) ?_
  · exact Chg.setRow (by simp) _ (Chg.refl _ _)
  clear hK K
  refine mix_nil ?_
  obtain ⟨W1, hW1⟩ : ∃ W1, setRow w.drew g ((i + 1) * 5) D = W1 := ⟨_, rfl⟩
  have hb1 : W1.heap[g]? = some (.cells (putRow cur ((i + 1) * 5) D) 43 (0, 0)) := by rw [← hW1]; exact blk_setRow D HB.out
  have hch1 : Chg [g] w W1 := by rw [← hW1]; exact Chg.setRow (by simp) _ (Chg.drew (Chg.refl _ _))
  have hy1 : W1.heap[vb]? = some (.cells (Wlk.cells y).toArray 43 (0, 0)) := (hch1.block vb (lt_blk HY.out) (by simpa using hvb)).trans HY.out
  have hps : (putRow cur ((i + 1) * 5) D).size = cap * 5 := by rw [putRow_size, hcs]
  have hc2 := run_copy_k (P := Try.prog) W1 34 34 3 43 g (i * 5) (n + 1 - i) (cap - i) ⟨vb, 0, none⟩ 1 vc 5 1 (Wlk.cells y) Try.underlying34 (by kernel_rfl)
    (by simp only [Nat.min_def]; split <;> omega) (by rw [hcl, Nat.one_mul]) (fun j u hu => by rw [ld_add, Nat.zero_add, cell_blk hy1]; simpa using hu)
    (fun j hj => by rw [hcl] at hj; obtain ⟨u, hu⟩ := some_blk hb1 (i * 5 + j) (by omega); rw [hu]; rfl) (fun j hj => frozen_blk hb1 _) (Wlk_one y)
  rw [hW1]
  have HC2 := hid hc2
  have HB1 := hid hb1
  have HCH1 := hid hch1
  clear hW1 hb1 hch1 hy1 hc2 HC1
  go_wp2_with (simp only [HC2.out])
  go_ret
  have hb2 := blk_setRow (o := i * 5) (Wlk.cells y) HB1.out
  have hil : i ≤ xs.length := by omega
  refine ⟨.slice (some ⟨g, 0, none⟩) (n + 1) cap, rfl, ⟨by rw [flatMap_len hcl], .inr ⟨g, cap, _, by rw [insAt_len _ _ _ hil, hm], hg, hb2, by rw [insAt_len _ _ _ hil, hm]; omega, by simpa [maxLen] using hcm, by rw [putRow_size, hps], ?_⟩⟩, Chg.setRow (by simp) _ HCH1.out⟩
  rw [insAt_flat hcl _ _ _ hil, insAt_len _ _ _ hil, hm, Nat.add_mul, Nat.one_mul]
  have hNk : n * 5 + 5 ≤ cur.size := by rw [hcs]; have : (n + 1) * 5 ≤ cap * 5 := Nat.mul_le_mul_right _ hcap; omega
  refine ins_row HL.out rfl (by omega) (by rw [putRow_size, putRow_size]; exact hNk) fun j hj => ?_
  have := ins_shift (cy := Wlk.cells y) (p := i * 5) HL.out rfl (by omega) hNk HT.out j hj
  rw [← HD.out, show (i + 1) * 5 = i * 5 + 5 by omega]
  exact this
set_option maxRecDepth 100000 in
set_option maxHeartbeats 4000000 in
theorem insWlk_full (xs : List Wlk) (y : Wlk) (g cap i vb vc base : Nat) (cur : Array Value) (w : World) (hl : (xs.flatMap Wlk.cells).length = xs.length * 5) (hcap0 : xs.length ≤ cap) (hcap : cap < xs.length + 1) (hcm : cap ≤ 9223372036854775807) (hb0 : base ≤ w.heap.size) (hB : w.heap[g]? = some (.cells cur 43 (0, 0))) (hcs : cur.size = cap * 5) (ht : cur.toList.take (xs.length * 5) = xs.flatMap Wlk.cells)
    (hi : i < xs.length) (hy : w.heap[vb]? = some (.cells (Wlk.cells y).toArray 43 (0, 0))) (hn : xs.length ≤ 1048576) :
    Calls Try.prog 129 #[.slice (some ⟨g, 0, none⟩) xs.length cap, .int .i64 i, .slice (some ⟨vb, 0, none⟩) 1 vc] w fun e w' => ∃ v', e = .returned v' ∧ w'.ownsRow base 43 5 v' (insAt xs i y).length ((insAt xs i y).flatMap Wlk.cells) ∧ Chg [g] w w' := by
  have hcl : ∀ x : Wlk, (Wlk.cells x).length = 5 := fun _ => rfl
  obtain rfl : cap = xs.length := by omega
  clear hcap0 hcap
  generalize hm : xs.length = n at *
  obtain ⟨D, hD⟩ : ∃ D, (xs.flatMap Wlk.cells).drop (i * 5) = D := ⟨_, rfl⟩
  have hDl : D.length = (n - i) * 5 := by rw [← hD, List.length_drop, hl, Nat.sub_mul]
  have hone : ∀ v ∈ xs.flatMap Wlk.cells, v.oneCell' = true := fun v hv => by
    obtain ⟨x, _, hx⟩ := List.mem_flatMap.1 hv
    exact Wlk_one x v hx
  obtain ⟨i0, hi0, hz0, hs0, hbb0⟩ : ∃ i0, Try.prog.info? 43 = some i0 ∧ i0.zero = some (.agg #[.int .i64 0, .int .i64 0, .int .i64 0, .int .i64 0, .int .i64 0]) ∧ i0.size = 5 ∧ i0.bytes = 40 := ⟨_, rfl, rfl, rfl, rfl⟩
  have hA : (xs.flatMap Wlk.cells).take (i * 5) = (xs.take i).flatMap Wlk.cells := (flatMap_take hcl xs i (by omega)).symm
  have hold : (Builtin.firstCells i0.size i (.slice (some ⟨g, 0, none⟩) i n)).run Try.prog w.drew = .ok ((xs.flatMap Wlk.cells).take (i * 5)).toArray w.drew := by
    rw [hs0]
    refine run_firstCells_some w.drew 5 i ⟨g, 0, none⟩ i n _ (by rw [List.length_take, hl]; omega) (fun j v hj => ?_)
    rw [ld_add, Nat.zero_add]
    refine (cell_blk (w := w.drew) hB _).trans ?_
    rw [List.getElem?_take] at hj
    split at hj
    · rw [← ht, List.getElem?_take] at hj
      split at hj
      · simpa using hj
      · cases hj
    · cases hj
  have hrz : ∀ ty, (Builtin.append_ #[34, 3] ty #[.slice (some ⟨g, 0, none⟩) i n, .int .i64 ((n : Int) + 1 - (i : Int))]).run Try.prog w =
      .ok (.slice (some ⟨w.heap.size, 0, none⟩) (n + 1) (grownCap w (n + 1) n 43)) (w.drew.alloc (.cells (((xs.flatMap Wlk.cells).take (i * 5)).toArray ++ Builtin.zeroCells (Value.cells (.agg #[.int .i64 0, .int .i64 0, .int .i64 0, .int .i64 0, .int .i64 0])) (n + 1 - i) ++ Builtin.zeroCells (Value.cells (.agg #[.int .i64 0, .int .i64 0, .int .i64 0, .int .i64 0, .int .i64 0])) (grownCap w (n + 1) n 43 - (n + 1))) 43)) := fun ty => by
    have hik : i + (n + 1 - i) = n + 1 := by omega
    have hkk : (n : Int) + 1 - (i : Int) = ((n + 1 - i : Nat) : Int) := by omega
    have h := Lib.run_append_grow_zeros (P := Try.prog) w 34 3 ty 43 i0 _ .i64 .i64 Try.underlying34 Try.underlying3 hi0 hz0 (some ⟨g, 0, none⟩) i n _ hold (n + 1 - i) (by omega) (by omega) (by omega) (by omega) (by rw [hbb0]; omega) (by rw [hbb0, hik]; exact growslice_fits (by omega) (by omega))
    rw [hik] at h
    rw [hkk]
    exact h
  obtain ⟨G, hG⟩ : ∃ G, G = grownCap w (n + 1) n 43 := ⟨_, rfl⟩
  have hGn : n + 1 ≤ G := by rw [hG]; exact grownCap_ge w _ _ _
  have hG63 : G ≤ 9223372036854775807 := by
    have := grownCap_le_maxLen w (n + 1) n 43 (by unfold maxLen; omega)
    rw [← hG] at this
    unfold maxLen at this
    omega
  obtain ⟨ROW, hROW⟩ : ∃ ROW : Array Value, ROW = ((xs.flatMap Wlk.cells).take (i * 5)).toArray ++ Builtin.zeroCells (Value.cells (.agg #[.int .i64 0, .int .i64 0, .int .i64 0, .int .i64 0, .int .i64 0])) (n + 1 - i) ++ Builtin.zeroCells (Value.cells (.agg #[.int .i64 0, .int .i64 0, .int .i64 0, .int .i64 0, .int .i64 0])) (G - (n + 1)) := ⟨_, rfl⟩
  rw [← hG] at hrz
  rw [← hROW] at hrz
  have hzl : ∀ m, (Builtin.zeroCells (Value.cells (.agg #[.int .i64 0, .int .i64 0, .int .i64 0, .int .i64 0, .int .i64 0])) m).size = m * 5 := fun m => by
    simp [Builtin.zeroCells, Value.cells]
  have hRl : ROW.size = G * 5 := by
    rw [hROW, Array.size_append, Array.size_append, hzl, hzl, List.size_toArray, List.length_take, hl]
    omega
  have hRp : ∀ j, j < i * 5 → ROW[j]? = (xs.flatMap Wlk.cells)[j]? := fun j hj => by
    rw [hROW, Array.append_assoc, Array.getElem?_append, if_pos (by rw [List.size_toArray, List.length_take, hl]; omega), List.getElem?_toArray, List.getElem?_take, if_pos hj]
  obtain ⟨W1, hW1⟩ : ∃ W1, w.drew.alloc (.cells ROW 43) = W1 := ⟨_, rfl⟩
  obtain ⟨b, hbe⟩ : ∃ b, w.heap.size = b := ⟨_, rfl⟩
  have hb1 : W1.heap[b]? = some (.cells ROW 43 (0, 0)) := by rw [← hW1, ← hbe]; exact alloc_last rfl
  have hch1 : Chg [] w W1 := by rw [← hW1]; exact Chg.alloc (Chg.drew (Chg.refl _ _))
  have hvb := lt_blk hy
  have hgb := lt_blk hB
  have hbv : b ≠ vb := by omega
  have hbg : b ≠ g := by omega
  have hy1 : W1.heap[vb]? = some (.cells (Wlk.cells y).toArray 43 (0, 0)) := (hch1.block vb hvb (by simp)).trans hy
  have hg1 : W1.heap[g]? = some (.cells cur 43 (0, 0)) := (hch1.block g hgb (by simp)).trans hB
  rw [hW1, hbe] at hrz
  have hc2 := run_copy_k (P := Try.prog) W1 34 34 3 43 b (i * 5) (n + 1 - i) (G - i) ⟨vb, 0, none⟩ 1 vc 5 1 (Wlk.cells y) Try.underlying34 (by kernel_rfl)
    (by simp only [Nat.min_def]; split <;> omega) (by rw [hcl, Nat.one_mul]) (fun j u hu => by rw [ld_add, Nat.zero_add, cell_blk hy1]; simpa using hu)
    (fun j hj => by rw [hcl] at hj; obtain ⟨u, hu⟩ := some_blk hb1 (i * 5 + j) (by omega); rw [hu]; rfl) (fun j hj => frozen_blk hb1 _) (Wlk_one y)
  obtain ⟨W2, hW2⟩ : ∃ W2, setRow W1 b (i * 5) (Wlk.cells y) = W2 := ⟨_, rfl⟩
  rw [hW2] at hc2
  have hb2 : W2.heap[b]? = some (.cells (putRow ROW (i * 5) (Wlk.cells y)) 43 (0, 0)) := by rw [← hW2]; exact blk_setRow _ hb1
  have hch2 : Chg [b] W1 W2 := by rw [← hW2]; exact Chg.setRow (by simp) _ (Chg.refl _ _)
  have hg2 : W2.heap[g]? = some (.cells cur 43 (0, 0)) := (hch2.block g (lt_blk hg1) (by simpa using Ne.symm hbg)).trans hg1
  have hget : ∀ j u, D[j]? = some u → cur[i * 5 + j]? = some u := fun j u hu => by
    rw [← hD, List.getElem?_drop, ← ht, List.getElem?_take] at hu
    split at hu
    · simpa using hu
    · cases hu
  have hc3 := run_copy_k (P := Try.prog) W2.drew 34 34 3 43 b ((i + 1) * 5) (n - i) (G - (i + 1)) ⟨g, i * 5, none⟩ (n - i) (n - i) 5 (n - i) D Try.underlying34 (by kernel_rfl)
    (by simp only [Nat.min_def]; split <;> omega) hDl (fun j u hu => by rw [ld_add]; exact (cell_blk (w := W2.drew) hg2 _).trans (hget j u hu))
    (fun j hj => by obtain ⟨u, hu⟩ := some_blk (w := W2.drew) hb2 ((i + 1) * 5 + j) (by rw [putRow_size]; omega); rw [hu]; rfl) (fun j hj => frozen_blk (w := W2.drew) hb2 _)
    (fun v hv => hone v (List.mem_of_mem_drop (hD ▸ hv)))
  have HRZ := hid hrz
  have HC2 := hid hc2
  have HC3 := hid hc3
  have HB2 := hid hb2
  have HCH := hid (show Chg [] w W1 ∧ Chg [b] W1 W2 from ⟨hch1, hch2⟩)
  have HL := hid hl
  have HD := hid hD
  have HRL := hid hRl
  have HRP := hid hRp
  have HBE := hid hbe
  clear hrz hc2 hc3 hb2 hg2 hch2 hch1 hb1 hy1 hg1 hW2 hW1 hl hD hRl hRp hROW hzl hG hget hold hi0 hz0 hs0 hbb0 hA hone hB hy ht i0 hbe
  have hcn : ¬ (n = i) := by omega
  have hGi : ¬ (G = i) := by omega
  have hGi1 : ¬ (G = i + 1) := by omega
  go_enter Try.func129, Try.ntmps129
  go_wp2_with (first | (at_builtin; refine Lib.wpList_append_run _ rfl _ _ _ _ rfl _ _ rfl rfl _ _ (HRZ.out _) ?_) | (simp only [HC2.out]))
  with_reducible refine wp_region_mixR (R := b) (by kernel_rfl) (by decide +kernel) ?_
  repeat (refine mix_pure rfl ?_; (first | go_big_quiet_skip | (go_big_quiet_want; go_big_quiet_op; go_big_quiet_on)); refine wpQuiet_nil ?_)
  refine mix_mk rfl (by rfl) (fun K hK => ?_)
  refine wp_copy_run _ _ _ _ _ rfl rfl rfl HC3.out ?_
  refine hK _ _ (extR_of ?_) ?_
  · exact Chg.setRow (by simp) _ (Chg.refl _ _)
  clear hK K
  refine mix_nil ?_
  go_wp2
  go_ret
  have hb3 := blk_setRow (w := W2.drew) (o := (i + 1) * 5) D HB2.out
  have hil : i ≤ xs.length := by omega
  refine ⟨.slice (some ⟨b, 0, none⟩) (n + 1) G, rfl, ⟨by rw [flatMap_len hcl], .inr ⟨b, G, _, by rw [insAt_len _ _ _ hil, hm], by rw [← HBE.out]; exact hb0, hb3, by rw [insAt_len _ _ _ hil, hm]; omega, by simpa [maxLen] using hG63, by rw [putRow_size, putRow_size, HRL.out], ?_⟩⟩, ?_⟩
  · rw [insAt_flat hcl _ _ _ hil, insAt_len _ _ _ hil, hm, Nat.add_mul, Nat.one_mul]
    have hNk : n * 5 + 5 ≤ ROW.size := by rw [HRL.out]; have : (n + 1) * 5 ≤ G * 5 := Nat.mul_le_mul_right _ hGn; omega
    refine ins_row HL.out rfl (by omega) (by rw [putRow_size, putRow_size]; exact hNk) fun j hj => ?_
    have := ins_new (cy := Wlk.cells y) (p := i * 5) HL.out rfl (by omega) hNk HRP.out j hj
    rw [← HD.out, show (i + 1) * 5 = i * 5 + 5 by omega]
    exact this
  · have h1 : Chg [] w W2 := Chg.up HCH.out.1 HCH.out.2 (by simp [HBE.out])
    exact (Chg.up h1 (Chg.setRow (B := [b]) (by simp) D (Chg.drew (Chg.refl _ _))) (by simp [HBE.out])).mono (by simp)
/-- slices.Insert(s, i, y) of a row of one's own: a row of one's own with y at i. -/
theorem insWlk_c (xs : List Wlk) (y : Wlk) (v : Value) (i vb vc base : Nat) (w : World) (hown : w.ownsRow base 43 5 v xs.length (xs.flatMap Wlk.cells)) (hb : base ≤ w.heap.size) (hi : i ≤ xs.length) (hy : w.heap[vb]? = some (.cells (Wlk.cells y).toArray 43 (0, 0))) (hvb : ∀ g, v.ownBlock = some g → vb ≠ g) (hn : xs.length ≤ 1048576) :
    Calls Try.prog 129 #[v, .int .i64 i, .slice (some ⟨vb, 0, none⟩) 1 vc] w fun e w' => ∃ v', e = .returned v' ∧ w'.ownsRow base 43 5 v' (insAt xs i y).length ((insAt xs i y).flatMap Wlk.cells) ∧ Chg v.ownBlock.toList w w' := by
  rcases Nat.lt_or_ge i xs.length with hlt | hge
  · rcases hown.2 with ⟨_, h0⟩ | ⟨g, cap, cur, rfl, hg, hB, hc, hcm, hcs, ht⟩
    · omega
    · simp only [maxLen] at hcm
      rcases Nat.lt_or_ge xs.length cap with h1 | h1
      · exact insWlk_room xs y g cap i vb vc base cur w hown.1 h1 hcm hg hB hcs ht hlt hy (hvb g rfl) hn
      · exact insWlk_full xs y g cap i vb vc base cur w hown.1 hc (by omega) hcm hb hB hcs ht hlt hy hn
  · obtain rfl : i = xs.length := by omega
    exact insWlk_end xs y v vb vc base w hown hb hy hn
end Go.Proofs.Ytablgohncilmfaa

namespace Go.Proofs.Ytablgohncilmfaa
open Go.RowKit
set_option linter.unusedSimpArgs false
set_option linter.unusedVariables false

/-- The place of the first element that passes; the length for none. -/
def pos {α : Type} (p : α → Bool) : List α → Nat
  | [] => 0
  | x :: r => if p x then 0 else pos p r + 1
theorem pos_le {α : Type} (p : α → Bool) : ∀ xs : List α, pos p xs ≤ xs.length
  | [] => Nat.le_refl _
  | x :: r => by
    simp only [pos, List.length_cons]
    have := pos_le p r
    split <;> omega
theorem pos_hit {α : Type} {p : α → Bool} : ∀ {xs : List α} {k : Nat} {x : α}, xs[k]? = some x → (∀ y ∈ xs.take k, p y = false) → p x = true → pos p xs = k
  | [], _, _, h, _, _ => by simp at h
  | y :: ys, 0, x, h, _, hp => by
    obtain rfl : y = x := by simpa using h
    simp [pos, hp]
  | y :: ys, k + 1, x, h, ha, hp => by
    have h0 := ha y (by simp)
    simp only [pos, h0, Bool.false_eq_true, if_false]
    rw [pos_hit (k := k) (by simpa using h) (fun z hz => ha z (by simp [hz])) hp]
theorem pos_none {α : Type} {p : α → Bool} : ∀ {xs : List α}, (∀ y ∈ xs, p y = false) → pos p xs = xs.length
  | [], _ => rfl
  | y :: ys, h => by
    simp only [pos, h y (by simp), Bool.false_eq_true, if_false, List.length_cons]
    rw [pos_none fun z hz => h z (by simp [hz])]
def idGt (id : Int) (x : Wlk) : Bool := decide (id < x.id)
def putAt (xs : List Wlk) (y : Wlk) : Nat := pos (idGt y.id) (wlkOut xs y.id)
/-- A list with a walker. -/
def wlkPut (xs : List Wlk) (y : Wlk) : List Wlk := insAt (wlkOut xs y.id) (putAt xs y) y
theorem putAt_le (xs : List Wlk) (y : Wlk) : putAt xs y ≤ (wlkOut xs y.id).length := pos_le _ _
set_option maxHeartbeats 1000000 in
theorem iWlkOut_r (xs : List Wlk) (a : Option Addr) (n c : Nat) (id : Int) (w : World) (hx : Re w (.sl sWlk) [.slice a n c] (.l (xs.map Wlk.dat))) (hn : n ≤ 1048576) :
    Calls Try.prog 110 #[.slice a n c, .int .i64 id] w fun e w' => ∃ v, e = .returned v ∧ Ext w w' ∧ w'.ownsRow w.heap.size 43 5 v (wlkOut xs id).length ((wlkOut xs id).flatMap Wlk.cells) := by
  have HX := hid hx
  clear hx
  go_enter Try.func110, Try.ntmps110
  go_wp2
  go_loopw [5, 10] (fun v i wr => ∃ (k : Nat), k ≤ n ∧ i = .int .i64 k ∧ wr.ownsRow w.heap.size 43 5 v ((xs.take k).filter (notId id)).length (((xs.take k).filter (notId id)).flatMap Wlk.cells) ∧ Ext w wr) (fun _ i _ => n - (intOf i).toNat)
  case atStart => exact ⟨0, Nat.zero_le _, rfl, by simpa using World.ownsRow_nil _ _ _ _, zq0⟩
  case round =>
    obtain ⟨k, hk, rfl, hg, t, rfl⟩ := hrel
    have HG := hid hg
    clear hg
    by_cases hlt : k < n
    · obtain ⟨x, b1, o1, hxk, rfl, hb1, f0, f1, f2, f3, f4⟩ := at_Wlk HX.out hlt
      have HK := hid hxk
      clear hxk
      have hb2 : b1 ≤ w.heap.size := Nat.le_of_lt hb1
      have hfl := filt_len (notId id) xs k
      cases hp : (x.id == id) with
      | true =>
        have HF := hid (filt_no (p := notId id) HK.out (by simp [notId, hp]))
        try go_wp2_with (first
            | fail
            | (
              with_reducible refine wp_region_mix (by kernel_rfl) (by decide +kernel) ?_
              repeat (first
                | (refine mix_pure rfl ?_; (first | go_big_quiet_skip | (go_big_quiet_want; go_big_quiet_op; go_big_quiet_on)); refine wpQuiet_nil ?_)
                | (refine mix_skip (by rfl) ?_; (try simp only [Act.put, List.setIfInBounds_toArray, List.set_cons_zero, List.set_cons_succ]))
                | (refine mix_mk rfl (by rfl) (fun K hK => ?_); (first | (go_simp; first | skip)); (show K _ _); refine hK _ _ (show Ext _ _ from zq0) ?_; clear hK K; (try simp only [Act.put, List.setIfInBounds_toArray, List.set_cons_zero, List.set_cons_succ])))
              refine mix_nil ?_)
            | (
              with_reducible refine wp_region_ext (by kernel_rfl) (by kernel_rfl) ?_
              repeat (first | go_big_quiet_skip | (go_big_quiet_want; go_big_quiet_op; first | go_big_quiet_on | (apply Exists.intro; refine ⟨fun _ => ?_, ?_⟩; (fail); (try rw [h1]); (try rw [h2]); (try rw [h3]); (try rw [h4]); (try rw [p1]); (try rw [p2]); (try rw [p3]); (try rw [p4]); (try rw [r1]); (try rw [r2]); (try rw [r3]); (try rw [r4]); (try rw [r5]); (try rw [r6]); (try rw [q3]); (try rw [q4]); (try rw [hp]); (try rw [hq]); go_big_quiet_on)))
              refine wpQuiet_nil ?_
              rintro _ ⟨tq, rfl⟩))
        go_roundw
        case rel => exact ⟨k + 1, by omega, by go_num, by rw [HF.out]; exact (by repeat (first | with_reducible apply ownsRow_alloc | exact HG.out | with_reducible apply ownsRow_drew | with_reducible apply ownsRow_ext)), zq0⟩
        case measure => simp [intOf]; omega
      | false =>
        have HF := hid (filt_yes (p := notId id) HK.out (by simp [notId, hp]))
        go_wp2_with (first | ((refine wpList_app_Wlk (w0 := w) (xs := (xs.take k).filter (notId id)) rfl _ _ rfl rfl zq0 (by repeat (first | with_reducible apply ownsRow_alloc | exact HG.out | with_reducible apply ownsRow_drew | with_reducible apply ownsRow_ext)) (x) rfl (alloc_last (by simp [go_sem])) (by omega) ?_); intro v' t' hg; have HG' := hid hg; clear hg))
        go_roundw
        case rel => exact ⟨k + 1, by omega, by go_num, by rw [HF.out]; exact HG'.out, zq0⟩
        case measure => simp [intOf]; omega
    · have HE := hid (show xs.take k = xs from List.take_of_length_le (by rw [← HX.out.len]; omega))
      go_wp2
      go_ret
      rw [HE.out] at HG
      exact ⟨_, rfl, zq0, HG.out⟩
set_option maxHeartbeats 1000000 in
theorem sWlkOut_r (xs : List Wlk) (a : Option Addr) (n c : Nat) (id : Int) (w : World) (hx : Re w (.sl sWlk) [.slice a n c] (.l (xs.map Wlk.dat))) (hn : n ≤ 1048576) :
    Calls Try.prog 126 #[.slice a n c, .int .i64 id] w fun e w' => ∃ v, e = .returned v ∧ Ext w w' ∧ w'.ownsRow w.heap.size 43 5 v (wlkOut xs id).length ((wlkOut xs id).flatMap Wlk.cells) := by
  have HX := hid hx
  clear hx
  go_enter Try.func126, Try.ntmps126
  go_wp2
  go_loopw [5, 6] (fun v i wr => ∃ (k : Nat), k ≤ n ∧ i = .int .i64 k ∧ wr.ownsRow w.heap.size 43 5 v ((xs.take k).filter (notId id)).length (((xs.take k).filter (notId id)).flatMap Wlk.cells) ∧ Ext w wr) (fun _ i _ => n - (intOf i).toNat)
  case atStart => exact ⟨0, Nat.zero_le _, rfl, by simpa using World.ownsRow_made _ #[] 0 (Nat.le_refl _) (Nat.zero_le _) rfl, zq0⟩
  case round =>
    obtain ⟨k, hk, rfl, hg, t, rfl⟩ := hrel
    have HG := hid hg
    clear hg
    by_cases hlt : k < n
    · obtain ⟨x, b1, o1, hxk, rfl, hb1, f0, f1, f2, f3, f4⟩ := at_Wlk HX.out hlt
      have HK := hid hxk
      clear hxk
      have hb2 : b1 ≤ w.heap.size := Nat.le_of_lt hb1
      have hfl := filt_len (notId id) xs k
      cases hp : (x.id == id) with
      | true =>
        have HF := hid (filt_no (p := notId id) HK.out (by simp [notId, hp]))
        try go_wp2_with (first
            | fail
            | (
              with_reducible refine wp_region_mix (by kernel_rfl) (by decide +kernel) ?_
              repeat (first
                | (refine mix_pure rfl ?_; (first | go_big_quiet_skip | (go_big_quiet_want; go_big_quiet_op; go_big_quiet_on)); refine wpQuiet_nil ?_)
                | (refine mix_skip (by rfl) ?_; (try simp only [Act.put, List.setIfInBounds_toArray, List.set_cons_zero, List.set_cons_succ]))
                | (refine mix_mk rfl (by rfl) (fun K hK => ?_); (first | (go_simp; first | skip)); (show K _ _); refine hK _ _ (show Ext _ _ from zq0) ?_; clear hK K; (try simp only [Act.put, List.setIfInBounds_toArray, List.set_cons_zero, List.set_cons_succ])))
              refine mix_nil ?_)
            | (
              with_reducible refine wp_region_ext (by kernel_rfl) (by kernel_rfl) ?_
              repeat (first | go_big_quiet_skip | (go_big_quiet_want; go_big_quiet_op; first | go_big_quiet_on | (apply Exists.intro; refine ⟨fun _ => ?_, ?_⟩; (fail); (try rw [h1]); (try rw [h2]); (try rw [h3]); (try rw [h4]); (try rw [p1]); (try rw [p2]); (try rw [p3]); (try rw [p4]); (try rw [r1]); (try rw [r2]); (try rw [r3]); (try rw [r4]); (try rw [r5]); (try rw [r6]); (try rw [q3]); (try rw [q4]); (try rw [hp]); (try rw [hq]); go_big_quiet_on)))
              refine wpQuiet_nil ?_
              rintro _ ⟨tq, rfl⟩))
        go_roundw
        case rel => exact ⟨k + 1, by omega, by go_num, by rw [HF.out]; exact (by repeat (first | with_reducible apply ownsRow_alloc | exact HG.out | with_reducible apply ownsRow_drew | with_reducible apply ownsRow_ext)), zq0⟩
        case measure => simp [intOf]; omega
      | false =>
        have HF := hid (filt_yes (p := notId id) HK.out (by simp [notId, hp]))
        go_wp2_with (first | ((refine wpList_app_Wlk (w0 := w) (xs := (xs.take k).filter (notId id)) rfl _ _ rfl rfl zq0 (by repeat (first | with_reducible apply ownsRow_alloc | exact HG.out | with_reducible apply ownsRow_drew | with_reducible apply ownsRow_ext)) (x) rfl (alloc_last (by simp [go_sem])) (by omega) ?_); intro v' t' hg; have HG' := hid hg; clear hg))
        go_roundw
        case rel => exact ⟨k + 1, by omega, by go_num, by rw [HF.out]; exact HG'.out, zq0⟩
        case measure => simp [intOf]; omega
    · have HE := hid (show xs.take k = xs from List.take_of_length_le (by rw [← HX.out.len]; omega))
      go_wp2
      go_ret
      rw [HE.out] at HG
      exact ⟨_, rfl, zq0, HG.out⟩

theorem put1_c (x : Wlk) (b : Nat) (id : Int) (w : World) (hb : b < w.heap.size) (hc : w.cell? ⟨b, 0, none⟩ = some (.int .i64 id)) :
    Calls Try.prog 128 #[.agg #[.int .i64 x.id, .int .i64 x.at_, .int .i64 x.coins, .int .i64 x.seq, .int .i64 x.last], .pointer (some ⟨b, 0, none⟩)] w fun e w' => e = .returned (.bool (idGt id x)) ∧ Ext w w' := by
  go_enter Try.func128, Try.ntmps128
  try go_wp2_with (first
      | fail
      | (
        with_reducible refine wp_region_mix (by kernel_rfl) (by decide +kernel) ?_
        repeat (first
          | (refine mix_pure rfl ?_; (first | go_big_quiet_skip | (go_big_quiet_want; go_big_quiet_op; go_big_quiet_on)); refine wpQuiet_nil ?_)
          | (refine mix_skip (by rfl) ?_; (try simp only [Act.put, List.setIfInBounds_toArray, List.set_cons_zero, List.set_cons_succ]))
          | (refine mix_mk rfl (by rfl) (fun K hK => ?_); (first | (go_simp; first | skip)); (show K _ _); refine hK _ _ (show Ext _ _ from zq0) ?_; clear hK K; (try simp only [Act.put, List.setIfInBounds_toArray, List.set_cons_zero, List.set_cons_succ])))
        refine mix_nil ?_)
      | (
        with_reducible refine wp_region_ext (by kernel_rfl) (by kernel_rfl) ?_
        repeat (first | go_big_quiet_skip | (go_big_quiet_want; go_big_quiet_op; first | go_big_quiet_on | (apply Exists.intro; refine ⟨fun _ => ?_, ?_⟩; (fail); (try rw [h1]); (try rw [h2]); (try rw [h3]); (try rw [h4]); (try rw [p1]); (try rw [p2]); (try rw [p3]); (try rw [p4]); (try rw [r1]); (try rw [r2]); (try rw [r3]); (try rw [r4]); (try rw [r5]); (try rw [r6]); (try rw [q3]); (try rw [q4]); (try rw [hp]); (try rw [hq]); go_big_quiet_on)))
        refine wpQuiet_nil ?_
        rintro _ ⟨tq, rfl⟩))
  go_ret
  exact ⟨rfl, zq0⟩

set_option maxHeartbeats 1000000 in
theorem idxP_c (xs : List Wlk) (a : Option Addr) (n c b : Nat) (id q : Int) (w : World) (hx : Re w (.sl sWlk) [.slice a n c] (.l (xs.map Wlk.dat))) (hn : n ≤ 1048576) (hb : b < w.heap.size) (hc : w.cell? ⟨b, 0, none⟩ = some (.int .i64 id)) (hq : (if pos (idGt id) xs < xs.length then ((pos (idGt id) xs : Nat) : Int) else -1) = q) :
    Calls Try.prog 119 #[.slice a n c, .func (.func 128) #[] #[.pointer (some ⟨b, 0, none⟩)]] w fun e w' => e = .returned (.int .i64 q) ∧ Ext w w' := by
  have HX := hid hx
  have HQ := hid hq
  clear hx hq
  go_enter Try.func119, Try.ntmps119
  go_wp2
  go_loopw [8] (fun i wr => ∃ k : Nat, k ≤ n ∧ i = .int .i64 k ∧ (∀ y ∈ xs.take k, idGt id y = false) ∧ Ext w wr) (fun i _ => n - (intOf i).toNat)
  case atStart => exact ⟨0, Nat.zero_le _, rfl, by simp, Ext.refl _⟩
  case round =>
    obtain ⟨k, hk, rfl, hal, t, rfl⟩ := hrel
    have HA := hid hal
    clear hal
    by_cases hlt : k < n
    · obtain ⟨x, b1, o1, hxk, rfl, hb1, f0, f1, f2, f3, f4⟩ := at_Wlk HX.out hlt
      have HK := hid hxk
      clear hxk
      cases hp : idGt id x with
      | true =>
        have E := hid (show q = (k : Int) by rw [← HQ.out, pos_hit HK.out HA.out hp, if_pos (by have := HX.out.len; omega)])
        try go_wp2_with (first
            | (go_at_call 128; (with_reducible refine (put1_c x b id _ (by simp [ext_size]; omega) (by rw [ext_cell' _ _ _ _ hb]; exact hc)).mono ?_); rintro e w' ⟨rfl, t, rfl⟩)
            | (
              with_reducible refine wp_region_mix (by kernel_rfl) (by decide +kernel) ?_
              repeat (first
                | (refine mix_pure rfl ?_; (first | go_big_quiet_skip | (go_big_quiet_want; go_big_quiet_op; go_big_quiet_on)); refine wpQuiet_nil ?_)
                | (refine mix_skip (by rfl) ?_; (try simp only [Act.put, List.setIfInBounds_toArray, List.set_cons_zero, List.set_cons_succ]))
                | (refine mix_mk rfl (by rfl) (fun K hK => ?_); (first | (go_simp; first | (go_at_call 128; (with_reducible refine (put1_c x b id _ (by simp [ext_size]; omega) (by rw [ext_cell' _ _ _ _ hb]; exact hc)).mono ?_); rintro e w' ⟨rfl, t, rfl⟩) | skip)); (show K _ _); refine hK _ _ (show Ext _ _ from zq0) ?_; clear hK K; (try simp only [Act.put, List.setIfInBounds_toArray, List.set_cons_zero, List.set_cons_succ])))
              refine mix_nil ?_)
            | (
              with_reducible refine wp_region_ext (by kernel_rfl) (by kernel_rfl) ?_
              repeat (first | go_big_quiet_skip | (go_big_quiet_want; go_big_quiet_op; first | go_big_quiet_on | (apply Exists.intro; refine ⟨fun _ => ?_, ?_⟩; (fail); (try rw [h1]); (try rw [h2]); (try rw [h3]); (try rw [h4]); (try rw [p1]); (try rw [p2]); (try rw [p3]); (try rw [p4]); (try rw [r1]); (try rw [r2]); (try rw [r3]); (try rw [r4]); (try rw [r5]); (try rw [r6]); (try rw [q3]); (try rw [q4]); (try rw [hp]); (try rw [hq]); go_big_quiet_on)))
              refine wpQuiet_nil ?_
              rintro _ ⟨tq, rfl⟩))
        go_ret
        exact ⟨ret_int E.out.symm, zq0⟩
      | false =>
        try go_wp2_with (first
            | (go_at_call 128; (with_reducible refine (put1_c x b id _ (by simp [ext_size]; omega) (by rw [ext_cell' _ _ _ _ hb]; exact hc)).mono ?_); rintro e w' ⟨rfl, t, rfl⟩)
            | (
              with_reducible refine wp_region_mix (by kernel_rfl) (by decide +kernel) ?_
              repeat (first
                | (refine mix_pure rfl ?_; (first | go_big_quiet_skip | (go_big_quiet_want; go_big_quiet_op; go_big_quiet_on)); refine wpQuiet_nil ?_)
                | (refine mix_skip (by rfl) ?_; (try simp only [Act.put, List.setIfInBounds_toArray, List.set_cons_zero, List.set_cons_succ]))
                | (refine mix_mk rfl (by rfl) (fun K hK => ?_); (first | (go_simp; first | (go_at_call 128; (with_reducible refine (put1_c x b id _ (by simp [ext_size]; omega) (by rw [ext_cell' _ _ _ _ hb]; exact hc)).mono ?_); rintro e w' ⟨rfl, t, rfl⟩) | skip)); (show K _ _); refine hK _ _ (show Ext _ _ from zq0) ?_; clear hK K; (try simp only [Act.put, List.setIfInBounds_toArray, List.set_cons_zero, List.set_cons_succ])))
              refine mix_nil ?_)
            | (
              with_reducible refine wp_region_ext (by kernel_rfl) (by kernel_rfl) ?_
              repeat (first | go_big_quiet_skip | (go_big_quiet_want; go_big_quiet_op; first | go_big_quiet_on | (apply Exists.intro; refine ⟨fun _ => ?_, ?_⟩; (fail); (try rw [h1]); (try rw [h2]); (try rw [h3]); (try rw [h4]); (try rw [p1]); (try rw [p2]); (try rw [p3]); (try rw [p4]); (try rw [r1]); (try rw [r2]); (try rw [r3]); (try rw [r4]); (try rw [r5]); (try rw [r6]); (try rw [q3]); (try rw [q4]); (try rw [hp]); (try rw [hq]); go_big_quiet_on)))
              refine wpQuiet_nil ?_
              rintro _ ⟨tq, rfl⟩))
        go_roundw
        case rel => exact ⟨k + 1, by omega, by go_num, take_step HA.out HK.out hp, zq0⟩
        case measure => simp [intOf]; omega
    · have HE := hid (show q = -1 by rw [← HQ.out, pos_none (take_end HA.out (by have := HX.out.len; omega)), if_neg (by omega)])
      go_wp2
      go_ret
      exact ⟨ret_int HE.out.symm, zq0⟩
theorem row_reW {w : World} {base : Nat} {a : Option Addr} {n c : Nat} {xs : List Wlk} (hm : xs.length ≤ 9223372036854775807) (h : w.ownsRow base 43 5 (.slice a n c) xs.length (xs.flatMap Wlk.cells)) : n = xs.length ∧ Re w (.sl sWlk) [.slice a n c] (.l (xs.map Wlk.dat)) := by
  obtain ⟨a9, c9, e9, h9⟩ := own_row (dat := Wlk.dat) (sch := sWlk) (k := 5) rfl (fun w x => own_Wlk_mk w x) (fun _ => rfl) hm h
  obtain ⟨rfl, rfl, rfl⟩ := Value.slice.inj e9
  exact ⟨rfl, h9.re⟩
set_option maxRecDepth 100000 in
set_option maxHeartbeats 4000000 in
theorem iWlkPut_c (xs : List Wlk) (y : Wlk) (a : Option Addr) (n c : Nat) (w : World) (hx : Re w (.sl sWlk) [.slice a n c] (.l (xs.map Wlk.dat))) (hn : n ≤ 1048576) :
    Calls Try.prog 102 #[.slice a n c, .agg #[.int .i64 y.id, .int .i64 y.at_, .int .i64 y.coins, .int .i64 y.seq, .int .i64 y.last]] w (MadeX w 43 5 Wlk.cells (wlkPut xs y)) := by
  have HX := hid hx
  have HL := hid hx.len
  clear hx
  have hol : (wlkOut xs y.id).length ≤ 1048576 := by have := wlkOut_len xs y.id; have := HL.out; omega
  obtain ⟨p, hp⟩ : ∃ p, putAt xs y = p := ⟨_, rfl⟩
  have HP := hid hp
  have hple : p ≤ (wlkOut xs y.id).length := hp ▸ putAt_le xs y
  clear hp
  by_cases hlt : p < (wlkOut xs y.id).length
  · have HQ := hid (show (if pos (idGt y.id) (wlkOut xs y.id) < (wlkOut xs y.id).length then ((pos (idGt y.id) (wlkOut xs y.id) : Nat) : Int) else -1) = (p : Int) by rw [show pos (idGt y.id) (wlkOut xs y.id) = p from HP.out, if_pos hlt])
    go_enter Try.func102, Try.ntmps102
    go_wp2_with (first
      | (go_at_call 110; ((with_reducible refine (iWlkOut_r xs _ _ _ _ _ (HX.out.of zq0) (by omega)).mono ?_); rintro e w' ⟨v, rfl, ⟨t, rfl⟩, hrow⟩; obtain ⟨sa, sn, sc, rfl⟩ := row_slice hrow; obtain ⟨hsn, hre⟩ := row_reW (by omega) hrow; have HG := hid (ownsRow_le (base' := w.heap.size) hrow (by simp)); have HRo := hid hre; have hsm : sn ≤ 1048576 := (by omega); have HSN := hid hsn; clear hrow hre hsn))
      | (go_at_call 119; (with_reducible refine (idxP_c (wlkOut xs y.id) _ _ _ _ y.id (p : Int) _ (HRo.out.of zq0) hsm zq1 (by simp [go_sem]) HQ.out).mono ?_); rintro e w' ⟨rfl, t2, rfl⟩)
      | (go_at_call 129; ((refine (insWlk_c (wlkOut xs y.id) y _ p _ _ w.heap.size _ (ownsRow_of HG.out zq0) zq1 hple (by exact alloc_last zq1) (fun g hg => Nat.ne_of_gt (Nat.lt_of_lt_of_le (HG.out.lt g hg).2 zq1)) (by omega)).mono ?_); rintro e w' ⟨v2, rfl, hrow2, hch⟩; obtain ⟨t3, rfl⟩ : Ext w w' := Ext.of_below (Below.chg (w0 := w) (Ext.below zq0) hch (fun g hg => (HG.out.lt g (by simpa using hg)).1)); obtain ⟨ra, rn, rc, rfl⟩ := row_slice hrow2; obtain ⟨hrn, hre2⟩ := row_reW (by rw [insAt_len _ _ _ hple]; omega) hrow2; have HR2 := hid hre2; have hrm : rn ≤ 2097152 := (by rw [hrn, insAt_len _ _ _ hple]; omega); have HRN := hid hrn; clear hrow2 hch hre2 hrn))
      | (go_at_call 100; ((with_reducible refine (iCloneWlk_x (insAt (wlkOut xs y.id) p y) _ _ _ _ (HR2.out.of zq0) hrm).mono ?_); rintro e w' ⟨a4, c4, B4, rfl, ⟨t4, rfl⟩, hx4, hb4⟩; have HX4 := hid hx4; have HB4 := hid hb4; clear hx4 hb4)))
    go_ret
    rw [show wlkPut xs y = insAt (wlkOut xs y.id) p y by have h9 := HSN.out; first | (rw [wlkPut, HP.out]; done) | (rw [wlkPut, HP.out]; congr 1; omega)]
    exact ⟨a4, c4, B4, rfl, zq0, HX4.out.of zq0, fun b hb => Nat.le_trans zq1 (HB4.out b hb)⟩
  · have hpe : p = (wlkOut xs y.id).length := by omega
    have HQ := hid (show (if pos (idGt y.id) (wlkOut xs y.id) < (wlkOut xs y.id).length then ((pos (idGt y.id) (wlkOut xs y.id) : Nat) : Int) else -1) = -1 by rw [show pos (idGt y.id) (wlkOut xs y.id) = p from HP.out, if_neg hlt])
    go_enter Try.func102, Try.ntmps102
    go_wp2_with (first
      | (go_at_call 110; ((with_reducible refine (iWlkOut_r xs _ _ _ _ _ (HX.out.of zq0) (by omega)).mono ?_); rintro e w' ⟨v, rfl, ⟨t, rfl⟩, hrow⟩; obtain ⟨sa, sn, sc, rfl⟩ := row_slice hrow; obtain ⟨hsn, hre⟩ := row_reW (by omega) hrow; have HG := hid (ownsRow_le (base' := w.heap.size) hrow (by simp)); have HRo := hid hre; have hsm : sn ≤ 1048576 := (by omega); have HSN := hid hsn; clear hrow hre hsn))
      | (go_at_call 119; (with_reducible refine (idxP_c (wlkOut xs y.id) _ _ _ _ y.id (-1) _ (HRo.out.of zq0) hsm zq1 (by simp [go_sem]) HQ.out).mono ?_); rintro e w' ⟨rfl, t2, rfl⟩)
      | (go_at_call 129; ((refine (insWlk_c (wlkOut xs y.id) y _ sn _ _ w.heap.size _ (ownsRow_of HG.out zq0) zq1 (show sn ≤ (wlkOut xs y.id).length from Nat.le_of_eq HSN.out) (by exact alloc_last zq1) (fun g hg => Nat.ne_of_gt (Nat.lt_of_lt_of_le (HG.out.lt g hg).2 zq1)) (by omega)).mono ?_); rintro e w' ⟨v2, rfl, hrow2, hch⟩; obtain ⟨t3, rfl⟩ : Ext w w' := Ext.of_below (Below.chg (w0 := w) (Ext.below zq0) hch (fun g hg => (HG.out.lt g (by simpa using hg)).1)); obtain ⟨ra, rn, rc, rfl⟩ := row_slice hrow2; obtain ⟨hrn, hre2⟩ := row_reW (by rw [insAt_len _ _ _ (show sn ≤ (wlkOut xs y.id).length from Nat.le_of_eq HSN.out)]; omega) hrow2; have HR2 := hid hre2; have hrm : rn ≤ 2097152 := (by rw [hrn, insAt_len _ _ _ (show sn ≤ (wlkOut xs y.id).length from Nat.le_of_eq HSN.out)]; omega); have HRN := hid hrn; clear hrow2 hch hre2 hrn))
      | (go_at_call 100; ((with_reducible refine (iCloneWlk_x (insAt (wlkOut xs y.id) sn y) _ _ _ _ (HR2.out.of zq0) hrm).mono ?_); rintro e w' ⟨a4, c4, B4, rfl, ⟨t4, rfl⟩, hx4, hb4⟩; have HX4 := hid hx4; have HB4 := hid hb4; clear hx4 hb4)))
    go_ret
    rw [show wlkPut xs y = insAt (wlkOut xs y.id) sn y by have h9 := HSN.out; first | (rw [wlkPut, HP.out]; done) | (rw [wlkPut, HP.out]; congr 1; omega)]
    exact ⟨a4, c4, B4, rfl, zq0, HX4.out.of zq0, fun b hb => Nat.le_trans zq1 (HB4.out b hb)⟩
/-- What the reference has built behind k elements. -/
def outK (r : List Wlk) (p : Nat) (y : Wlk) (k : Nat) : List Wlk := if p < k then insAt (r.take k) p y else r.take k
theorem outK_len (r : List Wlk) (p : Nat) (y : Wlk) (k : Nat) : (outK r p y k).length ≤ r.length + 1 := by
  unfold outK
  split
  · simp only [insAt, List.length_append, List.length_cons, List.length_take, List.length_drop]; omega
  · rw [List.length_take]; omega
theorem outK_done {r : List Wlk} {p : Nat} {y x : Wlk} {k : Nat} (h : p < k) (hx : r[k]? = some x) : outK r p y (k + 1) = outK r p y k ++ [x] := by
  have hk := (List.getElem?_eq_some_iff.1 hx).1
  unfold outK
  rw [if_pos (by omega), if_pos h, insAt, insAt, List.take_add_one, hx]
  simp only [Option.toList_some]
  rw [List.take_append_of_le_length (by simp; omega), List.drop_append_of_le_length (by simp; omega)]
  simp
theorem outK_at {r : List Wlk} {y x : Wlk} {k : Nat} (hx : r[k]? = some x) : outK r k y (k + 1) = (outK r k y k ++ [y]) ++ [x] := by
  have hk := (List.getElem?_eq_some_iff.1 hx).1
  unfold outK
  rw [if_pos (by omega), if_neg (by omega), insAt, List.take_add_one, hx]
  simp only [Option.toList_some]
  have e : (List.take k r).length = k := by simp; omega
  rw [List.take_append_of_le_length (by omega), List.drop_append_of_le_length (by omega), List.take_of_length_le (by omega), List.drop_of_length_le (by omega)]
  simp
theorem outK_lt {r : List Wlk} {p : Nat} {y x : Wlk} {k : Nat} (h : k < p) (hx : r[k]? = some x) : outK r p y (k + 1) = outK r p y k ++ [x] := by
  unfold outK
  rw [if_neg (by omega), if_neg (by omega), List.take_add_one, hx]; rfl
theorem pos_at {α : Type} {p : α → Bool} : ∀ {xs : List α} {k : Nat} {x : α}, xs[k]? = some x → (k < pos p xs → p x = false) ∧ (k = pos p xs → p x = true)
  | [], _, _, h => by simp at h
  | z :: zs, 0, x, h => by
    obtain rfl : z = x := by simpa using h
    simp only [pos]
    cases hz : p z <;> simp
  | z :: zs, k + 1, x, h => by
    have := pos_at (p := p) (k := k) (xs := zs) (x := x) (by simpa using h)
    simp only [pos]
    cases hz : p z with
    | true => simp
    | false =>
      simp only [Bool.false_eq_true, if_false]
      exact ⟨fun h1 => this.1 (by omega), fun h1 => this.2 (by omega)⟩
set_option maxRecDepth 100000 in
set_option maxHeartbeats 4000000 in
theorem sWlkPut_c (xs : List Wlk) (y : Wlk) (a : Option Addr) (n c : Nat) (w : World) (hx : Re w (.sl sWlk) [.slice a n c] (.l (xs.map Wlk.dat))) (hn : n ≤ 1048576) :
    Calls Try.prog 95 #[.slice a n c, .agg #[.int .i64 y.id, .int .i64 y.at_, .int .i64 y.coins, .int .i64 y.seq, .int .i64 y.last]] w (MadeX w 43 5 Wlk.cells (wlkPut xs y)) := by
  have HX := hid hx
  have HL := hid hx.len
  clear hx
  have hol : (wlkOut xs y.id).length ≤ 1048576 := by have := wlkOut_len xs y.id; have := HL.out; omega
  obtain ⟨p, hp⟩ : ∃ p, putAt xs y = p := ⟨_, rfl⟩
  have HP := hid hp
  have hple : p ≤ (wlkOut xs y.id).length := hp ▸ putAt_le xs y
  clear hp
  go_enter Try.func95, Try.ntmps95
  go_wp2_with (go_at_call 126; (with_reducible refine (sWlkOut_r xs _ _ _ _ _ (HX.out.of zq0) (by omega)).mono ?_); rintro e w' ⟨v, rfl, ⟨t, rfl⟩, hrow⟩; obtain ⟨sa, sn, sc, rfl⟩ := row_slice hrow; obtain ⟨hsn, hre⟩ := row_reW (by omega) hrow; have HRo := hid hre; have hsm : sn ≤ 1048576 := (by omega); have HSN := hid hsn; clear hrow hre hsn)
  refine wp_gen fun B0 hB0 => ?_
  have EB : Ext w B0 := by rw [hB0]; ((try simp only [ext_drew]); (try simp only [ext_ext]); repeat (first | exact Ext.refl _ | with_reducible apply Ext.add | with_reducible apply Ext.dr | apply Ext.alloc | apply Ext.ext | apply Ext.drew | refine Ext.trans ?_ (by assumption)))
  have HRb := hid (show Re B0 (.sl sWlk) [.slice sa sn sc] (.l ((wlkOut xs y.id).map Wlk.dat)) by rw [hB0]; exact HRo.out.of zq0)
  have lM : w.heap.size < B0.heap.size := by rw [hB0]; ((try simp [go_sem]) <;> (try simp [Xt.add]) <;> omega)
  have cM0 : B0.cell? ⟨w.heap.size, 0, none⟩ = some (.int .i64 y.id) := by rw [hB0]; simp [go_sem]
  have cM1 : B0.cell? ⟨w.heap.size, 1, none⟩ = some (.int .i64 y.at_) := by rw [hB0]; simp [go_sem]
  have cM2 : B0.cell? ⟨w.heap.size, 2, none⟩ = some (.int .i64 y.coins) := by rw [hB0]; simp [go_sem]
  have cM3 : B0.cell? ⟨w.heap.size, 3, none⟩ = some (.int .i64 y.seq) := by rw [hB0]; simp [go_sem]
  have cM4 : B0.cell? ⟨w.heap.size, 4, none⟩ = some (.int .i64 y.last) := by rw [hB0]; simp [go_sem]
  have HG0 := hid (show RowX B0 43 5 Wlk.cells (.slice (some ⟨w.heap.size + 1 + t.bs.size, 0, none⟩) 0 0) [] [] from .inl ⟨rfl, rfl, _, rfl, .inr ⟨_, rfl⟩⟩)
  clear hB0 HRo
  go_loopw [6, 7, 8] (fun v d i wr => ∃ (k : Nat) (B : List Nat), k ≤ sn ∧ i = .int .i64 k ∧ d = .bool (decide (p < k)) ∧ RowX wr 43 5 Wlk.cells v (outK (wlkOut xs y.id) p y k) B ∧ (∀ b ∈ B, B0.heap.size ≤ b) ∧ Ext B0 wr) (fun _ _ i _ => sn - (intOf i).toNat)
  case atStart => exact ⟨0, [], Nat.zero_le _, rfl, by simp, HG0.out, by simp, zq0⟩
  case round =>
    obtain ⟨k, B, hk, rfl, rfl, hg, hgb, t2, rfl⟩ := hrel
    have HG := hid hg
    have HGb := hid hgb
    have hol2 := outK_len (wlkOut xs y.id) p y k
    clear hg hgb
    by_cases hlt : k < sn
    · obtain ⟨x, b1, o1, hxk, rfl, hb1, f0, f1, f2, f3, f4⟩ := at_Wlk HRb.out hlt
      have HK := hid hxk
      obtain ⟨g1, g2⟩ := pos_at (p := idGt y.id) hxk
      rw [show pos (idGt y.id) (wlkOut xs y.id) = p from HP.out] at g1 g2
      clear hxk
      rcases Nat.lt_trichotomy p k with hpk | hpk | hpk
      · have hd : decide (p < k) = true := by simp [hpk]
        have HD := hid (show decide (p < k + 1) = true by simp; omega)
        have HE := hid (outK_done (y := y) hpk HK.out)
        clear g1 g2
        go_wp2
        with_reducible refine wp_region_ext (by kernel_rfl) (by kernel_rfl) ?_
        repeat (go_big_quiet_step (fail))
        refine wpQuiet_nil ?_
        rintro _ ⟨tq, rfl⟩
        go_wp2_with (first | ((refine wpList_appXE (cells := Wlk.cells) (k := 5) (bytes := 40) (z := .agg #[.int .i64 0, .int .i64 0, .int .i64 0, .int .i64 0, .int .i64 0]) Try.underlying34 (by kernel_rfl) rfl (by decide) (by decide) (fun _ => rfl) (fun x u hu => by simp only [Wlk.cells, List.mem_cons, List.not_mem_nil, or_false] at hu; rcases hu with rfl | rfl | rfl | rfl | rfl <;> rfl) rfl (B0) _ _ rfl rfl zq0 (xs := outK (wlkOut xs y.id) p y k) (HG.out.of zq0) HGb.out (x) rfl (alloc_last zq1) (by omega) ?_); intro v' t' B' hg hb; have HG' := hid hg; have HG'b := hid hb; clear hg hb))
        go_roundw
        case rel => exact ⟨k + 1, _, by omega, by go_num, by rw [HD.out], by rw [HE.out]; exact HG'.out, HG'b.out, zq0⟩
        case measure => simp [intOf]; omega
      · subst hpk
        have hd : decide (p < p) = false := by simp
        have HD := hid (show decide (p < p + 1) = true by simp)
        have HE := hid (outK_at (y := y) HK.out)
        have hgt : decide (y.id < x.id) = true := g2 rfl
        have hol3 : (outK (wlkOut xs y.id) p y p ++ [y]).length ≤ 4194304 := by rw [List.length_append]; simp; omega
        clear g1 g2
        go_wp2
        with_reducible refine wp_region_ext (by kernel_rfl) (by kernel_rfl) ?_
        repeat (go_big_quiet_step (fail))
        refine wpQuiet_nil ?_
        rintro _ ⟨tq, rfl⟩
        go_wp2_with (first | ((refine wpList_appXE (cells := Wlk.cells) (k := 5) (bytes := 40) (z := .agg #[.int .i64 0, .int .i64 0, .int .i64 0, .int .i64 0, .int .i64 0]) Try.underlying34 (by kernel_rfl) rfl (by decide) (by decide) (fun _ => rfl) (fun x u hu => by simp only [Wlk.cells, List.mem_cons, List.not_mem_nil, or_false] at hu; rcases hu with rfl | rfl | rfl | rfl | rfl <;> rfl) rfl (B0) _ _ rfl rfl zq0 (xs := outK (wlkOut xs y.id) p y p) (HG.out.of zq0) HGb.out (y) rfl (alloc_last zq1) (by omega) ?_); intro v' t' B' hg hb; have HG' := hid hg; have HG'b := hid hb; clear hg hb) | ((refine wpList_appXE (cells := Wlk.cells) (k := 5) (bytes := 40) (z := .agg #[.int .i64 0, .int .i64 0, .int .i64 0, .int .i64 0, .int .i64 0]) Try.underlying34 (by kernel_rfl) rfl (by decide) (by decide) (fun _ => rfl) (fun x u hu => by simp only [Wlk.cells, List.mem_cons, List.not_mem_nil, or_false] at hu; rcases hu with rfl | rfl | rfl | rfl | rfl <;> rfl) rfl (B0) _ _ rfl rfl zq0 (xs := outK (wlkOut xs y.id) p y p ++ [y]) (HG'.out.of zq0) HG'b.out (x) rfl (alloc_last zq1) (by omega) ?_); intro v' t' B' hg hb; have HG'' := hid hg; have HG''b := hid hb; clear hg hb))
        go_roundw
        case rel => exact ⟨p + 1, _, by omega, by go_num, by rw [HD.out], by rw [HE.out]; exact HG''.out, HG''b.out, zq0⟩
        case measure => simp [intOf]; omega
      · have hd : decide (p < k) = false := by simp; omega
        have HD := hid (show decide (p < k + 1) = false by simp; omega)
        have HE := hid (outK_lt (y := y) hpk HK.out)
        have hgt : decide (y.id < x.id) = false := g1 hpk
        clear g1 g2
        go_wp2
        with_reducible refine wp_region_ext (by kernel_rfl) (by kernel_rfl) ?_
        repeat (go_big_quiet_step (fail))
        refine wpQuiet_nil ?_
        rintro _ ⟨tq, rfl⟩
        go_wp2_with (first | ((refine wpList_appXE (cells := Wlk.cells) (k := 5) (bytes := 40) (z := .agg #[.int .i64 0, .int .i64 0, .int .i64 0, .int .i64 0, .int .i64 0]) Try.underlying34 (by kernel_rfl) rfl (by decide) (by decide) (fun _ => rfl) (fun x u hu => by simp only [Wlk.cells, List.mem_cons, List.not_mem_nil, or_false] at hu; rcases hu with rfl | rfl | rfl | rfl | rfl <;> rfl) rfl (B0) _ _ rfl rfl zq0 (xs := outK (wlkOut xs y.id) p y k) (HG.out.of zq0) HGb.out (x) rfl (alloc_last zq1) (by omega) ?_); intro v' t' B' hg hb; have HG' := hid hg; have HG'b := hid hb; clear hg hb))
        go_roundw
        case rel => exact ⟨k + 1, _, by omega, by go_num, by rw [HD.out], by rw [HE.out]; exact HG'.out, HG'b.out, zq0⟩
        case measure => simp [intOf]; omega
    · have hke : k = sn := by omega
      subst hke
      by_cases hpk : p < k
      · have hd : decide (p < k) = true := by simp [hpk]
        have HE := hid (show outK (wlkOut xs y.id) p y k = wlkPut xs y by rw [outK, if_pos hpk, List.take_of_length_le (Nat.le_of_eq HSN.out.symm), wlkPut, HP.out])
        obtain ⟨a5, c5, rfl⟩ := HG.out.slice
        rw [HE.out] at HG ⊢
        go_wp2
        go_ret
        exact ⟨a5, c5, B, rfl, zq0, HG.out, fun b hb => Nat.le_trans (Nat.le_of_lt lM) (HGb.out b hb)⟩
      · have hd : decide (p < k) = false := by simp; omega
        have HE := hid (show outK (wlkOut xs y.id) p y k ++ [y] = wlkPut xs y by
          rw [outK, if_neg hpk, List.take_of_length_le (Nat.le_of_eq HSN.out.symm), wlkPut, HP.out, show p = (wlkOut xs y.id).length by have := HSN.out; omega, insAt_end])
        go_wp2_with (first | ((refine wpList_appXE (cells := Wlk.cells) (k := 5) (bytes := 40) (z := .agg #[.int .i64 0, .int .i64 0, .int .i64 0, .int .i64 0, .int .i64 0]) Try.underlying34 (by kernel_rfl) rfl (by decide) (by decide) (fun _ => rfl) (fun x u hu => by simp only [Wlk.cells, List.mem_cons, List.not_mem_nil, or_false] at hu; rcases hu with rfl | rfl | rfl | rfl | rfl <;> rfl) rfl (B0) _ _ rfl rfl zq0 (xs := outK (wlkOut xs y.id) p y k) (HG.out.of zq0) HGb.out (y) rfl (alloc_last zq1) (by omega) ?_); intro v' t' B' hg hb; have HG' := hid hg; have HG'b := hid hb; clear hg hb))
        go_ret
        rw [HE.out] at HG'
        obtain ⟨a5, c5, rfl⟩ := HG'.out.slice
        exact ⟨a5, c5, _, rfl, zq0, HG'.out, fun b hb => Nat.le_trans (Nat.le_of_lt lM) (HG'b.out b hb)⟩
end Go.Proofs.Ytablgohncilmfaa

namespace Go.Proofs.Ytablgohncilmfaa
open Go.RowKit
set_option linter.unusedSimpArgs false
set_option linter.unusedVariables false

theorem adj_pairwise {α : Type} {r : α → α → Prop} (ht : ∀ a b c, r a b → r b c → r a c) {xs : List α} (h : ∀ (i : Nat) (x y : α), xs[i]? = some x → xs[i + 1]? = some y → r x y) : xs.Pairwise r := by
  rw [List.pairwise_iff_getElem]
  intro i j hi hj hij
  obtain ⟨d, rfl⟩ : ∃ d, j = i + 1 + d := ⟨j - i - 1, by omega⟩
  induction d with
  | zero => exact h i _ _ (List.getElem?_eq_getElem hi) (List.getElem?_eq_getElem hj)
  | succ d ih => exact ht _ _ _ (ih (by omega) (by omega)) (h (i + 1 + d) _ _ (List.getElem?_eq_getElem (by omega)) (List.getElem?_eq_getElem hj))
def Asc (xs : List Wlk) : Prop := xs.Pairwise (fun a b => a.id < b.id)
theorem wlkAll_iff {m : Mp} {xs : List Wlk} : wlkAll m xs = true ↔ (∀ x ∈ xs, wlkOk m x = true) ∧ Asc xs := by
  unfold wlkAll
  rw [allI_iff]
  constructor
  · intro h
    refine ⟨fun x hx => ?_, adj_pairwise (r := fun a b : Wlk => a.id < b.id) (fun a b c h1 h2 => Int.lt_trans h1 h2) fun i x y hx hy => ?_⟩
    · obtain ⟨k, hk⟩ := List.getElem?_of_mem hx
      have := h k x hk
      simp only [wlkAt, Bool.and_eq_true] at this
      exact this.1
    · have := h (i + 1) y hy
      simp only [wlkAt, Bool.and_eq_true, Nat.zero_add] at this
      rw [ordAt_succ hx] at this
      simpa using this.2
  · rintro ⟨h1, h2⟩ k x hx
    simp only [wlkAt, Bool.and_eq_true, Nat.zero_add]
    refine ⟨h1 x (List.mem_of_getElem? hx), ?_⟩
    cases k with
    | zero => rfl
    | succ k =>
      obtain ⟨y, hy⟩ : ∃ y, xs[k]? = some y := ⟨_, List.getElem?_eq_getElem (by have := (List.getElem?_eq_some_iff.1 hx).1; omega)⟩
      rw [ordAt_succ hy, decide_eq_true_eq]
      obtain ⟨hk, rfl⟩ := List.getElem?_eq_some_iff.1 hx
      obtain ⟨hk', rfl⟩ := List.getElem?_eq_some_iff.1 hy
      exact List.pairwise_iff_getElem.1 h2 k (k + 1) hk' hk (by omega)
theorem home_iff {m : Mp} {c : Int} {xs : List Wlk} : allI (inCell m c) 0 xs = true ↔ ∀ x ∈ xs, plcCell m x.at_ = c := by
  rw [allI_iff]
  constructor
  · intro h x hx
    obtain ⟨k, hk⟩ := List.getElem?_of_mem hx
    simpa [inCell] using h k x hk
  · intro h k x hx
    simpa [inCell] using h x (List.mem_of_getElem? hx)
end Go.Proofs.Ytablgohncilmfaa

namespace Go.Proofs.Ytablgohncilmfaa
open Go.RowKit
set_option linter.unusedSimpArgs false
set_option linter.unusedVariables false

theorem asc_split {xs : List Wlk} {k : Nat} {x : Wlk} (h : Asc xs) (hx : xs[k]? = some x) : ∃ A B, xs = A ++ x :: B ∧ A.length = k ∧ (∀ a ∈ A, a.id < x.id) ∧ (∀ b ∈ B, x.id < b.id) ∧ Asc A ∧ Asc B ∧ ∀ a ∈ A, ∀ b ∈ B, a.id < b.id := by
  obtain ⟨hk, hx'⟩ := List.getElem?_eq_some_iff.1 hx
  have e : xs = xs.take k ++ x :: xs.drop (k + 1) := by
    have := List.take_append_drop k xs
    rw [← hx', ← List.drop_eq_getElem_cons hk]
    exact this.symm
  refine ⟨xs.take k, xs.drop (k + 1), e, by simp; omega, ?_⟩
  unfold Asc at h
  rw [e] at h
  rw [List.pairwise_append, List.pairwise_cons] at h
  exact ⟨fun a ha => h.2.2 a ha x (by simp), h.2.1.1, h.1, h.2.1.2, fun a ha b hb => h.2.2 a ha b (by simp [hb])⟩
/-- Who is found, in a list in order: just the one that is there. -/
theorem get_at {xs : List Wlk} {k : Nat} {x : Wlk} (h : Asc xs) (hx : xs[k]? = some x) : wlkGet xs x.id = x ∧ wlkHas xs x.id = true ∧ wlkPlace xs x.id = (k : Int) := by
  obtain ⟨A, B, rfl, rfl, hA, hB, _⟩ := asc_split h hx
  have ht : ∀ y ∈ (A ++ x :: B).take A.length, idIs x.id y = false := fun y hy => by
    rw [List.take_left'] at hy
    · have := hA y hy; simp [idIs]; omega
    · rfl
  have hf := find_hit hx ht (by simp [idIs])
  refine ⟨by rw [wlkGet, hf]; rfl, by rw [wlkHas, hf]; rfl, ?_⟩
  rw [wlkPlace, idxFrom_hit hx ht (by simp [idIs])]; simp
theorem get_no {xs : List Wlk} {id : Int} (h : ∀ x ∈ xs, x.id ≠ id) : wlkGet xs id = wlkZ ∧ wlkHas xs id = false ∧ wlkPlace xs id = -1 := by
  have hn : ∀ y ∈ xs, idIs id y = false := fun y hy => by simpa [idIs] using h y hy
  exact ⟨by rw [wlkGet, find_miss hn]; rfl, by rw [wlkHas, find_miss hn]; rfl, by rw [wlkPlace, idxFrom_none hn]⟩
theorem has_or (xs : List Wlk) (id : Int) : (∀ x ∈ xs, x.id ≠ id) ∨ ∃ (k : Nat) (x : Wlk), xs[k]? = some x ∧ x.id = id := by
  rcases place_lt (p := idIs id) (xs := xs) (i := 0) with ⟨_, h2⟩ | ⟨k, x, _, h2, _, h4⟩
  · exact .inl fun x hx => by simpa [idIs] using h2 x hx
  · exact .inr ⟨k, x, h2, by simpa [idIs] using h4⟩

end Go.Proofs.Ytablgohncilmfaa

namespace Go.Proofs.Ytablgohncilmfaa
open Go.RowKit
set_option linter.unusedSimpArgs false
set_option linter.unusedVariables false

/-- The walkers of a cell in memory replaced. -/
theorem CX.setWk {w w' : World} {c : Cll} {h : CllH} {B1 B1' B3 B4 B5 : List Nat} {wk' : List Wlk} {a1 : Option Addr} {c1 : Nat} (x : CX w c h B1 B3 B4 B5) (hc : Chg B1 w w') (hr : RowX w' 43 5 Wlk.cells (.slice a1 wk'.length c1) wk' B1') (hb : ∀ b ∈ B1', b ∈ B1 ∨ w.heap.size ≤ b) :
    CX w' { c with wk := wk' } { h with a1 := a1, c1 := c1 } B1' B3 B4 B5 := by
  have nd := List.nodup_append.1 x.nd
  have n1 : ∀ b ∈ B3 ++ (B4 ++ B5), b ∉ B1 := fun b hb h1 => nd.2.2 b h1 b hb rfl
  refine ⟨hr, x.x3.chg hc fun b hb => n1 b (by simp [hb]), x.x4.chg hc fun b hb => n1 b (by simp [hb]), x.x5.chg hc fun b hb => n1 b (by simp [hb]), ?_⟩
  refine List.nodup_append.2 ⟨hr.nodup, nd.2.1, fun a ha b hb' e => ?_⟩
  subst e
  rcases hb a ha with h9 | h9
  · exact n1 a hb' h9
  · have := x.lt a (by simp only [List.mem_append] at hb' ⊢; exact .inr hb'); omega
theorem CX.setIns {w w' : World} {c : Cll} {h : CllH} {B1 B3 B4 B5 : List Nat} {ins' : List Int} (x : CX w c h B1 B3 B4 B5) (hc : Chg B5 w w') (hr : RowX w' 3 1 icells (.slice h.a5 ins'.length h.c5) ins' B5) : CX w' { c with ins := ins' } h B1 B3 B4 B5 := by
  have nd := x.nd
  have n1 : ∀ b ∈ B1, b ∉ B5 := fun b hb h3 => nod_app nd hb (by simp [h3])
  have nd2 := (List.nodup_append.1 nd).2.1
  have n3 : ∀ b ∈ B3, b ∉ B5 := fun b hb h3 => nod_app nd2 hb (by simp [h3])
  have nd3 := (List.nodup_append.1 nd2).2.1
  have n4 : ∀ b ∈ B4, b ∉ B5 := fun b hb h3 => nod_app nd3 hb h3
  exact ⟨x.x1.chg hc n1, x.x3.chg hc n3, x.x4.chg hc n4, hr, x.nd⟩
/-- An element of a row of numbers overwritten. -/
theorem icells_put {cur : Array Value} {k : Nat} {v : Int} (hz : k < cur.size) : (∀ i, ¬ (k * 1 ≤ i ∧ i < k * 1 + 1) → (cur.setIfInBounds k (.int .i64 v))[i]? = cur[i]?) ∧ ∀ i u, (icells v)[i]? = some u → (cur.setIfInBounds k (.int .i64 v))[k * 1 + i]? = some u := by
  refine ⟨fun i hi => by rw [Array.getElem?_setIfInBounds_ne (by omega)], fun i u hu => ?_⟩
  have hi : i = 0 := by
    have := (List.getElem?_eq_some_iff.1 hu).1
    simp [icells] at this; exact this
  subst hi
  rw [Nat.mul_one, Nat.add_zero, arr_set hz, if_pos rfl]; exact hu

end Go.Proofs.Ytablgohncilmfaa

namespace Go.Proofs.Ytablgohncilmfaa
open Go.RowKit
set_option linter.unusedSimpArgs false
set_option linter.unusedVariables false

theorem CX.flat {w : World} {c c' : Cll} {h : CllH} {B1 B3 B4 B5 : List Nat} (x : CX w c h B1 B3 B4 B5) (h1 : c'.wk = c.wk) (h3 : c'.outs = c.outs) (h4 : c'.next = c.next) (h5 : c'.ins = c.ins) : CX w c' h B1 B3 B4 B5 := by
  obtain ⟨cc, wk, gr, ou, ne, ii⟩ := c
  obtain ⟨cc', wk', gr', ou', ne', ii'⟩ := c'
  subst h1 h3 h4 h5
  exact ⟨x.x1, x.x3, x.x4, x.x5, x.nd⟩
end Go.Proofs.Ytablgohncilmfaa

namespace Go.Proofs.Ytablgohncilmfaa
open Go.RowKit
set_option linter.unusedSimpArgs false
set_option linter.unusedVariables false

theorem wlk_bd {m : Mp} {x : Wlk} (h : wlkOk m x = true) : (0 ≤ x.at_ ∧ x.at_ ≤ 31) ∧ (1 ≤ x.id ∧ x.id ≤ 9) ∧ (0 ≤ x.coins ∧ x.coins ≤ 99) ∧ (0 ≤ x.seq ∧ x.seq ≤ 900) ∧ (0 ≤ x.last ∧ x.last ≤ 9) := by
  simp only [wlkOk, ranged, Bool.and_eq_true, bne_iff_ne, ne_eq, inB_iff] at h
  obtain ⟨h0, ⟨⟨h1, h2⟩, h3⟩, h4⟩ := h
  obtain ⟨hp, p0, p1, _⟩ := plcCell_ne h0
  have := mul_bd hp
  exact ⟨⟨p0, by omega⟩, h1, h2, h3, h4⟩
theorem ord_bd {o : Ord} (h : ordOk o = true) : (1 ≤ o.who ∧ o.who ≤ 9) ∧ (1 ≤ o.seq ∧ o.seq ≤ 900) ∧ (1 ≤ o.kind ∧ o.kind ≤ 6) ∧ (o.kind = 1 → 0 ≤ o.to_ ∧ o.to_ ≤ 1) ∧ (o.kind = 2 → o.to_ ≠ o.who) ∧ (o.kind = 5 → 0 ≤ o.to_ ∧ o.to_ ≤ 1) ∧ (0 ≤ o.n ∧ o.n ≤ 9) ∧ (2 ≤ o.kind → o.kind ≤ 5 → 1 ≤ o.n) := by
  unfold ordOk at h
  simp only [Bool.and_eq_true, inB_iff] at h
  obtain ⟨⟨h1, h2⟩, h3⟩ := h
  refine ⟨h1, h2, ?_⟩
  split at h3
  · simp only [Bool.and_eq_true, inB_iff, beq_iff_eq] at h3; omega
  · split at h3
    · simp only [Bool.and_eq_true, inB_iff, bne_iff_ne, ne_eq] at h3
      refine ⟨by omega, by omega, fun _ => h3.1.2, by omega, by omega, by omega⟩
    · split at h3
      · simp only [Bool.and_eq_true, inB_iff, beq_iff_eq] at h3; omega
      · split at h3
        · simp only [Bool.and_eq_true, inB_iff] at h3; omega
        · split at h3
          · simp only [Bool.and_eq_true, beq_iff_eq] at h3; omega
          · cases h3
/-- What a cell that is ok is bound to. -/
structure CllF (m : Mp) (c : Cll) : Prop where
  mp : plcOk m = true
  cell : 0 ≤ c.cell ∧ c.cell ≤ m.c - 1 ∧ c.cell ≤ 3
  asc : Asc c.wk
  wk : ∀ x ∈ c.wk, wlkOk m x = true
  home : ∀ x ∈ c.wk, plcCell m x.at_ = c.cell
  gr : 0 ≤ c.ground ∧ c.ground ≤ 900
  lo : c.outs.length = 2
  ln : c.next.length = 2
  li : c.ins.length = 2
  side : ∀ k : Nat, k < 2 → ∃ (xs : List Pcl) (nx ix : Int), c.outs[k]? = some xs ∧ c.next[k]? = some nx ∧ c.ins[k]? = some ix ∧ pclListOk m xs nx = true ∧ (0 ≤ nx ∧ nx ≤ 5000) ∧ (0 ≤ ix ∧ ix ≤ 5000) ∧ xs.length ≤ 5000 ∧ (plcSide m c.cell k = -1 → nx = 0 ∧ ix = 0) ∧ (plcSide m c.cell k ≠ -1 → ∀ p ∈ xs, p.kind = 1 → plcCell m p.wk.at_ = plcSide m c.cell k)
theorem pcl_next {m : Mp} {xs : List Pcl} {nx : Int} (h : pclListOk m xs nx = true) : (0 ≤ nx ∧ nx ≤ 5000) ∧ (xs.length : Int) ≤ nx := by
  simp only [pclListOk, Bool.and_eq_true, decide_eq_true_eq] at h
  exact ⟨inB_iff.1 h.1.1.2, h.1.2⟩
theorem side_iff {m : Mp} {cell side : Int} {xs : List Pcl} {nx ix : Int} : sideOk m cell side xs nx ix = true ↔ pclListOk m xs nx = true ∧ (0 ≤ ix ∧ ix ≤ 5000) ∧ (plcSide m cell side = -1 → nx = 0 ∧ ix = 0) ∧ (plcSide m cell side ≠ -1 → ∀ p ∈ xs, p.kind = 1 → plcCell m p.wk.at_ = plcSide m cell side) := by
  unfold sideOk
  simp only [Bool.and_eq_true, inB_iff, and_assoc]
  refine and_congr_right fun _ => and_congr_right fun _ => and_congr_right fun _ => ?_
  by_cases h : plcSide m cell side = -1
  · simp [h]
  · simp only [h, if_false, false_implies, true_and, ne_eq, not_false_eq_true, true_implies, allI_iff]
    constructor
    · intro h2 p hp hk
      obtain ⟨k, hk2⟩ := List.getElem?_of_mem hp
      have := h2 k p hk2
      simp only [goesTo, hk, beq_self_eq_true, Bool.not_true, Bool.false_or, beq_iff_eq] at this
      exact this
    · intro h2 k p hp
      simp only [goesTo, Bool.or_eq_true, Bool.not_eq_true', beq_eq_false_iff_ne, beq_iff_eq]
      by_cases hk : p.kind = 1
      · exact .inr (h2 p (List.mem_of_getElem? hp) hk)
      · exact .inl hk
theorem cllF_iff {m : Mp} {c : Cll} : cllOk m c = true ↔ CllF m c := by
  constructor
  · intro h
    simp only [cllOk, Bool.and_eq_true] at h
    obtain ⟨⟨⟨hh, hw⟩, k0⟩, k1⟩ := h
    obtain ⟨h1, h2, h3, h4, lo, ln, li⟩ := cllHead_iff.1 hh
    obtain ⟨hwk, hasc⟩ := wlkAll_iff.1 h3
    have b2 := inB_iff.1 h2
    have b4 := inB_iff.1 h4
    have bm := (plcOk_iff.1 h1).1
    refine ⟨h1, ⟨b2.1, b2.2, by omega⟩, hasc, hwk, home_iff.1 hw, b4, by omega, by omega, by omega, fun k hk => ?_⟩
    obtain ⟨xs, hxs⟩ : ∃ x, c.outs[k]? = some x := ⟨_, List.getElem?_eq_getElem (by omega)⟩
    obtain ⟨nx, hnx⟩ : ∃ x, c.next[k]? = some x := ⟨_, List.getElem?_eq_getElem (by omega)⟩
    obtain ⟨ix, hix⟩ : ∃ x, c.ins[k]? = some x := ⟨_, List.getElem?_eq_getElem (by omega)⟩
    have hso : sideAt m c k = true := by
      match k, hk with
      | 0, _ => exact k0
      | 1, _ => exact k1
    rw [sideAt_eq hxs hnx hix] at hso
    obtain ⟨s1, s2, s3, s4⟩ := side_iff.1 hso
    obtain ⟨p1, p2⟩ := pcl_next s1
    exact ⟨xs, nx, ix, hxs, hnx, hix, s1, p1, s2, by omega, s3, s4⟩
  · intro h
    refine cllOk_true (cllHead_iff.2 ⟨h.mp, inB_iff.2 ⟨h.cell.1, h.cell.2.1⟩, wlkAll_iff.2 ⟨h.wk, h.asc⟩, inB_iff.2 h.gr, by have := h.lo; omega, by have := h.ln; omega, by have := h.li; omega⟩) (home_iff.2 h.home) fun k hk => ?_
    obtain ⟨xs, nx, ix, hxs, hnx, hix, s1, _, s2, _, s3, s4⟩ := h.side k hk
    rw [sideAt_eq hxs hnx hix]
    exact side_iff.2 ⟨s1, s2, s3, s4⟩
end Go.Proofs.Ytablgohncilmfaa

namespace Go.Proofs.Ytablgohncilmfaa
open Go.RowKit
set_option linter.unusedSimpArgs false
set_option linter.unusedVariables false

theorem asc_len {xs : List Wlk} (h : Asc xs) (hb : ∀ x ∈ xs, 1 ≤ x.id ∧ x.id ≤ 9) : xs.length ≤ 9 := by
  have key : ∀ (k : Nat) (x : Wlk), xs[k]? = some x → (k : Int) + 1 ≤ x.id := by
    intro k
    induction k with
    | zero => intro x hx; have := (hb x (List.mem_of_getElem? hx)).1; omega
    | succ k ih =>
      intro x hx
      have hk := (List.getElem?_eq_some_iff.1 hx).1
      have h0 := ih (xs[k]'(by omega)) (List.getElem?_eq_getElem (by omega))
      unfold Asc at h
      rw [List.pairwise_iff_getElem] at h
      have := h k (k + 1) (by omega) hk (by omega)
      rw [(List.getElem?_eq_some_iff.1 hx).2] at this
      omega
  rcases Nat.lt_or_ge 9 xs.length with h9 | h9
  · have h1 := key 9 xs[9] (List.getElem?_eq_getElem h9)
    have := (hb xs[9] (List.getElem_mem _)).2
    omega
  · exact h9
theorem CllF.wl {m : Mp} {c : Cll} (h : CllF m c) : c.wk.length ≤ 9 := asc_len h.asc fun x hx => (wlk_bd (h.wk x hx)).2.1
theorem CllF.bd {m : Mp} {c : Cll} (h : CllF m c) : BdC c := by
  refine ⟨by have := h.wl; omega, by have := h.lo; omega, fun xs hx => ?_, by have := h.ln; omega, by have := h.li; omega⟩
  obtain ⟨k, hk⟩ := List.getElem?_of_mem hx
  have hk2 : k < 2 := by have := (List.getElem?_eq_some_iff.1 hk).1; have := h.lo; omega
  obtain ⟨ys, nx, ix, hys, _, _, _, _, _, hl, _⟩ := h.side k hk2
  rw [hk] at hys
  obtain rfl := Option.some.inj hys
  omega
theorem CllF.ground {m : Mp} {c : Cll} {g : Int} (h : CllF m c) (hg : 0 ≤ g ∧ g ≤ 900) : CllF m { c with ground := g } := ⟨h.mp, h.cell, h.asc, h.wk, h.home, hg, h.lo, h.ln, h.li, h.side⟩
end Go.Proofs.Ytablgohncilmfaa

namespace Go.Proofs.Ytablgohncilmfaa
open Go.RowKit
set_option linter.unusedSimpArgs false
set_option linter.unusedVariables false

def insAtI (c : Cll) (s : Int) : Int := (c.ins[s.toNat]?).getD 0
def insUp (c : Cll) (s : Int) : List Int := c.ins.set s.toNat (insAtI c s + 1)
/-- A parcel taken in. -/
def iIn (m : Mp) (c : Cll) (s : Int) (p : Pcl) : Cll × Bool :=
  if p.n ≠ insAtI c s then (c, false) else
  if p.kind = 2 then (if c.ground + p.coins > 900 then (c, false) else ({ c with ground := c.ground + p.coins, ins := insUp c s }, true)) else
  if wlkHas c.wk p.wk.id = true ∨ plcCell m p.wk.at_ ≠ c.cell then (c, false) else ({ c with wk := wlkPut c.wk p.wk, ins := insUp c s }, true)
theorem insAtI_eq {c : Cll} {k : Nat} {ix : Int} (h : c.ins[k]? = some ix) : insAtI c k = ix := by simp [insAtI, h]
theorem insUp_eq {c : Cll} {k : Nat} {ix : Int} (h : c.ins[k]? = some ix) : insUp c k = c.ins.set k (ix + 1) := by simp [insUp, insAtI, h]
theorem pcl_bd {m : Mp} {p : Pcl} (h : pclOk m p = true) : (p.kind = 1 ∨ p.kind = 2) ∧ (0 ≤ p.n ∧ p.n ≤ 4999) ∧ (0 ≤ p.coins ∧ p.coins ≤ 9) ∧ (p.kind = 1 → p.coins = 0 ∧ wlkOk m p.wk = true) := by
  simp only [pclOk, formed, Bool.and_eq_true, Bool.or_eq_true, beq_iff_eq, inB_iff] at h
  obtain ⟨⟨_, hn, hk⟩, hw⟩ := h
  rcases hk with ⟨h1, h2⟩ | ⟨⟨h1, h2⟩, h3⟩
  · exact ⟨.inl h1, hn, by omega, fun _ => ⟨h2, hw.resolve_left (by omega)⟩⟩
  · exact ⟨.inr h1, hn, by omega, fun h => by omega⟩
/-- A walker put among others that lack her. -/
theorem out_none {xs : List Wlk} {id : Int} (h : ∀ x ∈ xs, x.id ≠ id) : wlkOut xs id = xs := List.filter_eq_self.2 fun x hx => by simp [notId, h x hx]
theorem asc_put : ∀ {xs : List Wlk} {y : Wlk}, Asc xs → (∀ x ∈ xs, x.id ≠ y.id) → Asc (insAt xs (pos (idGt y.id) xs) y)
  | [], y, _, _ => by simp [pos, insAt, Asc]
  | x :: xs, y, h, hn => by
    have hx := hn x (by simp)
    simp only [pos]
    by_cases hg : idGt y.id x = true
    · rw [if_pos hg]
      simp only [insAt, List.take_zero, List.nil_append, List.drop_zero]
      simp only [idGt, decide_eq_true_eq] at hg
      refine List.pairwise_cons.2 ⟨fun z hz => ?_, h⟩
      rcases List.mem_cons.1 hz with rfl | hz
      · exact hg
      · have := (List.pairwise_cons.1 h).1 z hz; omega
    · rw [if_neg hg]
      have ih := asc_put (List.pairwise_cons.1 h).2 (fun z hz => hn z (by simp [hz]))
      simp only [idGt, decide_eq_true_eq] at hg
      have e : insAt (x :: xs) (pos (idGt y.id) xs + 1) y = x :: insAt xs (pos (idGt y.id) xs) y := by simp [insAt]
      rw [e]
      refine List.pairwise_cons.2 ⟨fun z hz => ?_, ih⟩
      simp only [insAt, List.mem_append, List.mem_cons] at hz
      rcases hz with hz | rfl | hz
      · exact (List.pairwise_cons.1 h).1 z (List.mem_of_mem_take hz)
      · omega
      · exact (List.pairwise_cons.1 h).1 z (List.mem_of_mem_drop hz)
theorem put_asc {xs : List Wlk} {y : Wlk} (h : Asc xs) (hn : ∀ x ∈ xs, x.id ≠ y.id) : Asc (wlkPut xs y) ∧ ∀ z, z ∈ wlkPut xs y ↔ z = y ∨ z ∈ xs := by
  have e : wlkPut xs y = insAt xs (pos (idGt y.id) xs) y := by simp only [wlkPut, putAt, out_none hn]
  rw [e]
  refine ⟨asc_put h hn, fun z => ?_⟩
  have hx : z ∈ xs ↔ z ∈ xs.take (pos (idGt y.id) xs) ∨ z ∈ xs.drop (pos (idGt y.id) xs) := by rw [← List.mem_append, List.take_append_drop]
  rw [hx]
  simp only [insAt, List.mem_append, List.mem_cons]
  grind
theorem has_ids {xs : List Wlk} {id : Int} (h : wlkHas xs id = false) : ∀ x ∈ xs, x.id ≠ id := fun x hx e => by
  simp only [wlkHas, Option.isSome_eq_false_iff, Option.isNone_iff_eq_none, List.find?_eq_none] at h
  exact h x hx (by simp [idIs, e])
theorem CllF.ins {m : Mp} {c : Cll} {k : Nat} {ix : Int} (h : CllF m c) (hk : k < 2) (hi : c.ins[k]? = some ix) (hs : plcSide m c.cell k ≠ -1) (h9 : 0 ≤ ix ∧ ix ≤ 4999) : CllF m { c with ins := c.ins.set k (ix + 1) } := by
  refine ⟨h.mp, h.cell, h.asc, h.wk, h.home, h.gr, h.lo, h.ln, by simp [h.li], fun j hj => ?_⟩
  obtain ⟨xs, nx, iy, q1, q2, q3, q4, q5, q6, q7, q8, q9⟩ := h.side j hj
  by_cases e : k = j
  · subst e
    exact ⟨xs, nx, ix + 1, q1, q2, by simp [h.li, hk], q4, q5, by omega, q7, fun h => absurd h hs, q9⟩
  · exact ⟨xs, nx, iy, q1, q2, by simp only; rw [List.getElem?_set_ne e]; exact q3, q4, q5, q6, q7, q8, q9⟩
theorem in_ok {m : Mp} {c : Cll} {s : Nat} {p : Pcl} (h : CllF m c) (hp : pclOk m p = true) (hs : plcSide m c.cell s ≠ -1) : CllF m (iIn m c s p).1 := by
  obtain ⟨hk, hn, hc, hw⟩ := pcl_bd hp
  have hs2 : s < 2 := by
    obtain ⟨_, _, _, s0, s1, _⟩ := plcSide_ne hs
    omega
  obtain ⟨_, _, ix, _, _, hi, _, _, ib, _⟩ := h.side s hs2
  unfold iIn
  rw [insAtI_eq hi, insUp_eq hi]
  split
  · exact h
  · rename_i e
    have e' : ix ≤ 4999 := by omega
    split
    · split
      · exact h
      · exact (h.ground (g := c.ground + p.coins) (by have := h.gr; omega)).ins hs2 hi hs ⟨ib.1, e'⟩
    · rename_i k2
      split
      · exact h
      · rename_i e2
        simp only [not_or, Bool.not_eq_true, ne_eq, Classical.not_not] at e2
        obtain ⟨z, hz⟩ := put_asc h.asc (has_ids e2.1)
        have F : CllF m { c with wk := wlkPut c.wk p.wk } := ⟨h.mp, h.cell, z, fun x hx => by
          rcases (hz x).1 hx with rfl | hx
          · exact (hw (by omega)).2
          · exact h.wk x hx, fun x hx => by
          rcases (hz x).1 hx with rfl | hx
          · exact e2.2
          · exact h.home x hx, h.gr, h.lo, h.ln, h.li, h.side⟩
        exact F.ins hs2 hi hs ⟨ib.1, e'⟩
end Go.Proofs.Ytablgohncilmfaa

namespace Go.Proofs.Ytablgohncilmfaa
open Go.RowKit
theorem blk_set2 {w : World} {b o : Nat} {v : Value} {arr arr' : Array Value} {T : TypeId} {fr : Nat × Nat} (h : w.heap[b]? = some (.cells arr T fr)) (he : arr.setIfInBounds o v = arr') : (w.setCell ⟨b, o, none⟩ v).heap[b]? = some (.cells arr' T fr) := by
  rw [← he]; exact blk_set h
end Go.Proofs.Ytablgohncilmfaa

namespace Go.Proofs.Ytablgohncilmfaa
open Go.RowKit
set_option linter.unusedSimpArgs false
set_option linter.unusedVariables false

section
variable {P : Program} {ops : Array Oper} {S : World → Prop} {Q : Exit → Act → World → Prop} {md : Region.Mode}
theorem wpAnyN_firstU {i N : Nat} {oi : Oper} {v : Value} (hi : ops[i]? = some oi) (hiN : i ≠ N) (hNw : reaches ops ops.size N i = true) (hsel : ∀ (j : Nat) (o : Oper) cs b, ops[j]? = some o → o.op ≠ .select cs b)
    (hQ : ∀ c a w, Q (.panic c) (a.put oi.dst v) w → Q (.panic c) a w) :
    ∀ (fuel : Nat) (listed : Array Bool) (a : Act) (w : World),
      (∀ j oj, ops[j]? = some oj → j ≠ i → listed.getD j true = false → (∀ e ∈ oj.after, Region.binds .any e = true → e.on ≠ i) → oi.apart ops oj = true) →
      Closed ops listed → i ∈ Region.ready .any ops listed → YieldsIf P ops S oi v a → S w →
      wpAnyN P .any ops Q S N fuel (listed.setIfInBounds i true) (a.put oi.dst v) w → wpAnyN P .any ops Q S N (fuel + 1) listed a w := by
  intro fuel
  induction fuel with
  | zero =>
    intro listed a w _ hcl hr hy hS H
    refine ⟨fun h => (by rw [h] at hr; cases hr), fun j hj => ?_⟩
    by_cases hji : j = i
    · subst hji; exact hy.wpOp hi hS ⟨fun _ => hS, H⟩
    · have := ready_mono hj hji
      rw [H.1] at this
      cases this
  | succ fuel ih =>
    intro listed a w hfree hcl hr hy hS H
    refine ⟨fun h => (by rw [h] at hr; cases hr), fun j hj => ?_⟩
    by_cases hji : j = i
    · subst hji; exact hy.wpOp hi hS ⟨fun _ => hS, H⟩
    · have h1 := H.2 j (ready_mono hj hji)
      obtain ⟨hjun, oj, hoj, hall⟩ := mem_ready.1 hj
      have hnot : ∀ e ∈ oj.after, Region.binds .any e = true → e.on ≠ i := fun e he hb heq => by
        have h1 := hall e he hb
        have h0 := (mem_ready.1 hr).1
        rw [heq] at h1
        rcases Nat.lt_or_ge i listed.size with h' | h'
        · simp [h'] at h0 h1; rw [h0] at h1; cases h1
        · simp [Array.getElem?_eq_none h'] at h1
      have hjN : j ≠ N := fun e => by
        subst e
        have hl := Closed.reach hcl _ j i (fun o ho e he hb => by rw [hoj] at ho; obtain rfl := Option.some.inj ho; exact hall e he hb) hNw
        have h0 := (mem_ready.1 hr).1
        rcases Nat.lt_or_ge i listed.size with h' | h'
        · simp [h'] at hl h0; rw [h0] at hl; cases hl
        · simp [Array.getElem?_eq_none h'] at hl
      have h2 := wpOp_putIf hoj (hfree j oj hoj hji hjun hnot) (fun cs b => hsel i oi cs b hi) (fun cs b => hsel j oj cs b hoj) hQ hy h1
      have hfree' : ∀ k ok, ops[k]? = some ok → k ≠ i → (listed.setIfInBounds j true).getD k true = false →
          (∀ e ∈ ok.after, Region.binds .any e = true → e.on ≠ i) → oi.apart ops ok = true := fun k ok hk hki hun hno => by
        refine hfree k ok hk hki ?_ hno
        by_cases hjk : j = k
        · subst hjk; exact hjun
        · rw [getD_set_ne true hjk] at hun; exact hun
      refine wpOp_mono (fun a' w' h3 => ⟨fun _ => h3.2.1 hjN, ih (listed.setIfInBounds j true) a' w' hfree' (hcl.step hj) (ready_mono hr (Ne.symm hji)) h3.1 (h3.2.1 hjN) ?_⟩) h2
      rw [Array.setIfInBounds_comm _ _ hji]
      exact h3.2.2
theorem mixN_soundU {N : Nat} {oN : Oper} (hB : segOkT ops = true) (hNs : N + 1 = ops.size) (hN : ops[N]? = some oN) (hgN : oN.guard = none) (hNw : ∀ j, j < N → reaches ops ops.size N j = true) (hQ : ∀ c a d (v : Value) w, Q (.panic c) (Act.put a d v) w → Q (.panic c) a w) : ∀ (rem : List Nat) (listed : Array Bool) (a : Act) (w : World), listed.size = ops.size →
    rem.Pairwise (· < ·) → (∀ j, j ∈ rem ↔ j < N ∧ listed.getD j true = false) → listed.getD N true = false → Closed ops listed → S w → wpMix P ops S (lastK P oN Q) rem a w → wpAnyN P .any ops Q S N (rem.length + 1) listed a w := by
  have wantN : ∀ y, Region.wanted oN y = true := fun y => by simp [Region.wanted, hgN]
  intro rem
  generalize hn : rem.length = n
  induction n generalizing rem with
  | zero =>
    intro listed a w hsz hpw hmem hlN hcl hS h
    obtain rfl := List.eq_nil_of_length_eq_zero hn
    have lst : ∀ j, j < N → listed.getD j true = true := fun j hj => by
      cases hl : listed.getD j true with
      | true => rfl
      | false => exact absurd ((hmem j).2 ⟨hj, hl⟩) (by simp)
    have hNr : N ∈ Region.ready .any ops listed := by
      refine mem_ready.2 ⟨hlN, oN, hN, fun e he hb => ?_⟩
      have hlt := (segOkT_at hB hN).1 e he hb
      have h1 := lst e.on hlt
      have : e.on < listed.size := by omega
      simp [this] at h1 ⊢; exact h1
    refine ⟨fun h0 => (by rw [h0] at hNr; cases hNr), fun j hj => ?_⟩
    have ejN : j = N := by
      obtain ⟨h0, oj, hoj, _⟩ := mem_ready.1 hj
      have hjs := (Array.getElem?_eq_some_iff.1 hoj).1
      rcases Nat.lt_or_ge j N with h' | h'
      · rw [lst j h'] at h0; cases h0
      · omega
    subst ejN
    unfold wpOp
    simp only [hN, wantN, if_true]
    refine .inl (wp_Qn (fun a' w' h1 => ⟨fun h' => absurd rfl h', ?_, h1⟩) h)
    rw [List.eq_nil_iff_forall_not_mem]
    intro k hk
    obtain ⟨h0, ok, hok, _⟩ := mem_ready.1 hk
    have hks := (Array.getElem?_eq_some_iff.1 hok).1
    by_cases e : j = k
    · subst e
      have : j < listed.size := by omega
      simp [this] at h0
    · rw [getD_set_ne true e, lst k (by omega)] at h0; cases h0
  | succ n ih =>
    intro listed a w hsz hpw hmem hlN hcl hS h
    have hs := segOkT_sel hB
    have nowait : ∀ i j oi, ops[i]? = some oi → i ∈ Region.ready .any ops listed → listed.getD j true = false → waits oi j = false := fun i j oi hi hr hj => by
      obtain ⟨_, o, ho, hall⟩ := mem_ready.1 hr
      rw [hi] at ho; obtain rfl := Option.some.inj ho
      cases hwt : waits oi j with
      | false => rfl
      | true =>
        simp only [waits, Array.any_eq_true, Bool.and_eq_true, beq_iff_eq] at hwt
        obtain ⟨q, hq, hb, he⟩ := hwt
        have := hall _ (Array.getElem_mem hq) hb
        rw [he] at this
        rcases Nat.lt_or_ge j listed.size with h' | h'
        · simp [h'] at hj this; rw [hj] at this; cases this
        · simp [Array.getElem?_eq_none h'] at this
    have inrem : ∀ j, j ∈ Region.ready .any ops listed → j ∈ rem := fun j hj => by
      obtain ⟨h0, o, ho, _⟩ := mem_ready.1 hj
      have hjs := (Array.getElem?_eq_some_iff.1 ho).1
      rcases Nat.lt_or_ge j N with h' | h'
      · exact (hmem j).2 ⟨h', h0⟩
      · exfalso
        obtain rfl : j = N := by omega
        cases rem with
        | nil => simp at hn
        | cons k rest =>
          obtain ⟨k1, k2⟩ := (hmem k).1 (by simp)
          rw [hN] at ho; obtain rfl := Option.some.inj ho
          obtain ⟨_, o9, ho9, hall9⟩ := mem_ready.1 hj
          rw [hN] at ho9; obtain rfl := Option.some.inj ho9
          have hl := Closed.reach hcl _ j k (fun o ho e he hb => by rw [hN] at ho; obtain rfl := Option.some.inj ho; exact hall9 e he hb) (hNw k k1)
          rcases Nat.lt_or_ge k listed.size with h' | h'
          · simp [h'] at hl k2; rw [k2] at hl; cases hl
          · simp [Array.getElem?_eq_none h'] at hl
    have after : ∀ (i : Nat), i ∈ rem → ∀ (pre post : List Nat), rem = pre ++ i :: post → (∀ j, j ∈ pre ++ post ↔ j < N ∧ (listed.setIfInBounds i true).getD j true = false) ∧ (pre ++ post).Pairwise (· < ·) ∧ (pre ++ post).length = n ∧ (listed.setIfInBounds i true).getD N true = false := fun i hi pre post he => by
      have hiN := ((hmem i).1 hi).1
      subst he
      have hpp := List.pairwise_append.1 hpw
      obtain ⟨hp1, hp2, hp3⟩ := hpp
      obtain ⟨hp4, hp5⟩ := List.pairwise_cons.1 hp2
      refine ⟨fun j => ?_, ?_, by simp at hn ⊢; omega, by rw [getD_set_ne true (by omega)]; exact hlN⟩
      · have hij : i < listed.size := by have := ((hmem i).1 hi).1; omega
        by_cases e : i = j
        · subst e
          constructor
          · intro hj
            rcases List.mem_append.1 hj with hj | hj
            · have := hp3 _ hj i (by simp); omega
            · have := hp4 _ hj; omega
          · rintro ⟨_, hj⟩
            simp [hij] at hj
        · rw [getD_set_ne true e, ← hmem j]
          simp only [List.mem_append, List.mem_cons]
          constructor
          · rintro (hj | hj)
            · exact .inl hj
            · exact .inr (.inr hj)
          · rintro (hj | hj | hj)
            · exact .inl hj
            · exact absurd hj.symm e
            · exact .inr hj
      · exact List.pairwise_append.2 ⟨hp1, hp5, fun x hx y hy => hp3 x hx y (by simp [hy])⟩
    by_cases hp : ∃ i oi, i ∈ Region.ready .any ops listed ∧ ops[i]? = some oi ∧ isMk oi.op = false
    · obtain ⟨i, oi, hr, hi, hpure⟩ := hp
      have him := inrem i hr
      obtain ⟨pre, post, he⟩ := List.append_of_mem him
      obtain ⟨q1, q2, q3, q4⟩ := after i him pre post he
      have hlt : ∀ k ∈ pre, k < i := fun k hk => by
        rw [he] at hpw
        exact (List.pairwise_append.1 hpw).2.2 k hk i (by simp)
      have hfree : ∀ j oj, ops[j]? = some oj → j ≠ i → listed.getD j true = false → waits oj i = false → oi.apart ops oj = true := fun j oj hj hne hun hno => by
        rcases Nat.lt_or_ge j i with hji | hji
        · exact segPairT_r ((segOkT_at hB hi).2 j oj hji hj) hpure (nowait i j oi hi hr hun)
        · exact segPairT_l ((segOkT_at hB hj).2 i oi (by omega) hi) hpure hno
      rw [he] at h
      obtain ⟨v, hy, hh⟩ := mix_hoist hs hi hpure pre post a w hS (fun k hk => by
        have hkm : k ∈ rem := by rw [he]; simp [hk]
        obtain ⟨k1, k2⟩ := (hmem k).1 hkm
        obtain ⟨ok, hok⟩ : ∃ ok, ops[k]? = some ok := ⟨_, Array.getElem?_eq_getElem (by omega)⟩
        have hki := hlt k hk
        refine ⟨ok, hok, hfree k ok hok (by omega) k2 ?_⟩
        cases hwt : waits ok i with
        | false => rfl
        | true =>
          simp only [waits, Array.any_eq_true, Bool.and_eq_true, beq_iff_eq] at hwt
          obtain ⟨q, hq, hb, he'⟩ := hwt
          have := (segOkT_at hB hok).1 _ (Array.getElem_mem hq) hb
          omega) h
      refine wpAnyN_firstU hi (N := N) (by have := ((hmem i).1 him).1; omega) (hNw i ((hmem i).1 him).1) (Region.noSelect_spec hs) (fun c a w => hQ c a _ _ w) _ listed a w (fun j oj hj hne hun hno => hfree j oj hj hne hun ?_) hcl hr hy hS ?_
      · cases hwt : waits oj i with
        | false => rfl
        | true =>
          simp only [waits, Array.any_eq_true, Bool.and_eq_true, beq_iff_eq] at hwt
          obtain ⟨q, hq, hb, he'⟩ := hwt
          exact absurd he' (hno _ (Array.getElem_mem hq) hb)
      · exact ih (pre ++ post) q3 _ _ _ (by simp [hsz]) q2 q1 q4 (hcl.step hr) hS hh
    · cases rem with
      | nil => simp at hn
      | cons k rest =>
        obtain ⟨k1, k2⟩ := (hmem k).1 (by simp)
        obtain ⟨ok, hok⟩ : ∃ ok, ops[k]? = some ok := ⟨_, Array.getElem?_eq_getElem (by omega)⟩
        obtain ⟨hpk, hpr⟩ := List.pairwise_cons.1 hpw
        have hkr : k ∈ Region.ready .any ops listed := by
          refine mem_ready.2 ⟨k2, ok, hok, fun e he hb => ?_⟩
          have hlt := (segOkT_at hB hok).1 e he hb
          cases hl : listed.getD e.on true with
          | true =>
            have : e.on < listed.size := by omega
            simp [this] at hl ⊢; exact hl
          | false =>
            have := (hmem e.on).2 ⟨by omega, hl⟩
            rcases List.mem_cons.1 this with h' | h'
            · omega
            · have := hpk _ h'; omega
        have hmk : isMk ok.op = true := by
          cases hm : isMk ok.op with
          | true => rfl
          | false => exact absurd ⟨k, ok, hkr, hok, hm⟩ hp
        have only : ∀ j, j ∈ Region.ready .any ops listed → j = k := fun j hj => by
          rcases List.mem_cons.1 (inrem j hj) with h' | h'
          · exact h'
          · exfalso
            have hkj := hpk j h'
            obtain ⟨_, oj, hoj, _⟩ := mem_ready.1 hj
            have hmj : isMk oj.op = true := by
              cases hm : isMk oj.op with
              | true => rfl
              | false => exact absurd ⟨j, oj, hj, hoj, hm⟩ hp
            have h1 := segPairT_mk ((segOkT_at hB hoj).2 k ok hkj hok) hmk hmj
            have h2 := hcl.reach (ops.size) j k (by
              obtain ⟨_, o2, ho2, hall⟩ := mem_ready.1 hj
              intro o ho e he hb
              rw [ho2] at ho; obtain rfl := Option.some.inj ho
              exact hall e he hb) h1
            have : k < listed.size := by omega
            simp [this] at k2 h2
            rw [k2] at h2; cases h2
        obtain ⟨q1, q2, q3, q4⟩ := after k (by simp) [] rest rfl
        simp only [List.nil_append] at q1 q2 q3
        refine ⟨fun h0 => (by rw [h0] at hkr; cases hkr), fun j hj => ?_⟩
        obtain rfl := only j hj
        simp only [wpMix, hok, hmk, if_true] at h
        unfold wpOp
        simp only [hok]
        split
        · rename_i hw
          simp only [hw, if_true] at h
          exact .inl (wp_Qn (fun a' w' ⟨h1, h2⟩ => ⟨fun _ => h1, ih rest q3 _ _ _ (by simp [hsz]) q2 q1 q4 (hcl.step hkr) h1 h2⟩) h)
        · rename_i hw
          simp only [hw] at h
          exact ⟨fun _ => hS, ih rest q3 _ _ _ (by simp [hsz]) q2 q1 q4 (hcl.step hkr) hS h⟩

theorem wp_region_U (S : World → Prop) {id : Nat} {a : Act} {w : World} {l : List Oper} {oN : Oper} (hm : P.follows .mixedOrders = true) (hB : segOkT l.toArray = true) (hN : l.toArray[l.length - 1]? = some oN) (hgN : oN.guard = none) (hNw : (List.range (l.length - 1)).all (fun j => reaches l.toArray l.toArray.size (l.length - 1) j) = true) (hS : S w.drew)
    (h : wpMixL P l.toArray S (lastK P oN (Qt Q)) l.dropLast a w.drew) : (Code.region id l.toArray true).wp P Q a w := by
  refine Code.wp_mono (Q := Qt Q) (fun e a w h => by cases e <;> first | exact h | exact False.elim h) (wp_region_any hm (wpAny_of_N (S := S) (N := l.length - 1) _ _ _ _ ?_))
  have hpos : 0 < l.length := by
    cases l with
    | nil => simp at hN
    | cons _ _ => simp
  have h1 := mix_of_list' (ops := l.toArray) l.dropLast 0 a _ (fun j o ho => by
    rw [List.getElem?_dropLast] at ho
    split at ho
    · simpa using ho
    · cases ho) h
  have h2 := mixN_soundU (N := l.length - 1) hB (by simp; omega) hN hgN (fun j hj => by simpa using List.all_eq_true.1 hNw j (by simpa using hj)) (fun c a d v w h => h) (List.range' 0 l.dropLast.length) (Array.replicate l.toArray.size false) a w.drew (by simp) List.pairwise_lt_range' (fun j => by
    simp only [List.mem_range'_1, List.length_dropLast, Nat.zero_le, true_and, Nat.zero_add]
    constructor
    · intro hj; exact ⟨hj, by
        have : j < l.length := by omega
        simp [this]⟩
    · exact fun hj => hj.1) (by
      have : l.length - 1 < l.length := by omega
      simp [this]) (closed_none _ _) hS h1
  have e : (List.range' 0 l.dropLast.length).length + 1 = l.toArray.size := by simp; omega
  rw [e] at h2
  exact h2
theorem wp_region_UR (R : Nat) {id : Nat} {a : Act} {w : World} {l : List Oper} {oN : Oper} (hm : P.follows .mixedOrders = true) (hB : segOkT l.toArray = true) (hNw : (List.range (l.length - 1)).all (fun j => reaches l.toArray l.toArray.size (l.length - 1) j) = true) (hN : l.toArray[l.length - 1]? = some oN) (hgN : oN.guard = none)
    (h : wpMixL P l.toArray (fun w' => ∃ x, w' = extR w R x) (lastK P oN (Qt Q)) l.dropLast a w.drew) : (Code.region id l.toArray true).wp P Q a w :=
  wp_region_U (fun w' => ∃ x, w' = extR w R x) hm hB hN hgN hNw (extR_of (Chg.refl _ _).drew) h
end
end Go.Proofs.Ytablgohncilmfaa

namespace Go.Proofs.Ytablgohncilmfaa
open Go.RowKit
set_option linter.unusedSimpArgs false
set_option linter.unusedVariables false

theorem iPlcCell_g (m : Mp) (p b : Int) (w : World) (h : Hid (plcCell m p = b)) : Calls Try.prog 78 #[.agg #[.int .i64 m.c, .int .i64 m.w], .int .i64 p] w fun e w' => e = .returned (.int .i64 b) ∧ Ext w w' := by
  have := iPlcCell_c m p w
  rwa [h.out] at this
end Go.Proofs.Ytablgohncilmfaa

namespace Go.Proofs.Ytablgohncilmfaa
open Go.RowKit
set_option linter.unusedSimpArgs false
set_option linter.unusedVariables false

def InR (w : World) (T : Nat) (B1 B3 B4 B5 : List Nat) (v : Cll) (ok : Bool) (e : Ending) (w' : World) : Prop :=
  ∃ (h' : CllH) (B1' : List Nat), e = .returned (.bool ok) ∧ w'.heap[T]? = some (.cells #[.int .i64 v.cell, .slice h'.a1 v.wk.length h'.c1, .int .i64 v.ground, .slice h'.a3 v.outs.length h'.c3, .slice h'.a4 v.next.length h'.c4, .slice h'.a5 v.ins.length h'.c5] 37 (0, 0)) ∧ CX w' v h' B1' B3 B4 B5 ∧ Chg (T :: (B1 ++ B5)) w w' ∧ ∀ b ∈ B1', b ∈ B1 ∨ w.heap.size ≤ b
set_option maxRecDepth 100000 in
set_option maxHeartbeats 8000000 in
theorem receive_c (m : Mp) (c : Cll) (h : CllH) (T s : Nat) (p : Pcl) (B1 B3 B4 B5 : List Nat) (w : World)
    (hT : w.heap[T]? = some (.cells #[.int .i64 c.cell, .slice h.a1 c.wk.length h.c1, .int .i64 c.ground, .slice h.a3 c.outs.length h.c3, .slice h.a4 c.next.length h.c4, .slice h.a5 c.ins.length h.c5] 37 (0, 0))) (hx : CX w c h B1 B3 B4 B5) (hTB : T ∉ B1 ++ (B3 ++ (B4 ++ B5))) (F : CllF m c) (hp : pclOk m p = true) (hs : s < 2) :
    Calls Try.prog 55 #[.pointer (some ⟨T, 0, none⟩), .agg #[.int .i64 m.c, .int .i64 m.w], .int .i64 s, .agg #[.int .i64 p.n, .int .i64 p.kind, .int .i64 p.wk.id, .int .i64 p.wk.at_, .int .i64 p.wk.coins, .int .i64 p.wk.seq, .int .i64 p.wk.last, .int .i64 p.coins]] w (InR w T B1 B3 B4 B5 (iIn m c s p).1 (iIn m c s p).2) := by
  obtain ⟨a1, c1, a3, c3, a4, c4, a5, c5⟩ := h
  obtain ⟨_, _, ix, _, _, hi, _, _, ⟨ix0, ix1⟩, _⟩ := F.side s hs
  obtain ⟨g5, cur5, y5, e5, hB5, hl5, hc5, hy5, hb5, hz5, hv5, hu5⟩ := hx.x5.at Nat.one_pos (fun _ => rfl) (List.getElem?_eq_some_iff.1 hi).1
  rw [hi] at hy5
  obtain rfl := Option.some.inj hy5
  dsimp only at e5
  subst e5 hB5
  have f5 : w.cell? ⟨g5, s, none⟩ = some (.int .i64 ix) := (cell_blk hb5 s).trans (by have := hv5 0 _ rfl; simpa using this)
  have z5 := frozen_blk hb5 s
  have l5 := lt_blk hb5
  have hTg : T ≠ g5 := fun e => hTB (by simp [e])
  have hgT : g5 ≠ T := Ne.symm hTg
  have hsc : s < c.ins.length := (List.getElem?_eq_some_iff.1 hi).1
  have hm5 := hx.x5.max
  have hm1 := hx.x1.max
  simp only [maxLen] at hm5 hm1
  obtain ⟨gr0, gr1⟩ := F.gr
  obtain ⟨kk, ⟨pn0, pn1⟩, ⟨pc0, pc1⟩, hw1⟩ := pcl_bd hp
  have hl : c.wk.length ≤ 1048576 := by have := F.wl; omega
  have HAsc := hid F.asc
  have HX := hid hx
  have HRe := hid hx.re.r1
  have HT := hid hT
  have HTB := hid hTB
  have HB5 := hid hb5
  have HZ5 := hid hz5
  have HU5 := hid hu5
  have lT := lt_blk hT
  have cT0 : w.cell? ⟨T, 0, none⟩ = some (.int .i64 c.cell) := (cell_blk hT 0).trans rfl
  have cT1 : w.cell? ⟨T, 1, none⟩ = some (.slice a1 c.wk.length c1) := (cell_blk hT 1).trans rfl
  have cT2 : w.cell? ⟨T, 2, none⟩ = some (.int .i64 c.ground) := (cell_blk hT 2).trans rfl
  have cT5 : w.cell? ⟨T, 5, none⟩ = some (.slice (some ⟨g5, 0, none⟩) c.ins.length c5) := (cell_blk hT 5).trans rfl
  have zT1 := frozen_blk hT 1
  have zT2 := frozen_blk hT 2
  have EK := hid (show iIn m c s p = if p.n ≠ ix then (c, false) else if p.kind = 2 then (if c.ground + p.coins > 900 then (c, false) else ({ c with ground := c.ground + p.coins, ins := c.ins.set s (ix + 1) }, true)) else if wlkHas c.wk p.wk.id = true ∨ plcCell m p.wk.at_ ≠ c.cell then (c, false) else ({ c with wk := wlkPut c.wk p.wk, ins := c.ins.set s (ix + 1) }, true) by unfold iIn; rw [insAtI_eq hi, insUp_eq hi])
  clear hT hx hTB F hp hi hb5 hz5 hv5 hu5 hy5
  by_cases u1 : p.n = ix
  · have p1 : (p.n == ix) = true := by simpa using u1
    have h1 : (p.n != ix) = false := by simpa using u1
    have h2 : (!(p.n == ix)) = false := by simpa using u1
    rcases kk with k1 | k2
    · have q2 : (p.kind == 2) = false := by rw [k1]; rfl
      have pcz := (hw1 k1).1
      have p2 : decide (c.ground + p.coins > 900) = false := by simp; omega
      have EJ := hid (show iIn m c s p = if wlkHas c.wk p.wk.id = true ∨ plcCell m p.wk.at_ ≠ c.cell then (c, false) else ({ c with wk := wlkPut c.wk p.wk, ins := c.ins.set s (ix + 1) }, true) by rw [EK.out, if_neg (by simp [u1]), if_neg (by omega)])
      clear k1 hw1 u1 pcz
      obtain ⟨pc, hpc⟩ : ∃ pc, plcCell m p.wk.at_ = pc := ⟨_, rfl⟩
      have HPC := hid hpc
      rcases has_or c.wk p.wk.id with hn | ⟨k, x, hxk, hxid⟩
      · obtain ⟨_, hh, H1⟩ := get_no hn
        clear hn
        by_cases u3 : pc = c.cell
        · have p3 : (pc == c.cell) = true := by simpa using u3
          have E := hid (show iIn m c s p = ({ c with wk := wlkPut c.wk p.wk, ins := c.ins.set s (ix + 1) }, true) by rw [EJ.out, if_neg (by simp [hh, hpc, u3])])
          rw [E.out]
          clear hpc hh u3
          go_enter Try.func55, Try.ntmps55
          go_wp2_with (fail)
          with_reducible refine wp_region_ext (by kernel_rfl) (by kernel_rfl) ?_
          repeat (go_big_quiet_step (fail))
          refine wpQuiet_nil ?_
          rintro _ ⟨tq, rfl⟩
          go_wp2_with (fail)
          with_reducible refine wp_region_ext (by kernel_rfl) (by kernel_rfl) ?_
          repeat (go_big_quiet_step ((first | (go_at_call 86; first | exact quiet_call (place_c _ _ _ _ _ _ (Re.of (Hid.out (by assumption)) zq0) (by omega)) | exact quiet_call2 (place_c _ _ _ _ _ _ (Re.of (Hid.out (by assumption)) zq0) (by omega))) | (go_at_call 78; first | exact quiet_call (iPlcCell_g _ _ _ _ (by assumption)) | exact quiet_call2 (iPlcCell_g _ _ _ _ (by assumption))))))
          refine wpQuiet_nil ?_
          rintro _ ⟨tq, rfl⟩
          go_wp2_with (fail)
          refine wp_gen fun V hV => ?_
          have EV : Ext w V := by rw [hV]; ((try simp only [ext_drew]); (try simp only [ext_ext]); repeat (first | exact Ext.refl _ | with_reducible apply Ext.add | with_reducible apply Ext.dr | apply Ext.alloc | apply Ext.ext | apply Ext.drew | refine Ext.trans ?_ (by assumption)))
          have hP : V.heap[w.heap.size + 1]? = some (.cells #[.int .i64 p.n, .int .i64 p.kind, .int .i64 p.wk.id, .int .i64 p.wk.at_, .int .i64 p.wk.coins, .int .i64 p.wk.seq, .int .i64 p.wk.last, .int .i64 p.coins] 45 (0, 0)) := by rw [hV]; (repeat (first | with_reducible refine blk_ext ?_ | with_reducible apply blk_drew)); exact alloc_last (by simp)
          obtain ⟨P, hPe⟩ : ∃ P, w.heap.size + 1 = P := ⟨_, rfl⟩
          rw [hPe] at hP ⊢
          have lP := lt_blk hP
          have hTV := (EV.block lT).trans HT.out
          have h5V := (EV.block l5).trans HB5.out
          have hwV := EV.size
          obtain ⟨R, hR⟩ : ∃ R, V.heap.size + 1 = R := ⟨_, rfl⟩
          have lTV := lt_blk hTV
          have l5V := lt_blk h5V
          have hTR : T ≠ R := by omega
          have hPR : P ≠ R := by omega
          have h5R : g5 ≠ R := by omega
          have nPT : P ≠ T := by omega
          have nTP : T ≠ P := by omega
          have nP5 : P ≠ g5 := by omega
          have n5P : g5 ≠ P := by omega
          have kT1 := (cell_blk hTV 1).trans (show _ = some (Value.slice a1 c.wk.length c1) from rfl)
          have kT5 := (cell_blk hTV 5).trans (show _ = some (Value.slice (some ⟨g5, 0, none⟩) c.ins.length c5) from rfl)
          have kz1 := frozen_blk hTV 1
          have k5 := (EV.cell l5 s).trans f5
          have kz5 := frozen_blk h5V s
          have cP2 := (cell_blk hP 2).trans (show _ = some (Value.int .i64 p.wk.id) from rfl)
          have cP3 := (cell_blk hP 3).trans (show _ = some (Value.int .i64 p.wk.at_) from rfl)
          have cP4 := (cell_blk hP 4).trans (show _ = some (Value.int .i64 p.wk.coins) from rfl)
          have cP5 := (cell_blk hP 5).trans (show _ = some (Value.int .i64 p.wk.seq) from rfl)
          have cP6 := (cell_blk hP 6).trans (show _ = some (Value.int .i64 p.wk.last) from rfl)
          have dT1 : ∀ t, (ext V.drew t).cell? ⟨T, 1, none⟩ = some (.slice a1 c.wk.length c1) := fun t => (ext_cell' _ _ _ _ lTV).trans kT1
          have dZ1 : ∀ t, (ext V.drew t).frozen? ⟨T, 1, none⟩ = false := fun t => (ext_frozen' _ _ _ _ lTV).trans kz1
          have HEV := hid EV
          have HTV := hid hTV
          have H5V := hid h5V
          have HReV := hid (HRe.out.of EV)
          have HLw := hid (show w.heap.size ≤ V.heap.size from EV.size)
          clear hV hP hPe hR EV hTV h5V f5 z5 cT0 cT1 cT2 cT5 zT1 zT2
          with_reducible refine wp_region_UR (R) (by kernel_rfl) (by decide +kernel) (by decide +kernel) rfl rfl ?_
          simp only [List.dropLast_cons_cons, List.dropLast_singleton]
          repeat (first
            | (refine mix_pure rfl ?_; (first | go_big_quiet_skip | (go_big_quiet_want; go_big_quiet_op; go_big_quiet_on)); refine wpQuiet_nil ?_)
            | (refine mix_skip (by rfl) ?_; (try simp only [Act.put, List.setIfInBounds_toArray, List.set_cons_zero, List.set_cons_succ]))
            | (refine mix_mk rfl (by rfl) (fun K hK => ?_); (first | (go_simp; first | (go_at_call 102; (with_reducible refine (iWlkPut_c c.wk p.wk _ _ _ _ (HReV.out.of zq0) hl).mono ?_); rintro e w' ⟨p5, q5, D5, rfl, ⟨t5, rfl⟩, hr5, hb5⟩; have X5 := hid hr5; have Y5 := hid hb5; clear hr5 hb5) | skip)); (show K _ _); refine hK _ _ (extR_of (by repeat (first | with_reducible exact Chg.refl _ _ | with_reducible apply Chg.drew | with_reducible apply Chg.drewl | with_reducible refine Chg.turn (by simp) | with_reducible refine Chg.both ?_ (by simp) | (with_reducible refine Chg.set ?_ (by simp) _) | with_reducible apply Chg.alloc | with_reducible apply Chg.ext | with_reducible refine Chg.trans ?_ (Hid.out (by assumption))))) ?_; clear hK K; (try simp only [Act.put, List.setIfInBounds_toArray, List.set_cons_zero, List.set_cons_succ])))
          refine mixN_nil (fun K hK => ?_)
          go_simp
          (show K _ _)
          refine hK _ _ ?_
          clear hK K
          (try simp only [Act.put, List.setIfInBounds_toArray, List.set_cons_zero, List.set_cons_succ])
          simp only [Exit.inBlock, Exit.then]
          rename_i hKont tq9 hpc9
          refine hKont _ _ ?_
          clear hKont
          refine wp_gen fun V2 hV2 => ?_
          have bT2 : V2.heap[T]? = some (.cells #[.int .i64 c.cell, .slice p5 (wlkPut c.wk p.wk).length q5, .int .i64 c.ground, .slice a3 c.outs.length c3, .slice a4 c.next.length c4, .slice (some ⟨g5, 0, none⟩) c.ins.length c5] 37 (0, 0)) := by rw [hV2]; exact (by (repeat (first | with_reducible apply blk_drew | (with_reducible refine blk_other ?_ (by first | assumption | omega)) | with_reducible refine blk_ext ?_ | with_reducible refine blk_alloc ?_)); apply blk_set2; (repeat (first | with_reducible exact HTV.out | with_reducible apply blk_drew | (with_reducible refine blk_other ?_ (by first | assumption | omega)) | with_reducible refine blk_ext ?_ | with_reducible refine blk_alloc ?_)); rfl)
          have b52 : V2.heap[g5]? = some (.cells cur5 3 (0, 0)) := by rw [hV2]; exact (by repeat (first | with_reducible exact H5V.out | with_reducible apply blk_drew | with_reducible refine blk_set ?_ | (with_reducible refine blk_other ?_ (by first | assumption | omega)) | with_reducible refine blk_ext ?_ | with_reducible refine blk_alloc ?_))
          have hD5 : ∀ b ∈ D5, w.heap.size ≤ b := fun b hb => Nat.le_trans HLw.out (Nat.le_trans zq1 (Y5.out b hb))
          have hx2 : CX V2 { c with wk := wlkPut c.wk p.wk } ⟨p5, q5, a3, c3, a4, c4, some ⟨g5, 0, none⟩, c5⟩ D5 B3 B4 [g5] := by
            rw [hV2]
            refine (HX.out.setWk (w' := ext V.drew t5) (Chg.of_ext (HEV.out.trans zq0) _) X5.out (fun b hb => .inr (hD5 b hb))).chg (B' := [T]) zq2 (fun b hb => ?_)
            have := HTB.out
            simp only [List.mem_singleton]
            intro e
            rcases List.mem_append.1 hb with h9 | h9
            · have := hD5 b h9; omega
            · exact this (List.mem_append_right _ (e ▸ h9))
          have hc2 : Chg [T] w V2 := by rw [hV2]; exact Chg.trans (Chg.of_ext HEV.out _) zq2
          have HX2 := hid hx2
          have HC2 := hid hc2
          have HD5 := hid hD5
          have BT2 := hid bT2
          have B52 := hid b52
          have m1 := (cell_blk bT2 5).trans (show _ = some (Value.slice (some ⟨g5, 0, none⟩) c.ins.length c5) from rfl)
          have m2 := (cell_blk b52 s).trans ((cell_blk H5V.out s).symm.trans k5)
          have m3 := frozen_blk b52 s
          have lT2 := lt_blk bT2
          have l52 := lt_blk b52
          clear hV2 bT2 b52 hx2 hc2 hD5 kT1 kT5 kz1 k5 kz5 cP2 cP3 cP4 cP5 cP6 dT1 dZ1
          go_wp2_with (fail)
          go_ret
          obtain ⟨v1, v2⟩ := icells_put (cur := cur5) (k := s) (v := ix + 1) (by have := HZ5.out; omega)
          have hr : RowX (V2.setCell ⟨g5, s, none⟩ (.int .i64 (ix + 1))) 3 1 icells (.slice (some ⟨g5, 0, none⟩) c.ins.length c5) (c.ins.set s (ix + 1)) [g5] := HU5.out _ _ _ (by exact blk_set B52.out) (by simp) v1 v2
          have r2 := HX2.out.setIns (ins' := c.ins.set s (ix + 1)) ((Chg.refl [g5] _).set (b := g5) (o := s) (by simp) (.int .i64 (ix + 1))) (by rw [List.length_set]; exact hr)
          refine ⟨⟨p5, q5, a3, c3, a4, c4, some ⟨g5, 0, none⟩, c5⟩, D5, rfl, ?_, (r2.of zq0).flat rfl rfl rfl rfl, Chg.trans (HC2.out.mono (by simp)) zq2, fun b hb => .inr (HD5.out b hb)⟩
          simp only [List.length_set]; exact (by repeat (first | with_reducible exact BT2.out | with_reducible apply blk_drew | with_reducible refine blk_set ?_ | (with_reducible refine blk_other ?_ (by first | assumption | omega)) | with_reducible refine blk_ext ?_ | with_reducible refine blk_alloc ?_))
        · have p3 : (pc == c.cell) = false := by simpa using u3
          have E := hid (show iIn m c s p = (c, false) by rw [EJ.out, if_pos (by simp [hpc, u3])])
          rw [E.out]
          clear hpc hh u3
          go_enter Try.func55, Try.ntmps55
          try go_wp2_with (first
              | (go_at_call 86; refine (place_c _ _ _ _ _ _ (Re.of (Hid.out (by assumption)) zq0) (by omega)).mono ?_; rintro e w' ⟨rfl, t, rfl⟩) | (go_at_call 78; refine (iPlcCell_g _ _ _ _ (by assumption)).mono ?_; rintro e w' ⟨rfl, t, rfl⟩)
              | (
                with_reducible refine wp_region_mix (by kernel_rfl) (by decide +kernel) ?_
                repeat (first
                  | (refine mix_pure rfl ?_; (first | go_big_quiet_skip | (go_big_quiet_want; go_big_quiet_op; go_big_quiet_on)); refine wpQuiet_nil ?_)
                  | (refine mix_skip (by rfl) ?_; (try simp only [Act.put, List.setIfInBounds_toArray, List.set_cons_zero, List.set_cons_succ]))
                  | (refine mix_mk rfl (by rfl) (fun K hK => ?_); (first | (go_simp; first | (go_at_call 86; refine (place_c _ _ _ _ _ _ (Re.of (Hid.out (by assumption)) zq0) (by omega)).mono ?_; rintro e w' ⟨rfl, t, rfl⟩) | (go_at_call 78; refine (iPlcCell_g _ _ _ _ (by assumption)).mono ?_; rintro e w' ⟨rfl, t, rfl⟩) | skip)); (show K _ _); refine hK _ _ (show Ext _ _ from zq0) ?_; clear hK K; (try simp only [Act.put, List.setIfInBounds_toArray, List.set_cons_zero, List.set_cons_succ])))
                refine mix_nil ?_)
              | (
                with_reducible refine wp_region_ext (by kernel_rfl) (by kernel_rfl) ?_
                repeat (first | go_big_quiet_skip | (go_big_quiet_want; go_big_quiet_op; first | go_big_quiet_on | (apply Exists.intro; refine ⟨fun _ => ?_, ?_⟩; ((first | (go_at_call 86; first | exact quiet_call (place_c _ _ _ _ _ _ (Re.of (Hid.out (by assumption)) zq0) (by omega)) | exact quiet_call2 (place_c _ _ _ _ _ _ (Re.of (Hid.out (by assumption)) zq0) (by omega))) | (go_at_call 78; first | exact quiet_call (iPlcCell_g _ _ _ _ (by assumption)) | exact quiet_call2 (iPlcCell_g _ _ _ _ (by assumption))))); (try rw [h1]); (try rw [h2]); (try rw [h3]); (try rw [h4]); (try rw [p1]); (try rw [p2]); (try rw [p3]); (try rw [p4]); (try rw [r1]); (try rw [r2]); (try rw [r3]); (try rw [r4]); (try rw [r5]); (try rw [r6]); (try rw [q3]); (try rw [q4]); (try rw [hp]); (try rw [hq]); go_big_quiet_on)))
                refine wpQuiet_nil ?_
                rintro _ ⟨tq, rfl⟩))
          go_ret
          refine ⟨⟨a1, c1, a3, c3, a4, c4, some ⟨g5, 0, none⟩, c5⟩, B1, rfl, (by repeat (first | with_reducible exact HT.out | with_reducible apply blk_drew | with_reducible refine blk_set ?_ | (with_reducible refine blk_other ?_ (by first | assumption | omega)) | with_reducible refine blk_ext ?_ | with_reducible refine blk_alloc ?_)), HX.out.of zq0, Chg.of_ext zq0 _, fun b hb => .inl hb⟩
      · obtain ⟨_, hh, H1⟩ : wlkGet c.wk p.wk.id = x ∧ wlkHas c.wk p.wk.id = true ∧ wlkPlace c.wk p.wk.id = (k : Int) := by have := get_at HAsc.out hxk; rwa [hxid] at this
        clear hxk hxid
        have E := hid (show iIn m c s p = (c, false) by rw [EJ.out, if_pos (by simp [hh])])
        rw [E.out]
        clear hpc hh
        go_enter Try.func55, Try.ntmps55
        try go_wp2_with (first
            | (go_at_call 86; refine (place_c _ _ _ _ _ _ (Re.of (Hid.out (by assumption)) zq0) (by omega)).mono ?_; rintro e w' ⟨rfl, t, rfl⟩) | (go_at_call 78; refine (iPlcCell_g _ _ _ _ (by assumption)).mono ?_; rintro e w' ⟨rfl, t, rfl⟩)
            | (
              with_reducible refine wp_region_mix (by kernel_rfl) (by decide +kernel) ?_
              repeat (first
                | (refine mix_pure rfl ?_; (first | go_big_quiet_skip | (go_big_quiet_want; go_big_quiet_op; go_big_quiet_on)); refine wpQuiet_nil ?_)
                | (refine mix_skip (by rfl) ?_; (try simp only [Act.put, List.setIfInBounds_toArray, List.set_cons_zero, List.set_cons_succ]))
                | (refine mix_mk rfl (by rfl) (fun K hK => ?_); (first | (go_simp; first | (go_at_call 86; refine (place_c _ _ _ _ _ _ (Re.of (Hid.out (by assumption)) zq0) (by omega)).mono ?_; rintro e w' ⟨rfl, t, rfl⟩) | (go_at_call 78; refine (iPlcCell_g _ _ _ _ (by assumption)).mono ?_; rintro e w' ⟨rfl, t, rfl⟩) | skip)); (show K _ _); refine hK _ _ (show Ext _ _ from zq0) ?_; clear hK K; (try simp only [Act.put, List.setIfInBounds_toArray, List.set_cons_zero, List.set_cons_succ])))
              refine mix_nil ?_)
            | (
              with_reducible refine wp_region_ext (by kernel_rfl) (by kernel_rfl) ?_
              repeat (first | go_big_quiet_skip | (go_big_quiet_want; go_big_quiet_op; first | go_big_quiet_on | (apply Exists.intro; refine ⟨fun _ => ?_, ?_⟩; ((first | (go_at_call 86; first | exact quiet_call (place_c _ _ _ _ _ _ (Re.of (Hid.out (by assumption)) zq0) (by omega)) | exact quiet_call2 (place_c _ _ _ _ _ _ (Re.of (Hid.out (by assumption)) zq0) (by omega))) | (go_at_call 78; first | exact quiet_call (iPlcCell_g _ _ _ _ (by assumption)) | exact quiet_call2 (iPlcCell_g _ _ _ _ (by assumption))))); (try rw [h1]); (try rw [h2]); (try rw [h3]); (try rw [h4]); (try rw [p1]); (try rw [p2]); (try rw [p3]); (try rw [p4]); (try rw [r1]); (try rw [r2]); (try rw [r3]); (try rw [r4]); (try rw [r5]); (try rw [r6]); (try rw [q3]); (try rw [q4]); (try rw [hp]); (try rw [hq]); go_big_quiet_on)))
              refine wpQuiet_nil ?_
              rintro _ ⟨tq, rfl⟩))
        go_ret
        refine ⟨⟨a1, c1, a3, c3, a4, c4, some ⟨g5, 0, none⟩, c5⟩, B1, rfl, (by repeat (first | with_reducible exact HT.out | with_reducible apply blk_drew | with_reducible refine blk_set ?_ | (with_reducible refine blk_other ?_ (by first | assumption | omega)) | with_reducible refine blk_ext ?_ | with_reducible refine blk_alloc ?_)), HX.out.of zq0, Chg.of_ext zq0 _, fun b hb => .inl hb⟩
    · have q2 : (p.kind == 2) = true := by rw [k2]; rfl
      by_cases u2 : c.ground + p.coins > 900
      · have p2 : decide (c.ground + p.coins > 900) = true := by simpa using u2
        have E := hid (show iIn m c s p = (c, false) by rw [EK.out, if_neg (by simp [u1]), if_pos k2, if_pos u2])
        rw [E.out]
        clear k2 hw1 u1 u2
        go_enter Try.func55, Try.ntmps55
        try go_wp2_with (first
            | fail
            | (
              with_reducible refine wp_region_mix (by kernel_rfl) (by decide +kernel) ?_
              repeat (first
                | (refine mix_pure rfl ?_; (first | go_big_quiet_skip | (go_big_quiet_want; go_big_quiet_op; go_big_quiet_on)); refine wpQuiet_nil ?_)
                | (refine mix_skip (by rfl) ?_; (try simp only [Act.put, List.setIfInBounds_toArray, List.set_cons_zero, List.set_cons_succ]))
                | (refine mix_mk rfl (by rfl) (fun K hK => ?_); (first | (go_simp; first | skip)); (show K _ _); refine hK _ _ (show Ext _ _ from zq0) ?_; clear hK K; (try simp only [Act.put, List.setIfInBounds_toArray, List.set_cons_zero, List.set_cons_succ])))
              refine mix_nil ?_)
            | (
              with_reducible refine wp_region_ext (by kernel_rfl) (by kernel_rfl) ?_
              repeat (first | go_big_quiet_skip | (go_big_quiet_want; go_big_quiet_op; first | go_big_quiet_on | (apply Exists.intro; refine ⟨fun _ => ?_, ?_⟩; (fail); (try rw [h1]); (try rw [h2]); (try rw [h3]); (try rw [h4]); (try rw [p1]); (try rw [p2]); (try rw [p3]); (try rw [p4]); (try rw [r1]); (try rw [r2]); (try rw [r3]); (try rw [r4]); (try rw [r5]); (try rw [r6]); (try rw [q3]); (try rw [q4]); (try rw [hp]); (try rw [hq]); go_big_quiet_on)))
              refine wpQuiet_nil ?_
              rintro _ ⟨tq, rfl⟩))
        go_ret
        refine ⟨⟨a1, c1, a3, c3, a4, c4, some ⟨g5, 0, none⟩, c5⟩, B1, rfl, (by repeat (first | with_reducible exact HT.out | with_reducible apply blk_drew | with_reducible refine blk_set ?_ | (with_reducible refine blk_other ?_ (by first | assumption | omega)) | with_reducible refine blk_ext ?_ | with_reducible refine blk_alloc ?_)), HX.out.of zq0, Chg.of_ext zq0 _, fun b hb => .inl hb⟩
      · have p2 : decide (c.ground + p.coins > 900) = false := by simpa using u2
        have E := hid (show iIn m c s p = ({ c with ground := c.ground + p.coins, ins := c.ins.set s (ix + 1) }, true) by rw [EK.out, if_neg (by simp [u1]), if_pos k2, if_neg u2])
        rw [E.out]
        clear k2 hw1 u1
        go_enter Try.func55, Try.ntmps55
        go_wp2_with (fail)
        with_reducible refine wp_region_ext (by kernel_rfl) (by kernel_rfl) ?_
        repeat (go_big_quiet_step (fail))
        refine wpQuiet_nil ?_
        rintro _ ⟨tq, rfl⟩
        go_wp2_with (fail)
        go_region
        go_wp2_with (fail)
        go_ret
        have r1 := HX.out.chg (B' := [T]) ((Chg.refl [T] _).set (b := T) (o := 2) (by simp) (.int .i64 (c.ground + p.coins))) (fun b hb => by have := HTB.out; simp only [List.mem_singleton]; exact fun e => this (e ▸ hb))
        obtain ⟨v1, v2⟩ := icells_put (cur := cur5) (k := s) (v := ix + 1) (by have := HZ5.out; omega)
        have hr : RowX ((w.setCell ⟨T, 2, none⟩ (.int .i64 (c.ground + p.coins))).setCell ⟨g5, s, none⟩ (.int .i64 (ix + 1))) 3 1 icells (.slice (some ⟨g5, 0, none⟩) c.ins.length c5) (c.ins.set s (ix + 1)) [g5] := HU5.out _ _ _ (by exact blk_set (blk_other HB5.out hgT)) (by simp) v1 v2
        have r2 := r1.setIns (ins' := c.ins.set s (ix + 1)) ((Chg.refl [g5] _).set (b := g5) (o := s) (by simp) (.int .i64 (ix + 1))) (by rw [List.length_set]; exact hr)
        refine ⟨⟨a1, c1, a3, c3, a4, c4, some ⟨g5, 0, none⟩, c5⟩, B1, rfl, ?_, (r2.of zq0).flat rfl rfl rfl rfl, zq2, fun b hb => .inl hb⟩
        simp only [List.length_set]; exact (by (repeat (first | with_reducible apply blk_drew | (with_reducible refine blk_other ?_ (by first | assumption | omega)) | with_reducible refine blk_ext ?_ | with_reducible refine blk_alloc ?_)); apply blk_set2; (repeat (first | with_reducible exact HT.out | with_reducible apply blk_drew | (with_reducible refine blk_other ?_ (by first | assumption | omega)) | with_reducible refine blk_ext ?_ | with_reducible refine blk_alloc ?_)); rfl)
  · have p1 : (p.n == ix) = false := by simpa using u1
    have h1 : (p.n != ix) = true := by simpa using u1
    have h2 : (!(p.n == ix)) = true := by simpa using u1
    have E := hid (show iIn m c s p = (c, false) by rw [EK.out, if_pos u1])
    rw [E.out]
    clear hw1 u1
    go_enter Try.func55, Try.ntmps55
    try go_wp2_with (first
        | fail
        | (
          with_reducible refine wp_region_mix (by kernel_rfl) (by decide +kernel) ?_
          repeat (first
            | (refine mix_pure rfl ?_; (first | go_big_quiet_skip | (go_big_quiet_want; go_big_quiet_op; go_big_quiet_on)); refine wpQuiet_nil ?_)
            | (refine mix_skip (by rfl) ?_; (try simp only [Act.put, List.setIfInBounds_toArray, List.set_cons_zero, List.set_cons_succ]))
            | (refine mix_mk rfl (by rfl) (fun K hK => ?_); (first | (go_simp; first | skip)); (show K _ _); refine hK _ _ (show Ext _ _ from zq0) ?_; clear hK K; (try simp only [Act.put, List.setIfInBounds_toArray, List.set_cons_zero, List.set_cons_succ])))
          refine mix_nil ?_)
        | (
          with_reducible refine wp_region_ext (by kernel_rfl) (by kernel_rfl) ?_
          repeat (first | go_big_quiet_skip | (go_big_quiet_want; go_big_quiet_op; first | go_big_quiet_on | (apply Exists.intro; refine ⟨fun _ => ?_, ?_⟩; (fail); (try rw [h1]); (try rw [h2]); (try rw [h3]); (try rw [h4]); (try rw [p1]); (try rw [p2]); (try rw [p3]); (try rw [p4]); (try rw [r1]); (try rw [r2]); (try rw [r3]); (try rw [r4]); (try rw [r5]); (try rw [r6]); (try rw [q3]); (try rw [q4]); (try rw [hp]); (try rw [hq]); go_big_quiet_on)))
          refine wpQuiet_nil ?_
          rintro _ ⟨tq, rfl⟩))
    go_ret
    refine ⟨⟨a1, c1, a3, c3, a4, c4, some ⟨g5, 0, none⟩, c5⟩, B1, rfl, (by repeat (first | with_reducible exact HT.out | with_reducible apply blk_drew | with_reducible refine blk_set ?_ | (with_reducible refine blk_other ?_ (by first | assumption | omega)) | with_reducible refine blk_ext ?_ | with_reducible refine blk_alloc ?_)), HX.out.of zq0, Chg.of_ext zq0 _, fun b hb => .inl hb⟩
end Go.Proofs.Ytablgohncilmfaa

namespace Go.Proofs.Ytablgohncilmfaa
open Go.RowKit
set_option linter.unusedSimpArgs false
set_option linter.unusedVariables false

theorem sPlcCell_g (m : Mp) (p b : Int) (w : World) (h : Hid (plcCell m p = b)) : Calls Try.prog 84 #[.agg #[.int .i64 m.c, .int .i64 m.w], .int .i64 p] w fun e w' => e = .returned (.int .i64 b) ∧ Ext w w' := by
  have := sPlcCell_c m p w
  rwa [h.out] at this
end Go.Proofs.Ytablgohncilmfaa

namespace Go.Proofs.Ytablgohncilmfaa
open Go.RowKit
set_option linter.unusedSimpArgs false
set_option linter.unusedVariables false

theorem RowX.reW {w : World} {a : Option Addr} {n c : Nat} {xs : List Wlk} {B : List Nat} (h : RowX w 43 5 Wlk.cells (.slice a n c) xs B) : Re w (.sl sWlk) [.slice a n c] (.l (xs.map Wlk.dat)) :=
  (h.own (k := 5) rfl (fun w x => own_Wlk_mk w x)).re h.lt
end Go.Proofs.Ytablgohncilmfaa

namespace Go.Proofs.Ytablgohncilmfaa
open Go.RowKit
set_option linter.unusedSimpArgs false
set_option linter.unusedVariables false

/-- The taken-in numbers of a cell in memory replaced, other blocks that are not the cell's changing too. -/
theorem CX.insR {V W : World} {c : Cll} {h : CllH} {B1 B3 B4 R : List Nat} {g5 : Nat} {ins' : List Int} (x : CX V c h B1 B3 B4 [g5]) (hc : Chg (g5 :: R) V W) (hR : ∀ b ∈ B1 ++ (B3 ++ (B4 ++ [g5])), b ∉ R) (hr : RowX W 3 1 icells (.slice h.a5 ins'.length h.c5) ins' [g5]) : CX W { c with ins := ins' } h B1 B3 B4 [g5] := by
  have nd := x.nd
  have n : ∀ b ∈ B1 ++ (B3 ++ B4), b ≠ g5 := fun b hb e => by
    have : (B1 ++ (B3 ++ B4) ++ [g5]).Nodup := by simpa using nd
    exact nod_app this hb (by simp [e])
  have m : ∀ b ∈ B1 ++ (B3 ++ B4), b ∉ g5 :: R := fun b hb h9 => by
    rcases List.mem_cons.1 h9 with h9 | h9
    · exact n b hb h9
    · exact hR b (by simp only [List.mem_append] at hb ⊢; rcases hb with h | h | h <;> simp [h]) h9
  exact ⟨x.x1.chg hc fun b hb => m b (by simp [hb]), x.x3.chg hc fun b hb => m b (by simp [hb]), x.x4.chg hc fun b hb => m b (by simp [hb]), hr, nd⟩
/-- The walkers of a cell in memory replaced by new ones, other blocks changing too. -/
theorem CX.setWkR {V W : World} {c : Cll} {h : CllH} {B1 D1 B3 B4 B5 R : List Nat} {wk' : List Wlk} {a1 : Option Addr} {c1 : Nat} (x : CX V c h B1 B3 B4 B5) (hc : Chg R V W) (hR : ∀ b ∈ B3 ++ (B4 ++ B5), b ∉ R) (hr : RowX W 43 5 Wlk.cells (.slice a1 wk'.length c1) wk' D1) (hD : ∀ b ∈ D1, V.heap.size ≤ b) : CX W { c with wk := wk' } { h with a1 := a1, c1 := c1 } D1 B3 B4 B5 := by
  have nd := List.nodup_append.1 x.nd
  refine ⟨hr, x.x3.chg hc fun b hb => hR b (by simp [hb]), x.x4.chg hc fun b hb => hR b (by simp [hb]), x.x5.chg hc fun b hb => hR b (by simp [hb]), ?_⟩
  refine List.nodup_append.2 ⟨hr.nodup, nd.2.1, fun a ha b hb e => ?_⟩
  have := hD a ha
  have := x.lt b (List.mem_append_right _ hb)
  omega
set_option maxRecDepth 100000 in
set_option maxHeartbeats 8000000 in
theorem l5In_c (m : Mp) (c : Cll) (h : CllH) (s : Nat) (p : Pcl) (w : World) (hx : ReC w c h) (hb : BdC c) (F : CllF m c) (hp : pclOk m p = true) (hs : s < 2) :
    Calls Try.prog 47 #[.agg #[.int .i64 m.c, .int .i64 m.w], .agg #[.int .i64 c.cell, .slice h.a1 c.wk.length h.c1, .int .i64 c.ground, .slice h.a3 c.outs.length h.c3, .slice h.a4 c.next.length h.c4, .slice h.a5 c.ins.length h.c5], .int .i64 s, .agg #[.int .i64 p.n, .int .i64 p.kind, .int .i64 p.wk.id, .int .i64 p.wk.at_, .int .i64 p.wk.coins, .int .i64 p.wk.seq, .int .i64 p.wk.last, .int .i64 p.coins]] w (MadeCV w (iIn m c s p).1 (.bool (iIn m c s p).2)) := by
  have HX := hid hx
  have HB := hid hb
  obtain ⟨_, _, ix, _, _, hi, _, _, ⟨ix0, ix1⟩, _⟩ := F.side s hs
  have HI := hid hi
  have hsc : s < c.ins.length := (List.getElem?_eq_some_iff.1 hi).1
  obtain ⟨gr0, gr1⟩ := F.gr
  obtain ⟨kk, ⟨pn0, pn1⟩, ⟨pc0, pc1⟩, hw1⟩ := pcl_bd hp
  have hl : c.wk.length ≤ 1048576 := by have := F.wl; omega
  have HAsc := hid F.asc
  have HKK := hid kk
  have HW1 := hid hw1
  have EK := hid (show iIn m c s p = if p.n ≠ ix then (c, false) else if p.kind = 2 then (if c.ground + p.coins > 900 then (c, false) else ({ c with ground := c.ground + p.coins, ins := c.ins.set s (ix + 1) }, true)) else if wlkHas c.wk p.wk.id = true ∨ plcCell m p.wk.at_ ≠ c.cell then (c, false) else ({ c with wk := wlkPut c.wk p.wk, ins := c.ins.set s (ix + 1) }, true) by unfold iIn; rw [insAtI_eq hi, insUp_eq hi])
  clear hx hb F hp hi kk hw1
  go_enter Try.func47, Try.ntmps47
  go_wp2_with (first | (go_at_call 94; (with_reducible refine (sCllCopy_x c _ _ (ReC.of HX.out zq0) HB.out).mono ?_); rintro e w' ⟨⟨p1, r1, p3, r3, p4, r4, p5, r5⟩, B1, B3, B4, B5, rfl, ⟨t, rfl⟩, hcx, hlo⟩; have HCX := hid hcx; have HLO := hid hlo; clear hcx hlo))
  refine wp_gen fun V hV => ?_
  have EV : Ext w V := by rw [hV]; ((try simp only [ext_drew]); (try simp only [ext_ext]); repeat (first | exact Ext.refl _ | with_reducible apply Ext.add | with_reducible apply Ext.dr | apply Ext.alloc | apply Ext.ext | apply Ext.drew | refine Ext.trans ?_ (by assumption)))
  have hC : V.heap[w.heap.size + 1 + 1 + 1 + 1 + t.bs.size]? = some (.cells #[.int .i64 c.cell, .slice p1 c.wk.length r1, .int .i64 c.ground, .slice p3 c.outs.length r3, .slice p4 c.next.length r4, .slice p5 c.ins.length r5] 37 (0, 0)) := by rw [hV]; exact alloc_last (by simp [go_sem])
  have hR8 : V.heap[w.heap.size + 1 + 1 + 1]? = some (.cells #[.int .i64 0, .slice none 0 0, .int .i64 0, .slice none 0 0, .slice none 0 0, .slice none 0 0] 37 (0, 0)) := by rw [hV]; exact blk_alloc (blk_ext (alloc_last (by simp)))
  have hP : V.heap[w.heap.size + 1 + 1]? = some (.cells #[.int .i64 p.n, .int .i64 p.kind, .int .i64 p.wk.id, .int .i64 p.wk.at_, .int .i64 p.wk.coins, .int .i64 p.wk.seq, .int .i64 p.wk.last, .int .i64 p.coins] 45 (0, 0)) := by rw [hV]; exact blk_alloc (blk_ext (blk_alloc (alloc_last (by simp))))
  have hM : V.heap[w.heap.size]? = some (.cells #[.int .i64 m.c, .int .i64 m.w] 40 (0, 0)) := by rw [hV]; exact blk_alloc (blk_ext (blk_alloc (blk_alloc (blk_alloc (alloc_last rfl)))))
  have hCX : CX V c ⟨p1, r1, p3, r3, p4, r4, p5, r5⟩ B1 B3 B4 B5 := by rw [hV]; exact HCX.out.of zq0
  have hLO : ∀ b ∈ B1 ++ (B3 ++ (B4 ++ B5)), w.heap.size + 1 + 1 + 1 < b ∧ b < w.heap.size + 1 + 1 + 1 + 1 + t.bs.size := fun b hb => by
    have h1 := HLO.out b hb
    have h2 := HCX.out.lt b hb
    simp [go_sem] at h1 h2
    omega
  obtain ⟨g5, cur5, y5, e5, hB5, hl5, hc5, hy5, hb5, hz5, hv5, hu5⟩ := hCX.x5.at Nat.one_pos (fun _ => rfl) hsc
  rw [HI.out] at hy5
  obtain rfl := Option.some.inj hy5
  dsimp only at e5
  subst e5 hB5
  obtain ⟨C, hCe⟩ : ∃ C, w.heap.size + 1 + 1 + 1 + 1 + t.bs.size = C := ⟨_, rfl⟩
  obtain ⟨R8, hRe⟩ : ∃ R, w.heap.size + 1 + 1 + 1 = R := ⟨_, rfl⟩
  obtain ⟨P, hPe⟩ : ∃ P, w.heap.size + 1 + 1 = P := ⟨_, rfl⟩
  have hRw : w.heap.size ≤ R8 := by omega
  have hCw : w.heap.size ≤ C := by omega
  have hRC : R8 < C := by omega
  have hPR : P < R8 := by omega
  rw [hCe] at hC hLO ⊢
  rw [hRe] at hR8 hLO ⊢
  rw [hPe] at hP ⊢
  have lMV := lt_blk hM
  have mm0 := (cell_blk hM 0).trans (show _ = some (Value.int .i64 m.c) from rfl)
  have mm1 := (cell_blk hM 1).trans (show _ = some (Value.int .i64 m.w) from rfl)
  have h5lo := hLO g5 (by simp)
  have nCR : C ≠ R8 := by omega
  have nRC : R8 ≠ C := by omega
  have nCP : C ≠ P := by omega
  have nPC : P ≠ C := by omega
  have nRP : R8 ≠ P := by omega
  have nPR : P ≠ R8 := by omega
  have n5C : g5 ≠ C := by omega
  have nC5 : C ≠ g5 := by omega
  have n5R : g5 ≠ R8 := by omega
  have nR5 : R8 ≠ g5 := by omega
  have n5P : g5 ≠ P := by omega
  have nP5 : P ≠ g5 := by omega
  have f5 : V.cell? ⟨g5, s, none⟩ = some (.int .i64 ix) := (cell_blk hb5 s).trans (by have := hv5 0 _ rfl; simpa using this)
  have z5 := frozen_blk hb5 s
  have l5 := lt_blk hb5
  have lC := lt_blk hC
  have l8 := lt_blk hR8
  have lP := lt_blk hP
  have u0 := (cell_blk hC 0).trans (show _ = some (Value.int .i64 c.cell) from rfl)
  have u1 := (cell_blk hC 1).trans (show _ = some (Value.slice p1 c.wk.length r1) from rfl)
  have u2 := (cell_blk hC 2).trans (show _ = some (Value.int .i64 (c.ground)) from rfl)
  have u3 := (cell_blk hC 3).trans (show _ = some (Value.slice p3 c.outs.length r3) from rfl)
  have u4 := (cell_blk hC 4).trans (show _ = some (Value.slice p4 c.next.length r4) from rfl)
  have u5 := (cell_blk hC 5).trans (show _ = some (Value.slice (some ⟨g5, 0, none⟩) c.ins.length r5) from rfl)
  have uz1 := frozen_blk hC 1
  have uz2 := frozen_blk hC 2
  have v0 := (cell_blk hR8 0).trans (show _ = some (Value.int .i64 0) from rfl)
  have v1 := (cell_blk hR8 1).trans (show _ = some (Value.slice none 0 0) from rfl)
  have v2 := (cell_blk hR8 2).trans (show _ = some (Value.int .i64 0) from rfl)
  have v3 := (cell_blk hR8 3).trans (show _ = some (Value.slice none 0 0) from rfl)
  have v4 := (cell_blk hR8 4).trans (show _ = some (Value.slice none 0 0) from rfl)
  have v5 := (cell_blk hR8 5).trans (show _ = some (Value.slice none 0 0) from rfl)
  have vz0 := frozen_blk hR8 0
  have vz1 := frozen_blk hR8 1
  have vz2 := frozen_blk hR8 2
  have vz3 := frozen_blk hR8 3
  have vz4 := frozen_blk hR8 4
  have vz5 := frozen_blk hR8 5
  have w0 := (cell_blk hP 0).trans (show _ = some (Value.int .i64 p.n) from rfl)
  have w1 := (cell_blk hP 1).trans (show _ = some (Value.int .i64 p.kind) from rfl)
  have w2 := (cell_blk hP 2).trans (show _ = some (Value.int .i64 p.wk.id) from rfl)
  have w3 := (cell_blk hP 3).trans (show _ = some (Value.int .i64 p.wk.at_) from rfl)
  have w4 := (cell_blk hP 4).trans (show _ = some (Value.int .i64 p.wk.coins) from rfl)
  have w5 := (cell_blk hP 5).trans (show _ = some (Value.int .i64 p.wk.seq) from rfl)
  have w6 := (cell_blk hP 6).trans (show _ = some (Value.int .i64 p.wk.last) from rfl)
  have w7 := (cell_blk hP 7).trans (show _ = some (Value.int .i64 p.coins) from rfl)
  have HEV := hid EV
  have HCV := hid hCX
  have HRe1 := hid hCX.x1.reW
  have HLO2 := hid hLO
  have HCb := hid hC
  have H8b := hid hR8
  have H5b := hid hb5
  have HZ5 := hid hz5
  have HU5 := hid hu5
  have HW := hid (show w.heap.size ≤ C ∧ w.heap.size ≤ R8 from ⟨hCw, hRw⟩)
  have hm1 := hCX.x1.max
  have hm5 := hCX.x5.max
  simp only [maxLen] at hm1 hm5
  clear hV hC hR8 hP hM hCX hLO HLO HCX hb5 hz5 hv5 hu5 hy5 hCe hRe hPe EV
  have HLO := hid HLO2.out
  by_cases k0 : p.n = ix
  · have q1 : (p.n == ix) = true := by simpa using k0
    have h1 : (p.n != ix) = false := by simpa using k0
    have h2 : (!(p.n == ix)) = false := by simpa using k0
    rcases HKK.out with k1 | k2
    · have q2 : (p.kind == 2) = false := by rw [k1]; rfl
      have EJ := hid (show iIn m c s p = if wlkHas c.wk p.wk.id = true ∨ plcCell m p.wk.at_ ≠ c.cell then (c, false) else ({ c with wk := wlkPut c.wk p.wk, ins := c.ins.set s (ix + 1) }, true) by rw [EK.out, if_neg (by simp [k0]), if_neg (by omega)])
      clear k0 k1
      obtain ⟨pc, hpc⟩ : ∃ pc, plcCell m p.wk.at_ = pc := ⟨_, rfl⟩
      have HPC := hid hpc
      obtain ⟨z, hz⟩ : ∃ z, wlkGet c.wk p.wk.id = z := ⟨_, rfl⟩
      obtain ⟨hs9, hh⟩ : ∃ b, wlkHas c.wk p.wk.id = b := ⟨_, rfl⟩
      have HZ := hid hz
      have HH := hid hh
      clear hz
      with_reducible refine wp_region_ext (by kernel_rfl) (by kernel_rfl) ?_
      repeat (go_big_quiet_step (fail))
      refine wpQuiet_nil ?_
      rintro _ ⟨tq, rfl⟩
      go_wp2_with (first | (go_at_call 37; (with_reducible refine (sWlkFind_c c.wk _ _ _ p.wk.id _ (HRe1.out.of zq0) hl).mono ?_); rw [HZ.out, HH.out]; rintro e w' ⟨rfl, t2, rfl⟩))
      cases hs9 with
      | true =>
        have E := hid (show iIn m c s p = (c, false) by rw [EJ.out, if_pos (by simp [hh])])
        clear hh hpc
        with_reducible refine wp_region_ext (by kernel_rfl) (by kernel_rfl) ?_
        repeat (go_big_quiet_step ((first | (go_at_call 84; first | exact quiet_call (sPlcCell_g _ _ _ _ (by assumption)) | exact quiet_call2 (sPlcCell_g _ _ _ _ (by assumption))))))
        refine wpQuiet_nil ?_
        rintro _ ⟨tq, rfl⟩
        go_wp2_with (fail)
        rw [E.out]
        refine bodyPost_ret (v := .tuple #[.agg #[.int .i64 c.cell, .slice p1 c.wk.length r1, .int .i64 c.ground, .slice p3 c.outs.length r3, .slice p4 c.next.length r4, .slice (some ⟨g5, 0, none⟩) c.ins.length r5], .bool false]) (by simp [results, Try.results47, go_sem, v0, v1, v2, v3, v4, v5, l8]) rfl ?_
        refine ⟨⟨p1, r1, p3, r3, p4, r4, some ⟨g5, 0, none⟩, r5⟩, rfl, Ext.of_below (Below.chg (w0 := w) HEV.out.below (B := [R8]) zq2 (by simpa using HW.out.2)), ?_⟩
        exact CX.own (HCV.out.chg (B' := [R8]) zq2 (fun b hb => by have := HLO.out b hb; simp only [List.mem_singleton]; omega)) (fun b hb => by have := HLO.out b hb; omega)
      | false =>
        by_cases k3 : pc = c.cell
        · have q3 : (pc == c.cell) = true := by simpa using k3
          have h1 : (pc != c.cell) = false := by simpa using k3
          have h2 : (!(pc == c.cell)) = false := by simpa using k3
          have E := hid (show iIn m c s p = ({ c with wk := wlkPut c.wk p.wk, ins := c.ins.set s (ix + 1) }, true) by rw [EJ.out, if_neg (by simp [hh, hpc, k3])])
          clear hh hpc k3
          with_reducible refine wp_region_ext (by kernel_rfl) (by kernel_rfl) ?_
          repeat (go_big_quiet_step ((first | (go_at_call 84; first | exact quiet_call (sPlcCell_g _ _ _ _ (by assumption)) | exact quiet_call2 (sPlcCell_g _ _ _ _ (by assumption))))))
          refine wpQuiet_nil ?_
          rintro _ ⟨tq, rfl⟩
          go_wp2_with (first | (go_at_call 95; (with_reducible refine (sWlkPut_c c.wk p.wk _ _ _ _ (HRe1.out.of zq0) hl).mono ?_); rintro e w' ⟨p6, r6, D6, rfl, ⟨t6, rfl⟩, ho, hb⟩; have HR6 := hid ho; have HD6 := hid hb; clear ho hb))
          refine wp_gen fun V2 hV2 => ?_
          have bC2 : V2.heap[C]? = some (.cells #[.int .i64 c.cell, .slice p6 (wlkPut c.wk p.wk).length r6, .int .i64 c.ground, .slice p3 c.outs.length r3, .slice p4 c.next.length r4, .slice (some ⟨g5, 0, none⟩) c.ins.length r5] 37 (0, 0)) := by rw [hV2]; exact (by (repeat (first | with_reducible apply blk_drew | (with_reducible refine blk_other ?_ (by first | assumption | omega)) | with_reducible refine blk_ext ?_ | with_reducible refine blk_alloc ?_)); apply blk_set2; (repeat (first | with_reducible exact HCb.out | with_reducible apply blk_drew | (with_reducible refine blk_other ?_ (by first | assumption | omega)) | with_reducible refine blk_ext ?_ | with_reducible refine blk_alloc ?_)); rfl)
          have b82 : V2.heap[R8]? = some (.cells #[.int .i64 0, .slice none 0 0, .int .i64 0, .slice none 0 0, .slice none 0 0, .slice none 0 0] 37 (0, 0)) := by rw [hV2]; exact (by repeat (first | with_reducible exact H8b.out | with_reducible apply blk_drew | with_reducible refine blk_set ?_ | (with_reducible refine blk_other ?_ (by first | assumption | omega)) | with_reducible refine blk_ext ?_ | with_reducible refine blk_alloc ?_))
          have b52 : V2.heap[g5]? = some (.cells cur5 3 (0, 0)) := by rw [hV2]; exact (by repeat (first | with_reducible exact H5b.out | with_reducible apply blk_drew | with_reducible refine blk_set ?_ | (with_reducible refine blk_other ?_ (by first | assumption | omega)) | with_reducible refine blk_ext ?_ | with_reducible refine blk_alloc ?_))
          have hD6 : ∀ b ∈ D6, V.heap.size ≤ b := fun b hb => Nat.le_trans zq1 (HD6.out b hb)
          have hlt2 : ∀ b ∈ D6 ++ (B3 ++ (B4 ++ [g5])), w.heap.size ≤ b ∧ b ≠ C ∧ b ≠ R8 := fun b hb => by
            have := HW.out
            rcases List.mem_append.1 hb with h9 | h9
            · have := hD6 b h9; omega
            · have := HLO.out b (List.mem_append_right _ h9); omega
          have hc2 : Chg [C] V V2 := by rw [hV2]; exact zq2
          have hr2 : RowX V2 43 5 Wlk.cells (.slice p6 (wlkPut c.wk p.wk).length r6) (wlkPut c.wk p.wk) D6 := by
            have Q := HR6.out
            (try rw [ext_ext] at Q)
            rw [hV2]
            apply Q.fin (fun b hb => Nat.le_trans zq1 (HD6.out b hb))
            · exact Ext.refl _
            · simp [go_sem]
          have hx2 : CX V2 { c with wk := wlkPut c.wk p.wk } ⟨p6, r6, p3, r3, p4, r4, some ⟨g5, 0, none⟩, r5⟩ D6 B3 B4 [g5] := HCV.out.setWkR hc2 (fun b hb => by have := hlt2 b (List.mem_append_right _ hb); simp only [List.mem_singleton]; omega) hr2 hD6
          have x0 := (cell_blk bC2 0).trans (show _ = some (Value.int .i64 c.cell) from rfl)
          have x1 := (cell_blk bC2 1).trans (show _ = some (Value.slice p6 (wlkPut c.wk p.wk).length r6) from rfl)
          have x2 := (cell_blk bC2 2).trans (show _ = some (Value.int .i64 c.ground) from rfl)
          have x3 := (cell_blk bC2 3).trans (show _ = some (Value.slice p3 c.outs.length r3) from rfl)
          have x4 := (cell_blk bC2 4).trans (show _ = some (Value.slice p4 c.next.length r4) from rfl)
          have x5 := (cell_blk bC2 5).trans (show _ = some (Value.slice (some ⟨g5, 0, none⟩) c.ins.length r5) from rfl)
          have y0 := (cell_blk b82 0).trans (show _ = some (Value.int .i64 0) from rfl)
          have y1 := (cell_blk b82 1).trans (show _ = some (Value.slice none 0 0) from rfl)
          have y2 := (cell_blk b82 2).trans (show _ = some (Value.int .i64 0) from rfl)
          have y3 := (cell_blk b82 3).trans (show _ = some (Value.slice none 0 0) from rfl)
          have y4 := (cell_blk b82 4).trans (show _ = some (Value.slice none 0 0) from rfl)
          have y5 := (cell_blk b82 5).trans (show _ = some (Value.slice none 0 0) from rfl)
          have yz0 := frozen_blk b82 0
          have yz1 := frozen_blk b82 1
          have yz2 := frozen_blk b82 2
          have yz3 := frozen_blk b82 3
          have yz4 := frozen_blk b82 4
          have yz5 := frozen_blk b82 5
          have j5 := (cell_blk b52 s).trans ((cell_blk H5b.out s).symm.trans f5)
          have jz := frozen_blk b52 s
          have lC2 := lt_blk bC2
          have l82 := lt_blk b82
          have l52 := lt_blk b52
          have HX2 := hid hx2
          have HT2 := hid hlt2
          have HB2 := hid (show Below w.heap.size w V2 from Below.chg (w0 := w) HEV.out.below hc2 (by simpa using HW.out.1))
          have H52 := hid b52
          clear hV2 bC2 b82 b52 hD6 hlt2 hc2 hr2 hx2 u0 u1 u2 u3 u4 u5 uz1 uz2 v0 v1 v2 v3 v4 v5 vz0 vz1 vz2 vz3 vz4 vz5 f5 z5
          go_region
          go_wp2_with (fail)
          rw [E.out]
          have v0 := y0
          have v1 := y1
          have v2 := y2
          have v3 := y3
          have v4 := y4
          have v5 := y5
          have l8 := l82
          have HLO := hid (fun b hb => (HT2.out b hb).2)
          refine bodyPost_ret (v := .tuple #[.agg #[.int .i64 c.cell, .slice p6 (wlkPut c.wk p.wk).length r6, .int .i64 (c.ground), .slice p3 c.outs.length r3, .slice p4 c.next.length r4, .slice (some ⟨g5, 0, none⟩) c.ins.length r5], .bool true]) (by simp [results, Try.results47, go_sem, v0, v1, v2, v3, v4, v5, l8]) rfl ?_
          obtain ⟨i1, i2⟩ := icells_put (cur := cur5) (k := s) (v := ix + 1) (by have := HZ5.out; omega)
          refine ⟨⟨p6, r6, p3, r3, p4, r4, some ⟨g5, 0, none⟩, r5⟩, by simp only [List.length_set], Ext.of_below (Below.chg (w0 := w) HB2.out (B := [g5, C, R8]) zq2 (by have := HW.out; simp only [List.mem_cons, List.not_mem_nil, or_false, forall_eq_or_imp, forall_eq]; omega)), ?_⟩
          refine CX.own ((CX.insR HX2.out (R := [C, R8]) zq2 (fun b hb => by have := HT2.out b hb; simp only [List.mem_cons, List.not_mem_nil, or_false]; omega) (by simp only [List.length_set]; exact HU5.out _ (cur5.setIfInBounds s (.int .i64 (ix + 1))) _ (by exact (by repeat (first | with_reducible exact H52.out | with_reducible apply blk_drew | with_reducible refine blk_set ?_ | (with_reducible refine blk_other ?_ (by first | assumption | omega)) | with_reducible refine blk_ext ?_ | with_reducible refine blk_alloc ?_))) (by simp) i1 i2)).flat rfl rfl rfl rfl) (fun b hb => by have := HT2.out b hb; omega)
        · have q3 : (pc == c.cell) = false := by simpa using k3
          have h1 : (pc != c.cell) = true := by simpa using k3
          have h2 : (!(pc == c.cell)) = true := by simpa using k3
          have E := hid (show iIn m c s p = (c, false) by rw [EJ.out, if_pos (by simp [hpc, k3])])
          clear hh hpc k3
          with_reducible refine wp_region_ext (by kernel_rfl) (by kernel_rfl) ?_
          repeat (go_big_quiet_step ((first | (go_at_call 84; first | exact quiet_call (sPlcCell_g _ _ _ _ (by assumption)) | exact quiet_call2 (sPlcCell_g _ _ _ _ (by assumption))))))
          refine wpQuiet_nil ?_
          rintro _ ⟨tq, rfl⟩
          go_wp2_with (fail)
          rw [E.out]
          refine bodyPost_ret (v := .tuple #[.agg #[.int .i64 c.cell, .slice p1 c.wk.length r1, .int .i64 c.ground, .slice p3 c.outs.length r3, .slice p4 c.next.length r4, .slice (some ⟨g5, 0, none⟩) c.ins.length r5], .bool false]) (by simp [results, Try.results47, go_sem, v0, v1, v2, v3, v4, v5, l8]) rfl ?_
          refine ⟨⟨p1, r1, p3, r3, p4, r4, some ⟨g5, 0, none⟩, r5⟩, rfl, Ext.of_below (Below.chg (w0 := w) HEV.out.below (B := [R8]) zq2 (by simpa using HW.out.2)), ?_⟩
          exact CX.own (HCV.out.chg (B' := [R8]) zq2 (fun b hb => by have := HLO.out b hb; simp only [List.mem_singleton]; omega)) (fun b hb => by have := HLO.out b hb; omega)
    · have q2 : (p.kind == 2) = true := by rw [k2]; rfl
      by_cases k3 : c.ground + p.coins > 900
      · have E := hid (show iIn m c s p = (c, false) by rw [EK.out, if_neg (by simp [k0]), if_pos k2, if_pos k3])
        clear k0 k2
        with_reducible refine wp_region_ext (by kernel_rfl) (by kernel_rfl) ?_
        repeat (go_big_quiet_step (fail))
        refine wpQuiet_nil ?_
        rintro _ ⟨tq, rfl⟩
        go_wp2_with (fail)
        rw [E.out]
        refine bodyPost_ret (v := .tuple #[.agg #[.int .i64 c.cell, .slice p1 c.wk.length r1, .int .i64 c.ground, .slice p3 c.outs.length r3, .slice p4 c.next.length r4, .slice (some ⟨g5, 0, none⟩) c.ins.length r5], .bool false]) (by simp [results, Try.results47, go_sem, v0, v1, v2, v3, v4, v5, l8]) rfl ?_
        refine ⟨⟨p1, r1, p3, r3, p4, r4, some ⟨g5, 0, none⟩, r5⟩, rfl, Ext.of_below (Below.chg (w0 := w) HEV.out.below (B := [R8]) zq2 (by simpa using HW.out.2)), ?_⟩
        exact CX.own (HCV.out.chg (B' := [R8]) zq2 (fun b hb => by have := HLO.out b hb; simp only [List.mem_singleton]; omega)) (fun b hb => by have := HLO.out b hb; omega)
      · have E := hid (show iIn m c s p = ({ c with ground := c.ground + p.coins, ins := c.ins.set s (ix + 1) }, true) by rw [EK.out, if_neg (by simp [k0]), if_pos k2, if_neg k3])
        clear k0 k2
        with_reducible refine wp_region_ext (by kernel_rfl) (by kernel_rfl) ?_
        repeat (go_big_quiet_step (fail))
        refine wpQuiet_nil ?_
        rintro _ ⟨tq, rfl⟩
        go_wp2_with (fail)
        go_region
        go_wp2_with (fail)
        rw [E.out]
        refine bodyPost_ret (v := .tuple #[.agg #[.int .i64 c.cell, .slice p1 (c.wk).length r1, .int .i64 (c.ground + p.coins), .slice p3 c.outs.length r3, .slice p4 c.next.length r4, .slice (some ⟨g5, 0, none⟩) c.ins.length r5], .bool true]) (by simp [results, Try.results47, go_sem, v0, v1, v2, v3, v4, v5, l8]) rfl ?_
        obtain ⟨i1, i2⟩ := icells_put (cur := cur5) (k := s) (v := ix + 1) (by have := HZ5.out; omega)
        refine ⟨⟨p1, r1, p3, r3, p4, r4, some ⟨g5, 0, none⟩, r5⟩, by simp only [List.length_set], Ext.of_below (Below.chg (w0 := w) HEV.out.below (B := [g5, C, R8]) zq2 (by have := HW.out; simp only [List.mem_cons, List.not_mem_nil, or_false, forall_eq_or_imp, forall_eq]; omega)), ?_⟩
        refine CX.own ((CX.insR HCV.out (R := [C, R8]) zq2 (fun b hb => by have := HLO.out b hb; simp only [List.mem_cons, List.not_mem_nil, or_false]; omega) (by simp only [List.length_set]; exact HU5.out _ (cur5.setIfInBounds s (.int .i64 (ix + 1))) _ (by exact (by (repeat (first | with_reducible apply blk_drew | (with_reducible refine blk_other ?_ (by first | assumption | omega)) | with_reducible refine blk_ext ?_ | with_reducible refine blk_alloc ?_)); apply blk_set2; (repeat (first | with_reducible exact H5b.out | with_reducible apply blk_drew | (with_reducible refine blk_other ?_ (by first | assumption | omega)) | with_reducible refine blk_ext ?_ | with_reducible refine blk_alloc ?_)); rfl)) (by simp) i1 i2)).flat rfl rfl rfl rfl) (fun b hb => by have := HLO.out b hb; omega)
  · have q1 : (p.n == ix) = false := by simpa using k0
    have h1 : (p.n != ix) = true := by simpa using k0
    have h2 : (!(p.n == ix)) = true := by simpa using k0
    have E := hid (show iIn m c s p = (c, false) by rw [EK.out, if_pos k0])
    clear k0
    with_reducible refine wp_region_ext (by kernel_rfl) (by kernel_rfl) ?_
    repeat (go_big_quiet_step (fail))
    refine wpQuiet_nil ?_
    rintro _ ⟨tq, rfl⟩
    go_wp2_with (fail)
    rw [E.out]
    refine bodyPost_ret (v := .tuple #[.agg #[.int .i64 c.cell, .slice p1 c.wk.length r1, .int .i64 c.ground, .slice p3 c.outs.length r3, .slice p4 c.next.length r4, .slice (some ⟨g5, 0, none⟩) c.ins.length r5], .bool false]) (by simp [results, Try.results47, go_sem, v0, v1, v2, v3, v4, v5, l8]) rfl ?_
    refine ⟨⟨p1, r1, p3, r3, p4, r4, some ⟨g5, 0, none⟩, r5⟩, rfl, Ext.of_below (Below.chg (w0 := w) HEV.out.below (B := [R8]) zq2 (by simpa using HW.out.2)), ?_⟩
    exact CX.own (HCV.out.chg (B' := [R8]) zq2 (fun b hb => by have := HLO.out b hb; simp only [List.mem_singleton]; omega)) (fun b hb => by have := HLO.out b hb; omega)
end Go.Proofs.Ytablgohncilmfaa

