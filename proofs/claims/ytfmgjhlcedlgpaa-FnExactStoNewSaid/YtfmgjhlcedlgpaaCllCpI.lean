/- The program's copy of a cell. -/
import Derived.Test.YtfmgjhlcedlgpaaCllCp
import Derived.Test.YtfmgjhlcedlgpaaFlowK
import Derived.Test.YtfmgjhlcedlgpaaGapL
import Derived.Test.YtfmgjhlcedlgpaaApp
namespace Go.Proofs.Ytfmgjhlcedlgpaa
open Go.RowKit
set_option linter.unusedSimpArgs false
set_option linter.unusedVariables false

theorem chg_six {Y X : World} {b : Nat} {v0 v1 v2 v3 v4 v5 : Value} (h : X = (((((Y.setCell ⟨b, 0, none⟩ v0).setCell ⟨b, 1, none⟩ v1).setCell ⟨b, 2, none⟩ v2).setCell ⟨b, 3, none⟩ v3).setCell ⟨b, 4, none⟩ v4).setCell ⟨b, 5, none⟩ v5) : Chg [b] Y X := by
  rw [h]; exact (Chg.set (Chg.set (Chg.set (Chg.set (Chg.set (Chg.set (Chg.refl _ _) (by simp) _) (by simp) _) (by simp) _) (by simp) _) (by simp) _) (by simp) _)
theorem rowX_R {α : Type} {w : World} {T : TypeId} {k lo : Nat} {cells : α → List Value} {v : Value} {xs : List α} {B : List Nat} (h : RowX w T k cells v xs B) (hB : ∀ b ∈ B, lo ≤ b) (hlo : lo ≤ w.heap.size) : ∃ R, (∀ b ∈ B, b = R) ∧ lo ≤ R ∧ R ≠ w.heap.size := by
  have hl := h.lt
  rcases h with ⟨_, rfl, _⟩ | ⟨g, cap, cur, _, rfl, _⟩
  · exact ⟨w.heap.size + 1, by simp, by omega, by omega⟩
  · exact ⟨g, by simp, hB g (by simp), by have := hl g (by simp); omega⟩
/-- What the program's copy of a cell owns. -/
theorem cll_four {c : Cll} {X wr : World} {l1 h1 l4 h4 l5 h5 lo T : Nat} {p1 p4 p5 : Option Addr} {q1 q4 q5 : Nat} {v3 : Value} {B1 B3 B4 B5 : List Nat}
    (x1 : RowX X 29 5 Wlk.cells (.slice p1 c.wk.length q1) c.wk B1) (r1 : ∀ b ∈ B1, l1 ≤ b ∧ b < h1) (x4 : RowX X 3 1 icells (.slice p4 c.next.length q4) c.next B4) (r4 : ∀ b ∈ B4, l4 ≤ b ∧ b < h4) (x5 : RowX X 3 1 icells (.slice p5 c.ins.length q5) c.ins B5) (r5 : ∀ b ∈ B5, l5 ≤ b ∧ b < h5)
    (d14 : h1 ≤ l4 ∨ h4 ≤ l1) (d15 : h1 ≤ l5 ∨ h5 ≤ l1) (d45 : h4 ≤ l5 ∨ h5 ≤ l4) (hl1 : lo ≤ l1) (hl4 : lo ≤ l4) (hl5 : lo ≤ l5) (t1 : T < l1 ∨ h1 ≤ T) (t4 : T < l4 ∨ h4 ≤ T) (t5 : T < l5 ∨ h5 ≤ T)
    (hc : Chg [T] X wr) (hlo : lo ≤ X.heap.size) (x3 : RowSS wr 69 95 8 Pcl.cells v3 c.outs B3) (r3 : ∀ b ∈ B3, X.heap.size ≤ b) :
    ∃ p3 q3, v3 = .slice p3 c.outs.length q3 ∧ CX wr c ⟨p1, q1, p3, q3, p4, q4, p5, q5⟩ B1 B3 B4 B5 ∧ ∀ b ∈ B1 ++ (B3 ++ (B4 ++ B5)), lo ≤ b := by
  obtain ⟨p3, q3, rfl⟩ := x3.slice
  have k1 := x1.lt; have k4 := x4.lt; have k5 := x5.lt
  refine ⟨p3, q3, rfl, ⟨x1.chg hc fun b hb => ?_, x3, x4.chg hc fun b hb => ?_, x5.chg hc fun b hb => ?_, ?_⟩, fun b hb => ?_⟩
  · have := r1 b hb; simp; omega
  · have := r4 b hb; simp; omega
  · have := r5 b hb; simp; omega
  · refine List.nodup_append.2 ⟨x1.nodup, List.nodup_append.2 ⟨x3.nodup, List.nodup_append.2 ⟨x4.nodup, x5.nodup, fun a ha b hb e => ?_⟩, fun a ha b hb e => ?_⟩, fun a ha b hb e => ?_⟩
    · have := r4 a ha; have := r5 b hb; omega
    · have := r3 a ha
      rcases List.mem_append.1 hb with hb | hb
      · have := k4 b hb; omega
      · have := k5 b hb; omega
    · have := r1 a ha; have := k1 a ha
      rcases List.mem_append.1 hb with hb | hb
      · have := r3 b hb; omega
      · rcases List.mem_append.1 hb with hb | hb
        · have := r4 b hb; omega
        · have := r5 b hb; omega
  · rcases List.mem_append.1 hb with hb | hb
    · have := r1 b hb; omega
    · rcases List.mem_append.1 hb with hb | hb
      · have := r3 b hb; omega
      · rcases List.mem_append.1 hb with hb | hb
        · have := r4 b hb; omega
        · have := r5 b hb; omega
set_option maxRecDepth 100000 in
set_option maxHeartbeats 40000000 in
theorem iCllCopy_x (c : Cll) (h : CllH) (w : World) (hx : ReC w c h) (hb : BdC c) :
    Calls Try.prog 62 #[.agg #[.int .i64 c.cell, .slice h.a1 c.wk.length h.c1, .int .i64 c.ground, .slice h.a3 c.outs.length h.c3, .slice h.a4 c.next.length h.c4, .slice h.a5 c.ins.length h.c5]] w (MadeCX w c) := by
  obtain ⟨a1, c1, a3, c3, a4, c4, a5, c5⟩ := h
  obtain ⟨r1, r3, r4, r5⟩ := hx
  obtain ⟨b1, b3, bo, b4, b5⟩ := hb
  dsimp only at r1 r3 r4 r5 ⊢
  have H1 := hid r1
  have H3 := hid r3
  have H4 := hid r4
  have H5 := hid r5
  have BO := hid bo
  clear r1 r3 r4 r5 bo
  go_enter Try.func62, Try.ntmps62
  try go_wp2_with (first
      | fail
      | (
        with_reducible refine wp_region_mix (by kernel_rfl) (by decide +kernel) ?_
        repeat (first
          | (refine mix_pure rfl ?_; (first | go_big_quiet_skip | (go_big_quiet_want; go_big_quiet_op; go_big_quiet_on)); refine wpQuiet_nil ?_)
          | (refine mix_skip (by rfl) ?_; (try simp only [Act.put, List.setIfInBounds_toArray, List.set_cons_zero, List.set_cons_succ]))
          | (refine mix_mk rfl (by rfl) (fun K hK => ?_); (first | (go_simp; first | skip)); (show K _ _); refine hK _ _ (show Ext _ _ from (by ((try simp only [ext_drew]); (try simp only [ext_ext]); repeat (first | exact Ext.refl _ | with_reducible apply Ext.add | with_reducible apply Ext.dr | apply Ext.alloc | apply Ext.ext | apply Ext.drew | refine Ext.trans ?_ (by assumption))))) ?_; clear hK K; (try simp only [Act.put, List.setIfInBounds_toArray, List.set_cons_zero, List.set_cons_succ])))
        refine mix_nil ?_)
      | (
        with_reducible refine wp_region_ext (by kernel_rfl) (by kernel_rfl) ?_
        repeat (first | go_big_quiet_skip | (go_big_quiet_want; go_big_quiet_op; first | go_big_quiet_on | (apply Exists.intro; refine ⟨fun _ => ?_, ?_⟩; (fail); (try rw [h1]); (try rw [h2]); (try rw [h3]); (try rw [h4]); (try rw [p1]); (try rw [p2]); (try rw [p3]); (try rw [p4]); (try rw [r1]); (try rw [r2]); (try rw [r3]); (try rw [r4]); (try rw [r5]); (try rw [r6]); (try rw [q3]); (try rw [q4]); (try rw [hp]); (try rw [hq]); go_big_quiet_on)))
        refine wpQuiet_nil ?_
        rintro _ ⟨tq, rfl⟩))
  refine wp_region_flow [6, 7, 8, 9, 10, 11, 12, 13, 14, 15, 16, 17, 18, 19, 3] (fun i σ lo hi w9 => match i with
    | 0 => σ 0 = .pointer (some ⟨w.heap.size, 0, none⟩)
    | 1 => σ 1 = .int .i64 c.cell
    | 2 => σ 2 = .pointer (some ⟨w.heap.size, 1, none⟩)
    | 3 => σ 3 = .slice a1 c.wk.length c1
    | 4 => MkX 29 5 Wlk.cells c.wk (σ 4) lo hi w9
    | 5 => σ 5 = .pointer (some ⟨w.heap.size, 2, none⟩)
    | 6 => σ 6 = .int .i64 c.ground
    | 7 => σ 7 = .pointer (some ⟨w.heap.size, 4, none⟩)
    | 8 => σ 8 = .slice a4 c.next.length c4
    | 9 => MkX 3 1 icells c.next (σ 9) lo hi w9
    | 10 => σ 10 = .pointer (some ⟨w.heap.size, 5, none⟩)
    | 11 => σ 11 = .slice a5 c.ins.length c5
    | 12 => MkX 3 1 icells c.ins (σ 12) lo hi w9
    | 13 => σ 13 = .agg #[.int .i64 c.cell, σ 4, .int .i64 c.ground, .slice none 0 0, σ 9, σ 12]
    | _ => MkA #[.int .i64 0, .slice none 0 0, .int .i64 0, .slice none 0 0, .slice none 0 0, .slice none 0 0] 39 (σ 14) lo hi w9) (by kernel_rfl) (by decide +kernel) (by simp) ?_ ?_ ?_ ?_
  · intro i oo hi ho σ σ' lo hi' w9 h hS
    match i, hi, ho with
    | 0, _, ho =>
      have e0 := h 0 (.inl rfl)
      try dsimp only at hS ⊢
      rw [e0] at hS
      exact hS
    | 1, _, ho =>
      have e0 := h 1 (.inl rfl)
      try dsimp only at hS ⊢
      rw [e0] at hS
      exact hS
    | 2, _, ho =>
      have e0 := h 2 (.inl rfl)
      try dsimp only at hS ⊢
      rw [e0] at hS
      exact hS
    | 3, _, ho =>
      have e0 := h 3 (.inl rfl)
      try dsimp only at hS ⊢
      rw [e0] at hS
      exact hS
    | 4, _, ho =>
      have e0 := h 4 (.inl rfl)
      try dsimp only at hS ⊢
      rw [e0] at hS
      exact hS
    | 5, _, ho =>
      have e0 := h 5 (.inl rfl)
      try dsimp only at hS ⊢
      rw [e0] at hS
      exact hS
    | 6, _, ho =>
      have e0 := h 6 (.inl rfl)
      try dsimp only at hS ⊢
      rw [e0] at hS
      exact hS
    | 7, _, ho =>
      have e0 := h 7 (.inl rfl)
      try dsimp only at hS ⊢
      rw [e0] at hS
      exact hS
    | 8, _, ho =>
      have e0 := h 8 (.inl rfl)
      try dsimp only at hS ⊢
      rw [e0] at hS
      exact hS
    | 9, _, ho =>
      have e0 := h 9 (.inl rfl)
      try dsimp only at hS ⊢
      rw [e0] at hS
      exact hS
    | 10, _, ho =>
      have e0 := h 10 (.inl rfl)
      try dsimp only at hS ⊢
      rw [e0] at hS
      exact hS
    | 11, _, ho =>
      have e0 := h 11 (.inl rfl)
      try dsimp only at hS ⊢
      rw [e0] at hS
      exact hS
    | 12, _, ho =>
      have e0 := h 12 (.inl rfl)
      try dsimp only at hS ⊢
      rw [e0] at hS
      exact hS
    | 13, _, ho =>
      have e0 := h 13 (.inl rfl)
      obtain rfl := Option.some.inj ho
      have e5 := h 4 (.inr (by kernel_rfl))
      have e10 := h 9 (.inr (by kernel_rfl))
      have e13 := h 12 (.inr (by kernel_rfl))
      try dsimp only at hS ⊢
      rw [e0, e5, e10, e13] at hS
      exact hS
    | 14, _, ho =>
      have e0 := h 14 (.inl rfl)
      try dsimp only at hS ⊢
      rw [e0] at hS
      exact hS
  · intro i hi σ lo hi' w9 w8 hS hle hE
    match i, hi with
    | 0, _ => exact hS
    | 1, _ => exact hS
    | 2, _ => exact hS
    | 3, _ => exact hS
    | 4, _ => exact MkX.ext hS hE
    | 5, _ => exact hS
    | 6, _ => exact hS
    | 7, _ => exact hS
    | 8, _ => exact hS
    | 9, _ => exact MkX.ext hS hE
    | 10, _ => exact hS
    | 11, _ => exact hS
    | 12, _ => exact MkX.ext hS hE
    | 13, _ => exact hS
    | 14, _ => exact MkA.ext hS hE
  · intro i oo hi ho σ L H w9 hE hd
    obtain ⟨t9, rfl⟩ := hE
    match i, hi, ho with
    | 0, _, ho =>
      obtain rfl := Option.some.inj ho
      clear hd ho
      simp only [actS, putS, List.setIfInBounds_toArray, List.set_cons_zero, List.set_cons_succ, Nat.reduceAdd]
      refine flow_K (fun K hK => ?_)
      go_simp
      (show K _ _)
      exact hK _ _ ⟨_, rfl, (show Ext _ _ from (by ((try simp only [ext_drew]); (try simp only [ext_ext]); repeat (first | exact Ext.refl _ | with_reducible apply Ext.add | with_reducible apply Ext.dr | apply Ext.alloc | apply Ext.ext | apply Ext.drew | refine Ext.trans ?_ (by assumption))))), rfl⟩
    | 1, _, ho =>
      obtain rfl := Option.some.inj ho
      have e0 : σ 0 = .pointer (some ⟨w.heap.size, 0, none⟩) := (hd 0 (by kernel_rfl)).2.2.2
      clear hd ho
      simp only [actS, putS, List.setIfInBounds_toArray, List.set_cons_zero, List.set_cons_succ, Nat.reduceAdd, e0]
      refine flow_K (fun K hK => ?_)
      go_simp
      (show K _ _)
      exact hK _ _ ⟨_, rfl, (show Ext _ _ from (by ((try simp only [ext_drew]); (try simp only [ext_ext]); repeat (first | exact Ext.refl _ | with_reducible apply Ext.add | with_reducible apply Ext.dr | apply Ext.alloc | apply Ext.ext | apply Ext.drew | refine Ext.trans ?_ (by assumption))))), rfl⟩
    | 2, _, ho =>
      obtain rfl := Option.some.inj ho
      clear hd ho
      simp only [actS, putS, List.setIfInBounds_toArray, List.set_cons_zero, List.set_cons_succ, Nat.reduceAdd]
      refine flow_K (fun K hK => ?_)
      go_simp
      (show K _ _)
      exact hK _ _ ⟨_, rfl, (show Ext _ _ from (by ((try simp only [ext_drew]); (try simp only [ext_ext]); repeat (first | exact Ext.refl _ | with_reducible apply Ext.add | with_reducible apply Ext.dr | apply Ext.alloc | apply Ext.ext | apply Ext.drew | refine Ext.trans ?_ (by assumption))))), rfl⟩
    | 3, _, ho =>
      obtain rfl := Option.some.inj ho
      have e2 : σ 2 = .pointer (some ⟨w.heap.size, 1, none⟩) := (hd 2 (by kernel_rfl)).2.2.2
      clear hd ho
      simp only [actS, putS, List.setIfInBounds_toArray, List.set_cons_zero, List.set_cons_succ, Nat.reduceAdd, e2]
      refine flow_K (fun K hK => ?_)
      go_simp
      (show K _ _)
      exact hK _ _ ⟨_, rfl, (show Ext _ _ from (by ((try simp only [ext_drew]); (try simp only [ext_ext]); repeat (first | exact Ext.refl _ | with_reducible apply Ext.add | with_reducible apply Ext.dr | apply Ext.alloc | apply Ext.ext | apply Ext.drew | refine Ext.trans ?_ (by assumption))))), rfl⟩
    | 4, _, ho =>
      obtain rfl := Option.some.inj ho
      have e3 : σ 3 = .slice a1 c.wk.length c1 := (hd 3 (by kernel_rfl)).2.2.2
      clear hd ho
      simp only [actS, putS, List.setIfInBounds_toArray, List.set_cons_zero, List.set_cons_succ, Nat.reduceAdd, e3]
      refine flow_K (fun K hK => ?_)
      go_simp
      refine (iCloneWlk_x c.wk a1 _ c1 _ (H1.out.of (by ((try simp only [ext_drew]); (try simp only [ext_ext]); repeat (first | exact Ext.refl _ | with_reducible apply Ext.add | with_reducible apply Ext.dr | apply Ext.alloc | apply Ext.ext | apply Ext.drew | refine Ext.trans ?_ (by assumption))))) (by omega)).mono ?_
      rintro e w8 ⟨a', c', B', rfl, hE', hr', hb'⟩
      (show K _ _)
      exact hK _ _ ⟨_, rfl, hE', ⟨_, _, B', rfl, hr', fun b hb => ⟨hb' b hb, hr'.lt b hb⟩⟩⟩
    | 5, _, ho =>
      obtain rfl := Option.some.inj ho
      clear hd ho
      simp only [actS, putS, List.setIfInBounds_toArray, List.set_cons_zero, List.set_cons_succ, Nat.reduceAdd]
      refine flow_K (fun K hK => ?_)
      go_simp
      (show K _ _)
      exact hK _ _ ⟨_, rfl, (show Ext _ _ from (by ((try simp only [ext_drew]); (try simp only [ext_ext]); repeat (first | exact Ext.refl _ | with_reducible apply Ext.add | with_reducible apply Ext.dr | apply Ext.alloc | apply Ext.ext | apply Ext.drew | refine Ext.trans ?_ (by assumption))))), rfl⟩
    | 6, _, ho =>
      obtain rfl := Option.some.inj ho
      have e5 : σ 5 = .pointer (some ⟨w.heap.size, 2, none⟩) := (hd 5 (by kernel_rfl)).2.2.2
      clear hd ho
      simp only [actS, putS, List.setIfInBounds_toArray, List.set_cons_zero, List.set_cons_succ, Nat.reduceAdd, e5]
      refine flow_K (fun K hK => ?_)
      go_simp
      (show K _ _)
      exact hK _ _ ⟨_, rfl, (show Ext _ _ from (by ((try simp only [ext_drew]); (try simp only [ext_ext]); repeat (first | exact Ext.refl _ | with_reducible apply Ext.add | with_reducible apply Ext.dr | apply Ext.alloc | apply Ext.ext | apply Ext.drew | refine Ext.trans ?_ (by assumption))))), rfl⟩
    | 7, _, ho =>
      obtain rfl := Option.some.inj ho
      clear hd ho
      simp only [actS, putS, List.setIfInBounds_toArray, List.set_cons_zero, List.set_cons_succ, Nat.reduceAdd]
      refine flow_K (fun K hK => ?_)
      go_simp
      (show K _ _)
      exact hK _ _ ⟨_, rfl, (show Ext _ _ from (by ((try simp only [ext_drew]); (try simp only [ext_ext]); repeat (first | exact Ext.refl _ | with_reducible apply Ext.add | with_reducible apply Ext.dr | apply Ext.alloc | apply Ext.ext | apply Ext.drew | refine Ext.trans ?_ (by assumption))))), rfl⟩
    | 8, _, ho =>
      obtain rfl := Option.some.inj ho
      have e7 : σ 7 = .pointer (some ⟨w.heap.size, 4, none⟩) := (hd 7 (by kernel_rfl)).2.2.2
      clear hd ho
      simp only [actS, putS, List.setIfInBounds_toArray, List.set_cons_zero, List.set_cons_succ, Nat.reduceAdd, e7]
      refine flow_K (fun K hK => ?_)
      go_simp
      (show K _ _)
      exact hK _ _ ⟨_, rfl, (show Ext _ _ from (by ((try simp only [ext_drew]); (try simp only [ext_ext]); repeat (first | exact Ext.refl _ | with_reducible apply Ext.add | with_reducible apply Ext.dr | apply Ext.alloc | apply Ext.ext | apply Ext.drew | refine Ext.trans ?_ (by assumption))))), rfl⟩
    | 9, _, ho =>
      obtain rfl := Option.some.inj ho
      have e8 : σ 8 = .slice a4 c.next.length c4 := (hd 8 (by kernel_rfl)).2.2.2
      clear hd ho
      simp only [actS, putS, List.setIfInBounds_toArray, List.set_cons_zero, List.set_cons_succ, Nat.reduceAdd, e8]
      refine flow_K (fun K hK => ?_)
      refine wp_cloneX (cells := icells) (k := 1) (bytes := 8) (z := .int .i64 0) Try.underlying37 (by kernel_rfl) rfl (by decide) (by decide) rfl (fun _ => rfl) (fun _ _ _ _ h => rd_Int h) (fun _ _ h => idat_inj h) ione (fun w x => own_Int_mk w x) _ _ rfl rfl (.inl rfl) c.next rfl (H4.out.of (by ((try simp only [ext_drew]); (try simp only [ext_ext]); repeat (first | exact Ext.refl _ | with_reducible apply Ext.add | with_reducible apply Ext.dr | apply Ext.alloc | apply Ext.ext | apply Ext.drew | refine Ext.trans ?_ (by assumption))))) (by omega) ?_
      intro a' c' t' B' hr' hb'
      exact hK _ _ ⟨_, rfl, ⟨t', rfl⟩, ⟨_, _, B', rfl, hr', fun b hb => ⟨hb' b hb, hr'.lt b hb⟩⟩⟩
    | 10, _, ho =>
      obtain rfl := Option.some.inj ho
      clear hd ho
      simp only [actS, putS, List.setIfInBounds_toArray, List.set_cons_zero, List.set_cons_succ, Nat.reduceAdd]
      refine flow_K (fun K hK => ?_)
      go_simp
      (show K _ _)
      exact hK _ _ ⟨_, rfl, (show Ext _ _ from (by ((try simp only [ext_drew]); (try simp only [ext_ext]); repeat (first | exact Ext.refl _ | with_reducible apply Ext.add | with_reducible apply Ext.dr | apply Ext.alloc | apply Ext.ext | apply Ext.drew | refine Ext.trans ?_ (by assumption))))), rfl⟩
    | 11, _, ho =>
      obtain rfl := Option.some.inj ho
      have e10 : σ 10 = .pointer (some ⟨w.heap.size, 5, none⟩) := (hd 10 (by kernel_rfl)).2.2.2
      clear hd ho
      simp only [actS, putS, List.setIfInBounds_toArray, List.set_cons_zero, List.set_cons_succ, Nat.reduceAdd, e10]
      refine flow_K (fun K hK => ?_)
      go_simp
      (show K _ _)
      exact hK _ _ ⟨_, rfl, (show Ext _ _ from (by ((try simp only [ext_drew]); (try simp only [ext_ext]); repeat (first | exact Ext.refl _ | with_reducible apply Ext.add | with_reducible apply Ext.dr | apply Ext.alloc | apply Ext.ext | apply Ext.drew | refine Ext.trans ?_ (by assumption))))), rfl⟩
    | 12, _, ho =>
      obtain rfl := Option.some.inj ho
      have e11 : σ 11 = .slice a5 c.ins.length c5 := (hd 11 (by kernel_rfl)).2.2.2
      clear hd ho
      simp only [actS, putS, List.setIfInBounds_toArray, List.set_cons_zero, List.set_cons_succ, Nat.reduceAdd, e11]
      refine flow_K (fun K hK => ?_)
      refine wp_cloneX (cells := icells) (k := 1) (bytes := 8) (z := .int .i64 0) Try.underlying37 (by kernel_rfl) rfl (by decide) (by decide) rfl (fun _ => rfl) (fun _ _ _ _ h => rd_Int h) (fun _ _ h => idat_inj h) ione (fun w x => own_Int_mk w x) _ _ rfl rfl (.inl rfl) c.ins rfl (H5.out.of (by ((try simp only [ext_drew]); (try simp only [ext_ext]); repeat (first | exact Ext.refl _ | with_reducible apply Ext.add | with_reducible apply Ext.dr | apply Ext.alloc | apply Ext.ext | apply Ext.drew | refine Ext.trans ?_ (by assumption))))) (by omega) ?_
      intro a' c' t' B' hr' hb'
      exact hK _ _ ⟨_, rfl, ⟨t', rfl⟩, ⟨_, _, B', rfl, hr', fun b hb => ⟨hb' b hb, hr'.lt b hb⟩⟩⟩
    | 13, _, ho =>
      obtain rfl := Option.some.inj ho
      have e1 : σ 1 = .int .i64 c.cell := (hd 1 (by kernel_rfl)).2.2.2
      obtain ⟨pa4, pc4, BB4, e4, _, _⟩ : MkX 29 5 Wlk.cells c.wk (σ 4) (L 4) (H 4) _ := (hd 4 (by kernel_rfl)).2.2.2
      have e6 : σ 6 = .int .i64 c.ground := (hd 6 (by kernel_rfl)).2.2.2
      obtain ⟨pa9, pc9, BB9, e9, _, _⟩ : MkX 3 1 icells c.next (σ 9) (L 9) (H 9) _ := (hd 9 (by kernel_rfl)).2.2.2
      obtain ⟨pa12, pc12, BB12, e12, _, _⟩ : MkX 3 1 icells c.ins (σ 12) (L 12) (H 12) _ := (hd 12 (by kernel_rfl)).2.2.2
      clear hd ho
      simp only [actS, putS, List.setIfInBounds_toArray, List.set_cons_zero, List.set_cons_succ, Nat.reduceAdd, e1, e4, e6, e9, e12]
      refine flow_K (fun K hK => ?_)
      go_simp
      (show K _ _)
      exact hK _ _ ⟨_, rfl, (show Ext _ _ from (by ((try simp only [ext_drew]); (try simp only [ext_ext]); repeat (first | exact Ext.refl _ | with_reducible apply Ext.add | with_reducible apply Ext.dr | apply Ext.alloc | apply Ext.ext | apply Ext.drew | refine Ext.trans ?_ (by assumption))))), (by simp)⟩
    | 14, _, ho =>
      obtain rfl := Option.some.inj ho
      clear hd ho
      simp only [actS, putS, List.setIfInBounds_toArray, List.set_cons_zero, List.set_cons_succ, Nat.reduceAdd]
      refine flow_K (fun K hK => ?_)
      go_simp
      (show K _ _)
      exact hK _ _ ⟨_, rfl, (show Ext _ _ from (by ((try simp only [ext_drew]); (try simp only [ext_ext]); repeat (first | exact Ext.refl _ | with_reducible apply Ext.add | with_reducible apply Ext.dr | apply Ext.alloc | apply Ext.ext | apply Ext.drew | refine Ext.trans ?_ (by assumption))))), ⟨_, rfl, by simp [go_sem], by simp [go_sem], heap_new (by simp [go_sem])⟩⟩
  · intro oo ho σ L H w9 hE hd hap
    obtain ⟨t9, rfl⟩ := hE
    obtain ⟨l0, m0, u0, s0⟩ := hd 0 (by decide)
    have e0 : σ 0 = .pointer (some ⟨w.heap.size, 0, none⟩) := s0
    clear s0
    obtain ⟨l1, m1, u1, s1⟩ := hd 1 (by decide)
    have e1 : σ 1 = .int .i64 c.cell := s1
    clear s1
    obtain ⟨l2, m2, u2, s2⟩ := hd 2 (by decide)
    have e2 : σ 2 = .pointer (some ⟨w.heap.size, 1, none⟩) := s2
    clear s2
    obtain ⟨l3, m3, u3, s3⟩ := hd 3 (by decide)
    have e3 : σ 3 = .slice a1 c.wk.length c1 := s3
    clear s3
    obtain ⟨l4, m4, u4, s4⟩ := hd 4 (by decide)
    obtain ⟨pa4, pc4, BB4, e4, o4, ob4⟩ : MkX 29 5 Wlk.cells c.wk (σ 4) (L 4) (H 4) _ := s4
    obtain ⟨l5, m5, u5, s5⟩ := hd 5 (by decide)
    have e5 : σ 5 = .pointer (some ⟨w.heap.size, 2, none⟩) := s5
    clear s5
    obtain ⟨l6, m6, u6, s6⟩ := hd 6 (by decide)
    have e6 : σ 6 = .int .i64 c.ground := s6
    clear s6
    obtain ⟨l7, m7, u7, s7⟩ := hd 7 (by decide)
    have e7 : σ 7 = .pointer (some ⟨w.heap.size, 4, none⟩) := s7
    clear s7
    obtain ⟨l8, m8, u8, s8⟩ := hd 8 (by decide)
    have e8 : σ 8 = .slice a4 c.next.length c4 := s8
    clear s8
    obtain ⟨l9, m9, u9, s9⟩ := hd 9 (by decide)
    obtain ⟨pa9, pc9, BB9, e9, o9, ob9⟩ : MkX 3 1 icells c.next (σ 9) (L 9) (H 9) _ := s9
    obtain ⟨l10, m10, u10, s10⟩ := hd 10 (by decide)
    have e10 : σ 10 = .pointer (some ⟨w.heap.size, 5, none⟩) := s10
    clear s10
    obtain ⟨l11, m11, u11, s11⟩ := hd 11 (by decide)
    have e11 : σ 11 = .slice a5 c.ins.length c5 := s11
    clear s11
    obtain ⟨l12, m12, u12, s12⟩ := hd 12 (by decide)
    obtain ⟨pa12, pc12, BB12, e12, o12, ob12⟩ : MkX 3 1 icells c.ins (σ 12) (L 12) (H 12) _ := s12
    obtain ⟨l13, m13, u13, s13⟩ := hd 13 (by decide)
    have e13 : σ 13 = .agg #[.int .i64 c.cell, σ 4, .int .i64 c.ground, .slice none 0 0, σ 9, σ 12] := s13
    clear s13
    obtain ⟨l14, m14, u14, s14⟩ := hd 14 (by decide)
    obtain ⟨bx, e14, bl, bh, hbx⟩ : MkA #[.int .i64 0, .slice none 0 0, .int .i64 0, .slice none 0 0, .slice none 0 0, .slice none 0 0] 39 (σ 14) (L 14) (H 14) _ := s14
    rw [e4, e9, e12] at e13
    clear hd
    try simp only [ext_ext] at o4 o9 o12 hbx
    have y0 := (cell_blk hbx 0).trans (show _ = some (Value.int .i64 0) from rfl)
    have z0 := frozen_blk hbx 0
    have y1 := (cell_blk hbx 1).trans (show _ = some (Value.slice none 0 0) from rfl)
    have z1 := frozen_blk hbx 1
    have y2 := (cell_blk hbx 2).trans (show _ = some (Value.int .i64 0) from rfl)
    have z2 := frozen_blk hbx 2
    have y3 := (cell_blk hbx 3).trans (show _ = some (Value.slice none 0 0) from rfl)
    have z3 := frozen_blk hbx 3
    have y4 := (cell_blk hbx 4).trans (show _ = some (Value.slice none 0 0) from rfl)
    have z4 := frozen_blk hbx 4
    have y5 := (cell_blk hbx 5).trans (show _ = some (Value.slice none 0 0) from rfl)
    have z5 := frozen_blk hbx 5
    have HBX := hid hbx
    have lbx := lt_blk hbx
    clear hbx
    simp only [actS, putS, List.setIfInBounds_toArray, List.set_cons_zero, List.set_cons_succ, Nat.reduceAdd, e0, e1, e2, e3, e4, e5, e6, e7, e8, e9, e10, e11, e12, e13, e14]
    obtain rfl := Option.some.inj ho
    refine flow_K (fun K hK => ?_)
    go_simp
    (show K _ _)
    refine hK _ _ ?_
    clear hK K ho
    try simp only [Act.put, List.setIfInBounds_toArray, List.set_cons_zero, List.set_cons_succ]
    simp only [Exit.then]
    rename_i hKont
    refine hKont _ _ ?_
    clear hKont
    refine wp_gen fun X hX => ?_
    have hC := chg_six hX
    have hbX : X.heap[bx]? = some (.cells #[.int .i64 c.cell, .slice pa4 c.wk.length pc4, .int .i64 c.ground, .slice none 0 0, .slice pa9 c.next.length pc9, .slice pa12 c.ins.length pc12] 39 (0, 0)) := by rw [hX]; exact blk_set (blk_set (blk_set (blk_set (blk_set (blk_set HBX.out)))))
    obtain ⟨Y, hY, hCY⟩ := chg_left hC
    have EY : Ext w Y := by rw [hY]; ((try simp only [ext_drew]); (try simp only [ext_ext]); repeat (first | exact Ext.refl _ | with_reducible apply Ext.add | with_reducible apply Ext.dr | apply Ext.alloc | apply Ext.ext | apply Ext.drew | refine Ext.trans ?_ (by assumption)))
    have d4A := hap 4 14 (by decide) (by decide) (by decide)
    have d9A := hap 9 14 (by decide) (by decide) (by decide)
    have d12A := hap 12 14 (by decide) (by decide) (by decide)
    have d49 := hap 4 9 (by decide) (by decide) (by decide)
    have d412 := hap 4 12 (by decide) (by decide) (by decide)
    have d912 := hap 9 12 (by decide) (by decide) (by decide)
    have hbase : w.heap.size + 2 ≤ L 14 := Nat.le_trans (by (try simp [go_sem]) <;> (try simp [Xt.add]) <;> omega) l14
    have hl4 : w.heap.size + 2 ≤ L 4 := Nat.le_trans (by (try simp [go_sem]) <;> (try simp [Xt.add]) <;> omega) l4
    have hl9 : w.heap.size + 2 ≤ L 9 := Nat.le_trans (by (try simp [go_sem]) <;> (try simp [Xt.add]) <;> omega) l9
    have hl12 : w.heap.size + 2 ≤ L 12 := Nat.le_trans (by (try simp [go_sem]) <;> (try simp [Xt.add]) <;> omega) l12
    have t4 : bx < L 4 ∨ H 4 ≤ bx := by omega
    have t9' : bx < L 9 ∨ H 9 ≤ bx := by omega
    have t12 : bx < L 12 ∨ H 12 ≤ bx := by omega
    have q4 := o4.chg hC (fun b hb => by have := ob4 b hb; simp; omega)
    have q9 := o9.chg hC (fun b hb => by have := ob9 b hb; simp; omega)
    have q12 := o12.chg hC (fun b hb => by have := ob12 b hb; simp; omega)
    have hMB : w.heap.size ∉ [bx] := by simp; omega
    have hRB : w.heap.size + 1 ∉ [bx] := by simp; omega
    have xM3 : X.cell? ⟨w.heap.size, 3, none⟩ = some (.slice a3 c.outs.length c3) := (hC.cell (by (try simp [go_sem]) <;> (try simp [Xt.add]) <;> omega) hMB 3).trans (by simp [go_sem])
    have hRX : X.heap[w.heap.size + 1]? = some (.cells #[.int .i64 0, .slice none 0 0, .int .i64 0, .slice none 0 0, .slice none 0 0, .slice none 0 0] 39 (0, 0)) := (hC.block _ (by (try simp [go_sem]) <;> (try simp [Xt.add]) <;> omega) hRB).trans ((ext_block _ _ _ (by (try simp [go_sem]) <;> (try simp [Xt.add]) <;> omega)).trans (heap_new (by simp)))
    have lRX := lt_blk hRX
    have lbX := lt_blk hbX
    have lMX : w.heap.size < X.heap.size := by omega
    have EB : Below w.heap.size w X := Below.chg (w0 := w) EY.below hCY (fun b hb => by
      obtain rfl : b = bx := by simpa using hb
      omega)
    have HQ4 := hid q4
    have HQ9 := hid q9
    have HQ12 := hid q12
    have HO4 := hid ob4
    have HO9 := hid ob9
    have HO12 := hid ob12
    have HD := hid (show (H 4 ≤ L 9 ∨ H 9 ≤ L 4) ∧ (H 4 ≤ L 12 ∨ H 12 ≤ L 4) ∧ (H 9 ≤ L 12 ∨ H 12 ≤ L 9) from ⟨d49, d412, d912⟩)
    have HT := hid (show (bx < L 4 ∨ H 4 ≤ bx) ∧ (bx < L 9 ∨ H 9 ≤ bx) ∧ (bx < L 12 ∨ H 12 ≤ bx) from ⟨t4, t9', t12⟩)
    have HL := hid (show w.heap.size + 2 ≤ L 4 ∧ w.heap.size + 2 ≤ L 9 ∧ w.heap.size + 2 ≤ L 12 from ⟨hl4, hl9, hl12⟩)
    have hbxw : w.heap.size + 2 ≤ bx := by omega
    have HB0 := hid hbX
    have HEB := hid EB
    have HRX := hid hRX
    clear y0 y1 y2 y3 y4 y5 z0 z1 z2 z3 z4 z5
    clear hX hC hCY hY q4 q9 q12 HBX hMB hRB hbX lbx hbase hl4 hl9 hl12 EB EY hRX t4 t9' t12 d49 d412 d912 d4A d9A d12A hap bl bh
    clear e0 e1 e2 e3 e4 e5 e6 e7 e8 e9 e10 e11 e12 e13 e14
    clear l0 m0 u0 l1 m1 u1 l2 m2 u2 l3 m3 u3 l4 m4 u4 l5 m5 u5 l6 m6 u6 l7 m7 u7 l8 m8 u8 l9 m9 u9 l10 m10 u10 l11 m11 u11 l12 m12 u12 l13 m13 u13 l14 m14 u14
    clear o4 o9 o12 ob4 ob9 ob12
    generalize hTe : bx = T at *
    clear hTe bx
    try go_wp2_with (first
        | fail
        | (
          with_reducible refine wp_region_mix (by kernel_rfl) (by decide +kernel) ?_
          repeat (first
            | (refine mix_pure rfl ?_; (first | go_big_quiet_skip | (go_big_quiet_want; go_big_quiet_op; go_big_quiet_on)); refine wpQuiet_nil ?_)
            | (refine mix_skip (by rfl) ?_; (try simp only [Act.put, List.setIfInBounds_toArray, List.set_cons_zero, List.set_cons_succ]))
            | (refine mix_mk rfl (by rfl) (fun K hK => ?_); (first | (go_simp; first | skip)); (show K _ _); refine hK _ _ (show Ext _ _ from (by ((try simp only [ext_drew]); (try simp only [ext_ext]); repeat (first | exact Ext.refl _ | with_reducible apply Ext.add | with_reducible apply Ext.dr | apply Ext.alloc | apply Ext.ext | apply Ext.drew | refine Ext.trans ?_ (by assumption))))) ?_; clear hK K; (try simp only [Act.put, List.setIfInBounds_toArray, List.set_cons_zero, List.set_cons_succ])))
          refine mix_nil ?_)
        | (
          with_reducible refine wp_region_ext (by kernel_rfl) (by kernel_rfl) ?_
          repeat (first | go_big_quiet_skip | (go_big_quiet_want; go_big_quiet_op; first | go_big_quiet_on | (apply Exists.intro; refine ⟨fun _ => ?_, ?_⟩; (fail); (try rw [h1]); (try rw [h2]); (try rw [h3]); (try rw [h4]); (try rw [p1]); (try rw [p2]); (try rw [p3]); (try rw [p4]); (try rw [r1]); (try rw [r2]); (try rw [r3]); (try rw [r4]); (try rw [r5]); (try rw [r6]); (try rw [q3]); (try rw [q4]); (try rw [hp]); (try rw [hq]); go_big_quiet_on)))
          refine wpQuiet_nil ?_
          rintro _ ⟨tq, rfl⟩))
    go_loopw [23] (fun i wr => ∃ (k : Nat) (v : Value) (B : List Nat), k ≤ c.outs.length ∧ i = .int .i64 k ∧ wr.heap[T]? = some (.cells #[.int .i64 c.cell, .slice pa4 c.wk.length pc4, .int .i64 c.ground, v, .slice pa9 c.next.length pc9, .slice pa12 c.ins.length pc12] 39 (0, 0)) ∧ RowSS wr 69 95 8 Pcl.cells v (c.outs.take k) B ∧ (∀ b ∈ B, X.heap.size ≤ b) ∧ Chg [T] X wr) (fun i _ => c.outs.length - (intOf i).toNat)
    case atStart => exact ⟨0, .slice none 0 0, [], Nat.zero_le _, rfl, HB0.out, RowSS.nil (.inl ⟨rfl, rfl, none, rfl, .inl rfl⟩), by simp, Chg.refl _ _⟩
    case round =>
      obtain ⟨k, v, B, hk, rfl, hT, hss, hbs, hch⟩ := hrel
      have HC := hid hch
      have hsz := hch.size
      have lT : T < wr.heap.size := lt_blk hT
      have cT0 : wr.cell? ⟨T, 0, none⟩ = some (.int .i64 c.cell) := (cell_blk hT 0).trans rfl
      have cT1 : wr.cell? ⟨T, 1, none⟩ = some (.slice pa4 c.wk.length pc4) := (cell_blk hT 1).trans rfl
      have cT2 : wr.cell? ⟨T, 2, none⟩ = some (.int .i64 c.ground) := (cell_blk hT 2).trans rfl
      have cT3 : wr.cell? ⟨T, 3, none⟩ = some (v) := (cell_blk hT 3).trans rfl
      have cT4 : wr.cell? ⟨T, 4, none⟩ = some (.slice pa9 c.next.length pc9) := (cell_blk hT 4).trans rfl
      have cT5 : wr.cell? ⟨T, 5, none⟩ = some (.slice pa12 c.ins.length pc12) := (cell_blk hT 5).trans rfl
      have zT := frozen_blk hT 3
      have lM : w.heap.size < wr.heap.size := by omega
      have cM3 : wr.cell? ⟨w.heap.size, 3, none⟩ = some (.slice a3 c.outs.length c3) := (hch.cell (by omega) (by simp; omega) 3).trans xM3
      have bR := (hch.block (w.heap.size + 1) (by omega) (by simp; omega)).trans HRX.out
      have cR0 : wr.cell? ⟨w.heap.size + 1, 0, none⟩ = some (.int .i64 0) := (cell_blk bR 0).trans rfl
      have zR0 := frozen_blk bR 0
      have cR1 : wr.cell? ⟨w.heap.size + 1, 1, none⟩ = some (.slice none 0 0) := (cell_blk bR 1).trans rfl
      have zR1 := frozen_blk bR 1
      have cR2 : wr.cell? ⟨w.heap.size + 1, 2, none⟩ = some (.int .i64 0) := (cell_blk bR 2).trans rfl
      have zR2 := frozen_blk bR 2
      have cR3 : wr.cell? ⟨w.heap.size + 1, 3, none⟩ = some (.slice none 0 0) := (cell_blk bR 3).trans rfl
      have zR3 := frozen_blk bR 3
      have cR4 : wr.cell? ⟨w.heap.size + 1, 4, none⟩ = some (.slice none 0 0) := (cell_blk bR 4).trans rfl
      have zR4 := frozen_blk bR 4
      have cR5 : wr.cell? ⟨w.heap.size + 1, 5, none⟩ = some (.slice none 0 0) := (cell_blk bR 5).trans rfl
      have zR5 := frozen_blk bR 5
      have lR : w.heap.size + 1 < wr.heap.size := by omega
      have hbel : Below w.heap.size w wr := Below.chg (w0 := w) HEB.out hch (fun b hb => by
        obtain rfl : b = T := by simpa using hb
        omega)
      have HBl := hid hbel
      have HTb := hid hT
      have HSS := hid hss
      have HBS := hid hbs
      clear hT hch hbel bR hss hbs
      by_cases hlt : k < c.outs.length
      · obtain ⟨xs, b', o', a', c', hxk, rfl, hb', f0, hre⟩ := at_SS H3.out hlt
        have hbx' := (HBl.out).block b' hb'
        have f1 : wr.cell? ⟨b', o' + k, none⟩ = some (.slice a' xs.length c') := (World.cell?_of_block (a := ⟨b', o' + k, none⟩) hbx').trans f0
        have lb1 : b' < wr.heap.size := by omega
        have HK := hid hxk
        have hxm : xs.length ≤ 1048576 := BO.out xs (List.mem_of_getElem? hxk)
        have HRe := hid (Re.below hre HBl.out)
        clear hxk f0 hre hbx'
        obtain ⟨es, Rl, Bs, g1, g2, g3, g4, g5, g6⟩ := HSS.out
        have hbs2 : ∀ b ∈ Rl ++ Bs.flatten, X.heap.size ≤ b := g4 ▸ HBS.out
        obtain ⟨R, hRl, hRlo, hRne⟩ := rowX_R g1 (lo := X.heap.size) (fun b hb => hbs2 b (by simp [hb])) hsz
        have HG1 := hid g1
        have HG2 := hid (show es.length = (c.outs.take k).length ∧ Bs.length = es.length ∧ (Rl ++ Bs.flatten).Nodup from ⟨g2, g3, g4 ▸ g5⟩)
        have HG6 := hid g6
        have HG7 := hid hbs2
        have HRl := hid hRl
        have hTR : T ≠ R := by omega
        have hRT : R ≠ T := by omega
        have hcR : wr.heap.size ≠ R := Ne.symm hRne
        have hMR : w.heap.size ≠ R := by omega
        have hbR : b' ≠ R := by omega
        have dT : ∀ t, (ext wr.drew t).cell? ⟨T, 3, none⟩ = some v := fun t => (ext_cell' _ _ _ _ lT).trans cT3
        have dZ : ∀ t, (ext wr.drew t).frozen? ⟨T, 3, none⟩ = false := fun t => (ext_frozen' _ _ _ _ lT).trans zT
        have hlen : es.length ≤ 4194304 := by rw [g2, List.length_take]; omega
        have HEk := hid (show c.outs.take (k + 1) = c.outs.take k ++ [xs] by rw [List.take_add_one, HK.out]; rfl)
        clear g1 g2 g3 g4 g5 g6 hbs2 hRl hRne
        try go_wp2_with (first
            | fail
            | (
              with_reducible refine wp_region_mix (by kernel_rfl) (by decide +kernel) ?_
              repeat (first
                | (refine mix_pure rfl ?_; (first | go_big_quiet_skip | (go_big_quiet_want; go_big_quiet_op; go_big_quiet_on)); refine wpQuiet_nil ?_)
                | (refine mix_skip (by rfl) ?_; (try simp only [Act.put, List.setIfInBounds_toArray, List.set_cons_zero, List.set_cons_succ]))
                | (refine mix_mk rfl (by rfl) (fun K hK => ?_); (first | (go_simp; first | skip)); (show K _ _); refine hK _ _ (show Ext _ _ from (by ((try simp only [ext_drew]); (try simp only [ext_ext]); repeat (first | exact Ext.refl _ | with_reducible apply Ext.add | with_reducible apply Ext.dr | apply Ext.alloc | apply Ext.ext | apply Ext.drew | refine Ext.trans ?_ (by assumption))))) ?_; clear hK K; (try simp only [Act.put, List.setIfInBounds_toArray, List.set_cons_zero, List.set_cons_succ])))
              refine mix_nil ?_)
            | (
              with_reducible refine wp_region_ext (by kernel_rfl) (by kernel_rfl) ?_
              repeat (first | go_big_quiet_skip | (go_big_quiet_want; go_big_quiet_op; first | go_big_quiet_on | (apply Exists.intro; refine ⟨fun _ => ?_, ?_⟩; (fail); (try rw [h1]); (try rw [h2]); (try rw [h3]); (try rw [h4]); (try rw [p1]); (try rw [p2]); (try rw [p3]); (try rw [p4]); (try rw [r1]); (try rw [r2]); (try rw [r3]); (try rw [r4]); (try rw [r5]); (try rw [r6]); (try rw [q3]); (try rw [q4]); (try rw [hp]); (try rw [hq]); go_big_quiet_on)))
              refine wpQuiet_nil ?_
              rintro _ ⟨tq, rfl⟩))
        try go_wp2_with (first
            | (go_at_call 82; (with_reducible refine (iClonePcl_x xs _ _ _ _ (HRe.out.of (by ((try simp only [ext_drew]); (try simp only [ext_ext]); repeat (first | exact Ext.refl _ | with_reducible apply Ext.add | with_reducible apply Ext.dr | apply Ext.alloc | apply Ext.ext | apply Ext.drew | refine Ext.trans ?_ (by assumption))))) (by omega)).mono ?_); rintro e w' ⟨p5, q5, B5, rfl, ⟨t5, rfl⟩, hr5, hb5⟩; have X5 := hid hr5; have Y5 := hid hb5; clear hr5 hb5) | (refine wp_appX (cells := SlV.cells) (k := 1) (bytes := 24) (z := .slice none 0 0) Try.underlying36 (by kernel_rfl) rfl (by decide) (by decide) (fun _ => rfl) slv_one _ _ rfl rfl (HG1.out.of (by ((try simp only [ext_drew]); (try simp only [ext_ext]); repeat (first | exact Ext.refl _ | with_reducible apply Ext.add | with_reducible apply Ext.dr | apply Ext.alloc | apply Ext.ext | apply Ext.drew | refine Ext.trans ?_ (by assumption))))) ⟨p5, xs.length, q5⟩ rfl (alloc_last (by (try simp [go_sem]) <;> (try simp [Xt.add]) <;> omega)) hlen ?_; intro v2 w2 R2 hr2 hc2 hR2; obtain ⟨sa, sc, e2⟩ := hr2.slice; rw [List.length_append, List.length_singleton] at e2; subst e2; have HSS2 := hid (rowss_snoc HG1.out HG2.out.1 HG2.out.2.1 HG2.out.2.2 HG6.out HG7.out (by ((try simp only [ext_drew]); (try simp only [ext_ext]); repeat (first | exact Ext.refl _ | with_reducible apply Ext.add | with_reducible apply Ext.dr | apply Ext.alloc | apply Ext.ext | apply Ext.drew | refine Ext.trans ?_ (by assumption)))) (X5.out.of (by ((try simp only [ext_drew]); (try simp only [ext_ext]); repeat (first | exact Ext.refl _ | with_reducible apply Ext.add | with_reducible apply Ext.dr | apply Ext.alloc | apply Ext.ext | apply Ext.drew | refine Ext.trans ?_ (by assumption))))) (fun b hb => Nat.le_trans (by (try simp [go_sem]) <;> (try simp [Xt.add]) <;> omega) (Y5.out b hb)) hsz hr2 hc2 hR2); have hcR2 := hc2.mono (B' := [R]) (fun b hb => by rw [HRl.out b hb]; simp); have HC2 := hid hcR2; have l2 : T < w2.heap.size := Nat.lt_of_lt_of_le (by (try simp [go_sem]) <;> (try simp [Xt.add]) <;> omega) hcR2.size; have q2 : w2.cell? ⟨T, 3, none⟩ = some v := (hcR2.cell (by (try simp [go_sem]) <;> (try simp [Xt.add]) <;> omega) (by simp [hTR]) 3).trans (by simp [go_sem, cT3, lT, dT]); have b2 : w2.heap[T]? = some (.cells #[.int .i64 c.cell, .slice pa4 c.wk.length pc4, .int .i64 c.ground, v, .slice pa9 c.next.length pc9, .slice pa12 c.ins.length pc12] 39 (0, 0)) := (hcR2.block T (by (try simp [go_sem]) <;> (try simp [Xt.add]) <;> omega) (by simp [hTR])).trans (by repeat (first | with_reducible exact HTb.out | with_reducible apply blk_drew | with_reducible refine blk_set ?_ | (with_reducible refine blk_other ?_ (by first | assumption | omega)) | with_reducible refine blk_ext ?_ | with_reducible refine blk_alloc ?_)); have z2 : w2.frozen? ⟨T, 3, none⟩ = false := (Chg.frozen hcR2 (by (try simp [go_sem]) <;> (try simp [Xt.add]) <;> omega) (by simp [hTR]) 3).trans (by simp [go_sem, zT, lT, dZ]); have B2 := hid b2; clear hr2 hc2 b2 hcR2 hR2)
            | (
              with_reducible refine wp_region_NR (R) (by kernel_rfl) (by decide +kernel) (by decide +kernel) rfl rfl ?_
              simp only [List.dropLast_cons_cons, List.dropLast_singleton]
              repeat (first
                | (refine mix_pure rfl ?_; (first | go_big_quiet_skip | (go_big_quiet_want; go_big_quiet_op; go_big_quiet_on)); refine wpQuiet_nil ?_)
                | (refine mix_skip (by rfl) ?_; (try simp only [Act.put, List.setIfInBounds_toArray, List.set_cons_zero, List.set_cons_succ]))
                | (refine mix_mk rfl (by rfl) (fun K hK => ?_); (first | (refine wp_appX (cells := SlV.cells) (k := 1) (bytes := 24) (z := .slice none 0 0) Try.underlying36 (by kernel_rfl) rfl (by decide) (by decide) (fun _ => rfl) slv_one _ _ rfl rfl (HG1.out.of (by ((try simp only [ext_drew]); (try simp only [ext_ext]); repeat (first | exact Ext.refl _ | with_reducible apply Ext.add | with_reducible apply Ext.dr | apply Ext.alloc | apply Ext.ext | apply Ext.drew | refine Ext.trans ?_ (by assumption))))) ⟨p5, xs.length, q5⟩ rfl (alloc_last (by (try simp [go_sem]) <;> (try simp [Xt.add]) <;> omega)) hlen ?_; intro v2 w2 R2 hr2 hc2 hR2; obtain ⟨sa, sc, e2⟩ := hr2.slice; rw [List.length_append, List.length_singleton] at e2; subst e2; have HSS2 := hid (rowss_snoc HG1.out HG2.out.1 HG2.out.2.1 HG2.out.2.2 HG6.out HG7.out (by ((try simp only [ext_drew]); (try simp only [ext_ext]); repeat (first | exact Ext.refl _ | with_reducible apply Ext.add | with_reducible apply Ext.dr | apply Ext.alloc | apply Ext.ext | apply Ext.drew | refine Ext.trans ?_ (by assumption)))) (X5.out.of (by ((try simp only [ext_drew]); (try simp only [ext_ext]); repeat (first | exact Ext.refl _ | with_reducible apply Ext.add | with_reducible apply Ext.dr | apply Ext.alloc | apply Ext.ext | apply Ext.drew | refine Ext.trans ?_ (by assumption))))) (fun b hb => Nat.le_trans (by (try simp [go_sem]) <;> (try simp [Xt.add]) <;> omega) (Y5.out b hb)) hsz hr2 hc2 hR2); have hcR2 := hc2.mono (B' := [R]) (fun b hb => by rw [HRl.out b hb]; simp); have HC2 := hid hcR2; have l2 : T < w2.heap.size := Nat.lt_of_lt_of_le (by (try simp [go_sem]) <;> (try simp [Xt.add]) <;> omega) hcR2.size; have q2 : w2.cell? ⟨T, 3, none⟩ = some v := (hcR2.cell (by (try simp [go_sem]) <;> (try simp [Xt.add]) <;> omega) (by simp [hTR]) 3).trans (by simp [go_sem, cT3, lT, dT]); have b2 : w2.heap[T]? = some (.cells #[.int .i64 c.cell, .slice pa4 c.wk.length pc4, .int .i64 c.ground, v, .slice pa9 c.next.length pc9, .slice pa12 c.ins.length pc12] 39 (0, 0)) := (hcR2.block T (by (try simp [go_sem]) <;> (try simp [Xt.add]) <;> omega) (by simp [hTR])).trans (by repeat (first | with_reducible exact HTb.out | with_reducible apply blk_drew | with_reducible refine blk_set ?_ | (with_reducible refine blk_other ?_ (by first | assumption | omega)) | with_reducible refine blk_ext ?_ | with_reducible refine blk_alloc ?_)); have z2 : w2.frozen? ⟨T, 3, none⟩ = false := (Chg.frozen hcR2 (by (try simp [go_sem]) <;> (try simp [Xt.add]) <;> omega) (by simp [hTR]) 3).trans (by simp [go_sem, zT, lT, dZ]); have B2 := hid b2; clear hr2 hc2 b2 hcR2 hR2) | (go_simp; first | (go_at_call 82; (with_reducible refine (iClonePcl_x xs _ _ _ _ (HRe.out.of (by ((try simp only [ext_drew]); (try simp only [ext_ext]); repeat (first | exact Ext.refl _ | with_reducible apply Ext.add | with_reducible apply Ext.dr | apply Ext.alloc | apply Ext.ext | apply Ext.drew | refine Ext.trans ?_ (by assumption))))) (by omega)).mono ?_); rintro e w' ⟨p5, q5, B5, rfl, ⟨t5, rfl⟩, hr5, hb5⟩; have X5 := hid hr5; have Y5 := hid hb5; clear hr5 hb5) | skip)); (show K _ _); refine hK _ _ (extR_of (by repeat (first | with_reducible exact Chg.refl _ _ | with_reducible apply Chg.drew | with_reducible apply Chg.drewl | with_reducible refine Chg.turn (by simp) | with_reducible refine Chg.both ?_ (by simp) | (with_reducible refine Chg.set ?_ (by simp) _) | with_reducible apply Chg.alloc | with_reducible apply Chg.ext | with_reducible refine Chg.trans ?_ (Hid.out (by assumption))))) ?_; clear hK K; (try simp only [Act.put, List.setIfInBounds_toArray, List.set_cons_zero, List.set_cons_succ])))
              refine mixN_nil (fun K hK => ?_)
              go_simp
              (show K _ _)
              refine hK _ _ ?_
              clear hK K
              (try simp only [Act.put, List.setIfInBounds_toArray, List.set_cons_zero, List.set_cons_succ])))
        go_roundw
        case rel =>
          obtain ⟨B', hE', hd'⟩ := HSS2.out
          refine ⟨k + 1, _, B', by omega, by go_num, (by exact blk_set B2.out), ?_, hd', Chg.set (Chg.up (by repeat (first | with_reducible exact HC.out | with_reducible apply Chg.drew | with_reducible apply Chg.alloc | with_reducible apply Chg.ext)) HC2.out (by simp; omega)) (by simp) _⟩
          rw [HEk.out]
          exact hE'.chg ((Chg.refl [T] w2).set (b := T) (by simp) _) (fun b hb hm => by
            obtain rfl : b = T := by simpa using hm
            have := hd' _ hb
            omega)
        case measure => simp [intOf]; omega
      · have hke : k = c.outs.length := by omega
        subst hke
        rw [List.take_length] at HSS
        obtain ⟨p3, q3, e3, hcx, hlo⟩ := cll_four (lo := w.heap.size + 2) HQ4.out HO4.out HQ9.out HO9.out HQ12.out HO12.out HD.out.1 HD.out.2.1 HD.out.2.2 HL.out.1 HL.out.2.1 HL.out.2.2 HT.out.1 HT.out.2.1 HT.out.2.2 HC.out (by omega) HSS.out HBS.out
        subst e3
        have HCX := hid hcx
        have HLO := hid hlo
        clear hcx hlo
        try go_wp2_with (first
            | fail
            | (
              with_reducible refine wp_region_mix (by kernel_rfl) (by decide +kernel) ?_
              repeat (first
                | (refine mix_pure rfl ?_; (first | go_big_quiet_skip | (go_big_quiet_want; go_big_quiet_op; go_big_quiet_on)); refine wpQuiet_nil ?_)
                | (refine mix_skip (by rfl) ?_; (try simp only [Act.put, List.setIfInBounds_toArray, List.set_cons_zero, List.set_cons_succ]))
                | (refine mix_mk rfl (by rfl) (fun K hK => ?_); (first | (go_simp; first | skip)); (show K _ _); refine hK _ _ (show Ext _ _ from (by ((try simp only [ext_drew]); (try simp only [ext_ext]); repeat (first | exact Ext.refl _ | with_reducible apply Ext.add | with_reducible apply Ext.dr | apply Ext.alloc | apply Ext.ext | apply Ext.drew | refine Ext.trans ?_ (by assumption))))) ?_; clear hK K; (try simp only [Act.put, List.setIfInBounds_toArray, List.set_cons_zero, List.set_cons_succ])))
              refine mix_nil ?_)
            | (
              with_reducible refine wp_region_ext (by kernel_rfl) (by kernel_rfl) ?_
              repeat (first | go_big_quiet_skip | (go_big_quiet_want; go_big_quiet_op; first | go_big_quiet_on | (apply Exists.intro; refine ⟨fun _ => ?_, ?_⟩; (fail); (try rw [h1]); (try rw [h2]); (try rw [h3]); (try rw [h4]); (try rw [p1]); (try rw [p2]); (try rw [p3]); (try rw [p4]); (try rw [r1]); (try rw [r2]); (try rw [r3]); (try rw [r4]); (try rw [r5]); (try rw [r6]); (try rw [q3]); (try rw [q4]); (try rw [hp]); (try rw [hq]); go_big_quiet_on)))
              refine wpQuiet_nil ?_
              rintro _ ⟨tq, rfl⟩))
        refine bodyPost_ret (v := .agg #[.int .i64 c.cell, .slice pa4 c.wk.length pc4, .int .i64 c.ground, .slice p3 c.outs.length q3, .slice pa9 c.next.length pc9, .slice pa12 c.ins.length pc12]) (by simp [results, Try.results62, go_sem, cT0, cT1, cT2, cT3, cT4, cT5, cR0, cR1, cR2, cR3, cR4, cR5, lR, lT]) rfl ?_
        refine ⟨⟨pa4, pc4, p3, q3, pa9, pc9, pa12, pc12⟩, _, _, _, _, rfl, Ext.of_below (Below.chg (w0 := w) HBl.out (B := [w.heap.size + 1]) (by repeat (first | with_reducible exact Chg.refl _ _ | with_reducible apply Chg.drew | with_reducible apply Chg.drewl | with_reducible refine Chg.turn (by simp) | with_reducible refine Chg.both ?_ (by simp) | (with_reducible refine Chg.set ?_ (by simp) _) | with_reducible apply Chg.alloc | with_reducible apply Chg.ext)) (by simp)), HCX.out.chg (B' := [w.heap.size + 1]) (by repeat (first | with_reducible exact Chg.refl _ _ | with_reducible apply Chg.drew | with_reducible apply Chg.drewl | with_reducible refine Chg.turn (by simp) | with_reducible refine Chg.both ?_ (by simp) | (with_reducible refine Chg.set ?_ (by simp) _) | with_reducible apply Chg.alloc | with_reducible apply Chg.ext)) (fun b hb => by have := HLO.out b hb; simp; omega), fun b hb => by have := HLO.out b hb; omega⟩
end Go.Proofs.Ytfmgjhlcedlgpaa
