/- ArbGrant of the reference. -/
import Derived.Test.YtcfbfpgcfnpdgaaArbH
import Derived.Test.YtcfbfpgcfnpdgaaFlowB
import Derived.Test.YtcfbfpgcfnpdgaaSegN
namespace Go.Proofs.Ytcfbfpgcfnpdgaa
open Go.RowKit
set_option linter.unusedSimpArgs false
set_option linter.unusedVariables false
def MkS (n : Nat) (e : Sch) (d : Dat) (v : Value) (lo hi : Nat) (w : World) : Prop := ∃ a c, v = .slice a n c ∧ OwnR lo hi w (.sl e) [.slice a n c] d
theorem MkS.ext {n : Nat} {e : Sch} {d : Dat} {v : Value} {lo hi : Nat} {w w' : World} (h : MkS n e d v lo hi w) (hE : Ext w w') : MkS n e d v lo hi w' := by
  obtain ⟨a, c, h1, h2⟩ := h; exact ⟨a, c, h1, h2.of hE⟩
def MkA (arr : Array Value) (T : TypeId) (v : Value) (lo hi : Nat) (w : World) : Prop := ∃ b, v = .pointer (some ⟨b, 0, none⟩) ∧ lo ≤ b ∧ b < hi ∧ w.heap[b]? = some (.cells arr T (0, 0))
theorem MkA.ext {arr : Array Value} {T : TypeId} {v : Value} {lo hi : Nat} {w w' : World} (h : MkA arr T v lo hi w) (hE : Ext w w') : MkA arr T v lo hi w' := by
  obtain ⟨b, h1, h2, h3, h4⟩ := h; exact ⟨b, h1, h2, h3, (hE.block (lt_blk h4)).trans h4⟩
def MkE (v : Value) : Prop := ∃ g, v = .slice (some ⟨g, 0, none⟩) 0 0
theorem heap_new {X : World} {o : Obj} {b : Nat} (h : b = X.heap.size) : (X.alloc o).heap[b]? = some o := by subst h; exact heap_alloc_new _ _
theorem own_two_any {X : World} {l3 h3 l7 h7 lo : Nat} {p3 p7 : Option Addr} {n3 n7 c3 c7 : Nat} {xs0 xs1 : List Int} (o3 : OwnR l3 h3 X (.sl .int) [.slice p3 n3 c3] (.l (xs0.map Dat.i))) (o7 : OwnR l7 h7 X (.sl .int) [.slice p7 n7 c7] (.l (xs1.map Dat.i))) (hd : h3 ≤ l7 ∨ h7 ≤ l3) (h1 : lo ≤ l3) (h2 : lo ≤ l7) :
    OwnR lo X.heap.size X sArb [.slice p3 n3 c3, .slice p7 n7 c7] (arbDat xs0 xs1) := by
  obtain ⟨u3, B3, n3', r3, O3⟩ := o3
  obtain ⟨u7, B7, n7', r7, O7⟩ := o7
  refine ⟨Nat.le_refl _, B3 ++ B7, List.nodup_append.2 ⟨n3', n7', fun a ha b hb e => ?_⟩, fun b hb => ?_, own_Arb_of O3 O7⟩
  · have := r3 a ha; have := r7 b hb; omega
  · rcases List.mem_append.1 hb with hb | hb
    · have := r3 b hb; omega
    · have := r7 b hb; omega
theorem chg_left {B : List Nat} {Y X : World} (h : Chg B Y X) : ∃ Y', Y' = Y ∧ Chg B Y' X := ⟨Y, rfl, h⟩
theorem chg_two {Y X : World} {b : Nat} {v0 v1 : Value} (h : X = (Y.setCell ⟨b, 0, none⟩ v0).setCell ⟨b, 1, none⟩ v1) : Chg [b] Y X := by rw [h]; exact (Chg.set (Chg.set (Chg.refl _ _) (by simp) _) (by simp) _)
theorem arb_done {w Y X W : World} {b0 b1 R n c0 c1 : Nat} {ys0 ys1 : List Int} (EY : Ext w Y) (hC : ChgR (w.heap.size + 3) X.heap.size Y X) (hch : Chg [b0, b1, R] X W) (O0 : Own W (.sl .int) [.slice (some ⟨b0, 0, none⟩) n c0] (.l (ys0.map Dat.i)) [b0])
    (O1 : Own W (.sl .int) [.slice (some ⟨b1, 0, none⟩) n c1] (.l (ys1.map Dat.i)) [b1]) (hne : b0 ≠ b1) (g0 : w.heap.size + 3 ≤ b0) (g1 : w.heap.size + 3 ≤ b1) (t0 : b0 < X.heap.size) (t1 : b1 < X.heap.size) (hR : w.heap.size ≤ R := by omega) :
    Ext w W ∧ OwnR w.heap.size W.heap.size W sArb [.slice (some ⟨b0, 0, none⟩) n c0, .slice (some ⟨b1, 0, none⟩) n c1] (arbDat ys0 ys1) := by
  have hs := hch.size
  refine ⟨Ext.of_below ((EY.below.trans (hC.below EY.size (by omega))).trans (hch.below (Nat.le_trans EY.size hC.size) fun k hk => ?_)), Nat.le_refl _, [b0, b1], by simp [hne], fun b hb => ?_, own_Arb_of O0 O1⟩
  · simp only [List.mem_cons, List.not_mem_nil, or_false] at hk
    omega
  · simp only [List.mem_cons, List.not_mem_nil, or_false] at hb
    omega
theorem chg_one {Y X : World} {b o : Nat} {v : Value} (h : X = Y.setCell ⟨b, o, none⟩ v) : Chg [b] Y X := by rw [h]; exact Chg.set (Chg.refl _ _) (by simp) _
theorem flow_K {P : Program} {o : Oper} {a : Act} {w : World} {Post : Act → World → Prop} {Q : Exit → Act → World → Prop} (h : ∀ K : Act → World → Prop, (∀ a' w', Post a' w' → K a' w') → o.wp P a w K Q) : o.wp P a w Post Q := h Post fun _ _ h => h


set_option maxRecDepth 100000 in
set_option maxHeartbeats 40000000 in
theorem sArbGrant_c (m : Mp) (xs0 xs1 : List Int) (a0 a1 : Option Addr) (n0 c0 n1 c1 : Nat) (s k v : Int) (w : World) (h0 : Re w (.sl .int) [.slice a0 n0 c0] (.l (xs0.map Dat.i))) (h1 : Re w (.sl .int) [.slice a1 n1 c1] (.l (xs1.map Dat.i))) (b0 : n0 ≤ 1048576) (b1 : n1 ≤ 1048576) :
    Calls Try.prog 8 #[.agg #[.int .i64 m.c, .int .i64 m.w], .agg #[.slice a0 n0 c0, .slice a1 n1 c1], .int .i64 s, .int .i64 k, .int .i64 v] w (MadeArbB w (ag0 m xs0 xs1 s k v).length (ag1 m xs0 xs1 s k v).length (ag0 m xs0 xs1 s k v) (ag1 m xs0 xs1 s k v) (agB m xs0 xs1 s k v)) := by
  have H0 := hid h0
  have H1 := hid h1
  have L0 := hid h0.len
  have L1 := hid h1.len
  clear h0 h1
  cases h : arbOk m xs0 xs1 s with
  | false =>
    have E := hid (show arbOk m xs0 xs1 s = false from h)
    go_enter Try.func8, Try.ntmps8
    try go_wp2_with (first
        | (go_at_call 28; refine (sArbOk_c _ _ _ _ _ _ _ _ _ _ _ (Re.of (Hid.out (by assumption)) (by ((try simp only [ext_drew]); (try simp only [ext_ext]); repeat (first | exact Ext.refl _ | with_reducible apply Ext.add | with_reducible apply Ext.dr | apply Ext.alloc | apply Ext.ext | apply Ext.drew | refine Ext.trans ?_ (by assumption))))) (Re.of (Hid.out (by assumption)) (by ((try simp only [ext_drew]); (try simp only [ext_ext]); repeat (first | exact Ext.refl _ | with_reducible apply Ext.add | with_reducible apply Ext.dr | apply Ext.alloc | apply Ext.ext | apply Ext.drew | refine Ext.trans ?_ (by assumption))))) (by omega)).mono ?_; rintro e w' ⟨rfl, t, rfl⟩)
        | (
          with_reducible refine wp_region_mix (by kernel_rfl) (by decide +kernel) ?_
          repeat (first
            | (refine mix_pure rfl ?_; (first | go_big_quiet_skip | (go_big_quiet_want; go_big_quiet_op; go_big_quiet_on)); refine wpQuiet_nil ?_)
            | (refine mix_skip (by rfl) ?_; (try simp only [Act.put, List.setIfInBounds_toArray, List.set_cons_zero, List.set_cons_succ]))
            | (refine mix_mk rfl (by rfl) (fun K hK => ?_); (first | (go_simp; first | (go_at_call 28; refine (sArbOk_c _ _ _ _ _ _ _ _ _ _ _ (Re.of (Hid.out (by assumption)) (by ((try simp only [ext_drew]); (try simp only [ext_ext]); repeat (first | exact Ext.refl _ | with_reducible apply Ext.add | with_reducible apply Ext.dr | apply Ext.alloc | apply Ext.ext | apply Ext.drew | refine Ext.trans ?_ (by assumption))))) (Re.of (Hid.out (by assumption)) (by ((try simp only [ext_drew]); (try simp only [ext_ext]); repeat (first | exact Ext.refl _ | with_reducible apply Ext.add | with_reducible apply Ext.dr | apply Ext.alloc | apply Ext.ext | apply Ext.drew | refine Ext.trans ?_ (by assumption))))) (by omega)).mono ?_; rintro e w' ⟨rfl, t, rfl⟩) | skip)); (show K _ _); refine hK _ _ (show Ext _ _ from (by ((try simp only [ext_drew]); (try simp only [ext_ext]); repeat (first | exact Ext.refl _ | with_reducible apply Ext.add | with_reducible apply Ext.dr | apply Ext.alloc | apply Ext.ext | apply Ext.drew | refine Ext.trans ?_ (by assumption))))) ?_; clear hK K; (try simp only [Act.put, List.setIfInBounds_toArray, List.set_cons_zero, List.set_cons_succ])))
          refine mix_nil ?_)
        | (
          with_reducible refine wp_region_ext (by kernel_rfl) (by kernel_rfl) ?_
          repeat (first | go_big_quiet_skip | (go_big_quiet_want; go_big_quiet_op; first | go_big_quiet_on | (apply Exists.intro; refine ⟨fun _ => ?_, ?_⟩; ((first | (go_at_call 28; first | exact quiet_call (sArbOk_c _ _ _ _ _ _ _ _ _ _ _ (Re.of (Hid.out (by assumption)) (by ((try simp only [ext_drew]); (try simp only [ext_ext]); repeat (first | exact Ext.refl _ | with_reducible apply Ext.add | with_reducible apply Ext.dr | apply Ext.alloc | apply Ext.ext | apply Ext.drew | refine Ext.trans ?_ (by assumption))))) (Re.of (Hid.out (by assumption)) (by ((try simp only [ext_drew]); (try simp only [ext_ext]); repeat (first | exact Ext.refl _ | with_reducible apply Ext.add | with_reducible apply Ext.dr | apply Ext.alloc | apply Ext.ext | apply Ext.drew | refine Ext.trans ?_ (by assumption))))) (by omega)) | exact quiet_call2 (sArbOk_c _ _ _ _ _ _ _ _ _ _ _ (Re.of (Hid.out (by assumption)) (by ((try simp only [ext_drew]); (try simp only [ext_ext]); repeat (first | exact Ext.refl _ | with_reducible apply Ext.add | with_reducible apply Ext.dr | apply Ext.alloc | apply Ext.ext | apply Ext.drew | refine Ext.trans ?_ (by assumption))))) (Re.of (Hid.out (by assumption)) (by ((try simp only [ext_drew]); (try simp only [ext_ext]); repeat (first | exact Ext.refl _ | with_reducible apply Ext.add | with_reducible apply Ext.dr | apply Ext.alloc | apply Ext.ext | apply Ext.drew | refine Ext.trans ?_ (by assumption))))) (by omega))))); (try rw [h1]); (try rw [h2]); (try rw [h3]); (try rw [h4]); (try rw [p1]); (try rw [p2]); (try rw [p3]); (try rw [p4]); (try rw [r1]); (try rw [r2]); (try rw [r3]); (try rw [r4]); (try rw [r5]); (try rw [r6]); (try rw [q3]); (try rw [q4]); (try rw [hp]); (try rw [hq]); go_big_quiet_on)))
          refine wpQuiet_nil ?_
          rintro _ ⟨tq, rfl⟩))
    refine bodyPost_ret (v := .tuple #[.agg #[.slice none 0 0, .slice none 0 0], .bool false]) (by simp [results, Try.results8, go_sem]) rfl ?_
    rw [show ag0 m xs0 xs1 s k v = [] by rw [ag0, E.out]; rfl, show ag1 m xs0 xs1 s k v = [] by rw [ag1, E.out]; rfl, show agB m xs0 xs1 s k v = false by rw [agB, E.out]; rfl]
    refine ⟨_, _, _, _, rfl, (by ((try simp only [ext_drew]); (try simp only [ext_ext]); repeat (first | exact Ext.refl _ | with_reducible apply Ext.add | with_reducible apply Ext.dr | apply Ext.alloc | apply Ext.ext | apply Ext.drew | refine Ext.trans ?_ (by assumption)))), ?_⟩
    exact ⟨Nat.le_refl _, [], by simp, by simp, own_Arb_nil _⟩
  | true =>
    obtain ⟨f1, f2, f3, f4, f5, f6⟩ := arbOk_facts h
    have HF4 := hid f4
    have HF5 := hid f5
    have HF6 := hid f6
    have hn : n1 = n0 := by have := L0.out; have := L1.out; omega
    obtain rfl := hn
    have E0 := hid (show ag0 m xs0 xs1 s k v = grant0 xs0 xs1 s k v by rw [ag0, h]; rfl)
    have E1 := hid (show ag1 m xs0 xs1 s k v = grant1 xs0 xs1 s k v by rw [ag1, h]; rfl)
    have EB := hid (show agB m xs0 xs1 s k v = grantB xs0 xs1 s k v by rw [agB, h]; rfl)
    have LE0 := hid (show (ag0 m xs0 xs1 s k v).length = n1 by rw [E0.out, grant0_len]; exact L0.out.symm)
    have LE1 := hid (show (ag1 m xs0 xs1 s k v).length = n1 by rw [E1.out, grant1_len]; exact L1.out.symm)
    clear f4 f5 f6
    rw [LE0.out, LE1.out, E0.out, E1.out, EB.out]
    go_enter Try.func8, Try.ntmps8
    try go_wp2_with (first
        | (go_at_call 28; refine (sArbOk_c _ _ _ _ _ _ _ _ _ _ _ (Re.of (Hid.out (by assumption)) (by ((try simp only [ext_drew]); (try simp only [ext_ext]); repeat (first | exact Ext.refl _ | with_reducible apply Ext.add | with_reducible apply Ext.dr | apply Ext.alloc | apply Ext.ext | apply Ext.drew | refine Ext.trans ?_ (by assumption))))) (Re.of (Hid.out (by assumption)) (by ((try simp only [ext_drew]); (try simp only [ext_ext]); repeat (first | exact Ext.refl _ | with_reducible apply Ext.add | with_reducible apply Ext.dr | apply Ext.alloc | apply Ext.ext | apply Ext.drew | refine Ext.trans ?_ (by assumption))))) (by omega)).mono ?_; rintro e w' ⟨rfl, t, rfl⟩)
        | (
          with_reducible refine wp_region_mix (by kernel_rfl) (by decide +kernel) ?_
          repeat (first
            | (refine mix_pure rfl ?_; (first | go_big_quiet_skip | (go_big_quiet_want; go_big_quiet_op; go_big_quiet_on)); refine wpQuiet_nil ?_)
            | (refine mix_skip (by rfl) ?_; (try simp only [Act.put, List.setIfInBounds_toArray, List.set_cons_zero, List.set_cons_succ]))
            | (refine mix_mk rfl (by rfl) (fun K hK => ?_); (first | (go_simp; first | (go_at_call 28; refine (sArbOk_c _ _ _ _ _ _ _ _ _ _ _ (Re.of (Hid.out (by assumption)) (by ((try simp only [ext_drew]); (try simp only [ext_ext]); repeat (first | exact Ext.refl _ | with_reducible apply Ext.add | with_reducible apply Ext.dr | apply Ext.alloc | apply Ext.ext | apply Ext.drew | refine Ext.trans ?_ (by assumption))))) (Re.of (Hid.out (by assumption)) (by ((try simp only [ext_drew]); (try simp only [ext_ext]); repeat (first | exact Ext.refl _ | with_reducible apply Ext.add | with_reducible apply Ext.dr | apply Ext.alloc | apply Ext.ext | apply Ext.drew | refine Ext.trans ?_ (by assumption))))) (by omega)).mono ?_; rintro e w' ⟨rfl, t, rfl⟩) | skip)); (show K _ _); refine hK _ _ (show Ext _ _ from (by ((try simp only [ext_drew]); (try simp only [ext_ext]); repeat (first | exact Ext.refl _ | with_reducible apply Ext.add | with_reducible apply Ext.dr | apply Ext.alloc | apply Ext.ext | apply Ext.drew | refine Ext.trans ?_ (by assumption))))) ?_; clear hK K; (try simp only [Act.put, List.setIfInBounds_toArray, List.set_cons_zero, List.set_cons_succ])))
          refine mix_nil ?_)
        | (
          with_reducible refine wp_region_ext (by kernel_rfl) (by kernel_rfl) ?_
          repeat (first | go_big_quiet_skip | (go_big_quiet_want; go_big_quiet_op; first | go_big_quiet_on | (apply Exists.intro; refine ⟨fun _ => ?_, ?_⟩; ((first | (go_at_call 28; first | exact quiet_call (sArbOk_c _ _ _ _ _ _ _ _ _ _ _ (Re.of (Hid.out (by assumption)) (by ((try simp only [ext_drew]); (try simp only [ext_ext]); repeat (first | exact Ext.refl _ | with_reducible apply Ext.add | with_reducible apply Ext.dr | apply Ext.alloc | apply Ext.ext | apply Ext.drew | refine Ext.trans ?_ (by assumption))))) (Re.of (Hid.out (by assumption)) (by ((try simp only [ext_drew]); (try simp only [ext_ext]); repeat (first | exact Ext.refl _ | with_reducible apply Ext.add | with_reducible apply Ext.dr | apply Ext.alloc | apply Ext.ext | apply Ext.drew | refine Ext.trans ?_ (by assumption))))) (by omega)) | exact quiet_call2 (sArbOk_c _ _ _ _ _ _ _ _ _ _ _ (Re.of (Hid.out (by assumption)) (by ((try simp only [ext_drew]); (try simp only [ext_ext]); repeat (first | exact Ext.refl _ | with_reducible apply Ext.add | with_reducible apply Ext.dr | apply Ext.alloc | apply Ext.ext | apply Ext.drew | refine Ext.trans ?_ (by assumption))))) (Re.of (Hid.out (by assumption)) (by ((try simp only [ext_drew]); (try simp only [ext_ext]); repeat (first | exact Ext.refl _ | with_reducible apply Ext.add | with_reducible apply Ext.dr | apply Ext.alloc | apply Ext.ext | apply Ext.drew | refine Ext.trans ?_ (by assumption))))) (by omega))))); (try rw [h1]); (try rw [h2]); (try rw [h3]); (try rw [h4]); (try rw [p1]); (try rw [p2]); (try rw [p3]); (try rw [p4]); (try rw [r1]); (try rw [r2]); (try rw [r3]); (try rw [r4]); (try rw [r5]); (try rw [r6]); (try rw [q3]); (try rw [q4]); (try rw [hp]); (try rw [hq]); go_big_quiet_on)))
          refine wpQuiet_nil ?_
          rintro _ ⟨tq, rfl⟩))
    refine wp_region_flow [19, 20, 21, 22, 23, 24, 25, 26, 27, 12] (fun i σ lo hi w9 => match i with
      | 0 => MkE (σ 0)
      | 1 => σ 1 = .pointer (some ⟨w.heap.size + 1, 0, none⟩)
      | 2 => σ 2 = .slice a0 n1 c0
      | 3 => MkS n1 .int (.l (xs0.map Dat.i)) (σ 3) lo hi w9
      | 4 => MkE (σ 4)
      | 5 => σ 5 = .pointer (some ⟨w.heap.size + 1, 1, none⟩)
      | 6 => σ 6 = .slice a1 n1 c1
      | 7 => MkS n1 .int (.l (xs1.map Dat.i)) (σ 7) lo hi w9
      | 8 => σ 8 = .agg #[σ 3, σ 7]
      | _ => MkA #[.slice none 0 0, .slice none 0 0] 28 (σ 9) lo hi w9) (by kernel_rfl) (by decide +kernel) (by simp) ?_ ?_ ?_ ?_
    · intro i o hi ho σ σ' lo hi' w9 h hS
      match i, hi, ho with
      | 0, _, ho =>
        have e0 := h 0 (.inl rfl)
        try dsimp only at hS ⊢
        rw [e0] at hS
        exact hS
      | 1, _, ho =>
        have e0 := h 1 (.inl rfl)
        try dsimp only at hS ⊢
        rw [e0] at hS
        exact hS
      | 2, _, ho =>
        have e0 := h 2 (.inl rfl)
        try dsimp only at hS ⊢
        rw [e0] at hS
        exact hS
      | 3, _, ho =>
        have e0 := h 3 (.inl rfl)
        try dsimp only at hS ⊢
        rw [e0] at hS
        exact hS
      | 4, _, ho =>
        have e0 := h 4 (.inl rfl)
        try dsimp only at hS ⊢
        rw [e0] at hS
        exact hS
      | 5, _, ho =>
        have e0 := h 5 (.inl rfl)
        try dsimp only at hS ⊢
        rw [e0] at hS
        exact hS
      | 6, _, ho =>
        have e0 := h 6 (.inl rfl)
        try dsimp only at hS ⊢
        rw [e0] at hS
        exact hS
      | 7, _, ho =>
        have e0 := h 7 (.inl rfl)
        try dsimp only at hS ⊢
        rw [e0] at hS
        exact hS
      | 8, _, ho =>
        have e0 := h 8 (.inl rfl)
        obtain rfl := Option.some.inj ho
        have e4 := h 3 (.inr (by kernel_rfl))
        have e8 := h 7 (.inr (by kernel_rfl))
        try dsimp only at hS ⊢
        rw [e0, e4, e8] at hS
        exact hS
      | 9, _, ho =>
        have e0 := h 9 (.inl rfl)
        try dsimp only at hS ⊢
        rw [e0] at hS
        exact hS
    · intro i hi σ lo hi' w9 w8 hS hle hE
      match i, hi with
      | 0, _ => exact hS
      | 1, _ => exact hS
      | 2, _ => exact hS
      | 3, _ => exact MkS.ext hS hE
      | 4, _ => exact hS
      | 5, _ => exact hS
      | 6, _ => exact hS
      | 7, _ => exact MkS.ext hS hE
      | 8, _ => exact hS
      | 9, _ => exact MkA.ext hS hE
    · intro i o hi ho σ L H w9 hE hd
      obtain ⟨t9, rfl⟩ := hE
      match i, hi, ho with
      | 0, _, ho =>
        obtain rfl := Option.some.inj ho
        clear hd ho
        simp only [actS, putS, List.setIfInBounds_toArray, List.set_cons_zero, List.set_cons_succ, Nat.reduceAdd]
        refine flow_K (fun K hK => ?_)
        go_simp
        (show K _ _)
        exact hK _ _ ⟨_, rfl, (show Ext _ _ from (by ((try simp only [ext_drew]); (try simp only [ext_ext]); repeat (first | exact Ext.refl _ | with_reducible apply Ext.add | with_reducible apply Ext.dr | apply Ext.alloc | apply Ext.ext | apply Ext.drew | refine Ext.trans ?_ (by assumption))))), ⟨_, rfl⟩⟩
      | 1, _, ho =>
        obtain rfl := Option.some.inj ho
        clear hd ho
        simp only [actS, putS, List.setIfInBounds_toArray, List.set_cons_zero, List.set_cons_succ, Nat.reduceAdd]
        refine flow_K (fun K hK => ?_)
        go_simp
        (show K _ _)
        exact hK _ _ ⟨_, rfl, (show Ext _ _ from (by ((try simp only [ext_drew]); (try simp only [ext_ext]); repeat (first | exact Ext.refl _ | with_reducible apply Ext.add | with_reducible apply Ext.dr | apply Ext.alloc | apply Ext.ext | apply Ext.drew | refine Ext.trans ?_ (by assumption))))), rfl⟩
      | 2, _, ho =>
        obtain rfl := Option.some.inj ho
        have e1 : σ 1 = .pointer (some ⟨w.heap.size + 1, 0, none⟩) := (hd 1 (by kernel_rfl)).2.2.2
        clear hd ho
        simp only [actS, putS, List.setIfInBounds_toArray, List.set_cons_zero, List.set_cons_succ, Nat.reduceAdd, e1]
        refine flow_K (fun K hK => ?_)
        go_simp
        (show K _ _)
        exact hK _ _ ⟨_, rfl, (show Ext _ _ from (by ((try simp only [ext_drew]); (try simp only [ext_ext]); repeat (first | exact Ext.refl _ | with_reducible apply Ext.add | with_reducible apply Ext.dr | apply Ext.alloc | apply Ext.ext | apply Ext.drew | refine Ext.trans ?_ (by assumption))))), rfl⟩
      | 3, _, ho =>
        obtain rfl := Option.some.inj ho
        obtain ⟨g0, e0⟩ : MkE (σ 0) := (hd 0 (by kernel_rfl)).2.2.2
        have e2 : σ 2 = .slice a0 n1 c0 := (hd 2 (by kernel_rfl)).2.2.2
        clear hd ho
        simp only [actS, putS, List.setIfInBounds_toArray, List.set_cons_zero, List.set_cons_succ, Nat.reduceAdd, e0, e2]
        refine flow_K (fun K hK => ?_)
        refine wp_cloneS (cells := icells) (k := 1) (bytes := 8) (z := .int .i64 0) Try.underlying24 (by kernel_rfl) rfl (by decide) (by decide) rfl (fun _ => rfl) (fun _ _ _ _ h => rd_Int h) (fun _ _ h => idat_inj h) ione (fun w x => own_Int_mk w x) _ _ rfl rfl (.inr ⟨_, rfl⟩) xs0 rfl (H0.out.of (by ((try simp only [ext_drew]); (try simp only [ext_ext]); repeat (first | exact Ext.refl _ | with_reducible apply Ext.add | with_reducible apply Ext.dr | apply Ext.alloc | apply Ext.ext | apply Ext.drew | refine Ext.trans ?_ (by assumption))))) b0 ?_
        intro a' c' t' ho'
        exact hK _ _ ⟨_, rfl, ⟨t', rfl⟩, ⟨_, _, rfl, ho'⟩⟩
      | 4, _, ho =>
        obtain rfl := Option.some.inj ho
        clear hd ho
        simp only [actS, putS, List.setIfInBounds_toArray, List.set_cons_zero, List.set_cons_succ, Nat.reduceAdd]
        refine flow_K (fun K hK => ?_)
        go_simp
        (show K _ _)
        exact hK _ _ ⟨_, rfl, (show Ext _ _ from (by ((try simp only [ext_drew]); (try simp only [ext_ext]); repeat (first | exact Ext.refl _ | with_reducible apply Ext.add | with_reducible apply Ext.dr | apply Ext.alloc | apply Ext.ext | apply Ext.drew | refine Ext.trans ?_ (by assumption))))), ⟨_, rfl⟩⟩
      | 5, _, ho =>
        obtain rfl := Option.some.inj ho
        clear hd ho
        simp only [actS, putS, List.setIfInBounds_toArray, List.set_cons_zero, List.set_cons_succ, Nat.reduceAdd]
        refine flow_K (fun K hK => ?_)
        go_simp
        (show K _ _)
        exact hK _ _ ⟨_, rfl, (show Ext _ _ from (by ((try simp only [ext_drew]); (try simp only [ext_ext]); repeat (first | exact Ext.refl _ | with_reducible apply Ext.add | with_reducible apply Ext.dr | apply Ext.alloc | apply Ext.ext | apply Ext.drew | refine Ext.trans ?_ (by assumption))))), rfl⟩
      | 6, _, ho =>
        obtain rfl := Option.some.inj ho
        have e5 : σ 5 = .pointer (some ⟨w.heap.size + 1, 1, none⟩) := (hd 5 (by kernel_rfl)).2.2.2
        clear hd ho
        simp only [actS, putS, List.setIfInBounds_toArray, List.set_cons_zero, List.set_cons_succ, Nat.reduceAdd, e5]
        refine flow_K (fun K hK => ?_)
        go_simp
        (show K _ _)
        exact hK _ _ ⟨_, rfl, (show Ext _ _ from (by ((try simp only [ext_drew]); (try simp only [ext_ext]); repeat (first | exact Ext.refl _ | with_reducible apply Ext.add | with_reducible apply Ext.dr | apply Ext.alloc | apply Ext.ext | apply Ext.drew | refine Ext.trans ?_ (by assumption))))), rfl⟩
      | 7, _, ho =>
        obtain rfl := Option.some.inj ho
        obtain ⟨g4, e4⟩ : MkE (σ 4) := (hd 4 (by kernel_rfl)).2.2.2
        have e6 : σ 6 = .slice a1 n1 c1 := (hd 6 (by kernel_rfl)).2.2.2
        clear hd ho
        simp only [actS, putS, List.setIfInBounds_toArray, List.set_cons_zero, List.set_cons_succ, Nat.reduceAdd, e4, e6]
        refine flow_K (fun K hK => ?_)
        refine wp_cloneS (cells := icells) (k := 1) (bytes := 8) (z := .int .i64 0) Try.underlying24 (by kernel_rfl) rfl (by decide) (by decide) rfl (fun _ => rfl) (fun _ _ _ _ h => rd_Int h) (fun _ _ h => idat_inj h) ione (fun w x => own_Int_mk w x) _ _ rfl rfl (.inr ⟨_, rfl⟩) xs1 rfl (H1.out.of (by ((try simp only [ext_drew]); (try simp only [ext_ext]); repeat (first | exact Ext.refl _ | with_reducible apply Ext.add | with_reducible apply Ext.dr | apply Ext.alloc | apply Ext.ext | apply Ext.drew | refine Ext.trans ?_ (by assumption))))) b1 ?_
        intro a' c' t' ho'
        exact hK _ _ ⟨_, rfl, ⟨t', rfl⟩, ⟨_, _, rfl, ho'⟩⟩
      | 8, _, ho =>
        obtain rfl := Option.some.inj ho
        obtain ⟨pa3, pc3, e3, _⟩ : MkS n1 .int (.l (xs0.map Dat.i)) (σ 3) (L 3) (H 3) _ := (hd 3 (by kernel_rfl)).2.2.2
        obtain ⟨pa7, pc7, e7, _⟩ : MkS n1 .int (.l (xs1.map Dat.i)) (σ 7) (L 7) (H 7) _ := (hd 7 (by kernel_rfl)).2.2.2
        clear hd ho
        simp only [actS, putS, List.setIfInBounds_toArray, List.set_cons_zero, List.set_cons_succ, Nat.reduceAdd, e3, e7]
        refine flow_K (fun K hK => ?_)
        go_simp
        (show K _ _)
        exact hK _ _ ⟨_, rfl, (show Ext _ _ from (by ((try simp only [ext_drew]); (try simp only [ext_ext]); repeat (first | exact Ext.refl _ | with_reducible apply Ext.add | with_reducible apply Ext.dr | apply Ext.alloc | apply Ext.ext | apply Ext.drew | refine Ext.trans ?_ (by assumption))))), (by simp)⟩
      | 9, _, ho =>
        obtain rfl := Option.some.inj ho
        clear hd ho
        simp only [actS, putS, List.setIfInBounds_toArray, List.set_cons_zero, List.set_cons_succ, Nat.reduceAdd]
        refine flow_K (fun K hK => ?_)
        go_simp
        (show K _ _)
        exact hK _ _ ⟨_, rfl, (show Ext _ _ from (by ((try simp only [ext_drew]); (try simp only [ext_ext]); repeat (first | exact Ext.refl _ | with_reducible apply Ext.add | with_reducible apply Ext.dr | apply Ext.alloc | apply Ext.ext | apply Ext.drew | refine Ext.trans ?_ (by assumption))))), ⟨_, rfl, by simp [go_sem], by simp [go_sem], heap_new (by simp [go_sem])⟩⟩
    · intro o ho σ L H w9 hE hd hap
      obtain ⟨t9, rfl⟩ := hE
      obtain ⟨l0, m0, u0, s0⟩ := hd 0 (by decide)
      obtain ⟨g0, e0⟩ : MkE (σ 0) := s0
      skip
      obtain ⟨l1, m1, u1, s1⟩ := hd 1 (by decide)
      have e1 : σ 1 = .pointer (some ⟨w.heap.size + 1, 0, none⟩) := s1
      clear s1
      obtain ⟨l2, m2, u2, s2⟩ := hd 2 (by decide)
      have e2 : σ 2 = .slice a0 n1 c0 := s2
      clear s2
      obtain ⟨l3, m3, u3, s3⟩ := hd 3 (by decide)
      obtain ⟨pa3, pc3, e3, o3⟩ : MkS n1 .int (.l (xs0.map Dat.i)) (σ 3) (L 3) (H 3) _ := s3
      skip
      obtain ⟨l4, m4, u4, s4⟩ := hd 4 (by decide)
      obtain ⟨g4, e4⟩ : MkE (σ 4) := s4
      skip
      obtain ⟨l5, m5, u5, s5⟩ := hd 5 (by decide)
      have e5 : σ 5 = .pointer (some ⟨w.heap.size + 1, 1, none⟩) := s5
      clear s5
      obtain ⟨l6, m6, u6, s6⟩ := hd 6 (by decide)
      have e6 : σ 6 = .slice a1 n1 c1 := s6
      clear s6
      obtain ⟨l7, m7, u7, s7⟩ := hd 7 (by decide)
      obtain ⟨pa7, pc7, e7, o7⟩ : MkS n1 .int (.l (xs1.map Dat.i)) (σ 7) (L 7) (H 7) _ := s7
      skip
      obtain ⟨l8, m8, u8, s8⟩ := hd 8 (by decide)
      have e8 : σ 8 = .agg #[σ 3, σ 7] := s8
      clear s8
      obtain ⟨l9, m9, u9, s9⟩ := hd 9 (by decide)
      obtain ⟨bx, e9, bl, bh, hbx⟩ : MkA #[.slice none 0 0, .slice none 0 0] 28 (σ 9) (L 9) (H 9) _ := s9
      skip
      rw [e3, e7] at e8
      clear hd
      try simp only [ext_ext] at hbx o3 o7
      have y0 := (cell_blk hbx 0).trans (show _ = some (Value.slice none 0 0) from rfl)
      have y1 := (cell_blk hbx 1).trans (show _ = some (Value.slice none 0 0) from rfl)
      have z0 := frozen_blk hbx 0
      have z1 := frozen_blk hbx 1
      have HBX := hid hbx
      have lbx := lt_blk hbx
      clear hbx
      simp only [actS, putS, List.setIfInBounds_toArray, List.set_cons_zero, List.set_cons_succ, Nat.reduceAdd, e0, e1, e2, e3, e4, e5, e6, e7, e8, e9]
      obtain rfl := Option.some.inj ho
      refine flow_K (fun K hK => ?_)
      go_simp
      (show K _ _)
      refine hK _ _ ?_
      clear hK K ho
      try simp only [Act.put, List.setIfInBounds_toArray, List.set_cons_zero, List.set_cons_succ]
      simp only [Exit.then]
      rename_i hKont
      refine hKont _ _ ?_
      clear hKont
      refine wp_gen fun X hX => ?_
      have hC := chg_two hX
      have hbX : X.heap[bx]? = some (.cells #[.slice pa3 n1 pc3, .slice pa7 n1 pc7] 28 (0, 0)) := by rw [hX]; exact blk_set (blk_set HBX.out)
      obtain ⟨Y, hY, hCY⟩ := chg_left hC
      have EY : Ext w Y := by rw [hY]; ((try simp only [ext_drew]); (try simp only [ext_ext]); repeat (first | exact Ext.refl _ | with_reducible apply Ext.add | with_reducible apply Ext.dr | apply Ext.alloc | apply Ext.ext | apply Ext.drew | refine Ext.trans ?_ (by assumption)))
      have d39 := hap 3 9 (by decide) (by decide) (by decide)
      have d79 := hap 7 9 (by decide) (by decide) (by decide)
      have d37 := hap 3 7 (by decide) (by decide) (by decide)
      have hbase : w.heap.size + 3 ≤ L 9 := Nat.le_trans (by (try simp [go_sem]) <;> (try simp [Xt.add]) <;> omega) l9
      have hb3 : w.heap.size + 3 ≤ L 3 := Nat.le_trans (by (try simp [go_sem]) <;> (try simp [Xt.add]) <;> omega) l3
      have hb7 : w.heap.size + 3 ≤ L 7 := Nat.le_trans (by (try simp [go_sem]) <;> (try simp [Xt.add]) <;> omega) l7
      have hkr : ∀ z ∈ [bx], bx ≤ z ∧ z < bx + 1 := fun z hz => by
        obtain rfl : z = bx := by simpa using hz
        omega
      have q3 := OwnR.chg o3 (hC.toR hkr) (by omega)
      have q7 := OwnR.chg o7 (hC.toR hkr) (by omega)
      have hMB : w.heap.size ∉ [bx] := by simp; omega
      have hRB : w.heap.size + 1 + 1 ∉ [bx] := by simp; omega
      have cM0 : X.cell? ⟨w.heap.size, 0, none⟩ = some (.int .i64 m.c) := (hC.cell (by (try simp [go_sem]) <;> (try simp [Xt.add]) <;> omega) hMB 0).trans (by simp [go_sem])
      have cR0 : X.cell? ⟨w.heap.size + 1 + 1, 0, none⟩ = some (.slice none 0 0) := (hC.cell (by (try simp [go_sem]) <;> (try simp [Xt.add]) <;> omega) hRB 0).trans (by simp [go_sem])
      have cR1 : X.cell? ⟨w.heap.size + 1 + 1, 1, none⟩ = some (.slice none 0 0) := (hC.cell (by (try simp [go_sem]) <;> (try simp [Xt.add]) <;> omega) hRB 1).trans (by simp [go_sem])
      have hRX : X.heap[w.heap.size + 1 + 1]? = some (.cells #[.slice none 0 0, .slice none 0 0] 28 (0, 0)) := (hC.block _ (by (try simp [go_sem]) <;> (try simp [Xt.add]) <;> omega) hRB).trans ((ext_block _ _ _ (by (try simp [go_sem]) <;> (try simp [Xt.add]) <;> omega)).trans (heap_new (by simp)))
      have zR0 := frozen_blk hRX 0
      have zR1 := frozen_blk hRX 1
      have cb0 : X.cell? ⟨bx, 0, none⟩ = some (.slice pa3 n1 pc3) := (cell_blk hbX 0).trans rfl
      have cb1 : X.cell? ⟨bx, 1, none⟩ = some (.slice pa7 n1 pc7) := (cell_blk hbX 1).trans rfl
      have lRX := lt_blk hRX
      have lbX := lt_blk hbX
      have lMX : w.heap.size < X.heap.size := by omega
      have HOT := hid (own_two_any q3 q7 d37 hb3 hb7)
      have HCR := hid (hCY.toR (lo := w.heap.size + 3) (hi := X.heap.size) (fun z hz => by
        obtain rfl : z = bx := by simpa using hz
        omega))
      have HRX := hid hRX
      have HQ3 := hid q3
      have HQ7 := hid q7
      have hbx3 : w.heap.size + 3 ≤ bx := by omega
      have hsep : bx < L 3 ∨ H 3 ≤ bx := by omega
      have hsep7 : bx < L 7 ∨ H 7 ≤ bx := by omega
      have mc0 := (plcOk_iff.1 f1).1.1
      have mc1 := (plcOk_iff.1 f1).1.2
      clear hX hC hCY hY q3 q7 o3 o7 HBX y0 y1 z0 z1 hkr hMB hRB hbX hRX lbx e0 e1 e2 e3 e4 e5 e6 e7 e8 e9
      have HS := hid hsep
      have HS7 := hid hsep7
      have HD := hid d37
      have HB3 := hid hb3
      have HB7 := hid hb7
      clear hsep hsep7 d37 hap d39 d79 l0 l1 l2 l3 l4 l5 l6 l7 l8 l9 m0 m1 m2 m3 m4 m5 m6 m7 m8 m9 u0 u1 u2 u3 u4 u5 u6 u7 u8 u9 bl bh hb3 hb7 hbase
      cases r1 : inB k 0 (m.c - 1) with
      | false =>
        have EG := hid (show grantB xs0 xs1 s k v = false by rw [grantB, HF4.out, r1]; rfl)
        have EG0 := hid (show grant0 xs0 xs1 s _ v = xs0 by rw [grant0, EG.out]; rfl)
        have EG1 := hid (show grant1 xs0 xs1 s _ v = xs1 by rw [grant1, EG.out]; rfl)
        try go_wp2_with (first
            | (go_at_call 29; refine (l1In_c _ _ _ _).mono ?_; rintro e w' ⟨rfl, rfl⟩)
            | (
              with_reducible refine wp_region_mix (by kernel_rfl) (by decide +kernel) ?_
              repeat (first
                | (refine mix_pure rfl ?_; (first | go_big_quiet_skip | (go_big_quiet_want; go_big_quiet_op; go_big_quiet_on)); refine wpQuiet_nil ?_)
                | (refine mix_skip (by rfl) ?_; (try simp only [Act.put, List.setIfInBounds_toArray, List.set_cons_zero, List.set_cons_succ]))
                | (refine mix_mk rfl (by rfl) (fun K hK => ?_); (first | (go_simp; first | (go_at_call 29; refine (l1In_c _ _ _ _).mono ?_; rintro e w' ⟨rfl, rfl⟩) | skip)); (show K _ _); refine hK _ _ (show Ext _ _ from (by ((try simp only [ext_drew]); (try simp only [ext_ext]); repeat (first | exact Ext.refl _ | with_reducible apply Ext.add | with_reducible apply Ext.dr | apply Ext.alloc | apply Ext.ext | apply Ext.drew | refine Ext.trans ?_ (by assumption))))) ?_; clear hK K; (try simp only [Act.put, List.setIfInBounds_toArray, List.set_cons_zero, List.set_cons_succ])))
              refine mix_nil ?_)
            | (
              with_reducible refine wp_region_ext (by kernel_rfl) (by kernel_rfl) ?_
              repeat (first | go_big_quiet_skip | (go_big_quiet_want; go_big_quiet_op; first | go_big_quiet_on | (apply Exists.intro; refine ⟨fun _ => ?_, ?_⟩; ((first | (go_at_call 29; first | exact quiet_same (l1In_c _ _ _ _) | exact quiet_same2 (l1In_c _ _ _ _)))); (try rw [h1]); (try rw [h2]); (try rw [h3]); (try rw [h4]); (try rw [p1]); (try rw [p2]); (try rw [p3]); (try rw [p4]); (try rw [r1]); (try rw [r2]); (try rw [r3]); (try rw [r4]); (try rw [r5]); (try rw [r6]); (try rw [q3]); (try rw [q4]); (try rw [hp]); (try rw [hq]); go_big_quiet_on)))
              refine wpQuiet_nil ?_
              rintro _ ⟨tq, rfl⟩))
        refine bodyPost_ret (v := .tuple #[.agg #[.slice pa3 n1 pc3, .slice pa7 n1 pc7], .bool false]) (by simp [results, Try.results8, go_sem, cR0, cR1, cb0, cb1]) rfl ?_
        rw [EG0.out, EG1.out, EG.out]
        refine ⟨_, _, _, _, rfl, ?_⟩
        exact fin_res (w := w) EY HCR.out HOT.out (R := w.heap.size + 1 + 1) (by (try simp [go_sem]) <;> (try simp [Xt.add]) <;> omega) (by (try simp [go_sem]) <;> (try simp [Xt.add]) <;> omega) (by repeat (first | with_reducible exact Chg.refl _ _ | with_reducible apply Chg.drew | with_reducible apply Chg.drewl | with_reducible refine Chg.turn (by simp) | with_reducible refine Chg.both ?_ (by simp) | (with_reducible refine Chg.set ?_ (by simp) _) | with_reducible apply Chg.alloc | with_reducible apply Chg.ext))
      | true =>
        obtain ⟨j, rfl⟩ : ∃ j : Nat, k = (j : Int) := ⟨k.toNat, by have := inB_iff.1 r1; omega⟩
        have hj : j < n1 := by have := inB_iff.1 r1; have := HF4.out; have := L0.out; omega
        cases r2 : inB v 0 (s - 1) with
        | false =>
          have EG := hid (show grantB xs0 xs1 s (j : Int) v = false by rw [grantB, r2]; simp)
          have EG0 := hid (show grant0 xs0 xs1 s _ v = xs0 by rw [grant0, EG.out]; rfl)
          have EG1 := hid (show grant1 xs0 xs1 s _ v = xs1 by rw [grant1, EG.out]; rfl)
          try go_wp2_with (first
              | (go_at_call 29; refine (l1In_c _ _ _ _).mono ?_; rintro e w' ⟨rfl, rfl⟩)
              | (
                with_reducible refine wp_region_mix (by kernel_rfl) (by decide +kernel) ?_
                repeat (first
                  | (refine mix_pure rfl ?_; (first | go_big_quiet_skip | (go_big_quiet_want; go_big_quiet_op; go_big_quiet_on)); refine wpQuiet_nil ?_)
                  | (refine mix_skip (by rfl) ?_; (try simp only [Act.put, List.setIfInBounds_toArray, List.set_cons_zero, List.set_cons_succ]))
                  | (refine mix_mk rfl (by rfl) (fun K hK => ?_); (first | (go_simp; first | (go_at_call 29; refine (l1In_c _ _ _ _).mono ?_; rintro e w' ⟨rfl, rfl⟩) | skip)); (show K _ _); refine hK _ _ (show Ext _ _ from (by ((try simp only [ext_drew]); (try simp only [ext_ext]); repeat (first | exact Ext.refl _ | with_reducible apply Ext.add | with_reducible apply Ext.dr | apply Ext.alloc | apply Ext.ext | apply Ext.drew | refine Ext.trans ?_ (by assumption))))) ?_; clear hK K; (try simp only [Act.put, List.setIfInBounds_toArray, List.set_cons_zero, List.set_cons_succ])))
                refine mix_nil ?_)
              | (
                with_reducible refine wp_region_ext (by kernel_rfl) (by kernel_rfl) ?_
                repeat (first | go_big_quiet_skip | (go_big_quiet_want; go_big_quiet_op; first | go_big_quiet_on | (apply Exists.intro; refine ⟨fun _ => ?_, ?_⟩; ((first | (go_at_call 29; first | exact quiet_same (l1In_c _ _ _ _) | exact quiet_same2 (l1In_c _ _ _ _)))); (try rw [h1]); (try rw [h2]); (try rw [h3]); (try rw [h4]); (try rw [p1]); (try rw [p2]); (try rw [p3]); (try rw [p4]); (try rw [r1]); (try rw [r2]); (try rw [r3]); (try rw [r4]); (try rw [r5]); (try rw [r6]); (try rw [q3]); (try rw [q4]); (try rw [hp]); (try rw [hq]); go_big_quiet_on)))
                refine wpQuiet_nil ?_
                rintro _ ⟨tq, rfl⟩))
          refine bodyPost_ret (v := .tuple #[.agg #[.slice pa3 n1 pc3, .slice pa7 n1 pc7], .bool false]) (by simp [results, Try.results8, go_sem, cR0, cR1, cb0, cb1]) rfl ?_
          rw [EG0.out, EG1.out, EG.out]
          refine ⟨_, _, _, _, rfl, ?_⟩
          exact fin_res (w := w) EY HCR.out HOT.out (R := w.heap.size + 1 + 1) (by (try simp [go_sem]) <;> (try simp [Xt.add]) <;> omega) (by (try simp [go_sem]) <;> (try simp [Xt.add]) <;> omega) (by repeat (first | with_reducible exact Chg.refl _ _ | with_reducible apply Chg.drew | with_reducible apply Chg.drewl | with_reducible refine Chg.turn (by simp) | with_reducible refine Chg.both ?_ (by simp) | (with_reducible refine Chg.set ?_ (by simp) _) | with_reducible apply Chg.alloc | with_reducible apply Chg.ext))
        | true =>
          obtain ⟨v3, B3, n3', r3', O3⟩ := HQ3.out
          obtain ⟨v7, B7, n7', r7', O7⟩ := HQ7.out
          obtain ⟨b0', arr0, T0, x0, rfl, hB0, hl0, hx0, hb0, e0, z0, upd0⟩ := own_at_Int O3 hj
          obtain ⟨b1', arr1, T1, x1, rfl, hB1, hl1, hx1, hb1, e1, z1, upd1⟩ := own_at_Int O7 hj
          have i0 := r3' b0' (by rw [hB0]; simp)
          have i1 := r7' b1' (by rw [hB1]; simp)
          have hd37 := HD.out
          have hd3 := HS.out
          have hd7 := HS7.out
          have h3' := HB3.out
          have h7' := HB7.out
          have ne01 : b0' ≠ b1' := by omega
          have ne0x : b0' ≠ bx := by omega
          have ne1x : b1' ≠ bx := by omega
          have ne0r : b0' ≠ w.heap.size + 1 + 1 := by omega
          have ne1r : b1' ≠ w.heap.size + 1 + 1 := by omega
          have ge0 : w.heap.size + 3 ≤ b0' := by omega
          have ge1 : w.heap.size + 3 ≤ b1' := by omega
          have lt0 := lt_blk hb0
          have lt1 := lt_blk hb1
          have x1b := HF6.out x1 (List.mem_of_getElem? hx1)
          have x1l := x1b.1
          have x1h := x1b.2
          have HX1 := hid hx1
          have HU0 := hid upd0
          have HU1 := hid upd1
          have HK0 := hid hb0
          have HK1 := hid hb1
          clear hd37 hd3 hd7 h3' h7' i0 i1 x1b hx0 hx1 upd0 upd1 hb0 hb1 r3' r7' O3 O7 n3' n7' v3 v7 hB0 hB1 hl0 hl1
          have hget : (xs1[((j : Int)).toNat]?).getD 0 = x1 := by rw [Int.toNat_natCast, HX1.out]; rfl
          have HG := hid hget
          clear hget
          cases r4 : (x1 == 900) with
          | true =>
            have EG := hid (show grantB xs0 xs1 s (j : Int) v = false by rw [grantB, HG.out, r4]; simp)
            have EG0 := hid (show grant0 xs0 xs1 s _ v = xs0 by rw [grant0, EG.out]; rfl)
            have EG1 := hid (show grant1 xs0 xs1 s _ v = xs1 by rw [grant1, EG.out]; rfl)
            try go_wp2_with (first
                | (go_at_call 29; refine (l1In_c _ _ _ _).mono ?_; rintro e w' ⟨rfl, rfl⟩)
                | (
                  with_reducible refine wp_region_mix (by kernel_rfl) (by decide +kernel) ?_
                  repeat (first
                    | (refine mix_pure rfl ?_; (first | go_big_quiet_skip | (go_big_quiet_want; go_big_quiet_op; go_big_quiet_on)); refine wpQuiet_nil ?_)
                    | (refine mix_skip (by rfl) ?_; (try simp only [Act.put, List.setIfInBounds_toArray, List.set_cons_zero, List.set_cons_succ]))
                    | (refine mix_mk rfl (by rfl) (fun K hK => ?_); (first | (go_simp; first | (go_at_call 29; refine (l1In_c _ _ _ _).mono ?_; rintro e w' ⟨rfl, rfl⟩) | skip)); (show K _ _); refine hK _ _ (show Ext _ _ from (by ((try simp only [ext_drew]); (try simp only [ext_ext]); repeat (first | exact Ext.refl _ | with_reducible apply Ext.add | with_reducible apply Ext.dr | apply Ext.alloc | apply Ext.ext | apply Ext.drew | refine Ext.trans ?_ (by assumption))))) ?_; clear hK K; (try simp only [Act.put, List.setIfInBounds_toArray, List.set_cons_zero, List.set_cons_succ])))
                  refine mix_nil ?_)
                | (
                  with_reducible refine wp_region_ext (by kernel_rfl) (by kernel_rfl) ?_
                  repeat (first | go_big_quiet_skip | (go_big_quiet_want; go_big_quiet_op; first | go_big_quiet_on | (apply Exists.intro; refine ⟨fun _ => ?_, ?_⟩; ((first | (go_at_call 29; first | exact quiet_same (l1In_c _ _ _ _) | exact quiet_same2 (l1In_c _ _ _ _)))); (try rw [h1]); (try rw [h2]); (try rw [h3]); (try rw [h4]); (try rw [p1]); (try rw [p2]); (try rw [p3]); (try rw [p4]); (try rw [r1]); (try rw [r2]); (try rw [r3]); (try rw [r4]); (try rw [r5]); (try rw [r6]); (try rw [q3]); (try rw [q4]); (try rw [hp]); (try rw [hq]); go_big_quiet_on)))
                  refine wpQuiet_nil ?_
                  rintro _ ⟨tq, rfl⟩))
            refine bodyPost_ret (v := .tuple #[.agg #[.slice (some ⟨b0', 0, none⟩) n1 pc3, .slice (some ⟨b1', 0, none⟩) n1 pc7], .bool false]) (by simp [results, Try.results8, go_sem, cR0, cR1, cb0, cb1]) rfl ?_
            rw [EG0.out, EG1.out, EG.out]
            refine ⟨_, _, _, _, rfl, ?_⟩
            exact fin_res (w := w) EY HCR.out HOT.out (R := w.heap.size + 1 + 1) (by (try simp [go_sem]) <;> (try simp [Xt.add]) <;> omega) (by (try simp [go_sem]) <;> (try simp [Xt.add]) <;> omega) (by repeat (first | with_reducible exact Chg.refl _ _ | with_reducible apply Chg.drew | with_reducible apply Chg.drewl | with_reducible refine Chg.turn (by simp) | with_reducible refine Chg.both ?_ (by simp) | (with_reducible refine Chg.set ?_ (by simp) _) | with_reducible apply Chg.alloc | with_reducible apply Chg.ext))
          | false =>
            have EG := hid (show grantB xs0 xs1 s (j : Int) v = true by rw [grantB, HG.out, r4, HF4.out, r1, r2]; rfl)
            have EG0 := hid (show grant0 xs0 xs1 s (j : Int) v = xs0.set j v by rw [grant0, EG.out]; rfl)
            have EG1 := hid (show grant1 xs0 xs1 s (j : Int) v = xs1.set j (x1 + 1) by rw [grant1, EG.out, HG.out]; rfl)
            have nexr : bx ≠ w.heap.size + 1 + 1 := by omega
            go_wp2_with (first | (go_at_call 29; refine (l1In_c _ _ _ _).mono ?_; rintro e w' ⟨rfl, rfl⟩))
            refine wp_gen fun X2 hX2 => ?_
            have hC2 := chg_one hX2
            have k1 : X2.cell? ⟨bx, 1, none⟩ = some (.slice (some ⟨b1', 0, none⟩) n1 pc7) := (hC2.cell lbX (by simp; omega) 1).trans cb1
            have k0 : X2.cell? ⟨bx, 0, none⟩ = some (.slice (some ⟨b0', 0, none⟩) n1 pc3) := (hC2.cell lbX (by simp; omega) 0).trans cb0
            have kr0 : X2.cell? ⟨w.heap.size + 1 + 1, 0, none⟩ = some (.slice none 0 0) := (hC2.cell lRX (by simp; omega) 0).trans cR0
            have kr1 : X2.cell? ⟨w.heap.size + 1 + 1, 1, none⟩ = some (.slice none 0 0) := (hC2.cell lRX (by simp; omega) 1).trans cR1
            have HKb := hid ((hC2.block b1' lt1 (by simp; omega)).trans HK1.out)
            have ke : X2.cell? ⟨b1', j, none⟩ = some (.int .i64 x1) := (hC2.cell lt1 (by simp; omega) j).trans e1
            have kz := frozen_blk HKb.out j
            have kzr0 : X2.frozen? ⟨w.heap.size + 1 + 1, 0, none⟩ = false := frozen_blk ((hC2.block _ lRX (by simp; omega)).trans HRX.out) 0
            have kzr1 : X2.frozen? ⟨w.heap.size + 1 + 1, 1, none⟩ = false := frozen_blk ((hC2.block _ lRX (by simp; omega)).trans HRX.out) 1
            have kl1 : b1' < X2.heap.size := Nat.lt_of_lt_of_le lt1 hC2.size
            have klx : bx < X2.heap.size := Nat.lt_of_lt_of_le lbX hC2.size
            have klr : w.heap.size + 1 + 1 < X2.heap.size := Nat.lt_of_lt_of_le lRX hC2.size
            have HKa := hid (show X2.heap[b0']? = some (.cells (arr0.setIfInBounds j (.int .i64 v)) T0 (0, 0)) by rw [hX2]; exact blk_set HK0.out)
            have HC2 := hid hC2
            clear hX2 hC2
            try go_wp2_with (first
                | (go_at_call 29; refine (l1In_c _ _ _ _).mono ?_; rintro e w' ⟨rfl, rfl⟩)
                | (
                  with_reducible refine wp_region_NR (w.heap.size + 1 + 1) (by kernel_rfl) (by decide +kernel) (by decide +kernel) rfl rfl ?_
                  simp only [List.dropLast_cons_cons, List.dropLast_singleton]
                  repeat (first
                    | (refine mix_pure rfl ?_; (first | go_big_quiet_skip | (go_big_quiet_want; go_big_quiet_op; go_big_quiet_on)); refine wpQuiet_nil ?_)
                    | (refine mix_skip (by rfl) ?_; (try simp only [Act.put, List.setIfInBounds_toArray, List.set_cons_zero, List.set_cons_succ]))
                    | (refine mix_mk rfl (by rfl) (fun K hK => ?_); (first | (go_simp; first | (go_at_call 29; refine (l1In_c _ _ _ _).mono ?_; rintro e w' ⟨rfl, rfl⟩) | skip)); (show K _ _); refine hK _ _ (extR_of (by repeat (first | with_reducible exact Chg.refl _ _ | with_reducible apply Chg.drew | with_reducible apply Chg.drewl | with_reducible refine Chg.turn (by simp) | with_reducible refine Chg.both ?_ (by simp) | (with_reducible refine Chg.set ?_ (by simp) _) | with_reducible apply Chg.alloc | with_reducible apply Chg.ext | with_reducible refine Chg.trans ?_ (Hid.out (by assumption))))) ?_; clear hK K; (try simp only [Act.put, List.setIfInBounds_toArray, List.set_cons_zero, List.set_cons_succ])))
                  refine mixN_nil (fun K hK => ?_)
                  go_simp
                  (show K _ _)
                  refine hK _ _ ?_
                  clear hK K
                  (try simp only [Act.put, List.setIfInBounds_toArray, List.set_cons_zero, List.set_cons_succ])))
            refine bodyPost_ret (v := .tuple #[.agg #[.slice (some ⟨b0', 0, none⟩) n1 pc3, .slice (some ⟨b1', 0, none⟩) n1 pc7], .bool true]) (by simp [results, Try.results8, go_sem, kr0, kr1, k0, k1]) rfl ?_
            rw [EG0.out, EG1.out, EG.out]
            refine ⟨_, _, _, _, rfl, ?_⟩
            exact arb_done (R := w.heap.size + 1 + 1) EY HCR.out (Chg.trans (Chg.mono HC2.out (by simp)) (by repeat (first | with_reducible exact Chg.refl _ _ | with_reducible apply Chg.drew | with_reducible apply Chg.drewl | with_reducible refine Chg.turn (by simp) | with_reducible refine Chg.both ?_ (by simp) | (with_reducible refine Chg.set ?_ (by simp) _) | with_reducible apply Chg.alloc | with_reducible apply Chg.ext))) (HU0.out _ _ (by repeat (first | with_reducible exact HKa.out | with_reducible apply blk_drew | with_reducible refine blk_set ?_ | (with_reducible refine blk_other ?_ (by first | assumption | omega)) | with_reducible refine blk_ext ?_ | with_reducible refine blk_alloc ?_))) (HU1.out _ _ (by repeat (first | with_reducible exact HKb.out | with_reducible apply blk_drew | with_reducible refine blk_set ?_ | (with_reducible refine blk_other ?_ (by first | assumption | omega)) | with_reducible refine blk_ext ?_ | with_reducible refine blk_alloc ?_))) ne01 ge0 ge1 lt0 lt1
end Go.Proofs.Ytcfbfpgcfnpdgaa
