/- The copies of the one world. -/
import Derived.Test.YtcfbfpgcfnpdgaaEls
import Derived.Test.YtcfbfpgcfnpdgaaTOneM
import Derived.Test.YtcfbfpgcfnpdgaaOneOk
import Derived.Test.YtcfbfpgcfnpdgaaArbS
import Derived.Test.YtcfbfpgcfnpdgaaFlowB
import Derived.Test.YtcfbfpgcfnpdgaaGwyB
namespace Go.Proofs.Ytcfbfpgcfnpdgaa
open Go.RowKit
set_option linter.unusedSimpArgs false
set_option linter.unusedVariables false

theorem chg_five {Y X : World} {b : Nat} {v0 v1 v2 v3 v4 : Value} (h : X = ((((Y.setCell ⟨b, 0, none⟩ v0).setCell ⟨b, 1, none⟩ v1).setCell ⟨b, 2, none⟩ v2).setCell ⟨b, 3, none⟩ v3).setCell ⟨b, 4, none⟩ v4) : Chg [b] Y X := by
  rw [h]; exact (Chg.set (Chg.set (Chg.set (Chg.set (Chg.set (Chg.refl _ _) (by simp) _) (by simp) _) (by simp) _) (by simp) _) (by simp) _)
/-- What the copy of the one world owns. -/
theorem one_three {o : One} {X wr : World} {l1 h1 l2 h2 lo T n1 n2 : Nat} {p1 p2 p3 : Option Addr} {q1 q2 q3 n3 : Nat} {es : List SlV} {B : List Nat} {I : TypeId} (e1 : o.wk.length = n1) (e2 : o.ground.length = n2)
    (O1 : OwnR l1 h1 X (.sl sOnw) [.slice p1 n1 q1] (.l (o.wk.map Onw.dat))) (O2 : OwnR l2 h2 X (.sl .int) [.slice p2 n2 q2] (.l (o.ground.map Dat.i))) (hd : h1 ≤ l2 ∨ h2 ≤ l1) (hl1 : lo ≤ l1) (hl2 : lo ≤ l2)
    (hc : Chg [T] X wr) (ht1 : T < l1 ∨ h1 ≤ T) (ht2 : T < l2 ∨ h2 ≤ T) (hlo : lo ≤ X.heap.size)
    (hE : ElsOwn .int Dat.i X.heap.size wr es o.air B) (hr : wr.ownsRow X.heap.size I 1 (.slice p3 n3 q3) es.length (es.flatMap SlV.cells)) (hg : ∀ g, (Value.slice p3 n3 q3).ownBlock = some g → g ∉ B) :
    OwnR lo wr.heap.size wr sOne (oneCells o ⟨p1, q1, p2, q2, p3, q3⟩) (oneDat o) ∧ n3 = o.air.length := by
  obtain ⟨e3, O3⟩ := els_own hE hr
  have hkr : ∀ z ∈ [T], T ≤ z ∧ z < T + 1 := fun z hz => by
    obtain rfl : z = T := by simpa using hz
    omega
  have x1 : h1 ≤ X.heap.size := O1.1
  have x2 : h2 ≤ X.heap.size := O2.1
  obtain ⟨_, B1, m1, r1, O1⟩ := OwnR.chg O1 (hc.toR hkr) (by omega)
  obtain ⟨_, B2, m2, r2, O2⟩ := OwnR.chg O2 (hc.toR hkr) (by omega)
  have rB := hE.rng
  have rR := row_lt hr
  refine ⟨⟨Nat.le_refl _, B1 ++ (B2 ++ (((Value.slice p3 n3 q3).ownBlock.toList ++ B) ++ [])), ?_, ?_, ?_⟩, e3⟩
  · rw [List.append_nil]
    refine List.nodup_append.2 ⟨m1, List.nodup_append.2 ⟨m2, List.nodup_append.2 ⟨by cases (Value.slice p3 n3 q3).ownBlock <;> simp, hE.nodup, fun a ha b hb e => ?_⟩, fun a ha b hb e => ?_⟩, fun a ha b hb e => ?_⟩
    · subst e; exact hg a (by simpa using ha) hb
    · have := r2 a ha
      rcases List.mem_append.1 hb with hb | hb
      · have := rR b (by simpa using hb); omega
      · have := rB b hb; omega
    · have := r1 a ha
      rcases List.mem_append.1 hb with hb | hb
      · have := r2 b hb; omega
      · rcases List.mem_append.1 hb with hb | hb
        · have := rR b (by simpa using hb); omega
        · have := rB b hb; omega
  · intro b hb
    have hsz := hc.size
    rw [List.append_nil] at hb
    rcases List.mem_append.1 hb with hb | hb
    · have := r1 b hb; omega
    · rcases List.mem_append.1 hb with hb | hb
      · have := r2 b hb; omega
      · rcases List.mem_append.1 hb with hb | hb
        · have := rR b (by simpa using hb); omega
        · have := rB b hb; omega
  · have := own_st_mk (ownL_mp_mk (m := o.map) (ownL_sl_mk O1 (ownL_sl_mk O2 (ownL_sl_mk O3 ownL_nil))))
    unfold oneCells sOne oneDat
    rw [e1, e2, ← e3]
    exact this
set_option maxRecDepth 100000 in
set_option maxHeartbeats 40000000 in
theorem iOneCopy_c (o : One) (h : OneH) (w : World) (hx : ReO w o h) (hb : BdO o) :
    Calls Try.prog 44 #[.agg #[.int .i64 o.map.c, .int .i64 o.map.w, .slice h.a1 o.wk.length h.c1, .slice h.a2 o.ground.length h.c2, .slice h.a3 o.air.length h.c3]] w (MadeO w o) := by
  obtain ⟨a1, c1, a2, c2, a3, c3⟩ := h
  obtain ⟨r1, r2, r3⟩ := hx
  obtain ⟨b1, b2, b3, ba⟩ := hb
  dsimp only at r1 r2 r3 ⊢
  generalize hn1 : o.wk.length = n1 at r1 b1 ⊢
  generalize hn2 : o.ground.length = n2 at r2 b2 ⊢
  generalize hn3 : o.air.length = n3 at r3 b3 ⊢
  have H1 := hid r1
  have H2 := hid r2
  have H3 := hid r3
  have BA := hid ba
  have HN1 := hid hn1
  have HN2 := hid hn2
  have HN3 := hid hn3
  clear r1 r2 r3 ba hn1 hn2 hn3
  go_enter Try.func44, Try.ntmps44
  try go_wp2_with (first
      | fail
      | (
        with_reducible refine wp_region_mix (by kernel_rfl) (by decide +kernel) ?_
        repeat (first
          | (refine mix_pure rfl ?_; (first | go_big_quiet_skip | (go_big_quiet_want; go_big_quiet_op; go_big_quiet_on)); refine wpQuiet_nil ?_)
          | (refine mix_skip (by rfl) ?_; (try simp only [Act.put, List.setIfInBounds_toArray, List.set_cons_zero, List.set_cons_succ]))
          | (refine mix_mk rfl (by rfl) (fun K hK => ?_); (first | (go_simp; first | skip)); (show K _ _); refine hK _ _ (show Ext _ _ from (by ((try simp only [ext_drew]); (try simp only [ext_ext]); repeat (first | exact Ext.refl _ | with_reducible apply Ext.add | with_reducible apply Ext.dr | apply Ext.alloc | apply Ext.ext | apply Ext.drew | refine Ext.trans ?_ (by assumption))))) ?_; clear hK K; (try simp only [Act.put, List.setIfInBounds_toArray, List.set_cons_zero, List.set_cons_succ])))
        refine mix_nil ?_)
      | (
        with_reducible refine wp_region_ext (by kernel_rfl) (by kernel_rfl) ?_
        repeat (first | go_big_quiet_skip | (go_big_quiet_want; go_big_quiet_op; first | go_big_quiet_on | (apply Exists.intro; refine ⟨fun _ => ?_, ?_⟩; (fail); (try rw [h1]); (try rw [h2]); (try rw [h3]); (try rw [h4]); (try rw [p1]); (try rw [p2]); (try rw [p3]); (try rw [p4]); (try rw [r1]); (try rw [r2]); (try rw [r3]); (try rw [r4]); (try rw [r5]); (try rw [r6]); (try rw [q3]); (try rw [q4]); (try rw [hp]); (try rw [hq]); go_big_quiet_on)))
        refine wpQuiet_nil ?_
        rintro _ ⟨tq, rfl⟩))
  refine wp_region_flow [6, 7, 8, 9, 10, 11, 12, 13, 14, 3] (fun i σ lo hi w9 => match i with
    | 0 => σ 0 = .pointer (some ⟨w.heap.size, 0, none⟩)
    | 1 => σ 1 = .agg #[.int .i64 o.map.c, .int .i64 o.map.w]
    | 2 => σ 2 = .pointer (some ⟨w.heap.size, 2, none⟩)
    | 3 => σ 3 = .slice a1 n1 c1
    | 4 => MkS n1 sOnw (.l (o.wk.map Onw.dat)) (σ 4) lo hi w9
    | 5 => σ 5 = .pointer (some ⟨w.heap.size, 3, none⟩)
    | 6 => σ 6 = .slice a2 n2 c2
    | 7 => MkS n2 .int (.l (o.ground.map Dat.i)) (σ 7) lo hi w9
    | 8 => σ 8 = .agg #[.int .i64 o.map.c, .int .i64 o.map.w, σ 4, σ 7, .slice none 0 0]
    | _ => MkA #[.int .i64 0, .int .i64 0, .slice none 0 0, .slice none 0 0, .slice none 0 0] 44 (σ 9) lo hi w9) (by kernel_rfl) (by decide +kernel) (by simp) ?_ ?_ ?_ ?_
  · intro i oo hi ho σ σ' lo hi' w9 h hS
    match i, hi, ho with
    | 0, _, ho =>
      have e0 := h 0 (.inl rfl)
      try dsimp only at hS ⊢
      rw [e0] at hS
      exact hS
    | 1, _, ho =>
      have e0 := h 1 (.inl rfl)
      try dsimp only at hS ⊢
      rw [e0] at hS
      exact hS
    | 2, _, ho =>
      have e0 := h 2 (.inl rfl)
      try dsimp only at hS ⊢
      rw [e0] at hS
      exact hS
    | 3, _, ho =>
      have e0 := h 3 (.inl rfl)
      try dsimp only at hS ⊢
      rw [e0] at hS
      exact hS
    | 4, _, ho =>
      have e0 := h 4 (.inl rfl)
      try dsimp only at hS ⊢
      rw [e0] at hS
      exact hS
    | 5, _, ho =>
      have e0 := h 5 (.inl rfl)
      try dsimp only at hS ⊢
      rw [e0] at hS
      exact hS
    | 6, _, ho =>
      have e0 := h 6 (.inl rfl)
      try dsimp only at hS ⊢
      rw [e0] at hS
      exact hS
    | 7, _, ho =>
      have e0 := h 7 (.inl rfl)
      try dsimp only at hS ⊢
      rw [e0] at hS
      exact hS
    | 8, _, ho =>
      have e0 := h 8 (.inl rfl)
      obtain rfl := Option.some.inj ho
      have e5 := h 4 (.inr (by kernel_rfl))
      have e8 := h 7 (.inr (by kernel_rfl))
      try dsimp only at hS ⊢
      rw [e0, e5, e8] at hS
      exact hS
    | 9, _, ho =>
      have e0 := h 9 (.inl rfl)
      try dsimp only at hS ⊢
      rw [e0] at hS
      exact hS
  · intro i hi σ lo hi' w9 w8 hS hle hE
    match i, hi with
    | 0, _ => exact hS
    | 1, _ => exact hS
    | 2, _ => exact hS
    | 3, _ => exact hS
    | 4, _ => exact MkS.ext hS hE
    | 5, _ => exact hS
    | 6, _ => exact hS
    | 7, _ => exact MkS.ext hS hE
    | 8, _ => exact hS
    | 9, _ => exact MkA.ext hS hE
  · intro i oo hi ho σ L H w9 hE hd
    obtain ⟨t9, rfl⟩ := hE
    match i, hi, ho with
    | 0, _, ho =>
      obtain rfl := Option.some.inj ho
      clear hd ho
      simp only [actS, putS, List.setIfInBounds_toArray, List.set_cons_zero, List.set_cons_succ, Nat.reduceAdd]
      refine flow_K (fun K hK => ?_)
      go_simp
      (show K _ _)
      exact hK _ _ ⟨_, rfl, (show Ext _ _ from (by ((try simp only [ext_drew]); (try simp only [ext_ext]); repeat (first | exact Ext.refl _ | with_reducible apply Ext.add | with_reducible apply Ext.dr | apply Ext.alloc | apply Ext.ext | apply Ext.drew | refine Ext.trans ?_ (by assumption))))), rfl⟩
    | 1, _, ho =>
      obtain rfl := Option.some.inj ho
      have e0 : σ 0 = .pointer (some ⟨w.heap.size, 0, none⟩) := (hd 0 (by kernel_rfl)).2.2.2
      clear hd ho
      simp only [actS, putS, List.setIfInBounds_toArray, List.set_cons_zero, List.set_cons_succ, Nat.reduceAdd, e0]
      refine flow_K (fun K hK => ?_)
      go_simp
      (show K _ _)
      exact hK _ _ ⟨_, rfl, (show Ext _ _ from (by ((try simp only [ext_drew]); (try simp only [ext_ext]); repeat (first | exact Ext.refl _ | with_reducible apply Ext.add | with_reducible apply Ext.dr | apply Ext.alloc | apply Ext.ext | apply Ext.drew | refine Ext.trans ?_ (by assumption))))), rfl⟩
    | 2, _, ho =>
      obtain rfl := Option.some.inj ho
      clear hd ho
      simp only [actS, putS, List.setIfInBounds_toArray, List.set_cons_zero, List.set_cons_succ, Nat.reduceAdd]
      refine flow_K (fun K hK => ?_)
      go_simp
      (show K _ _)
      exact hK _ _ ⟨_, rfl, (show Ext _ _ from (by ((try simp only [ext_drew]); (try simp only [ext_ext]); repeat (first | exact Ext.refl _ | with_reducible apply Ext.add | with_reducible apply Ext.dr | apply Ext.alloc | apply Ext.ext | apply Ext.drew | refine Ext.trans ?_ (by assumption))))), rfl⟩
    | 3, _, ho =>
      obtain rfl := Option.some.inj ho
      have e2 : σ 2 = .pointer (some ⟨w.heap.size, 2, none⟩) := (hd 2 (by kernel_rfl)).2.2.2
      clear hd ho
      simp only [actS, putS, List.setIfInBounds_toArray, List.set_cons_zero, List.set_cons_succ, Nat.reduceAdd, e2]
      refine flow_K (fun K hK => ?_)
      go_simp
      (show K _ _)
      exact hK _ _ ⟨_, rfl, (show Ext _ _ from (by ((try simp only [ext_drew]); (try simp only [ext_ext]); repeat (first | exact Ext.refl _ | with_reducible apply Ext.add | with_reducible apply Ext.dr | apply Ext.alloc | apply Ext.ext | apply Ext.drew | refine Ext.trans ?_ (by assumption))))), rfl⟩
    | 4, _, ho =>
      obtain rfl := Option.some.inj ho
      have e3 : σ 3 = .slice a1 n1 c1 := (hd 3 (by kernel_rfl)).2.2.2
      clear hd ho
      simp only [actS, putS, List.setIfInBounds_toArray, List.set_cons_zero, List.set_cons_succ, Nat.reduceAdd, e3]
      refine flow_K (fun K hK => ?_)
      refine wp_cloneS (cells := Onw.cells) (k := 6) (bytes := 48) (z := .agg #[.int .i64 0, .int .i64 0, .int .i64 0, .int .i64 0, .int .i64 0, .bool false]) Try.underlying42 (by kernel_rfl) rfl (by decide) (by decide) rfl (fun _ => rfl) (fun _ _ _ _ h => rd_Onw h) (fun _ _ h => Onw.dat_inj h) (fun x u hu => by simp only [Onw.cells, List.mem_cons, List.not_mem_nil, or_false] at hu; rcases hu with rfl | rfl | rfl | rfl | rfl | rfl <;> rfl) (fun w x => own_Onw_mk w x) _ _ rfl rfl (.inl rfl) o.wk rfl (H1.out.of (by ((try simp only [ext_drew]); (try simp only [ext_ext]); repeat (first | exact Ext.refl _ | with_reducible apply Ext.add | with_reducible apply Ext.dr | apply Ext.alloc | apply Ext.ext | apply Ext.drew | refine Ext.trans ?_ (by assumption))))) b1 ?_
      intro a' c' t' ho'
      exact hK _ _ ⟨_, rfl, ⟨t', rfl⟩, ⟨_, _, rfl, ho'⟩⟩
    | 5, _, ho =>
      obtain rfl := Option.some.inj ho
      clear hd ho
      simp only [actS, putS, List.setIfInBounds_toArray, List.set_cons_zero, List.set_cons_succ, Nat.reduceAdd]
      refine flow_K (fun K hK => ?_)
      go_simp
      (show K _ _)
      exact hK _ _ ⟨_, rfl, (show Ext _ _ from (by ((try simp only [ext_drew]); (try simp only [ext_ext]); repeat (first | exact Ext.refl _ | with_reducible apply Ext.add | with_reducible apply Ext.dr | apply Ext.alloc | apply Ext.ext | apply Ext.drew | refine Ext.trans ?_ (by assumption))))), rfl⟩
    | 6, _, ho =>
      obtain rfl := Option.some.inj ho
      have e5 : σ 5 = .pointer (some ⟨w.heap.size, 3, none⟩) := (hd 5 (by kernel_rfl)).2.2.2
      clear hd ho
      simp only [actS, putS, List.setIfInBounds_toArray, List.set_cons_zero, List.set_cons_succ, Nat.reduceAdd, e5]
      refine flow_K (fun K hK => ?_)
      go_simp
      (show K _ _)
      exact hK _ _ ⟨_, rfl, (show Ext _ _ from (by ((try simp only [ext_drew]); (try simp only [ext_ext]); repeat (first | exact Ext.refl _ | with_reducible apply Ext.add | with_reducible apply Ext.dr | apply Ext.alloc | apply Ext.ext | apply Ext.drew | refine Ext.trans ?_ (by assumption))))), rfl⟩
    | 7, _, ho =>
      obtain rfl := Option.some.inj ho
      have e6 : σ 6 = .slice a2 n2 c2 := (hd 6 (by kernel_rfl)).2.2.2
      clear hd ho
      simp only [actS, putS, List.setIfInBounds_toArray, List.set_cons_zero, List.set_cons_succ, Nat.reduceAdd, e6]
      refine flow_K (fun K hK => ?_)
      refine wp_cloneS (cells := icells) (k := 1) (bytes := 8) (z := .int .i64 0) Try.underlying24 (by kernel_rfl) rfl (by decide) (by decide) rfl (fun _ => rfl) (fun _ _ _ _ h => rd_Int h) (fun _ _ h => idat_inj h) ione (fun w x => own_Int_mk w x) _ _ rfl rfl (.inl rfl) o.ground rfl (H2.out.of (by ((try simp only [ext_drew]); (try simp only [ext_ext]); repeat (first | exact Ext.refl _ | with_reducible apply Ext.add | with_reducible apply Ext.dr | apply Ext.alloc | apply Ext.ext | apply Ext.drew | refine Ext.trans ?_ (by assumption))))) b2 ?_
      intro a' c' t' ho'
      exact hK _ _ ⟨_, rfl, ⟨t', rfl⟩, ⟨_, _, rfl, ho'⟩⟩
    | 8, _, ho =>
      obtain rfl := Option.some.inj ho
      have e1 : σ 1 = .agg #[.int .i64 o.map.c, .int .i64 o.map.w] := (hd 1 (by kernel_rfl)).2.2.2
      obtain ⟨pa4, pc4, e4, _⟩ : MkS n1 sOnw (.l (o.wk.map Onw.dat)) (σ 4) (L 4) (H 4) _ := (hd 4 (by kernel_rfl)).2.2.2
      obtain ⟨pa7, pc7, e7, _⟩ : MkS n2 .int (.l (o.ground.map Dat.i)) (σ 7) (L 7) (H 7) _ := (hd 7 (by kernel_rfl)).2.2.2
      clear hd ho
      simp only [actS, putS, List.setIfInBounds_toArray, List.set_cons_zero, List.set_cons_succ, Nat.reduceAdd, e1, e4, e7]
      refine flow_K (fun K hK => ?_)
      go_simp
      (show K _ _)
      exact hK _ _ ⟨_, rfl, (show Ext _ _ from (by ((try simp only [ext_drew]); (try simp only [ext_ext]); repeat (first | exact Ext.refl _ | with_reducible apply Ext.add | with_reducible apply Ext.dr | apply Ext.alloc | apply Ext.ext | apply Ext.drew | refine Ext.trans ?_ (by assumption))))), (by simp)⟩
    | 9, _, ho =>
      obtain rfl := Option.some.inj ho
      clear hd ho
      simp only [actS, putS, List.setIfInBounds_toArray, List.set_cons_zero, List.set_cons_succ, Nat.reduceAdd]
      refine flow_K (fun K hK => ?_)
      go_simp
      (show K _ _)
      exact hK _ _ ⟨_, rfl, (show Ext _ _ from (by ((try simp only [ext_drew]); (try simp only [ext_ext]); repeat (first | exact Ext.refl _ | with_reducible apply Ext.add | with_reducible apply Ext.dr | apply Ext.alloc | apply Ext.ext | apply Ext.drew | refine Ext.trans ?_ (by assumption))))), ⟨_, rfl, by simp [go_sem], by simp [go_sem], heap_new (by simp [go_sem])⟩⟩
  · intro oo ho σ L H w9 hE hd hap
    obtain ⟨t9, rfl⟩ := hE
    obtain ⟨l0, m0, u0, s0⟩ := hd 0 (by decide)
    have e0 : σ 0 = .pointer (some ⟨w.heap.size, 0, none⟩) := s0
    clear s0
    obtain ⟨l1, m1, u1, s1⟩ := hd 1 (by decide)
    have e1 : σ 1 = .agg #[.int .i64 o.map.c, .int .i64 o.map.w] := s1
    clear s1
    obtain ⟨l2, m2, u2, s2⟩ := hd 2 (by decide)
    have e2 : σ 2 = .pointer (some ⟨w.heap.size, 2, none⟩) := s2
    clear s2
    obtain ⟨l3, m3, u3, s3⟩ := hd 3 (by decide)
    have e3 : σ 3 = .slice a1 n1 c1 := s3
    clear s3
    obtain ⟨l4, m4, u4, s4⟩ := hd 4 (by decide)
    obtain ⟨pa4, pc4, e4, o4⟩ : MkS n1 sOnw (.l (o.wk.map Onw.dat)) (σ 4) (L 4) (H 4) _ := s4
    obtain ⟨l5, m5, u5, s5⟩ := hd 5 (by decide)
    have e5 : σ 5 = .pointer (some ⟨w.heap.size, 3, none⟩) := s5
    clear s5
    obtain ⟨l6, m6, u6, s6⟩ := hd 6 (by decide)
    have e6 : σ 6 = .slice a2 n2 c2 := s6
    clear s6
    obtain ⟨l7, m7, u7, s7⟩ := hd 7 (by decide)
    obtain ⟨pa7, pc7, e7, o7⟩ : MkS n2 .int (.l (o.ground.map Dat.i)) (σ 7) (L 7) (H 7) _ := s7
    obtain ⟨l8, m8, u8, s8⟩ := hd 8 (by decide)
    have e8 : σ 8 = .agg #[.int .i64 o.map.c, .int .i64 o.map.w, σ 4, σ 7, .slice none 0 0] := s8
    clear s8
    obtain ⟨l9, m9, u9, s9⟩ := hd 9 (by decide)
    obtain ⟨bx, e9, bl, bh, hbx⟩ : MkA #[.int .i64 0, .int .i64 0, .slice none 0 0, .slice none 0 0, .slice none 0 0] 44 (σ 9) (L 9) (H 9) _ := s9
    rw [e4, e7] at e8
    clear hd
    try simp only [ext_ext] at o4 o7 hbx
    have y0 := (cell_blk hbx 0).trans (show _ = some (Value.int .i64 0) from rfl)
    have z0 := frozen_blk hbx 0
    have y1 := (cell_blk hbx 1).trans (show _ = some (Value.int .i64 0) from rfl)
    have z1 := frozen_blk hbx 1
    have y2 := (cell_blk hbx 2).trans (show _ = some (Value.slice none 0 0) from rfl)
    have z2 := frozen_blk hbx 2
    have y3 := (cell_blk hbx 3).trans (show _ = some (Value.slice none 0 0) from rfl)
    have z3 := frozen_blk hbx 3
    have y4 := (cell_blk hbx 4).trans (show _ = some (Value.slice none 0 0) from rfl)
    have z4 := frozen_blk hbx 4
    have HBX := hid hbx
    have lbx := lt_blk hbx
    clear hbx
    simp only [actS, putS, List.setIfInBounds_toArray, List.set_cons_zero, List.set_cons_succ, Nat.reduceAdd, e0, e1, e2, e3, e4, e5, e6, e7, e8, e9]
    obtain rfl := Option.some.inj ho
    refine flow_K (fun K hK => ?_)
    go_simp
    (show K _ _)
    refine hK _ _ ?_
    clear hK K ho
    try simp only [Act.put, List.setIfInBounds_toArray, List.set_cons_zero, List.set_cons_succ]
    simp only [Exit.then]
    rename_i hKont
    refine hKont _ _ ?_
    clear hKont
    refine wp_gen fun X hX => ?_
    have hC := chg_five hX
    have hbX : X.heap[bx]? = some (.cells #[.int .i64 o.map.c, .int .i64 o.map.w, .slice pa4 n1 pc4, .slice pa7 n2 pc7, .slice none 0 0] 44 (0, 0)) := by rw [hX]; exact blk_set (blk_set (blk_set (blk_set (blk_set HBX.out))))
    obtain ⟨Y, hY, hCY⟩ := chg_left hC
    have EY : Ext w Y := by rw [hY]; ((try simp only [ext_drew]); (try simp only [ext_ext]); repeat (first | exact Ext.refl _ | with_reducible apply Ext.add | with_reducible apply Ext.dr | apply Ext.alloc | apply Ext.ext | apply Ext.drew | refine Ext.trans ?_ (by assumption)))
    have d1A := hap 4 9 (by decide) (by decide) (by decide)
    have d2A := hap 7 9 (by decide) (by decide) (by decide)
    have d12 := hap 4 7 (by decide) (by decide) (by decide)
    have hbase : w.heap.size + 2 ≤ L 9 := Nat.le_trans (by (try simp [go_sem]) <;> (try simp [Xt.add]) <;> omega) l9
    have hl1 : w.heap.size + 2 ≤ L 4 := Nat.le_trans (by (try simp [go_sem]) <;> (try simp [Xt.add]) <;> omega) l4
    have hl2 : w.heap.size + 2 ≤ L 7 := Nat.le_trans (by (try simp [go_sem]) <;> (try simp [Xt.add]) <;> omega) l7
    have hkr : ∀ z ∈ [bx], bx ≤ z ∧ z < bx + 1 := fun z hz => by
      obtain rfl : z = bx := by simpa using hz
      omega
    have q1 := OwnR.chg o4 (hC.toR hkr) (by omega)
    have q2 := OwnR.chg o7 (hC.toR hkr) (by omega)
    have hMB : w.heap.size ∉ [bx] := by simp; omega
    have hRB : w.heap.size + 1 ∉ [bx] := by simp; omega
    have xM4 : X.cell? ⟨w.heap.size, 4, none⟩ = some (.slice a3 n3 c3) := (hC.cell (by (try simp [go_sem]) <;> (try simp [Xt.add]) <;> omega) hMB 4).trans (by simp [go_sem])
    have xR0 : X.cell? ⟨w.heap.size + 1, 0, none⟩ = some (.int .i64 0) := (hC.cell (by (try simp [go_sem]) <;> (try simp [Xt.add]) <;> omega) hRB 0).trans (by simp [go_sem])
    have xR1 : X.cell? ⟨w.heap.size + 1, 1, none⟩ = some (.int .i64 0) := (hC.cell (by (try simp [go_sem]) <;> (try simp [Xt.add]) <;> omega) hRB 1).trans (by simp [go_sem])
    have xR2 : X.cell? ⟨w.heap.size + 1, 2, none⟩ = some (.slice none 0 0) := (hC.cell (by (try simp [go_sem]) <;> (try simp [Xt.add]) <;> omega) hRB 2).trans (by simp [go_sem])
    have xR3 : X.cell? ⟨w.heap.size + 1, 3, none⟩ = some (.slice none 0 0) := (hC.cell (by (try simp [go_sem]) <;> (try simp [Xt.add]) <;> omega) hRB 3).trans (by simp [go_sem])
    have xR4 : X.cell? ⟨w.heap.size + 1, 4, none⟩ = some (.slice none 0 0) := (hC.cell (by (try simp [go_sem]) <;> (try simp [Xt.add]) <;> omega) hRB 4).trans (by simp [go_sem])
    have hRX : X.heap[w.heap.size + 1]? = some (.cells #[.int .i64 0, .int .i64 0, .slice none 0 0, .slice none 0 0, .slice none 0 0] 44 (0, 0)) := (hC.block _ (by (try simp [go_sem]) <;> (try simp [Xt.add]) <;> omega) hRB).trans ((ext_block _ _ _ (by (try simp [go_sem]) <;> (try simp [Xt.add]) <;> omega)).trans (heap_new (by simp)))
    have lRX := lt_blk hRX
    have lbX := lt_blk hbX
    have lMX : w.heap.size < X.heap.size := by omega
    have EB : Below w.heap.size w X := Below.chg (w0 := w) EY.below hCY (fun b hb => by
      obtain rfl : b = bx := by simpa using hb
      omega)
    have HQ1 := hid q1
    have HQ2 := hid q2
    have HD12 := hid d12
    have HL1 := hid hl1
    have HL2 := hid hl2
    have HT1 := hid (show bx < L 4 ∨ H 4 ≤ bx by omega)
    have HT2 := hid (show bx < L 7 ∨ H 7 ≤ bx by omega)
    have hbxw : w.heap.size + 2 ≤ bx := by omega
    have HB0 := hid hbX
    have HEB := hid EB
    have HRX := hid hRX
    clear y0 y1 y2 y3 y4 z0 z1 z2 z3 z4
    clear hX hC hCY hY q1 q2 HBX hkr hMB hRB hbX lbx hbase hl1 hl2 EB EY hRX
    clear e0 e1 e2 e3 e4 e5 e6 e7 e8 e9
    clear hap d1A d2A d12 bl bh l0 l1 l2 l3 l4 l5 l6 l7 l8 l9 m0 m1 m2 m3 m4 m5 m6 m7 m8 m9 u0 u1 u2 u3 u4 u5 u6 u7 u8 u9
    clear o4 o7
    generalize hT : bx = T at *
    clear hT bx
    try go_wp2_with (first
        | fail
        | (
          with_reducible refine wp_region_mix (by kernel_rfl) (by decide +kernel) ?_
          repeat (first
            | (refine mix_pure rfl ?_; (first | go_big_quiet_skip | (go_big_quiet_want; go_big_quiet_op; go_big_quiet_on)); refine wpQuiet_nil ?_)
            | (refine mix_skip (by rfl) ?_; (try simp only [Act.put, List.setIfInBounds_toArray, List.set_cons_zero, List.set_cons_succ]))
            | (refine mix_mk rfl (by rfl) (fun K hK => ?_); (first | (go_simp; first | skip)); (show K _ _); refine hK _ _ (show Ext _ _ from (by ((try simp only [ext_drew]); (try simp only [ext_ext]); repeat (first | exact Ext.refl _ | with_reducible apply Ext.add | with_reducible apply Ext.dr | apply Ext.alloc | apply Ext.ext | apply Ext.drew | refine Ext.trans ?_ (by assumption))))) ?_; clear hK K; (try simp only [Act.put, List.setIfInBounds_toArray, List.set_cons_zero, List.set_cons_succ])))
          refine mix_nil ?_)
        | (
          with_reducible refine wp_region_ext (by kernel_rfl) (by kernel_rfl) ?_
          repeat (first | go_big_quiet_skip | (go_big_quiet_want; go_big_quiet_op; first | go_big_quiet_on | (apply Exists.intro; refine ⟨fun _ => ?_, ?_⟩; (fail); (try rw [h1]); (try rw [h2]); (try rw [h3]); (try rw [h4]); (try rw [p1]); (try rw [p2]); (try rw [p3]); (try rw [p4]); (try rw [r1]); (try rw [r2]); (try rw [r3]); (try rw [r4]); (try rw [r5]); (try rw [r6]); (try rw [q3]); (try rw [q4]); (try rw [hp]); (try rw [hq]); go_big_quiet_on)))
          refine wpQuiet_nil ?_
          rintro _ ⟨tq, rfl⟩))
    go_loopw [18] (fun i wr => ∃ (k : Nat) (v : Value) (es : List SlV) (B : List Nat), k ≤ n3 ∧ i = .int .i64 k ∧ wr.heap[T]? = some (.cells #[.int .i64 o.map.c, .int .i64 o.map.w, .slice pa4 n1 pc4, .slice pa7 n2 pc7, v] 44 (0, 0)) ∧ wr.ownsRow X.heap.size 24 1 v es.length (es.flatMap SlV.cells) ∧ ElsOwn .int Dat.i X.heap.size wr es (o.air.take k) B ∧ (∀ g, v.ownBlock = some g → g ∉ B) ∧ Chg [T] X wr) (fun i _ => n3 - (intOf i).toNat)
    case atStart => exact ⟨0, .slice none 0 0, [], [], Nat.zero_le _, rfl, HB0.out, World.ownsRow_nil _ _ _ _, ElsOwn.nil _ _, by simp, Chg.refl _ _⟩
    case round =>
      obtain ⟨k, v, es, B, hk, rfl, hT, hrow, hels, hdi, hch⟩ := hrel
      have HG := hid hrow
      have HC := hid hch
      have HEl := hid hels
      have HDi := hid hdi
      have hsz := hch.size
      have lT : T < wr.heap.size := lt_blk hT
      have cT0 : wr.cell? ⟨T, 0, none⟩ = some (.int .i64 o.map.c) := (cell_blk hT 0).trans rfl
      have cT1 : wr.cell? ⟨T, 1, none⟩ = some (.int .i64 o.map.w) := (cell_blk hT 1).trans rfl
      have cT2 : wr.cell? ⟨T, 2, none⟩ = some (.slice pa4 n1 pc4) := (cell_blk hT 2).trans rfl
      have cT3 : wr.cell? ⟨T, 3, none⟩ = some (.slice pa7 n2 pc7) := (cell_blk hT 3).trans rfl
      have cT : wr.cell? ⟨T, 4, none⟩ = some v := (cell_blk hT 4).trans rfl
      have zT := frozen_blk hT 4
      have lM : w.heap.size < wr.heap.size := by omega
      have cM4 : wr.cell? ⟨w.heap.size, 4, none⟩ = some (.slice a3 n3 c3) := (hch.cell (by omega) (by simp; omega) 4).trans xM4
      have cR0 : wr.cell? ⟨w.heap.size + 1, 0, none⟩ = some (.int .i64 0) := (hch.cell (by omega) (by simp; omega) 0).trans xR0
      have cR1 : wr.cell? ⟨w.heap.size + 1, 1, none⟩ = some (.int .i64 0) := (hch.cell (by omega) (by simp; omega) 1).trans xR1
      have cR2 : wr.cell? ⟨w.heap.size + 1, 2, none⟩ = some (.slice none 0 0) := (hch.cell (by omega) (by simp; omega) 2).trans xR2
      have cR3 : wr.cell? ⟨w.heap.size + 1, 3, none⟩ = some (.slice none 0 0) := (hch.cell (by omega) (by simp; omega) 3).trans xR3
      have cR4 : wr.cell? ⟨w.heap.size + 1, 4, none⟩ = some (.slice none 0 0) := (hch.cell (by omega) (by simp; omega) 4).trans xR4
      have bR := (hch.block (w.heap.size + 1) (by omega) (by simp; omega)).trans HRX.out
      have zR0 := frozen_blk bR 0
      have zR1 := frozen_blk bR 1
      have zR2 := frozen_blk bR 2
      have zR3 := frozen_blk bR 3
      have zR4 := frozen_blk bR 4
      have lR : w.heap.size + 1 < wr.heap.size := by omega
      have hbel : Below w.heap.size w wr := Below.chg (w0 := w) HEB.out hch (fun b hb => by
        obtain rfl : b = T := by simpa using hb
        omega)
      have HBl := hid hbel
      have HTb := hid hT
      clear hT hrow hch hbel hels hdi bR
      by_cases hlt : k < n3
      · obtain ⟨xs, b', o', a', c', hxk, rfl, hb', f0, hre⟩ := at_SS H3.out hlt
        have hbx' := (HBl.out).block b' hb'
        have f1 : wr.cell? ⟨b', o' + k, none⟩ = some (.slice a' xs.length c') := (World.cell?_of_block (a := ⟨b', o' + k, none⟩) hbx').trans f0
        have lb1 : b' < wr.heap.size := by omega
        have HK := hid hxk
        have hxm : xs.length ≤ 1048576 := BA.out xs (List.mem_of_getElem? hxk)
        generalize hnx : xs.length = nx at hxm f1 f0 hre
        have HNX := hid hnx
        have HRe := hid (Re.below hre HBl.out)
        clear hxk f0 hre hbx' hnx
        obtain ⟨R, hR, hBR, hRc⟩ := row_block v X.heap.size 0 HG.out hsz
        have hTR : T ≠ R := by omega
        have hRT : R ≠ T := by omega
        have hcR : wr.heap.size ≠ R := Ne.symm hRc
        have hMR : w.heap.size ≠ R := by omega
        have hbR : b' ≠ R := by omega
        have HRr := hid hR
        have HRl := hid (row_lt HG.out)
        have dT : ∀ t, (ext wr.drew t).cell? ⟨T, 4, none⟩ = some v := fun t => (ext_cell' _ _ _ _ lT).trans cT
        have dZ : ∀ t, (ext wr.drew t).frozen? ⟨T, 4, none⟩ = false := fun t => (ext_frozen' _ _ _ _ lT).trans zT
        have hel := HEl.out.len
        have hlen : es.length ≤ 4194304 := by rw [hel, List.length_take]; omega
        have HEk := hid (show o.air.take (k + 1) = o.air.take k ++ [xs] by rw [List.take_add_one, HK.out]; rfl)
        clear hR hel
        try go_wp2_with (first
            | fail
            | (
              with_reducible refine wp_region_mix (by kernel_rfl) (by decide +kernel) ?_
              repeat (first
                | (refine mix_pure rfl ?_; (first | go_big_quiet_skip | (go_big_quiet_want; go_big_quiet_op; go_big_quiet_on)); refine wpQuiet_nil ?_)
                | (refine mix_skip (by rfl) ?_; (try simp only [Act.put, List.setIfInBounds_toArray, List.set_cons_zero, List.set_cons_succ]))
                | (refine mix_mk rfl (by rfl) (fun K hK => ?_); (first | (go_simp; first | skip)); (show K _ _); refine hK _ _ (show Ext _ _ from (by ((try simp only [ext_drew]); (try simp only [ext_ext]); repeat (first | exact Ext.refl _ | with_reducible apply Ext.add | with_reducible apply Ext.dr | apply Ext.alloc | apply Ext.ext | apply Ext.drew | refine Ext.trans ?_ (by assumption))))) ?_; clear hK K; (try simp only [Act.put, List.setIfInBounds_toArray, List.set_cons_zero, List.set_cons_succ])))
              refine mix_nil ?_)
            | (
              with_reducible refine wp_region_ext (by kernel_rfl) (by kernel_rfl) ?_
              repeat (first | go_big_quiet_skip | (go_big_quiet_want; go_big_quiet_op; first | go_big_quiet_on | (apply Exists.intro; refine ⟨fun _ => ?_, ?_⟩; (fail); (try rw [h1]); (try rw [h2]); (try rw [h3]); (try rw [h4]); (try rw [p1]); (try rw [p2]); (try rw [p3]); (try rw [p4]); (try rw [r1]); (try rw [r2]); (try rw [r3]); (try rw [r4]); (try rw [r5]); (try rw [r6]); (try rw [q3]); (try rw [q4]); (try rw [hp]); (try rw [hq]); go_big_quiet_on)))
              refine wpQuiet_nil ?_
              rintro _ ⟨tq, rfl⟩))
        try go_wp2_with (first
            | (refine wp_clone_Int _ _ rfl (by first | rfl | (simp [go_sem]; done)) xs rfl (HRe.out.of (by ((try simp only [ext_drew]); (try simp only [ext_ext]); repeat (first | exact Ext.refl _ | with_reducible apply Ext.add | with_reducible apply Ext.dr | apply Ext.alloc | apply Ext.ext | apply Ext.drew | refine Ext.trans ?_ (by assumption))))) (by omega) ?_; intro p5 q5 t5 ho; have O5 := hid ho; clear ho) | (refine wpList_clone_Int rfl _ _ rfl (by first | rfl | (simp [go_sem]; done)) xs rfl (HRe.out.of (by ((try simp only [ext_drew]); (try simp only [ext_ext]); repeat (first | exact Ext.refl _ | with_reducible apply Ext.add | with_reducible apply Ext.dr | apply Ext.alloc | apply Ext.ext | apply Ext.drew | refine Ext.trans ?_ (by assumption))))) (by omega) ?_; intro p5 q5 t5 ho; have O5 := hid ho; clear ho) | (refine wp_appRZ_IntS (v := v) (xs := es) X.heap.size _ _ rfl rfl (by (try simp [go_sem]) <;> (try simp [Xt.add]) <;> omega) (by repeat (first | with_reducible apply ownsRow_alloc | exact HG.out | with_reducible apply ownsRow_drew | with_reducible apply ownsRow_ext)) ⟨p5, nx, q5⟩ rfl (alloc_last (by simp [go_sem])) hlen ?_; intro v2 w2 hg2 hc2 hat2; obtain ⟨sa, sn, sc, rfl⟩ := row_slice hg2; have HG2 := hid hg2; have hcR2 := hc2.mono (B' := [R]) (fun b hb => by rw [HRr.out b (by simpa using hb)]; simp); have HC2 := hid hcR2; have l2 : T < w2.heap.size := Nat.lt_of_lt_of_le (by (try simp [go_sem]) <;> (try simp [Xt.add]) <;> omega) hcR2.size; have q2 : w2.cell? ⟨T, 4, none⟩ = some v := (hcR2.cell (by (try simp [go_sem]) <;> (try simp [Xt.add]) <;> omega) (by simp [hTR]) 4).trans (by simp [go_sem, cT, lT, dT]); have b2 : w2.heap[T]? = some (.cells #[.int .i64 o.map.c, .int .i64 o.map.w, .slice pa4 n1 pc4, .slice pa7 n2 pc7, v] 44 (0, 0)) := (hcR2.block T (by (try simp [go_sem]) <;> (try simp [Xt.add]) <;> omega) (by simp [hTR])).trans (by repeat (first | with_reducible exact HTb.out | with_reducible apply blk_drew | with_reducible refine blk_set ?_ | (with_reducible refine blk_other ?_ (by first | assumption | omega)) | with_reducible refine blk_ext ?_ | with_reducible refine blk_alloc ?_)); have z2 : w2.frozen? ⟨T, 4, none⟩ = false := (Chg.frozen hcR2 (by (try simp [go_sem]) <;> (try simp [Xt.add]) <;> omega) (by simp [hTR]) 4).trans (by simp [go_sem, zT, lT, dZ]); have B2 := hid b2; have HEl2 := hid (els_step (xs := xs) HEl.out O5.out (by ((try simp only [ext_drew]); (try simp only [ext_ext]); repeat (first | exact Ext.refl _ | with_reducible apply Ext.add | with_reducible apply Ext.dr | apply Ext.alloc | apply Ext.ext | apply Ext.drew | refine Ext.trans ?_ (by assumption)))) (by ((try simp only [ext_drew]); (try simp only [ext_ext]); repeat (first | exact Ext.refl _ | with_reducible apply Ext.add | with_reducible apply Ext.dr | apply Ext.alloc | apply Ext.ext | apply Ext.drew | refine Ext.trans ?_ (by assumption)))) hc2 hat2 HDi.out (fun g hg => (by have := HRl.out g hg; ((try simp [go_sem]) <;> (try simp [Xt.add]) <;> omega))) (by (try simp [go_sem]) <;> (try simp [Xt.add]) <;> omega) (by (try simp [go_sem]) <;> (try simp [Xt.add]) <;> omega)); clear hg2 hc2 b2 hcR2 hat2)
            | (
              with_reducible refine wp_region_NR (R) (by kernel_rfl) (by decide +kernel) (by decide +kernel) rfl rfl ?_
              simp only [List.dropLast_cons_cons, List.dropLast_singleton]
              repeat (first
                | (refine mix_pure rfl ?_; (first | go_big_quiet_skip | (go_big_quiet_want; go_big_quiet_op; go_big_quiet_on)); refine wpQuiet_nil ?_)
                | (refine mix_skip (by rfl) ?_; (try simp only [Act.put, List.setIfInBounds_toArray, List.set_cons_zero, List.set_cons_succ]))
                | (refine mix_mk rfl (by rfl) (fun K hK => ?_); (first | (refine wp_clone_Int _ _ rfl (by first | rfl | (simp [go_sem]; done)) xs rfl (HRe.out.of (by ((try simp only [ext_drew]); (try simp only [ext_ext]); repeat (first | exact Ext.refl _ | with_reducible apply Ext.add | with_reducible apply Ext.dr | apply Ext.alloc | apply Ext.ext | apply Ext.drew | refine Ext.trans ?_ (by assumption))))) (by omega) ?_; intro p5 q5 t5 ho; have O5 := hid ho; clear ho) | (refine wp_appRZ_IntS (v := v) (xs := es) X.heap.size _ _ rfl rfl (by (try simp [go_sem]) <;> (try simp [Xt.add]) <;> omega) (by repeat (first | with_reducible apply ownsRow_alloc | exact HG.out | with_reducible apply ownsRow_drew | with_reducible apply ownsRow_ext)) ⟨p5, nx, q5⟩ rfl (alloc_last (by simp [go_sem])) hlen ?_; intro v2 w2 hg2 hc2 hat2; obtain ⟨sa, sn, sc, rfl⟩ := row_slice hg2; have HG2 := hid hg2; have hcR2 := hc2.mono (B' := [R]) (fun b hb => by rw [HRr.out b (by simpa using hb)]; simp); have HC2 := hid hcR2; have l2 : T < w2.heap.size := Nat.lt_of_lt_of_le (by (try simp [go_sem]) <;> (try simp [Xt.add]) <;> omega) hcR2.size; have q2 : w2.cell? ⟨T, 4, none⟩ = some v := (hcR2.cell (by (try simp [go_sem]) <;> (try simp [Xt.add]) <;> omega) (by simp [hTR]) 4).trans (by simp [go_sem, cT, lT, dT]); have b2 : w2.heap[T]? = some (.cells #[.int .i64 o.map.c, .int .i64 o.map.w, .slice pa4 n1 pc4, .slice pa7 n2 pc7, v] 44 (0, 0)) := (hcR2.block T (by (try simp [go_sem]) <;> (try simp [Xt.add]) <;> omega) (by simp [hTR])).trans (by repeat (first | with_reducible exact HTb.out | with_reducible apply blk_drew | with_reducible refine blk_set ?_ | (with_reducible refine blk_other ?_ (by first | assumption | omega)) | with_reducible refine blk_ext ?_ | with_reducible refine blk_alloc ?_)); have z2 : w2.frozen? ⟨T, 4, none⟩ = false := (Chg.frozen hcR2 (by (try simp [go_sem]) <;> (try simp [Xt.add]) <;> omega) (by simp [hTR]) 4).trans (by simp [go_sem, zT, lT, dZ]); have B2 := hid b2; have HEl2 := hid (els_step (xs := xs) HEl.out O5.out (by ((try simp only [ext_drew]); (try simp only [ext_ext]); repeat (first | exact Ext.refl _ | with_reducible apply Ext.add | with_reducible apply Ext.dr | apply Ext.alloc | apply Ext.ext | apply Ext.drew | refine Ext.trans ?_ (by assumption)))) (by ((try simp only [ext_drew]); (try simp only [ext_ext]); repeat (first | exact Ext.refl _ | with_reducible apply Ext.add | with_reducible apply Ext.dr | apply Ext.alloc | apply Ext.ext | apply Ext.drew | refine Ext.trans ?_ (by assumption)))) hc2 hat2 HDi.out (fun g hg => (by have := HRl.out g hg; ((try simp [go_sem]) <;> (try simp [Xt.add]) <;> omega))) (by (try simp [go_sem]) <;> (try simp [Xt.add]) <;> omega) (by (try simp [go_sem]) <;> (try simp [Xt.add]) <;> omega)); clear hg2 hc2 b2 hcR2 hat2) | (go_simp; first | (refine wpList_clone_Int rfl _ _ rfl (by first | rfl | (simp [go_sem]; done)) xs rfl (HRe.out.of (by ((try simp only [ext_drew]); (try simp only [ext_ext]); repeat (first | exact Ext.refl _ | with_reducible apply Ext.add | with_reducible apply Ext.dr | apply Ext.alloc | apply Ext.ext | apply Ext.drew | refine Ext.trans ?_ (by assumption))))) (by omega) ?_; intro p5 q5 t5 ho; have O5 := hid ho; clear ho) | skip)); (show K _ _); refine hK _ _ (extR_of (by repeat (first | with_reducible exact Chg.refl _ _ | with_reducible apply Chg.drew | with_reducible apply Chg.drewl | with_reducible refine Chg.turn (by simp) | with_reducible refine Chg.both ?_ (by simp) | (with_reducible refine Chg.set ?_ (by simp) _) | with_reducible apply Chg.alloc | with_reducible apply Chg.ext | with_reducible refine Chg.trans ?_ (Hid.out (by assumption))))) ?_; clear hK K; (try simp only [Act.put, List.setIfInBounds_toArray, List.set_cons_zero, List.set_cons_succ])))
              refine mixN_nil (fun K hK => ?_)
              go_simp
              (show K _ _)
              refine hK _ _ ?_
              clear hK K
              (try simp only [Act.put, List.setIfInBounds_toArray, List.set_cons_zero, List.set_cons_succ])))
        go_roundw
        case rel =>
          obtain ⟨B', hE', hd'⟩ := HEl2.out
          have hcT : ∀ b ∈ [T], b ∉ B' := fun b hb hm => by
            obtain rfl : b = T := by simpa using hb
            have := hE'.rng _ hm
            omega
          refine ⟨k + 1, .slice sa sn sc, es ++ [⟨p5, nx, q5⟩], B', by omega, by go_num, (by exact blk_set B2.out), ?_, ?_, hd', Chg.set (Chg.up (by repeat (first | with_reducible exact HC.out | with_reducible apply Chg.drew | with_reducible apply Chg.alloc | with_reducible apply Chg.ext)) HC2.out (by simp; omega)) (by simp) _⟩
          · exact ownsRow_chg HG2.out ((Chg.refl [T] w2).set (by simp) _) (by simp; omega)
          · rw [HEk.out]
            exact hE'.chg ((Chg.refl [T] w2).set (by simp) _) hcT
        case measure => simp [intOf]; omega
      · obtain ⟨sa, sn, sc, rfl⟩ := row_slice HG.out
        have HTk := hid (show o.air.take k = o.air from List.take_of_length_le (by rw [HN3.out]; omega))
        have HE3 := hid (HTk.out ▸ HEl.out)
        obtain ⟨hO, hn⟩ := one_three HN1.out HN2.out HQ1.out HQ2.out HD12.out HL1.out HL2.out HC.out HT1.out HT2.out (by omega) HE3.out HG.out HDi.out
        have HO := hid hO
        have HNn := hid hn
        clear hO hn
        try go_wp2_with (first
            | fail
            | (
              with_reducible refine wp_region_mix (by kernel_rfl) (by decide +kernel) ?_
              repeat (first
                | (refine mix_pure rfl ?_; (first | go_big_quiet_skip | (go_big_quiet_want; go_big_quiet_op; go_big_quiet_on)); refine wpQuiet_nil ?_)
                | (refine mix_skip (by rfl) ?_; (try simp only [Act.put, List.setIfInBounds_toArray, List.set_cons_zero, List.set_cons_succ]))
                | (refine mix_mk rfl (by rfl) (fun K hK => ?_); (first | (go_simp; first | skip)); (show K _ _); refine hK _ _ (show Ext _ _ from (by ((try simp only [ext_drew]); (try simp only [ext_ext]); repeat (first | exact Ext.refl _ | with_reducible apply Ext.add | with_reducible apply Ext.dr | apply Ext.alloc | apply Ext.ext | apply Ext.drew | refine Ext.trans ?_ (by assumption))))) ?_; clear hK K; (try simp only [Act.put, List.setIfInBounds_toArray, List.set_cons_zero, List.set_cons_succ])))
              refine mix_nil ?_)
            | (
              with_reducible refine wp_region_ext (by kernel_rfl) (by kernel_rfl) ?_
              repeat (first | go_big_quiet_skip | (go_big_quiet_want; go_big_quiet_op; first | go_big_quiet_on | (apply Exists.intro; refine ⟨fun _ => ?_, ?_⟩; (fail); (try rw [h1]); (try rw [h2]); (try rw [h3]); (try rw [h4]); (try rw [p1]); (try rw [p2]); (try rw [p3]); (try rw [p4]); (try rw [r1]); (try rw [r2]); (try rw [r3]); (try rw [r4]); (try rw [r5]); (try rw [r6]); (try rw [q3]); (try rw [q4]); (try rw [hp]); (try rw [hq]); go_big_quiet_on)))
              refine wpQuiet_nil ?_
              rintro _ ⟨tq, rfl⟩))
        refine bodyPost_ret (v := .agg #[.int .i64 o.map.c, .int .i64 o.map.w, .slice pa4 n1 pc4, .slice pa7 n2 pc7, .slice sa sn sc]) (by simp [results, Try.results44, go_sem, cT0, cT1, cT2, cT3, cT, cR0, cR1, cR2, cR3, cR4, lR, lT]) rfl ?_
        refine ⟨⟨pa4, pc4, pa7, pc7, sa, sc⟩, by rw [HN1.out, HN2.out, HNn.out], ?_⟩
        exact fin_same (w := w) (Ext.of_below HBl.out) HO.out (R := w.heap.size + 1) (by omega) (by omega) (by repeat (first | with_reducible exact Chg.refl _ _ | with_reducible apply Chg.drew | with_reducible apply Chg.drewl | with_reducible refine Chg.turn (by simp) | with_reducible refine Chg.both ?_ (by simp) | (with_reducible refine Chg.set ?_ (by simp) _) | with_reducible apply Chg.alloc | with_reducible apply Chg.ext))
set_option maxRecDepth 100000 in
set_option maxHeartbeats 40000000 in
theorem sOneCopy_c (o : One) (h : OneH) (w : World) (hx : ReO w o h) (hb : BdO o) :
    Calls Try.prog 40 #[.agg #[.int .i64 o.map.c, .int .i64 o.map.w, .slice h.a1 o.wk.length h.c1, .slice h.a2 o.ground.length h.c2, .slice h.a3 o.air.length h.c3]] w (MadeO w o) := by
  obtain ⟨a1, c1, a2, c2, a3, c3⟩ := h
  obtain ⟨r1, r2, r3⟩ := hx
  obtain ⟨b1, b2, b3, ba⟩ := hb
  dsimp only at r1 r2 r3 ⊢
  generalize hn1 : o.wk.length = n1 at r1 b1 ⊢
  generalize hn2 : o.ground.length = n2 at r2 b2 ⊢
  generalize hn3 : o.air.length = n3 at r3 b3 ⊢
  have H1 := hid r1
  have H2 := hid r2
  have H3 := hid r3
  have BA := hid ba
  have HN1 := hid hn1
  have HN2 := hid hn2
  have HN3 := hid hn3
  clear r1 r2 r3 ba hn1 hn2 hn3
  go_enter Try.func40, Try.ntmps40
  try go_wp2_with (first
      | fail
      | (
        with_reducible refine wp_region_mix (by kernel_rfl) (by decide +kernel) ?_
        repeat (first
          | (refine mix_pure rfl ?_; (first | go_big_quiet_skip | (go_big_quiet_want; go_big_quiet_op; go_big_quiet_on)); refine wpQuiet_nil ?_)
          | (refine mix_skip (by rfl) ?_; (try simp only [Act.put, List.setIfInBounds_toArray, List.set_cons_zero, List.set_cons_succ]))
          | (refine mix_mk rfl (by rfl) (fun K hK => ?_); (first | (go_simp; first | skip)); (show K _ _); refine hK _ _ (show Ext _ _ from (by ((try simp only [ext_drew]); (try simp only [ext_ext]); repeat (first | exact Ext.refl _ | with_reducible apply Ext.add | with_reducible apply Ext.dr | apply Ext.alloc | apply Ext.ext | apply Ext.drew | refine Ext.trans ?_ (by assumption))))) ?_; clear hK K; (try simp only [Act.put, List.setIfInBounds_toArray, List.set_cons_zero, List.set_cons_succ])))
        refine mix_nil ?_)
      | (
        with_reducible refine wp_region_ext (by kernel_rfl) (by kernel_rfl) ?_
        repeat (first | go_big_quiet_skip | (go_big_quiet_want; go_big_quiet_op; first | go_big_quiet_on | (apply Exists.intro; refine ⟨fun _ => ?_, ?_⟩; (fail); (try rw [h1]); (try rw [h2]); (try rw [h3]); (try rw [h4]); (try rw [p1]); (try rw [p2]); (try rw [p3]); (try rw [p4]); (try rw [r1]); (try rw [r2]); (try rw [r3]); (try rw [r4]); (try rw [r5]); (try rw [r6]); (try rw [q3]); (try rw [q4]); (try rw [hp]); (try rw [hq]); go_big_quiet_on)))
        refine wpQuiet_nil ?_
        rintro _ ⟨tq, rfl⟩))
  refine wp_region_flow [5, 6, 7, 8, 9, 10, 11, 12, 13, 14, 15, 3] (fun i σ lo hi w9 => match i with
    | 0 => σ 0 = .pointer (some ⟨w.heap.size, 0, none⟩)
    | 1 => σ 1 = .agg #[.int .i64 o.map.c, .int .i64 o.map.w]
    | 2 => MkE (σ 2)
    | 3 => σ 3 = .pointer (some ⟨w.heap.size, 2, none⟩)
    | 4 => σ 4 = .slice a1 n1 c1
    | 5 => MkS n1 sOnw (.l (o.wk.map Onw.dat)) (σ 5) lo hi w9
    | 6 => MkE (σ 6)
    | 7 => σ 7 = .pointer (some ⟨w.heap.size, 3, none⟩)
    | 8 => σ 8 = .slice a2 n2 c2
    | 9 => MkS n2 .int (.l (o.ground.map Dat.i)) (σ 9) lo hi w9
    | 10 => σ 10 = .agg #[.int .i64 o.map.c, .int .i64 o.map.w, σ 5, σ 9, .slice none 0 0]
    | _ => MkA #[.int .i64 0, .int .i64 0, .slice none 0 0, .slice none 0 0, .slice none 0 0] 44 (σ 11) lo hi w9) (by kernel_rfl) (by decide +kernel) (by simp) ?_ ?_ ?_ ?_
  · intro i oo hi ho σ σ' lo hi' w9 h hS
    match i, hi, ho with
    | 0, _, ho =>
      have e0 := h 0 (.inl rfl)
      try dsimp only at hS ⊢
      rw [e0] at hS
      exact hS
    | 1, _, ho =>
      have e0 := h 1 (.inl rfl)
      try dsimp only at hS ⊢
      rw [e0] at hS
      exact hS
    | 2, _, ho =>
      have e0 := h 2 (.inl rfl)
      try dsimp only at hS ⊢
      rw [e0] at hS
      exact hS
    | 3, _, ho =>
      have e0 := h 3 (.inl rfl)
      try dsimp only at hS ⊢
      rw [e0] at hS
      exact hS
    | 4, _, ho =>
      have e0 := h 4 (.inl rfl)
      try dsimp only at hS ⊢
      rw [e0] at hS
      exact hS
    | 5, _, ho =>
      have e0 := h 5 (.inl rfl)
      try dsimp only at hS ⊢
      rw [e0] at hS
      exact hS
    | 6, _, ho =>
      have e0 := h 6 (.inl rfl)
      try dsimp only at hS ⊢
      rw [e0] at hS
      exact hS
    | 7, _, ho =>
      have e0 := h 7 (.inl rfl)
      try dsimp only at hS ⊢
      rw [e0] at hS
      exact hS
    | 8, _, ho =>
      have e0 := h 8 (.inl rfl)
      try dsimp only at hS ⊢
      rw [e0] at hS
      exact hS
    | 9, _, ho =>
      have e0 := h 9 (.inl rfl)
      try dsimp only at hS ⊢
      rw [e0] at hS
      exact hS
    | 10, _, ho =>
      have e0 := h 10 (.inl rfl)
      obtain rfl := Option.some.inj ho
      have e6 := h 5 (.inr (by kernel_rfl))
      have e10 := h 9 (.inr (by kernel_rfl))
      try dsimp only at hS ⊢
      rw [e0, e6, e10] at hS
      exact hS
    | 11, _, ho =>
      have e0 := h 11 (.inl rfl)
      try dsimp only at hS ⊢
      rw [e0] at hS
      exact hS
  · intro i hi σ lo hi' w9 w8 hS hle hE
    match i, hi with
    | 0, _ => exact hS
    | 1, _ => exact hS
    | 2, _ => exact hS
    | 3, _ => exact hS
    | 4, _ => exact hS
    | 5, _ => exact MkS.ext hS hE
    | 6, _ => exact hS
    | 7, _ => exact hS
    | 8, _ => exact hS
    | 9, _ => exact MkS.ext hS hE
    | 10, _ => exact hS
    | 11, _ => exact MkA.ext hS hE
  · intro i oo hi ho σ L H w9 hE hd
    obtain ⟨t9, rfl⟩ := hE
    match i, hi, ho with
    | 0, _, ho =>
      obtain rfl := Option.some.inj ho
      clear hd ho
      simp only [actS, putS, List.setIfInBounds_toArray, List.set_cons_zero, List.set_cons_succ, Nat.reduceAdd]
      refine flow_K (fun K hK => ?_)
      go_simp
      (show K _ _)
      exact hK _ _ ⟨_, rfl, (show Ext _ _ from (by ((try simp only [ext_drew]); (try simp only [ext_ext]); repeat (first | exact Ext.refl _ | with_reducible apply Ext.add | with_reducible apply Ext.dr | apply Ext.alloc | apply Ext.ext | apply Ext.drew | refine Ext.trans ?_ (by assumption))))), rfl⟩
    | 1, _, ho =>
      obtain rfl := Option.some.inj ho
      have e0 : σ 0 = .pointer (some ⟨w.heap.size, 0, none⟩) := (hd 0 (by kernel_rfl)).2.2.2
      clear hd ho
      simp only [actS, putS, List.setIfInBounds_toArray, List.set_cons_zero, List.set_cons_succ, Nat.reduceAdd, e0]
      refine flow_K (fun K hK => ?_)
      go_simp
      (show K _ _)
      exact hK _ _ ⟨_, rfl, (show Ext _ _ from (by ((try simp only [ext_drew]); (try simp only [ext_ext]); repeat (first | exact Ext.refl _ | with_reducible apply Ext.add | with_reducible apply Ext.dr | apply Ext.alloc | apply Ext.ext | apply Ext.drew | refine Ext.trans ?_ (by assumption))))), rfl⟩
    | 2, _, ho =>
      obtain rfl := Option.some.inj ho
      clear hd ho
      simp only [actS, putS, List.setIfInBounds_toArray, List.set_cons_zero, List.set_cons_succ, Nat.reduceAdd]
      refine flow_K (fun K hK => ?_)
      go_simp
      (show K _ _)
      exact hK _ _ ⟨_, rfl, (show Ext _ _ from (by ((try simp only [ext_drew]); (try simp only [ext_ext]); repeat (first | exact Ext.refl _ | with_reducible apply Ext.add | with_reducible apply Ext.dr | apply Ext.alloc | apply Ext.ext | apply Ext.drew | refine Ext.trans ?_ (by assumption))))), ⟨_, rfl⟩⟩
    | 3, _, ho =>
      obtain rfl := Option.some.inj ho
      clear hd ho
      simp only [actS, putS, List.setIfInBounds_toArray, List.set_cons_zero, List.set_cons_succ, Nat.reduceAdd]
      refine flow_K (fun K hK => ?_)
      go_simp
      (show K _ _)
      exact hK _ _ ⟨_, rfl, (show Ext _ _ from (by ((try simp only [ext_drew]); (try simp only [ext_ext]); repeat (first | exact Ext.refl _ | with_reducible apply Ext.add | with_reducible apply Ext.dr | apply Ext.alloc | apply Ext.ext | apply Ext.drew | refine Ext.trans ?_ (by assumption))))), rfl⟩
    | 4, _, ho =>
      obtain rfl := Option.some.inj ho
      have e3 : σ 3 = .pointer (some ⟨w.heap.size, 2, none⟩) := (hd 3 (by kernel_rfl)).2.2.2
      clear hd ho
      simp only [actS, putS, List.setIfInBounds_toArray, List.set_cons_zero, List.set_cons_succ, Nat.reduceAdd, e3]
      refine flow_K (fun K hK => ?_)
      go_simp
      (show K _ _)
      exact hK _ _ ⟨_, rfl, (show Ext _ _ from (by ((try simp only [ext_drew]); (try simp only [ext_ext]); repeat (first | exact Ext.refl _ | with_reducible apply Ext.add | with_reducible apply Ext.dr | apply Ext.alloc | apply Ext.ext | apply Ext.drew | refine Ext.trans ?_ (by assumption))))), rfl⟩
    | 5, _, ho =>
      obtain rfl := Option.some.inj ho
      obtain ⟨g2, e2⟩ : MkE (σ 2) := (hd 2 (by kernel_rfl)).2.2.2
      have e4 : σ 4 = .slice a1 n1 c1 := (hd 4 (by kernel_rfl)).2.2.2
      clear hd ho
      simp only [actS, putS, List.setIfInBounds_toArray, List.set_cons_zero, List.set_cons_succ, Nat.reduceAdd, e2, e4]
      refine flow_K (fun K hK => ?_)
      refine wp_cloneS (cells := Onw.cells) (k := 6) (bytes := 48) (z := .agg #[.int .i64 0, .int .i64 0, .int .i64 0, .int .i64 0, .int .i64 0, .bool false]) Try.underlying42 (by kernel_rfl) rfl (by decide) (by decide) rfl (fun _ => rfl) (fun _ _ _ _ h => rd_Onw h) (fun _ _ h => Onw.dat_inj h) (fun x u hu => by simp only [Onw.cells, List.mem_cons, List.not_mem_nil, or_false] at hu; rcases hu with rfl | rfl | rfl | rfl | rfl | rfl <;> rfl) (fun w x => own_Onw_mk w x) _ _ rfl rfl (.inr ⟨_, rfl⟩) o.wk rfl (H1.out.of (by ((try simp only [ext_drew]); (try simp only [ext_ext]); repeat (first | exact Ext.refl _ | with_reducible apply Ext.add | with_reducible apply Ext.dr | apply Ext.alloc | apply Ext.ext | apply Ext.drew | refine Ext.trans ?_ (by assumption))))) b1 ?_
      intro a' c' t' ho'
      exact hK _ _ ⟨_, rfl, ⟨t', rfl⟩, ⟨_, _, rfl, ho'⟩⟩
    | 6, _, ho =>
      obtain rfl := Option.some.inj ho
      clear hd ho
      simp only [actS, putS, List.setIfInBounds_toArray, List.set_cons_zero, List.set_cons_succ, Nat.reduceAdd]
      refine flow_K (fun K hK => ?_)
      go_simp
      (show K _ _)
      exact hK _ _ ⟨_, rfl, (show Ext _ _ from (by ((try simp only [ext_drew]); (try simp only [ext_ext]); repeat (first | exact Ext.refl _ | with_reducible apply Ext.add | with_reducible apply Ext.dr | apply Ext.alloc | apply Ext.ext | apply Ext.drew | refine Ext.trans ?_ (by assumption))))), ⟨_, rfl⟩⟩
    | 7, _, ho =>
      obtain rfl := Option.some.inj ho
      clear hd ho
      simp only [actS, putS, List.setIfInBounds_toArray, List.set_cons_zero, List.set_cons_succ, Nat.reduceAdd]
      refine flow_K (fun K hK => ?_)
      go_simp
      (show K _ _)
      exact hK _ _ ⟨_, rfl, (show Ext _ _ from (by ((try simp only [ext_drew]); (try simp only [ext_ext]); repeat (first | exact Ext.refl _ | with_reducible apply Ext.add | with_reducible apply Ext.dr | apply Ext.alloc | apply Ext.ext | apply Ext.drew | refine Ext.trans ?_ (by assumption))))), rfl⟩
    | 8, _, ho =>
      obtain rfl := Option.some.inj ho
      have e7 : σ 7 = .pointer (some ⟨w.heap.size, 3, none⟩) := (hd 7 (by kernel_rfl)).2.2.2
      clear hd ho
      simp only [actS, putS, List.setIfInBounds_toArray, List.set_cons_zero, List.set_cons_succ, Nat.reduceAdd, e7]
      refine flow_K (fun K hK => ?_)
      go_simp
      (show K _ _)
      exact hK _ _ ⟨_, rfl, (show Ext _ _ from (by ((try simp only [ext_drew]); (try simp only [ext_ext]); repeat (first | exact Ext.refl _ | with_reducible apply Ext.add | with_reducible apply Ext.dr | apply Ext.alloc | apply Ext.ext | apply Ext.drew | refine Ext.trans ?_ (by assumption))))), rfl⟩
    | 9, _, ho =>
      obtain rfl := Option.some.inj ho
      obtain ⟨g6, e6⟩ : MkE (σ 6) := (hd 6 (by kernel_rfl)).2.2.2
      have e8 : σ 8 = .slice a2 n2 c2 := (hd 8 (by kernel_rfl)).2.2.2
      clear hd ho
      simp only [actS, putS, List.setIfInBounds_toArray, List.set_cons_zero, List.set_cons_succ, Nat.reduceAdd, e6, e8]
      refine flow_K (fun K hK => ?_)
      refine wp_cloneS (cells := icells) (k := 1) (bytes := 8) (z := .int .i64 0) Try.underlying24 (by kernel_rfl) rfl (by decide) (by decide) rfl (fun _ => rfl) (fun _ _ _ _ h => rd_Int h) (fun _ _ h => idat_inj h) ione (fun w x => own_Int_mk w x) _ _ rfl rfl (.inr ⟨_, rfl⟩) o.ground rfl (H2.out.of (by ((try simp only [ext_drew]); (try simp only [ext_ext]); repeat (first | exact Ext.refl _ | with_reducible apply Ext.add | with_reducible apply Ext.dr | apply Ext.alloc | apply Ext.ext | apply Ext.drew | refine Ext.trans ?_ (by assumption))))) b2 ?_
      intro a' c' t' ho'
      exact hK _ _ ⟨_, rfl, ⟨t', rfl⟩, ⟨_, _, rfl, ho'⟩⟩
    | 10, _, ho =>
      obtain rfl := Option.some.inj ho
      have e1 : σ 1 = .agg #[.int .i64 o.map.c, .int .i64 o.map.w] := (hd 1 (by kernel_rfl)).2.2.2
      obtain ⟨pa5, pc5, e5, _⟩ : MkS n1 sOnw (.l (o.wk.map Onw.dat)) (σ 5) (L 5) (H 5) _ := (hd 5 (by kernel_rfl)).2.2.2
      obtain ⟨pa9, pc9, e9, _⟩ : MkS n2 .int (.l (o.ground.map Dat.i)) (σ 9) (L 9) (H 9) _ := (hd 9 (by kernel_rfl)).2.2.2
      clear hd ho
      simp only [actS, putS, List.setIfInBounds_toArray, List.set_cons_zero, List.set_cons_succ, Nat.reduceAdd, e1, e5, e9]
      refine flow_K (fun K hK => ?_)
      go_simp
      (show K _ _)
      exact hK _ _ ⟨_, rfl, (show Ext _ _ from (by ((try simp only [ext_drew]); (try simp only [ext_ext]); repeat (first | exact Ext.refl _ | with_reducible apply Ext.add | with_reducible apply Ext.dr | apply Ext.alloc | apply Ext.ext | apply Ext.drew | refine Ext.trans ?_ (by assumption))))), (by simp)⟩
    | 11, _, ho =>
      obtain rfl := Option.some.inj ho
      clear hd ho
      simp only [actS, putS, List.setIfInBounds_toArray, List.set_cons_zero, List.set_cons_succ, Nat.reduceAdd]
      refine flow_K (fun K hK => ?_)
      go_simp
      (show K _ _)
      exact hK _ _ ⟨_, rfl, (show Ext _ _ from (by ((try simp only [ext_drew]); (try simp only [ext_ext]); repeat (first | exact Ext.refl _ | with_reducible apply Ext.add | with_reducible apply Ext.dr | apply Ext.alloc | apply Ext.ext | apply Ext.drew | refine Ext.trans ?_ (by assumption))))), ⟨_, rfl, by simp [go_sem], by simp [go_sem], heap_new (by simp [go_sem])⟩⟩
  · intro oo ho σ L H w9 hE hd hap
    obtain ⟨t9, rfl⟩ := hE
    obtain ⟨l0, m0, u0, s0⟩ := hd 0 (by decide)
    have e0 : σ 0 = .pointer (some ⟨w.heap.size, 0, none⟩) := s0
    clear s0
    obtain ⟨l1, m1, u1, s1⟩ := hd 1 (by decide)
    have e1 : σ 1 = .agg #[.int .i64 o.map.c, .int .i64 o.map.w] := s1
    clear s1
    obtain ⟨l2, m2, u2, s2⟩ := hd 2 (by decide)
    obtain ⟨g2, e2⟩ : MkE (σ 2) := s2
    obtain ⟨l3, m3, u3, s3⟩ := hd 3 (by decide)
    have e3 : σ 3 = .pointer (some ⟨w.heap.size, 2, none⟩) := s3
    clear s3
    obtain ⟨l4, m4, u4, s4⟩ := hd 4 (by decide)
    have e4 : σ 4 = .slice a1 n1 c1 := s4
    clear s4
    obtain ⟨l5, m5, u5, s5⟩ := hd 5 (by decide)
    obtain ⟨pa5, pc5, e5, o5⟩ : MkS n1 sOnw (.l (o.wk.map Onw.dat)) (σ 5) (L 5) (H 5) _ := s5
    obtain ⟨l6, m6, u6, s6⟩ := hd 6 (by decide)
    obtain ⟨g6, e6⟩ : MkE (σ 6) := s6
    obtain ⟨l7, m7, u7, s7⟩ := hd 7 (by decide)
    have e7 : σ 7 = .pointer (some ⟨w.heap.size, 3, none⟩) := s7
    clear s7
    obtain ⟨l8, m8, u8, s8⟩ := hd 8 (by decide)
    have e8 : σ 8 = .slice a2 n2 c2 := s8
    clear s8
    obtain ⟨l9, m9, u9, s9⟩ := hd 9 (by decide)
    obtain ⟨pa9, pc9, e9, o9⟩ : MkS n2 .int (.l (o.ground.map Dat.i)) (σ 9) (L 9) (H 9) _ := s9
    obtain ⟨l10, m10, u10, s10⟩ := hd 10 (by decide)
    have e10 : σ 10 = .agg #[.int .i64 o.map.c, .int .i64 o.map.w, σ 5, σ 9, .slice none 0 0] := s10
    clear s10
    obtain ⟨l11, m11, u11, s11⟩ := hd 11 (by decide)
    obtain ⟨bx, e11, bl, bh, hbx⟩ : MkA #[.int .i64 0, .int .i64 0, .slice none 0 0, .slice none 0 0, .slice none 0 0] 44 (σ 11) (L 11) (H 11) _ := s11
    rw [e5, e9] at e10
    clear hd
    try simp only [ext_ext] at o5 o9 hbx
    have y0 := (cell_blk hbx 0).trans (show _ = some (Value.int .i64 0) from rfl)
    have z0 := frozen_blk hbx 0
    have y1 := (cell_blk hbx 1).trans (show _ = some (Value.int .i64 0) from rfl)
    have z1 := frozen_blk hbx 1
    have y2 := (cell_blk hbx 2).trans (show _ = some (Value.slice none 0 0) from rfl)
    have z2 := frozen_blk hbx 2
    have y3 := (cell_blk hbx 3).trans (show _ = some (Value.slice none 0 0) from rfl)
    have z3 := frozen_blk hbx 3
    have y4 := (cell_blk hbx 4).trans (show _ = some (Value.slice none 0 0) from rfl)
    have z4 := frozen_blk hbx 4
    have HBX := hid hbx
    have lbx := lt_blk hbx
    clear hbx
    simp only [actS, putS, List.setIfInBounds_toArray, List.set_cons_zero, List.set_cons_succ, Nat.reduceAdd, e0, e1, e2, e3, e4, e5, e6, e7, e8, e9, e10, e11]
    obtain rfl := Option.some.inj ho
    refine flow_K (fun K hK => ?_)
    go_simp
    (show K _ _)
    refine hK _ _ ?_
    clear hK K ho
    try simp only [Act.put, List.setIfInBounds_toArray, List.set_cons_zero, List.set_cons_succ]
    simp only [Exit.then]
    rename_i hKont
    refine hKont _ _ ?_
    clear hKont
    refine wp_gen fun X hX => ?_
    have hC := chg_five hX
    have hbX : X.heap[bx]? = some (.cells #[.int .i64 o.map.c, .int .i64 o.map.w, .slice pa5 n1 pc5, .slice pa9 n2 pc9, .slice none 0 0] 44 (0, 0)) := by rw [hX]; exact blk_set (blk_set (blk_set (blk_set (blk_set HBX.out))))
    obtain ⟨Y, hY, hCY⟩ := chg_left hC
    have EY : Ext w Y := by rw [hY]; ((try simp only [ext_drew]); (try simp only [ext_ext]); repeat (first | exact Ext.refl _ | with_reducible apply Ext.add | with_reducible apply Ext.dr | apply Ext.alloc | apply Ext.ext | apply Ext.drew | refine Ext.trans ?_ (by assumption)))
    have d1A := hap 5 11 (by decide) (by decide) (by decide)
    have d2A := hap 9 11 (by decide) (by decide) (by decide)
    have d12 := hap 5 9 (by decide) (by decide) (by decide)
    have hbase : w.heap.size + 2 ≤ L 11 := Nat.le_trans (by (try simp [go_sem]) <;> (try simp [Xt.add]) <;> omega) l11
    have hl1 : w.heap.size + 2 ≤ L 5 := Nat.le_trans (by (try simp [go_sem]) <;> (try simp [Xt.add]) <;> omega) l5
    have hl2 : w.heap.size + 2 ≤ L 9 := Nat.le_trans (by (try simp [go_sem]) <;> (try simp [Xt.add]) <;> omega) l9
    have hkr : ∀ z ∈ [bx], bx ≤ z ∧ z < bx + 1 := fun z hz => by
      obtain rfl : z = bx := by simpa using hz
      omega
    have q1 := OwnR.chg o5 (hC.toR hkr) (by omega)
    have q2 := OwnR.chg o9 (hC.toR hkr) (by omega)
    have hMB : w.heap.size ∉ [bx] := by simp; omega
    have hRB : w.heap.size + 1 ∉ [bx] := by simp; omega
    have xM4 : X.cell? ⟨w.heap.size, 4, none⟩ = some (.slice a3 n3 c3) := (hC.cell (by (try simp [go_sem]) <;> (try simp [Xt.add]) <;> omega) hMB 4).trans (by simp [go_sem])
    have xR0 : X.cell? ⟨w.heap.size + 1, 0, none⟩ = some (.int .i64 0) := (hC.cell (by (try simp [go_sem]) <;> (try simp [Xt.add]) <;> omega) hRB 0).trans (by simp [go_sem])
    have xR1 : X.cell? ⟨w.heap.size + 1, 1, none⟩ = some (.int .i64 0) := (hC.cell (by (try simp [go_sem]) <;> (try simp [Xt.add]) <;> omega) hRB 1).trans (by simp [go_sem])
    have xR2 : X.cell? ⟨w.heap.size + 1, 2, none⟩ = some (.slice none 0 0) := (hC.cell (by (try simp [go_sem]) <;> (try simp [Xt.add]) <;> omega) hRB 2).trans (by simp [go_sem])
    have xR3 : X.cell? ⟨w.heap.size + 1, 3, none⟩ = some (.slice none 0 0) := (hC.cell (by (try simp [go_sem]) <;> (try simp [Xt.add]) <;> omega) hRB 3).trans (by simp [go_sem])
    have xR4 : X.cell? ⟨w.heap.size + 1, 4, none⟩ = some (.slice none 0 0) := (hC.cell (by (try simp [go_sem]) <;> (try simp [Xt.add]) <;> omega) hRB 4).trans (by simp [go_sem])
    have hRX : X.heap[w.heap.size + 1]? = some (.cells #[.int .i64 0, .int .i64 0, .slice none 0 0, .slice none 0 0, .slice none 0 0] 44 (0, 0)) := (hC.block _ (by (try simp [go_sem]) <;> (try simp [Xt.add]) <;> omega) hRB).trans ((ext_block _ _ _ (by (try simp [go_sem]) <;> (try simp [Xt.add]) <;> omega)).trans (heap_new (by simp)))
    have lRX := lt_blk hRX
    have lbX := lt_blk hbX
    have lMX : w.heap.size < X.heap.size := by omega
    have EB : Below w.heap.size w X := Below.chg (w0 := w) EY.below hCY (fun b hb => by
      obtain rfl : b = bx := by simpa using hb
      omega)
    have HQ1 := hid q1
    have HQ2 := hid q2
    have HD12 := hid d12
    have HL1 := hid hl1
    have HL2 := hid hl2
    have HT1 := hid (show bx < L 5 ∨ H 5 ≤ bx by omega)
    have HT2 := hid (show bx < L 9 ∨ H 9 ≤ bx by omega)
    have hbxw : w.heap.size + 2 ≤ bx := by omega
    have HB0 := hid hbX
    have HEB := hid EB
    have HRX := hid hRX
    clear y0 y1 y2 y3 y4 z0 z1 z2 z3 z4
    clear hX hC hCY hY q1 q2 HBX hkr hMB hRB hbX lbx hbase hl1 hl2 EB EY hRX
    clear e0 e1 e2 e3 e4 e5 e6 e7 e8 e9 e10 e11
    clear hap d1A d2A d12 bl bh l0 l1 l2 l3 l4 l5 l6 l7 l8 l9 l10 l11 m0 m1 m2 m3 m4 m5 m6 m7 m8 m9 m10 m11 u0 u1 u2 u3 u4 u5 u6 u7 u8 u9 u10 u11
    clear o5 o9
    generalize hT : bx = T at *
    clear hT bx
    try go_wp2_with (first
        | fail
        | (
          with_reducible refine wp_region_mix (by kernel_rfl) (by decide +kernel) ?_
          repeat (first
            | (refine mix_pure rfl ?_; (first | go_big_quiet_skip | (go_big_quiet_want; go_big_quiet_op; go_big_quiet_on)); refine wpQuiet_nil ?_)
            | (refine mix_skip (by rfl) ?_; (try simp only [Act.put, List.setIfInBounds_toArray, List.set_cons_zero, List.set_cons_succ]))
            | (refine mix_mk rfl (by rfl) (fun K hK => ?_); (first | (go_simp; first | skip)); (show K _ _); refine hK _ _ (show Ext _ _ from (by ((try simp only [ext_drew]); (try simp only [ext_ext]); repeat (first | exact Ext.refl _ | with_reducible apply Ext.add | with_reducible apply Ext.dr | apply Ext.alloc | apply Ext.ext | apply Ext.drew | refine Ext.trans ?_ (by assumption))))) ?_; clear hK K; (try simp only [Act.put, List.setIfInBounds_toArray, List.set_cons_zero, List.set_cons_succ])))
          refine mix_nil ?_)
        | (
          with_reducible refine wp_region_ext (by kernel_rfl) (by kernel_rfl) ?_
          repeat (first | go_big_quiet_skip | (go_big_quiet_want; go_big_quiet_op; first | go_big_quiet_on | (apply Exists.intro; refine ⟨fun _ => ?_, ?_⟩; (fail); (try rw [h1]); (try rw [h2]); (try rw [h3]); (try rw [h4]); (try rw [p1]); (try rw [p2]); (try rw [p3]); (try rw [p4]); (try rw [r1]); (try rw [r2]); (try rw [r3]); (try rw [r4]); (try rw [r5]); (try rw [r6]); (try rw [q3]); (try rw [q4]); (try rw [hp]); (try rw [hq]); go_big_quiet_on)))
          refine wpQuiet_nil ?_
          rintro _ ⟨tq, rfl⟩))
    go_loopw [4] (fun i wr => ∃ (k : Nat) (v : Value) (es : List SlV) (B : List Nat), k ≤ n3 ∧ i = .int .i64 k ∧ wr.heap[T]? = some (.cells #[.int .i64 o.map.c, .int .i64 o.map.w, .slice pa5 n1 pc5, .slice pa9 n2 pc9, v] 44 (0, 0)) ∧ wr.ownsRow X.heap.size 24 1 v es.length (es.flatMap SlV.cells) ∧ ElsOwn .int Dat.i X.heap.size wr es (o.air.take k) B ∧ (∀ g, v.ownBlock = some g → g ∉ B) ∧ Chg [T] X wr) (fun i _ => n3 - (intOf i).toNat)
    case atStart => exact ⟨0, .slice none 0 0, [], [], Nat.zero_le _, rfl, HB0.out, World.ownsRow_nil _ _ _ _, ElsOwn.nil _ _, by simp, Chg.refl _ _⟩
    case round =>
      obtain ⟨k, v, es, B, hk, rfl, hT, hrow, hels, hdi, hch⟩ := hrel
      have HG := hid hrow
      have HC := hid hch
      have HEl := hid hels
      have HDi := hid hdi
      have hsz := hch.size
      have lT : T < wr.heap.size := lt_blk hT
      have cT0 : wr.cell? ⟨T, 0, none⟩ = some (.int .i64 o.map.c) := (cell_blk hT 0).trans rfl
      have cT1 : wr.cell? ⟨T, 1, none⟩ = some (.int .i64 o.map.w) := (cell_blk hT 1).trans rfl
      have cT2 : wr.cell? ⟨T, 2, none⟩ = some (.slice pa5 n1 pc5) := (cell_blk hT 2).trans rfl
      have cT3 : wr.cell? ⟨T, 3, none⟩ = some (.slice pa9 n2 pc9) := (cell_blk hT 3).trans rfl
      have cT : wr.cell? ⟨T, 4, none⟩ = some v := (cell_blk hT 4).trans rfl
      have zT := frozen_blk hT 4
      have lM : w.heap.size < wr.heap.size := by omega
      have cM4 : wr.cell? ⟨w.heap.size, 4, none⟩ = some (.slice a3 n3 c3) := (hch.cell (by omega) (by simp; omega) 4).trans xM4
      have cR0 : wr.cell? ⟨w.heap.size + 1, 0, none⟩ = some (.int .i64 0) := (hch.cell (by omega) (by simp; omega) 0).trans xR0
      have cR1 : wr.cell? ⟨w.heap.size + 1, 1, none⟩ = some (.int .i64 0) := (hch.cell (by omega) (by simp; omega) 1).trans xR1
      have cR2 : wr.cell? ⟨w.heap.size + 1, 2, none⟩ = some (.slice none 0 0) := (hch.cell (by omega) (by simp; omega) 2).trans xR2
      have cR3 : wr.cell? ⟨w.heap.size + 1, 3, none⟩ = some (.slice none 0 0) := (hch.cell (by omega) (by simp; omega) 3).trans xR3
      have cR4 : wr.cell? ⟨w.heap.size + 1, 4, none⟩ = some (.slice none 0 0) := (hch.cell (by omega) (by simp; omega) 4).trans xR4
      have bR := (hch.block (w.heap.size + 1) (by omega) (by simp; omega)).trans HRX.out
      have zR0 := frozen_blk bR 0
      have zR1 := frozen_blk bR 1
      have zR2 := frozen_blk bR 2
      have zR3 := frozen_blk bR 3
      have zR4 := frozen_blk bR 4
      have lR : w.heap.size + 1 < wr.heap.size := by omega
      have hbel : Below w.heap.size w wr := Below.chg (w0 := w) HEB.out hch (fun b hb => by
        obtain rfl : b = T := by simpa using hb
        omega)
      have HBl := hid hbel
      have HTb := hid hT
      clear hT hrow hch hbel hels hdi bR
      by_cases hlt : k < n3
      · obtain ⟨xs, b', o', a', c', hxk, rfl, hb', f0, hre⟩ := at_SS H3.out hlt
        have hbx' := (HBl.out).block b' hb'
        have f1 : wr.cell? ⟨b', o' + k, none⟩ = some (.slice a' xs.length c') := (World.cell?_of_block (a := ⟨b', o' + k, none⟩) hbx').trans f0
        have lb1 : b' < wr.heap.size := by omega
        have HK := hid hxk
        have hxm : xs.length ≤ 1048576 := BA.out xs (List.mem_of_getElem? hxk)
        generalize hnx : xs.length = nx at hxm f1 f0 hre
        have HNX := hid hnx
        have HRe := hid (Re.below hre HBl.out)
        clear hxk f0 hre hbx' hnx
        obtain ⟨R, hR, hBR, hRc⟩ := row_block v X.heap.size 0 HG.out hsz
        have hTR : T ≠ R := by omega
        have hRT : R ≠ T := by omega
        have hcR : wr.heap.size ≠ R := Ne.symm hRc
        have hMR : w.heap.size ≠ R := by omega
        have hbR : b' ≠ R := by omega
        have HRr := hid hR
        have HRl := hid (row_lt HG.out)
        have dT : ∀ t, (ext wr.drew t).cell? ⟨T, 4, none⟩ = some v := fun t => (ext_cell' _ _ _ _ lT).trans cT
        have dZ : ∀ t, (ext wr.drew t).frozen? ⟨T, 4, none⟩ = false := fun t => (ext_frozen' _ _ _ _ lT).trans zT
        have hel := HEl.out.len
        have hlen : es.length ≤ 4194304 := by rw [hel, List.length_take]; omega
        have HEk := hid (show o.air.take (k + 1) = o.air.take k ++ [xs] by rw [List.take_add_one, HK.out]; rfl)
        clear hR hel
        try go_wp2_with (first
            | fail
            | (
              with_reducible refine wp_region_mix (by kernel_rfl) (by decide +kernel) ?_
              repeat (first
                | (refine mix_pure rfl ?_; (first | go_big_quiet_skip | (go_big_quiet_want; go_big_quiet_op; go_big_quiet_on)); refine wpQuiet_nil ?_)
                | (refine mix_skip (by rfl) ?_; (try simp only [Act.put, List.setIfInBounds_toArray, List.set_cons_zero, List.set_cons_succ]))
                | (refine mix_mk rfl (by rfl) (fun K hK => ?_); (first | (go_simp; first | skip)); (show K _ _); refine hK _ _ (show Ext _ _ from (by ((try simp only [ext_drew]); (try simp only [ext_ext]); repeat (first | exact Ext.refl _ | with_reducible apply Ext.add | with_reducible apply Ext.dr | apply Ext.alloc | apply Ext.ext | apply Ext.drew | refine Ext.trans ?_ (by assumption))))) ?_; clear hK K; (try simp only [Act.put, List.setIfInBounds_toArray, List.set_cons_zero, List.set_cons_succ])))
              refine mix_nil ?_)
            | (
              with_reducible refine wp_region_ext (by kernel_rfl) (by kernel_rfl) ?_
              repeat (first | go_big_quiet_skip | (go_big_quiet_want; go_big_quiet_op; first | go_big_quiet_on | (apply Exists.intro; refine ⟨fun _ => ?_, ?_⟩; (fail); (try rw [h1]); (try rw [h2]); (try rw [h3]); (try rw [h4]); (try rw [p1]); (try rw [p2]); (try rw [p3]); (try rw [p4]); (try rw [r1]); (try rw [r2]); (try rw [r3]); (try rw [r4]); (try rw [r5]); (try rw [r6]); (try rw [q3]); (try rw [q4]); (try rw [hp]); (try rw [hq]); go_big_quiet_on)))
              refine wpQuiet_nil ?_
              rintro _ ⟨tq, rfl⟩))
        try go_wp2_with (first
            | (refine wp_cloneS (cells := icells) (k := 1) (bytes := 8) (z := .int .i64 0) Try.underlying24 (by kernel_rfl) rfl (by decide) (by decide) rfl (fun _ => rfl) (fun _ _ _ _ h => rd_Int h) (fun _ _ h => idat_inj h) ione (fun w x => own_Int_mk w x) _ _ rfl rfl (.inr ⟨_, rfl⟩) xs rfl (HRe.out.of (by ((try simp only [ext_drew]); (try simp only [ext_ext]); repeat (first | exact Ext.refl _ | with_reducible apply Ext.add | with_reducible apply Ext.dr | apply Ext.alloc | apply Ext.ext | apply Ext.drew | refine Ext.trans ?_ (by assumption))))) (by omega) ?_; intro p5 q5 t5 ho; have O5 := hid ho; clear ho) | (refine wp_appRZ_IntS (v := v) (xs := es) X.heap.size _ _ rfl rfl (by (try simp [go_sem]) <;> (try simp [Xt.add]) <;> omega) (by repeat (first | with_reducible apply ownsRow_alloc | exact HG.out | with_reducible apply ownsRow_drew | with_reducible apply ownsRow_ext)) ⟨p5, nx, q5⟩ rfl (alloc_last (by simp [go_sem])) hlen ?_; intro v2 w2 hg2 hc2 hat2; obtain ⟨sa, sn, sc, rfl⟩ := row_slice hg2; have HG2 := hid hg2; have hcR2 := hc2.mono (B' := [R]) (fun b hb => by rw [HRr.out b (by simpa using hb)]; simp); have HC2 := hid hcR2; have l2 : T < w2.heap.size := Nat.lt_of_lt_of_le (by (try simp [go_sem]) <;> (try simp [Xt.add]) <;> omega) hcR2.size; have q2 : w2.cell? ⟨T, 4, none⟩ = some v := (hcR2.cell (by (try simp [go_sem]) <;> (try simp [Xt.add]) <;> omega) (by simp [hTR]) 4).trans (by simp [go_sem, cT, lT, dT]); have b2 : w2.heap[T]? = some (.cells #[.int .i64 o.map.c, .int .i64 o.map.w, .slice pa5 n1 pc5, .slice pa9 n2 pc9, v] 44 (0, 0)) := (hcR2.block T (by (try simp [go_sem]) <;> (try simp [Xt.add]) <;> omega) (by simp [hTR])).trans (by repeat (first | with_reducible exact HTb.out | with_reducible apply blk_drew | with_reducible refine blk_set ?_ | (with_reducible refine blk_other ?_ (by first | assumption | omega)) | with_reducible refine blk_ext ?_ | with_reducible refine blk_alloc ?_)); have z2 : w2.frozen? ⟨T, 4, none⟩ = false := (Chg.frozen hcR2 (by (try simp [go_sem]) <;> (try simp [Xt.add]) <;> omega) (by simp [hTR]) 4).trans (by simp [go_sem, zT, lT, dZ]); have B2 := hid b2; have HEl2 := hid (els_step (xs := xs) HEl.out O5.out (by ((try simp only [ext_drew]); (try simp only [ext_ext]); repeat (first | exact Ext.refl _ | with_reducible apply Ext.add | with_reducible apply Ext.dr | apply Ext.alloc | apply Ext.ext | apply Ext.drew | refine Ext.trans ?_ (by assumption)))) (by ((try simp only [ext_drew]); (try simp only [ext_ext]); repeat (first | exact Ext.refl _ | with_reducible apply Ext.add | with_reducible apply Ext.dr | apply Ext.alloc | apply Ext.ext | apply Ext.drew | refine Ext.trans ?_ (by assumption)))) hc2 hat2 HDi.out (fun g hg => (by have := HRl.out g hg; ((try simp [go_sem]) <;> (try simp [Xt.add]) <;> omega))) (by (try simp [go_sem]) <;> (try simp [Xt.add]) <;> omega) (by (try simp [go_sem]) <;> (try simp [Xt.add]) <;> omega)); clear hg2 hc2 b2 hcR2 hat2)
            | (
              with_reducible refine wp_region_NR (R) (by kernel_rfl) (by decide +kernel) (by decide +kernel) rfl rfl ?_
              simp only [List.dropLast_cons_cons, List.dropLast_singleton]
              repeat (first
                | (refine mix_pure rfl ?_; (first | go_big_quiet_skip | (go_big_quiet_want; go_big_quiet_op; go_big_quiet_on)); refine wpQuiet_nil ?_)
                | (refine mix_skip (by rfl) ?_; (try simp only [Act.put, List.setIfInBounds_toArray, List.set_cons_zero, List.set_cons_succ]))
                | (refine mix_mk rfl (by rfl) (fun K hK => ?_); (first | (refine wp_cloneS (cells := icells) (k := 1) (bytes := 8) (z := .int .i64 0) Try.underlying24 (by kernel_rfl) rfl (by decide) (by decide) rfl (fun _ => rfl) (fun _ _ _ _ h => rd_Int h) (fun _ _ h => idat_inj h) ione (fun w x => own_Int_mk w x) _ _ rfl rfl (.inr ⟨_, rfl⟩) xs rfl (HRe.out.of (by ((try simp only [ext_drew]); (try simp only [ext_ext]); repeat (first | exact Ext.refl _ | with_reducible apply Ext.add | with_reducible apply Ext.dr | apply Ext.alloc | apply Ext.ext | apply Ext.drew | refine Ext.trans ?_ (by assumption))))) (by omega) ?_; intro p5 q5 t5 ho; have O5 := hid ho; clear ho) | (refine wp_appRZ_IntS (v := v) (xs := es) X.heap.size _ _ rfl rfl (by (try simp [go_sem]) <;> (try simp [Xt.add]) <;> omega) (by repeat (first | with_reducible apply ownsRow_alloc | exact HG.out | with_reducible apply ownsRow_drew | with_reducible apply ownsRow_ext)) ⟨p5, nx, q5⟩ rfl (alloc_last (by simp [go_sem])) hlen ?_; intro v2 w2 hg2 hc2 hat2; obtain ⟨sa, sn, sc, rfl⟩ := row_slice hg2; have HG2 := hid hg2; have hcR2 := hc2.mono (B' := [R]) (fun b hb => by rw [HRr.out b (by simpa using hb)]; simp); have HC2 := hid hcR2; have l2 : T < w2.heap.size := Nat.lt_of_lt_of_le (by (try simp [go_sem]) <;> (try simp [Xt.add]) <;> omega) hcR2.size; have q2 : w2.cell? ⟨T, 4, none⟩ = some v := (hcR2.cell (by (try simp [go_sem]) <;> (try simp [Xt.add]) <;> omega) (by simp [hTR]) 4).trans (by simp [go_sem, cT, lT, dT]); have b2 : w2.heap[T]? = some (.cells #[.int .i64 o.map.c, .int .i64 o.map.w, .slice pa5 n1 pc5, .slice pa9 n2 pc9, v] 44 (0, 0)) := (hcR2.block T (by (try simp [go_sem]) <;> (try simp [Xt.add]) <;> omega) (by simp [hTR])).trans (by repeat (first | with_reducible exact HTb.out | with_reducible apply blk_drew | with_reducible refine blk_set ?_ | (with_reducible refine blk_other ?_ (by first | assumption | omega)) | with_reducible refine blk_ext ?_ | with_reducible refine blk_alloc ?_)); have z2 : w2.frozen? ⟨T, 4, none⟩ = false := (Chg.frozen hcR2 (by (try simp [go_sem]) <;> (try simp [Xt.add]) <;> omega) (by simp [hTR]) 4).trans (by simp [go_sem, zT, lT, dZ]); have B2 := hid b2; have HEl2 := hid (els_step (xs := xs) HEl.out O5.out (by ((try simp only [ext_drew]); (try simp only [ext_ext]); repeat (first | exact Ext.refl _ | with_reducible apply Ext.add | with_reducible apply Ext.dr | apply Ext.alloc | apply Ext.ext | apply Ext.drew | refine Ext.trans ?_ (by assumption)))) (by ((try simp only [ext_drew]); (try simp only [ext_ext]); repeat (first | exact Ext.refl _ | with_reducible apply Ext.add | with_reducible apply Ext.dr | apply Ext.alloc | apply Ext.ext | apply Ext.drew | refine Ext.trans ?_ (by assumption)))) hc2 hat2 HDi.out (fun g hg => (by have := HRl.out g hg; ((try simp [go_sem]) <;> (try simp [Xt.add]) <;> omega))) (by (try simp [go_sem]) <;> (try simp [Xt.add]) <;> omega) (by (try simp [go_sem]) <;> (try simp [Xt.add]) <;> omega)); clear hg2 hc2 b2 hcR2 hat2) | (go_simp; first | skip)); (show K _ _); refine hK _ _ (extR_of (by repeat (first | with_reducible exact Chg.refl _ _ | with_reducible apply Chg.drew | with_reducible apply Chg.drewl | with_reducible refine Chg.turn (by simp) | with_reducible refine Chg.both ?_ (by simp) | (with_reducible refine Chg.set ?_ (by simp) _) | with_reducible apply Chg.alloc | with_reducible apply Chg.ext | with_reducible refine Chg.trans ?_ (Hid.out (by assumption))))) ?_; clear hK K; (try simp only [Act.put, List.setIfInBounds_toArray, List.set_cons_zero, List.set_cons_succ])))
              refine mixN_nil (fun K hK => ?_)
              go_simp
              (show K _ _)
              refine hK _ _ ?_
              clear hK K
              (try simp only [Act.put, List.setIfInBounds_toArray, List.set_cons_zero, List.set_cons_succ])))
        go_roundw
        case rel =>
          obtain ⟨B', hE', hd'⟩ := HEl2.out
          have hcT : ∀ b ∈ [T], b ∉ B' := fun b hb hm => by
            obtain rfl : b = T := by simpa using hb
            have := hE'.rng _ hm
            omega
          refine ⟨k + 1, .slice sa sn sc, es ++ [⟨p5, nx, q5⟩], B', by omega, by go_num, (by exact blk_set B2.out), ?_, ?_, hd', Chg.set (Chg.up (by repeat (first | with_reducible exact HC.out | with_reducible apply Chg.drew | with_reducible apply Chg.alloc | with_reducible apply Chg.ext)) HC2.out (by simp; omega)) (by simp) _⟩
          · exact ownsRow_chg HG2.out ((Chg.refl [T] w2).set (by simp) _) (by simp; omega)
          · rw [HEk.out]
            exact hE'.chg ((Chg.refl [T] w2).set (by simp) _) hcT
        case measure => simp [intOf]; omega
      · obtain ⟨sa, sn, sc, rfl⟩ := row_slice HG.out
        have HTk := hid (show o.air.take k = o.air from List.take_of_length_le (by rw [HN3.out]; omega))
        have HE3 := hid (HTk.out ▸ HEl.out)
        obtain ⟨hO, hn⟩ := one_three HN1.out HN2.out HQ1.out HQ2.out HD12.out HL1.out HL2.out HC.out HT1.out HT2.out (by omega) HE3.out HG.out HDi.out
        have HO := hid hO
        have HNn := hid hn
        clear hO hn
        try go_wp2_with (first
            | fail
            | (
              with_reducible refine wp_region_mix (by kernel_rfl) (by decide +kernel) ?_
              repeat (first
                | (refine mix_pure rfl ?_; (first | go_big_quiet_skip | (go_big_quiet_want; go_big_quiet_op; go_big_quiet_on)); refine wpQuiet_nil ?_)
                | (refine mix_skip (by rfl) ?_; (try simp only [Act.put, List.setIfInBounds_toArray, List.set_cons_zero, List.set_cons_succ]))
                | (refine mix_mk rfl (by rfl) (fun K hK => ?_); (first | (go_simp; first | skip)); (show K _ _); refine hK _ _ (show Ext _ _ from (by ((try simp only [ext_drew]); (try simp only [ext_ext]); repeat (first | exact Ext.refl _ | with_reducible apply Ext.add | with_reducible apply Ext.dr | apply Ext.alloc | apply Ext.ext | apply Ext.drew | refine Ext.trans ?_ (by assumption))))) ?_; clear hK K; (try simp only [Act.put, List.setIfInBounds_toArray, List.set_cons_zero, List.set_cons_succ])))
              refine mix_nil ?_)
            | (
              with_reducible refine wp_region_ext (by kernel_rfl) (by kernel_rfl) ?_
              repeat (first | go_big_quiet_skip | (go_big_quiet_want; go_big_quiet_op; first | go_big_quiet_on | (apply Exists.intro; refine ⟨fun _ => ?_, ?_⟩; (fail); (try rw [h1]); (try rw [h2]); (try rw [h3]); (try rw [h4]); (try rw [p1]); (try rw [p2]); (try rw [p3]); (try rw [p4]); (try rw [r1]); (try rw [r2]); (try rw [r3]); (try rw [r4]); (try rw [r5]); (try rw [r6]); (try rw [q3]); (try rw [q4]); (try rw [hp]); (try rw [hq]); go_big_quiet_on)))
              refine wpQuiet_nil ?_
              rintro _ ⟨tq, rfl⟩))
        refine bodyPost_ret (v := .agg #[.int .i64 o.map.c, .int .i64 o.map.w, .slice pa5 n1 pc5, .slice pa9 n2 pc9, .slice sa sn sc]) (by simp [results, Try.results40, go_sem, cT0, cT1, cT2, cT3, cT, cR0, cR1, cR2, cR3, cR4, lR, lT]) rfl ?_
        refine ⟨⟨pa5, pc5, pa9, pc9, sa, sc⟩, by rw [HN1.out, HN2.out, HNn.out], ?_⟩
        exact fin_same (w := w) (Ext.of_below HBl.out) HO.out (R := w.heap.size + 1) (by omega) (by omega) (by repeat (first | with_reducible exact Chg.refl _ _ | with_reducible apply Chg.drew | with_reducible apply Chg.drewl | with_reducible refine Chg.turn (by simp) | with_reducible refine Chg.both ?_ (by simp) | (with_reducible refine Chg.set ?_ (by simp) _) | with_reducible apply Chg.alloc | with_reducible apply Chg.ext))
end Go.Proofs.Ytcfbfpgcfnpdgaa
