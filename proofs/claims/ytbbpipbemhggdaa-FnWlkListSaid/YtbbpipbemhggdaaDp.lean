/- DrawWlkPut, DrawCllNew: walkers in a list are drawn, and a walker, or a map and a cell. -/
import Derived.Test.YtbbpipbemhggdaaDl
import Derived.Test.YtbbpipbemhggdaaDrawP
namespace Go.Proofs.Ytbbpipbemhggdaa
open Go.RowKit
set_option linter.unusedSimpArgs false
set_option linter.unusedVariables false

/-- A result's block for a walker, and a block that holds a map. -/
def WJ (M : Nat) (m : Mp) (R : Nat) (w : World) : Prop := WlkB R w ∧ w.heap[M]? = some (.cells #[.int .i64 m.c, .int .i64 m.w] 24 (0, 0))
theorem WJ.chg {M R : Nat} {m : Mp} {w w' : World} {B : List Nat} (h : WJ M m R w) (hc : Chg B w w') (hR : R ∉ B ∧ M ∉ B) : WJ M m R w' := ⟨h.1.chg hc hR.1, (hc.block M (lt_blk h.2) hR.2).trans h.2⟩
theorem WJ.of {M R : Nat} {m : Mp} {w w' : World} (h : WJ M m R w) (hE : Ext w w') : WJ M m R w' := h.chg (Chg.of_ext hE []) (by simp)
theorem WJ.drw {M R : Nat} {m : Mp} {w : World} (h : WJ M m R w) : WJ M m R w.drew := h
/-- A list that was drawn. -/
def LsC (b0 : Nat) (v : Value) (w : World) : Prop := ∃ u : Value, v = u ∧ ∃ xs, LstW b0 w u xs ∧ xs.length ≤ 6
theorem LsC.chg {b0 : Nat} {v : Value} {w w' : World} {B' : List Nat} (h : LsC b0 v w) (hc : Chg B' w w') (hB' : ∀ b ∈ B', b < b0) : LsC b0 v w' := by
  obtain ⟨u, h1, xs, h2, h3⟩ := h
  exact ⟨u, h1, xs, h2.chg hc hB', h3⟩
set_option maxRecDepth 100000 in
set_option maxHeartbeats 8000000 in
theorem DrawWlkPut_c (n c : Nat) (a : Option Addr) (w : World) (hB : Bytes w.heap.size w a n) (hc : n ≤ c) :
    Calls Try.prog 35 #[.slice a n c] w fun e w' => ∃ (v : Value) (xs : List Wlk) (y : Wlk), e = .returned (.tuple #[v, .agg #[.int .i64 y.id, .int .i64 y.at_, .int .i64 y.coins, .int .i64 y.seq, .int .i64 y.last]]) ∧ LstW w.heap.size w' v xs ∧ xs.length ≤ 6 ∧ WlkIn y ∧ Ext w w' := by
  have HB := hid hB
  clear hB
  go_enter Try.func35, Try.ntmps35
  try go_wp2_with (first
      | (go_at_call 54; refine (l20Open_c w.heap.size n c a _ (HB.out.chg (B := []) (Chg.of_ext (by ((try simp only [ext_drew]); (try simp only [ext_ext]); repeat (first | exact Ext.refl _ | with_reducible apply Ext.add | with_reducible apply Ext.dr | apply Ext.alloc | apply Ext.ext | apply Ext.drew | refine Ext.trans ?_ (by assumption)))) []) (by simp) (Nat.le_refl _)) (by (try simp [go_sem]) <;> (try simp [Xt.add]) <;> omega) hc).mono ?_; rintro e w1 ⟨rfl, hR, hE⟩; have HR := hid hR; have HE := hid hE; clear hR hE)
      | (
        with_reducible refine wp_region_mix (by kernel_rfl) (by decide +kernel) ?_
        repeat (first
          | (refine mix_pure rfl ?_; (first | go_big_quiet_skip | (go_big_quiet_want; go_big_quiet_op; go_big_quiet_on)); refine wpQuiet_nil ?_)
          | (refine mix_skip (by rfl) ?_; (try simp only [Act.put, List.setIfInBounds_toArray, List.set_cons_zero, List.set_cons_succ]))
          | (refine mix_mk rfl (by rfl) (fun K hK => ?_); (first | (go_simp; first | (go_at_call 54; refine (l20Open_c w.heap.size n c a _ (HB.out.chg (B := []) (Chg.of_ext (by ((try simp only [ext_drew]); (try simp only [ext_ext]); repeat (first | exact Ext.refl _ | with_reducible apply Ext.add | with_reducible apply Ext.dr | apply Ext.alloc | apply Ext.ext | apply Ext.drew | refine Ext.trans ?_ (by assumption)))) []) (by simp) (Nat.le_refl _)) (by (try simp [go_sem]) <;> (try simp [Xt.add]) <;> omega) hc).mono ?_; rintro e w1 ⟨rfl, hR, hE⟩; have HR := hid hR; have HE := hid hE; clear hR hE) | skip)); (show K _ _); refine hK _ _ (show Ext _ _ from (by ((try simp only [ext_drew]); (try simp only [ext_ext]); repeat (first | exact Ext.refl _ | with_reducible apply Ext.add | with_reducible apply Ext.dr | apply Ext.alloc | apply Ext.ext | apply Ext.drew | refine Ext.trans ?_ (by assumption))))) ?_; clear hK K; (try simp only [Act.put, List.setIfInBounds_toArray, List.set_cons_zero, List.set_cons_succ])))
        refine mix_nil ?_)
      | (
        with_reducible refine wp_region_ext (by kernel_rfl) (by kernel_rfl) ?_
        repeat (first | go_big_quiet_skip | (go_big_quiet_want; go_big_quiet_op; first | go_big_quiet_on | (apply Exists.intro; refine ⟨fun _ => ?_, ?_⟩; (fail); (try rw [h1]); (try rw [h2]); (try rw [h3]); (try rw [h4]); (try rw [p1]); (try rw [p2]); (try rw [p3]); (try rw [p4]); (try rw [r1]); (try rw [r2]); (try rw [r3]); (try rw [r4]); (try rw [r5]); (try rw [r6]); (try rw [q3]); (try rw [q4]); (try rw [hp]); (try rw [hq]); go_big_quiet_on)))
        refine wpQuiet_nil ?_
        rintro _ ⟨tq, rfl⟩))
  refine wp_gen fun V hV => ?_
  obtain ⟨R, hRe⟩ : ∃ R, w.heap.size = R := ⟨_, rfl⟩
  obtain ⟨p, hp⟩ : ∃ p, w.heap.size + 1 = p := ⟨_, rfl⟩
  obtain ⟨M, hM⟩ : ∃ M, w1.heap.size = M := ⟨_, rfl⟩
  have hR1 := HR.out
  have hE1 := HE.out
  have e1 : (w.alloc (Obj.cells #[.int .i64 0, .int .i64 0, .int .i64 0, .int .i64 0, .int .i64 0] 52)).heap.size = p := by rw [← hp]; simp
  rw [e1, hRe] at hR1
  have bR1 : w1.heap[R]? = some (.cells #[.int .i64 0, .int .i64 0, .int .i64 0, .int .i64 0, .int .i64 0] 52 (0, 0)) := (hE1.block (by rw [e1]; omega)).trans (alloc_last hRe.symm)
  have lp1 := hR1.lt
  have lR1 := lt_blk bR1
  have EV : Ext w1 V := by rw [hV]; ((try simp only [ext_drew]); (try simp only [ext_ext]); repeat (first | exact Ext.refl _ | with_reducible apply Ext.add | with_reducible apply Ext.dr | apply Ext.alloc | apply Ext.ext | apply Ext.drew | refine Ext.trans ?_ (by assumption)))
  have bM : V.heap[M]? = some (.cells #[.int .i64 3, .int .i64 3] 24 (0, 0)) := by rw [hV, ← hM]; exact (by repeat (first | exact alloc_last (by (try simp [go_sem]) <;> (try simp [Xt.add]) <;> omega) | with_reducible refine blk_alloc ?_ | with_reducible refine blk_ext ?_ | with_reducible apply blk_drew))
  rw [hp, hRe, hM]
  have HJ := hid (show Rdr R p 0 V ∧ WJ M ⟨3, 3⟩ R V from ⟨hR1.of EV, ⟨⟨0, 0, 0, 0, 0⟩, (EV.block lR1).trans bR1⟩, bM⟩)
  have EW1 := hid ((((Ext.refl w).alloc _).trans hE1).trans EV)
  have hRW : R < V.heap.size := Nat.lt_of_lt_of_le lR1 EV.size
  have hpW : p < V.heap.size := Nat.lt_of_lt_of_le lp1 EV.size
  have hRp : R ≠ p := by omega
  have hMR : M ≠ R := by omega
  have hRM : R ≠ M := by omega
  have hMp : M ≠ p := by omega
  have hwp : w.heap.size ≤ p := by omega
  have hwR : w.heap.size ≤ R := by omega
  have HM0 := hid (show MapIn ⟨3, 3⟩ from ⟨by decide, by decide, by decide, by decide⟩)
  have hWV := EW1.out.size
  clear hV hRe hp hM hR1 hE1 e1 bR1 lp1 lR1 EV bM HR HE
  refine wp_region_flowD [some 9, some 10, some 11, some 12, some 13, some 14, some 2, none] (fun a b => Chg [p, R] a b) (fun i a b => Chg (bif i == 7 then [R] else [p]) a b) (fun k9 w9 => Rdr R p (0 + 106 * k9) w9 ∧ WJ M ⟨3, 3⟩ R w9) (fun i v9 w9 => match i with
    | 0 => v9 = .pointer (some ⟨p, 0, none⟩)
    | 1 => v9 = .agg #[.int .i64 (3), .int .i64 (3)]
    | 2 => LsC V.heap.size (v9) w9
    | 3 => v9 = .pointer (some ⟨p, 0, none⟩)
    | 4 => v9 = .agg #[.int .i64 (3), .int .i64 (3)]
    | 5 => InW (v9)
    | 6 => LsC V.heap.size (v9) w9
    | _ => WlkAt R w9) (by kernel_rfl) (by decide +kernel) (by simp) (fun a => Chg.refl _ a) (fun a b c h k => Chg.trans h k) ?_ (Chg.drew (Chg.refl _ _)) ?_ ?_ ?_ ?_
  · intro i a b hi hG
    refine hG.mono ?_
    cases (i == 7) <;> simp
  · exact ⟨HJ.out.1.of (by ((try simp only [ext_drew]); (try simp only [ext_ext]); repeat (first | exact Ext.refl _ | with_reducible apply Ext.add | with_reducible apply Ext.dr | apply Ext.alloc | apply Ext.ext | apply Ext.drew | refine Ext.trans ?_ (by assumption)))), HJ.out.2.drw⟩
  · intro i j hi hj hij v9 w9 w8 hg hS hG
    have hG2 : Chg [p, R] w9 w8 := hG.mono (by cases (i == 7) <;> simp)
    have hj9 : j < 8 := hj
    clear hi hj
    match j, hj9 with
    | 0, _ => exact hS
    | 1, _ => exact hS
    | 2, _ => exact LsC.chg hS hG2 (by simp; omega)
    | 3, _ => exact hS
    | 4, _ => exact hS
    | 5, _ => exact hS
    | 6, _ => exact LsC.chg hS hG2 (by simp; omega)
    | 7, _ =>
      have h9 : (i == 7) = false := by simpa using hij
      rw [h9, cond_false] at hG
      exact hS.chg hG (by simpa using hRp)
    | n + 8, h9 => exact absurd h9 (by omega)
  · intro i oo ho σ k9 w9 hG hk9 hJ hd
    have HG := hid hG
    have HJ9 := hid hJ
    have lp9 : p < w9.heap.size := Nat.lt_of_lt_of_le hpW hG.size
    have lR9 : R < w9.heap.size := Nat.lt_of_lt_of_le hRW hG.size
    have hW9 := hG.size
    have hkN : k9 < 8 := hk9
    have hi9 : i < 8 := (List.getElem?_eq_some_iff.1 ho).1
    clear hG hJ hk9
    match i, hi9, ho with
    | 0, _, ho =>
      obtain rfl := Option.some.inj ho
      clear hd ho
      simp only [actO, putO, List.setIfInBounds_toArray, List.set_cons_zero, List.set_cons_succ, Nat.reduceAdd]
      refine flow_K (fun K hK => ?_)
      go_simp
      (show K _ _)
      refine hK _ _ ⟨_, rfl, by simp, Chg.of_ext (show Ext _ _ from (by ((try simp only [ext_drew]); (try simp only [ext_ext]); repeat (first | exact Ext.refl _ | with_reducible apply Ext.add | with_reducible apply Ext.dr | apply Ext.alloc | apply Ext.ext | apply Ext.drew | refine Ext.trans ?_ (by assumption))))) _, ⟨(HJ9.out.1.of (show Ext _ _ from (by ((try simp only [ext_drew]); (try simp only [ext_ext]); repeat (first | exact Ext.refl _ | with_reducible apply Ext.add | with_reducible apply Ext.dr | apply Ext.alloc | apply Ext.ext | apply Ext.drew | refine Ext.trans ?_ (by assumption)))))).up (by omega), HJ9.out.2.of (show Ext _ _ from (by ((try simp only [ext_drew]); (try simp only [ext_ext]); repeat (first | exact Ext.refl _ | with_reducible apply Ext.add | with_reducible apply Ext.dr | apply Ext.alloc | apply Ext.ext | apply Ext.drew | refine Ext.trans ?_ (by assumption)))))⟩, rfl⟩
    | 1, _, ho =>
      have cM0 := (cell_blk HJ9.out.2.2 0).trans (show _ = some (Value.int .i64 3) from rfl)
      have zM0 := frozen_blk HJ9.out.2.2 0
      have cM1 := (cell_blk HJ9.out.2.2 1).trans (show _ = some (Value.int .i64 3) from rfl)
      have zM1 := frozen_blk HJ9.out.2.2 1
      have lM9 := lt_blk HJ9.out.2.2
      obtain rfl := Option.some.inj ho
      clear hd ho
      simp only [actO, putO, List.setIfInBounds_toArray, List.set_cons_zero, List.set_cons_succ, Nat.reduceAdd]
      refine flow_K (fun K hK => ?_)
      go_simp
      (show K _ _)
      refine hK _ _ ⟨_, rfl, by simp, Chg.of_ext (show Ext _ _ from (by ((try simp only [ext_drew]); (try simp only [ext_ext]); repeat (first | exact Ext.refl _ | with_reducible apply Ext.add | with_reducible apply Ext.dr | apply Ext.alloc | apply Ext.ext | apply Ext.drew | refine Ext.trans ?_ (by assumption))))) _, ⟨(HJ9.out.1.of (show Ext _ _ from (by ((try simp only [ext_drew]); (try simp only [ext_ext]); repeat (first | exact Ext.refl _ | with_reducible apply Ext.add | with_reducible apply Ext.dr | apply Ext.alloc | apply Ext.ext | apply Ext.drew | refine Ext.trans ?_ (by assumption)))))).up (by omega), HJ9.out.2.of (show Ext _ _ from (by ((try simp only [ext_drew]); (try simp only [ext_ext]); repeat (first | exact Ext.refl _ | with_reducible apply Ext.add | with_reducible apply Ext.dr | apply Ext.alloc | apply Ext.ext | apply Ext.drew | refine Ext.trans ?_ (by assumption)))))⟩, rfl⟩
    | 2, _, ho =>
      have e0 : σ 0 = .pointer (some ⟨p, 0, none⟩) := hd 0 (by obtain rfl := Option.some.inj ho; kernel_rfl)
      have e1 : σ 1 = .agg #[.int .i64 (3), .int .i64 (3)] := hd 1 (by obtain rfl := Option.some.inj ho; kernel_rfl)
      obtain rfl := Option.some.inj ho
      clear hd ho
      simp only [actO, putO, List.setIfInBounds_toArray, List.set_cons_zero, List.set_cons_succ, Nat.reduceAdd, e0, e1]
      refine flow_K (fun K hK => ?_)
      have HRd := hid HJ9.out.1
      go_simp
      refine (l20List_c R p _ ⟨3, 3⟩ 6 w9 HRd.out (by omega) HM0.out (by omega) (by omega)).mono ?_
      rintro e w8 ⟨vv, xs, rfl, hls, hln, hR8, hC8⟩
      (show K _ _)
      refine hK _ _ ⟨_, rfl, by simp, hC8, ⟨hR8.up (by omega), HJ9.out.2.chg hC8 (by simp; omega)⟩, ⟨vv, rfl, xs, hls.le hW9, hln⟩⟩
    | 3, _, ho =>
      obtain rfl := Option.some.inj ho
      clear hd ho
      simp only [actO, putO, List.setIfInBounds_toArray, List.set_cons_zero, List.set_cons_succ, Nat.reduceAdd]
      refine flow_K (fun K hK => ?_)
      go_simp
      (show K _ _)
      refine hK _ _ ⟨_, rfl, by simp, Chg.of_ext (show Ext _ _ from (by ((try simp only [ext_drew]); (try simp only [ext_ext]); repeat (first | exact Ext.refl _ | with_reducible apply Ext.add | with_reducible apply Ext.dr | apply Ext.alloc | apply Ext.ext | apply Ext.drew | refine Ext.trans ?_ (by assumption))))) _, ⟨(HJ9.out.1.of (show Ext _ _ from (by ((try simp only [ext_drew]); (try simp only [ext_ext]); repeat (first | exact Ext.refl _ | with_reducible apply Ext.add | with_reducible apply Ext.dr | apply Ext.alloc | apply Ext.ext | apply Ext.drew | refine Ext.trans ?_ (by assumption)))))).up (by omega), HJ9.out.2.of (show Ext _ _ from (by ((try simp only [ext_drew]); (try simp only [ext_ext]); repeat (first | exact Ext.refl _ | with_reducible apply Ext.add | with_reducible apply Ext.dr | apply Ext.alloc | apply Ext.ext | apply Ext.drew | refine Ext.trans ?_ (by assumption)))))⟩, rfl⟩
    | 4, _, ho =>
      have cM0 := (cell_blk HJ9.out.2.2 0).trans (show _ = some (Value.int .i64 3) from rfl)
      have zM0 := frozen_blk HJ9.out.2.2 0
      have cM1 := (cell_blk HJ9.out.2.2 1).trans (show _ = some (Value.int .i64 3) from rfl)
      have zM1 := frozen_blk HJ9.out.2.2 1
      have lM9 := lt_blk HJ9.out.2.2
      obtain rfl := Option.some.inj ho
      clear hd ho
      simp only [actO, putO, List.setIfInBounds_toArray, List.set_cons_zero, List.set_cons_succ, Nat.reduceAdd]
      refine flow_K (fun K hK => ?_)
      go_simp
      (show K _ _)
      refine hK _ _ ⟨_, rfl, by simp, Chg.of_ext (show Ext _ _ from (by ((try simp only [ext_drew]); (try simp only [ext_ext]); repeat (first | exact Ext.refl _ | with_reducible apply Ext.add | with_reducible apply Ext.dr | apply Ext.alloc | apply Ext.ext | apply Ext.drew | refine Ext.trans ?_ (by assumption))))) _, ⟨(HJ9.out.1.of (show Ext _ _ from (by ((try simp only [ext_drew]); (try simp only [ext_ext]); repeat (first | exact Ext.refl _ | with_reducible apply Ext.add | with_reducible apply Ext.dr | apply Ext.alloc | apply Ext.ext | apply Ext.drew | refine Ext.trans ?_ (by assumption)))))).up (by omega), HJ9.out.2.of (show Ext _ _ from (by ((try simp only [ext_drew]); (try simp only [ext_ext]); repeat (first | exact Ext.refl _ | with_reducible apply Ext.add | with_reducible apply Ext.dr | apply Ext.alloc | apply Ext.ext | apply Ext.drew | refine Ext.trans ?_ (by assumption)))))⟩, rfl⟩
    | 5, _, ho =>
      have e3 : σ 3 = .pointer (some ⟨p, 0, none⟩) := hd 3 (by obtain rfl := Option.some.inj ho; kernel_rfl)
      have e4 : σ 4 = .agg #[.int .i64 (3), .int .i64 (3)] := hd 4 (by obtain rfl := Option.some.inj ho; kernel_rfl)
      obtain rfl := Option.some.inj ho
      clear hd ho
      simp only [actO, putO, List.setIfInBounds_toArray, List.set_cons_zero, List.set_cons_succ, Nat.reduceAdd, e3, e4]
      refine flow_K (fun K hK => ?_)
      have HRd := hid HJ9.out.1
      go_simp
      refine (l20Any_c R p _ ⟨3, 3⟩ 8 w9 HRd.out (by omega) HM0.out (by omega) (by omega)).mono ?_
      rintro e w8 ⟨vv, rfl, hy, hR8, hC8⟩
      (show K _ _)
      refine hK _ _ ⟨_, rfl, by simp, hC8, ⟨hR8.up (by omega), HJ9.out.2.chg hC8 (by simp; omega)⟩, ⟨vv, rfl, hy⟩⟩
    | 6, _, ho =>
      obtain ⟨x2, e2, h2⟩ : LsC V.heap.size (σ 2) _ := hd 2 (by obtain rfl := Option.some.inj ho; kernel_rfl)
      obtain rfl := Option.some.inj ho
      clear hd ho
      simp only [actO, putO, List.setIfInBounds_toArray, List.set_cons_zero, List.set_cons_succ, Nat.reduceAdd, e2]
      refine flow_K (fun K hK => ?_)
      go_simp
      (show K _ _)
      refine hK _ _ ⟨_, rfl, by simp, Chg.of_ext (show Ext _ _ from (by ((try simp only [ext_drew]); (try simp only [ext_ext]); repeat (first | exact Ext.refl _ | with_reducible apply Ext.add | with_reducible apply Ext.dr | apply Ext.alloc | apply Ext.ext | apply Ext.drew | refine Ext.trans ?_ (by assumption))))) _, ⟨(HJ9.out.1.of (show Ext _ _ from (by ((try simp only [ext_drew]); (try simp only [ext_ext]); repeat (first | exact Ext.refl _ | with_reducible apply Ext.add | with_reducible apply Ext.dr | apply Ext.alloc | apply Ext.ext | apply Ext.drew | refine Ext.trans ?_ (by assumption)))))).up (by omega), HJ9.out.2.of (show Ext _ _ from (by ((try simp only [ext_drew]); (try simp only [ext_ext]); repeat (first | exact Ext.refl _ | with_reducible apply Ext.add | with_reducible apply Ext.dr | apply Ext.alloc | apply Ext.ext | apply Ext.drew | refine Ext.trans ?_ (by assumption)))))⟩, ⟨x2, rfl, h2⟩⟩
    | 7, _, ho =>
      obtain ⟨x5, e5, h5⟩ : InW (σ 5) := hd 5 (by obtain rfl := Option.some.inj ho; kernel_rfl)
      obtain ⟨x0, hb0⟩ := HJ9.out.2.1
      obtain rfl := Option.some.inj ho
      clear hd ho
      simp only [actO, putO, List.setIfInBounds_toArray, List.set_cons_zero, List.set_cons_succ, Nat.reduceAdd, e5]
      refine flow_K (fun K hK => ?_)
      have cR0 := (cell_blk hb0 0).trans (show _ = some (Value.int .i64 x0.id) from rfl)
      have zR0 := frozen_blk hb0 0
      have cR1 := (cell_blk hb0 1).trans (show _ = some (Value.int .i64 x0.at_) from rfl)
      have zR1 := frozen_blk hb0 1
      have cR2 := (cell_blk hb0 2).trans (show _ = some (Value.int .i64 x0.coins) from rfl)
      have zR2 := frozen_blk hb0 2
      have cR3 := (cell_blk hb0 3).trans (show _ = some (Value.int .i64 x0.seq) from rfl)
      have zR3 := frozen_blk hb0 3
      have cR4 := (cell_blk hb0 4).trans (show _ = some (Value.int .i64 x0.last) from rfl)
      have zR4 := frozen_blk hb0 4
      have HB0 := hid hb0
      have HB1 := hid (HJ9.out.2.2)
      clear hb0
      go_simp
      (show K _ _)
      refine hK _ _ ⟨undef, rfl, fun _ => rfl, (by repeat (first | with_reducible exact Chg.refl _ _ | with_reducible apply Chg.drew | with_reducible apply Chg.drewl | with_reducible refine Chg.turn (by simp) | with_reducible refine Chg.both ?_ (by simp) | (with_reducible refine Chg.set ?_ (by simp) _) | with_reducible apply Chg.alloc | with_reducible apply Chg.ext)), ⟨(HJ9.out.1.chg (B := [R]) (by repeat (first | with_reducible exact Chg.refl _ _ | with_reducible apply Chg.drew | with_reducible apply Chg.drewl | with_reducible refine Chg.turn (by simp) | with_reducible refine Chg.both ?_ (by simp) | (with_reducible refine Chg.set ?_ (by simp) _) | with_reducible apply Chg.alloc | with_reducible apply Chg.ext)) (by simp; omega) (Nat.le_refl _)).up (by omega), ⟨⟨x5, wlk_store HB0.out⟩, (by repeat (first | with_reducible exact HB1.out | with_reducible apply blk_drew | with_reducible refine blk_set ?_ | (with_reducible refine blk_other ?_ (by first | assumption | omega)) | with_reducible refine blk_ext ?_ | with_reducible refine blk_alloc ?_))⟩⟩, ⟨x5, wlk_store HB0.out, h5⟩⟩
  · intro σ w9 hG hJ hd
    have e0 : σ 0 = .pointer (some ⟨p, 0, none⟩) := hd 0 (by decide)
    have e1 : σ 1 = .agg #[.int .i64 (3), .int .i64 (3)] := hd 1 (by decide)
    obtain ⟨x2, e2, h2⟩ : LsC V.heap.size (σ 2) _ := hd 2 (by decide)
    have e3 : σ 3 = .pointer (some ⟨p, 0, none⟩) := hd 3 (by decide)
    have e4 : σ 4 = .agg #[.int .i64 (3), .int .i64 (3)] := hd 4 (by decide)
    obtain ⟨x5, e5, h5⟩ : InW (σ 5) := hd 5 (by decide)
    obtain ⟨x6, e6, h6⟩ : LsC V.heap.size (σ 6) _ := hd 6 (by decide)
    have hs7 : WlkAt R _ := hd 7 (by decide)
    have HG := hid hG
    have HJ9 := hid hJ
    clear hd hG hJ
    simp only [actO, putO, List.setIfInBounds_toArray, List.set_cons_zero, List.set_cons_succ, Nat.reduceAdd, e0, e1, e2, e3, e4, e5, e6]
    clear e0 e1 e2 e3 e4 e5 e6
    obtain ⟨x, hb, hx⟩ := hs7
    obtain ⟨xs, hls, hln⟩ := h6
    have c0 := (cell_blk hb 0).trans (show _ = some (Value.int .i64 x.id) from rfl)
    have c1 := (cell_blk hb 1).trans (show _ = some (Value.int .i64 x.at_) from rfl)
    have c2 := (cell_blk hb 2).trans (show _ = some (Value.int .i64 x.coins) from rfl)
    have c3 := (cell_blk hb 3).trans (show _ = some (Value.int .i64 x.seq) from rfl)
    have c4 := (cell_blk hb 4).trans (show _ = some (Value.int .i64 x.last) from rfl)
    have lR := lt_blk hb
    have HLS := hid hls
    clear hb hls
    go_wp2_with (fail)
    refine bodyPost_ret (v := .tuple #[x6, .agg #[.int .i64 x.id, .int .i64 x.at_, .int .i64 x.coins, .int .i64 x.seq, .int .i64 x.last]]) (by simp [results, Try.results35, go_sem, c0, c1, c2, c3, c4, lR]) rfl ?_
    exact ⟨x6, xs, x, rfl, HLS.out.le (by omega), hln, hx, EW1.out.chg2 HG.out (by omega) (by omega)⟩
set_option maxRecDepth 100000 in
set_option maxHeartbeats 8000000 in
theorem DrawCllNew_c (n c : Nat) (a : Option Addr) (w : World) (hB : Bytes w.heap.size w a n) (hc : n ≤ c) :
    Calls Try.prog 41 #[.slice a n c] w fun e w' => ∃ (m : Mp) (k : Int) (v : Value) (xs : List Wlk), e = .returned (.tuple #[.agg #[.int .i64 m.c, .int .i64 m.w], .int .i64 k, v]) ∧ MapIn m ∧ (-1 ≤ k ∧ k ≤ 4) ∧ LstW w.heap.size w' v xs ∧ xs.length ≤ 6 ∧ Ext w w' := by
  have HB := hid hB
  clear hB
  go_enter Try.func41, Try.ntmps41
  try go_wp2_with (first
      | (go_at_call 54; refine (l20Open_c w.heap.size n c a _ (HB.out.chg (B := []) (Chg.of_ext (by ((try simp only [ext_drew]); (try simp only [ext_ext]); repeat (first | exact Ext.refl _ | with_reducible apply Ext.add | with_reducible apply Ext.dr | apply Ext.alloc | apply Ext.ext | apply Ext.drew | refine Ext.trans ?_ (by assumption)))) []) (by simp) (Nat.le_refl _)) (by (try simp [go_sem]) <;> (try simp [Xt.add]) <;> omega) hc).mono ?_; rintro e w1 ⟨rfl, hR, hE⟩; have HR := hid hR; have HE := hid hE; clear hR hE)
      | (
        with_reducible refine wp_region_mix (by kernel_rfl) (by decide +kernel) ?_
        repeat (first
          | (refine mix_pure rfl ?_; (first | go_big_quiet_skip | (go_big_quiet_want; go_big_quiet_op; go_big_quiet_on)); refine wpQuiet_nil ?_)
          | (refine mix_skip (by rfl) ?_; (try simp only [Act.put, List.setIfInBounds_toArray, List.set_cons_zero, List.set_cons_succ]))
          | (refine mix_mk rfl (by rfl) (fun K hK => ?_); (first | (go_simp; first | (go_at_call 54; refine (l20Open_c w.heap.size n c a _ (HB.out.chg (B := []) (Chg.of_ext (by ((try simp only [ext_drew]); (try simp only [ext_ext]); repeat (first | exact Ext.refl _ | with_reducible apply Ext.add | with_reducible apply Ext.dr | apply Ext.alloc | apply Ext.ext | apply Ext.drew | refine Ext.trans ?_ (by assumption)))) []) (by simp) (Nat.le_refl _)) (by (try simp [go_sem]) <;> (try simp [Xt.add]) <;> omega) hc).mono ?_; rintro e w1 ⟨rfl, hR, hE⟩; have HR := hid hR; have HE := hid hE; clear hR hE) | skip)); (show K _ _); refine hK _ _ (show Ext _ _ from (by ((try simp only [ext_drew]); (try simp only [ext_ext]); repeat (first | exact Ext.refl _ | with_reducible apply Ext.add | with_reducible apply Ext.dr | apply Ext.alloc | apply Ext.ext | apply Ext.drew | refine Ext.trans ?_ (by assumption))))) ?_; clear hK K; (try simp only [Act.put, List.setIfInBounds_toArray, List.set_cons_zero, List.set_cons_succ])))
        refine mix_nil ?_)
      | (
        with_reducible refine wp_region_ext (by kernel_rfl) (by kernel_rfl) ?_
        repeat (first | go_big_quiet_skip | (go_big_quiet_want; go_big_quiet_op; first | go_big_quiet_on | (apply Exists.intro; refine ⟨fun _ => ?_, ?_⟩; (fail); (try rw [h1]); (try rw [h2]); (try rw [h3]); (try rw [h4]); (try rw [p1]); (try rw [p2]); (try rw [p3]); (try rw [p4]); (try rw [r1]); (try rw [r2]); (try rw [r3]); (try rw [r4]); (try rw [r5]); (try rw [r6]); (try rw [q3]); (try rw [q4]); (try rw [hp]); (try rw [hq]); go_big_quiet_on)))
        refine wpQuiet_nil ?_
        rintro _ ⟨tq, rfl⟩))
  obtain ⟨p, hp⟩ : ∃ p, (w.alloc (Obj.cells #[.int .i64 0, .int .i64 0] 24)).heap.size = p := ⟨_, rfl⟩
  have hp1 : p = w.heap.size + 1 := by rw [← hp]; simp
  have hR0 := HR.out
  rw [hp] at hR0
  have bR0 : w1.heap[w.heap.size]? = some (.cells #[.int .i64 0, .int .i64 0] 24 (0, 0)) := (HE.out.block (by simp)).trans (alloc_last (by simp))
  have hpW : p < w1.heap.size := hR0.lt
  have EW1 := hid (show Ext w w1 from ((Ext.refl w).alloc _).trans HE.out)
  rw [← hp1]
  obtain ⟨R, hRe⟩ : ∃ R, w.heap.size = R := ⟨_, rfl⟩
  have HJ := hid (show Rdr w.heap.size p 0 w1 ∧ MpB R w1 from ⟨hR0, ⟨0, 0⟩, hRe ▸ bR0⟩)
  have hRW : R < w1.heap.size := hRe ▸ lt_blk bR0
  have hRp : R ≠ p := by omega
  have hloR : w.heap.size ≤ R := by omega
  have hwp : w.heap.size ≤ p := by omega
  have hwR : w.heap.size ≤ R := by omega
  rw [hRe]
  rw [hRe] at HJ
  clear HR HE hp hp1 hR0 bR0
  have HR0 := hid HJ.out.1
  refine (l20Map_c R p 0 w1 HR0.out (by omega)).mono ?_
  rintro e w2 ⟨m, rfl, hm, hR2, hC2⟩
  have bR2 : MpB R w2 := HJ.out.2.chg hC2 (by simpa using hRp)
  have hE2 : Ext w w2 := EW1.out.chg2 (R := p) (hC2.mono (by simp)) (by omega) (by omega)
  have HR2 := hid hR2
  have HC2 := hid bR2
  have HE2 := hid hE2
  clear hR2 bR2 hE2 HR0 HJ EW1
  try go_wp2_with (first
      | fail
      | (
        with_reducible refine wp_region_mix (by kernel_rfl) (by decide +kernel) ?_
        repeat (first
          | (refine mix_pure rfl ?_; (first | go_big_quiet_skip | (go_big_quiet_want; go_big_quiet_op; go_big_quiet_on)); refine wpQuiet_nil ?_)
          | (refine mix_skip (by rfl) ?_; (try simp only [Act.put, List.setIfInBounds_toArray, List.set_cons_zero, List.set_cons_succ]))
          | (refine mix_mk rfl (by rfl) (fun K hK => ?_); (first | (go_simp; first | skip)); (show K _ _); refine hK _ _ (show Ext _ _ from (by ((try simp only [ext_drew]); (try simp only [ext_ext]); repeat (first | exact Ext.refl _ | with_reducible apply Ext.add | with_reducible apply Ext.dr | apply Ext.alloc | apply Ext.ext | apply Ext.drew | refine Ext.trans ?_ (by assumption))))) ?_; clear hK K; (try simp only [Act.put, List.setIfInBounds_toArray, List.set_cons_zero, List.set_cons_succ])))
        refine mix_nil ?_)
      | (
        with_reducible refine wp_region_ext (by kernel_rfl) (by kernel_rfl) ?_
        repeat (first | go_big_quiet_skip | (go_big_quiet_want; go_big_quiet_op; first | go_big_quiet_on | (apply Exists.intro; refine ⟨fun _ => ?_, ?_⟩; (fail); (try rw [h1]); (try rw [h2]); (try rw [h3]); (try rw [h4]); (try rw [p1]); (try rw [p2]); (try rw [p3]); (try rw [p4]); (try rw [r1]); (try rw [r2]); (try rw [r3]); (try rw [r4]); (try rw [r5]); (try rw [r6]); (try rw [q3]); (try rw [q4]); (try rw [hp]); (try rw [hq]); go_big_quiet_on)))
        refine wpQuiet_nil ?_
        rintro _ ⟨tq, rfl⟩))
  refine wp_gen fun V hV => ?_
  obtain ⟨M, hM⟩ : ∃ M, w2.heap.size = M := ⟨_, rfl⟩
  rw [hM]
  have bM : V.heap[M]? = some (.cells #[.int .i64 m.c, .int .i64 m.w] 24 (0, 0)) := by rw [hV, ← hM]; exact alloc_last rfl
  have EV : Ext w2 V := by rw [hV]; ((try simp only [ext_drew]); (try simp only [ext_ext]); repeat (first | exact Ext.refl _ | with_reducible apply Ext.add | with_reducible apply Ext.dr | apply Ext.alloc | apply Ext.ext | apply Ext.drew | refine Ext.trans ?_ (by assumption)))
  have EW1 := hid (HE2.out.trans EV)
  have HJ := hid (show Rdr R p 4 V ∧ MJ M m R V from ⟨HR2.out.of EV, HC2.out.of EV, bM⟩)
  have lp2 := HR2.out.lt
  have lR2 : R < w2.heap.size := by obtain ⟨_, hb⟩ := HC2.out; exact lt_blk hb
  have lM : M < V.heap.size := lt_blk bM
  have hMR : M ≠ R := by omega
  have hRM : R ≠ M := by omega
  have hMp : M ≠ p := by omega
  have hRW : R < V.heap.size := by omega
  have hpW : p < V.heap.size := by omega
  have HM0 := hid hm
  have hWV := EW1.out.size
  clear hV bM EV HR2 HC2 HE2 hM hm
  refine wp_region_flowD [some 11, some 12, some 13, some 14, some 15, some 16, some 17, none, some 3, some 4] (fun a b => Chg [p, R] a b) (fun i a b => Chg (bif i == 7 then [R] else [p]) a b) (fun k9 w9 => Rdr R p (4 + 106 * k9) w9 ∧ MJ M m R w9) (fun i v9 w9 => match i with
    | 0 => v9 = .agg #[.int .i64 (m.c), .int .i64 (m.w)]
    | 1 => v9 = .pointer (some ⟨p, 0, none⟩)
    | 2 => InI 0 (5) (v9)
    | 3 => InI (-1) (4) (v9)
    | 4 => v9 = .pointer (some ⟨p, 0, none⟩)
    | 5 => v9 = .agg #[.int .i64 (m.c), .int .i64 (m.w)]
    | 6 => LsC V.heap.size (v9) w9
    | 7 => MpAt R w9
    | 8 => InI (-1) (4) (v9)
    | _ => LsC V.heap.size (v9) w9) (by kernel_rfl) (by decide +kernel) (by simp) (fun a => Chg.refl _ a) (fun a b c h k => Chg.trans h k) ?_ (Chg.drew (Chg.refl _ _)) ?_ ?_ ?_ ?_
  · intro i a b hi hG
    refine hG.mono ?_
    cases (i == 7) <;> simp
  · exact ⟨HJ.out.1.of (by ((try simp only [ext_drew]); (try simp only [ext_ext]); repeat (first | exact Ext.refl _ | with_reducible apply Ext.add | with_reducible apply Ext.dr | apply Ext.alloc | apply Ext.ext | apply Ext.drew | refine Ext.trans ?_ (by assumption)))), HJ.out.2.drw⟩
  · intro i j hi hj hij v9 w9 w8 hg hS hG
    have hG2 : Chg [p, R] w9 w8 := hG.mono (by cases (i == 7) <;> simp)
    have hj9 : j < 10 := hj
    clear hi hj
    match j, hj9 with
    | 0, _ => exact hS
    | 1, _ => exact hS
    | 2, _ => exact hS
    | 3, _ => exact hS
    | 4, _ => exact hS
    | 5, _ => exact hS
    | 6, _ => exact LsC.chg hS hG2 (by simp; omega)
    | 7, _ =>
      have h9 : (i == 7) = false := by simpa using hij
      rw [h9, cond_false] at hG
      exact hS.chg hG (by simpa using hRp)
    | 8, _ => exact hS
    | 9, _ => exact LsC.chg hS hG2 (by simp; omega)
    | n + 10, h9 => exact absurd h9 (by omega)
  · intro i oo ho σ k9 w9 hG hk9 hJ hd
    have HG := hid hG
    have HJ9 := hid hJ
    have lp9 : p < w9.heap.size := Nat.lt_of_lt_of_le hpW hG.size
    have lR9 : R < w9.heap.size := Nat.lt_of_lt_of_le hRW hG.size
    have hW9 := hG.size
    have hkN : k9 < 10 := hk9
    have hi9 : i < 10 := (List.getElem?_eq_some_iff.1 ho).1
    clear hG hJ hk9
    match i, hi9, ho with
    | 0, _, ho =>
      have cM0 := (cell_blk HJ9.out.2.2 0).trans (show _ = some (Value.int .i64 m.c) from rfl)
      have zM0 := frozen_blk HJ9.out.2.2 0
      have cM1 := (cell_blk HJ9.out.2.2 1).trans (show _ = some (Value.int .i64 m.w) from rfl)
      have zM1 := frozen_blk HJ9.out.2.2 1
      have lM9 := lt_blk HJ9.out.2.2
      obtain rfl := Option.some.inj ho
      clear hd ho
      simp only [actO, putO, List.setIfInBounds_toArray, List.set_cons_zero, List.set_cons_succ, Nat.reduceAdd]
      refine flow_K (fun K hK => ?_)
      go_simp
      (show K _ _)
      refine hK _ _ ⟨_, rfl, by simp, Chg.of_ext (show Ext _ _ from (by ((try simp only [ext_drew]); (try simp only [ext_ext]); repeat (first | exact Ext.refl _ | with_reducible apply Ext.add | with_reducible apply Ext.dr | apply Ext.alloc | apply Ext.ext | apply Ext.drew | refine Ext.trans ?_ (by assumption))))) _, ⟨(HJ9.out.1.of (show Ext _ _ from (by ((try simp only [ext_drew]); (try simp only [ext_ext]); repeat (first | exact Ext.refl _ | with_reducible apply Ext.add | with_reducible apply Ext.dr | apply Ext.alloc | apply Ext.ext | apply Ext.drew | refine Ext.trans ?_ (by assumption)))))).up (by omega), HJ9.out.2.of (show Ext _ _ from (by ((try simp only [ext_drew]); (try simp only [ext_ext]); repeat (first | exact Ext.refl _ | with_reducible apply Ext.add | with_reducible apply Ext.dr | apply Ext.alloc | apply Ext.ext | apply Ext.drew | refine Ext.trans ?_ (by assumption)))))⟩, rfl⟩
    | 1, _, ho =>
      obtain rfl := Option.some.inj ho
      clear hd ho
      simp only [actO, putO, List.setIfInBounds_toArray, List.set_cons_zero, List.set_cons_succ, Nat.reduceAdd]
      refine flow_K (fun K hK => ?_)
      go_simp
      (show K _ _)
      refine hK _ _ ⟨_, rfl, by simp, Chg.of_ext (show Ext _ _ from (by ((try simp only [ext_drew]); (try simp only [ext_ext]); repeat (first | exact Ext.refl _ | with_reducible apply Ext.add | with_reducible apply Ext.dr | apply Ext.alloc | apply Ext.ext | apply Ext.drew | refine Ext.trans ?_ (by assumption))))) _, ⟨(HJ9.out.1.of (show Ext _ _ from (by ((try simp only [ext_drew]); (try simp only [ext_ext]); repeat (first | exact Ext.refl _ | with_reducible apply Ext.add | with_reducible apply Ext.dr | apply Ext.alloc | apply Ext.ext | apply Ext.drew | refine Ext.trans ?_ (by assumption)))))).up (by omega), HJ9.out.2.of (show Ext _ _ from (by ((try simp only [ext_drew]); (try simp only [ext_ext]); repeat (first | exact Ext.refl _ | with_reducible apply Ext.add | with_reducible apply Ext.dr | apply Ext.alloc | apply Ext.ext | apply Ext.drew | refine Ext.trans ?_ (by assumption)))))⟩, rfl⟩
    | 2, _, ho =>
      have e1 : σ 1 = .pointer (some ⟨p, 0, none⟩) := hd 1 (by obtain rfl := Option.some.inj ho; kernel_rfl)
      obtain rfl := Option.some.inj ho
      clear hd ho
      simp only [actO, putO, List.setIfInBounds_toArray, List.set_cons_zero, List.set_cons_succ, Nat.reduceAdd, e1]
      refine flow_K (fun K hK => ?_)
      have HRd := hid HJ9.out.1
      go_simp
      refine (pick_c R p _ (6) w9 HRd.out (by omega) (by omega) (by omega)).mono ?_
      rintro e w8 ⟨vv, rfl, hv0, hv1, hR8, hC8⟩
      (show K _ _)
      refine hK _ _ ⟨_, rfl, by simp, hC8, ⟨hR8.up (by omega), HJ9.out.2.chg hC8 (by simp; omega)⟩, ⟨vv, rfl, hv0, by omega⟩⟩
    | 3, _, ho =>
      obtain ⟨x2, e2, y2, z2⟩ : InI 0 (5) (σ 2) := hd 2 (by obtain rfl := Option.some.inj ho; kernel_rfl)
      have hwr : IntKind.i64.wrap (x2 - 1) = x2 - 1 := by simp [IntKind.wrap, IntKind.bits, IntKind.signed]; omega
      obtain rfl := Option.some.inj ho
      clear hd ho
      simp only [actO, putO, List.setIfInBounds_toArray, List.set_cons_zero, List.set_cons_succ, Nat.reduceAdd, e2]
      refine flow_K (fun K hK => ?_)
      go_simp
      (try rw [hwr])
      (show K _ _)
      refine hK _ _ ⟨_, rfl, by simp, Chg.of_ext (show Ext _ _ from (by ((try simp only [ext_drew]); (try simp only [ext_ext]); repeat (first | exact Ext.refl _ | with_reducible apply Ext.add | with_reducible apply Ext.dr | apply Ext.alloc | apply Ext.ext | apply Ext.drew | refine Ext.trans ?_ (by assumption))))) _, ⟨(HJ9.out.1.of (show Ext _ _ from (by ((try simp only [ext_drew]); (try simp only [ext_ext]); repeat (first | exact Ext.refl _ | with_reducible apply Ext.add | with_reducible apply Ext.dr | apply Ext.alloc | apply Ext.ext | apply Ext.drew | refine Ext.trans ?_ (by assumption)))))).up (by omega), HJ9.out.2.of (show Ext _ _ from (by ((try simp only [ext_drew]); (try simp only [ext_ext]); repeat (first | exact Ext.refl _ | with_reducible apply Ext.add | with_reducible apply Ext.dr | apply Ext.alloc | apply Ext.ext | apply Ext.drew | refine Ext.trans ?_ (by assumption)))))⟩, ⟨_, rfl, by omega, by omega⟩⟩
    | 4, _, ho =>
      obtain rfl := Option.some.inj ho
      clear hd ho
      simp only [actO, putO, List.setIfInBounds_toArray, List.set_cons_zero, List.set_cons_succ, Nat.reduceAdd]
      refine flow_K (fun K hK => ?_)
      go_simp
      (show K _ _)
      refine hK _ _ ⟨_, rfl, by simp, Chg.of_ext (show Ext _ _ from (by ((try simp only [ext_drew]); (try simp only [ext_ext]); repeat (first | exact Ext.refl _ | with_reducible apply Ext.add | with_reducible apply Ext.dr | apply Ext.alloc | apply Ext.ext | apply Ext.drew | refine Ext.trans ?_ (by assumption))))) _, ⟨(HJ9.out.1.of (show Ext _ _ from (by ((try simp only [ext_drew]); (try simp only [ext_ext]); repeat (first | exact Ext.refl _ | with_reducible apply Ext.add | with_reducible apply Ext.dr | apply Ext.alloc | apply Ext.ext | apply Ext.drew | refine Ext.trans ?_ (by assumption)))))).up (by omega), HJ9.out.2.of (show Ext _ _ from (by ((try simp only [ext_drew]); (try simp only [ext_ext]); repeat (first | exact Ext.refl _ | with_reducible apply Ext.add | with_reducible apply Ext.dr | apply Ext.alloc | apply Ext.ext | apply Ext.drew | refine Ext.trans ?_ (by assumption)))))⟩, rfl⟩
    | 5, _, ho =>
      have cM0 := (cell_blk HJ9.out.2.2 0).trans (show _ = some (Value.int .i64 m.c) from rfl)
      have zM0 := frozen_blk HJ9.out.2.2 0
      have cM1 := (cell_blk HJ9.out.2.2 1).trans (show _ = some (Value.int .i64 m.w) from rfl)
      have zM1 := frozen_blk HJ9.out.2.2 1
      have lM9 := lt_blk HJ9.out.2.2
      obtain rfl := Option.some.inj ho
      clear hd ho
      simp only [actO, putO, List.setIfInBounds_toArray, List.set_cons_zero, List.set_cons_succ, Nat.reduceAdd]
      refine flow_K (fun K hK => ?_)
      go_simp
      (show K _ _)
      refine hK _ _ ⟨_, rfl, by simp, Chg.of_ext (show Ext _ _ from (by ((try simp only [ext_drew]); (try simp only [ext_ext]); repeat (first | exact Ext.refl _ | with_reducible apply Ext.add | with_reducible apply Ext.dr | apply Ext.alloc | apply Ext.ext | apply Ext.drew | refine Ext.trans ?_ (by assumption))))) _, ⟨(HJ9.out.1.of (show Ext _ _ from (by ((try simp only [ext_drew]); (try simp only [ext_ext]); repeat (first | exact Ext.refl _ | with_reducible apply Ext.add | with_reducible apply Ext.dr | apply Ext.alloc | apply Ext.ext | apply Ext.drew | refine Ext.trans ?_ (by assumption)))))).up (by omega), HJ9.out.2.of (show Ext _ _ from (by ((try simp only [ext_drew]); (try simp only [ext_ext]); repeat (first | exact Ext.refl _ | with_reducible apply Ext.add | with_reducible apply Ext.dr | apply Ext.alloc | apply Ext.ext | apply Ext.drew | refine Ext.trans ?_ (by assumption)))))⟩, rfl⟩
    | 6, _, ho =>
      have e4 : σ 4 = .pointer (some ⟨p, 0, none⟩) := hd 4 (by obtain rfl := Option.some.inj ho; kernel_rfl)
      have e5 : σ 5 = .agg #[.int .i64 (m.c), .int .i64 (m.w)] := hd 5 (by obtain rfl := Option.some.inj ho; kernel_rfl)
      obtain rfl := Option.some.inj ho
      clear hd ho
      simp only [actO, putO, List.setIfInBounds_toArray, List.set_cons_zero, List.set_cons_succ, Nat.reduceAdd, e4, e5]
      refine flow_K (fun K hK => ?_)
      have HRd := hid HJ9.out.1
      go_simp
      refine (l20List_c R p _ m 8 w9 HRd.out (by omega) HM0.out (by omega) (by omega)).mono ?_
      rintro e w8 ⟨vv, xs, rfl, hls, hln, hR8, hC8⟩
      (show K _ _)
      refine hK _ _ ⟨_, rfl, by simp, hC8, ⟨hR8.up (by omega), HJ9.out.2.chg hC8 (by simp; omega)⟩, ⟨vv, rfl, xs, hls.le hW9, hln⟩⟩
    | 7, _, ho =>
      have e0 : σ 0 = .agg #[.int .i64 (m.c), .int .i64 (m.w)] := hd 0 (by obtain rfl := Option.some.inj ho; kernel_rfl)
      obtain ⟨x0, hb0⟩ := HJ9.out.2.1
      obtain rfl := Option.some.inj ho
      clear hd ho
      simp only [actO, putO, List.setIfInBounds_toArray, List.set_cons_zero, List.set_cons_succ, Nat.reduceAdd, e0]
      refine flow_K (fun K hK => ?_)
      have cR0 := (cell_blk hb0 0).trans (show _ = some (Value.int .i64 x0.c) from rfl)
      have zR0 := frozen_blk hb0 0
      have cR1 := (cell_blk hb0 1).trans (show _ = some (Value.int .i64 x0.w) from rfl)
      have zR1 := frozen_blk hb0 1
      have HB0 := hid hb0
      clear hb0
      go_simp
      (show K _ _)
      refine hK _ _ ⟨undef, rfl, fun _ => rfl, (by repeat (first | with_reducible exact Chg.refl _ _ | with_reducible apply Chg.drew | with_reducible apply Chg.drewl | with_reducible refine Chg.turn (by simp) | with_reducible refine Chg.both ?_ (by simp) | (with_reducible refine Chg.set ?_ (by simp) _) | with_reducible apply Chg.alloc | with_reducible apply Chg.ext)), ⟨(HJ9.out.1.chg (B := [R]) (by repeat (first | with_reducible exact Chg.refl _ _ | with_reducible apply Chg.drew | with_reducible apply Chg.drewl | with_reducible refine Chg.turn (by simp) | with_reducible refine Chg.both ?_ (by simp) | (with_reducible refine Chg.set ?_ (by simp) _) | with_reducible apply Chg.alloc | with_reducible apply Chg.ext)) (by simp; omega) (Nat.le_refl _)).up (by omega), ⟨⟨m, mp_store (x := m) HB0.out⟩, blk_other (blk_other HJ9.out.2.2 hMR) hMR⟩⟩, ⟨m, mp_store (x := m) HB0.out, HM0.out⟩⟩
    | 8, _, ho =>
      obtain ⟨x3, e3, y3, z3⟩ : InI (-1) (4) (σ 3) := hd 3 (by obtain rfl := Option.some.inj ho; kernel_rfl)
      obtain rfl := Option.some.inj ho
      clear hd ho
      simp only [actO, putO, List.setIfInBounds_toArray, List.set_cons_zero, List.set_cons_succ, Nat.reduceAdd, e3]
      refine flow_K (fun K hK => ?_)
      go_simp
      (show K _ _)
      refine hK _ _ ⟨_, rfl, by simp, Chg.of_ext (show Ext _ _ from (by ((try simp only [ext_drew]); (try simp only [ext_ext]); repeat (first | exact Ext.refl _ | with_reducible apply Ext.add | with_reducible apply Ext.dr | apply Ext.alloc | apply Ext.ext | apply Ext.drew | refine Ext.trans ?_ (by assumption))))) _, ⟨(HJ9.out.1.of (show Ext _ _ from (by ((try simp only [ext_drew]); (try simp only [ext_ext]); repeat (first | exact Ext.refl _ | with_reducible apply Ext.add | with_reducible apply Ext.dr | apply Ext.alloc | apply Ext.ext | apply Ext.drew | refine Ext.trans ?_ (by assumption)))))).up (by omega), HJ9.out.2.of (show Ext _ _ from (by ((try simp only [ext_drew]); (try simp only [ext_ext]); repeat (first | exact Ext.refl _ | with_reducible apply Ext.add | with_reducible apply Ext.dr | apply Ext.alloc | apply Ext.ext | apply Ext.drew | refine Ext.trans ?_ (by assumption)))))⟩, ⟨_, rfl, by omega, by omega⟩⟩
    | 9, _, ho =>
      obtain ⟨x6, e6, h6⟩ : LsC V.heap.size (σ 6) _ := hd 6 (by obtain rfl := Option.some.inj ho; kernel_rfl)
      obtain rfl := Option.some.inj ho
      clear hd ho
      simp only [actO, putO, List.setIfInBounds_toArray, List.set_cons_zero, List.set_cons_succ, Nat.reduceAdd, e6]
      refine flow_K (fun K hK => ?_)
      go_simp
      (show K _ _)
      refine hK _ _ ⟨_, rfl, by simp, Chg.of_ext (show Ext _ _ from (by ((try simp only [ext_drew]); (try simp only [ext_ext]); repeat (first | exact Ext.refl _ | with_reducible apply Ext.add | with_reducible apply Ext.dr | apply Ext.alloc | apply Ext.ext | apply Ext.drew | refine Ext.trans ?_ (by assumption))))) _, ⟨(HJ9.out.1.of (show Ext _ _ from (by ((try simp only [ext_drew]); (try simp only [ext_ext]); repeat (first | exact Ext.refl _ | with_reducible apply Ext.add | with_reducible apply Ext.dr | apply Ext.alloc | apply Ext.ext | apply Ext.drew | refine Ext.trans ?_ (by assumption)))))).up (by omega), HJ9.out.2.of (show Ext _ _ from (by ((try simp only [ext_drew]); (try simp only [ext_ext]); repeat (first | exact Ext.refl _ | with_reducible apply Ext.add | with_reducible apply Ext.dr | apply Ext.alloc | apply Ext.ext | apply Ext.drew | refine Ext.trans ?_ (by assumption)))))⟩, ⟨x6, rfl, h6⟩⟩
  · intro σ w9 hG hJ hd
    have e0 : σ 0 = .agg #[.int .i64 (m.c), .int .i64 (m.w)] := hd 0 (by decide)
    have e1 : σ 1 = .pointer (some ⟨p, 0, none⟩) := hd 1 (by decide)
    obtain ⟨x2, e2, y2, z2⟩ : InI 0 (5) (σ 2) := hd 2 (by decide)
    obtain ⟨x3, e3, y3, z3⟩ : InI (-1) (4) (σ 3) := hd 3 (by decide)
    have e4 : σ 4 = .pointer (some ⟨p, 0, none⟩) := hd 4 (by decide)
    have e5 : σ 5 = .agg #[.int .i64 (m.c), .int .i64 (m.w)] := hd 5 (by decide)
    obtain ⟨x6, e6, h6⟩ : LsC V.heap.size (σ 6) _ := hd 6 (by decide)
    have hs7 : MpAt R _ := hd 7 (by decide)
    obtain ⟨x8, e8, y8, z8⟩ : InI (-1) (4) (σ 8) := hd 8 (by decide)
    obtain ⟨x9, e9, h9⟩ : LsC V.heap.size (σ 9) _ := hd 9 (by decide)
    have HG := hid hG
    have HJ9 := hid hJ
    clear hd hG hJ
    simp only [actO, putO, List.setIfInBounds_toArray, List.set_cons_zero, List.set_cons_succ, Nat.reduceAdd, e0, e1, e2, e3, e4, e5, e6, e8, e9]
    clear e0 e1 e2 e3 e4 e5 e6 e8 e9
    obtain ⟨x, hb, hx⟩ := hs7
    obtain ⟨xs, hls, hln⟩ := h9
    have c0 := (cell_blk hb 0).trans (show _ = some (Value.int .i64 x.c) from rfl)
    have c1 := (cell_blk hb 1).trans (show _ = some (Value.int .i64 x.w) from rfl)
    have lR := lt_blk hb
    have HLS := hid hls
    clear hb hls
    go_wp2_with (fail)
    refine bodyPost_ret (v := .tuple #[.agg #[.int .i64 x.c, .int .i64 x.w], .int .i64 x8, x9]) (by simp [results, Try.results41, go_sem, c0, c1, lR]) rfl ?_
    exact ⟨x, x8, x9, xs, rfl, hx, by omega, HLS.out.le (by omega), hln, EW1.out.chg2 HG.out (by omega) (by omega)⟩
end Go.Proofs.Ytbbpipbemhggdaa
