/- Parcels are drawn. -/
import Derived.Test.YtbbpipbemhggdaaFe
namespace Go.Proofs.Ytbbpipbemhggdaa
open Go.RowKit
set_option linter.unusedSimpArgs false
set_option linter.unusedVariables false

theorem pcl_store {w : World} {R : Nat} {x0 x : Pcl} (h : w.heap[R]? = some (oPcl x0)) :
    ((((((((w.setCell ⟨R, 0, none⟩ (.int .i64 x.n)).setCell ⟨R, 1, none⟩ (.int .i64 x.kind)).setCell ⟨R, 2, none⟩ (.int .i64 x.wk.id)).setCell ⟨R, 3, none⟩ (.int .i64 x.wk.at_)).setCell ⟨R, 4, none⟩ (.int .i64 x.wk.coins)).setCell ⟨R, 5, none⟩ (.int .i64 x.wk.seq)).setCell ⟨R, 6, none⟩ (.int .i64 x.wk.last)).setCell ⟨R, 7, none⟩ (.int .i64 x.coins)).heap[R]? = some (oPcl x) := by
  refine Eq.trans (blk_set (blk_set (blk_set (blk_set (blk_set (blk_set (blk_set (blk_set h)))))))) ?_
  simp only [List.setIfInBounds_toArray, List.set_cons_zero, List.set_cons_succ, oPcl]
def InP (v : Value) : Prop := ∃ x : Pcl, v = .agg #[.int .i64 x.n, .int .i64 x.kind, .int .i64 x.wk.id, .int .i64 x.wk.at_, .int .i64 x.wk.coins, .int .i64 x.wk.seq, .int .i64 x.wk.last, .int .i64 x.coins] ∧ True
set_option maxRecDepth 100000 in
set_option maxHeartbeats 8000000 in
theorem l20Parcel_c (lo p Q : Nat) (m : Mp) (w : World) (h : Rdr lo p Q w) (hQ : Q ≤ 89000) (hm : MapIn m) :
    Calls Try.prog 85 #[.pointer (some ⟨p, 0, none⟩), .agg #[.int .i64 m.c, .int .i64 m.w]] w fun e w' => ∃ x : Pcl, e = .returned (.agg #[.int .i64 x.n, .int .i64 x.kind, .int .i64 x.wk.id, .int .i64 x.wk.at_, .int .i64 x.wk.coins, .int .i64 x.wk.seq, .int .i64 x.wk.last, .int .i64 x.coins]) ∧ Rdr lo p (Q + 160) w' ∧ Chg [p] w w' := by
  have lP := h.lt
  have hlo := h.lo
  have HR := hid h
  have HM := hid hm
  clear h hm
  go_enter Try.func85, Try.ntmps85
  try go_wp2_with (first
      | fail
      | (
        with_reducible refine wp_region_mix (by kernel_rfl) (by decide +kernel) ?_
        repeat (first
          | (refine mix_pure rfl ?_; (first | go_big_quiet_skip | (go_big_quiet_want; go_big_quiet_op; go_big_quiet_on)); refine wpQuiet_nil ?_)
          | (refine mix_skip (by rfl) ?_; (try simp only [Act.put, List.setIfInBounds_toArray, List.set_cons_zero, List.set_cons_succ]))
          | (refine mix_mk rfl (by rfl) (fun K hK => ?_); (first | (go_simp; first | skip)); (show K _ _); refine hK _ _ (show Ext _ _ from (by ((try simp only [ext_drew]); (try simp only [ext_ext]); repeat (first | exact Ext.refl _ | with_reducible apply Ext.add | with_reducible apply Ext.dr | apply Ext.alloc | apply Ext.ext | apply Ext.drew | refine Ext.trans ?_ (by assumption))))) ?_; clear hK K; (try simp only [Act.put, List.setIfInBounds_toArray, List.set_cons_zero, List.set_cons_succ])))
        refine mix_nil ?_)
      | (
        with_reducible refine wp_region_ext (by kernel_rfl) (by kernel_rfl) ?_
        repeat (first | go_big_quiet_skip | (go_big_quiet_want; go_big_quiet_op; first | go_big_quiet_on | (apply Exists.intro; refine ⟨fun _ => ?_, ?_⟩; (fail); (try rw [h1]); (try rw [h2]); (try rw [h3]); (try rw [h4]); (try rw [p1]); (try rw [p2]); (try rw [p3]); (try rw [p4]); (try rw [r1]); (try rw [r2]); (try rw [r3]); (try rw [r4]); (try rw [r5]); (try rw [r6]); (try rw [q3]); (try rw [q4]); (try rw [hp]); (try rw [hq]); go_big_quiet_on)))
        refine wpQuiet_nil ?_
        rintro _ ⟨tq, rfl⟩))
  refine wp_gen fun V hV => ?_
  have EV : Ext w V := by rw [hV]; ((try simp only [ext_drew]); (try simp only [ext_ext]); repeat (first | exact Ext.refl _ | with_reducible apply Ext.add | with_reducible apply Ext.dr | apply Ext.alloc | apply Ext.ext | apply Ext.drew | refine Ext.trans ?_ (by assumption)))
  obtain ⟨M, hM⟩ : ∃ M, w.heap.size = M := ⟨_, rfl⟩
  obtain ⟨R, hR⟩ : ∃ R, w.heap.size + 1 = R := ⟨_, rfl⟩
  have bM : V.heap[M]? = some (oMp m) := by rw [hV, ← hM]; exact (by repeat (first | exact alloc_last (by (try simp [go_sem]) <;> (try simp [Xt.add]) <;> omega) | with_reducible refine blk_alloc ?_ | with_reducible refine blk_ext ?_ | with_reducible apply blk_drew))
  have bR : V.heap[R]? = some (oPcl ⟨0, 0, ⟨0, 0, 0, 0, 0⟩, 0⟩) := by rw [hV, ← hR]; exact (by repeat (first | exact alloc_last (by (try simp [go_sem]) <;> (try simp [Xt.add]) <;> omega) | with_reducible refine blk_alloc ?_ | with_reducible refine blk_ext ?_ | with_reducible apply blk_drew))
  have lM := lt_blk bM
  have lR := lt_blk bR
  rw [hR, hM]
  have hMp : M ≠ p := by omega
  have hRp : R ≠ p := by omega
  have hMR : M ≠ R := by omega
  have hpW : p < V.heap.size := by omega
  have hwR : w.heap.size ≤ R := by omega
  have hwV : w.heap.size ≤ V.heap.size := EV.size
  have HJ := hid (show Rdr lo p Q V ∧ Held [(M, fun o => o = oMp m), (R, fun o => o = oPcl ⟨0, 0, ⟨0, 0, 0, 0, 0⟩, 0⟩)] V from ⟨HR.out.of EV, Held.cons bM rfl (Held.cons bR rfl Held.nil)⟩)
  have HEV := hid EV
  clear hV EV bM bR hM hR
  refine wp_region_flowD [some 6, some 7, some 8, some 9, some 10, some 11, some 12, some 13, some 14, some 5, none] (fun a b => ChgT V.heap.size [p] IsPcl a b) (fun i a b => match i with | 10 => Turn V.heap.size IsPcl a b | _ => Chg [p] a b) (fun k9 w9 => Rdr lo p (Q + 1 * k9) w9 ∧ Held [(M, fun o => o = oMp m), (R, fun o => o = oPcl ⟨0, 0, ⟨0, 0, 0, 0, 0⟩, 0⟩)] w9) (fun i v9 w9 => match i with
    | 0 => MkI V.heap.size 5 (0) (4999) (v9) w9
    | 1 => v9 = .pointer (some ⟨p, 0, none⟩)
    | 2 => InI 0 (4) (v9)
    | 3 => PtI V.heap.size 5 (0) (4999) (v9) w9
    | 4 => InI (0) (4999) (v9)
    | 5 => v9 = .pointer (some ⟨p, 0, none⟩)
    | 6 => InI 0 (8) (v9)
    | 7 => InI (1) (9) (v9)
    | 8 => InP (v9)
    | 9 => PtB V.heap.size IsPcl (v9) w9
    | _ => True) (by kernel_rfl) (by decide +kernel) (by simp) (fun a => ChgT.refl _ _ _ a) (fun a b c h k => ChgT.trans h k) ?_ (ChgT.of (Chg.drew (Chg.refl [] _)) (by simp)) ?_ ?_ ?_ ?_
  · intro i a b hi hG
    have hi9 : i < 11 := hi
    clear hi
    match i, hi9, hG with
    | 0, _, hG => exact ChgT.of hG (by simp; omega)
    | 1, _, hG => exact ChgT.of hG (by simp; omega)
    | 2, _, hG => exact ChgT.of hG (by simp; omega)
    | 3, _, hG => exact ChgT.of hG (by simp; omega)
    | 4, _, hG => exact ChgT.of hG (by simp; omega)
    | 5, _, hG => exact ChgT.of hG (by simp; omega)
    | 6, _, hG => exact ChgT.of hG (by simp; omega)
    | 7, _, hG => exact ChgT.of hG (by simp; omega)
    | 8, _, hG => exact ChgT.of hG (by simp; omega)
    | 9, _, hG => exact ChgT.of hG (by simp; omega)
    | 10, _, hG => exact Turn.chgT hG
    | n + 11, h9, _ => exact absurd h9 (by omega)
  · exact ⟨HJ.out.1.of (by ((try simp only [ext_drew]); (try simp only [ext_ext]); repeat (first | exact Ext.refl _ | with_reducible apply Ext.add | with_reducible apply Ext.dr | apply Ext.alloc | apply Ext.ext | apply Ext.drew | refine Ext.trans ?_ (by assumption)))), HJ.out.2.drw⟩
  · intro i j hi hj hij v9 w9 w8 hg hS hG
    have hi9 : i < 11 := hi
    have hj9 : j < 11 := hj
    have hG0 := hG
    have hG2 : ChgT V.heap.size [p] IsPcl w9 w8 := by
      clear hG0 hij hi hj hS
      match i, hi9, hG with
      | 0, _, hG => exact ChgT.of hG (by simp; omega)
      | 1, _, hG => exact ChgT.of hG (by simp; omega)
      | 2, _, hG => exact ChgT.of hG (by simp; omega)
      | 3, _, hG => exact ChgT.of hG (by simp; omega)
      | 4, _, hG => exact ChgT.of hG (by simp; omega)
      | 5, _, hG => exact ChgT.of hG (by simp; omega)
      | 6, _, hG => exact ChgT.of hG (by simp; omega)
      | 7, _, hG => exact ChgT.of hG (by simp; omega)
      | 8, _, hG => exact ChgT.of hG (by simp; omega)
      | 9, _, hG => exact ChgT.of hG (by simp; omega)
      | 10, _, hG => exact Turn.chgT hG
      | n + 11, h9, _ => exact absurd h9 (by omega)
    clear hi hj hG
    match j, hj9 with
    | 0, _ => exact MkI.chgT hS hG2 noInt_Pcl
    | 1, _ => exact hS
    | 2, _ => exact hS
    | 3, _ => exact PtI.chgT hS hG2 noInt_Pcl
    | 4, _ => exact hS
    | 5, _ => exact hS
    | 6, _ => exact hS
    | 7, _ => exact hS
    | 8, _ => exact hS
    | 9, _ => exact PtB.chgT hS hG2
    | 10, _ => exact hS
    | n + 11, h9 => exact absurd h9 (by omega)
  · intro i oo ho σ k9 w9 hG hk9 hJ hd
    have HG := hid hG
    have HJ9 := hid hJ
    have hW9 := hG.size
    have hkN : k9 < 11 := hk9
    have hi9 : i < 11 := (List.getElem?_eq_some_iff.1 ho).1
    clear hG hJ hk9
    match i, hi9, ho with
    | 0, _, ho =>
      obtain rfl := Option.some.inj ho
      clear hd ho
      simp only [actO, putO, List.setIfInBounds_toArray, List.set_cons_zero, List.set_cons_succ, Nat.reduceAdd]
      refine flow_K (fun K hK => ?_)
      go_simp
      (show K _ _)
      refine hK _ _ ⟨_, rfl, by simp, Chg.of_ext (show Ext _ _ from (by ((try simp only [ext_drew]); (try simp only [ext_ext]); repeat (first | exact Ext.refl _ | with_reducible apply Ext.add | with_reducible apply Ext.dr | apply Ext.alloc | apply Ext.ext | apply Ext.drew | refine Ext.trans ?_ (by assumption))))) _, ⟨(HJ9.out.1.of (show Ext _ _ from (by ((try simp only [ext_drew]); (try simp only [ext_ext]); repeat (first | exact Ext.refl _ | with_reducible apply Ext.add | with_reducible apply Ext.dr | apply Ext.alloc | apply Ext.ext | apply Ext.drew | refine Ext.trans ?_ (by assumption)))))).up (by omega), HJ9.out.2.of (show Ext _ _ from (by ((try simp only [ext_drew]); (try simp only [ext_ext]); repeat (first | exact Ext.refl _ | with_reducible apply Ext.add | with_reducible apply Ext.dr | apply Ext.alloc | apply Ext.ext | apply Ext.drew | refine Ext.trans ?_ (by assumption)))))⟩, ⟨_, rfl, by (try simp [go_sem]) <;> omega, ⟨_, heap_new (by simp [go_sem]), fun i hi => ?_⟩⟩⟩
      match i, hi with
      | 0, _ => exact ⟨0, rfl, by omega, by omega⟩
      | 1, _ => exact ⟨0, rfl, by omega, by omega⟩
      | 2, _ => exact ⟨1, rfl, by omega, by omega⟩
      | 3, _ => exact ⟨2, rfl, by omega, by omega⟩
      | 4, _ => exact ⟨4999, rfl, by omega, by omega⟩
    | 1, _, ho =>
      obtain rfl := Option.some.inj ho
      clear hd ho
      simp only [actO, putO, List.setIfInBounds_toArray, List.set_cons_zero, List.set_cons_succ, Nat.reduceAdd]
      refine flow_K (fun K hK => ?_)
      go_simp
      (show K _ _)
      refine hK _ _ ⟨_, rfl, by simp, Chg.of_ext (show Ext _ _ from (by ((try simp only [ext_drew]); (try simp only [ext_ext]); repeat (first | exact Ext.refl _ | with_reducible apply Ext.add | with_reducible apply Ext.dr | apply Ext.alloc | apply Ext.ext | apply Ext.drew | refine Ext.trans ?_ (by assumption))))) _, ⟨(HJ9.out.1.of (show Ext _ _ from (by ((try simp only [ext_drew]); (try simp only [ext_ext]); repeat (first | exact Ext.refl _ | with_reducible apply Ext.add | with_reducible apply Ext.dr | apply Ext.alloc | apply Ext.ext | apply Ext.drew | refine Ext.trans ?_ (by assumption)))))).up (by omega), HJ9.out.2.of (show Ext _ _ from (by ((try simp only [ext_drew]); (try simp only [ext_ext]); repeat (first | exact Ext.refl _ | with_reducible apply Ext.add | with_reducible apply Ext.dr | apply Ext.alloc | apply Ext.ext | apply Ext.drew | refine Ext.trans ?_ (by assumption)))))⟩, rfl⟩
    | 2, _, ho =>
      have e1 : σ 1 = .pointer (some ⟨p, 0, none⟩) := hd 1 (by obtain rfl := Option.some.inj ho; kernel_rfl)
      obtain rfl := Option.some.inj ho
      clear hd ho
      simp only [actO, putO, List.setIfInBounds_toArray, List.set_cons_zero, List.set_cons_succ, Nat.reduceAdd, e1]
      refine flow_K (fun K hK => ?_)
      have HRd := hid HJ9.out.1
      go_simp
      refine (pick_c lo p _ (5) w9 HRd.out (by omega) (by omega) (by omega)).mono ?_
      rintro e w8 ⟨vv, rfl, hv0, hv1, hR8, hC8⟩
      (show K _ _)
      refine hK _ _ ⟨_, rfl, by simp, hC8, ⟨hR8.up (by omega), HJ9.out.2.chg hC8 (by simp; omega)⟩, ⟨vv, rfl, hv0, by omega⟩⟩
    | 3, _, ho =>
      obtain ⟨b0, e0, hb0, ha0⟩ : MkI V.heap.size 5 (0) (4999) (σ 0) _ := hd 0 (by obtain rfl := Option.some.inj ho; kernel_rfl)
      obtain ⟨x2, e2, y2, z2⟩ : InI 0 (4) (σ 2) := hd 2 (by obtain rfl := Option.some.inj ho; kernel_rfl)
      obtain ⟨i2, rfl⟩ : ∃ i : Nat, x2 = (i : Int) := ⟨x2.toNat, by omega⟩
      have hin : i2 < 5 := by omega
      have hin2 : (i2 : Int) < 5 := by omega
      obtain rfl := Option.some.inj ho
      clear hd ho
      simp only [actO, putO, List.setIfInBounds_toArray, List.set_cons_zero, List.set_cons_succ, Nat.reduceAdd, e0, e2]
      refine flow_K (fun K hK => ?_)
      go_simp
      (show K _ _)
      refine hK _ _ ⟨_, rfl, by simp, Chg.of_ext (show Ext _ _ from (by ((try simp only [ext_drew]); (try simp only [ext_ext]); repeat (first | exact Ext.refl _ | with_reducible apply Ext.add | with_reducible apply Ext.dr | apply Ext.alloc | apply Ext.ext | apply Ext.drew | refine Ext.trans ?_ (by assumption))))) _, ⟨(HJ9.out.1.of (show Ext _ _ from (by ((try simp only [ext_drew]); (try simp only [ext_ext]); repeat (first | exact Ext.refl _ | with_reducible apply Ext.add | with_reducible apply Ext.dr | apply Ext.alloc | apply Ext.ext | apply Ext.drew | refine Ext.trans ?_ (by assumption)))))).up (by omega), HJ9.out.2.of (show Ext _ _ from (by ((try simp only [ext_drew]); (try simp only [ext_ext]); repeat (first | exact Ext.refl _ | with_reducible apply Ext.add | with_reducible apply Ext.dr | apply Ext.alloc | apply Ext.ext | apply Ext.drew | refine Ext.trans ?_ (by assumption)))))⟩, ⟨_, _, rfl, hin, hb0, ha0⟩⟩
    | 4, _, ho =>
      obtain ⟨b3, k3, e3, hk3, hb3, ha3⟩ : PtI V.heap.size 5 (0) (4999) (σ 3) _ := hd 3 (by obtain rfl := Option.some.inj ho; kernel_rfl)
      obtain ⟨y, hy, hy0, hy1⟩ := index_at ha3 hk3
      obtain rfl := Option.some.inj ho
      clear hd ho
      simp only [actO, putO, List.setIfInBounds_toArray, List.set_cons_zero, List.set_cons_succ, Nat.reduceAdd, e3]
      refine flow_K (fun K hK => ?_)
      go_simp
      (show K _ _)
      refine hK _ _ ⟨_, rfl, by simp, Chg.of_ext (show Ext _ _ from (by ((try simp only [ext_drew]); (try simp only [ext_ext]); repeat (first | exact Ext.refl _ | with_reducible apply Ext.add | with_reducible apply Ext.dr | apply Ext.alloc | apply Ext.ext | apply Ext.drew | refine Ext.trans ?_ (by assumption))))) _, ⟨(HJ9.out.1.of (show Ext _ _ from (by ((try simp only [ext_drew]); (try simp only [ext_ext]); repeat (first | exact Ext.refl _ | with_reducible apply Ext.add | with_reducible apply Ext.dr | apply Ext.alloc | apply Ext.ext | apply Ext.drew | refine Ext.trans ?_ (by assumption)))))).up (by omega), HJ9.out.2.of (show Ext _ _ from (by ((try simp only [ext_drew]); (try simp only [ext_ext]); repeat (first | exact Ext.refl _ | with_reducible apply Ext.add | with_reducible apply Ext.dr | apply Ext.alloc | apply Ext.ext | apply Ext.drew | refine Ext.trans ?_ (by assumption)))))⟩, ⟨y, rfl, hy0, hy1⟩⟩
    | 5, _, ho =>
      obtain rfl := Option.some.inj ho
      clear hd ho
      simp only [actO, putO, List.setIfInBounds_toArray, List.set_cons_zero, List.set_cons_succ, Nat.reduceAdd]
      refine flow_K (fun K hK => ?_)
      go_simp
      (show K _ _)
      refine hK _ _ ⟨_, rfl, by simp, Chg.of_ext (show Ext _ _ from (by ((try simp only [ext_drew]); (try simp only [ext_ext]); repeat (first | exact Ext.refl _ | with_reducible apply Ext.add | with_reducible apply Ext.dr | apply Ext.alloc | apply Ext.ext | apply Ext.drew | refine Ext.trans ?_ (by assumption))))) _, ⟨(HJ9.out.1.of (show Ext _ _ from (by ((try simp only [ext_drew]); (try simp only [ext_ext]); repeat (first | exact Ext.refl _ | with_reducible apply Ext.add | with_reducible apply Ext.dr | apply Ext.alloc | apply Ext.ext | apply Ext.drew | refine Ext.trans ?_ (by assumption)))))).up (by omega), HJ9.out.2.of (show Ext _ _ from (by ((try simp only [ext_drew]); (try simp only [ext_ext]); repeat (first | exact Ext.refl _ | with_reducible apply Ext.add | with_reducible apply Ext.dr | apply Ext.alloc | apply Ext.ext | apply Ext.drew | refine Ext.trans ?_ (by assumption)))))⟩, rfl⟩
    | 6, _, ho =>
      have e5 : σ 5 = .pointer (some ⟨p, 0, none⟩) := hd 5 (by obtain rfl := Option.some.inj ho; kernel_rfl)
      obtain rfl := Option.some.inj ho
      clear hd ho
      simp only [actO, putO, List.setIfInBounds_toArray, List.set_cons_zero, List.set_cons_succ, Nat.reduceAdd, e5]
      refine flow_K (fun K hK => ?_)
      have HRd := hid HJ9.out.1
      go_simp
      refine (pick_c lo p _ (9) w9 HRd.out (by omega) (by omega) (by omega)).mono ?_
      rintro e w8 ⟨vv, rfl, hv0, hv1, hR8, hC8⟩
      (show K _ _)
      refine hK _ _ ⟨_, rfl, by simp, hC8, ⟨hR8.up (by omega), HJ9.out.2.chg hC8 (by simp; omega)⟩, ⟨vv, rfl, hv0, by omega⟩⟩
    | 7, _, ho =>
      obtain ⟨x6, e6, y6, z6⟩ : InI 0 (8) (σ 6) := hd 6 (by obtain rfl := Option.some.inj ho; kernel_rfl)
      have hwr : IntKind.i64.wrap (1 + x6) = 1 + x6 := by simp [IntKind.wrap, IntKind.bits, IntKind.signed]; omega
      obtain rfl := Option.some.inj ho
      clear hd ho
      simp only [actO, putO, List.setIfInBounds_toArray, List.set_cons_zero, List.set_cons_succ, Nat.reduceAdd, e6]
      refine flow_K (fun K hK => ?_)
      go_simp
      (try rw [hwr])
      (show K _ _)
      refine hK _ _ ⟨_, rfl, by simp, Chg.of_ext (show Ext _ _ from (by ((try simp only [ext_drew]); (try simp only [ext_ext]); repeat (first | exact Ext.refl _ | with_reducible apply Ext.add | with_reducible apply Ext.dr | apply Ext.alloc | apply Ext.ext | apply Ext.drew | refine Ext.trans ?_ (by assumption))))) _, ⟨(HJ9.out.1.of (show Ext _ _ from (by ((try simp only [ext_drew]); (try simp only [ext_ext]); repeat (first | exact Ext.refl _ | with_reducible apply Ext.add | with_reducible apply Ext.dr | apply Ext.alloc | apply Ext.ext | apply Ext.drew | refine Ext.trans ?_ (by assumption)))))).up (by omega), HJ9.out.2.of (show Ext _ _ from (by ((try simp only [ext_drew]); (try simp only [ext_ext]); repeat (first | exact Ext.refl _ | with_reducible apply Ext.add | with_reducible apply Ext.dr | apply Ext.alloc | apply Ext.ext | apply Ext.drew | refine Ext.trans ?_ (by assumption)))))⟩, ⟨_, rfl, by omega, by omega⟩⟩
    | 8, _, ho =>
      obtain ⟨x4, e4, y4, z4⟩ : InI (0) (4999) (σ 4) := hd 4 (by obtain rfl := Option.some.inj ho; kernel_rfl)
      obtain ⟨x7, e7, y7, z7⟩ : InI (1) (9) (σ 7) := hd 7 (by obtain rfl := Option.some.inj ho; kernel_rfl)
      obtain rfl := Option.some.inj ho
      clear hd ho
      simp only [actO, putO, List.setIfInBounds_toArray, List.set_cons_zero, List.set_cons_succ, Nat.reduceAdd, e4, e7]
      refine flow_K (fun K hK => ?_)
      go_simp
      (show K _ _)
      refine hK _ _ ⟨_, rfl, by simp, Chg.of_ext (show Ext _ _ from (by ((try simp only [ext_drew]); (try simp only [ext_ext]); repeat (first | exact Ext.refl _ | with_reducible apply Ext.add | with_reducible apply Ext.dr | apply Ext.alloc | apply Ext.ext | apply Ext.drew | refine Ext.trans ?_ (by assumption))))) _, ⟨(HJ9.out.1.of (show Ext _ _ from (by ((try simp only [ext_drew]); (try simp only [ext_ext]); repeat (first | exact Ext.refl _ | with_reducible apply Ext.add | with_reducible apply Ext.dr | apply Ext.alloc | apply Ext.ext | apply Ext.drew | refine Ext.trans ?_ (by assumption)))))).up (by omega), HJ9.out.2.of (show Ext _ _ from (by ((try simp only [ext_drew]); (try simp only [ext_ext]); repeat (first | exact Ext.refl _ | with_reducible apply Ext.add | with_reducible apply Ext.dr | apply Ext.alloc | apply Ext.ext | apply Ext.drew | refine Ext.trans ?_ (by assumption)))))⟩, ⟨⟨x4, 2, ⟨0, 0, 0, 0, 0⟩, x7⟩, rfl, trivial⟩⟩
    | 9, _, ho =>
      obtain rfl := Option.some.inj ho
      clear hd ho
      simp only [actO, putO, List.setIfInBounds_toArray, List.set_cons_zero, List.set_cons_succ, Nat.reduceAdd]
      refine flow_K (fun K hK => ?_)
      go_simp
      (show K _ _)
      refine hK _ _ ⟨_, rfl, by simp, Chg.of_ext (show Ext _ _ from (by ((try simp only [ext_drew]); (try simp only [ext_ext]); repeat (first | exact Ext.refl _ | with_reducible apply Ext.add | with_reducible apply Ext.dr | apply Ext.alloc | apply Ext.ext | apply Ext.drew | refine Ext.trans ?_ (by assumption))))) _, ⟨(HJ9.out.1.of (show Ext _ _ from (by ((try simp only [ext_drew]); (try simp only [ext_ext]); repeat (first | exact Ext.refl _ | with_reducible apply Ext.add | with_reducible apply Ext.dr | apply Ext.alloc | apply Ext.ext | apply Ext.drew | refine Ext.trans ?_ (by assumption)))))).up (by omega), HJ9.out.2.of (show Ext _ _ from (by ((try simp only [ext_drew]); (try simp only [ext_ext]); repeat (first | exact Ext.refl _ | with_reducible apply Ext.add | with_reducible apply Ext.dr | apply Ext.alloc | apply Ext.ext | apply Ext.drew | refine Ext.trans ?_ (by assumption)))))⟩, ⟨_, rfl, by (try simp [go_sem]) <;> omega, _, heap_new (by simp [go_sem]), ⟨⟨0, 0, ⟨0, 0, 0, 0, 0⟩, 0⟩, rfl⟩⟩⟩
    | 10, _, ho =>
      obtain ⟨b9, e9, hb9, _, ho9, x9, rfl⟩ : PtB V.heap.size IsPcl (σ 9) _ := hd 9 (by obtain rfl := Option.some.inj ho; kernel_rfl)
      obtain ⟨x8, e8, h8⟩ : InP (σ 8) := hd 8 (by obtain rfl := Option.some.inj ho; kernel_rfl)
      have cR0 := (cell_blk ho9 0).trans rfl
      have zR0 := frozen_blk ho9 0
      have cR1 := (cell_blk ho9 1).trans rfl
      have zR1 := frozen_blk ho9 1
      have cR2 := (cell_blk ho9 2).trans rfl
      have zR2 := frozen_blk ho9 2
      have cR3 := (cell_blk ho9 3).trans rfl
      have zR3 := frozen_blk ho9 3
      have cR4 := (cell_blk ho9 4).trans rfl
      have zR4 := frozen_blk ho9 4
      have cR5 := (cell_blk ho9 5).trans rfl
      have zR5 := frozen_blk ho9 5
      have cR6 := (cell_blk ho9 6).trans rfl
      have zR6 := frozen_blk ho9 6
      have cR7 := (cell_blk ho9 7).trans rfl
      have zR7 := frozen_blk ho9 7
      have lR9 := lt_blk ho9
      have HB0 := hid ho9
      clear ho9
      obtain rfl := Option.some.inj ho
      clear hd ho
      simp only [actO, putO, List.setIfInBounds_toArray, List.set_cons_zero, List.set_cons_succ, Nat.reduceAdd, e9, e8]
      refine flow_K (fun K hK => ?_)
      go_simp
      (show K _ _)
      refine hK _ _ ⟨undef, rfl, fun _ => rfl, ⟨b9, _, oPcl x8, hb9, HB0.out, pcl_store (x := x8) HB0.out, ⟨_, rfl⟩, ⟨_, rfl⟩, (by repeat (first | with_reducible exact Chg.refl _ _ | with_reducible apply Chg.drew | with_reducible apply Chg.drewl | with_reducible refine Chg.turn (by simp) | with_reducible refine Chg.both ?_ (by simp) | (with_reducible refine Chg.set ?_ (by simp) _) | with_reducible apply Chg.alloc | with_reducible apply Chg.ext))⟩, ⟨(HJ9.out.1.chg (B := [b9]) (by repeat (first | with_reducible exact Chg.refl _ _ | with_reducible apply Chg.drew | with_reducible apply Chg.drewl | with_reducible refine Chg.turn (by simp) | with_reducible refine Chg.both ?_ (by simp) | (with_reducible refine Chg.set ?_ (by simp) _) | with_reducible apply Chg.alloc | with_reducible apply Chg.ext)) (by simp; omega) (Nat.le_refl _)).up (by omega), HJ9.out.2.chg (B := [b9]) (by repeat (first | with_reducible exact Chg.refl _ _ | with_reducible apply Chg.drew | with_reducible apply Chg.drewl | with_reducible refine Chg.turn (by simp) | with_reducible refine Chg.both ?_ (by simp) | (with_reducible refine Chg.set ?_ (by simp) _) | with_reducible apply Chg.alloc | with_reducible apply Chg.ext)) (by simp; omega)⟩, trivial⟩
  · intro σ w9 hG hJ hd
    obtain ⟨b0, e0, hb0, ha0⟩ : MkI V.heap.size 5 (0) (4999) (σ 0) _ := hd 0 (by decide)
    have e1 : σ 1 = .pointer (some ⟨p, 0, none⟩) := hd 1 (by decide)
    obtain ⟨x2, e2, y2, z2⟩ : InI 0 (4) (σ 2) := hd 2 (by decide)
    obtain ⟨b3, k3, e3, hk3, hb3, ha3⟩ : PtI V.heap.size 5 (0) (4999) (σ 3) _ := hd 3 (by decide)
    obtain ⟨x4, e4, y4, z4⟩ : InI (0) (4999) (σ 4) := hd 4 (by decide)
    have e5 : σ 5 = .pointer (some ⟨p, 0, none⟩) := hd 5 (by decide)
    obtain ⟨x6, e6, y6, z6⟩ : InI 0 (8) (σ 6) := hd 6 (by decide)
    obtain ⟨x7, e7, y7, z7⟩ : InI (1) (9) (σ 7) := hd 7 (by decide)
    obtain ⟨x8, e8, h8⟩ : InP (σ 8) := hd 8 (by decide)
    obtain ⟨b9, e9, hb9, _, ho9, x9, rfl⟩ : PtB V.heap.size IsPcl (σ 9) _ := hd 9 (by decide)
    have HG := hid hG
    have HJ9 := hid (show Rdr lo p (Q + 1 * 11) w9 ∧ Held [(M, fun o => o = oMp m), (R, fun o => o = oPcl ⟨0, 0, ⟨0, 0, 0, 0, 0⟩, 0⟩)] w9 from hJ)
    clear hd hG hJ
    simp only [actO, putO, List.setIfInBounds_toArray, List.set_cons_zero, List.set_cons_succ, Nat.reduceAdd, e0, e1, e2, e3, e4, e5, e6, e7, e8, e9]
    clear e0 e1 e2 e3 e4 e5 e6 e7 e8 e9
    have HC1 := hid ((Chg.of_ext HEV.out [p]).trans (HG.out.chg rfl))
    obtain ⟨S5, hS5⟩ : ∃ S, b9 = S := ⟨_, rfl⟩
    rw [hS5] at hb9 ho9 ⊢
    have HR1 := hid HJ9.out.1
    have HH1 := hid HJ9.out.2
    have HO9 := hid ho9
    clear HG HJ9 HJ HEV ho9 hS5 HR
    try go_wp2_with (first
        | fail
        | (
          with_reducible refine wp_region_mix (by kernel_rfl) (by decide +kernel) ?_
          repeat (first
            | (refine mix_pure rfl ?_; (first | go_big_quiet_skip | (go_big_quiet_want; go_big_quiet_op; go_big_quiet_on)); refine wpQuiet_nil ?_)
            | (refine mix_skip (by rfl) ?_; (try simp only [Act.put, List.setIfInBounds_toArray, List.set_cons_zero, List.set_cons_succ]))
            | (refine mix_mk rfl (by rfl) (fun K hK => ?_); (first | (go_simp; first | skip)); (show K _ _); refine hK _ _ (show Ext _ _ from (by ((try simp only [ext_drew]); (try simp only [ext_ext]); repeat (first | exact Ext.refl _ | with_reducible apply Ext.add | with_reducible apply Ext.dr | apply Ext.alloc | apply Ext.ext | apply Ext.drew | refine Ext.trans ?_ (by assumption))))) ?_; clear hK K; (try simp only [Act.put, List.setIfInBounds_toArray, List.set_cons_zero, List.set_cons_succ])))
          refine mix_nil ?_)
        | (
          with_reducible refine wp_region_ext (by kernel_rfl) (by kernel_rfl) ?_
          repeat (first | go_big_quiet_skip | (go_big_quiet_want; go_big_quiet_op; first | go_big_quiet_on | (apply Exists.intro; refine ⟨fun _ => ?_, ?_⟩; (fail); (try rw [h1]); (try rw [h2]); (try rw [h3]); (try rw [h4]); (try rw [p1]); (try rw [p2]); (try rw [p3]); (try rw [p4]); (try rw [r1]); (try rw [r2]); (try rw [r3]); (try rw [r4]); (try rw [r5]); (try rw [r6]); (try rw [q3]); (try rw [q4]); (try rw [hp]); (try rw [hq]); go_big_quiet_on)))
          refine wpQuiet_nil ?_
          rintro _ ⟨tq, rfl⟩))
    refine (pick_c lo p _ 2 w9 HR1.out (by omega) (by omega) (by omega)).mono ?_
    rintro e Z ⟨v, rfl, hv0, hv1, hRZ, hCZ⟩
    have hSp : S5 ≠ p := by omega
    have bS := (hCZ.block S5 (lt_blk HO9.out) (by simpa using hSp)).trans HO9.out
    have HHZ := hid (HH1.out.chg hCZ (by simp; omega))
    have HRZ := hid hRZ
    have HCZ := hid (HC1.out.trans hCZ)
    have HO := hid bS
    clear hRZ hCZ bS HH1 HR1 HC1 HO9
    by_cases hv : v = 0
    · subst hv
      clear hv0 hv1
      try go_wp2_with (first
          | fail
          | (
            with_reducible refine wp_region_mix (by kernel_rfl) (by decide +kernel) ?_
            repeat (first
              | (refine mix_pure rfl ?_; (first | go_big_quiet_skip | (go_big_quiet_want; go_big_quiet_op; go_big_quiet_on)); refine wpQuiet_nil ?_)
              | (refine mix_skip (by rfl) ?_; (try simp only [Act.put, List.setIfInBounds_toArray, List.set_cons_zero, List.set_cons_succ]))
              | (refine mix_mk rfl (by rfl) (fun K hK => ?_); (first | (go_simp; first | skip)); (show K _ _); refine hK _ _ (show Ext _ _ from (by ((try simp only [ext_drew]); (try simp only [ext_ext]); repeat (first | exact Ext.refl _ | with_reducible apply Ext.add | with_reducible apply Ext.dr | apply Ext.alloc | apply Ext.ext | apply Ext.drew | refine Ext.trans ?_ (by assumption))))) ?_; clear hK K; (try simp only [Act.put, List.setIfInBounds_toArray, List.set_cons_zero, List.set_cons_succ])))
            refine mix_nil ?_)
          | (
            with_reducible refine wp_region_ext (by kernel_rfl) (by kernel_rfl) ?_
            repeat (first | go_big_quiet_skip | (go_big_quiet_want; go_big_quiet_op; first | go_big_quiet_on | (apply Exists.intro; refine ⟨fun _ => ?_, ?_⟩; (fail); (try rw [h1]); (try rw [h2]); (try rw [h3]); (try rw [h4]); (try rw [p1]); (try rw [p2]); (try rw [p3]); (try rw [p4]); (try rw [r1]); (try rw [r2]); (try rw [r3]); (try rw [r4]); (try rw [r5]); (try rw [r6]); (try rw [q3]); (try rw [q4]); (try rw [hp]); (try rw [hq]); go_big_quiet_on)))
            refine wpQuiet_nil ?_
            rintro _ ⟨tq, rfl⟩))
      refine wp_gen fun Y hY => ?_
      have EY : Ext Z Y := by rw [hY]; ((try simp only [ext_drew]); (try simp only [ext_ext]); repeat (first | exact Ext.refl _ | with_reducible apply Ext.add | with_reducible apply Ext.dr | apply Ext.alloc | apply Ext.ext | apply Ext.drew | refine Ext.trans ?_ (by assumption)))
      have hYs := EY.size
      have lS := lt_blk HO.out
      obtain ⟨_, hbM, rfl⟩ := HHZ.out.at (.head _)
      have lM2 := lt_blk hbM
      obtain ⟨_, hbR, rfl⟩ := HHZ.out.at (.tail _ (.head _))
      have lR2 := lt_blk hbR
      have hpY : p < Y.heap.size := by have := HRZ.out.lt; omega
      have HJ := hid (show Rdr lo p (Q + 20) Y ∧ Held [(S5, IsPcl), (M, fun o => o = oMp m), (R, fun o => o = oPcl ⟨0, 0, ⟨0, 0, 0, 0, 0⟩, 0⟩)] Y from ⟨(HRZ.out.of EY).up (by omega), Held.cons ((EY.block lS).trans HO.out) ⟨_, rfl⟩ (Held.cons ((EY.block lM2).trans hbM) rfl (Held.cons ((EY.block lR2).trans hbR) rfl Held.nil))⟩)
      have HCY := hid (HCZ.out.trans (Chg.of_ext EY [p]))
      have hSM : S5 ≠ M := by omega
      have hSR : S5 ≠ R := by omega
      have hRM : R ≠ M := by omega
      clear hY EY HHZ HRZ HCZ HO hbM hbR
      refine wp_region_flowD [some 18, some 19, some 20, some 21, some 22, some 23, none] (fun a b => ChgT Y.heap.size [p, S5] (fun _ => False) a b) (fun i a b => match i with | 6 => Chg [S5] a b | _ => Chg [p] a b) (fun k9 w9 => Rdr lo p ((Q + 20) + 20 * k9) w9 ∧ Held [(S5, IsPcl), (M, fun o => o = oMp m), (R, fun o => o = oPcl ⟨0, 0, ⟨0, 0, 0, 0, 0⟩, 0⟩)] w9) (fun i v9 w9 => match i with
        | 0 => v9 = .pointer (some ⟨S5, 0, none⟩)
        | 1 => ∃ x : Int, v9 = .int .i64 x
        | 2 => v9 = .pointer (some ⟨p, 0, none⟩)
        | 3 => v9 = .agg #[.int .i64 (m.c), .int .i64 (m.w)]
        | 4 => InW (v9)
        | 5 => InP (v9)
        | _ => BlkP S5 (fun o => ∃ x, o = oPcl x ∧ True) w9) (by kernel_rfl) (by decide +kernel) (by simp) (fun a => ChgT.refl _ _ _ a) (fun a b c h k => ChgT.trans h k) ?_ (ChgT.of (Chg.drew (Chg.refl [] _)) (by simp)) ?_ ?_ ?_ ?_
      · intro i a b hi hG
        have hi9 : i < 7 := hi
        clear hi
        match i, hi9, hG with
        | 0, _, hG => exact ChgT.of hG (by simp; omega)
        | 1, _, hG => exact ChgT.of hG (by simp; omega)
        | 2, _, hG => exact ChgT.of hG (by simp; omega)
        | 3, _, hG => exact ChgT.of hG (by simp; omega)
        | 4, _, hG => exact ChgT.of hG (by simp; omega)
        | 5, _, hG => exact ChgT.of hG (by simp; omega)
        | 6, _, hG => exact ChgT.of hG (by simp; omega)
        | n + 7, h9, _ => exact absurd h9 (by omega)
      · exact ⟨HJ.out.1.of (by ((try simp only [ext_drew]); (try simp only [ext_ext]); repeat (first | exact Ext.refl _ | with_reducible apply Ext.add | with_reducible apply Ext.dr | apply Ext.alloc | apply Ext.ext | apply Ext.drew | refine Ext.trans ?_ (by assumption)))), HJ.out.2.drw⟩
      · intro i j hi hj hij v9 w9 w8 hg hS hG
        have hi9 : i < 7 := hi
        have hj9 : j < 7 := hj
        have hG0 := hG
        have hG2 : ChgT Y.heap.size [p, S5] (fun _ => False) w9 w8 := by
          clear hG0 hij hi hj hS
          match i, hi9, hG with
          | 0, _, hG => exact ChgT.of hG (by simp; omega)
          | 1, _, hG => exact ChgT.of hG (by simp; omega)
          | 2, _, hG => exact ChgT.of hG (by simp; omega)
          | 3, _, hG => exact ChgT.of hG (by simp; omega)
          | 4, _, hG => exact ChgT.of hG (by simp; omega)
          | 5, _, hG => exact ChgT.of hG (by simp; omega)
          | 6, _, hG => exact ChgT.of hG (by simp; omega)
          | n + 7, h9, _ => exact absurd h9 (by omega)
        clear hi hj hG
        match j, hj9 with
        | 0, _ => exact hS
        | 1, _ => exact hS
        | 2, _ => exact hS
        | 3, _ => exact hS
        | 4, _ => exact hS
        | 5, _ => exact hS
        | 6, _ =>
          match i, hi9, hG0, hij with
          | 0, _, hG, _ => exact BlkP.chg hS hG (by simp; omega)
          | 1, _, hG, _ => exact BlkP.chg hS hG (by simp; omega)
          | 2, _, hG, _ => exact BlkP.chg hS hG (by simp; omega)
          | 3, _, hG, _ => exact BlkP.chg hS hG (by simp; omega)
          | 4, _, hG, _ => exact BlkP.chg hS hG (by simp; omega)
          | 5, _, hG, _ => exact BlkP.chg hS hG (by simp; omega)
          | 6, _, _, h9 => exact absurd rfl h9
          | n + 7, h9, _, _ => exact absurd h9 (by omega)
        | n + 7, h9 => exact absurd h9 (by omega)
      · intro i oo ho σ k9 w9 hG hk9 hJ hd
        have HG := hid hG
        have HJ9 := hid hJ
        have hW9 := hG.size
        have hkN : k9 < 7 := hk9
        have hi9 : i < 7 := (List.getElem?_eq_some_iff.1 ho).1
        clear hG hJ hk9
        match i, hi9, ho with
        | 0, _, ho =>
          obtain rfl := Option.some.inj ho
          clear hd ho
          simp only [actO, putO, List.setIfInBounds_toArray, List.set_cons_zero, List.set_cons_succ, Nat.reduceAdd]
          refine flow_K (fun K hK => ?_)
          go_simp
          (show K _ _)
          refine hK _ _ ⟨_, rfl, by simp, Chg.of_ext (show Ext _ _ from (by ((try simp only [ext_drew]); (try simp only [ext_ext]); repeat (first | exact Ext.refl _ | with_reducible apply Ext.add | with_reducible apply Ext.dr | apply Ext.alloc | apply Ext.ext | apply Ext.drew | refine Ext.trans ?_ (by assumption))))) _, ⟨(HJ9.out.1.of (show Ext _ _ from (by ((try simp only [ext_drew]); (try simp only [ext_ext]); repeat (first | exact Ext.refl _ | with_reducible apply Ext.add | with_reducible apply Ext.dr | apply Ext.alloc | apply Ext.ext | apply Ext.drew | refine Ext.trans ?_ (by assumption)))))).up (by omega), HJ9.out.2.of (show Ext _ _ from (by ((try simp only [ext_drew]); (try simp only [ext_ext]); repeat (first | exact Ext.refl _ | with_reducible apply Ext.add | with_reducible apply Ext.dr | apply Ext.alloc | apply Ext.ext | apply Ext.drew | refine Ext.trans ?_ (by assumption)))))⟩, rfl⟩
        | 1, _, ho =>
          have e0 : σ 0 = .pointer (some ⟨S5, 0, none⟩) := hd 0 (by obtain rfl := Option.some.inj ho; kernel_rfl)
          obtain ⟨_, hb, x0, rfl⟩ := HJ9.out.2.at (.head _)
          have cU := (cell_blk hb 0).trans rfl
          have zU := frozen_blk hb 0
          have lU := lt_blk hb
          obtain rfl := Option.some.inj ho
          clear hd ho
          simp only [actO, putO, List.setIfInBounds_toArray, List.set_cons_zero, List.set_cons_succ, Nat.reduceAdd, e0]
          refine flow_K (fun K hK => ?_)
          go_simp
          (show K _ _)
          refine hK _ _ ⟨_, rfl, by simp, Chg.of_ext (show Ext _ _ from (by ((try simp only [ext_drew]); (try simp only [ext_ext]); repeat (first | exact Ext.refl _ | with_reducible apply Ext.add | with_reducible apply Ext.dr | apply Ext.alloc | apply Ext.ext | apply Ext.drew | refine Ext.trans ?_ (by assumption))))) _, ⟨(HJ9.out.1.of (show Ext _ _ from (by ((try simp only [ext_drew]); (try simp only [ext_ext]); repeat (first | exact Ext.refl _ | with_reducible apply Ext.add | with_reducible apply Ext.dr | apply Ext.alloc | apply Ext.ext | apply Ext.drew | refine Ext.trans ?_ (by assumption)))))).up (by omega), HJ9.out.2.of (show Ext _ _ from (by ((try simp only [ext_drew]); (try simp only [ext_ext]); repeat (first | exact Ext.refl _ | with_reducible apply Ext.add | with_reducible apply Ext.dr | apply Ext.alloc | apply Ext.ext | apply Ext.drew | refine Ext.trans ?_ (by assumption)))))⟩, ⟨_, rfl⟩⟩
        | 2, _, ho =>
          obtain rfl := Option.some.inj ho
          clear hd ho
          simp only [actO, putO, List.setIfInBounds_toArray, List.set_cons_zero, List.set_cons_succ, Nat.reduceAdd]
          refine flow_K (fun K hK => ?_)
          go_simp
          (show K _ _)
          refine hK _ _ ⟨_, rfl, by simp, Chg.of_ext (show Ext _ _ from (by ((try simp only [ext_drew]); (try simp only [ext_ext]); repeat (first | exact Ext.refl _ | with_reducible apply Ext.add | with_reducible apply Ext.dr | apply Ext.alloc | apply Ext.ext | apply Ext.drew | refine Ext.trans ?_ (by assumption))))) _, ⟨(HJ9.out.1.of (show Ext _ _ from (by ((try simp only [ext_drew]); (try simp only [ext_ext]); repeat (first | exact Ext.refl _ | with_reducible apply Ext.add | with_reducible apply Ext.dr | apply Ext.alloc | apply Ext.ext | apply Ext.drew | refine Ext.trans ?_ (by assumption)))))).up (by omega), HJ9.out.2.of (show Ext _ _ from (by ((try simp only [ext_drew]); (try simp only [ext_ext]); repeat (first | exact Ext.refl _ | with_reducible apply Ext.add | with_reducible apply Ext.dr | apply Ext.alloc | apply Ext.ext | apply Ext.drew | refine Ext.trans ?_ (by assumption)))))⟩, rfl⟩
        | 3, _, ho =>
          obtain ⟨_, hbm, rfl⟩ := HJ9.out.2.at (.tail _ (.head _))
          have cM0 := (cell_blk hbm 0).trans (show _ = some (Value.int .i64 m.c) from rfl)
          have cM1 := (cell_blk hbm 1).trans (show _ = some (Value.int .i64 m.w) from rfl)
          have zM0 := frozen_blk hbm 0
          have zM1 := frozen_blk hbm 1
          have lM9 := lt_blk hbm
          clear hbm
          obtain rfl := Option.some.inj ho
          clear hd ho
          simp only [actO, putO, List.setIfInBounds_toArray, List.set_cons_zero, List.set_cons_succ, Nat.reduceAdd]
          refine flow_K (fun K hK => ?_)
          go_simp
          (show K _ _)
          refine hK _ _ ⟨_, rfl, by simp, Chg.of_ext (show Ext _ _ from (by ((try simp only [ext_drew]); (try simp only [ext_ext]); repeat (first | exact Ext.refl _ | with_reducible apply Ext.add | with_reducible apply Ext.dr | apply Ext.alloc | apply Ext.ext | apply Ext.drew | refine Ext.trans ?_ (by assumption))))) _, ⟨(HJ9.out.1.of (show Ext _ _ from (by ((try simp only [ext_drew]); (try simp only [ext_ext]); repeat (first | exact Ext.refl _ | with_reducible apply Ext.add | with_reducible apply Ext.dr | apply Ext.alloc | apply Ext.ext | apply Ext.drew | refine Ext.trans ?_ (by assumption)))))).up (by omega), HJ9.out.2.of (show Ext _ _ from (by ((try simp only [ext_drew]); (try simp only [ext_ext]); repeat (first | exact Ext.refl _ | with_reducible apply Ext.add | with_reducible apply Ext.dr | apply Ext.alloc | apply Ext.ext | apply Ext.drew | refine Ext.trans ?_ (by assumption)))))⟩, rfl⟩
        | 4, _, ho =>
          have e2 : σ 2 = .pointer (some ⟨p, 0, none⟩) := hd 2 (by obtain rfl := Option.some.inj ho; kernel_rfl)
          have e3 : σ 3 = .agg #[.int .i64 (m.c), .int .i64 (m.w)] := hd 3 (by obtain rfl := Option.some.inj ho; kernel_rfl)
          obtain rfl := Option.some.inj ho
          clear hd ho
          simp only [actO, putO, List.setIfInBounds_toArray, List.set_cons_zero, List.set_cons_succ, Nat.reduceAdd, e2, e3]
          refine flow_K (fun K hK => ?_)
          have HRd := hid HJ9.out.1
          go_simp
          refine (l20Walker_c lo p _ m w9 HRd.out (by omega) HM.out).mono ?_
          rintro e w8 ⟨vv, rfl, hy, hR8, hC8⟩
          (show K _ _)
          refine hK _ _ ⟨_, rfl, by simp, hC8, ⟨hR8.up (by omega), HJ9.out.2.chg hC8 (by simp; omega)⟩, ⟨vv, rfl, hy⟩⟩
        | 5, _, ho =>
          obtain ⟨x1, e1⟩ : ∃ x : Int, σ 1 = .int .i64 x := hd 1 (by obtain rfl := Option.some.inj ho; kernel_rfl)
          obtain ⟨x4, e4, h4⟩ : InW (σ 4) := hd 4 (by obtain rfl := Option.some.inj ho; kernel_rfl)
          obtain rfl := Option.some.inj ho
          clear hd ho
          simp only [actO, putO, List.setIfInBounds_toArray, List.set_cons_zero, List.set_cons_succ, Nat.reduceAdd, e1, e4]
          refine flow_K (fun K hK => ?_)
          go_simp
          (show K _ _)
          refine hK _ _ ⟨_, rfl, by simp, Chg.of_ext (show Ext _ _ from (by ((try simp only [ext_drew]); (try simp only [ext_ext]); repeat (first | exact Ext.refl _ | with_reducible apply Ext.add | with_reducible apply Ext.dr | apply Ext.alloc | apply Ext.ext | apply Ext.drew | refine Ext.trans ?_ (by assumption))))) _, ⟨(HJ9.out.1.of (show Ext _ _ from (by ((try simp only [ext_drew]); (try simp only [ext_ext]); repeat (first | exact Ext.refl _ | with_reducible apply Ext.add | with_reducible apply Ext.dr | apply Ext.alloc | apply Ext.ext | apply Ext.drew | refine Ext.trans ?_ (by assumption)))))).up (by omega), HJ9.out.2.of (show Ext _ _ from (by ((try simp only [ext_drew]); (try simp only [ext_ext]); repeat (first | exact Ext.refl _ | with_reducible apply Ext.add | with_reducible apply Ext.dr | apply Ext.alloc | apply Ext.ext | apply Ext.drew | refine Ext.trans ?_ (by assumption)))))⟩, ⟨⟨x1, 1, x4, 0⟩, rfl, trivial⟩⟩
        | 6, _, ho =>
          obtain ⟨x5, e5, h5⟩ : InP (σ 5) := hd 5 (by obtain rfl := Option.some.inj ho; kernel_rfl)
          obtain ⟨_, hb0, x0, rfl⟩ := HJ9.out.2.at (.head _)
          have cR0 := (cell_blk hb0 0).trans rfl
          have zR0 := frozen_blk hb0 0
          have cR1 := (cell_blk hb0 1).trans rfl
          have zR1 := frozen_blk hb0 1
          have cR2 := (cell_blk hb0 2).trans rfl
          have zR2 := frozen_blk hb0 2
          have cR3 := (cell_blk hb0 3).trans rfl
          have zR3 := frozen_blk hb0 3
          have cR4 := (cell_blk hb0 4).trans rfl
          have zR4 := frozen_blk hb0 4
          have cR5 := (cell_blk hb0 5).trans rfl
          have zR5 := frozen_blk hb0 5
          have cR6 := (cell_blk hb0 6).trans rfl
          have zR6 := frozen_blk hb0 6
          have cR7 := (cell_blk hb0 7).trans rfl
          have zR7 := frozen_blk hb0 7
          have lR9 := lt_blk hb0
          have HB0 := hid hb0
          clear hb0
          obtain rfl := Option.some.inj ho
          clear hd ho
          simp only [actO, putO, List.setIfInBounds_toArray, List.set_cons_zero, List.set_cons_succ, Nat.reduceAdd, e5]
          refine flow_K (fun K hK => ?_)
          go_simp
          (show K _ _)
          refine hK _ _ ⟨undef, rfl, fun _ => rfl, (by repeat (first | with_reducible exact Chg.refl _ _ | with_reducible apply Chg.drew | with_reducible apply Chg.drewl | with_reducible refine Chg.turn (by simp) | with_reducible refine Chg.both ?_ (by simp) | (with_reducible refine Chg.set ?_ (by simp) _) | with_reducible apply Chg.alloc | with_reducible apply Chg.ext)), ⟨(HJ9.out.1.chg (B := [S5]) (by repeat (first | with_reducible exact Chg.refl _ _ | with_reducible apply Chg.drew | with_reducible apply Chg.drewl | with_reducible refine Chg.turn (by simp) | with_reducible refine Chg.both ?_ (by simp) | (with_reducible refine Chg.set ?_ (by simp) _) | with_reducible apply Chg.alloc | with_reducible apply Chg.ext)) (by simp; omega) (Nat.le_refl _)).up (by omega), HJ9.out.2.put (R := S5) (by repeat (first | with_reducible exact Chg.refl _ _ | with_reducible apply Chg.drew | with_reducible apply Chg.drewl | with_reducible refine Chg.turn (by simp) | with_reducible refine Chg.both ?_ (by simp) | (with_reducible refine Chg.set ?_ (by simp) _) | with_reducible apply Chg.alloc | with_reducible apply Chg.ext)) (o := oPcl x5) (pcl_store (x := x5) HB0.out) (fun q hq hqR => ?_)⟩, ⟨_, pcl_store (x := x5) HB0.out, _, rfl, trivial⟩⟩
          simp only [List.mem_cons, List.not_mem_nil, or_false] at hq
          rcases hq with rfl | rfl | rfl
          · exact ⟨_, rfl⟩
          · exact absurd hqR (by dsimp only; omega)
          · exact absurd hqR (by dsimp only; omega)
      · intro σ w9 hG hJ hd
        have e0 : σ 0 = .pointer (some ⟨S5, 0, none⟩) := hd 0 (by decide)
        obtain ⟨x1, e1⟩ : ∃ x : Int, σ 1 = .int .i64 x := hd 1 (by decide)
        have e2 : σ 2 = .pointer (some ⟨p, 0, none⟩) := hd 2 (by decide)
        have e3 : σ 3 = .agg #[.int .i64 (m.c), .int .i64 (m.w)] := hd 3 (by decide)
        obtain ⟨x4, e4, h4⟩ : InW (σ 4) := hd 4 (by decide)
        obtain ⟨x5, e5, h5⟩ : InP (σ 5) := hd 5 (by decide)
        obtain ⟨_, hs6, x6, rfl, h6⟩ : BlkP S5 (fun o => ∃ x, o = oPcl x ∧ True) _ := hd 6 (by decide)
        have HG := hid hG
        have HJ9 := hid (show Rdr lo p ((Q + 20) + 20 * 7) w9 ∧ Held [(S5, IsPcl), (M, fun o => o = oMp m), (R, fun o => o = oPcl ⟨0, 0, ⟨0, 0, 0, 0, 0⟩, 0⟩)] w9 from hJ)
        clear hd hG hJ
        simp only [actO, putO, List.setIfInBounds_toArray, List.set_cons_zero, List.set_cons_succ, Nat.reduceAdd, e0, e1, e2, e3, e4, e5]
        clear e0 e1 e2 e3 e4 e5
        obtain ⟨_, hbR, rfl⟩ := HJ9.out.2.at (.tail _ (.tail _ (.head _)))
        have cs0 : w9.cell? ⟨S5, 0, none⟩ = some (.int .i64 x6.n) := (cell_blk hs6 0).trans rfl
        have cs1 : w9.cell? ⟨S5, 1, none⟩ = some (.int .i64 x6.kind) := (cell_blk hs6 1).trans rfl
        have cs2 : w9.cell? ⟨S5, 2, none⟩ = some (.int .i64 x6.wk.id) := (cell_blk hs6 2).trans rfl
        have cs3 : w9.cell? ⟨S5, 3, none⟩ = some (.int .i64 x6.wk.at_) := (cell_blk hs6 3).trans rfl
        have cs4 : w9.cell? ⟨S5, 4, none⟩ = some (.int .i64 x6.wk.coins) := (cell_blk hs6 4).trans rfl
        have cs5 : w9.cell? ⟨S5, 5, none⟩ = some (.int .i64 x6.wk.seq) := (cell_blk hs6 5).trans rfl
        have cs6 : w9.cell? ⟨S5, 6, none⟩ = some (.int .i64 x6.wk.last) := (cell_blk hs6 6).trans rfl
        have cs7 : w9.cell? ⟨S5, 7, none⟩ = some (.int .i64 x6.coins) := (cell_blk hs6 7).trans rfl
        have zcs0 := frozen_blk hs6 0
        have zcs1 := frozen_blk hs6 1
        have zcs2 := frozen_blk hs6 2
        have zcs3 := frozen_blk hs6 3
        have zcs4 := frozen_blk hs6 4
        have zcs5 := frozen_blk hs6 5
        have zcs6 := frozen_blk hs6 6
        have zcs7 := frozen_blk hs6 7
        have cr0 : w9.cell? ⟨R, 0, none⟩ = some (.int .i64 0) := (cell_blk hbR 0).trans rfl
        have cr1 : w9.cell? ⟨R, 1, none⟩ = some (.int .i64 0) := (cell_blk hbR 1).trans rfl
        have cr2 : w9.cell? ⟨R, 2, none⟩ = some (.int .i64 0) := (cell_blk hbR 2).trans rfl
        have cr3 : w9.cell? ⟨R, 3, none⟩ = some (.int .i64 0) := (cell_blk hbR 3).trans rfl
        have cr4 : w9.cell? ⟨R, 4, none⟩ = some (.int .i64 0) := (cell_blk hbR 4).trans rfl
        have cr5 : w9.cell? ⟨R, 5, none⟩ = some (.int .i64 0) := (cell_blk hbR 5).trans rfl
        have cr6 : w9.cell? ⟨R, 6, none⟩ = some (.int .i64 0) := (cell_blk hbR 6).trans rfl
        have cr7 : w9.cell? ⟨R, 7, none⟩ = some (.int .i64 0) := (cell_blk hbR 7).trans rfl
        have zcr0 := frozen_blk hbR 0
        have zcr1 := frozen_blk hbR 1
        have zcr2 := frozen_blk hbR 2
        have zcr3 := frozen_blk hbR 3
        have zcr4 := frozen_blk hbR 4
        have zcr5 := frozen_blk hbR 5
        have zcr6 := frozen_blk hbR 6
        have zcr7 := frozen_blk hbR 7
        have lS9 := lt_blk hs6
        have lR9 := lt_blk hbR
        have HRF := hid HJ9.out.1
        have HCF := hid ((HCY.out.mono (B' := [p, S5]) (by simp)).trans (HG.out.chg rfl))
        clear hs6 hbR HJ9 HG HJ HCY
        try go_wp2_with (first
            | fail
            | (
              with_reducible refine wp_region_mix (by kernel_rfl) (by decide +kernel) ?_
              repeat (first
                | (refine mix_pure rfl ?_; (first | go_big_quiet_skip | (go_big_quiet_want; go_big_quiet_op; go_big_quiet_on)); refine wpQuiet_nil ?_)
                | (refine mix_skip (by rfl) ?_; (try simp only [Act.put, List.setIfInBounds_toArray, List.set_cons_zero, List.set_cons_succ]))
                | (refine mix_mk rfl (by rfl) (fun K hK => ?_); (first | (go_simp; first | skip)); (show K _ _); refine hK _ _ (show Ext _ _ from (by ((try simp only [ext_drew]); (try simp only [ext_ext]); repeat (first | exact Ext.refl _ | with_reducible apply Ext.add | with_reducible apply Ext.dr | apply Ext.alloc | apply Ext.ext | apply Ext.drew | refine Ext.trans ?_ (by assumption))))) ?_; clear hK K; (try simp only [Act.put, List.setIfInBounds_toArray, List.set_cons_zero, List.set_cons_succ])))
              refine mix_nil ?_)
            | (
              with_reducible refine wp_region_ext (by kernel_rfl) (by kernel_rfl) ?_
              repeat (first | go_big_quiet_skip | (go_big_quiet_want; go_big_quiet_op; first | go_big_quiet_on | (apply Exists.intro; refine ⟨fun _ => ?_, ?_⟩; (fail); (try rw [h1]); (try rw [h2]); (try rw [h3]); (try rw [h4]); (try rw [p1]); (try rw [p2]); (try rw [p3]); (try rw [p4]); (try rw [r1]); (try rw [r2]); (try rw [r3]); (try rw [r4]); (try rw [r5]); (try rw [r6]); (try rw [q3]); (try rw [q4]); (try rw [hp]); (try rw [hq]); go_big_quiet_on)))
              refine wpQuiet_nil ?_
              rintro _ ⟨tq, rfl⟩))
        refine bodyPost_ret (v := .agg #[.int .i64 x6.n, .int .i64 x6.kind, .int .i64 x6.wk.id, .int .i64 x6.wk.at_, .int .i64 x6.wk.coins, .int .i64 x6.wk.seq, .int .i64 x6.wk.last, .int .i64 x6.coins]) (by simp [results, Try.results85, go_sem, cs0, cs1, cs2, cs3, cs4, cs5, cs6, cs7, cr0, cr1, cr2, cr3, cr4, cr5, cr6, cr7, lS9, lR9, hSR]) rfl ?_
        exact ⟨x6, rfl, (HRF.out.chg (B := [R]) (by repeat (first | with_reducible exact Chg.refl _ _ | with_reducible apply Chg.drew | (with_reducible refine Chg.extR ?_ (by simp)) | (with_reducible refine Chg.set ?_ (by simp) _) | with_reducible apply Chg.alloc | with_reducible apply Chg.ext | with_reducible refine Chg.trans ?_ (Hid.out (by assumption)))) (by simp; omega) (Nat.le_refl _)).up (by omega), Chg.fin (B := [S5, R]) ((HCF.out.mono (B' := [p, S5, R]) (by simp)).trans (by repeat (first | with_reducible exact Chg.refl _ _ | with_reducible apply Chg.drew | (with_reducible refine Chg.extR ?_ (by simp)) | (with_reducible refine Chg.set ?_ (by simp) _) | with_reducible apply Chg.alloc | with_reducible apply Chg.ext | with_reducible refine Chg.trans ?_ (Hid.out (by assumption))))) (by simp; omega)⟩
    · have g : (v == 0) = false := beq_f hv
      clear hv
      obtain ⟨_, hbR, rfl⟩ := HHZ.out.at (.tail _ (.head _))
      have cs0 : Z.cell? ⟨S5, 0, none⟩ = some (.int .i64 x9.n) := (cell_blk HO.out 0).trans rfl
      have cs1 : Z.cell? ⟨S5, 1, none⟩ = some (.int .i64 x9.kind) := (cell_blk HO.out 1).trans rfl
      have cs2 : Z.cell? ⟨S5, 2, none⟩ = some (.int .i64 x9.wk.id) := (cell_blk HO.out 2).trans rfl
      have cs3 : Z.cell? ⟨S5, 3, none⟩ = some (.int .i64 x9.wk.at_) := (cell_blk HO.out 3).trans rfl
      have cs4 : Z.cell? ⟨S5, 4, none⟩ = some (.int .i64 x9.wk.coins) := (cell_blk HO.out 4).trans rfl
      have cs5 : Z.cell? ⟨S5, 5, none⟩ = some (.int .i64 x9.wk.seq) := (cell_blk HO.out 5).trans rfl
      have cs6 : Z.cell? ⟨S5, 6, none⟩ = some (.int .i64 x9.wk.last) := (cell_blk HO.out 6).trans rfl
      have cs7 : Z.cell? ⟨S5, 7, none⟩ = some (.int .i64 x9.coins) := (cell_blk HO.out 7).trans rfl
      have zcs0 := frozen_blk HO.out 0
      have zcs1 := frozen_blk HO.out 1
      have zcs2 := frozen_blk HO.out 2
      have zcs3 := frozen_blk HO.out 3
      have zcs4 := frozen_blk HO.out 4
      have zcs5 := frozen_blk HO.out 5
      have zcs6 := frozen_blk HO.out 6
      have zcs7 := frozen_blk HO.out 7
      have cr0 : Z.cell? ⟨R, 0, none⟩ = some (.int .i64 0) := (cell_blk hbR 0).trans rfl
      have cr1 : Z.cell? ⟨R, 1, none⟩ = some (.int .i64 0) := (cell_blk hbR 1).trans rfl
      have cr2 : Z.cell? ⟨R, 2, none⟩ = some (.int .i64 0) := (cell_blk hbR 2).trans rfl
      have cr3 : Z.cell? ⟨R, 3, none⟩ = some (.int .i64 0) := (cell_blk hbR 3).trans rfl
      have cr4 : Z.cell? ⟨R, 4, none⟩ = some (.int .i64 0) := (cell_blk hbR 4).trans rfl
      have cr5 : Z.cell? ⟨R, 5, none⟩ = some (.int .i64 0) := (cell_blk hbR 5).trans rfl
      have cr6 : Z.cell? ⟨R, 6, none⟩ = some (.int .i64 0) := (cell_blk hbR 6).trans rfl
      have cr7 : Z.cell? ⟨R, 7, none⟩ = some (.int .i64 0) := (cell_blk hbR 7).trans rfl
      have zcr0 := frozen_blk hbR 0
      have zcr1 := frozen_blk hbR 1
      have zcr2 := frozen_blk hbR 2
      have zcr3 := frozen_blk hbR 3
      have zcr4 := frozen_blk hbR 4
      have zcr5 := frozen_blk hbR 5
      have zcr6 := frozen_blk hbR 6
      have zcr7 := frozen_blk hbR 7
      have lS9 := lt_blk HO.out
      have lR9 := lt_blk hbR
      have hSR : S5 ≠ R := by omega
      have hRS : R ≠ S5 := by omega
      clear hbR HO
      try go_wp2_with (first
          | fail
          | (
            with_reducible refine wp_region_mix (by kernel_rfl) (by decide +kernel) ?_
            repeat (first
              | (refine mix_pure rfl ?_; (first | go_big_quiet_skip | (go_big_quiet_want; go_big_quiet_op; go_big_quiet_on)); refine wpQuiet_nil ?_)
              | (refine mix_skip (by rfl) ?_; (try simp only [Act.put, List.setIfInBounds_toArray, List.set_cons_zero, List.set_cons_succ]))
              | (refine mix_mk rfl (by rfl) (fun K hK => ?_); (first | (go_simp; first | skip)); (show K _ _); refine hK _ _ (show Ext _ _ from (by ((try simp only [ext_drew]); (try simp only [ext_ext]); repeat (first | exact Ext.refl _ | with_reducible apply Ext.add | with_reducible apply Ext.dr | apply Ext.alloc | apply Ext.ext | apply Ext.drew | refine Ext.trans ?_ (by assumption))))) ?_; clear hK K; (try simp only [Act.put, List.setIfInBounds_toArray, List.set_cons_zero, List.set_cons_succ])))
            refine mix_nil ?_)
          | (
            with_reducible refine wp_region_ext (by kernel_rfl) (by kernel_rfl) ?_
            repeat (first | go_big_quiet_skip | (go_big_quiet_want; go_big_quiet_op; first | go_big_quiet_on | (apply Exists.intro; refine ⟨fun _ => ?_, ?_⟩; (fail); (try rw [h1]); (try rw [h2]); (try rw [h3]); (try rw [h4]); (try rw [p1]); (try rw [p2]); (try rw [p3]); (try rw [p4]); (try rw [r1]); (try rw [r2]); (try rw [r3]); (try rw [r4]); (try rw [r5]); (try rw [r6]); (try rw [q3]); (try rw [q4]); (try rw [hp]); (try rw [hq]); go_big_quiet_on)))
            refine wpQuiet_nil ?_
            rintro _ ⟨tq, rfl⟩))
      refine bodyPost_ret (v := .agg #[.int .i64 x9.n, .int .i64 x9.kind, .int .i64 x9.wk.id, .int .i64 x9.wk.at_, .int .i64 x9.wk.coins, .int .i64 x9.wk.seq, .int .i64 x9.wk.last, .int .i64 x9.coins]) (by simp [results, Try.results85, go_sem, cs0, cs1, cs2, cs3, cs4, cs5, cs6, cs7, cr0, cr1, cr2, cr3, cr4, cr5, cr6, cr7, lS9, lR9, hSR]) rfl ?_
      exact ⟨x9, rfl, (HRZ.out.chg (B := [R]) (by repeat (first | with_reducible exact Chg.refl _ _ | with_reducible apply Chg.drew | (with_reducible refine Chg.extR ?_ (by simp)) | (with_reducible refine Chg.set ?_ (by simp) _) | with_reducible apply Chg.alloc | with_reducible apply Chg.ext | with_reducible refine Chg.trans ?_ (Hid.out (by assumption)))) (by simp; omega) (Nat.le_refl _)).up (by omega), Chg.fin (B := [R]) ((HCZ.out.mono (B' := [p, R]) (by simp)).trans (by repeat (first | with_reducible exact Chg.refl _ _ | with_reducible apply Chg.drew | (with_reducible refine Chg.extR ?_ (by simp)) | (with_reducible refine Chg.set ?_ (by simp) _) | with_reducible apply Chg.alloc | with_reducible apply Chg.ext | with_reducible refine Chg.trans ?_ (Hid.out (by assumption))))) (by simp; omega)⟩
end Go.Proofs.Ytbbpipbemhggdaa
