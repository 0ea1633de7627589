/- A walker drawn. -/
import Derived.Test.YtbbpipbemhggdaaDw
namespace Go.Proofs.Ytbbpipbemhggdaa
open Go.RowKit
set_option linter.unusedSimpArgs false
set_option linter.unusedVariables false

theorem map_mul {m : Mp} (h : MapIn m) : (-81 ≤ m.c * m.w ∧ m.c * m.w ≤ 81) ∧ (plcOk m = true → 1 ≤ m.c * m.w) := by
  obtain ⟨h1, h2, h3, h4⟩ := h
  have key : ∀ a b : Int, -1 ≤ a → a ≤ 9 → -1 ≤ b → b ≤ 9 → -81 ≤ a * b ∧ a * b ≤ 81 := fun a b a0 a1 b0 b1 => by
    have ha : a = -1 ∨ a = 0 ∨ a = 1 ∨ a = 2 ∨ a = 3 ∨ a = 4 ∨ a = 5 ∨ a = 6 ∨ a = 7 ∨ a = 8 ∨ a = 9 := by omega
    rcases ha with rfl | rfl | rfl | rfl | rfl | rfl | rfl | rfl | rfl | rfl | rfl <;> omega
  refine ⟨key _ _ h1 h2 h3 h4, fun ok => ?_⟩
  obtain ⟨hc, hw⟩ := plcOk_iff.1 ok
  have : 0 < m.c * m.w := Int.mul_pos (by omega) (by omega)
  omega
set_option maxRecDepth 100000 in
set_option maxHeartbeats 8000000 in
theorem l20Walker_c (lo p Q : Nat) (m : Mp) (w : World) (h : Rdr lo p Q w) (hQ : Q ≤ 90000) (hm : MapIn m) :
    Calls Try.prog 89 #[.pointer (some ⟨p, 0, none⟩), .agg #[.int .i64 m.c, .int .i64 m.w]] w fun e w' => ∃ x : Wlk, e = .returned (.agg #[.int .i64 x.id, .int .i64 x.at_, .int .i64 x.coins, .int .i64 x.seq, .int .i64 x.last]) ∧ WlkIn x ∧ Rdr lo p (Q + 20) w' ∧ Chg [p] w w' := by
  have lP := h.lt
  have hlo := h.lo
  have HR := hid h
  obtain ⟨⟨mu0, mu1⟩, mu2⟩ := map_mul hm
  obtain ⟨m0, m1, m2, m3⟩ := hm
  obtain ⟨nn, hnn, n1, n2⟩ : ∃ nn : Int, (if plcOk m = true then m.c * m.w else 4) = nn ∧ 1 ≤ nn ∧ nn ≤ 81 := by
    refine ⟨_, rfl, ?_, ?_⟩ <;> split <;> rename_i hq <;> first | exact mu2 hq | omega
  have HNN := hid hnn
  clear h hnn mu2
  go_enter Try.func89, Try.ntmps89
  cases q : plcOk m with
  | false =>
    have e0 : nn = 4 := by have := HNN.out; rw [q] at this; simpa using this.symm
    clear e0 HNN
    go_wp2_with (first | (go_at_call 14; refine (sPlcOk_c _ _).mono ?_; rintro e w' ⟨rfl, t, rfl⟩))
    refine wp_gen fun V hV => ?_
    have EV : Ext w V := by rw [hV]; ((try simp only [ext_drew]); (try simp only [ext_ext]); repeat (first | exact Ext.refl _ | with_reducible apply Ext.add | with_reducible apply Ext.dr | apply Ext.alloc | apply Ext.ext | apply Ext.drew | refine Ext.trans ?_ (by assumption)))
    have hb : V.heap[w.heap.size + 1]? = some (.cells #[.int .i64 0, .int .i64 0, .int .i64 0, .int .i64 0, .int .i64 0] 52 (0, 0)) := by rw [hV]; (repeat (first | with_reducible refine blk_ext ?_ | with_reducible apply blk_drew)); exact alloc_last (by simp)
    obtain ⟨R, hRe⟩ : ∃ R, w.heap.size + 1 = R := ⟨_, rfl⟩
    rw [hRe] at hb ⊢
    have hRW := lt_blk hb
    have hpW : p < V.heap.size := Nat.lt_of_lt_of_le lP EV.size
    have hRp : R ≠ p := by omega
    have hloR : lo ≤ R := by omega
    have HJ := hid (show Rdr lo p Q V ∧ WlkB R V from ⟨HR.out.of EV, ⟨⟨0, 0, 0, 0, 0⟩, hb⟩⟩)
    have HEV := hid EV
    have hwR : w.heap.size ≤ R := by omega
    clear hV hb hRe EV
    refine wp_region_flowD [some 14, some 15, some 16, some 17, some 18, some 19, some 20, some 21, some 22, some 23, some 24, some 25, some 26, some 27, some 28, some 29, some 30, some 31, some 32, none] (fun a b => Chg [p, R] a b) (fun i a b => Chg (bif i == 19 then [R] else [p]) a b) (fun k9 w9 => Rdr lo p (Q + 1 * k9) w9 ∧ WlkB R w9) (fun i v9 w9 => match i with
      | 0 => v9 = .pointer (some ⟨p, 0, none⟩)
      | 1 => InI 0 (8) (v9)
      | 2 => InI (1) (9) (v9)
      | 3 => v9 = .pointer (some ⟨p, 0, none⟩)
      | 4 => v9 = .int .i64 (4)
      | 5 => InI 0 (3) (v9)
      | 6 => MkI V.heap.size 6 (0) (99) (v9) w9
      | 7 => v9 = .pointer (some ⟨p, 0, none⟩)
      | 8 => InI 0 (5) (v9)
      | 9 => PtI V.heap.size 6 (0) (99) (v9) w9
      | 10 => InI (0) (99) (v9)
      | 11 => MkI V.heap.size 5 (0) (900) (v9) w9
      | 12 => v9 = .pointer (some ⟨p, 0, none⟩)
      | 13 => InI 0 (4) (v9)
      | 14 => PtI V.heap.size 5 (0) (900) (v9) w9
      | 15 => InI (0) (900) (v9)
      | 16 => v9 = .pointer (some ⟨p, 0, none⟩)
      | 17 => InI 0 (9) (v9)
      | 18 => InW (v9)
      | _ => WlkAt R w9) (by kernel_rfl) (by decide +kernel) (by simp) (fun a => Chg.refl _ a) (fun a b c h k => Chg.trans h k) ?_ (Chg.drew (Chg.refl _ _)) ?_ ?_ ?_ ?_
    · intro i a b hi hG
      refine hG.mono ?_
      cases (i == 19) <;> simp
    · exact ⟨HJ.out.1.of (by ((try simp only [ext_drew]); (try simp only [ext_ext]); repeat (first | exact Ext.refl _ | with_reducible apply Ext.add | with_reducible apply Ext.dr | apply Ext.alloc | apply Ext.ext | apply Ext.drew | refine Ext.trans ?_ (by assumption)))), HJ.out.2.drw⟩
    · intro i j hi hj hij v9 w9 w8 hg hS hG
      have hG2 : Chg [p, R] w9 w8 := hG.mono (by cases (i == 19) <;> simp)
      have hj9 : j < 20 := hj
      clear hi hj
      match j, hj9 with
      | 0, _ => exact hS
      | 1, _ => exact hS
      | 2, _ => exact hS
      | 3, _ => exact hS
      | 4, _ => exact hS
      | 5, _ => exact hS
      | 6, _ => exact MkI.chg hS hG2 (by simp; omega)
      | 7, _ => exact hS
      | 8, _ => exact hS
      | 9, _ => exact PtI.chg hS hG2 (by simp; omega)
      | 10, _ => exact hS
      | 11, _ => exact MkI.chg hS hG2 (by simp; omega)
      | 12, _ => exact hS
      | 13, _ => exact hS
      | 14, _ => exact PtI.chg hS hG2 (by simp; omega)
      | 15, _ => exact hS
      | 16, _ => exact hS
      | 17, _ => exact hS
      | 18, _ => exact hS
      | 19, _ =>
        have h9 : (i == 19) = false := by simpa using hij
        rw [h9, cond_false] at hG
        exact hS.chg hG (by simpa using hRp)
      | n + 20, h9 => exact absurd h9 (by omega)
    · intro i oo ho σ k9 w9 hG hk9 hJ hd
      have HG := hid hG
      have HJ9 := hid hJ
      have lp9 : p < w9.heap.size := Nat.lt_of_lt_of_le hpW hG.size
      have lR9 : R < w9.heap.size := Nat.lt_of_lt_of_le hRW hG.size
      have hW9 := hG.size
      have hkN : k9 < 20 := hk9
      have hi9 : i < 20 := (List.getElem?_eq_some_iff.1 ho).1
      clear hG hJ hk9
      match i, hi9, ho with
      | 0, _, ho =>
        obtain rfl := Option.some.inj ho
        clear hd ho
        simp only [actO, putO, List.setIfInBounds_toArray, List.set_cons_zero, List.set_cons_succ, Nat.reduceAdd]
        refine flow_K (fun K hK => ?_)
        go_simp
        (show K _ _)
        refine hK _ _ ⟨_, rfl, by simp, Chg.of_ext (show Ext _ _ from (by ((try simp only [ext_drew]); (try simp only [ext_ext]); repeat (first | exact Ext.refl _ | with_reducible apply Ext.add | with_reducible apply Ext.dr | apply Ext.alloc | apply Ext.ext | apply Ext.drew | refine Ext.trans ?_ (by assumption))))) _, ⟨(HJ9.out.1.of (show Ext _ _ from (by ((try simp only [ext_drew]); (try simp only [ext_ext]); repeat (first | exact Ext.refl _ | with_reducible apply Ext.add | with_reducible apply Ext.dr | apply Ext.alloc | apply Ext.ext | apply Ext.drew | refine Ext.trans ?_ (by assumption)))))).up (by omega), HJ9.out.2.of (show Ext _ _ from (by ((try simp only [ext_drew]); (try simp only [ext_ext]); repeat (first | exact Ext.refl _ | with_reducible apply Ext.add | with_reducible apply Ext.dr | apply Ext.alloc | apply Ext.ext | apply Ext.drew | refine Ext.trans ?_ (by assumption)))))⟩, rfl⟩
      | 1, _, ho =>
        have e0 : σ 0 = .pointer (some ⟨p, 0, none⟩) := hd 0 (by obtain rfl := Option.some.inj ho; kernel_rfl)
        obtain rfl := Option.some.inj ho
        clear hd ho
        simp only [actO, putO, List.setIfInBounds_toArray, List.set_cons_zero, List.set_cons_succ, Nat.reduceAdd, e0]
        refine flow_K (fun K hK => ?_)
        have HRd := hid HJ9.out.1
        go_simp
        refine (pick_c lo p _ (9) w9 HRd.out (by omega) (by omega) (by omega)).mono ?_
        rintro e w8 ⟨vv, rfl, hv0, hv1, hR8, hC8⟩
        (show K _ _)
        refine hK _ _ ⟨_, rfl, by simp, hC8, ⟨hR8.up (by omega), HJ9.out.2.chg hC8 (by simpa using hRp)⟩, ⟨vv, rfl, hv0, by omega⟩⟩
      | 2, _, ho =>
        obtain ⟨x1, e1, y1, z1⟩ : InI 0 (8) (σ 1) := hd 1 (by obtain rfl := Option.some.inj ho; kernel_rfl)
        have hwr : IntKind.i64.wrap (1 + x1) = 1 + x1 := by simp [IntKind.wrap, IntKind.bits, IntKind.signed]; omega
        obtain rfl := Option.some.inj ho
        clear hd ho
        simp only [actO, putO, List.setIfInBounds_toArray, List.set_cons_zero, List.set_cons_succ, Nat.reduceAdd, e1]
        refine flow_K (fun K hK => ?_)
        go_simp
        (try rw [hwr])
        (show K _ _)
        refine hK _ _ ⟨_, rfl, by simp, Chg.of_ext (show Ext _ _ from (by ((try simp only [ext_drew]); (try simp only [ext_ext]); repeat (first | exact Ext.refl _ | with_reducible apply Ext.add | with_reducible apply Ext.dr | apply Ext.alloc | apply Ext.ext | apply Ext.drew | refine Ext.trans ?_ (by assumption))))) _, ⟨(HJ9.out.1.of (show Ext _ _ from (by ((try simp only [ext_drew]); (try simp only [ext_ext]); repeat (first | exact Ext.refl _ | with_reducible apply Ext.add | with_reducible apply Ext.dr | apply Ext.alloc | apply Ext.ext | apply Ext.drew | refine Ext.trans ?_ (by assumption)))))).up (by omega), HJ9.out.2.of (show Ext _ _ from (by ((try simp only [ext_drew]); (try simp only [ext_ext]); repeat (first | exact Ext.refl _ | with_reducible apply Ext.add | with_reducible apply Ext.dr | apply Ext.alloc | apply Ext.ext | apply Ext.drew | refine Ext.trans ?_ (by assumption)))))⟩, ⟨_, rfl, by omega, by omega⟩⟩
      | 3, _, ho =>
        obtain rfl := Option.some.inj ho
        clear hd ho
        simp only [actO, putO, List.setIfInBounds_toArray, List.set_cons_zero, List.set_cons_succ, Nat.reduceAdd]
        refine flow_K (fun K hK => ?_)
        go_simp
        (show K _ _)
        refine hK _ _ ⟨_, rfl, by simp, Chg.of_ext (show Ext _ _ from (by ((try simp only [ext_drew]); (try simp only [ext_ext]); repeat (first | exact Ext.refl _ | with_reducible apply Ext.add | with_reducible apply Ext.dr | apply Ext.alloc | apply Ext.ext | apply Ext.drew | refine Ext.trans ?_ (by assumption))))) _, ⟨(HJ9.out.1.of (show Ext _ _ from (by ((try simp only [ext_drew]); (try simp only [ext_ext]); repeat (first | exact Ext.refl _ | with_reducible apply Ext.add | with_reducible apply Ext.dr | apply Ext.alloc | apply Ext.ext | apply Ext.drew | refine Ext.trans ?_ (by assumption)))))).up (by omega), HJ9.out.2.of (show Ext _ _ from (by ((try simp only [ext_drew]); (try simp only [ext_ext]); repeat (first | exact Ext.refl _ | with_reducible apply Ext.add | with_reducible apply Ext.dr | apply Ext.alloc | apply Ext.ext | apply Ext.drew | refine Ext.trans ?_ (by assumption)))))⟩, rfl⟩
      | 4, _, ho =>
        obtain rfl := Option.some.inj ho
        clear hd ho
        simp only [actO, putO, List.setIfInBounds_toArray, List.set_cons_zero, List.set_cons_succ, Nat.reduceAdd]
        refine flow_K (fun K hK => ?_)
        go_simp
        (show K _ _)
        refine hK _ _ ⟨_, rfl, by simp, Chg.of_ext (show Ext _ _ from (by ((try simp only [ext_drew]); (try simp only [ext_ext]); repeat (first | exact Ext.refl _ | with_reducible apply Ext.add | with_reducible apply Ext.dr | apply Ext.alloc | apply Ext.ext | apply Ext.drew | refine Ext.trans ?_ (by assumption))))) _, ⟨(HJ9.out.1.of (show Ext _ _ from (by ((try simp only [ext_drew]); (try simp only [ext_ext]); repeat (first | exact Ext.refl _ | with_reducible apply Ext.add | with_reducible apply Ext.dr | apply Ext.alloc | apply Ext.ext | apply Ext.drew | refine Ext.trans ?_ (by assumption)))))).up (by omega), HJ9.out.2.of (show Ext _ _ from (by ((try simp only [ext_drew]); (try simp only [ext_ext]); repeat (first | exact Ext.refl _ | with_reducible apply Ext.add | with_reducible apply Ext.dr | apply Ext.alloc | apply Ext.ext | apply Ext.drew | refine Ext.trans ?_ (by assumption)))))⟩, rfl⟩
      | 5, _, ho =>
        have e3 : σ 3 = .pointer (some ⟨p, 0, none⟩) := hd 3 (by obtain rfl := Option.some.inj ho; kernel_rfl)
        have e4 : σ 4 = .int .i64 (4) := hd 4 (by obtain rfl := Option.some.inj ho; kernel_rfl)
        obtain rfl := Option.some.inj ho
        clear hd ho
        simp only [actO, putO, List.setIfInBounds_toArray, List.set_cons_zero, List.set_cons_succ, Nat.reduceAdd, e3, e4]
        refine flow_K (fun K hK => ?_)
        have HRd := hid HJ9.out.1
        go_simp
        refine (pick_c lo p _ (4) w9 HRd.out (by omega) (by omega) (by omega)).mono ?_
        rintro e w8 ⟨vv, rfl, hv0, hv1, hR8, hC8⟩
        (show K _ _)
        refine hK _ _ ⟨_, rfl, by simp, hC8, ⟨hR8.up (by omega), HJ9.out.2.chg hC8 (by simpa using hRp)⟩, ⟨vv, rfl, hv0, by omega⟩⟩
      | 6, _, ho =>
        obtain rfl := Option.some.inj ho
        clear hd ho
        simp only [actO, putO, List.setIfInBounds_toArray, List.set_cons_zero, List.set_cons_succ, Nat.reduceAdd]
        refine flow_K (fun K hK => ?_)
        go_simp
        (show K _ _)
        refine hK _ _ ⟨_, rfl, by simp, Chg.of_ext (show Ext _ _ from (by ((try simp only [ext_drew]); (try simp only [ext_ext]); repeat (first | exact Ext.refl _ | with_reducible apply Ext.add | with_reducible apply Ext.dr | apply Ext.alloc | apply Ext.ext | apply Ext.drew | refine Ext.trans ?_ (by assumption))))) _, ⟨(HJ9.out.1.of (show Ext _ _ from (by ((try simp only [ext_drew]); (try simp only [ext_ext]); repeat (first | exact Ext.refl _ | with_reducible apply Ext.add | with_reducible apply Ext.dr | apply Ext.alloc | apply Ext.ext | apply Ext.drew | refine Ext.trans ?_ (by assumption)))))).up (by omega), HJ9.out.2.of (show Ext _ _ from (by ((try simp only [ext_drew]); (try simp only [ext_ext]); repeat (first | exact Ext.refl _ | with_reducible apply Ext.add | with_reducible apply Ext.dr | apply Ext.alloc | apply Ext.ext | apply Ext.drew | refine Ext.trans ?_ (by assumption)))))⟩, ⟨_, rfl, by (try simp [go_sem]) <;> omega, ⟨_, heap_new (by simp [go_sem]), fun i hi => ?_⟩⟩⟩
        match i, hi with
        | 0, _ => exact ⟨0, rfl, by omega, by omega⟩
        | 1, _ => exact ⟨1, rfl, by omega, by omega⟩
        | 2, _ => exact ⟨5, rfl, by omega, by omega⟩
        | 3, _ => exact ⟨20, rfl, by omega, by omega⟩
        | 4, _ => exact ⟨95, rfl, by omega, by omega⟩
        | 5, _ => exact ⟨99, rfl, by omega, by omega⟩
      | 7, _, ho =>
        obtain rfl := Option.some.inj ho
        clear hd ho
        simp only [actO, putO, List.setIfInBounds_toArray, List.set_cons_zero, List.set_cons_succ, Nat.reduceAdd]
        refine flow_K (fun K hK => ?_)
        go_simp
        (show K _ _)
        refine hK _ _ ⟨_, rfl, by simp, Chg.of_ext (show Ext _ _ from (by ((try simp only [ext_drew]); (try simp only [ext_ext]); repeat (first | exact Ext.refl _ | with_reducible apply Ext.add | with_reducible apply Ext.dr | apply Ext.alloc | apply Ext.ext | apply Ext.drew | refine Ext.trans ?_ (by assumption))))) _, ⟨(HJ9.out.1.of (show Ext _ _ from (by ((try simp only [ext_drew]); (try simp only [ext_ext]); repeat (first | exact Ext.refl _ | with_reducible apply Ext.add | with_reducible apply Ext.dr | apply Ext.alloc | apply Ext.ext | apply Ext.drew | refine Ext.trans ?_ (by assumption)))))).up (by omega), HJ9.out.2.of (show Ext _ _ from (by ((try simp only [ext_drew]); (try simp only [ext_ext]); repeat (first | exact Ext.refl _ | with_reducible apply Ext.add | with_reducible apply Ext.dr | apply Ext.alloc | apply Ext.ext | apply Ext.drew | refine Ext.trans ?_ (by assumption)))))⟩, rfl⟩
      | 8, _, ho =>
        have e7 : σ 7 = .pointer (some ⟨p, 0, none⟩) := hd 7 (by obtain rfl := Option.some.inj ho; kernel_rfl)
        obtain rfl := Option.some.inj ho
        clear hd ho
        simp only [actO, putO, List.setIfInBounds_toArray, List.set_cons_zero, List.set_cons_succ, Nat.reduceAdd, e7]
        refine flow_K (fun K hK => ?_)
        have HRd := hid HJ9.out.1
        go_simp
        refine (pick_c lo p _ (6) w9 HRd.out (by omega) (by omega) (by omega)).mono ?_
        rintro e w8 ⟨vv, rfl, hv0, hv1, hR8, hC8⟩
        (show K _ _)
        refine hK _ _ ⟨_, rfl, by simp, hC8, ⟨hR8.up (by omega), HJ9.out.2.chg hC8 (by simpa using hRp)⟩, ⟨vv, rfl, hv0, by omega⟩⟩
      | 9, _, ho =>
        obtain ⟨b6, e6, hb6, ha6⟩ : MkI V.heap.size 6 (0) (99) (σ 6) _ := hd 6 (by obtain rfl := Option.some.inj ho; kernel_rfl)
        obtain ⟨x8, e8, y8, z8⟩ : InI 0 (5) (σ 8) := hd 8 (by obtain rfl := Option.some.inj ho; kernel_rfl)
        obtain ⟨i8, rfl⟩ : ∃ i : Nat, x8 = (i : Int) := ⟨x8.toNat, by omega⟩
        have hin : i8 < 6 := by omega
        have hin2 : (i8 : Int) < 6 := by omega
        obtain rfl := Option.some.inj ho
        clear hd ho
        simp only [actO, putO, List.setIfInBounds_toArray, List.set_cons_zero, List.set_cons_succ, Nat.reduceAdd, e6, e8]
        refine flow_K (fun K hK => ?_)
        go_simp
        (show K _ _)
        refine hK _ _ ⟨_, rfl, by simp, Chg.of_ext (show Ext _ _ from (by ((try simp only [ext_drew]); (try simp only [ext_ext]); repeat (first | exact Ext.refl _ | with_reducible apply Ext.add | with_reducible apply Ext.dr | apply Ext.alloc | apply Ext.ext | apply Ext.drew | refine Ext.trans ?_ (by assumption))))) _, ⟨(HJ9.out.1.of (show Ext _ _ from (by ((try simp only [ext_drew]); (try simp only [ext_ext]); repeat (first | exact Ext.refl _ | with_reducible apply Ext.add | with_reducible apply Ext.dr | apply Ext.alloc | apply Ext.ext | apply Ext.drew | refine Ext.trans ?_ (by assumption)))))).up (by omega), HJ9.out.2.of (show Ext _ _ from (by ((try simp only [ext_drew]); (try simp only [ext_ext]); repeat (first | exact Ext.refl _ | with_reducible apply Ext.add | with_reducible apply Ext.dr | apply Ext.alloc | apply Ext.ext | apply Ext.drew | refine Ext.trans ?_ (by assumption)))))⟩, ⟨_, _, rfl, hin, hb6, ha6⟩⟩
      | 10, _, ho =>
        obtain ⟨b9, k9, e9, hk9, hb9, ha9⟩ : PtI V.heap.size 6 (0) (99) (σ 9) _ := hd 9 (by obtain rfl := Option.some.inj ho; kernel_rfl)
        obtain ⟨y, hy, hy0, hy1⟩ := index_at ha9 hk9
        obtain rfl := Option.some.inj ho
        clear hd ho
        simp only [actO, putO, List.setIfInBounds_toArray, List.set_cons_zero, List.set_cons_succ, Nat.reduceAdd, e9]
        refine flow_K (fun K hK => ?_)
        go_simp
        (show K _ _)
        refine hK _ _ ⟨_, rfl, by simp, Chg.of_ext (show Ext _ _ from (by ((try simp only [ext_drew]); (try simp only [ext_ext]); repeat (first | exact Ext.refl _ | with_reducible apply Ext.add | with_reducible apply Ext.dr | apply Ext.alloc | apply Ext.ext | apply Ext.drew | refine Ext.trans ?_ (by assumption))))) _, ⟨(HJ9.out.1.of (show Ext _ _ from (by ((try simp only [ext_drew]); (try simp only [ext_ext]); repeat (first | exact Ext.refl _ | with_reducible apply Ext.add | with_reducible apply Ext.dr | apply Ext.alloc | apply Ext.ext | apply Ext.drew | refine Ext.trans ?_ (by assumption)))))).up (by omega), HJ9.out.2.of (show Ext _ _ from (by ((try simp only [ext_drew]); (try simp only [ext_ext]); repeat (first | exact Ext.refl _ | with_reducible apply Ext.add | with_reducible apply Ext.dr | apply Ext.alloc | apply Ext.ext | apply Ext.drew | refine Ext.trans ?_ (by assumption)))))⟩, ⟨y, rfl, hy0, hy1⟩⟩
      | 11, _, ho =>
        obtain rfl := Option.some.inj ho
        clear hd ho
        simp only [actO, putO, List.setIfInBounds_toArray, List.set_cons_zero, List.set_cons_succ, Nat.reduceAdd]
        refine flow_K (fun K hK => ?_)
        go_simp
        (show K _ _)
        refine hK _ _ ⟨_, rfl, by simp, Chg.of_ext (show Ext _ _ from (by ((try simp only [ext_drew]); (try simp only [ext_ext]); repeat (first | exact Ext.refl _ | with_reducible apply Ext.add | with_reducible apply Ext.dr | apply Ext.alloc | apply Ext.ext | apply Ext.drew | refine Ext.trans ?_ (by assumption))))) _, ⟨(HJ9.out.1.of (show Ext _ _ from (by ((try simp only [ext_drew]); (try simp only [ext_ext]); repeat (first | exact Ext.refl _ | with_reducible apply Ext.add | with_reducible apply Ext.dr | apply Ext.alloc | apply Ext.ext | apply Ext.drew | refine Ext.trans ?_ (by assumption)))))).up (by omega), HJ9.out.2.of (show Ext _ _ from (by ((try simp only [ext_drew]); (try simp only [ext_ext]); repeat (first | exact Ext.refl _ | with_reducible apply Ext.add | with_reducible apply Ext.dr | apply Ext.alloc | apply Ext.ext | apply Ext.drew | refine Ext.trans ?_ (by assumption)))))⟩, ⟨_, rfl, by (try simp [go_sem]) <;> omega, ⟨_, heap_new (by simp [go_sem]), fun i hi => ?_⟩⟩⟩
        match i, hi with
        | 0, _ => exact ⟨0, rfl, by omega, by omega⟩
        | 1, _ => exact ⟨0, rfl, by omega, by omega⟩
        | 2, _ => exact ⟨1, rfl, by omega, by omega⟩
        | 3, _ => exact ⟨7, rfl, by omega, by omega⟩
        | 4, _ => exact ⟨900, rfl, by omega, by omega⟩
      | 12, _, ho =>
        obtain rfl := Option.some.inj ho
        clear hd ho
        simp only [actO, putO, List.setIfInBounds_toArray, List.set_cons_zero, List.set_cons_succ, Nat.reduceAdd]
        refine flow_K (fun K hK => ?_)
        go_simp
        (show K _ _)
        refine hK _ _ ⟨_, rfl, by simp, Chg.of_ext (show Ext _ _ from (by ((try simp only [ext_drew]); (try simp only [ext_ext]); repeat (first | exact Ext.refl _ | with_reducible apply Ext.add | with_reducible apply Ext.dr | apply Ext.alloc | apply Ext.ext | apply Ext.drew | refine Ext.trans ?_ (by assumption))))) _, ⟨(HJ9.out.1.of (show Ext _ _ from (by ((try simp only [ext_drew]); (try simp only [ext_ext]); repeat (first | exact Ext.refl _ | with_reducible apply Ext.add | with_reducible apply Ext.dr | apply Ext.alloc | apply Ext.ext | apply Ext.drew | refine Ext.trans ?_ (by assumption)))))).up (by omega), HJ9.out.2.of (show Ext _ _ from (by ((try simp only [ext_drew]); (try simp only [ext_ext]); repeat (first | exact Ext.refl _ | with_reducible apply Ext.add | with_reducible apply Ext.dr | apply Ext.alloc | apply Ext.ext | apply Ext.drew | refine Ext.trans ?_ (by assumption)))))⟩, rfl⟩
      | 13, _, ho =>
        have e12 : σ 12 = .pointer (some ⟨p, 0, none⟩) := hd 12 (by obtain rfl := Option.some.inj ho; kernel_rfl)
        obtain rfl := Option.some.inj ho
        clear hd ho
        simp only [actO, putO, List.setIfInBounds_toArray, List.set_cons_zero, List.set_cons_succ, Nat.reduceAdd, e12]
        refine flow_K (fun K hK => ?_)
        have HRd := hid HJ9.out.1
        go_simp
        refine (pick_c lo p _ (5) w9 HRd.out (by omega) (by omega) (by omega)).mono ?_
        rintro e w8 ⟨vv, rfl, hv0, hv1, hR8, hC8⟩
        (show K _ _)
        refine hK _ _ ⟨_, rfl, by simp, hC8, ⟨hR8.up (by omega), HJ9.out.2.chg hC8 (by simpa using hRp)⟩, ⟨vv, rfl, hv0, by omega⟩⟩
      | 14, _, ho =>
        obtain ⟨b11, e11, hb11, ha11⟩ : MkI V.heap.size 5 (0) (900) (σ 11) _ := hd 11 (by obtain rfl := Option.some.inj ho; kernel_rfl)
        obtain ⟨x13, e13, y13, z13⟩ : InI 0 (4) (σ 13) := hd 13 (by obtain rfl := Option.some.inj ho; kernel_rfl)
        obtain ⟨i13, rfl⟩ : ∃ i : Nat, x13 = (i : Int) := ⟨x13.toNat, by omega⟩
        have hin : i13 < 5 := by omega
        have hin2 : (i13 : Int) < 5 := by omega
        obtain rfl := Option.some.inj ho
        clear hd ho
        simp only [actO, putO, List.setIfInBounds_toArray, List.set_cons_zero, List.set_cons_succ, Nat.reduceAdd, e11, e13]
        refine flow_K (fun K hK => ?_)
        go_simp
        (show K _ _)
        refine hK _ _ ⟨_, rfl, by simp, Chg.of_ext (show Ext _ _ from (by ((try simp only [ext_drew]); (try simp only [ext_ext]); repeat (first | exact Ext.refl _ | with_reducible apply Ext.add | with_reducible apply Ext.dr | apply Ext.alloc | apply Ext.ext | apply Ext.drew | refine Ext.trans ?_ (by assumption))))) _, ⟨(HJ9.out.1.of (show Ext _ _ from (by ((try simp only [ext_drew]); (try simp only [ext_ext]); repeat (first | exact Ext.refl _ | with_reducible apply Ext.add | with_reducible apply Ext.dr | apply Ext.alloc | apply Ext.ext | apply Ext.drew | refine Ext.trans ?_ (by assumption)))))).up (by omega), HJ9.out.2.of (show Ext _ _ from (by ((try simp only [ext_drew]); (try simp only [ext_ext]); repeat (first | exact Ext.refl _ | with_reducible apply Ext.add | with_reducible apply Ext.dr | apply Ext.alloc | apply Ext.ext | apply Ext.drew | refine Ext.trans ?_ (by assumption)))))⟩, ⟨_, _, rfl, hin, hb11, ha11⟩⟩
      | 15, _, ho =>
        obtain ⟨b14, k14, e14, hk14, hb14, ha14⟩ : PtI V.heap.size 5 (0) (900) (σ 14) _ := hd 14 (by obtain rfl := Option.some.inj ho; kernel_rfl)
        obtain ⟨y, hy, hy0, hy1⟩ := index_at ha14 hk14
        obtain rfl := Option.some.inj ho
        clear hd ho
        simp only [actO, putO, List.setIfInBounds_toArray, List.set_cons_zero, List.set_cons_succ, Nat.reduceAdd, e14]
        refine flow_K (fun K hK => ?_)
        go_simp
        (show K _ _)
        refine hK _ _ ⟨_, rfl, by simp, Chg.of_ext (show Ext _ _ from (by ((try simp only [ext_drew]); (try simp only [ext_ext]); repeat (first | exact Ext.refl _ | with_reducible apply Ext.add | with_reducible apply Ext.dr | apply Ext.alloc | apply Ext.ext | apply Ext.drew | refine Ext.trans ?_ (by assumption))))) _, ⟨(HJ9.out.1.of (show Ext _ _ from (by ((try simp only [ext_drew]); (try simp only [ext_ext]); repeat (first | exact Ext.refl _ | with_reducible apply Ext.add | with_reducible apply Ext.dr | apply Ext.alloc | apply Ext.ext | apply Ext.drew | refine Ext.trans ?_ (by assumption)))))).up (by omega), HJ9.out.2.of (show Ext _ _ from (by ((try simp only [ext_drew]); (try simp only [ext_ext]); repeat (first | exact Ext.refl _ | with_reducible apply Ext.add | with_reducible apply Ext.dr | apply Ext.alloc | apply Ext.ext | apply Ext.drew | refine Ext.trans ?_ (by assumption)))))⟩, ⟨y, rfl, hy0, hy1⟩⟩
      | 16, _, ho =>
        obtain rfl := Option.some.inj ho
        clear hd ho
        simp only [actO, putO, List.setIfInBounds_toArray, List.set_cons_zero, List.set_cons_succ, Nat.reduceAdd]
        refine flow_K (fun K hK => ?_)
        go_simp
        (show K _ _)
        refine hK _ _ ⟨_, rfl, by simp, Chg.of_ext (show Ext _ _ from (by ((try simp only [ext_drew]); (try simp only [ext_ext]); repeat (first | exact Ext.refl _ | with_reducible apply Ext.add | with_reducible apply Ext.dr | apply Ext.alloc | apply Ext.ext | apply Ext.drew | refine Ext.trans ?_ (by assumption))))) _, ⟨(HJ9.out.1.of (show Ext _ _ from (by ((try simp only [ext_drew]); (try simp only [ext_ext]); repeat (first | exact Ext.refl _ | with_reducible apply Ext.add | with_reducible apply Ext.dr | apply Ext.alloc | apply Ext.ext | apply Ext.drew | refine Ext.trans ?_ (by assumption)))))).up (by omega), HJ9.out.2.of (show Ext _ _ from (by ((try simp only [ext_drew]); (try simp only [ext_ext]); repeat (first | exact Ext.refl _ | with_reducible apply Ext.add | with_reducible apply Ext.dr | apply Ext.alloc | apply Ext.ext | apply Ext.drew | refine Ext.trans ?_ (by assumption)))))⟩, rfl⟩
      | 17, _, ho =>
        have e16 : σ 16 = .pointer (some ⟨p, 0, none⟩) := hd 16 (by obtain rfl := Option.some.inj ho; kernel_rfl)
        obtain rfl := Option.some.inj ho
        clear hd ho
        simp only [actO, putO, List.setIfInBounds_toArray, List.set_cons_zero, List.set_cons_succ, Nat.reduceAdd, e16]
        refine flow_K (fun K hK => ?_)
        have HRd := hid HJ9.out.1
        go_simp
        refine (pick_c lo p _ (10) w9 HRd.out (by omega) (by omega) (by omega)).mono ?_
        rintro e w8 ⟨vv, rfl, hv0, hv1, hR8, hC8⟩
        (show K _ _)
        refine hK _ _ ⟨_, rfl, by simp, hC8, ⟨hR8.up (by omega), HJ9.out.2.chg hC8 (by simpa using hRp)⟩, ⟨vv, rfl, hv0, by omega⟩⟩
      | 18, _, ho =>
        obtain ⟨x2, e2, y2, z2⟩ : InI (1) (9) (σ 2) := hd 2 (by obtain rfl := Option.some.inj ho; kernel_rfl)
        obtain ⟨x5, e5, y5, z5⟩ : InI 0 (3) (σ 5) := hd 5 (by obtain rfl := Option.some.inj ho; kernel_rfl)
        obtain ⟨x10, e10, y10, z10⟩ : InI (0) (99) (σ 10) := hd 10 (by obtain rfl := Option.some.inj ho; kernel_rfl)
        obtain ⟨x15, e15, y15, z15⟩ : InI (0) (900) (σ 15) := hd 15 (by obtain rfl := Option.some.inj ho; kernel_rfl)
        obtain ⟨x17, e17, y17, z17⟩ : InI 0 (9) (σ 17) := hd 17 (by obtain rfl := Option.some.inj ho; kernel_rfl)
        obtain rfl := Option.some.inj ho
        clear hd ho
        simp only [actO, putO, List.setIfInBounds_toArray, List.set_cons_zero, List.set_cons_succ, Nat.reduceAdd, e2, e5, e10, e15, e17]
        refine flow_K (fun K hK => ?_)
        go_simp
        (show K _ _)
        refine hK _ _ ⟨_, rfl, by simp, Chg.of_ext (show Ext _ _ from (by ((try simp only [ext_drew]); (try simp only [ext_ext]); repeat (first | exact Ext.refl _ | with_reducible apply Ext.add | with_reducible apply Ext.dr | apply Ext.alloc | apply Ext.ext | apply Ext.drew | refine Ext.trans ?_ (by assumption))))) _, ⟨(HJ9.out.1.of (show Ext _ _ from (by ((try simp only [ext_drew]); (try simp only [ext_ext]); repeat (first | exact Ext.refl _ | with_reducible apply Ext.add | with_reducible apply Ext.dr | apply Ext.alloc | apply Ext.ext | apply Ext.drew | refine Ext.trans ?_ (by assumption)))))).up (by omega), HJ9.out.2.of (show Ext _ _ from (by ((try simp only [ext_drew]); (try simp only [ext_ext]); repeat (first | exact Ext.refl _ | with_reducible apply Ext.add | with_reducible apply Ext.dr | apply Ext.alloc | apply Ext.ext | apply Ext.drew | refine Ext.trans ?_ (by assumption)))))⟩, ⟨⟨x2, x5, x10, x15, x17⟩, rfl, by simp only [WlkIn]; omega⟩⟩
      | 19, _, ho =>
        obtain ⟨x18, e18, h18⟩ : InW (σ 18) := hd 18 (by obtain rfl := Option.some.inj ho; kernel_rfl)
        obtain ⟨x0, hb0⟩ := HJ9.out.2
        obtain rfl := Option.some.inj ho
        clear hd ho
        simp only [actO, putO, List.setIfInBounds_toArray, List.set_cons_zero, List.set_cons_succ, Nat.reduceAdd, e18]
        refine flow_K (fun K hK => ?_)
        have cR0 := (cell_blk hb0 0).trans (show _ = some (Value.int .i64 x0.id) from rfl)
        have zR0 := frozen_blk hb0 0
        have cR1 := (cell_blk hb0 1).trans (show _ = some (Value.int .i64 x0.at_) from rfl)
        have zR1 := frozen_blk hb0 1
        have cR2 := (cell_blk hb0 2).trans (show _ = some (Value.int .i64 x0.coins) from rfl)
        have zR2 := frozen_blk hb0 2
        have cR3 := (cell_blk hb0 3).trans (show _ = some (Value.int .i64 x0.seq) from rfl)
        have zR3 := frozen_blk hb0 3
        have cR4 := (cell_blk hb0 4).trans (show _ = some (Value.int .i64 x0.last) from rfl)
        have zR4 := frozen_blk hb0 4
        have HB0 := hid hb0
        clear hb0
        go_simp
        (show K _ _)
        refine hK _ _ ⟨undef, rfl, fun _ => rfl, (by repeat (first | with_reducible exact Chg.refl _ _ | with_reducible apply Chg.drew | with_reducible apply Chg.drewl | with_reducible refine Chg.turn (by simp) | with_reducible refine Chg.both ?_ (by simp) | (with_reducible refine Chg.set ?_ (by simp) _) | with_reducible apply Chg.alloc | with_reducible apply Chg.ext)), ⟨(HJ9.out.1.chg (B := [R]) (by repeat (first | with_reducible exact Chg.refl _ _ | with_reducible apply Chg.drew | with_reducible apply Chg.drewl | with_reducible refine Chg.turn (by simp) | with_reducible refine Chg.both ?_ (by simp) | (with_reducible refine Chg.set ?_ (by simp) _) | with_reducible apply Chg.alloc | with_reducible apply Chg.ext)) (by simp; omega) (Nat.le_refl _)).up (by omega), ⟨x18, wlk_store HB0.out⟩⟩, ⟨x18, wlk_store HB0.out, h18⟩⟩
    · intro σ w9 hG hJ hd
      have e0 : σ 0 = .pointer (some ⟨p, 0, none⟩) := hd 0 (by decide)
      obtain ⟨x1, e1, y1, z1⟩ : InI 0 (8) (σ 1) := hd 1 (by decide)
      obtain ⟨x2, e2, y2, z2⟩ : InI (1) (9) (σ 2) := hd 2 (by decide)
      have e3 : σ 3 = .pointer (some ⟨p, 0, none⟩) := hd 3 (by decide)
      have e4 : σ 4 = .int .i64 (4) := hd 4 (by decide)
      obtain ⟨x5, e5, y5, z5⟩ : InI 0 (3) (σ 5) := hd 5 (by decide)
      obtain ⟨b6, e6, hb6, ha6⟩ : MkI V.heap.size 6 (0) (99) (σ 6) _ := hd 6 (by decide)
      have e7 : σ 7 = .pointer (some ⟨p, 0, none⟩) := hd 7 (by decide)
      obtain ⟨x8, e8, y8, z8⟩ : InI 0 (5) (σ 8) := hd 8 (by decide)
      obtain ⟨b9, k9, e9, hk9, hb9, ha9⟩ : PtI V.heap.size 6 (0) (99) (σ 9) _ := hd 9 (by decide)
      obtain ⟨x10, e10, y10, z10⟩ : InI (0) (99) (σ 10) := hd 10 (by decide)
      obtain ⟨b11, e11, hb11, ha11⟩ : MkI V.heap.size 5 (0) (900) (σ 11) _ := hd 11 (by decide)
      have e12 : σ 12 = .pointer (some ⟨p, 0, none⟩) := hd 12 (by decide)
      obtain ⟨x13, e13, y13, z13⟩ : InI 0 (4) (σ 13) := hd 13 (by decide)
      obtain ⟨b14, k14, e14, hk14, hb14, ha14⟩ : PtI V.heap.size 5 (0) (900) (σ 14) _ := hd 14 (by decide)
      obtain ⟨x15, e15, y15, z15⟩ : InI (0) (900) (σ 15) := hd 15 (by decide)
      have e16 : σ 16 = .pointer (some ⟨p, 0, none⟩) := hd 16 (by decide)
      obtain ⟨x17, e17, y17, z17⟩ : InI 0 (9) (σ 17) := hd 17 (by decide)
      obtain ⟨x18, e18, h18⟩ : InW (σ 18) := hd 18 (by decide)
      have hs19 : WlkAt R _ := hd 19 (by decide)
      have HG := hid hG
      have HJ9 := hid hJ
      clear hd hG hJ
      simp only [actO, putO, List.setIfInBounds_toArray, List.set_cons_zero, List.set_cons_succ, Nat.reduceAdd, e0, e1, e2, e3, e4, e5, e6, e7, e8, e9, e10, e11, e12, e13, e14, e15, e16, e17, e18]
      clear e0 e1 e2 e3 e4 e5 e6 e7 e8 e9 e10 e11 e12 e13 e14 e15 e16 e17 e18
      obtain ⟨x, hb, hx⟩ := hs19
      have c0 := (cell_blk hb 0).trans (show _ = some (Value.int .i64 x.id) from rfl)
      have c1 := (cell_blk hb 1).trans (show _ = some (Value.int .i64 x.at_) from rfl)
      have c2 := (cell_blk hb 2).trans (show _ = some (Value.int .i64 x.coins) from rfl)
      have c3 := (cell_blk hb 3).trans (show _ = some (Value.int .i64 x.seq) from rfl)
      have c4 := (cell_blk hb 4).trans (show _ = some (Value.int .i64 x.last) from rfl)
      have lR := lt_blk hb
      clear hb
      go_wp2_with (fail)
      refine bodyPost_ret (v := .agg #[.int .i64 x.id, .int .i64 x.at_, .int .i64 x.coins, .int .i64 x.seq, .int .i64 x.last]) (by simp [results, Try.results89, go_sem, c0, c1, c2, c3, c4, lR]) rfl ?_
      exact ⟨x, rfl, hx, HJ9.out.1.up (show Q + 1 * 20 ≤ Q + 20 by omega), HEV.out.chg' HG.out hwR⟩
  | true =>
    have e0 : nn = m.c * m.w := by have := HNN.out; rw [q] at this; simpa using this.symm
    clear HNN
    go_wp2_with (first | (go_at_call 14; refine (sPlcOk_c _ _).mono ?_; rintro e w' ⟨rfl, t, rfl⟩))
    rw [← e0]
    clear e0
    refine wp_gen fun V hV => ?_
    have EV : Ext w V := by rw [hV]; ((try simp only [ext_drew]); (try simp only [ext_ext]); repeat (first | exact Ext.refl _ | with_reducible apply Ext.add | with_reducible apply Ext.dr | apply Ext.alloc | apply Ext.ext | apply Ext.drew | refine Ext.trans ?_ (by assumption)))
    have hb : V.heap[w.heap.size + 1]? = some (.cells #[.int .i64 0, .int .i64 0, .int .i64 0, .int .i64 0, .int .i64 0] 52 (0, 0)) := by rw [hV]; (repeat (first | with_reducible refine blk_ext ?_ | with_reducible apply blk_drew)); exact alloc_last (by simp)
    obtain ⟨R, hRe⟩ : ∃ R, w.heap.size + 1 = R := ⟨_, rfl⟩
    rw [hRe] at hb ⊢
    have hRW := lt_blk hb
    have hpW : p < V.heap.size := Nat.lt_of_lt_of_le lP EV.size
    have hRp : R ≠ p := by omega
    have hloR : lo ≤ R := by omega
    have HJ := hid (show Rdr lo p Q V ∧ WlkB R V from ⟨HR.out.of EV, ⟨⟨0, 0, 0, 0, 0⟩, hb⟩⟩)
    have HEV := hid EV
    have hwR : w.heap.size ≤ R := by omega
    clear hV hb hRe EV
    refine wp_region_flowD [some 14, some 15, some 16, some 17, some 18, some 19, some 20, some 21, some 22, some 23, some 24, some 25, some 26, some 27, some 28, some 29, some 30, some 31, some 32, none] (fun a b => Chg [p, R] a b) (fun i a b => Chg (bif i == 19 then [R] else [p]) a b) (fun k9 w9 => Rdr lo p (Q + 1 * k9) w9 ∧ WlkB R w9) (fun i v9 w9 => match i with
      | 0 => v9 = .pointer (some ⟨p, 0, none⟩)
      | 1 => InI 0 (8) (v9)
      | 2 => InI (1) (9) (v9)
      | 3 => v9 = .pointer (some ⟨p, 0, none⟩)
      | 4 => v9 = .int .i64 (nn)
      | 5 => InI 0 (nn - 1) (v9)
      | 6 => MkI V.heap.size 6 (0) (99) (v9) w9
      | 7 => v9 = .pointer (some ⟨p, 0, none⟩)
      | 8 => InI 0 (5) (v9)
      | 9 => PtI V.heap.size 6 (0) (99) (v9) w9
      | 10 => InI (0) (99) (v9)
      | 11 => MkI V.heap.size 5 (0) (900) (v9) w9
      | 12 => v9 = .pointer (some ⟨p, 0, none⟩)
      | 13 => InI 0 (4) (v9)
      | 14 => PtI V.heap.size 5 (0) (900) (v9) w9
      | 15 => InI (0) (900) (v9)
      | 16 => v9 = .pointer (some ⟨p, 0, none⟩)
      | 17 => InI 0 (9) (v9)
      | 18 => InW (v9)
      | _ => WlkAt R w9) (by kernel_rfl) (by decide +kernel) (by simp) (fun a => Chg.refl _ a) (fun a b c h k => Chg.trans h k) ?_ (Chg.drew (Chg.refl _ _)) ?_ ?_ ?_ ?_
    · intro i a b hi hG
      refine hG.mono ?_
      cases (i == 19) <;> simp
    · exact ⟨HJ.out.1.of (by ((try simp only [ext_drew]); (try simp only [ext_ext]); repeat (first | exact Ext.refl _ | with_reducible apply Ext.add | with_reducible apply Ext.dr | apply Ext.alloc | apply Ext.ext | apply Ext.drew | refine Ext.trans ?_ (by assumption)))), HJ.out.2.drw⟩
    · intro i j hi hj hij v9 w9 w8 hg hS hG
      have hG2 : Chg [p, R] w9 w8 := hG.mono (by cases (i == 19) <;> simp)
      have hj9 : j < 20 := hj
      clear hi hj
      match j, hj9 with
      | 0, _ => exact hS
      | 1, _ => exact hS
      | 2, _ => exact hS
      | 3, _ => exact hS
      | 4, _ => exact hS
      | 5, _ => exact hS
      | 6, _ => exact MkI.chg hS hG2 (by simp; omega)
      | 7, _ => exact hS
      | 8, _ => exact hS
      | 9, _ => exact PtI.chg hS hG2 (by simp; omega)
      | 10, _ => exact hS
      | 11, _ => exact MkI.chg hS hG2 (by simp; omega)
      | 12, _ => exact hS
      | 13, _ => exact hS
      | 14, _ => exact PtI.chg hS hG2 (by simp; omega)
      | 15, _ => exact hS
      | 16, _ => exact hS
      | 17, _ => exact hS
      | 18, _ => exact hS
      | 19, _ =>
        have h9 : (i == 19) = false := by simpa using hij
        rw [h9, cond_false] at hG
        exact hS.chg hG (by simpa using hRp)
      | n + 20, h9 => exact absurd h9 (by omega)
    · intro i oo ho σ k9 w9 hG hk9 hJ hd
      have HG := hid hG
      have HJ9 := hid hJ
      have lp9 : p < w9.heap.size := Nat.lt_of_lt_of_le hpW hG.size
      have lR9 : R < w9.heap.size := Nat.lt_of_lt_of_le hRW hG.size
      have hW9 := hG.size
      have hkN : k9 < 20 := hk9
      have hi9 : i < 20 := (List.getElem?_eq_some_iff.1 ho).1
      clear hG hJ hk9
      match i, hi9, ho with
      | 0, _, ho =>
        obtain rfl := Option.some.inj ho
        clear hd ho
        simp only [actO, putO, List.setIfInBounds_toArray, List.set_cons_zero, List.set_cons_succ, Nat.reduceAdd]
        refine flow_K (fun K hK => ?_)
        go_simp
        (show K _ _)
        refine hK _ _ ⟨_, rfl, by simp, Chg.of_ext (show Ext _ _ from (by ((try simp only [ext_drew]); (try simp only [ext_ext]); repeat (first | exact Ext.refl _ | with_reducible apply Ext.add | with_reducible apply Ext.dr | apply Ext.alloc | apply Ext.ext | apply Ext.drew | refine Ext.trans ?_ (by assumption))))) _, ⟨(HJ9.out.1.of (show Ext _ _ from (by ((try simp only [ext_drew]); (try simp only [ext_ext]); repeat (first | exact Ext.refl _ | with_reducible apply Ext.add | with_reducible apply Ext.dr | apply Ext.alloc | apply Ext.ext | apply Ext.drew | refine Ext.trans ?_ (by assumption)))))).up (by omega), HJ9.out.2.of (show Ext _ _ from (by ((try simp only [ext_drew]); (try simp only [ext_ext]); repeat (first | exact Ext.refl _ | with_reducible apply Ext.add | with_reducible apply Ext.dr | apply Ext.alloc | apply Ext.ext | apply Ext.drew | refine Ext.trans ?_ (by assumption)))))⟩, rfl⟩
      | 1, _, ho =>
        have e0 : σ 0 = .pointer (some ⟨p, 0, none⟩) := hd 0 (by obtain rfl := Option.some.inj ho; kernel_rfl)
        obtain rfl := Option.some.inj ho
        clear hd ho
        simp only [actO, putO, List.setIfInBounds_toArray, List.set_cons_zero, List.set_cons_succ, Nat.reduceAdd, e0]
        refine flow_K (fun K hK => ?_)
        have HRd := hid HJ9.out.1
        go_simp
        refine (pick_c lo p _ (9) w9 HRd.out (by omega) (by omega) (by omega)).mono ?_
        rintro e w8 ⟨vv, rfl, hv0, hv1, hR8, hC8⟩
        (show K _ _)
        refine hK _ _ ⟨_, rfl, by simp, hC8, ⟨hR8.up (by omega), HJ9.out.2.chg hC8 (by simpa using hRp)⟩, ⟨vv, rfl, hv0, by omega⟩⟩
      | 2, _, ho =>
        obtain ⟨x1, e1, y1, z1⟩ : InI 0 (8) (σ 1) := hd 1 (by obtain rfl := Option.some.inj ho; kernel_rfl)
        have hwr : IntKind.i64.wrap (1 + x1) = 1 + x1 := by simp [IntKind.wrap, IntKind.bits, IntKind.signed]; omega
        obtain rfl := Option.some.inj ho
        clear hd ho
        simp only [actO, putO, List.setIfInBounds_toArray, List.set_cons_zero, List.set_cons_succ, Nat.reduceAdd, e1]
        refine flow_K (fun K hK => ?_)
        go_simp
        (try rw [hwr])
        (show K _ _)
        refine hK _ _ ⟨_, rfl, by simp, Chg.of_ext (show Ext _ _ from (by ((try simp only [ext_drew]); (try simp only [ext_ext]); repeat (first | exact Ext.refl _ | with_reducible apply Ext.add | with_reducible apply Ext.dr | apply Ext.alloc | apply Ext.ext | apply Ext.drew | refine Ext.trans ?_ (by assumption))))) _, ⟨(HJ9.out.1.of (show Ext _ _ from (by ((try simp only [ext_drew]); (try simp only [ext_ext]); repeat (first | exact Ext.refl _ | with_reducible apply Ext.add | with_reducible apply Ext.dr | apply Ext.alloc | apply Ext.ext | apply Ext.drew | refine Ext.trans ?_ (by assumption)))))).up (by omega), HJ9.out.2.of (show Ext _ _ from (by ((try simp only [ext_drew]); (try simp only [ext_ext]); repeat (first | exact Ext.refl _ | with_reducible apply Ext.add | with_reducible apply Ext.dr | apply Ext.alloc | apply Ext.ext | apply Ext.drew | refine Ext.trans ?_ (by assumption)))))⟩, ⟨_, rfl, by omega, by omega⟩⟩
      | 3, _, ho =>
        obtain rfl := Option.some.inj ho
        clear hd ho
        simp only [actO, putO, List.setIfInBounds_toArray, List.set_cons_zero, List.set_cons_succ, Nat.reduceAdd]
        refine flow_K (fun K hK => ?_)
        go_simp
        (show K _ _)
        refine hK _ _ ⟨_, rfl, by simp, Chg.of_ext (show Ext _ _ from (by ((try simp only [ext_drew]); (try simp only [ext_ext]); repeat (first | exact Ext.refl _ | with_reducible apply Ext.add | with_reducible apply Ext.dr | apply Ext.alloc | apply Ext.ext | apply Ext.drew | refine Ext.trans ?_ (by assumption))))) _, ⟨(HJ9.out.1.of (show Ext _ _ from (by ((try simp only [ext_drew]); (try simp only [ext_ext]); repeat (first | exact Ext.refl _ | with_reducible apply Ext.add | with_reducible apply Ext.dr | apply Ext.alloc | apply Ext.ext | apply Ext.drew | refine Ext.trans ?_ (by assumption)))))).up (by omega), HJ9.out.2.of (show Ext _ _ from (by ((try simp only [ext_drew]); (try simp only [ext_ext]); repeat (first | exact Ext.refl _ | with_reducible apply Ext.add | with_reducible apply Ext.dr | apply Ext.alloc | apply Ext.ext | apply Ext.drew | refine Ext.trans ?_ (by assumption)))))⟩, rfl⟩
      | 4, _, ho =>
        obtain rfl := Option.some.inj ho
        clear hd ho
        simp only [actO, putO, List.setIfInBounds_toArray, List.set_cons_zero, List.set_cons_succ, Nat.reduceAdd]
        refine flow_K (fun K hK => ?_)
        go_simp
        (show K _ _)
        refine hK _ _ ⟨_, rfl, by simp, Chg.of_ext (show Ext _ _ from (by ((try simp only [ext_drew]); (try simp only [ext_ext]); repeat (first | exact Ext.refl _ | with_reducible apply Ext.add | with_reducible apply Ext.dr | apply Ext.alloc | apply Ext.ext | apply Ext.drew | refine Ext.trans ?_ (by assumption))))) _, ⟨(HJ9.out.1.of (show Ext _ _ from (by ((try simp only [ext_drew]); (try simp only [ext_ext]); repeat (first | exact Ext.refl _ | with_reducible apply Ext.add | with_reducible apply Ext.dr | apply Ext.alloc | apply Ext.ext | apply Ext.drew | refine Ext.trans ?_ (by assumption)))))).up (by omega), HJ9.out.2.of (show Ext _ _ from (by ((try simp only [ext_drew]); (try simp only [ext_ext]); repeat (first | exact Ext.refl _ | with_reducible apply Ext.add | with_reducible apply Ext.dr | apply Ext.alloc | apply Ext.ext | apply Ext.drew | refine Ext.trans ?_ (by assumption)))))⟩, rfl⟩
      | 5, _, ho =>
        have e3 : σ 3 = .pointer (some ⟨p, 0, none⟩) := hd 3 (by obtain rfl := Option.some.inj ho; kernel_rfl)
        have e4 : σ 4 = .int .i64 (nn) := hd 4 (by obtain rfl := Option.some.inj ho; kernel_rfl)
        obtain rfl := Option.some.inj ho
        clear hd ho
        simp only [actO, putO, List.setIfInBounds_toArray, List.set_cons_zero, List.set_cons_succ, Nat.reduceAdd, e3, e4]
        refine flow_K (fun K hK => ?_)
        have HRd := hid HJ9.out.1
        go_simp
        refine (pick_c lo p _ (nn) w9 HRd.out (by omega) (by omega) (by omega)).mono ?_
        rintro e w8 ⟨vv, rfl, hv0, hv1, hR8, hC8⟩
        (show K _ _)
        refine hK _ _ ⟨_, rfl, by simp, hC8, ⟨hR8.up (by omega), HJ9.out.2.chg hC8 (by simpa using hRp)⟩, ⟨vv, rfl, hv0, by omega⟩⟩
      | 6, _, ho =>
        obtain rfl := Option.some.inj ho
        clear hd ho
        simp only [actO, putO, List.setIfInBounds_toArray, List.set_cons_zero, List.set_cons_succ, Nat.reduceAdd]
        refine flow_K (fun K hK => ?_)
        go_simp
        (show K _ _)
        refine hK _ _ ⟨_, rfl, by simp, Chg.of_ext (show Ext _ _ from (by ((try simp only [ext_drew]); (try simp only [ext_ext]); repeat (first | exact Ext.refl _ | with_reducible apply Ext.add | with_reducible apply Ext.dr | apply Ext.alloc | apply Ext.ext | apply Ext.drew | refine Ext.trans ?_ (by assumption))))) _, ⟨(HJ9.out.1.of (show Ext _ _ from (by ((try simp only [ext_drew]); (try simp only [ext_ext]); repeat (first | exact Ext.refl _ | with_reducible apply Ext.add | with_reducible apply Ext.dr | apply Ext.alloc | apply Ext.ext | apply Ext.drew | refine Ext.trans ?_ (by assumption)))))).up (by omega), HJ9.out.2.of (show Ext _ _ from (by ((try simp only [ext_drew]); (try simp only [ext_ext]); repeat (first | exact Ext.refl _ | with_reducible apply Ext.add | with_reducible apply Ext.dr | apply Ext.alloc | apply Ext.ext | apply Ext.drew | refine Ext.trans ?_ (by assumption)))))⟩, ⟨_, rfl, by (try simp [go_sem]) <;> omega, ⟨_, heap_new (by simp [go_sem]), fun i hi => ?_⟩⟩⟩
        match i, hi with
        | 0, _ => exact ⟨0, rfl, by omega, by omega⟩
        | 1, _ => exact ⟨1, rfl, by omega, by omega⟩
        | 2, _ => exact ⟨5, rfl, by omega, by omega⟩
        | 3, _ => exact ⟨20, rfl, by omega, by omega⟩
        | 4, _ => exact ⟨95, rfl, by omega, by omega⟩
        | 5, _ => exact ⟨99, rfl, by omega, by omega⟩
      | 7, _, ho =>
        obtain rfl := Option.some.inj ho
        clear hd ho
        simp only [actO, putO, List.setIfInBounds_toArray, List.set_cons_zero, List.set_cons_succ, Nat.reduceAdd]
        refine flow_K (fun K hK => ?_)
        go_simp
        (show K _ _)
        refine hK _ _ ⟨_, rfl, by simp, Chg.of_ext (show Ext _ _ from (by ((try simp only [ext_drew]); (try simp only [ext_ext]); repeat (first | exact Ext.refl _ | with_reducible apply Ext.add | with_reducible apply Ext.dr | apply Ext.alloc | apply Ext.ext | apply Ext.drew | refine Ext.trans ?_ (by assumption))))) _, ⟨(HJ9.out.1.of (show Ext _ _ from (by ((try simp only [ext_drew]); (try simp only [ext_ext]); repeat (first | exact Ext.refl _ | with_reducible apply Ext.add | with_reducible apply Ext.dr | apply Ext.alloc | apply Ext.ext | apply Ext.drew | refine Ext.trans ?_ (by assumption)))))).up (by omega), HJ9.out.2.of (show Ext _ _ from (by ((try simp only [ext_drew]); (try simp only [ext_ext]); repeat (first | exact Ext.refl _ | with_reducible apply Ext.add | with_reducible apply Ext.dr | apply Ext.alloc | apply Ext.ext | apply Ext.drew | refine Ext.trans ?_ (by assumption)))))⟩, rfl⟩
      | 8, _, ho =>
        have e7 : σ 7 = .pointer (some ⟨p, 0, none⟩) := hd 7 (by obtain rfl := Option.some.inj ho; kernel_rfl)
        obtain rfl := Option.some.inj ho
        clear hd ho
        simp only [actO, putO, List.setIfInBounds_toArray, List.set_cons_zero, List.set_cons_succ, Nat.reduceAdd, e7]
        refine flow_K (fun K hK => ?_)
        have HRd := hid HJ9.out.1
        go_simp
        refine (pick_c lo p _ (6) w9 HRd.out (by omega) (by omega) (by omega)).mono ?_
        rintro e w8 ⟨vv, rfl, hv0, hv1, hR8, hC8⟩
        (show K _ _)
        refine hK _ _ ⟨_, rfl, by simp, hC8, ⟨hR8.up (by omega), HJ9.out.2.chg hC8 (by simpa using hRp)⟩, ⟨vv, rfl, hv0, by omega⟩⟩
      | 9, _, ho =>
        obtain ⟨b6, e6, hb6, ha6⟩ : MkI V.heap.size 6 (0) (99) (σ 6) _ := hd 6 (by obtain rfl := Option.some.inj ho; kernel_rfl)
        obtain ⟨x8, e8, y8, z8⟩ : InI 0 (5) (σ 8) := hd 8 (by obtain rfl := Option.some.inj ho; kernel_rfl)
        obtain ⟨i8, rfl⟩ : ∃ i : Nat, x8 = (i : Int) := ⟨x8.toNat, by omega⟩
        have hin : i8 < 6 := by omega
        have hin2 : (i8 : Int) < 6 := by omega
        obtain rfl := Option.some.inj ho
        clear hd ho
        simp only [actO, putO, List.setIfInBounds_toArray, List.set_cons_zero, List.set_cons_succ, Nat.reduceAdd, e6, e8]
        refine flow_K (fun K hK => ?_)
        go_simp
        (show K _ _)
        refine hK _ _ ⟨_, rfl, by simp, Chg.of_ext (show Ext _ _ from (by ((try simp only [ext_drew]); (try simp only [ext_ext]); repeat (first | exact Ext.refl _ | with_reducible apply Ext.add | with_reducible apply Ext.dr | apply Ext.alloc | apply Ext.ext | apply Ext.drew | refine Ext.trans ?_ (by assumption))))) _, ⟨(HJ9.out.1.of (show Ext _ _ from (by ((try simp only [ext_drew]); (try simp only [ext_ext]); repeat (first | exact Ext.refl _ | with_reducible apply Ext.add | with_reducible apply Ext.dr | apply Ext.alloc | apply Ext.ext | apply Ext.drew | refine Ext.trans ?_ (by assumption)))))).up (by omega), HJ9.out.2.of (show Ext _ _ from (by ((try simp only [ext_drew]); (try simp only [ext_ext]); repeat (first | exact Ext.refl _ | with_reducible apply Ext.add | with_reducible apply Ext.dr | apply Ext.alloc | apply Ext.ext | apply Ext.drew | refine Ext.trans ?_ (by assumption)))))⟩, ⟨_, _, rfl, hin, hb6, ha6⟩⟩
      | 10, _, ho =>
        obtain ⟨b9, k9, e9, hk9, hb9, ha9⟩ : PtI V.heap.size 6 (0) (99) (σ 9) _ := hd 9 (by obtain rfl := Option.some.inj ho; kernel_rfl)
        obtain ⟨y, hy, hy0, hy1⟩ := index_at ha9 hk9
        obtain rfl := Option.some.inj ho
        clear hd ho
        simp only [actO, putO, List.setIfInBounds_toArray, List.set_cons_zero, List.set_cons_succ, Nat.reduceAdd, e9]
        refine flow_K (fun K hK => ?_)
        go_simp
        (show K _ _)
        refine hK _ _ ⟨_, rfl, by simp, Chg.of_ext (show Ext _ _ from (by ((try simp only [ext_drew]); (try simp only [ext_ext]); repeat (first | exact Ext.refl _ | with_reducible apply Ext.add | with_reducible apply Ext.dr | apply Ext.alloc | apply Ext.ext | apply Ext.drew | refine Ext.trans ?_ (by assumption))))) _, ⟨(HJ9.out.1.of (show Ext _ _ from (by ((try simp only [ext_drew]); (try simp only [ext_ext]); repeat (first | exact Ext.refl _ | with_reducible apply Ext.add | with_reducible apply Ext.dr | apply Ext.alloc | apply Ext.ext | apply Ext.drew | refine Ext.trans ?_ (by assumption)))))).up (by omega), HJ9.out.2.of (show Ext _ _ from (by ((try simp only [ext_drew]); (try simp only [ext_ext]); repeat (first | exact Ext.refl _ | with_reducible apply Ext.add | with_reducible apply Ext.dr | apply Ext.alloc | apply Ext.ext | apply Ext.drew | refine Ext.trans ?_ (by assumption)))))⟩, ⟨y, rfl, hy0, hy1⟩⟩
      | 11, _, ho =>
        obtain rfl := Option.some.inj ho
        clear hd ho
        simp only [actO, putO, List.setIfInBounds_toArray, List.set_cons_zero, List.set_cons_succ, Nat.reduceAdd]
        refine flow_K (fun K hK => ?_)
        go_simp
        (show K _ _)
        refine hK _ _ ⟨_, rfl, by simp, Chg.of_ext (show Ext _ _ from (by ((try simp only [ext_drew]); (try simp only [ext_ext]); repeat (first | exact Ext.refl _ | with_reducible apply Ext.add | with_reducible apply Ext.dr | apply Ext.alloc | apply Ext.ext | apply Ext.drew | refine Ext.trans ?_ (by assumption))))) _, ⟨(HJ9.out.1.of (show Ext _ _ from (by ((try simp only [ext_drew]); (try simp only [ext_ext]); repeat (first | exact Ext.refl _ | with_reducible apply Ext.add | with_reducible apply Ext.dr | apply Ext.alloc | apply Ext.ext | apply Ext.drew | refine Ext.trans ?_ (by assumption)))))).up (by omega), HJ9.out.2.of (show Ext _ _ from (by ((try simp only [ext_drew]); (try simp only [ext_ext]); repeat (first | exact Ext.refl _ | with_reducible apply Ext.add | with_reducible apply Ext.dr | apply Ext.alloc | apply Ext.ext | apply Ext.drew | refine Ext.trans ?_ (by assumption)))))⟩, ⟨_, rfl, by (try simp [go_sem]) <;> omega, ⟨_, heap_new (by simp [go_sem]), fun i hi => ?_⟩⟩⟩
        match i, hi with
        | 0, _ => exact ⟨0, rfl, by omega, by omega⟩
        | 1, _ => exact ⟨0, rfl, by omega, by omega⟩
        | 2, _ => exact ⟨1, rfl, by omega, by omega⟩
        | 3, _ => exact ⟨7, rfl, by omega, by omega⟩
        | 4, _ => exact ⟨900, rfl, by omega, by omega⟩
      | 12, _, ho =>
        obtain rfl := Option.some.inj ho
        clear hd ho
        simp only [actO, putO, List.setIfInBounds_toArray, List.set_cons_zero, List.set_cons_succ, Nat.reduceAdd]
        refine flow_K (fun K hK => ?_)
        go_simp
        (show K _ _)
        refine hK _ _ ⟨_, rfl, by simp, Chg.of_ext (show Ext _ _ from (by ((try simp only [ext_drew]); (try simp only [ext_ext]); repeat (first | exact Ext.refl _ | with_reducible apply Ext.add | with_reducible apply Ext.dr | apply Ext.alloc | apply Ext.ext | apply Ext.drew | refine Ext.trans ?_ (by assumption))))) _, ⟨(HJ9.out.1.of (show Ext _ _ from (by ((try simp only [ext_drew]); (try simp only [ext_ext]); repeat (first | exact Ext.refl _ | with_reducible apply Ext.add | with_reducible apply Ext.dr | apply Ext.alloc | apply Ext.ext | apply Ext.drew | refine Ext.trans ?_ (by assumption)))))).up (by omega), HJ9.out.2.of (show Ext _ _ from (by ((try simp only [ext_drew]); (try simp only [ext_ext]); repeat (first | exact Ext.refl _ | with_reducible apply Ext.add | with_reducible apply Ext.dr | apply Ext.alloc | apply Ext.ext | apply Ext.drew | refine Ext.trans ?_ (by assumption)))))⟩, rfl⟩
      | 13, _, ho =>
        have e12 : σ 12 = .pointer (some ⟨p, 0, none⟩) := hd 12 (by obtain rfl := Option.some.inj ho; kernel_rfl)
        obtain rfl := Option.some.inj ho
        clear hd ho
        simp only [actO, putO, List.setIfInBounds_toArray, List.set_cons_zero, List.set_cons_succ, Nat.reduceAdd, e12]
        refine flow_K (fun K hK => ?_)
        have HRd := hid HJ9.out.1
        go_simp
        refine (pick_c lo p _ (5) w9 HRd.out (by omega) (by omega) (by omega)).mono ?_
        rintro e w8 ⟨vv, rfl, hv0, hv1, hR8, hC8⟩
        (show K _ _)
        refine hK _ _ ⟨_, rfl, by simp, hC8, ⟨hR8.up (by omega), HJ9.out.2.chg hC8 (by simpa using hRp)⟩, ⟨vv, rfl, hv0, by omega⟩⟩
      | 14, _, ho =>
        obtain ⟨b11, e11, hb11, ha11⟩ : MkI V.heap.size 5 (0) (900) (σ 11) _ := hd 11 (by obtain rfl := Option.some.inj ho; kernel_rfl)
        obtain ⟨x13, e13, y13, z13⟩ : InI 0 (4) (σ 13) := hd 13 (by obtain rfl := Option.some.inj ho; kernel_rfl)
        obtain ⟨i13, rfl⟩ : ∃ i : Nat, x13 = (i : Int) := ⟨x13.toNat, by omega⟩
        have hin : i13 < 5 := by omega
        have hin2 : (i13 : Int) < 5 := by omega
        obtain rfl := Option.some.inj ho
        clear hd ho
        simp only [actO, putO, List.setIfInBounds_toArray, List.set_cons_zero, List.set_cons_succ, Nat.reduceAdd, e11, e13]
        refine flow_K (fun K hK => ?_)
        go_simp
        (show K _ _)
        refine hK _ _ ⟨_, rfl, by simp, Chg.of_ext (show Ext _ _ from (by ((try simp only [ext_drew]); (try simp only [ext_ext]); repeat (first | exact Ext.refl _ | with_reducible apply Ext.add | with_reducible apply Ext.dr | apply Ext.alloc | apply Ext.ext | apply Ext.drew | refine Ext.trans ?_ (by assumption))))) _, ⟨(HJ9.out.1.of (show Ext _ _ from (by ((try simp only [ext_drew]); (try simp only [ext_ext]); repeat (first | exact Ext.refl _ | with_reducible apply Ext.add | with_reducible apply Ext.dr | apply Ext.alloc | apply Ext.ext | apply Ext.drew | refine Ext.trans ?_ (by assumption)))))).up (by omega), HJ9.out.2.of (show Ext _ _ from (by ((try simp only [ext_drew]); (try simp only [ext_ext]); repeat (first | exact Ext.refl _ | with_reducible apply Ext.add | with_reducible apply Ext.dr | apply Ext.alloc | apply Ext.ext | apply Ext.drew | refine Ext.trans ?_ (by assumption)))))⟩, ⟨_, _, rfl, hin, hb11, ha11⟩⟩
      | 15, _, ho =>
        obtain ⟨b14, k14, e14, hk14, hb14, ha14⟩ : PtI V.heap.size 5 (0) (900) (σ 14) _ := hd 14 (by obtain rfl := Option.some.inj ho; kernel_rfl)
        obtain ⟨y, hy, hy0, hy1⟩ := index_at ha14 hk14
        obtain rfl := Option.some.inj ho
        clear hd ho
        simp only [actO, putO, List.setIfInBounds_toArray, List.set_cons_zero, List.set_cons_succ, Nat.reduceAdd, e14]
        refine flow_K (fun K hK => ?_)
        go_simp
        (show K _ _)
        refine hK _ _ ⟨_, rfl, by simp, Chg.of_ext (show Ext _ _ from (by ((try simp only [ext_drew]); (try simp only [ext_ext]); repeat (first | exact Ext.refl _ | with_reducible apply Ext.add | with_reducible apply Ext.dr | apply Ext.alloc | apply Ext.ext | apply Ext.drew | refine Ext.trans ?_ (by assumption))))) _, ⟨(HJ9.out.1.of (show Ext _ _ from (by ((try simp only [ext_drew]); (try simp only [ext_ext]); repeat (first | exact Ext.refl _ | with_reducible apply Ext.add | with_reducible apply Ext.dr | apply Ext.alloc | apply Ext.ext | apply Ext.drew | refine Ext.trans ?_ (by assumption)))))).up (by omega), HJ9.out.2.of (show Ext _ _ from (by ((try simp only [ext_drew]); (try simp only [ext_ext]); repeat (first | exact Ext.refl _ | with_reducible apply Ext.add | with_reducible apply Ext.dr | apply Ext.alloc | apply Ext.ext | apply Ext.drew | refine Ext.trans ?_ (by assumption)))))⟩, ⟨y, rfl, hy0, hy1⟩⟩
      | 16, _, ho =>
        obtain rfl := Option.some.inj ho
        clear hd ho
        simp only [actO, putO, List.setIfInBounds_toArray, List.set_cons_zero, List.set_cons_succ, Nat.reduceAdd]
        refine flow_K (fun K hK => ?_)
        go_simp
        (show K _ _)
        refine hK _ _ ⟨_, rfl, by simp, Chg.of_ext (show Ext _ _ from (by ((try simp only [ext_drew]); (try simp only [ext_ext]); repeat (first | exact Ext.refl _ | with_reducible apply Ext.add | with_reducible apply Ext.dr | apply Ext.alloc | apply Ext.ext | apply Ext.drew | refine Ext.trans ?_ (by assumption))))) _, ⟨(HJ9.out.1.of (show Ext _ _ from (by ((try simp only [ext_drew]); (try simp only [ext_ext]); repeat (first | exact Ext.refl _ | with_reducible apply Ext.add | with_reducible apply Ext.dr | apply Ext.alloc | apply Ext.ext | apply Ext.drew | refine Ext.trans ?_ (by assumption)))))).up (by omega), HJ9.out.2.of (show Ext _ _ from (by ((try simp only [ext_drew]); (try simp only [ext_ext]); repeat (first | exact Ext.refl _ | with_reducible apply Ext.add | with_reducible apply Ext.dr | apply Ext.alloc | apply Ext.ext | apply Ext.drew | refine Ext.trans ?_ (by assumption)))))⟩, rfl⟩
      | 17, _, ho =>
        have e16 : σ 16 = .pointer (some ⟨p, 0, none⟩) := hd 16 (by obtain rfl := Option.some.inj ho; kernel_rfl)
        obtain rfl := Option.some.inj ho
        clear hd ho
        simp only [actO, putO, List.setIfInBounds_toArray, List.set_cons_zero, List.set_cons_succ, Nat.reduceAdd, e16]
        refine flow_K (fun K hK => ?_)
        have HRd := hid HJ9.out.1
        go_simp
        refine (pick_c lo p _ (10) w9 HRd.out (by omega) (by omega) (by omega)).mono ?_
        rintro e w8 ⟨vv, rfl, hv0, hv1, hR8, hC8⟩
        (show K _ _)
        refine hK _ _ ⟨_, rfl, by simp, hC8, ⟨hR8.up (by omega), HJ9.out.2.chg hC8 (by simpa using hRp)⟩, ⟨vv, rfl, hv0, by omega⟩⟩
      | 18, _, ho =>
        obtain ⟨x2, e2, y2, z2⟩ : InI (1) (9) (σ 2) := hd 2 (by obtain rfl := Option.some.inj ho; kernel_rfl)
        obtain ⟨x5, e5, y5, z5⟩ : InI 0 (nn - 1) (σ 5) := hd 5 (by obtain rfl := Option.some.inj ho; kernel_rfl)
        obtain ⟨x10, e10, y10, z10⟩ : InI (0) (99) (σ 10) := hd 10 (by obtain rfl := Option.some.inj ho; kernel_rfl)
        obtain ⟨x15, e15, y15, z15⟩ : InI (0) (900) (σ 15) := hd 15 (by obtain rfl := Option.some.inj ho; kernel_rfl)
        obtain ⟨x17, e17, y17, z17⟩ : InI 0 (9) (σ 17) := hd 17 (by obtain rfl := Option.some.inj ho; kernel_rfl)
        obtain rfl := Option.some.inj ho
        clear hd ho
        simp only [actO, putO, List.setIfInBounds_toArray, List.set_cons_zero, List.set_cons_succ, Nat.reduceAdd, e2, e5, e10, e15, e17]
        refine flow_K (fun K hK => ?_)
        go_simp
        (show K _ _)
        refine hK _ _ ⟨_, rfl, by simp, Chg.of_ext (show Ext _ _ from (by ((try simp only [ext_drew]); (try simp only [ext_ext]); repeat (first | exact Ext.refl _ | with_reducible apply Ext.add | with_reducible apply Ext.dr | apply Ext.alloc | apply Ext.ext | apply Ext.drew | refine Ext.trans ?_ (by assumption))))) _, ⟨(HJ9.out.1.of (show Ext _ _ from (by ((try simp only [ext_drew]); (try simp only [ext_ext]); repeat (first | exact Ext.refl _ | with_reducible apply Ext.add | with_reducible apply Ext.dr | apply Ext.alloc | apply Ext.ext | apply Ext.drew | refine Ext.trans ?_ (by assumption)))))).up (by omega), HJ9.out.2.of (show Ext _ _ from (by ((try simp only [ext_drew]); (try simp only [ext_ext]); repeat (first | exact Ext.refl _ | with_reducible apply Ext.add | with_reducible apply Ext.dr | apply Ext.alloc | apply Ext.ext | apply Ext.drew | refine Ext.trans ?_ (by assumption)))))⟩, ⟨⟨x2, x5, x10, x15, x17⟩, rfl, by simp only [WlkIn]; omega⟩⟩
      | 19, _, ho =>
        obtain ⟨x18, e18, h18⟩ : InW (σ 18) := hd 18 (by obtain rfl := Option.some.inj ho; kernel_rfl)
        obtain ⟨x0, hb0⟩ := HJ9.out.2
        obtain rfl := Option.some.inj ho
        clear hd ho
        simp only [actO, putO, List.setIfInBounds_toArray, List.set_cons_zero, List.set_cons_succ, Nat.reduceAdd, e18]
        refine flow_K (fun K hK => ?_)
        have cR0 := (cell_blk hb0 0).trans (show _ = some (Value.int .i64 x0.id) from rfl)
        have zR0 := frozen_blk hb0 0
        have cR1 := (cell_blk hb0 1).trans (show _ = some (Value.int .i64 x0.at_) from rfl)
        have zR1 := frozen_blk hb0 1
        have cR2 := (cell_blk hb0 2).trans (show _ = some (Value.int .i64 x0.coins) from rfl)
        have zR2 := frozen_blk hb0 2
        have cR3 := (cell_blk hb0 3).trans (show _ = some (Value.int .i64 x0.seq) from rfl)
        have zR3 := frozen_blk hb0 3
        have cR4 := (cell_blk hb0 4).trans (show _ = some (Value.int .i64 x0.last) from rfl)
        have zR4 := frozen_blk hb0 4
        have HB0 := hid hb0
        clear hb0
        go_simp
        (show K _ _)
        refine hK _ _ ⟨undef, rfl, fun _ => rfl, (by repeat (first | with_reducible exact Chg.refl _ _ | with_reducible apply Chg.drew | with_reducible apply Chg.drewl | with_reducible refine Chg.turn (by simp) | with_reducible refine Chg.both ?_ (by simp) | (with_reducible refine Chg.set ?_ (by simp) _) | with_reducible apply Chg.alloc | with_reducible apply Chg.ext)), ⟨(HJ9.out.1.chg (B := [R]) (by repeat (first | with_reducible exact Chg.refl _ _ | with_reducible apply Chg.drew | with_reducible apply Chg.drewl | with_reducible refine Chg.turn (by simp) | with_reducible refine Chg.both ?_ (by simp) | (with_reducible refine Chg.set ?_ (by simp) _) | with_reducible apply Chg.alloc | with_reducible apply Chg.ext)) (by simp; omega) (Nat.le_refl _)).up (by omega), ⟨x18, wlk_store HB0.out⟩⟩, ⟨x18, wlk_store HB0.out, h18⟩⟩
    · intro σ w9 hG hJ hd
      have e0 : σ 0 = .pointer (some ⟨p, 0, none⟩) := hd 0 (by decide)
      obtain ⟨x1, e1, y1, z1⟩ : InI 0 (8) (σ 1) := hd 1 (by decide)
      obtain ⟨x2, e2, y2, z2⟩ : InI (1) (9) (σ 2) := hd 2 (by decide)
      have e3 : σ 3 = .pointer (some ⟨p, 0, none⟩) := hd 3 (by decide)
      have e4 : σ 4 = .int .i64 (nn) := hd 4 (by decide)
      obtain ⟨x5, e5, y5, z5⟩ : InI 0 (nn - 1) (σ 5) := hd 5 (by decide)
      obtain ⟨b6, e6, hb6, ha6⟩ : MkI V.heap.size 6 (0) (99) (σ 6) _ := hd 6 (by decide)
      have e7 : σ 7 = .pointer (some ⟨p, 0, none⟩) := hd 7 (by decide)
      obtain ⟨x8, e8, y8, z8⟩ : InI 0 (5) (σ 8) := hd 8 (by decide)
      obtain ⟨b9, k9, e9, hk9, hb9, ha9⟩ : PtI V.heap.size 6 (0) (99) (σ 9) _ := hd 9 (by decide)
      obtain ⟨x10, e10, y10, z10⟩ : InI (0) (99) (σ 10) := hd 10 (by decide)
      obtain ⟨b11, e11, hb11, ha11⟩ : MkI V.heap.size 5 (0) (900) (σ 11) _ := hd 11 (by decide)
      have e12 : σ 12 = .pointer (some ⟨p, 0, none⟩) := hd 12 (by decide)
      obtain ⟨x13, e13, y13, z13⟩ : InI 0 (4) (σ 13) := hd 13 (by decide)
      obtain ⟨b14, k14, e14, hk14, hb14, ha14⟩ : PtI V.heap.size 5 (0) (900) (σ 14) _ := hd 14 (by decide)
      obtain ⟨x15, e15, y15, z15⟩ : InI (0) (900) (σ 15) := hd 15 (by decide)
      have e16 : σ 16 = .pointer (some ⟨p, 0, none⟩) := hd 16 (by decide)
      obtain ⟨x17, e17, y17, z17⟩ : InI 0 (9) (σ 17) := hd 17 (by decide)
      obtain ⟨x18, e18, h18⟩ : InW (σ 18) := hd 18 (by decide)
      have hs19 : WlkAt R _ := hd 19 (by decide)
      have HG := hid hG
      have HJ9 := hid hJ
      clear hd hG hJ
      simp only [actO, putO, List.setIfInBounds_toArray, List.set_cons_zero, List.set_cons_succ, Nat.reduceAdd, e0, e1, e2, e3, e4, e5, e6, e7, e8, e9, e10, e11, e12, e13, e14, e15, e16, e17, e18]
      clear e0 e1 e2 e3 e4 e5 e6 e7 e8 e9 e10 e11 e12 e13 e14 e15 e16 e17 e18
      obtain ⟨x, hb, hx⟩ := hs19
      have c0 := (cell_blk hb 0).trans (show _ = some (Value.int .i64 x.id) from rfl)
      have c1 := (cell_blk hb 1).trans (show _ = some (Value.int .i64 x.at_) from rfl)
      have c2 := (cell_blk hb 2).trans (show _ = some (Value.int .i64 x.coins) from rfl)
      have c3 := (cell_blk hb 3).trans (show _ = some (Value.int .i64 x.seq) from rfl)
      have c4 := (cell_blk hb 4).trans (show _ = some (Value.int .i64 x.last) from rfl)
      have lR := lt_blk hb
      clear hb
      go_wp2_with (fail)
      refine bodyPost_ret (v := .agg #[.int .i64 x.id, .int .i64 x.at_, .int .i64 x.coins, .int .i64 x.seq, .int .i64 x.last]) (by simp [results, Try.results89, go_sem, c0, c1, c2, c3, c4, lR]) rfl ?_
      exact ⟨x, rfl, hx, HJ9.out.1.up (show Q + 1 * 20 ≤ Q + 20 by omega), HEV.out.chg' HG.out hwR⟩
end Go.Proofs.Ytbbpipbemhggdaa
