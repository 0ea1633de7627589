/- Packed texts: Dw, DrawW, Dx, WlkF, WlkO, Ins, Clo, WlkP, Gate, Dl, DrawP, Dp, Ma, Mas, SS, TCll, Mac, Cx, All, WlkL, Lst -/
import Derived.Test.YtbbpipbemhggdaaZN1
import Derived.Lib.Overlaps
import Derived.Lib.AppendZerosOnto
import Derived.Laws.IdiomCopy
import Derived.Laws.NewBlocks
namespace Go.Proofs.Ytbbpipbemhggdaa
open Go.RowKit
set_option linter.unusedSimpArgs false
set_option linter.unusedVariables false

def WlkIn (x : Wlk) : Prop := (-1 ≤ x.id ∧ x.id ≤ 901) ∧ (-1 ≤ x.at_ ∧ x.at_ ≤ 901) ∧ (-1 ≤ x.coins ∧ x.coins ≤ 901) ∧ (-1 ≤ x.seq ∧ x.seq ≤ 901) ∧ (-1 ≤ x.last ∧ x.last ≤ 901)
def InW (v : Value) : Prop := ∃ x : Wlk, v = .agg #[.int .i64 x.id, .int .i64 x.at_, .int .i64 x.coins, .int .i64 x.seq, .int .i64 x.last] ∧ WlkIn x
def WlkB (R : Nat) (w : World) : Prop := ∃ x : Wlk, w.heap[R]? = some (.cells #[.int .i64 x.id, .int .i64 x.at_, .int .i64 x.coins, .int .i64 x.seq, .int .i64 x.last] 52 (0, 0))
def WlkAt (R : Nat) (w : World) : Prop := ∃ x : Wlk, w.heap[R]? = some (.cells #[.int .i64 x.id, .int .i64 x.at_, .int .i64 x.coins, .int .i64 x.seq, .int .i64 x.last] 52 (0, 0)) ∧ WlkIn x
theorem WlkB.chg {R : Nat} {w w' : World} {B : List Nat} (h : WlkB R w) (hc : Chg B w w') (hR : R ∉ B) : WlkB R w' := by
  obtain ⟨x, h⟩ := h
  exact ⟨x, (hc.block R (lt_blk h) hR).trans h⟩
theorem WlkB.of {R : Nat} {w w' : World} (h : WlkB R w) (hE : Ext w w') : WlkB R w' := h.chg (Chg.of_ext hE []) (by simp)
theorem WlkB.drw {R : Nat} {w : World} (h : WlkB R w) : WlkB R w.drew := h
theorem WlkAt.chg {R : Nat} {w w' : World} {B : List Nat} (h : WlkAt R w) (hc : Chg B w w') (hR : R ∉ B) : WlkAt R w' := by
  obtain ⟨x, h, hx⟩ := h
  exact ⟨x, (hc.block R (lt_blk h) hR).trans h, hx⟩
/-- Blocks added, then p and newer ones changed: p alone has changed. -/
theorem Ext.chg' {w V W : World} {p R : Nat} (hE : Ext w V) (hc : Chg [p, R] V W) (hR : w.heap.size ≤ R) : Chg [p] w W := by
  have h := (Chg.of_ext hE [p, R]).trans hc
  exact ⟨h.os, h.tape, h.output, h.size, fun k hk hn => h.block k hk (by simp at hn ⊢; omega)⟩
theorem wlk_store {w : World} {R : Nat} {x0 x : Wlk} (h : w.heap[R]? = some (.cells #[.int .i64 x0.id, .int .i64 x0.at_, .int .i64 x0.coins, .int .i64 x0.seq, .int .i64 x0.last] 52 (0, 0))) :
    (((((w.setCell ⟨R, 0, none⟩ (.int .i64 x.id)).setCell ⟨R, 1, none⟩ (.int .i64 x.at_)).setCell ⟨R, 2, none⟩ (.int .i64 x.coins)).setCell ⟨R, 3, none⟩ (.int .i64 x.seq)).setCell ⟨R, 4, none⟩ (.int .i64 x.last)).heap[R]? = some (.cells #[.int .i64 x.id, .int .i64 x.at_, .int .i64 x.coins, .int .i64 x.seq, .int .i64 x.last] 52 (0, 0)) := by
  refine Eq.trans (blk_set (blk_set (blk_set (blk_set (blk_set h))))) ?_
  simp only [List.setIfInBounds_toArray, List.set_cons_zero, List.set_cons_succ]
end Go.Proofs.Ytbbpipbemhggdaa

namespace Go.Proofs.Ytbbpipbemhggdaa
open Go.RowKit
set_option linter.unusedSimpArgs false
set_option linter.unusedVariables false

theorem map_mul {m : Mp} (h : MapIn m) : (-81 ≤ m.c * m.w ∧ m.c * m.w ≤ 81) ∧ (plcOk m = true → 1 ≤ m.c * m.w) := by
  obtain ⟨h1, h2, h3, h4⟩ := h
  have key : ∀ a b : Int, -1 ≤ a → a ≤ 9 → -1 ≤ b → b ≤ 9 → -81 ≤ a * b ∧ a * b ≤ 81 := fun a b a0 a1 b0 b1 => by
    have ha : a = -1 ∨ a = 0 ∨ a = 1 ∨ a = 2 ∨ a = 3 ∨ a = 4 ∨ a = 5 ∨ a = 6 ∨ a = 7 ∨ a = 8 ∨ a = 9 := by omega
    rcases ha with rfl | rfl | rfl | rfl | rfl | rfl | rfl | rfl | rfl | rfl | rfl <;> omega
  refine ⟨key _ _ h1 h2 h3 h4, fun ok => ?_⟩
  obtain ⟨hc, hw⟩ := plcOk_iff.1 ok
  have : 0 < m.c * m.w := Int.mul_pos (by omega) (by omega)
  omega
set_option maxRecDepth 100000 in
set_option maxHeartbeats 8000000 in
theorem l20Walker_c (lo p Q : Nat) (m : Mp) (w : World) (h : Rdr lo p Q w) (hQ : Q ≤ 90000) (hm : MapIn m) :
    Calls Try.prog 89 #[.pointer (some ⟨p, 0, none⟩), .agg #[.int .i64 m.c, .int .i64 m.w]] w fun e w' => ∃ x : Wlk, e = .returned (.agg #[.int .i64 x.id, .int .i64 x.at_, .int .i64 x.coins, .int .i64 x.seq, .int .i64 x.last]) ∧ WlkIn x ∧ Rdr lo p (Q + 20) w' ∧ Chg [p] w w' := by
  have lP := h.lt
  have hlo := h.lo
  have HR := hid h
  obtain ⟨⟨mu0, mu1⟩, mu2⟩ := map_mul hm
  obtain ⟨m0, m1, m2, m3⟩ := hm
  obtain ⟨nn, hnn, n1, n2⟩ : ∃ nn : Int, (if plcOk m = true then m.c * m.w else 4) = nn ∧ 1 ≤ nn ∧ nn ≤ 81 := by
    refine ⟨_, rfl, ?_, ?_⟩ <;> split <;> rename_i hq <;> first | exact mu2 hq | omega
  have HNN := hid hnn
  clear h hnn mu2
  go_enter Try.func89, Try.ntmps89
  cases q : plcOk m with
  | false =>
    have e0 : nn = 4 := by have := HNN.out; rw [q] at this; simpa using this.symm
    clear e0 HNN
    go_wp2_with (first | (go_at_call 14; refine (sPlcOk_c _ _).mono ?_; rintro e w' ⟨rfl, t, rfl⟩))
    refine wp_gen fun V hV => ?_
    have EV : Ext w V := by rw [hV]; ((try simp only [ext_drew]); (try simp only [ext_ext]); repeat (first | exact Ext.refl _ | with_reducible apply Ext.add | with_reducible apply Ext.dr | apply Ext.alloc | apply Ext.ext | apply Ext.drew | refine Ext.trans ?_ (by assumption)))
    have hb : V.heap[w.heap.size + 1]? = some (.cells #[.int .i64 0, .int .i64 0, .int .i64 0, .int .i64 0, .int .i64 0] 52 (0, 0)) := by rw [hV]; (repeat (first | with_reducible refine blk_ext ?_ | with_reducible apply blk_drew)); exact alloc_last (by simp)
    obtain ⟨R, hRe⟩ : ∃ R, w.heap.size + 1 = R := ⟨_, rfl⟩
    rw [hRe] at hb ⊢
    have hRW := lt_blk hb
    have hpW : p < V.heap.size := Nat.lt_of_lt_of_le lP EV.size
    have hRp : R ≠ p := by omega
    have hloR : lo ≤ R := by omega
    have HJ := hid (show Rdr lo p Q V ∧ WlkB R V from ⟨HR.out.of EV, ⟨⟨0, 0, 0, 0, 0⟩, hb⟩⟩)
    have HEV := hid EV
    have hwR : w.heap.size ≤ R := by omega
    clear hV hb hRe EV
    refine wp_region_flowD [some 14, some 15, some 16, some 17, some 18, some 19, some 20, some 21, some 22, some 23, some 24, some 25, some 26, some 27, some 28, some 29, some 30, some 31, some 32, none] (fun a b => Chg [p, R] a b) (fun i a b => Chg (bif i == 19 then [R] else [p]) a b) (fun k9 w9 => Rdr lo p (Q + 1 * k9) w9 ∧ WlkB R w9) (fun i v9 w9 => match i with
      | 0 => v9 = .pointer (some ⟨p, 0, none⟩)
      | 1 => InI 0 (8) (v9)
      | 2 => InI (1) (9) (v9)
      | 3 => v9 = .pointer (some ⟨p, 0, none⟩)
      | 4 => v9 = .int .i64 (4)
      | 5 => InI 0 (3) (v9)
      | 6 => MkI V.heap.size 6 (0) (99) (v9) w9
      | 7 => v9 = .pointer (some ⟨p, 0, none⟩)
      | 8 => InI 0 (5) (v9)
      | 9 => PtI V.heap.size 6 (0) (99) (v9) w9
      | 10 => InI (0) (99) (v9)
      | 11 => MkI V.heap.size 5 (0) (900) (v9) w9
      | 12 => v9 = .pointer (some ⟨p, 0, none⟩)
      | 13 => InI 0 (4) (v9)
      | 14 => PtI V.heap.size 5 (0) (900) (v9) w9
      | 15 => InI (0) (900) (v9)
      | 16 => v9 = .pointer (some ⟨p, 0, none⟩)
      | 17 => InI 0 (9) (v9)
      | 18 => InW (v9)
      | _ => WlkAt R w9) (by kernel_rfl) (by decide +kernel) (by simp) (fun a => Chg.refl _ a) (fun a b c h k => Chg.trans h k) ?_ (Chg.drew (Chg.refl _ _)) ?_ ?_ ?_ ?_
    · intro i a b hi hG
      refine hG.mono ?_
      cases (i == 19) <;> simp
    · exact ⟨HJ.out.1.of zq0, HJ.out.2.drw⟩
    · intro i j hi hj hij v9 w9 w8 hg hS hG
      have hG2 : Chg [p, R] w9 w8 := hG.mono (by cases (i == 19) <;> simp)
      have hj9 : j < 20 := hj
      clear hi hj
      match j, hj9 with
      | 0, _ => exact hS
      | 1, _ => exact hS
      | 2, _ => exact hS
      | 3, _ => exact hS
      | 4, _ => exact hS
      | 5, _ => exact hS
      | 6, _ => exact MkI.chg hS hG2 (by simp; omega)
      | 7, _ => exact hS
      | 8, _ => exact hS
      | 9, _ => exact PtI.chg hS hG2 (by simp; omega)
      | 10, _ => exact hS
      | 11, _ => exact MkI.chg hS hG2 (by simp; omega)
      | 12, _ => exact hS
      | 13, _ => exact hS
      | 14, _ => exact PtI.chg hS hG2 (by simp; omega)
      | 15, _ => exact hS
      | 16, _ => exact hS
      | 17, _ => exact hS
      | 18, _ => exact hS
      | 19, _ =>
        have h9 : (i == 19) = false := by simpa using hij
        rw [h9, cond_false] at hG
        exact hS.chg hG (by simpa using hRp)
      | n + 20, h9 => exact absurd h9 (by omega)
    · intro i oo ho σ k9 w9 hG hk9 hJ hd
      have HG := hid hG
      have HJ9 := hid hJ
      have lp9 : p < w9.heap.size := Nat.lt_of_lt_of_le hpW hG.size
      have lR9 : R < w9.heap.size := Nat.lt_of_lt_of_le hRW hG.size
      have hW9 := hG.size
      have hkN : k9 < 20 := hk9
      have hi9 : i < 20 := (List.getElem?_eq_some_iff.1 ho).1
      clear hG hJ hk9
      match i, hi9, ho with
      | 0, _, ho =>
        obtain rfl := Option.some.inj ho
        clear hd ho
        simp only [actO, putO, List.setIfInBounds_toArray, List.set_cons_zero, List.set_cons_succ, Nat.reduceAdd]
        refine flow_K (fun K hK => ?_)
        go_simp
        (show K _ _)
        refine hK _ _ ⟨_, rfl, by simp, Chg.of_ext (show Ext _ _ from zq0) _, ⟨(HJ9.out.1.of (show Ext _ _ from zq0)).up (by omega), HJ9.out.2.of (show Ext _ _ from zq0)⟩, rfl⟩
      | 1, _, ho =>
        have e0 : σ 0 = .pointer (some ⟨p, 0, none⟩) := hd 0 (by obtain rfl := Option.some.inj ho; kernel_rfl)
        obtain rfl := Option.some.inj ho
        clear hd ho
        simp only [actO, putO, List.setIfInBounds_toArray, List.set_cons_zero, List.set_cons_succ, Nat.reduceAdd, e0]
        refine flow_K (fun K hK => ?_)
        have HRd := hid HJ9.out.1
        go_simp
        refine (pick_c lo p _ (9) w9 HRd.out (by omega) (by omega) (by omega)).mono ?_
        rintro e w8 ⟨vv, rfl, hv0, hv1, hR8, hC8⟩
        (show K _ _)
        refine hK _ _ ⟨_, rfl, by simp, hC8, ⟨hR8.up (by omega), HJ9.out.2.chg hC8 (by simpa using hRp)⟩, ⟨vv, rfl, hv0, by omega⟩⟩
      | 2, _, ho =>
        obtain ⟨x1, e1, y1, z1⟩ : InI 0 (8) (σ 1) := hd 1 (by obtain rfl := Option.some.inj ho; kernel_rfl)
        have hwr : IntKind.i64.wrap (1 + x1) = 1 + x1 := by simp [IntKind.wrap, IntKind.bits, IntKind.signed]; omega
        obtain rfl := Option.some.inj ho
        clear hd ho
        simp only [actO, putO, List.setIfInBounds_toArray, List.set_cons_zero, List.set_cons_succ, Nat.reduceAdd, e1]
        refine flow_K (fun K hK => ?_)
        go_simp
        (try rw [hwr])
        (show K _ _)
        refine hK _ _ ⟨_, rfl, by simp, Chg.of_ext (show Ext _ _ from zq0) _, ⟨(HJ9.out.1.of (show Ext _ _ from zq0)).up (by omega), HJ9.out.2.of (show Ext _ _ from zq0)⟩, ⟨_, rfl, by omega, by omega⟩⟩
      | 3, _, ho =>
        obtain rfl := Option.some.inj ho
        clear hd ho
        simp only [actO, putO, List.setIfInBounds_toArray, List.set_cons_zero, List.set_cons_succ, Nat.reduceAdd]
        refine flow_K (fun K hK => ?_)
        go_simp
        (show K _ _)
        refine hK _ _ ⟨_, rfl, by simp, Chg.of_ext (show Ext _ _ from zq0) _, ⟨(HJ9.out.1.of (show Ext _ _ from zq0)).up (by omega), HJ9.out.2.of (show Ext _ _ from zq0)⟩, rfl⟩
      | 4, _, ho =>
        obtain rfl := Option.some.inj ho
        clear hd ho
        simp only [actO, putO, List.setIfInBounds_toArray, List.set_cons_zero, List.set_cons_succ, Nat.reduceAdd]
        refine flow_K (fun K hK => ?_)
        go_simp
        (show K _ _)
        refine hK _ _ ⟨_, rfl, by simp, Chg.of_ext (show Ext _ _ from zq0) _, ⟨(HJ9.out.1.of (show Ext _ _ from zq0)).up (by omega), HJ9.out.2.of (show Ext _ _ from zq0)⟩, rfl⟩
      | 5, _, ho =>
        have e3 : σ 3 = .pointer (some ⟨p, 0, none⟩) := hd 3 (by obtain rfl := Option.some.inj ho; kernel_rfl)
        have e4 : σ 4 = .int .i64 (4) := hd 4 (by obtain rfl := Option.some.inj ho; kernel_rfl)
        obtain rfl := Option.some.inj ho
        clear hd ho
        simp only [actO, putO, List.setIfInBounds_toArray, List.set_cons_zero, List.set_cons_succ, Nat.reduceAdd, e3, e4]
        refine flow_K (fun K hK => ?_)
        have HRd := hid HJ9.out.1
        go_simp
        refine (pick_c lo p _ (4) w9 HRd.out (by omega) (by omega) (by omega)).mono ?_
        rintro e w8 ⟨vv, rfl, hv0, hv1, hR8, hC8⟩
        (show K _ _)
        refine hK _ _ ⟨_, rfl, by simp, hC8, ⟨hR8.up (by omega), HJ9.out.2.chg hC8 (by simpa using hRp)⟩, ⟨vv, rfl, hv0, by omega⟩⟩
      | 6, _, ho =>
        obtain rfl := Option.some.inj ho
        clear hd ho
        simp only [actO, putO, List.setIfInBounds_toArray, List.set_cons_zero, List.set_cons_succ, Nat.reduceAdd]
        refine flow_K (fun K hK => ?_)
        go_simp
        (show K _ _)
        refine hK _ _ ⟨_, rfl, by simp, Chg.of_ext (show Ext _ _ from zq0) _, ⟨(HJ9.out.1.of (show Ext _ _ from zq0)).up (by omega), HJ9.out.2.of (show Ext _ _ from zq0)⟩, ⟨_, rfl, by (try simp [go_sem]) <;> omega, ⟨_, heap_new (by simp [go_sem]), fun i hi => ?_⟩⟩⟩
        match i, hi with
        | 0, _ => exact ⟨0, rfl, by omega, by omega⟩
        | 1, _ => exact ⟨1, rfl, by omega, by omega⟩
        | 2, _ => exact ⟨5, rfl, by omega, by omega⟩
        | 3, _ => exact ⟨20, rfl, by omega, by omega⟩
        | 4, _ => exact ⟨95, rfl, by omega, by omega⟩
        | 5, _ => exact ⟨99, rfl, by omega, by omega⟩
      | 7, _, ho =>
        obtain rfl := Option.some.inj ho
        clear hd ho
        simp only [actO, putO, List.setIfInBounds_toArray, List.set_cons_zero, List.set_cons_succ, Nat.reduceAdd]
        refine flow_K (fun K hK => ?_)
        go_simp
        (show K _ _)
        refine hK _ _ ⟨_, rfl, by simp, Chg.of_ext (show Ext _ _ from zq0) _, ⟨(HJ9.out.1.of (show Ext _ _ from zq0)).up (by omega), HJ9.out.2.of (show Ext _ _ from zq0)⟩, rfl⟩
      | 8, _, ho =>
        have e7 : σ 7 = .pointer (some ⟨p, 0, none⟩) := hd 7 (by obtain rfl := Option.some.inj ho; kernel_rfl)
        obtain rfl := Option.some.inj ho
        clear hd ho
        simp only [actO, putO, List.setIfInBounds_toArray, List.set_cons_zero, List.set_cons_succ, Nat.reduceAdd, e7]
        refine flow_K (fun K hK => ?_)
        have HRd := hid HJ9.out.1
        go_simp
        refine (pick_c lo p _ (6) w9 HRd.out (by omega) (by omega) (by omega)).mono ?_
        rintro e w8 ⟨vv, rfl, hv0, hv1, hR8, hC8⟩
        (show K _ _)
        refine hK _ _ ⟨_, rfl, by simp, hC8, ⟨hR8.up (by omega), HJ9.out.2.chg hC8 (by simpa using hRp)⟩, ⟨vv, rfl, hv0, by omega⟩⟩
      | 9, _, ho =>
        obtain ⟨b6, e6, hb6, ha6⟩ : MkI V.heap.size 6 (0) (99) (σ 6) _ := hd 6 (by obtain rfl := Option.some.inj ho; kernel_rfl)
        obtain ⟨x8, e8, y8, z8⟩ : InI 0 (5) (σ 8) := hd 8 (by obtain rfl := Option.some.inj ho; kernel_rfl)
        obtain ⟨i8, rfl⟩ : ∃ i : Nat, x8 = (i : Int) := ⟨x8.toNat, by omega⟩
        have hin : i8 < 6 := by omega
        have hin2 : (i8 : Int) < 6 := by omega
        obtain rfl := Option.some.inj ho
        clear hd ho
        simp only [actO, putO, List.setIfInBounds_toArray, List.set_cons_zero, List.set_cons_succ, Nat.reduceAdd, e6, e8]
        refine flow_K (fun K hK => ?_)
        go_simp
        (show K _ _)
        refine hK _ _ ⟨_, rfl, by simp, Chg.of_ext (show Ext _ _ from zq0) _, ⟨(HJ9.out.1.of (show Ext _ _ from zq0)).up (by omega), HJ9.out.2.of (show Ext _ _ from zq0)⟩, ⟨_, _, rfl, hin, hb6, ha6⟩⟩
      | 10, _, ho =>
        obtain ⟨b9, k9, e9, hk9, hb9, ha9⟩ : PtI V.heap.size 6 (0) (99) (σ 9) _ := hd 9 (by obtain rfl := Option.some.inj ho; kernel_rfl)
        obtain ⟨y, hy, hy0, hy1⟩ := index_at ha9 hk9
        obtain rfl := Option.some.inj ho
        clear hd ho
        simp only [actO, putO, List.setIfInBounds_toArray, List.set_cons_zero, List.set_cons_succ, Nat.reduceAdd, e9]
        refine flow_K (fun K hK => ?_)
        go_simp
        (show K _ _)
        refine hK _ _ ⟨_, rfl, by simp, Chg.of_ext (show Ext _ _ from zq0) _, ⟨(HJ9.out.1.of (show Ext _ _ from zq0)).up (by omega), HJ9.out.2.of (show Ext _ _ from zq0)⟩, ⟨y, rfl, hy0, hy1⟩⟩
      | 11, _, ho =>
        obtain rfl := Option.some.inj ho
        clear hd ho
        simp only [actO, putO, List.setIfInBounds_toArray, List.set_cons_zero, List.set_cons_succ, Nat.reduceAdd]
        refine flow_K (fun K hK => ?_)
        go_simp
        (show K _ _)
        refine hK _ _ ⟨_, rfl, by simp, Chg.of_ext (show Ext _ _ from zq0) _, ⟨(HJ9.out.1.of (show Ext _ _ from zq0)).up (by omega), HJ9.out.2.of (show Ext _ _ from zq0)⟩, ⟨_, rfl, by (try simp [go_sem]) <;> omega, ⟨_, heap_new (by simp [go_sem]), fun i hi => ?_⟩⟩⟩
        match i, hi with
        | 0, _ => exact ⟨0, rfl, by omega, by omega⟩
        | 1, _ => exact ⟨0, rfl, by omega, by omega⟩
        | 2, _ => exact ⟨1, rfl, by omega, by omega⟩
        | 3, _ => exact ⟨7, rfl, by omega, by omega⟩
        | 4, _ => exact ⟨900, rfl, by omega, by omega⟩
      | 12, _, ho =>
        obtain rfl := Option.some.inj ho
        clear hd ho
        simp only [actO, putO, List.setIfInBounds_toArray, List.set_cons_zero, List.set_cons_succ, Nat.reduceAdd]
        refine flow_K (fun K hK => ?_)
        go_simp
        (show K _ _)
        refine hK _ _ ⟨_, rfl, by simp, Chg.of_ext (show Ext _ _ from zq0) _, ⟨(HJ9.out.1.of (show Ext _ _ from zq0)).up (by omega), HJ9.out.2.of (show Ext _ _ from zq0)⟩, rfl⟩
      | 13, _, ho =>
        have e12 : σ 12 = .pointer (some ⟨p, 0, none⟩) := hd 12 (by obtain rfl := Option.some.inj ho; kernel_rfl)
        obtain rfl := Option.some.inj ho
        clear hd ho
        simp only [actO, putO, List.setIfInBounds_toArray, List.set_cons_zero, List.set_cons_succ, Nat.reduceAdd, e12]
        refine flow_K (fun K hK => ?_)
        have HRd := hid HJ9.out.1
        go_simp
        refine (pick_c lo p _ (5) w9 HRd.out (by omega) (by omega) (by omega)).mono ?_
        rintro e w8 ⟨vv, rfl, hv0, hv1, hR8, hC8⟩
        (show K _ _)
        refine hK _ _ ⟨_, rfl, by simp, hC8, ⟨hR8.up (by omega), HJ9.out.2.chg hC8 (by simpa using hRp)⟩, ⟨vv, rfl, hv0, by omega⟩⟩
      | 14, _, ho =>
        obtain ⟨b11, e11, hb11, ha11⟩ : MkI V.heap.size 5 (0) (900) (σ 11) _ := hd 11 (by obtain rfl := Option.some.inj ho; kernel_rfl)
        obtain ⟨x13, e13, y13, z13⟩ : InI 0 (4) (σ 13) := hd 13 (by obtain rfl := Option.some.inj ho; kernel_rfl)
        obtain ⟨i13, rfl⟩ : ∃ i : Nat, x13 = (i : Int) := ⟨x13.toNat, by omega⟩
        have hin : i13 < 5 := by omega
        have hin2 : (i13 : Int) < 5 := by omega
        obtain rfl := Option.some.inj ho
        clear hd ho
        simp only [actO, putO, List.setIfInBounds_toArray, List.set_cons_zero, List.set_cons_succ, Nat.reduceAdd, e11, e13]
        refine flow_K (fun K hK => ?_)
        go_simp
        (show K _ _)
        refine hK _ _ ⟨_, rfl, by simp, Chg.of_ext (show Ext _ _ from zq0) _, ⟨(HJ9.out.1.of (show Ext _ _ from zq0)).up (by omega), HJ9.out.2.of (show Ext _ _ from zq0)⟩, ⟨_, _, rfl, hin, hb11, ha11⟩⟩
      | 15, _, ho =>
        obtain ⟨b14, k14, e14, hk14, hb14, ha14⟩ : PtI V.heap.size 5 (0) (900) (σ 14) _ := hd 14 (by obtain rfl := Option.some.inj ho; kernel_rfl)
        obtain ⟨y, hy, hy0, hy1⟩ := index_at ha14 hk14
        obtain rfl := Option.some.inj ho
        clear hd ho
        simp only [actO, putO, List.setIfInBounds_toArray, List.set_cons_zero, List.set_cons_succ, Nat.reduceAdd, e14]
        refine flow_K (fun K hK => ?_)
        go_simp
        (show K _ _)
        refine hK _ _ ⟨_, rfl, by simp, Chg.of_ext (show Ext _ _ from zq0) _, ⟨(HJ9.out.1.of (show Ext _ _ from zq0)).up (by omega), HJ9.out.2.of (show Ext _ _ from zq0)⟩, ⟨y, rfl, hy0, hy1⟩⟩
      | 16, _, ho =>
        obtain rfl := Option.some.inj ho
        clear hd ho
        simp only [actO, putO, List.setIfInBounds_toArray, List.set_cons_zero, List.set_cons_succ, Nat.reduceAdd]
        refine flow_K (fun K hK => ?_)
        go_simp
        (show K _ _)
        refine hK _ _ ⟨_, rfl, by simp, Chg.of_ext (show Ext _ _ from zq0) _, ⟨(HJ9.out.1.of (show Ext _ _ from zq0)).up (by omega), HJ9.out.2.of (show Ext _ _ from zq0)⟩, rfl⟩
      | 17, _, ho =>
        have e16 : σ 16 = .pointer (some ⟨p, 0, none⟩) := hd 16 (by obtain rfl := Option.some.inj ho; kernel_rfl)
        obtain rfl := Option.some.inj ho
        clear hd ho
        simp only [actO, putO, List.setIfInBounds_toArray, List.set_cons_zero, List.set_cons_succ, Nat.reduceAdd, e16]
        refine flow_K (fun K hK => ?_)
        have HRd := hid HJ9.out.1
        go_simp
        refine (pick_c lo p _ (10) w9 HRd.out (by omega) (by omega) (by omega)).mono ?_
        rintro e w8 ⟨vv, rfl, hv0, hv1, hR8, hC8⟩
        (show K _ _)
        refine hK _ _ ⟨_, rfl, by simp, hC8, ⟨hR8.up (by omega), HJ9.out.2.chg hC8 (by simpa using hRp)⟩, ⟨vv, rfl, hv0, by omega⟩⟩
      | 18, _, ho =>
        obtain ⟨x2, e2, y2, z2⟩ : InI (1) (9) (σ 2) := hd 2 (by obtain rfl := Option.some.inj ho; kernel_rfl)
        obtain ⟨x5, e5, y5, z5⟩ : InI 0 (3) (σ 5) := hd 5 (by obtain rfl := Option.some.inj ho; kernel_rfl)
        obtain ⟨x10, e10, y10, z10⟩ : InI (0) (99) (σ 10) := hd 10 (by obtain rfl := Option.some.inj ho; kernel_rfl)
        obtain ⟨x15, e15, y15, z15⟩ : InI (0) (900) (σ 15) := hd 15 (by obtain rfl := Option.some.inj ho; kernel_rfl)
        obtain ⟨x17, e17, y17, z17⟩ : InI 0 (9) (σ 17) := hd 17 (by obtain rfl := Option.some.inj ho; kernel_rfl)
        obtain rfl := Option.some.inj ho
        clear hd ho
        simp only [actO, putO, List.setIfInBounds_toArray, List.set_cons_zero, List.set_cons_succ, Nat.reduceAdd, e2, e5, e10, e15, e17]
        refine flow_K (fun K hK => ?_)
        go_simp
        (show K _ _)
        refine hK _ _ ⟨_, rfl, by simp, Chg.of_ext (show Ext _ _ from zq0) _, ⟨(HJ9.out.1.of (show Ext _ _ from zq0)).up (by omega), HJ9.out.2.of (show Ext _ _ from zq0)⟩, ⟨⟨x2, x5, x10, x15, x17⟩, rfl, by simp only [WlkIn]; omega⟩⟩
      | 19, _, ho =>
        obtain ⟨x18, e18, h18⟩ : InW (σ 18) := hd 18 (by obtain rfl := Option.some.inj ho; kernel_rfl)
        obtain ⟨x0, hb0⟩ := HJ9.out.2
        obtain rfl := Option.some.inj ho
        clear hd ho
        simp only [actO, putO, List.setIfInBounds_toArray, List.set_cons_zero, List.set_cons_succ, Nat.reduceAdd, e18]
        refine flow_K (fun K hK => ?_)
        have cR0 := (cell_blk hb0 0).trans (show _ = some (Value.int .i64 x0.id) from rfl)
        have zR0 := frozen_blk hb0 0
        have cR1 := (cell_blk hb0 1).trans (show _ = some (Value.int .i64 x0.at_) from rfl)
        have zR1 := frozen_blk hb0 1
        have cR2 := (cell_blk hb0 2).trans (show _ = some (Value.int .i64 x0.coins) from rfl)
        have zR2 := frozen_blk hb0 2
        have cR3 := (cell_blk hb0 3).trans (show _ = some (Value.int .i64 x0.seq) from rfl)
        have zR3 := frozen_blk hb0 3
        have cR4 := (cell_blk hb0 4).trans (show _ = some (Value.int .i64 x0.last) from rfl)
        have zR4 := frozen_blk hb0 4
        have HB0 := hid hb0
        clear hb0
        go_simp
        (show K _ _)
        refine hK _ _ ⟨undef, rfl, fun _ => rfl, zq1, ⟨(HJ9.out.1.chg (B := [R]) zq1 (by simp; omega) (Nat.le_refl _)).up (by omega), ⟨x18, wlk_store HB0.out⟩⟩, ⟨x18, wlk_store HB0.out, h18⟩⟩
    · intro σ w9 hG hJ hd
      have e0 : σ 0 = .pointer (some ⟨p, 0, none⟩) := hd 0 (by decide)
      obtain ⟨x1, e1, y1, z1⟩ : InI 0 (8) (σ 1) := hd 1 (by decide)
      obtain ⟨x2, e2, y2, z2⟩ : InI (1) (9) (σ 2) := hd 2 (by decide)
      have e3 : σ 3 = .pointer (some ⟨p, 0, none⟩) := hd 3 (by decide)
      have e4 : σ 4 = .int .i64 (4) := hd 4 (by decide)
      obtain ⟨x5, e5, y5, z5⟩ : InI 0 (3) (σ 5) := hd 5 (by decide)
      obtain ⟨b6, e6, hb6, ha6⟩ : MkI V.heap.size 6 (0) (99) (σ 6) _ := hd 6 (by decide)
      have e7 : σ 7 = .pointer (some ⟨p, 0, none⟩) := hd 7 (by decide)
      obtain ⟨x8, e8, y8, z8⟩ : InI 0 (5) (σ 8) := hd 8 (by decide)
      obtain ⟨b9, k9, e9, hk9, hb9, ha9⟩ : PtI V.heap.size 6 (0) (99) (σ 9) _ := hd 9 (by decide)
      obtain ⟨x10, e10, y10, z10⟩ : InI (0) (99) (σ 10) := hd 10 (by decide)
      obtain ⟨b11, e11, hb11, ha11⟩ : MkI V.heap.size 5 (0) (900) (σ 11) _ := hd 11 (by decide)
      have e12 : σ 12 = .pointer (some ⟨p, 0, none⟩) := hd 12 (by decide)
      obtain ⟨x13, e13, y13, z13⟩ : InI 0 (4) (σ 13) := hd 13 (by decide)
      obtain ⟨b14, k14, e14, hk14, hb14, ha14⟩ : PtI V.heap.size 5 (0) (900) (σ 14) _ := hd 14 (by decide)
      obtain ⟨x15, e15, y15, z15⟩ : InI (0) (900) (σ 15) := hd 15 (by decide)
      have e16 : σ 16 = .pointer (some ⟨p, 0, none⟩) := hd 16 (by decide)
      obtain ⟨x17, e17, y17, z17⟩ : InI 0 (9) (σ 17) := hd 17 (by decide)
      obtain ⟨x18, e18, h18⟩ : InW (σ 18) := hd 18 (by decide)
      have hs19 : WlkAt R _ := hd 19 (by decide)
      have HG := hid hG
      have HJ9 := hid hJ
      clear hd hG hJ
      simp only [actO, putO, List.setIfInBounds_toArray, List.set_cons_zero, List.set_cons_succ, Nat.reduceAdd, e0, e1, e2, e3, e4, e5, e6, e7, e8, e9, e10, e11, e12, e13, e14, e15, e16, e17, e18]
      clear e0 e1 e2 e3 e4 e5 e6 e7 e8 e9 e10 e11 e12 e13 e14 e15 e16 e17 e18
      obtain ⟨x, hb, hx⟩ := hs19
      have c0 := (cell_blk hb 0).trans (show _ = some (Value.int .i64 x.id) from rfl)
      have c1 := (cell_blk hb 1).trans (show _ = some (Value.int .i64 x.at_) from rfl)
      have c2 := (cell_blk hb 2).trans (show _ = some (Value.int .i64 x.coins) from rfl)
      have c3 := (cell_blk hb 3).trans (show _ = some (Value.int .i64 x.seq) from rfl)
      have c4 := (cell_blk hb 4).trans (show _ = some (Value.int .i64 x.last) from rfl)
      have lR := lt_blk hb
      clear hb
      go_wp2_with (fail)
      refine bodyPost_ret (v := .agg #[.int .i64 x.id, .int .i64 x.at_, .int .i64 x.coins, .int .i64 x.seq, .int .i64 x.last]) (by simp [results, Try.results89, go_sem, c0, c1, c2, c3, c4, lR]) rfl ?_
      exact ⟨x, rfl, hx, HJ9.out.1.up (show Q + 1 * 20 ≤ Q + 20 by omega), HEV.out.chg' HG.out hwR⟩
  | true =>
    have e0 : nn = m.c * m.w := by have := HNN.out; rw [q] at this; simpa using this.symm
    clear HNN
    go_wp2_with (first | (go_at_call 14; refine (sPlcOk_c _ _).mono ?_; rintro e w' ⟨rfl, t, rfl⟩))
    rw [← e0]
    clear e0
    refine wp_gen fun V hV => ?_
    have EV : Ext w V := by rw [hV]; ((try simp only [ext_drew]); (try simp only [ext_ext]); repeat (first | exact Ext.refl _ | with_reducible apply Ext.add | with_reducible apply Ext.dr | apply Ext.alloc | apply Ext.ext | apply Ext.drew | refine Ext.trans ?_ (by assumption)))
    have hb : V.heap[w.heap.size + 1]? = some (.cells #[.int .i64 0, .int .i64 0, .int .i64 0, .int .i64 0, .int .i64 0] 52 (0, 0)) := by rw [hV]; (repeat (first | with_reducible refine blk_ext ?_ | with_reducible apply blk_drew)); exact alloc_last (by simp)
    obtain ⟨R, hRe⟩ : ∃ R, w.heap.size + 1 = R := ⟨_, rfl⟩
    rw [hRe] at hb ⊢
    have hRW := lt_blk hb
    have hpW : p < V.heap.size := Nat.lt_of_lt_of_le lP EV.size
    have hRp : R ≠ p := by omega
    have hloR : lo ≤ R := by omega
    have HJ := hid (show Rdr lo p Q V ∧ WlkB R V from ⟨HR.out.of EV, ⟨⟨0, 0, 0, 0, 0⟩, hb⟩⟩)
    have HEV := hid EV
    have hwR : w.heap.size ≤ R := by omega
    clear hV hb hRe EV
    refine wp_region_flowD [some 14, some 15, some 16, some 17, some 18, some 19, some 20, some 21, some 22, some 23, some 24, some 25, some 26, some 27, some 28, some 29, some 30, some 31, some 32, none] (fun a b => Chg [p, R] a b) (fun i a b => Chg (bif i == 19 then [R] else [p]) a b) (fun k9 w9 => Rdr lo p (Q + 1 * k9) w9 ∧ WlkB R w9) (fun i v9 w9 => match i with
      | 0 => v9 = .pointer (some ⟨p, 0, none⟩)
      | 1 => InI 0 (8) (v9)
      | 2 => InI (1) (9) (v9)
      | 3 => v9 = .pointer (some ⟨p, 0, none⟩)
      | 4 => v9 = .int .i64 (nn)
      | 5 => InI 0 (nn - 1) (v9)
      | 6 => MkI V.heap.size 6 (0) (99) (v9) w9
      | 7 => v9 = .pointer (some ⟨p, 0, none⟩)
      | 8 => InI 0 (5) (v9)
      | 9 => PtI V.heap.size 6 (0) (99) (v9) w9
      | 10 => InI (0) (99) (v9)
      | 11 => MkI V.heap.size 5 (0) (900) (v9) w9
      | 12 => v9 = .pointer (some ⟨p, 0, none⟩)
      | 13 => InI 0 (4) (v9)
      | 14 => PtI V.heap.size 5 (0) (900) (v9) w9
      | 15 => InI (0) (900) (v9)
      | 16 => v9 = .pointer (some ⟨p, 0, none⟩)
      | 17 => InI 0 (9) (v9)
      | 18 => InW (v9)
      | _ => WlkAt R w9) (by kernel_rfl) (by decide +kernel) (by simp) (fun a => Chg.refl _ a) (fun a b c h k => Chg.trans h k) ?_ (Chg.drew (Chg.refl _ _)) ?_ ?_ ?_ ?_
    · intro i a b hi hG
      refine hG.mono ?_
      cases (i == 19) <;> simp
    · exact ⟨HJ.out.1.of zq0, HJ.out.2.drw⟩
    · intro i j hi hj hij v9 w9 w8 hg hS hG
      have hG2 : Chg [p, R] w9 w8 := hG.mono (by cases (i == 19) <;> simp)
      have hj9 : j < 20 := hj
      clear hi hj
      match j, hj9 with
      | 0, _ => exact hS
      | 1, _ => exact hS
      | 2, _ => exact hS
      | 3, _ => exact hS
      | 4, _ => exact hS
      | 5, _ => exact hS
      | 6, _ => exact MkI.chg hS hG2 (by simp; omega)
      | 7, _ => exact hS
      | 8, _ => exact hS
      | 9, _ => exact PtI.chg hS hG2 (by simp; omega)
      | 10, _ => exact hS
      | 11, _ => exact MkI.chg hS hG2 (by simp; omega)
      | 12, _ => exact hS
      | 13, _ => exact hS
      | 14, _ => exact PtI.chg hS hG2 (by simp; omega)
      | 15, _ => exact hS
      | 16, _ => exact hS
      | 17, _ => exact hS
      | 18, _ => exact hS
      | 19, _ =>
        have h9 : (i == 19) = false := by simpa using hij
        rw [h9, cond_false] at hG
        exact hS.chg hG (by simpa using hRp)
      | n + 20, h9 => exact absurd h9 (by omega)
    · intro i oo ho σ k9 w9 hG hk9 hJ hd
      have HG := hid hG
      have HJ9 := hid hJ
      have lp9 : p < w9.heap.size := Nat.lt_of_lt_of_le hpW hG.size
      have lR9 : R < w9.heap.size := Nat.lt_of_lt_of_le hRW hG.size
      have hW9 := hG.size
      have hkN : k9 < 20 := hk9
      have hi9 : i < 20 := (List.getElem?_eq_some_iff.1 ho).1
      clear hG hJ hk9
      match i, hi9, ho with
      | 0, _, ho =>
        obtain rfl := Option.some.inj ho
        clear hd ho
        simp only [actO, putO, List.setIfInBounds_toArray, List.set_cons_zero, List.set_cons_succ, Nat.reduceAdd]
        refine flow_K (fun K hK => ?_)
        go_simp
        (show K _ _)
        refine hK _ _ ⟨_, rfl, by simp, Chg.of_ext (show Ext _ _ from zq0) _, ⟨(HJ9.out.1.of (show Ext _ _ from zq0)).up (by omega), HJ9.out.2.of (show Ext _ _ from zq0)⟩, rfl⟩
      | 1, _, ho =>
        have e0 : σ 0 = .pointer (some ⟨p, 0, none⟩) := hd 0 (by obtain rfl := Option.some.inj ho; kernel_rfl)
        obtain rfl := Option.some.inj ho
        clear hd ho
        simp only [actO, putO, List.setIfInBounds_toArray, List.set_cons_zero, List.set_cons_succ, Nat.reduceAdd, e0]
        refine flow_K (fun K hK => ?_)
        have HRd := hid HJ9.out.1
        go_simp
        refine (pick_c lo p _ (9) w9 HRd.out (by omega) (by omega) (by omega)).mono ?_
        rintro e w8 ⟨vv, rfl, hv0, hv1, hR8, hC8⟩
        (show K _ _)
        refine hK _ _ ⟨_, rfl, by simp, hC8, ⟨hR8.up (by omega), HJ9.out.2.chg hC8 (by simpa using hRp)⟩, ⟨vv, rfl, hv0, by omega⟩⟩
      | 2, _, ho =>
        obtain ⟨x1, e1, y1, z1⟩ : InI 0 (8) (σ 1) := hd 1 (by obtain rfl := Option.some.inj ho; kernel_rfl)
        have hwr : IntKind.i64.wrap (1 + x1) = 1 + x1 := by simp [IntKind.wrap, IntKind.bits, IntKind.signed]; omega
        obtain rfl := Option.some.inj ho
        clear hd ho
        simp only [actO, putO, List.setIfInBounds_toArray, List.set_cons_zero, List.set_cons_succ, Nat.reduceAdd, e1]
        refine flow_K (fun K hK => ?_)
        go_simp
        (try rw [hwr])
        (show K _ _)
        refine hK _ _ ⟨_, rfl, by simp, Chg.of_ext (show Ext _ _ from zq0) _, ⟨(HJ9.out.1.of (show Ext _ _ from zq0)).up (by omega), HJ9.out.2.of (show Ext _ _ from zq0)⟩, ⟨_, rfl, by omega, by omega⟩⟩
      | 3, _, ho =>
        obtain rfl := Option.some.inj ho
        clear hd ho
        simp only [actO, putO, List.setIfInBounds_toArray, List.set_cons_zero, List.set_cons_succ, Nat.reduceAdd]
        refine flow_K (fun K hK => ?_)
        go_simp
        (show K _ _)
        refine hK _ _ ⟨_, rfl, by simp, Chg.of_ext (show Ext _ _ from zq0) _, ⟨(HJ9.out.1.of (show Ext _ _ from zq0)).up (by omega), HJ9.out.2.of (show Ext _ _ from zq0)⟩, rfl⟩
      | 4, _, ho =>
        obtain rfl := Option.some.inj ho
        clear hd ho
        simp only [actO, putO, List.setIfInBounds_toArray, List.set_cons_zero, List.set_cons_succ, Nat.reduceAdd]
        refine flow_K (fun K hK => ?_)
        go_simp
        (show K _ _)
        refine hK _ _ ⟨_, rfl, by simp, Chg.of_ext (show Ext _ _ from zq0) _, ⟨(HJ9.out.1.of (show Ext _ _ from zq0)).up (by omega), HJ9.out.2.of (show Ext _ _ from zq0)⟩, rfl⟩
      | 5, _, ho =>
        have e3 : σ 3 = .pointer (some ⟨p, 0, none⟩) := hd 3 (by obtain rfl := Option.some.inj ho; kernel_rfl)
        have e4 : σ 4 = .int .i64 (nn) := hd 4 (by obtain rfl := Option.some.inj ho; kernel_rfl)
        obtain rfl := Option.some.inj ho
        clear hd ho
        simp only [actO, putO, List.setIfInBounds_toArray, List.set_cons_zero, List.set_cons_succ, Nat.reduceAdd, e3, e4]
        refine flow_K (fun K hK => ?_)
        have HRd := hid HJ9.out.1
        go_simp
        refine (pick_c lo p _ (nn) w9 HRd.out (by omega) (by omega) (by omega)).mono ?_
        rintro e w8 ⟨vv, rfl, hv0, hv1, hR8, hC8⟩
        (show K _ _)
        refine hK _ _ ⟨_, rfl, by simp, hC8, ⟨hR8.up (by omega), HJ9.out.2.chg hC8 (by simpa using hRp)⟩, ⟨vv, rfl, hv0, by omega⟩⟩
      | 6, _, ho =>
        obtain rfl := Option.some.inj ho
        clear hd ho
        simp only [actO, putO, List.setIfInBounds_toArray, List.set_cons_zero, List.set_cons_succ, Nat.reduceAdd]
        refine flow_K (fun K hK => ?_)
        go_simp
        (show K _ _)
        refine hK _ _ ⟨_, rfl, by simp, Chg.of_ext (show Ext _ _ from zq0) _, ⟨(HJ9.out.1.of (show Ext _ _ from zq0)).up (by omega), HJ9.out.2.of (show Ext _ _ from zq0)⟩, ⟨_, rfl, by (try simp [go_sem]) <;> omega, ⟨_, heap_new (by simp [go_sem]), fun i hi => ?_⟩⟩⟩
        match i, hi with
        | 0, _ => exact ⟨0, rfl, by omega, by omega⟩
        | 1, _ => exact ⟨1, rfl, by omega, by omega⟩
        | 2, _ => exact ⟨5, rfl, by omega, by omega⟩
        | 3, _ => exact ⟨20, rfl, by omega, by omega⟩
        | 4, _ => exact ⟨95, rfl, by omega, by omega⟩
        | 5, _ => exact ⟨99, rfl, by omega, by omega⟩
      | 7, _, ho =>
        obtain rfl := Option.some.inj ho
        clear hd ho
        simp only [actO, putO, List.setIfInBounds_toArray, List.set_cons_zero, List.set_cons_succ, Nat.reduceAdd]
        refine flow_K (fun K hK => ?_)
        go_simp
        (show K _ _)
        refine hK _ _ ⟨_, rfl, by simp, Chg.of_ext (show Ext _ _ from zq0) _, ⟨(HJ9.out.1.of (show Ext _ _ from zq0)).up (by omega), HJ9.out.2.of (show Ext _ _ from zq0)⟩, rfl⟩
      | 8, _, ho =>
        have e7 : σ 7 = .pointer (some ⟨p, 0, none⟩) := hd 7 (by obtain rfl := Option.some.inj ho; kernel_rfl)
        obtain rfl := Option.some.inj ho
        clear hd ho
        simp only [actO, putO, List.setIfInBounds_toArray, List.set_cons_zero, List.set_cons_succ, Nat.reduceAdd, e7]
        refine flow_K (fun K hK => ?_)
        have HRd := hid HJ9.out.1
        go_simp
        refine (pick_c lo p _ (6) w9 HRd.out (by omega) (by omega) (by omega)).mono ?_
        rintro e w8 ⟨vv, rfl, hv0, hv1, hR8, hC8⟩
        (show K _ _)
        refine hK _ _ ⟨_, rfl, by simp, hC8, ⟨hR8.up (by omega), HJ9.out.2.chg hC8 (by simpa using hRp)⟩, ⟨vv, rfl, hv0, by omega⟩⟩
      | 9, _, ho =>
        obtain ⟨b6, e6, hb6, ha6⟩ : MkI V.heap.size 6 (0) (99) (σ 6) _ := hd 6 (by obtain rfl := Option.some.inj ho; kernel_rfl)
        obtain ⟨x8, e8, y8, z8⟩ : InI 0 (5) (σ 8) := hd 8 (by obtain rfl := Option.some.inj ho; kernel_rfl)
        obtain ⟨i8, rfl⟩ : ∃ i : Nat, x8 = (i : Int) := ⟨x8.toNat, by omega⟩
        have hin : i8 < 6 := by omega
        have hin2 : (i8 : Int) < 6 := by omega
        obtain rfl := Option.some.inj ho
        clear hd ho
        simp only [actO, putO, List.setIfInBounds_toArray, List.set_cons_zero, List.set_cons_succ, Nat.reduceAdd, e6, e8]
        refine flow_K (fun K hK => ?_)
        go_simp
        (show K _ _)
        refine hK _ _ ⟨_, rfl, by simp, Chg.of_ext (show Ext _ _ from zq0) _, ⟨(HJ9.out.1.of (show Ext _ _ from zq0)).up (by omega), HJ9.out.2.of (show Ext _ _ from zq0)⟩, ⟨_, _, rfl, hin, hb6, ha6⟩⟩
      | 10, _, ho =>
        obtain ⟨b9, k9, e9, hk9, hb9, ha9⟩ : PtI V.heap.size 6 (0) (99) (σ 9) _ := hd 9 (by obtain rfl := Option.some.inj ho; kernel_rfl)
        obtain ⟨y, hy, hy0, hy1⟩ := index_at ha9 hk9
        obtain rfl := Option.some.inj ho
        clear hd ho
        simp only [actO, putO, List.setIfInBounds_toArray, List.set_cons_zero, List.set_cons_succ, Nat.reduceAdd, e9]
        refine flow_K (fun K hK => ?_)
        go_simp
        (show K _ _)
        refine hK _ _ ⟨_, rfl, by simp, Chg.of_ext (show Ext _ _ from zq0) _, ⟨(HJ9.out.1.of (show Ext _ _ from zq0)).up (by omega), HJ9.out.2.of (show Ext _ _ from zq0)⟩, ⟨y, rfl, hy0, hy1⟩⟩
      | 11, _, ho =>
        obtain rfl := Option.some.inj ho
        clear hd ho
        simp only [actO, putO, List.setIfInBounds_toArray, List.set_cons_zero, List.set_cons_succ, Nat.reduceAdd]
        refine flow_K (fun K hK => ?_)
        go_simp
        (show K _ _)
        refine hK _ _ ⟨_, rfl, by simp, Chg.of_ext (show Ext _ _ from zq0) _, ⟨(HJ9.out.1.of (show Ext _ _ from zq0)).up (by omega), HJ9.out.2.of (show Ext _ _ from zq0)⟩, ⟨_, rfl, by (try simp [go_sem]) <;> omega, ⟨_, heap_new (by simp [go_sem]), fun i hi => ?_⟩⟩⟩
        match i, hi with
        | 0, _ => exact ⟨0, rfl, by omega, by omega⟩
        | 1, _ => exact ⟨0, rfl, by omega, by omega⟩
        | 2, _ => exact ⟨1, rfl, by omega, by omega⟩
        | 3, _ => exact ⟨7, rfl, by omega, by omega⟩
        | 4, _ => exact ⟨900, rfl, by omega, by omega⟩
      | 12, _, ho =>
        obtain rfl := Option.some.inj ho
        clear hd ho
        simp only [actO, putO, List.setIfInBounds_toArray, List.set_cons_zero, List.set_cons_succ, Nat.reduceAdd]
        refine flow_K (fun K hK => ?_)
        go_simp
        (show K _ _)
        refine hK _ _ ⟨_, rfl, by simp, Chg.of_ext (show Ext _ _ from zq0) _, ⟨(HJ9.out.1.of (show Ext _ _ from zq0)).up (by omega), HJ9.out.2.of (show Ext _ _ from zq0)⟩, rfl⟩
      | 13, _, ho =>
        have e12 : σ 12 = .pointer (some ⟨p, 0, none⟩) := hd 12 (by obtain rfl := Option.some.inj ho; kernel_rfl)
        obtain rfl := Option.some.inj ho
        clear hd ho
        simp only [actO, putO, List.setIfInBounds_toArray, List.set_cons_zero, List.set_cons_succ, Nat.reduceAdd, e12]
        refine flow_K (fun K hK => ?_)
        have HRd := hid HJ9.out.1
        go_simp
        refine (pick_c lo p _ (5) w9 HRd.out (by omega) (by omega) (by omega)).mono ?_
        rintro e w8 ⟨vv, rfl, hv0, hv1, hR8, hC8⟩
        (show K _ _)
        refine hK _ _ ⟨_, rfl, by simp, hC8, ⟨hR8.up (by omega), HJ9.out.2.chg hC8 (by simpa using hRp)⟩, ⟨vv, rfl, hv0, by omega⟩⟩
      | 14, _, ho =>
        obtain ⟨b11, e11, hb11, ha11⟩ : MkI V.heap.size 5 (0) (900) (σ 11) _ := hd 11 (by obtain rfl := Option.some.inj ho; kernel_rfl)
        obtain ⟨x13, e13, y13, z13⟩ : InI 0 (4) (σ 13) := hd 13 (by obtain rfl := Option.some.inj ho; kernel_rfl)
        obtain ⟨i13, rfl⟩ : ∃ i : Nat, x13 = (i : Int) := ⟨x13.toNat, by omega⟩
        have hin : i13 < 5 := by omega
        have hin2 : (i13 : Int) < 5 := by omega
        obtain rfl := Option.some.inj ho
        clear hd ho
        simp only [actO, putO, List.setIfInBounds_toArray, List.set_cons_zero, List.set_cons_succ, Nat.reduceAdd, e11, e13]
        refine flow_K (fun K hK => ?_)
        go_simp
        (show K _ _)
        refine hK _ _ ⟨_, rfl, by simp, Chg.of_ext (show Ext _ _ from zq0) _, ⟨(HJ9.out.1.of (show Ext _ _ from zq0)).up (by omega), HJ9.out.2.of (show Ext _ _ from zq0)⟩, ⟨_, _, rfl, hin, hb11, ha11⟩⟩
      | 15, _, ho =>
        obtain ⟨b14, k14, e14, hk14, hb14, ha14⟩ : PtI V.heap.size 5 (0) (900) (σ 14) _ := hd 14 (by obtain rfl := Option.some.inj ho; kernel_rfl)
        obtain ⟨y, hy, hy0, hy1⟩ := index_at ha14 hk14
        obtain rfl := Option.some.inj ho
        clear hd ho
        simp only [actO, putO, List.setIfInBounds_toArray, List.set_cons_zero, List.set_cons_succ, Nat.reduceAdd, e14]
        refine flow_K (fun K hK => ?_)
        go_simp
        (show K _ _)
        refine hK _ _ ⟨_, rfl, by simp, Chg.of_ext (show Ext _ _ from zq0) _, ⟨(HJ9.out.1.of (show Ext _ _ from zq0)).up (by omega), HJ9.out.2.of (show Ext _ _ from zq0)⟩, ⟨y, rfl, hy0, hy1⟩⟩
      | 16, _, ho =>
        obtain rfl := Option.some.inj ho
        clear hd ho
        simp only [actO, putO, List.setIfInBounds_toArray, List.set_cons_zero, List.set_cons_succ, Nat.reduceAdd]
        refine flow_K (fun K hK => ?_)
        go_simp
        (show K _ _)
        refine hK _ _ ⟨_, rfl, by simp, Chg.of_ext (show Ext _ _ from zq0) _, ⟨(HJ9.out.1.of (show Ext _ _ from zq0)).up (by omega), HJ9.out.2.of (show Ext _ _ from zq0)⟩, rfl⟩
      | 17, _, ho =>
        have e16 : σ 16 = .pointer (some ⟨p, 0, none⟩) := hd 16 (by obtain rfl := Option.some.inj ho; kernel_rfl)
        obtain rfl := Option.some.inj ho
        clear hd ho
        simp only [actO, putO, List.setIfInBounds_toArray, List.set_cons_zero, List.set_cons_succ, Nat.reduceAdd, e16]
        refine flow_K (fun K hK => ?_)
        have HRd := hid HJ9.out.1
        go_simp
        refine (pick_c lo p _ (10) w9 HRd.out (by omega) (by omega) (by omega)).mono ?_
        rintro e w8 ⟨vv, rfl, hv0, hv1, hR8, hC8⟩
        (show K _ _)
        refine hK _ _ ⟨_, rfl, by simp, hC8, ⟨hR8.up (by omega), HJ9.out.2.chg hC8 (by simpa using hRp)⟩, ⟨vv, rfl, hv0, by omega⟩⟩
      | 18, _, ho =>
        obtain ⟨x2, e2, y2, z2⟩ : InI (1) (9) (σ 2) := hd 2 (by obtain rfl := Option.some.inj ho; kernel_rfl)
        obtain ⟨x5, e5, y5, z5⟩ : InI 0 (nn - 1) (σ 5) := hd 5 (by obtain rfl := Option.some.inj ho; kernel_rfl)
        obtain ⟨x10, e10, y10, z10⟩ : InI (0) (99) (σ 10) := hd 10 (by obtain rfl := Option.some.inj ho; kernel_rfl)
        obtain ⟨x15, e15, y15, z15⟩ : InI (0) (900) (σ 15) := hd 15 (by obtain rfl := Option.some.inj ho; kernel_rfl)
        obtain ⟨x17, e17, y17, z17⟩ : InI 0 (9) (σ 17) := hd 17 (by obtain rfl := Option.some.inj ho; kernel_rfl)
        obtain rfl := Option.some.inj ho
        clear hd ho
        simp only [actO, putO, List.setIfInBounds_toArray, List.set_cons_zero, List.set_cons_succ, Nat.reduceAdd, e2, e5, e10, e15, e17]
        refine flow_K (fun K hK => ?_)
        go_simp
        (show K _ _)
        refine hK _ _ ⟨_, rfl, by simp, Chg.of_ext (show Ext _ _ from zq0) _, ⟨(HJ9.out.1.of (show Ext _ _ from zq0)).up (by omega), HJ9.out.2.of (show Ext _ _ from zq0)⟩, ⟨⟨x2, x5, x10, x15, x17⟩, rfl, by simp only [WlkIn]; omega⟩⟩
      | 19, _, ho =>
        obtain ⟨x18, e18, h18⟩ : InW (σ 18) := hd 18 (by obtain rfl := Option.some.inj ho; kernel_rfl)
        obtain ⟨x0, hb0⟩ := HJ9.out.2
        obtain rfl := Option.some.inj ho
        clear hd ho
        simp only [actO, putO, List.setIfInBounds_toArray, List.set_cons_zero, List.set_cons_succ, Nat.reduceAdd, e18]
        refine flow_K (fun K hK => ?_)
        have cR0 := (cell_blk hb0 0).trans (show _ = some (Value.int .i64 x0.id) from rfl)
        have zR0 := frozen_blk hb0 0
        have cR1 := (cell_blk hb0 1).trans (show _ = some (Value.int .i64 x0.at_) from rfl)
        have zR1 := frozen_blk hb0 1
        have cR2 := (cell_blk hb0 2).trans (show _ = some (Value.int .i64 x0.coins) from rfl)
        have zR2 := frozen_blk hb0 2
        have cR3 := (cell_blk hb0 3).trans (show _ = some (Value.int .i64 x0.seq) from rfl)
        have zR3 := frozen_blk hb0 3
        have cR4 := (cell_blk hb0 4).trans (show _ = some (Value.int .i64 x0.last) from rfl)
        have zR4 := frozen_blk hb0 4
        have HB0 := hid hb0
        clear hb0
        go_simp
        (show K _ _)
        refine hK _ _ ⟨undef, rfl, fun _ => rfl, zq1, ⟨(HJ9.out.1.chg (B := [R]) zq1 (by simp; omega) (Nat.le_refl _)).up (by omega), ⟨x18, wlk_store HB0.out⟩⟩, ⟨x18, wlk_store HB0.out, h18⟩⟩
    · intro σ w9 hG hJ hd
      have e0 : σ 0 = .pointer (some ⟨p, 0, none⟩) := hd 0 (by decide)
      obtain ⟨x1, e1, y1, z1⟩ : InI 0 (8) (σ 1) := hd 1 (by decide)
      obtain ⟨x2, e2, y2, z2⟩ : InI (1) (9) (σ 2) := hd 2 (by decide)
      have e3 : σ 3 = .pointer (some ⟨p, 0, none⟩) := hd 3 (by decide)
      have e4 : σ 4 = .int .i64 (nn) := hd 4 (by decide)
      obtain ⟨x5, e5, y5, z5⟩ : InI 0 (nn - 1) (σ 5) := hd 5 (by decide)
      obtain ⟨b6, e6, hb6, ha6⟩ : MkI V.heap.size 6 (0) (99) (σ 6) _ := hd 6 (by decide)
      have e7 : σ 7 = .pointer (some ⟨p, 0, none⟩) := hd 7 (by decide)
      obtain ⟨x8, e8, y8, z8⟩ : InI 0 (5) (σ 8) := hd 8 (by decide)
      obtain ⟨b9, k9, e9, hk9, hb9, ha9⟩ : PtI V.heap.size 6 (0) (99) (σ 9) _ := hd 9 (by decide)
      obtain ⟨x10, e10, y10, z10⟩ : InI (0) (99) (σ 10) := hd 10 (by decide)
      obtain ⟨b11, e11, hb11, ha11⟩ : MkI V.heap.size 5 (0) (900) (σ 11) _ := hd 11 (by decide)
      have e12 : σ 12 = .pointer (some ⟨p, 0, none⟩) := hd 12 (by decide)
      obtain ⟨x13, e13, y13, z13⟩ : InI 0 (4) (σ 13) := hd 13 (by decide)
      obtain ⟨b14, k14, e14, hk14, hb14, ha14⟩ : PtI V.heap.size 5 (0) (900) (σ 14) _ := hd 14 (by decide)
      obtain ⟨x15, e15, y15, z15⟩ : InI (0) (900) (σ 15) := hd 15 (by decide)
      have e16 : σ 16 = .pointer (some ⟨p, 0, none⟩) := hd 16 (by decide)
      obtain ⟨x17, e17, y17, z17⟩ : InI 0 (9) (σ 17) := hd 17 (by decide)
      obtain ⟨x18, e18, h18⟩ : InW (σ 18) := hd 18 (by decide)
      have hs19 : WlkAt R _ := hd 19 (by decide)
      have HG := hid hG
      have HJ9 := hid hJ
      clear hd hG hJ
      simp only [actO, putO, List.setIfInBounds_toArray, List.set_cons_zero, List.set_cons_succ, Nat.reduceAdd, e0, e1, e2, e3, e4, e5, e6, e7, e8, e9, e10, e11, e12, e13, e14, e15, e16, e17, e18]
      clear e0 e1 e2 e3 e4 e5 e6 e7 e8 e9 e10 e11 e12 e13 e14 e15 e16 e17 e18
      obtain ⟨x, hb, hx⟩ := hs19
      have c0 := (cell_blk hb 0).trans (show _ = some (Value.int .i64 x.id) from rfl)
      have c1 := (cell_blk hb 1).trans (show _ = some (Value.int .i64 x.at_) from rfl)
      have c2 := (cell_blk hb 2).trans (show _ = some (Value.int .i64 x.coins) from rfl)
      have c3 := (cell_blk hb 3).trans (show _ = some (Value.int .i64 x.seq) from rfl)
      have c4 := (cell_blk hb 4).trans (show _ = some (Value.int .i64 x.last) from rfl)
      have lR := lt_blk hb
      clear hb
      go_wp2_with (fail)
      refine bodyPost_ret (v := .agg #[.int .i64 x.id, .int .i64 x.at_, .int .i64 x.coins, .int .i64 x.seq, .int .i64 x.last]) (by simp [results, Try.results89, go_sem, c0, c1, c2, c3, c4, lR]) rfl ?_
      exact ⟨x, rfl, hx, HJ9.out.1.up (show Q + 1 * 20 ≤ Q + 20 by omega), HEV.out.chg' HG.out hwR⟩
end Go.Proofs.Ytbbpipbemhggdaa

namespace Go.Proofs.Ytbbpipbemhggdaa
open Go.RowKit
set_option linter.unusedSimpArgs false
set_option linter.unusedVariables false

theorem Chg.putBlk {B : List Nat} {a w : World} {R : Nat} {ob : Obj} (h : Chg B a w) (hR : R ∈ B) : Chg B a (Go.Proofs.Ytbbpipbemhggdaa.putBlk w R ob) :=
  h.trans ⟨rfl, rfl, rfl, by simp [Go.Proofs.Ytbbpipbemhggdaa.putBlk], fun k _ hn => putBlk_block w R ob k fun e => hn (e ▸ hR)⟩
theorem Chg.extR {B : List Nat} {a w : World} {R : Nat} {x : Xr} (h : Chg B a w) (hR : R ∈ B) : Chg B a (Go.Proofs.Ytbbpipbemhggdaa.extR w R x) := (h.putBlk hR).ext
/-- Blocks of one's own have changed beside the reader's. -/
theorem Chg.fin {w W : World} {p : Nat} {B : List Nat} (h : Chg (p :: B) w W) (hB : ∀ b ∈ B, w.heap.size ≤ b) : Chg [p] w W :=
  ⟨h.os, h.tape, h.output, h.size, fun k hk hn => h.block k hk (by
    intro hm
    rcases List.mem_cons.1 hm with rfl | hm
    · simp at hn
    · have := hB k hm; omega)⟩
/-- A number of a literal list at a place that was drawn. -/
theorem arr_at {w : World} {S : Nat} {T : TypeId} {fr : Nat × Nat} {xs : List Int} {i : Nat} (h : w.heap[S]? = some (.cells (xs.map (fun n => Value.int .i64 n)).toArray T fr)) (hi : i < xs.length) : ∃ y ∈ xs, w.cell? ⟨S, i, none⟩ = some (.int .i64 y) := by
  refine ⟨xs[i], List.getElem_mem hi, (cell_blk h i).trans ?_⟩
  simp [List.getElem?_eq_getElem hi]
set_option maxRecDepth 100000 in
set_option maxHeartbeats 4000000 in
theorem l20BadWalker_c (lo p Q : Nat) (x : Wlk) (w : World) (h : Rdr lo p Q w) (hQ : Q ≤ 99000) (hx : WlkIn x) :
    Calls Try.prog 90 #[.pointer (some ⟨p, 0, none⟩), .agg #[.int .i64 x.id, .int .i64 x.at_, .int .i64 x.coins, .int .i64 x.seq, .int .i64 x.last]] w fun e w' => ∃ y : Wlk, e = .returned (.agg #[.int .i64 y.id, .int .i64 y.at_, .int .i64 y.coins, .int .i64 y.seq, .int .i64 y.last]) ∧ WlkIn y ∧ Rdr lo p (Q + 2) w' ∧ Chg [p] w w' := by
  have lP := h.lt
  have hlo := h.lo
  have HR := hid h
  clear h
  go_enter Try.func90, Try.ntmps90
  try go_wp2_with (first
      | fail
      | (
        with_reducible refine wp_region_mix (by kernel_rfl) (by decide +kernel) ?_
        repeat (first
          | (refine mix_pure rfl ?_; (first | go_big_quiet_skip | (go_big_quiet_want; go_big_quiet_op; go_big_quiet_on)); refine wpQuiet_nil ?_)
          | (refine mix_skip (by rfl) ?_; (try simp only [Act.put, List.setIfInBounds_toArray, List.set_cons_zero, List.set_cons_succ]))
          | (refine mix_mk rfl (by rfl) (fun K hK => ?_); (first | (go_simp; first | skip)); (show K _ _); refine hK _ _ (show Ext _ _ from zq0) ?_; clear hK K; (try simp only [Act.put, List.setIfInBounds_toArray, List.set_cons_zero, List.set_cons_succ])))
        refine mix_nil ?_)
      | (
        with_reducible refine wp_region_ext (by kernel_rfl) (by kernel_rfl) ?_
        repeat (first | go_big_quiet_skip | (go_big_quiet_want; go_big_quiet_op; first | go_big_quiet_on | (apply Exists.intro; refine ⟨fun _ => ?_, ?_⟩; (fail); (try rw [h1]); (try rw [h2]); (try rw [h3]); (try rw [h4]); (try rw [p1]); (try rw [p2]); (try rw [p3]); (try rw [p4]); (try rw [r1]); (try rw [r2]); (try rw [r3]); (try rw [r4]); (try rw [r5]); (try rw [r6]); (try rw [q3]); (try rw [q4]); (try rw [hp]); (try rw [hq]); go_big_quiet_on)))
        refine wpQuiet_nil ?_
        rintro _ ⟨tq, rfl⟩))
  refine calls_gen fun X hX => ?_
  obtain ⟨XB, hXB⟩ : ∃ XB, w.heap.size = XB := ⟨_, rfl⟩
  obtain ⟨R, hR⟩ : ∃ R, w.heap.size + 1 = R := ⟨_, rfl⟩
  obtain ⟨S, hS⟩ : ∃ S, w.heap.size + 1 + 1 = S := ⟨_, rfl⟩
  have EX : Ext w X := by rw [hX]; ((try simp only [ext_drew]); (try simp only [ext_ext]); repeat (first | exact Ext.refl _ | with_reducible apply Ext.add | with_reducible apply Ext.dr | apply Ext.alloc | apply Ext.ext | apply Ext.drew | refine Ext.trans ?_ (by assumption)))
  have bx : X.heap[XB]? = some (.cells #[.int .i64 x.id, .int .i64 x.at_, .int .i64 x.coins, .int .i64 x.seq, .int .i64 x.last] 52 (0, 0)) := by rw [hX, ← hXB]; exact (by repeat (first | exact alloc_last (by (try simp [go_sem]) <;> (try simp [Xt.add]) <;> omega) | with_reducible refine blk_alloc ?_ | with_reducible refine blk_ext ?_ | with_reducible apply blk_drew))
  have br : X.heap[R]? = some (.cells #[.int .i64 0, .int .i64 0, .int .i64 0, .int .i64 0, .int .i64 0] 52 (0, 0)) := by rw [hX, ← hR]; exact (by repeat (first | exact alloc_last (by (try simp [go_sem]) <;> (try simp [Xt.add]) <;> omega) | with_reducible refine blk_alloc ?_ | with_reducible refine blk_ext ?_ | with_reducible apply blk_drew))
  have bs : X.heap[S]? = some (.cells #[.int .i64 (-1), .int .i64 10, .int .i64 100, .int .i64 901, .int .i64 64, .int .i64 0] 3 (0, 0)) := by rw [hX, ← hS]; exact (by repeat (first | exact alloc_last (by (try simp [go_sem]) <;> (try simp [Xt.add]) <;> omega) | with_reducible refine blk_alloc ?_ | with_reducible refine blk_ext ?_ | with_reducible apply blk_drew))
  rw [hS, hR, hXB]
  have hXR : XB ≠ R := by omega
  have hRX : R ≠ XB := by omega
  have hXp : XB ≠ p := by omega
  have hRp : R ≠ p := by omega
  have hwX : w.heap.size ≤ XB := by omega
  have hwR : w.heap.size ≤ R := by omega
  have hSX : S ≠ p := by omega
  have HRX := hid (HR.out.of EX)
  have HEX := hid EX
  clear hX EX hXB hR hS
  refine (pick_c lo p Q 6 X HRX.out (by omega) (by omega) (by omega)).mono ?_
  rintro e Y ⟨v, rfl, hv0, hv1, hRY, hCY⟩
  obtain ⟨i, rfl⟩ : ∃ i : Nat, v = (i : Int) := ⟨v.toNat, by omega⟩
  have bxY := (hCY.block XB (lt_blk bx) (by simpa using hXp)).trans bx
  have brY := (hCY.block R (lt_blk br) (by simpa using hRp)).trans br
  have bsY := (hCY.block S (lt_blk bs) (by simpa using hSX)).trans bs
  obtain ⟨y, hyx, hyc⟩ := arr_at (xs := [-1, 10, 100, 901, 64, 0]) (i := i) bsY (by simp; omega)
  have hy : -1 ≤ y ∧ y ≤ 901 := by simp at hyx; omega
  have hC1 : Chg [p] w Y := (Chg.of_ext HEX.out [p]).trans hCY
  have HRY := hid hRY
  have HCY := hid hC1
  have lS := lt_blk bsY
  have zS := frozen_blk bsY i
  have hi6 : (i : Int) < 6 := by omega
  clear bx br bs bsY hRY hCY hC1 HRX HEX hyx
  try go_wp2_with (first
      | fail
      | (
        with_reducible refine wp_region_mix (by kernel_rfl) (by decide +kernel) ?_
        repeat (first
          | (refine mix_pure rfl ?_; (first | go_big_quiet_skip | (go_big_quiet_want; go_big_quiet_op; go_big_quiet_on)); refine wpQuiet_nil ?_)
          | (refine mix_skip (by rfl) ?_; (try simp only [Act.put, List.setIfInBounds_toArray, List.set_cons_zero, List.set_cons_succ]))
          | (refine mix_mk rfl (by rfl) (fun K hK => ?_); (first | (go_simp; first | skip)); (show K _ _); refine hK _ _ (show Ext _ _ from zq0) ?_; clear hK K; (try simp only [Act.put, List.setIfInBounds_toArray, List.set_cons_zero, List.set_cons_succ])))
        refine mix_nil ?_)
      | (
        with_reducible refine wp_region_ext (by kernel_rfl) (by kernel_rfl) ?_
        repeat (first | go_big_quiet_skip | (go_big_quiet_want; go_big_quiet_op; first | go_big_quiet_on | (apply Exists.intro; refine ⟨fun _ => ?_, ?_⟩; (fail); (try rw [h1]); (try rw [h2]); (try rw [h3]); (try rw [h4]); (try rw [p1]); (try rw [p2]); (try rw [p3]); (try rw [p4]); (try rw [r1]); (try rw [r2]); (try rw [r3]); (try rw [r4]); (try rw [r5]); (try rw [r6]); (try rw [q3]); (try rw [q4]); (try rw [hp]); (try rw [hq]); go_big_quiet_on)))
        refine wpQuiet_nil ?_
        rintro _ ⟨tq, rfl⟩))
  refine calls_gen fun X hX => ?_
  have EX : Ext Y X := by rw [hX]; ((try simp only [ext_drew]); (try simp only [ext_ext]); repeat (first | exact Ext.refl _ | with_reducible apply Ext.add | with_reducible apply Ext.dr | apply Ext.alloc | apply Ext.ext | apply Ext.drew | refine Ext.trans ?_ (by assumption)))
  have bx := (EX.block (lt_blk bxY)).trans bxY
  have br := (EX.block (lt_blk brY)).trans brY
  have HRX := hid (HRY.out.of EX)
  have HCX := hid (HCY.out.trans (Chg.of_ext EX [p]))
  clear hX EX bxY brY HRY HCY lS zS hyc
  refine (pick_c lo p (Q + 1) 5 X HRX.out (by omega) (by omega) (by omega)).mono ?_
  rintro e Z ⟨v, rfl, hv0', hv1', hRZ, hCZ⟩
  have bxZ := (hCZ.block XB (lt_blk bx) (by simpa using hXp)).trans bx
  have brZ := (hCZ.block R (lt_blk br) (by simpa using hRp)).trans br
  have HRZ := hid hRZ
  have HCZ := hid (HCX.out.trans hCZ)
  clear bx br hRZ hCZ HRX HCX
  have cx0 : Z.cell? ⟨XB, 0, none⟩ = some (.int .i64 x.id) := (cell_blk bxZ 0).trans rfl
  have cx1 : Z.cell? ⟨XB, 1, none⟩ = some (.int .i64 x.at_) := (cell_blk bxZ 1).trans rfl
  have cx2 : Z.cell? ⟨XB, 2, none⟩ = some (.int .i64 x.coins) := (cell_blk bxZ 2).trans rfl
  have cx3 : Z.cell? ⟨XB, 3, none⟩ = some (.int .i64 x.seq) := (cell_blk bxZ 3).trans rfl
  have cx4 : Z.cell? ⟨XB, 4, none⟩ = some (.int .i64 x.last) := (cell_blk bxZ 4).trans rfl
  have zcx0 := frozen_blk bxZ 0
  have zcx1 := frozen_blk bxZ 1
  have zcx2 := frozen_blk bxZ 2
  have zcx3 := frozen_blk bxZ 3
  have zcx4 := frozen_blk bxZ 4
  have lx := lt_blk bxZ
  have lr := lt_blk brZ
  have cr0 : Z.cell? ⟨R, 0, none⟩ = some (.int .i64 0) := (cell_blk brZ 0).trans rfl
  have cr1 : Z.cell? ⟨R, 1, none⟩ = some (.int .i64 0) := (cell_blk brZ 1).trans rfl
  have cr2 : Z.cell? ⟨R, 2, none⟩ = some (.int .i64 0) := (cell_blk brZ 2).trans rfl
  have cr3 : Z.cell? ⟨R, 3, none⟩ = some (.int .i64 0) := (cell_blk brZ 3).trans rfl
  have cr4 : Z.cell? ⟨R, 4, none⟩ = some (.int .i64 0) := (cell_blk brZ 4).trans rfl
  have zr0 := frozen_blk brZ 0
  have zr1 := frozen_blk brZ 1
  have zr2 := frozen_blk brZ 2
  have zr3 := frozen_blk brZ 3
  have zr4 := frozen_blk brZ 4
  clear bxZ brZ
  have hv5 : v = 0 ∨ v = 1 ∨ v = 2 ∨ v = 3 ∨ v = 4 := by omega
  clear hv0' hv1'
  rcases hv5 with rfl | rfl | rfl | rfl | rfl
  ·
    try go_wp2_with (first
        | fail
        | (
          with_reducible refine wp_region_mix (by kernel_rfl) (by decide +kernel) ?_
          repeat (first
            | (refine mix_pure rfl ?_; (first | go_big_quiet_skip | (go_big_quiet_want; go_big_quiet_op; go_big_quiet_on)); refine wpQuiet_nil ?_)
            | (refine mix_skip (by rfl) ?_; (try simp only [Act.put, List.setIfInBounds_toArray, List.set_cons_zero, List.set_cons_succ]))
            | (refine mix_mk rfl (by rfl) (fun K hK => ?_); (first | (go_simp; first | skip)); (show K _ _); refine hK _ _ (show Ext _ _ from zq0) ?_; clear hK K; (try simp only [Act.put, List.setIfInBounds_toArray, List.set_cons_zero, List.set_cons_succ])))
          refine mix_nil ?_)
        | (
          with_reducible refine wp_region_ext (by kernel_rfl) (by kernel_rfl) ?_
          repeat (first | go_big_quiet_skip | (go_big_quiet_want; go_big_quiet_op; first | go_big_quiet_on | (apply Exists.intro; refine ⟨fun _ => ?_, ?_⟩; (fail); (try rw [h1]); (try rw [h2]); (try rw [h3]); (try rw [h4]); (try rw [p1]); (try rw [p2]); (try rw [p3]); (try rw [p4]); (try rw [r1]); (try rw [r2]); (try rw [r3]); (try rw [r4]); (try rw [r5]); (try rw [r6]); (try rw [q3]); (try rw [q4]); (try rw [hp]); (try rw [hq]); go_big_quiet_on)))
          refine wpQuiet_nil ?_
          rintro _ ⟨tq, rfl⟩))
    refine bodyPost_ret (v := .agg #[.int .i64 (({ x with id := y })).id, .int .i64 (({ x with id := y })).at_, .int .i64 (({ x with id := y })).coins, .int .i64 (({ x with id := y })).seq, .int .i64 (({ x with id := y })).last]) (by simp [results, Try.results90, go_sem, cx0, cx1, cx2, cx3, cx4, cr0, cr1, cr2, cr3, cr4, lx, lr, hXR, hRX]) rfl ?_
    exact ⟨{ x with id := y }, rfl, by simp only [WlkIn] at hx ⊢; omega, HRZ.out.chg (B := [XB, R]) (by repeat (first | with_reducible exact Chg.refl _ _ | with_reducible apply Chg.drew | (with_reducible refine Chg.extR ?_ (by simp)) | (with_reducible refine Chg.set ?_ (by simp) _) | with_reducible apply Chg.alloc | with_reducible apply Chg.ext | with_reducible refine Chg.trans ?_ (Hid.out (by assumption)))) (by simp; omega) (Nat.le_refl _), Chg.fin (B := [XB, R]) ((HCZ.out.mono (by simp)).trans (by repeat (first | with_reducible exact Chg.refl _ _ | with_reducible apply Chg.drew | (with_reducible refine Chg.extR ?_ (by simp)) | (with_reducible refine Chg.set ?_ (by simp) _) | with_reducible apply Chg.alloc | with_reducible apply Chg.ext | with_reducible refine Chg.trans ?_ (Hid.out (by assumption))))) (by simp; omega)⟩
  ·
    try go_wp2_with (first
        | fail
        | (
          with_reducible refine wp_region_mix (by kernel_rfl) (by decide +kernel) ?_
          repeat (first
            | (refine mix_pure rfl ?_; (first | go_big_quiet_skip | (go_big_quiet_want; go_big_quiet_op; go_big_quiet_on)); refine wpQuiet_nil ?_)
            | (refine mix_skip (by rfl) ?_; (try simp only [Act.put, List.setIfInBounds_toArray, List.set_cons_zero, List.set_cons_succ]))
            | (refine mix_mk rfl (by rfl) (fun K hK => ?_); (first | (go_simp; first | skip)); (show K _ _); refine hK _ _ (show Ext _ _ from zq0) ?_; clear hK K; (try simp only [Act.put, List.setIfInBounds_toArray, List.set_cons_zero, List.set_cons_succ])))
          refine mix_nil ?_)
        | (
          with_reducible refine wp_region_ext (by kernel_rfl) (by kernel_rfl) ?_
          repeat (first | go_big_quiet_skip | (go_big_quiet_want; go_big_quiet_op; first | go_big_quiet_on | (apply Exists.intro; refine ⟨fun _ => ?_, ?_⟩; (fail); (try rw [h1]); (try rw [h2]); (try rw [h3]); (try rw [h4]); (try rw [p1]); (try rw [p2]); (try rw [p3]); (try rw [p4]); (try rw [r1]); (try rw [r2]); (try rw [r3]); (try rw [r4]); (try rw [r5]); (try rw [r6]); (try rw [q3]); (try rw [q4]); (try rw [hp]); (try rw [hq]); go_big_quiet_on)))
          refine wpQuiet_nil ?_
          rintro _ ⟨tq, rfl⟩))
    refine bodyPost_ret (v := .agg #[.int .i64 (({ x with at_ := y })).id, .int .i64 (({ x with at_ := y })).at_, .int .i64 (({ x with at_ := y })).coins, .int .i64 (({ x with at_ := y })).seq, .int .i64 (({ x with at_ := y })).last]) (by simp [results, Try.results90, go_sem, cx0, cx1, cx2, cx3, cx4, cr0, cr1, cr2, cr3, cr4, lx, lr, hXR, hRX]) rfl ?_
    exact ⟨{ x with at_ := y }, rfl, by simp only [WlkIn] at hx ⊢; omega, HRZ.out.chg (B := [XB, R]) (by repeat (first | with_reducible exact Chg.refl _ _ | with_reducible apply Chg.drew | (with_reducible refine Chg.extR ?_ (by simp)) | (with_reducible refine Chg.set ?_ (by simp) _) | with_reducible apply Chg.alloc | with_reducible apply Chg.ext | with_reducible refine Chg.trans ?_ (Hid.out (by assumption)))) (by simp; omega) (Nat.le_refl _), Chg.fin (B := [XB, R]) ((HCZ.out.mono (by simp)).trans (by repeat (first | with_reducible exact Chg.refl _ _ | with_reducible apply Chg.drew | (with_reducible refine Chg.extR ?_ (by simp)) | (with_reducible refine Chg.set ?_ (by simp) _) | with_reducible apply Chg.alloc | with_reducible apply Chg.ext | with_reducible refine Chg.trans ?_ (Hid.out (by assumption))))) (by simp; omega)⟩
  ·
    try go_wp2_with (first
        | fail
        | (
          with_reducible refine wp_region_mix (by kernel_rfl) (by decide +kernel) ?_
          repeat (first
            | (refine mix_pure rfl ?_; (first | go_big_quiet_skip | (go_big_quiet_want; go_big_quiet_op; go_big_quiet_on)); refine wpQuiet_nil ?_)
            | (refine mix_skip (by rfl) ?_; (try simp only [Act.put, List.setIfInBounds_toArray, List.set_cons_zero, List.set_cons_succ]))
            | (refine mix_mk rfl (by rfl) (fun K hK => ?_); (first | (go_simp; first | skip)); (show K _ _); refine hK _ _ (show Ext _ _ from zq0) ?_; clear hK K; (try simp only [Act.put, List.setIfInBounds_toArray, List.set_cons_zero, List.set_cons_succ])))
          refine mix_nil ?_)
        | (
          with_reducible refine wp_region_ext (by kernel_rfl) (by kernel_rfl) ?_
          repeat (first | go_big_quiet_skip | (go_big_quiet_want; go_big_quiet_op; first | go_big_quiet_on | (apply Exists.intro; refine ⟨fun _ => ?_, ?_⟩; (fail); (try rw [h1]); (try rw [h2]); (try rw [h3]); (try rw [h4]); (try rw [p1]); (try rw [p2]); (try rw [p3]); (try rw [p4]); (try rw [r1]); (try rw [r2]); (try rw [r3]); (try rw [r4]); (try rw [r5]); (try rw [r6]); (try rw [q3]); (try rw [q4]); (try rw [hp]); (try rw [hq]); go_big_quiet_on)))
          refine wpQuiet_nil ?_
          rintro _ ⟨tq, rfl⟩))
    refine bodyPost_ret (v := .agg #[.int .i64 (({ x with coins := y })).id, .int .i64 (({ x with coins := y })).at_, .int .i64 (({ x with coins := y })).coins, .int .i64 (({ x with coins := y })).seq, .int .i64 (({ x with coins := y })).last]) (by simp [results, Try.results90, go_sem, cx0, cx1, cx2, cx3, cx4, cr0, cr1, cr2, cr3, cr4, lx, lr, hXR, hRX]) rfl ?_
    exact ⟨{ x with coins := y }, rfl, by simp only [WlkIn] at hx ⊢; omega, HRZ.out.chg (B := [XB, R]) (by repeat (first | with_reducible exact Chg.refl _ _ | with_reducible apply Chg.drew | (with_reducible refine Chg.extR ?_ (by simp)) | (with_reducible refine Chg.set ?_ (by simp) _) | with_reducible apply Chg.alloc | with_reducible apply Chg.ext | with_reducible refine Chg.trans ?_ (Hid.out (by assumption)))) (by simp; omega) (Nat.le_refl _), Chg.fin (B := [XB, R]) ((HCZ.out.mono (by simp)).trans (by repeat (first | with_reducible exact Chg.refl _ _ | with_reducible apply Chg.drew | (with_reducible refine Chg.extR ?_ (by simp)) | (with_reducible refine Chg.set ?_ (by simp) _) | with_reducible apply Chg.alloc | with_reducible apply Chg.ext | with_reducible refine Chg.trans ?_ (Hid.out (by assumption))))) (by simp; omega)⟩
  ·
    try go_wp2_with (first
        | fail
        | (
          with_reducible refine wp_region_mix (by kernel_rfl) (by decide +kernel) ?_
          repeat (first
            | (refine mix_pure rfl ?_; (first | go_big_quiet_skip | (go_big_quiet_want; go_big_quiet_op; go_big_quiet_on)); refine wpQuiet_nil ?_)
            | (refine mix_skip (by rfl) ?_; (try simp only [Act.put, List.setIfInBounds_toArray, List.set_cons_zero, List.set_cons_succ]))
            | (refine mix_mk rfl (by rfl) (fun K hK => ?_); (first | (go_simp; first | skip)); (show K _ _); refine hK _ _ (show Ext _ _ from zq0) ?_; clear hK K; (try simp only [Act.put, List.setIfInBounds_toArray, List.set_cons_zero, List.set_cons_succ])))
          refine mix_nil ?_)
        | (
          with_reducible refine wp_region_ext (by kernel_rfl) (by kernel_rfl) ?_
          repeat (first | go_big_quiet_skip | (go_big_quiet_want; go_big_quiet_op; first | go_big_quiet_on | (apply Exists.intro; refine ⟨fun _ => ?_, ?_⟩; (fail); (try rw [h1]); (try rw [h2]); (try rw [h3]); (try rw [h4]); (try rw [p1]); (try rw [p2]); (try rw [p3]); (try rw [p4]); (try rw [r1]); (try rw [r2]); (try rw [r3]); (try rw [r4]); (try rw [r5]); (try rw [r6]); (try rw [q3]); (try rw [q4]); (try rw [hp]); (try rw [hq]); go_big_quiet_on)))
          refine wpQuiet_nil ?_
          rintro _ ⟨tq, rfl⟩))
    refine bodyPost_ret (v := .agg #[.int .i64 (({ x with seq := y })).id, .int .i64 (({ x with seq := y })).at_, .int .i64 (({ x with seq := y })).coins, .int .i64 (({ x with seq := y })).seq, .int .i64 (({ x with seq := y })).last]) (by simp [results, Try.results90, go_sem, cx0, cx1, cx2, cx3, cx4, cr0, cr1, cr2, cr3, cr4, lx, lr, hXR, hRX]) rfl ?_
    exact ⟨{ x with seq := y }, rfl, by simp only [WlkIn] at hx ⊢; omega, HRZ.out.chg (B := [XB, R]) (by repeat (first | with_reducible exact Chg.refl _ _ | with_reducible apply Chg.drew | (with_reducible refine Chg.extR ?_ (by simp)) | (with_reducible refine Chg.set ?_ (by simp) _) | with_reducible apply Chg.alloc | with_reducible apply Chg.ext | with_reducible refine Chg.trans ?_ (Hid.out (by assumption)))) (by simp; omega) (Nat.le_refl _), Chg.fin (B := [XB, R]) ((HCZ.out.mono (by simp)).trans (by repeat (first | with_reducible exact Chg.refl _ _ | with_reducible apply Chg.drew | (with_reducible refine Chg.extR ?_ (by simp)) | (with_reducible refine Chg.set ?_ (by simp) _) | with_reducible apply Chg.alloc | with_reducible apply Chg.ext | with_reducible refine Chg.trans ?_ (Hid.out (by assumption))))) (by simp; omega)⟩
  ·
    try go_wp2_with (first
        | fail
        | (
          with_reducible refine wp_region_mix (by kernel_rfl) (by decide +kernel) ?_
          repeat (first
            | (refine mix_pure rfl ?_; (first | go_big_quiet_skip | (go_big_quiet_want; go_big_quiet_op; go_big_quiet_on)); refine wpQuiet_nil ?_)
            | (refine mix_skip (by rfl) ?_; (try simp only [Act.put, List.setIfInBounds_toArray, List.set_cons_zero, List.set_cons_succ]))
            | (refine mix_mk rfl (by rfl) (fun K hK => ?_); (first | (go_simp; first | skip)); (show K _ _); refine hK _ _ (show Ext _ _ from zq0) ?_; clear hK K; (try simp only [Act.put, List.setIfInBounds_toArray, List.set_cons_zero, List.set_cons_succ])))
          refine mix_nil ?_)
        | (
          with_reducible refine wp_region_ext (by kernel_rfl) (by kernel_rfl) ?_
          repeat (first | go_big_quiet_skip | (go_big_quiet_want; go_big_quiet_op; first | go_big_quiet_on | (apply Exists.intro; refine ⟨fun _ => ?_, ?_⟩; (fail); (try rw [h1]); (try rw [h2]); (try rw [h3]); (try rw [h4]); (try rw [p1]); (try rw [p2]); (try rw [p3]); (try rw [p4]); (try rw [r1]); (try rw [r2]); (try rw [r3]); (try rw [r4]); (try rw [r5]); (try rw [r6]); (try rw [q3]); (try rw [q4]); (try rw [hp]); (try rw [hq]); go_big_quiet_on)))
          refine wpQuiet_nil ?_
          rintro _ ⟨tq, rfl⟩))
    refine bodyPost_ret (v := .agg #[.int .i64 (({ x with last := y })).id, .int .i64 (({ x with last := y })).at_, .int .i64 (({ x with last := y })).coins, .int .i64 (({ x with last := y })).seq, .int .i64 (({ x with last := y })).last]) (by simp [results, Try.results90, go_sem, cx0, cx1, cx2, cx3, cx4, cr0, cr1, cr2, cr3, cr4, lx, lr, hXR, hRX]) rfl ?_
    exact ⟨{ x with last := y }, rfl, by simp only [WlkIn] at hx ⊢; omega, HRZ.out.chg (B := [XB, R]) (by repeat (first | with_reducible exact Chg.refl _ _ | with_reducible apply Chg.drew | (with_reducible refine Chg.extR ?_ (by simp)) | (with_reducible refine Chg.set ?_ (by simp) _) | with_reducible apply Chg.alloc | with_reducible apply Chg.ext | with_reducible refine Chg.trans ?_ (Hid.out (by assumption)))) (by simp; omega) (Nat.le_refl _), Chg.fin (B := [XB, R]) ((HCZ.out.mono (by simp)).trans (by repeat (first | with_reducible exact Chg.refl _ _ | with_reducible apply Chg.drew | (with_reducible refine Chg.extR ?_ (by simp)) | (with_reducible refine Chg.set ?_ (by simp) _) | with_reducible apply Chg.alloc | with_reducible apply Chg.ext | with_reducible refine Chg.trans ?_ (Hid.out (by assumption))))) (by simp; omega)⟩
end Go.Proofs.Ytbbpipbemhggdaa

namespace Go.Proofs.Ytbbpipbemhggdaa
open Go.RowKit

theorem take_step {α : Type} {p : α → Bool} {xs : List α} {k : Nat} {x : α} (h : ∀ y ∈ xs.take k, p y = false) (hx : xs[k]? = some x) (hp : p x = false) : ∀ y ∈ xs.take (k + 1), p y = false := by
  rw [List.take_add_one, hx]
  intro y hy
  rcases List.mem_append.1 hy with h' | h'
  · exact h y h'
  · obtain rfl : y = x := by simpa using h'
    exact hp
theorem take_end {α : Type} {p : α → Bool} {xs : List α} {k : Nat} (h : ∀ y ∈ xs.take k, p y = false) (hk : xs.length ≤ k) : ∀ y ∈ xs, p y = false := by
  rwa [List.take_of_length_le hk] at h

end Go.Proofs.Ytbbpipbemhggdaa

namespace Go.Proofs.Ytbbpipbemhggdaa
open Go.RowKit

def notId (id : Int) (x : Wlk) : Bool := !(x.id == id)
def wlkOut (xs : List Wlk) (id : Int) : List Wlk := xs.filter (notId id)
theorem wlkOut_len (xs : List Wlk) (id : Int) : (wlkOut xs id).length ≤ xs.length := List.length_filter_le _ _
end Go.Proofs.Ytbbpipbemhggdaa

namespace Go.Proofs.Ytbbpipbemhggdaa
open Go.RowKit
set_option linter.unusedSimpArgs false
set_option linter.unusedVariables false

/-- A list with an element put in at a place. -/
def insAt {α : Type} (xs : List α) (i : Nat) (y : α) : List α := xs.take i ++ y :: xs.drop i
theorem insAt_len {α : Type} (xs : List α) (i : Nat) (y : α) (h : i ≤ xs.length) : (insAt xs i y).length = xs.length + 1 := by
  simp [insAt]; omega
theorem insAt_end {α : Type} (xs : List α) (y : α) : insAt xs xs.length y = xs ++ [y] := by simp [insAt]
theorem flatMap_take {α : Type} {cells : α → List Value} {k : Nat} (hcl : ∀ x, (cells x).length = k) : ∀ (xs : List α) (i : Nat), i ≤ xs.length → (xs.take i).flatMap cells = (xs.flatMap cells).take (i * k)
  | xs, 0, _ => by simp
  | [], i + 1, h => by simp at h
  | x :: xs, i + 1, h => by
    simp only [List.take_succ_cons, List.flatMap_cons]
    rw [flatMap_take hcl xs i (by simpa using h), List.take_append, hcl, List.take_of_length_le (l := cells x) (by rw [hcl, Nat.add_mul]; omega), show (i + 1) * k - k = i * k by rw [Nat.add_mul]; omega]
theorem flatMap_drop {α : Type} {cells : α → List Value} {k : Nat} (hcl : ∀ x, (cells x).length = k) : ∀ (xs : List α) (i : Nat), i ≤ xs.length → (xs.drop i).flatMap cells = (xs.flatMap cells).drop (i * k)
  | xs, 0, _ => by simp
  | [], i + 1, h => by simp at h
  | x :: xs, i + 1, h => by
    simp only [List.drop_succ_cons, List.flatMap_cons]
    rw [flatMap_drop hcl xs i (by simpa using h), List.drop_append, hcl, List.drop_of_length_le (l := cells x) (by rw [hcl, Nat.add_mul]; omega), show (i + 1) * k - k = i * k by rw [Nat.add_mul]; omega]; rfl
theorem flatMap_len {α : Type} {cells : α → List Value} {k : Nat} (hcl : ∀ x, (cells x).length = k) (xs : List α) : (xs.flatMap cells).length = xs.length * k := by
  rw [List.length_flatMap, List.map_congr_left (g := fun _ => k) (fun x _ => hcl x), List.map_const', List.sum_replicate_nat]
theorem insAt_flat {α : Type} {cells : α → List Value} {k : Nat} (hcl : ∀ x, (cells x).length = k) (xs : List α) (i : Nat) (y : α) (h : i ≤ xs.length) :
    (insAt xs i y).flatMap cells = (xs.flatMap cells).take (i * k) ++ (cells y ++ (xs.flatMap cells).drop (i * k)) := by
  simp only [insAt, List.flatMap_append, List.flatMap_cons]
  rw [flatMap_take hcl xs i h, flatMap_drop hcl xs i h]

theorem setCells_row (w : World) (b : Nat) : ∀ (vs : List Value) (o : Nat) (w : World), w.setCells b o vs = setRow w b o vs
  | [], _, _ => rfl
  | v :: vs, o, w => by
    show (w.setCell ⟨b, o, none⟩ v).setCells b (o + 1) vs = setRow (w.setCell ⟨b, o, none⟩ v) b (o + 1) vs
    exact setCells_row w b vs (o + 1) _
/-- The builtin 'copy' at elements of k cells: all is read before anything is written. -/
theorem run_copy_k {P : Program} (w : World) (dT sT ty elem : TypeId) (b o dLen dCap : Nat) (a : Addr) (sLen sCap k m : Nat) (cs : List Value)
    (hu : P.underlying dT = some (.slice elem)) (hs : (P.info? elem).map (·.size) = some k) (hm : Nat.min sLen dLen = m) (hn : cs.length = m * k)
    (hsrc : ∀ j v, cs[j]? = some v → w.cell? (a.add j) = some v) (hc : ∀ j, j < cs.length → (w.cell? ⟨b, o + j, none⟩).isSome = true) (hf : ∀ j, j < cs.length → w.frozen? ⟨b, o + j, none⟩ = false) (h1 : ∀ v ∈ cs, v.oneCell' = true) :
    (Builtin.copy_ #[dT, sT] ty #[.slice (some ⟨b, o, none⟩) dLen dCap, .slice (some a) sLen sCap]).run P w = .ok (goInt m) (setRow w b o cs) := by
  have hl := run_loadCells_list (P := P) w a cs hsrc
  have hst := run_storeCells_cells (P := P) b o cs 0 w (by simpa using hc) (by simpa using hf) h1
  rw [setCells_row w] at hst
  cases hq : P.info? elem with
  | none => simp [hq] at hs
  | some i =>
    have hi : i.size = k := by simpa [hq] using hs
    rw [hn] at hl
    simp [Builtin.copy_, run_underlying hu, Builtin.lenOf, Builtin.firstCells, sizeOf, typeInfo, hq, hi, hm, hl, hst]
theorem wp_copy_run {P : Program} (w : World) {o : Oper} {a : Act} {K : Act → World → Prop} {Q : Exit → Act → World → Prop} (d s : Operand) (t t' : TypeId)
    (ho : o.op = .call { callee := .builtin .copy, args := #[d, s], argTypes := #[t, t'] }) {v u : Value} (hd : a.eval d = v) (hs : a.eval s = u) {v' : Value} {w' : World}
    (hr : (Builtin.copy_ #[t, t'] o.type #[v, u]).run P w = .ok v' w') (h : K (a.put o.dst v') w') : o.wp P a w K Q := by
  unfold Oper.wp execOp
  simp only [ho, resolve, invoke, builtin, Sem.run_bind, Sem.run_pure, Result.andThen_ok, List.map_toArray, List.map_cons, List.map_nil, hd, hs, hr]
  exact h
theorem wpList_appRZ {α : Type} {cells : α → List Value} {k bytes : Nat} {z : Value} {TS T : TypeId} (hT : Try.prog.underlying TS = some (.slice T)) (hI : (Try.prog.info? T).map (fun i => (i.zero, i.size, i.bytes)) = some (some z, k, bytes)) (hz : z.cells.size = k) (hpos : 0 < k) (hby : bytes ≤ 1024)
    (hcl : ∀ x, (cells x).length = k) (hone : ∀ x, ∀ u ∈ cells x, u.oneCell' = true)
    {ops : Array Oper} {rest : List Oper} {o : Oper} {a : Act} {Q : Exit → Act → World → Prop} {w : World} (hgd : o.guard = none) (base : Nat) (s x : Operand) (ho : o.op = .call { callee := .builtin .append, args := #[s, x], argTypes := #[TS, TS] })
    {v : Value} {xs : List α} (hs : a.eval s = v) (hb : base ≤ w.heap.size) (hown : w.ownsRow base T k v xs.length (xs.flatMap cells)) (y : α) {b c : Nat} {T' : TypeId} (hx : a.eval x = .slice (some ⟨b, 0, none⟩) 1 c) (hy : w.heap[b]? = some (.cells (cells y).toArray T' (0, 0))) (hn : xs.length ≤ 4194304)
    (h : ∀ v' w', w'.ownsRow base T k v' (xs ++ [y]).length ((xs ++ [y]).flatMap cells) → Chg v.ownBlock.toList w w' → wpList Try.prog ops Q rest (a.put o.dst v') w') : wpList Try.prog ops Q (o :: rest) a w :=
  wpList_plain hgd fun _ hK => wp_appRZ hT hI hz hpos hby hcl hone base s x ho hs hb hown y hx hy hn fun v' w' h1 h2 _ => hK _ _ (h v' w' h1 h2)

/-- What the two copies leave, cell by cell. -/
theorem ins_row {L cy : List Value} {arr : Array Value} {N p k : Nat} (hL : L.length = N) (hc : cy.length = k) (hp : p ≤ N) (hs : N + k ≤ arr.size) (hpre : ∀ j, j < N + k → arr[j]? = if j < p then L[j]? else if j < p + k then cy[j - p]? else L[j - k]?) :
    arr.toList.take (N + k) = L.take p ++ (cy ++ L.drop p) := by
  apply List.ext_getElem?
  intro j
  by_cases hj : j < N + k
  · rw [List.getElem?_take, if_pos hj, Array.getElem?_toList, hpre j hj]
    by_cases h1 : j < p
    · rw [if_pos h1, List.getElem?_append_left (by simp; omega), List.getElem?_take, if_pos h1]
    · rw [if_neg h1, List.getElem?_append_right (by simp; omega)]
      have e : (L.take p).length = p := by simp; omega
      rw [e]
      by_cases h2 : j < p + k
      · rw [if_pos h2, List.getElem?_append_left (by omega)]
      · rw [if_neg h2, List.getElem?_append_right (by omega), List.getElem?_drop]
        congr 1; omega
  · rw [List.getElem?_eq_none (by simp; omega), List.getElem?_eq_none (by simp; omega)]
/-- In place: the rest shifted, the element laid in. -/
theorem ins_shift {L cy : List Value} {cur : Array Value} {N p k : Nat} (hL : L.length = N) (hc : cy.length = k) (hp : p ≤ N) (hs : N + k ≤ cur.size) (ht : cur.toList.take N = L) (j : Nat) (hj : j < N + k) :
    (putRow (putRow cur (p + k) (L.drop p)) p cy)[j]? = if j < p then L[j]? else if j < p + k then cy[j - p]? else L[j - k]? := by
  have hd : (L.drop p).length = N - p := by simp [hL]
  rw [putRow_get _ _ _ _ (by rw [putRow_size, hc]; omega), hc]
  by_cases h2 : p ≤ j ∧ j < p + k
  · rw [if_pos h2, if_neg (by omega), if_pos h2.2]
  · rw [if_neg h2, putRow_get _ _ _ _ (by rw [hd]; omega), hd]
    by_cases h1 : j < p
    · rw [if_neg (by omega), if_pos h1, ← ht, List.getElem?_take, if_pos (by omega), Array.getElem?_toList]
    · rw [if_pos (by omega), if_neg h1, if_neg (by omega), List.getElem?_drop]
      congr 1; omega
/-- In a new row. -/
theorem ins_new {L cy : List Value} {cur : Array Value} {N p k : Nat} (hL : L.length = N) (hc : cy.length = k) (hp : p ≤ N) (hs : N + k ≤ cur.size) (ht : ∀ j, j < p → cur[j]? = L[j]?) (j : Nat) (hj : j < N + k) :
    (putRow (putRow cur p cy) (p + k) (L.drop p))[j]? = if j < p then L[j]? else if j < p + k then cy[j - p]? else L[j - k]? := by
  have hd : (L.drop p).length = N - p := by simp [hL]
  rw [putRow_get _ _ _ _ (by rw [putRow_size, hd]; omega), hd]
  by_cases h2 : p + k ≤ j
  · rw [if_pos (by omega), if_neg (by omega), if_neg (by omega), List.getElem?_drop]
    congr 1; omega
  · rw [if_neg (by omega), putRow_get _ _ _ _ (by rw [hc]; omega), hc]
    by_cases h1 : j < p
    · rw [if_neg (by omega), if_pos h1]; exact ht j h1
    · rw [if_pos (by omega), if_neg h1, if_pos (by omega)]

theorem Wlk_one (x : Wlk) : ∀ u ∈ Wlk.cells x, u.oneCell' = true := by
  intro u hu
  simp only [Wlk.cells, List.mem_cons, List.mem_nil_iff, or_false] at hu
  (repeat (first | (rcases hu with rfl | hu; rfl) | (subst hu; rfl)))
set_option maxRecDepth 100000 in
set_option maxHeartbeats 4000000 in
theorem insWlk_end (xs : List Wlk) (y : Wlk) (v : Value) (vb vc base : Nat) (w : World) (hown : w.ownsRow base 52 5 v xs.length (xs.flatMap Wlk.cells)) (hb : base ≤ w.heap.size) (hy : w.heap[vb]? = some (.cells (Wlk.cells y).toArray 52 (0, 0))) (hn : xs.length ≤ 1048576) :
    Calls Try.prog 73 #[v, .int .i64 xs.length, .slice (some ⟨vb, 0, none⟩) 1 vc] w fun e w' => ∃ v', e = .returned v' ∧ w'.ownsRow base 52 5 v' (insAt xs xs.length y).length ((insAt xs xs.length y).flatMap Wlk.cells) ∧ Chg v.ownBlock.toList w w' := by
  rw [insAt_end]
  have HO := hid hown
  have HY := hid hy
  rcases hown.2 with ⟨rfl, h0⟩ | ⟨g, cap, cur, rfl, hg, hB, hc, hcm, hcs, ht⟩
  · obtain rfl := List.eq_nil_of_length_eq_zero h0
    clear hown hy h0
    go_enter Try.func73, Try.ntmps73
    go_wp2_with (at_builtin; refine wpList_appRZ (xs := []) (k := 5) (bytes := 40) (z := .agg #[.int .i64 0, .int .i64 0, .int .i64 0, .int .i64 0, .int .i64 0]) Try.underlying50 (by kernel_rfl) rfl (by decide) (by decide) (fun _ => rfl) Wlk_one rfl base _ _ rfl rfl hb HO.out y rfl HY.out (by simp) ?_; intro v' w' hg hc; have HG := hid hg; have HC := hid hc; clear hg hc)
    go_ret
    exact ⟨_, rfl, HG.out, HC.out⟩
  · clear hown hy ht hcs hB
    simp only [maxLen] at hcm
    generalize hm : xs.length = n at *
    by_cases hcn : cap = n
    · subst hcn
      go_enter Try.func73, Try.ntmps73
      go_wp2_with (at_builtin; refine wpList_appRZ (xs := xs) (k := 5) (bytes := 40) (z := .agg #[.int .i64 0, .int .i64 0, .int .i64 0, .int .i64 0, .int .i64 0]) Try.underlying50 (by kernel_rfl) rfl (by decide) (by decide) (fun _ => rfl) Wlk_one rfl base _ _ rfl rfl hb (by rw [hm]; exact HO.out) y rfl HY.out (by omega) ?_; intro v' w' hg hc; have HG := hid hg; have HC := hid hc; clear hg hc)
      go_ret
      exact ⟨_, rfl, HG.out, HC.out⟩
    · go_enter Try.func73, Try.ntmps73
      go_wp2_with (at_builtin; refine wpList_appRZ (xs := xs) (k := 5) (bytes := 40) (z := .agg #[.int .i64 0, .int .i64 0, .int .i64 0, .int .i64 0, .int .i64 0]) Try.underlying50 (by kernel_rfl) rfl (by decide) (by decide) (fun _ => rfl) Wlk_one rfl base _ _ rfl rfl hb (by rw [hm]; exact HO.out) y rfl HY.out (by omega) ?_; intro v' w' hg hc; have HG := hid hg; have HC := hid hc; clear hg hc)
      go_ret
      exact ⟨_, rfl, HG.out, HC.out⟩
set_option maxRecDepth 100000 in
set_option maxHeartbeats 4000000 in
theorem insWlk_room (xs : List Wlk) (y : Wlk) (g cap i vb vc base : Nat) (cur : Array Value) (w : World) (hl : (xs.flatMap Wlk.cells).length = xs.length * 5) (hcap : xs.length < cap) (hcm : cap ≤ 9223372036854775807) (hg : base ≤ g) (hB : w.heap[g]? = some (.cells cur 52 (0, 0))) (hcs : cur.size = cap * 5) (ht : cur.toList.take (xs.length * 5) = xs.flatMap Wlk.cells)
    (hi : i < xs.length) (hy : w.heap[vb]? = some (.cells (Wlk.cells y).toArray 52 (0, 0))) (hvb : vb ≠ g) (hn : xs.length ≤ 1048576) :
    Calls Try.prog 73 #[.slice (some ⟨g, 0, none⟩) xs.length cap, .int .i64 i, .slice (some ⟨vb, 0, none⟩) 1 vc] w fun e w' => ∃ v', e = .returned v' ∧ w'.ownsRow base 52 5 v' (insAt xs i y).length ((insAt xs i y).flatMap Wlk.cells) ∧ Chg [g] w w' := by
  have hcl : ∀ x : Wlk, (Wlk.cells x).length = 5 := fun _ => rfl
  obtain ⟨D, hD⟩ : ∃ D, (xs.flatMap Wlk.cells).drop (i * 5) = D := ⟨_, rfl⟩
  have hDl : D.length = (xs.length - i) * 5 := by rw [← hD, List.length_drop, hl, Nat.sub_mul]
  have hone : ∀ v ∈ xs.flatMap Wlk.cells, v.oneCell' = true := fun v hv => by
    obtain ⟨x, _, hx⟩ := List.mem_flatMap.1 hv
    exact Wlk_one x v hx
  have hsz : ∀ (w : World), (Go.sizeOf 52).run Try.prog w = .ok 5 w := fun w => sizeOf_run (by kernel_rfl) w
  have hszi : (Try.prog.info? 52).map (·.size) = some 5 := by kernel_rfl
  have hov : ∀ lb cb, (callFunc 91 #[.slice (some ⟨vb, 0, none⟩) 1 vc, .slice (some ⟨g, (i + 1) * 5, none⟩) lb cb]).run Try.prog w = .ok (.value (.bool false)) w := fun lb cb => by
    rw [run_callFunc_extern Try.func91 (by kernel_rfl) (by kernel_rfl) (by kernel_rfl) (e := Extern.SlicesOverlaps.overlaps #[50, 50] #[4]) (by kernel_rfl),
      Lib.run_overlaps_apart w 50 4 52 Try.underlying50 5 hsz ⟨vb, 0, none⟩ ⟨g, (i + 1) * 5, none⟩ 1 vc lb cb hvb 52 52 5 cur.size (by simp [World.shape?, hy, Wlk.cells]) (by simp [World.shape?, hB]) (by omega) (frozen_blk hy 0) (frozen_blk hy 5)]
    rfl
  generalize hm : xs.length = n at *
  have HB := hid hB
  have HY := hid hy
  have HT := hid ht
  have HD := hid hD
  have HL := hid hl
  clear hB hy ht hD hl hone hszi
  go_enter Try.func73, Try.ntmps73
  go_wp2_with (simp only [hov])
  have hget : ∀ j u, D[j]? = some u → cur[i * 5 + j]? = some u := fun j u hu => by
    rw [← HD.out, List.getElem?_drop, ← HT.out, List.getElem?_take] at hu
    split at hu
    · simpa using hu
    · cases hu
  have hin : i * 5 + 5 ≤ n * 5 := by omega
  have hc1 := run_copy_k (P := Try.prog) w.drew 50 50 3 52 g ((i + 1) * 5) (n - i) (cap - (i + 1)) ⟨g, i * 5, none⟩ (n + 1 - i) (cap - i) 5 (n - i) D Try.underlying50 (by kernel_rfl)
    (by simp only [Nat.min_def]; split <;> omega) hDl (fun j u hu => by rw [ld_add]; exact (cell_blk (w := w.drew) HB.out _).trans (hget j u hu))
    (fun j hj => by obtain ⟨u, hu⟩ := some_blk (w := w.drew) HB.out ((i + 1) * 5 + j) (by omega); rw [hu]; rfl) (fun j hj => frozen_blk (w := w.drew) HB.out _)
    (fun v hv => by
      rw [← HD.out] at hv
      obtain ⟨x, _, hx⟩ := List.mem_flatMap.1 (List.mem_of_mem_drop hv)
      exact Wlk_one x v hx)
  have HC1 := hid hc1
  clear hc1 hget
  with_reducible refine wp_region_mixR (R := g) (by kernel_rfl) (by decide +kernel) ?_
  repeat (refine mix_pure rfl ?_; (first | go_big_quiet_skip | (go_big_quiet_want; go_big_quiet_op; go_big_quiet_on)); refine wpQuiet_nil ?_)
  refine mix_mk rfl (by rfl) (fun K hK => ?_)
  refine wp_copy_run _ _ _ _ _ rfl rfl rfl HC1.out ?_
  refine hK _ _ (extR_of ?_) ?_
  · exact Chg.setRow (by simp) _ (Chg.refl _ _)
  clear hK K
  refine mix_nil ?_
  obtain ⟨W1, hW1⟩ : ∃ W1, setRow w.drew g ((i + 1) * 5) D = W1 := ⟨_, rfl⟩
  have hb1 : W1.heap[g]? = some (.cells (putRow cur ((i + 1) * 5) D) 52 (0, 0)) := by rw [← hW1]; exact blk_setRow D HB.out
  have hch1 : Chg [g] w W1 := by rw [← hW1]; exact Chg.setRow (by simp) _ (Chg.drew (Chg.refl _ _))
  have hy1 : W1.heap[vb]? = some (.cells (Wlk.cells y).toArray 52 (0, 0)) := (hch1.block vb (lt_blk HY.out) (by simpa using hvb)).trans HY.out
  have hps : (putRow cur ((i + 1) * 5) D).size = cap * 5 := by rw [putRow_size, hcs]
  have hc2 := run_copy_k (P := Try.prog) W1 50 50 3 52 g (i * 5) (n + 1 - i) (cap - i) ⟨vb, 0, none⟩ 1 vc 5 1 (Wlk.cells y) Try.underlying50 (by kernel_rfl)
    (by simp only [Nat.min_def]; split <;> omega) (by rw [hcl, Nat.one_mul]) (fun j u hu => by rw [ld_add, Nat.zero_add, cell_blk hy1]; simpa using hu)
    (fun j hj => by rw [hcl] at hj; obtain ⟨u, hu⟩ := some_blk hb1 (i * 5 + j) (by omega); rw [hu]; rfl) (fun j hj => frozen_blk hb1 _) (Wlk_one y)
  rw [hW1]
  have HC2 := hid hc2
  have HB1 := hid hb1
  have HCH1 := hid hch1
  clear hW1 hb1 hch1 hy1 hc2 HC1
  go_wp2_with (simp only [HC2.out])
  go_ret
  have hb2 := blk_setRow (o := i * 5) (Wlk.cells y) HB1.out
  have hil : i ≤ xs.length := by omega
  refine ⟨.slice (some ⟨g, 0, none⟩) (n + 1) cap, rfl, ⟨by rw [flatMap_len hcl], .inr ⟨g, cap, _, by rw [insAt_len _ _ _ hil, hm], hg, hb2, by rw [insAt_len _ _ _ hil, hm]; omega, by simpa [maxLen] using hcm, by rw [putRow_size, hps], ?_⟩⟩, Chg.setRow (by simp) _ HCH1.out⟩
  rw [insAt_flat hcl _ _ _ hil, insAt_len _ _ _ hil, hm, Nat.add_mul, Nat.one_mul]
  have hNk : n * 5 + 5 ≤ cur.size := by rw [hcs]; have : (n + 1) * 5 ≤ cap * 5 := Nat.mul_le_mul_right _ hcap; omega
  refine ins_row HL.out rfl (by omega) (by rw [putRow_size, putRow_size]; exact hNk) fun j hj => ?_
  have := ins_shift (cy := Wlk.cells y) (p := i * 5) HL.out rfl (by omega) hNk HT.out j hj
  rw [← HD.out, show (i + 1) * 5 = i * 5 + 5 by omega]
  exact this
set_option maxRecDepth 100000 in
set_option maxHeartbeats 4000000 in
theorem insWlk_full (xs : List Wlk) (y : Wlk) (g cap i vb vc base : Nat) (cur : Array Value) (w : World) (hl : (xs.flatMap Wlk.cells).length = xs.length * 5) (hcap0 : xs.length ≤ cap) (hcap : cap < xs.length + 1) (hcm : cap ≤ 9223372036854775807) (hb0 : base ≤ w.heap.size) (hB : w.heap[g]? = some (.cells cur 52 (0, 0))) (hcs : cur.size = cap * 5) (ht : cur.toList.take (xs.length * 5) = xs.flatMap Wlk.cells)
    (hi : i < xs.length) (hy : w.heap[vb]? = some (.cells (Wlk.cells y).toArray 52 (0, 0))) (hn : xs.length ≤ 1048576) :
    Calls Try.prog 73 #[.slice (some ⟨g, 0, none⟩) xs.length cap, .int .i64 i, .slice (some ⟨vb, 0, none⟩) 1 vc] w fun e w' => ∃ v', e = .returned v' ∧ w'.ownsRow base 52 5 v' (insAt xs i y).length ((insAt xs i y).flatMap Wlk.cells) ∧ Chg [g] w w' := by
  have hcl : ∀ x : Wlk, (Wlk.cells x).length = 5 := fun _ => rfl
  obtain rfl : cap = xs.length := by omega
  clear hcap0 hcap
  generalize hm : xs.length = n at *
  obtain ⟨D, hD⟩ : ∃ D, (xs.flatMap Wlk.cells).drop (i * 5) = D := ⟨_, rfl⟩
  have hDl : D.length = (n - i) * 5 := by rw [← hD, List.length_drop, hl, Nat.sub_mul]
  have hone : ∀ v ∈ xs.flatMap Wlk.cells, v.oneCell' = true := fun v hv => by
    obtain ⟨x, _, hx⟩ := List.mem_flatMap.1 hv
    exact Wlk_one x v hx
  obtain ⟨i0, hi0, hz0, hs0, hbb0⟩ : ∃ i0, Try.prog.info? 52 = some i0 ∧ i0.zero = some (.agg #[.int .i64 0, .int .i64 0, .int .i64 0, .int .i64 0, .int .i64 0]) ∧ i0.size = 5 ∧ i0.bytes = 40 := ⟨_, rfl, rfl, rfl, rfl⟩
  have hA : (xs.flatMap Wlk.cells).take (i * 5) = (xs.take i).flatMap Wlk.cells := (flatMap_take hcl xs i (by omega)).symm
  have hold : (Builtin.firstCells i0.size i (.slice (some ⟨g, 0, none⟩) i n)).run Try.prog w.drew = .ok ((xs.flatMap Wlk.cells).take (i * 5)).toArray w.drew := by
    rw [hs0]
    refine run_firstCells_some w.drew 5 i ⟨g, 0, none⟩ i n _ (by rw [List.length_take, hl]; omega) (fun j v hj => ?_)
    rw [ld_add, Nat.zero_add]
    refine (cell_blk (w := w.drew) hB _).trans ?_
    rw [List.getElem?_take] at hj
    split at hj
    · rw [← ht, List.getElem?_take] at hj
      split at hj
      · simpa using hj
      · cases hj
    · cases hj
  have hrz : ∀ ty, (Builtin.append_ #[50, 3] ty #[.slice (some ⟨g, 0, none⟩) i n, .int .i64 ((n : Int) + 1 - (i : Int))]).run Try.prog w =
      .ok (.slice (some ⟨w.heap.size, 0, none⟩) (n + 1) (grownCap w (n + 1) n 52)) (w.drew.alloc (.cells (((xs.flatMap Wlk.cells).take (i * 5)).toArray ++ Builtin.zeroCells (Value.cells (.agg #[.int .i64 0, .int .i64 0, .int .i64 0, .int .i64 0, .int .i64 0])) (n + 1 - i) ++ Builtin.zeroCells (Value.cells (.agg #[.int .i64 0, .int .i64 0, .int .i64 0, .int .i64 0, .int .i64 0])) (grownCap w (n + 1) n 52 - (n + 1))) 52)) := fun ty => by
    have hik : i + (n + 1 - i) = n + 1 := by omega
    have hkk : (n : Int) + 1 - (i : Int) = ((n + 1 - i : Nat) : Int) := by omega
    have h := Lib.run_append_grow_zeros (P := Try.prog) w 50 3 ty 52 i0 _ .i64 .i64 Try.underlying50 Try.underlying3 hi0 hz0 (some ⟨g, 0, none⟩) i n _ hold (n + 1 - i) (by omega) (by omega) (by omega) (by omega) (by rw [hbb0]; omega) (by rw [hbb0, hik]; exact growslice_fits (by omega) (by omega))
    rw [hik] at h
    rw [hkk]
    exact h
  obtain ⟨G, hG⟩ : ∃ G, G = grownCap w (n + 1) n 52 := ⟨_, rfl⟩
  have hGn : n + 1 ≤ G := by rw [hG]; exact grownCap_ge w _ _ _
  have hG63 : G ≤ 9223372036854775807 := by
    have := grownCap_le_maxLen w (n + 1) n 52 (by unfold maxLen; omega)
    rw [← hG] at this
    unfold maxLen at this
    omega
  obtain ⟨ROW, hROW⟩ : ∃ ROW : Array Value, ROW = ((xs.flatMap Wlk.cells).take (i * 5)).toArray ++ Builtin.zeroCells (Value.cells (.agg #[.int .i64 0, .int .i64 0, .int .i64 0, .int .i64 0, .int .i64 0])) (n + 1 - i) ++ Builtin.zeroCells (Value.cells (.agg #[.int .i64 0, .int .i64 0, .int .i64 0, .int .i64 0, .int .i64 0])) (G - (n + 1)) := ⟨_, rfl⟩
  rw [← hG] at hrz
  rw [← hROW] at hrz
  have hzl : ∀ m, (Builtin.zeroCells (Value.cells (.agg #[.int .i64 0, .int .i64 0, .int .i64 0, .int .i64 0, .int .i64 0])) m).size = m * 5 := fun m => by
    simp [Builtin.zeroCells, Value.cells]
  have hRl : ROW.size = G * 5 := by
    rw [hROW, Array.size_append, Array.size_append, hzl, hzl, List.size_toArray, List.length_take, hl]
    omega
  have hRp : ∀ j, j < i * 5 → ROW[j]? = (xs.flatMap Wlk.cells)[j]? := fun j hj => by
    rw [hROW, Array.append_assoc, Array.getElem?_append, if_pos (by rw [List.size_toArray, List.length_take, hl]; omega), List.getElem?_toArray, List.getElem?_take, if_pos hj]
  obtain ⟨W1, hW1⟩ : ∃ W1, w.drew.alloc (.cells ROW 52) = W1 := ⟨_, rfl⟩
  obtain ⟨b, hbe⟩ : ∃ b, w.heap.size = b := ⟨_, rfl⟩
  have hb1 : W1.heap[b]? = some (.cells ROW 52 (0, 0)) := by rw [← hW1, ← hbe]; exact alloc_last rfl
  have hch1 : Chg [] w W1 := by rw [← hW1]; exact Chg.alloc (Chg.drew (Chg.refl _ _))
  have hvb := lt_blk hy
  have hgb := lt_blk hB
  have hbv : b ≠ vb := by omega
  have hbg : b ≠ g := by omega
  have hy1 : W1.heap[vb]? = some (.cells (Wlk.cells y).toArray 52 (0, 0)) := (hch1.block vb hvb (by simp)).trans hy
  have hg1 : W1.heap[g]? = some (.cells cur 52 (0, 0)) := (hch1.block g hgb (by simp)).trans hB
  rw [hW1, hbe] at hrz
  have hc2 := run_copy_k (P := Try.prog) W1 50 50 3 52 b (i * 5) (n + 1 - i) (G - i) ⟨vb, 0, none⟩ 1 vc 5 1 (Wlk.cells y) Try.underlying50 (by kernel_rfl)
    (by simp only [Nat.min_def]; split <;> omega) (by rw [hcl, Nat.one_mul]) (fun j u hu => by rw [ld_add, Nat.zero_add, cell_blk hy1]; simpa using hu)
    (fun j hj => by rw [hcl] at hj; obtain ⟨u, hu⟩ := some_blk hb1 (i * 5 + j) (by omega); rw [hu]; rfl) (fun j hj => frozen_blk hb1 _) (Wlk_one y)
  obtain ⟨W2, hW2⟩ : ∃ W2, setRow W1 b (i * 5) (Wlk.cells y) = W2 := ⟨_, rfl⟩
  rw [hW2] at hc2
  have hb2 : W2.heap[b]? = some (.cells (putRow ROW (i * 5) (Wlk.cells y)) 52 (0, 0)) := by rw [← hW2]; exact blk_setRow _ hb1
  have hch2 : Chg [b] W1 W2 := by rw [← hW2]; exact Chg.setRow (by simp) _ (Chg.refl _ _)
  have hg2 : W2.heap[g]? = some (.cells cur 52 (0, 0)) := (hch2.block g (lt_blk hg1) (by simpa using Ne.symm hbg)).trans hg1
  have hget : ∀ j u, D[j]? = some u → cur[i * 5 + j]? = some u := fun j u hu => by
    rw [← hD, List.getElem?_drop, ← ht, List.getElem?_take] at hu
    split at hu
    · simpa using hu
    · cases hu
  have hc3 := run_copy_k (P := Try.prog) W2.drew 50 50 3 52 b ((i + 1) * 5) (n - i) (G - (i + 1)) ⟨g, i * 5, none⟩ (n - i) (n - i) 5 (n - i) D Try.underlying50 (by kernel_rfl)
    (by simp only [Nat.min_def]; split <;> omega) hDl (fun j u hu => by rw [ld_add]; exact (cell_blk (w := W2.drew) hg2 _).trans (hget j u hu))
    (fun j hj => by obtain ⟨u, hu⟩ := some_blk (w := W2.drew) hb2 ((i + 1) * 5 + j) (by rw [putRow_size]; omega); rw [hu]; rfl) (fun j hj => frozen_blk (w := W2.drew) hb2 _)
    (fun v hv => hone v (List.mem_of_mem_drop (hD ▸ hv)))
  have HRZ := hid hrz
  have HC2 := hid hc2
  have HC3 := hid hc3
  have HB2 := hid hb2
  have HCH := hid (show Chg [] w W1 ∧ Chg [b] W1 W2 from ⟨hch1, hch2⟩)
  have HL := hid hl
  have HD := hid hD
  have HRL := hid hRl
  have HRP := hid hRp
  have HBE := hid hbe
  clear hrz hc2 hc3 hb2 hg2 hch2 hch1 hb1 hy1 hg1 hW2 hW1 hl hD hRl hRp hROW hzl hG hget hold hi0 hz0 hs0 hbb0 hA hone hB hy ht i0 hbe
  have hcn : ¬ (n = i) := by omega
  have hGi : ¬ (G = i) := by omega
  have hGi1 : ¬ (G = i + 1) := by omega
  go_enter Try.func73, Try.ntmps73
  go_wp2_with (first | (at_builtin; refine Lib.wpList_append_run _ rfl _ _ _ _ rfl _ _ rfl rfl _ _ (HRZ.out _) ?_) | (simp only [HC2.out]))
  with_reducible refine wp_region_mixR (R := b) (by kernel_rfl) (by decide +kernel) ?_
  repeat (refine mix_pure rfl ?_; (first | go_big_quiet_skip | (go_big_quiet_want; go_big_quiet_op; go_big_quiet_on)); refine wpQuiet_nil ?_)
  refine mix_mk rfl (by rfl) (fun K hK => ?_)
  refine wp_copy_run _ _ _ _ _ rfl rfl rfl HC3.out ?_
  refine hK _ _ (extR_of ?_) ?_
  · exact Chg.setRow (by simp) _ (Chg.refl _ _)
  clear hK K
  refine mix_nil ?_
  go_wp2
  go_ret
  have hb3 := blk_setRow (w := W2.drew) (o := (i + 1) * 5) D HB2.out
  have hil : i ≤ xs.length := by omega
  refine ⟨.slice (some ⟨b, 0, none⟩) (n + 1) G, rfl, ⟨by rw [flatMap_len hcl], .inr ⟨b, G, _, by rw [insAt_len _ _ _ hil, hm], by rw [← HBE.out]; exact hb0, hb3, by rw [insAt_len _ _ _ hil, hm]; omega, by simpa [maxLen] using hG63, by rw [putRow_size, putRow_size, HRL.out], ?_⟩⟩, ?_⟩
  · rw [insAt_flat hcl _ _ _ hil, insAt_len _ _ _ hil, hm, Nat.add_mul, Nat.one_mul]
    have hNk : n * 5 + 5 ≤ ROW.size := by rw [HRL.out]; have : (n + 1) * 5 ≤ G * 5 := Nat.mul_le_mul_right _ hGn; omega
    refine ins_row HL.out rfl (by omega) (by rw [putRow_size, putRow_size]; exact hNk) fun j hj => ?_
    have := ins_new (cy := Wlk.cells y) (p := i * 5) HL.out rfl (by omega) hNk HRP.out j hj
    rw [← HD.out, show (i + 1) * 5 = i * 5 + 5 by omega]
    exact this
  · have h1 : Chg [] w W2 := Chg.up HCH.out.1 HCH.out.2 (by simp [HBE.out])
    exact (Chg.up h1 (Chg.setRow (B := [b]) (by simp) D (Chg.drew (Chg.refl _ _))) (by simp [HBE.out])).mono (by simp)
/-- slices.Insert(s, i, y) of a row of one's own: a row of one's own with y at i. -/
theorem insWlk_c (xs : List Wlk) (y : Wlk) (v : Value) (i vb vc base : Nat) (w : World) (hown : w.ownsRow base 52 5 v xs.length (xs.flatMap Wlk.cells)) (hb : base ≤ w.heap.size) (hi : i ≤ xs.length) (hy : w.heap[vb]? = some (.cells (Wlk.cells y).toArray 52 (0, 0))) (hvb : ∀ g, v.ownBlock = some g → vb ≠ g) (hn : xs.length ≤ 1048576) :
    Calls Try.prog 73 #[v, .int .i64 i, .slice (some ⟨vb, 0, none⟩) 1 vc] w fun e w' => ∃ v', e = .returned v' ∧ w'.ownsRow base 52 5 v' (insAt xs i y).length ((insAt xs i y).flatMap Wlk.cells) ∧ Chg v.ownBlock.toList w w' := by
  rcases Nat.lt_or_ge i xs.length with hlt | hge
  · rcases hown.2 with ⟨_, h0⟩ | ⟨g, cap, cur, rfl, hg, hB, hc, hcm, hcs, ht⟩
    · omega
    · simp only [maxLen] at hcm
      rcases Nat.lt_or_ge xs.length cap with h1 | h1
      · exact insWlk_room xs y g cap i vb vc base cur w hown.1 h1 hcm hg hB hcs ht hlt hy (hvb g rfl) hn
      · exact insWlk_full xs y g cap i vb vc base cur w hown.1 hc (by omega) hcm hb hB hcs ht hlt hy hn
  · obtain rfl : i = xs.length := by omega
    exact insWlk_end xs y v vb vc base w hown hb hy hn
end Go.Proofs.Ytbbpipbemhggdaa

namespace Go.Proofs.Ytbbpipbemhggdaa
open Go.RowKit
set_option linter.unusedSimpArgs false
set_option linter.unusedVariables false

/-- A copy in new memory: a row of one's own. -/
def MadeX {α : Type} (w : World) (T : TypeId) (k : Nat) (cells : α → List Value) (xs : List α) (e : Ending) (w' : World) : Prop :=
  ∃ a c B, e = .returned (.slice a xs.length c) ∧ Ext w w' ∧ RowX w' T k cells (.slice a xs.length c) xs B ∧ ∀ b ∈ B, w.heap.size ≤ b
set_option maxHeartbeats 1000000 in
theorem iCloneWlk_x (xs : List Wlk) (a : Option Addr) (n c : Nat) (w : World) (hx : Re w (.sl sWlk) [.slice a n c] (.l (xs.map Wlk.dat))) (hn : n ≤ 2097152) :
    Calls Try.prog 72 #[.slice a n c] w (MadeX w 52 5 Wlk.cells xs) := by
  have HX := hid hx
  have hl := hx.len
  clear hx
  go_enter Try.func72, Try.ntmps72
  go_wp2_with (refine wpList_cloneX (cells := Wlk.cells) (k := 5) (bytes := 40) (z := .agg #[.int .i64 0, .int .i64 0, .int .i64 0, .int .i64 0, .int .i64 0]) Try.underlying50 (by kernel_rfl) rfl (by decide) (by decide) rfl (fun _ => rfl) (fun _ _ _ _ h => rd_Wlk h) (fun _ _ h => Wlk.dat_inj h) (fun x u hu => by simp only [Wlk.cells, List.mem_cons, List.not_mem_nil, or_false] at hu; rcases hu with rfl | rfl | rfl | rfl | rfl <;> rfl) (fun w x => own_Wlk_mk w x) rfl _ _ rfl rfl (.inl rfl) xs rfl (HX.out.of zq0) hn ?_; intro a' c' t' B' hr hB; have HR := hid hr; have HB := hid hB; clear hr hB)
  go_ret
  subst hl
  exact ⟨a', c', B', rfl, zq0, HR.out, HB.out⟩
end Go.Proofs.Ytbbpipbemhggdaa

namespace Go.Proofs.Ytbbpipbemhggdaa
open Go.RowKit
set_option linter.unusedSimpArgs false
set_option linter.unusedVariables false

/-- The place of the first element that passes; the length for none. -/
def pos {α : Type} (p : α → Bool) : List α → Nat
  | [] => 0
  | x :: r => if p x then 0 else pos p r + 1
theorem pos_le {α : Type} (p : α → Bool) : ∀ xs : List α, pos p xs ≤ xs.length
  | [] => Nat.le_refl _
  | x :: r => by
    simp only [pos, List.length_cons]
    have := pos_le p r
    split <;> omega
theorem pos_hit {α : Type} {p : α → Bool} : ∀ {xs : List α} {k : Nat} {x : α}, xs[k]? = some x → (∀ y ∈ xs.take k, p y = false) → p x = true → pos p xs = k
  | [], _, _, h, _, _ => by simp at h
  | y :: ys, 0, x, h, _, hp => by
    obtain rfl : y = x := by simpa using h
    simp [pos, hp]
  | y :: ys, k + 1, x, h, ha, hp => by
    have h0 := ha y (by simp)
    simp only [pos, h0, Bool.false_eq_true, if_false]
    rw [pos_hit (k := k) (by simpa using h) (fun z hz => ha z (by simp [hz])) hp]
theorem pos_none {α : Type} {p : α → Bool} : ∀ {xs : List α}, (∀ y ∈ xs, p y = false) → pos p xs = xs.length
  | [], _ => rfl
  | y :: ys, h => by
    simp only [pos, h y (by simp), Bool.false_eq_true, if_false, List.length_cons]
    rw [pos_none fun z hz => h z (by simp [hz])]
def idGt (id : Int) (x : Wlk) : Bool := decide (id < x.id)
def putAt (xs : List Wlk) (y : Wlk) : Nat := pos (idGt y.id) (wlkOut xs y.id)
/-- A list with a walker. -/
def wlkPut (xs : List Wlk) (y : Wlk) : List Wlk := insAt (wlkOut xs y.id) (putAt xs y) y
theorem putAt_le (xs : List Wlk) (y : Wlk) : putAt xs y ≤ (wlkOut xs y.id).length := pos_le _ _
theorem wlkPut_len (xs : List Wlk) (y : Wlk) : (wlkPut xs y).length ≤ xs.length + 1 := by
  rw [wlkPut, insAt_len _ _ _ (putAt_le xs y)]
  have := wlkOut_len xs y.id; omega

set_option maxHeartbeats 1000000 in
theorem iWlkOut_r (xs : List Wlk) (a : Option Addr) (n c : Nat) (id : Int) (w : World) (hx : Re w (.sl sWlk) [.slice a n c] (.l (xs.map Wlk.dat))) (hn : n ≤ 1048576) :
    Calls Try.prog 40 #[.slice a n c, .int .i64 id] w fun e w' => ∃ v, e = .returned v ∧ Ext w w' ∧ w'.ownsRow w.heap.size 52 5 v (wlkOut xs id).length ((wlkOut xs id).flatMap Wlk.cells) := by
  have HX := hid hx
  clear hx
  go_enter Try.func40, Try.ntmps40
  go_wp2
  go_loopw [5, 10] (fun v i wr => ∃ (k : Nat), k ≤ n ∧ i = .int .i64 k ∧ wr.ownsRow w.heap.size 52 5 v ((xs.take k).filter (notId id)).length (((xs.take k).filter (notId id)).flatMap Wlk.cells) ∧ Ext w wr) (fun _ i _ => n - (intOf i).toNat)
  case atStart => exact ⟨0, Nat.zero_le _, rfl, by simpa using World.ownsRow_nil _ _ _ _, zq0⟩
  case round =>
    obtain ⟨k, hk, rfl, hg, t, rfl⟩ := hrel
    have HG := hid hg
    clear hg
    by_cases hlt : k < n
    · obtain ⟨x, b1, o1, hxk, rfl, hb1, f0, f1, f2, f3, f4⟩ := at_Wlk HX.out hlt
      have HK := hid hxk
      clear hxk
      have hb2 : b1 ≤ w.heap.size := Nat.le_of_lt hb1
      have hfl := filt_len (notId id) xs k
      cases hp : (x.id == id) with
      | true =>
        have HF := hid (filt_no (p := notId id) HK.out (by simp [notId, hp]))
        try go_wp2_with (first
            | fail
            | (
              with_reducible refine wp_region_mix (by kernel_rfl) (by decide +kernel) ?_
              repeat (first
                | (refine mix_pure rfl ?_; (first | go_big_quiet_skip | (go_big_quiet_want; go_big_quiet_op; go_big_quiet_on)); refine wpQuiet_nil ?_)
                | (refine mix_skip (by rfl) ?_; (try simp only [Act.put, List.setIfInBounds_toArray, List.set_cons_zero, List.set_cons_succ]))
                | (refine mix_mk rfl (by rfl) (fun K hK => ?_); (first | (go_simp; first | skip)); (show K _ _); refine hK _ _ (show Ext _ _ from zq0) ?_; clear hK K; (try simp only [Act.put, List.setIfInBounds_toArray, List.set_cons_zero, List.set_cons_succ])))
              refine mix_nil ?_)
            | (
              with_reducible refine wp_region_ext (by kernel_rfl) (by kernel_rfl) ?_
              repeat (first | go_big_quiet_skip | (go_big_quiet_want; go_big_quiet_op; first | go_big_quiet_on | (apply Exists.intro; refine ⟨fun _ => ?_, ?_⟩; (fail); (try rw [h1]); (try rw [h2]); (try rw [h3]); (try rw [h4]); (try rw [p1]); (try rw [p2]); (try rw [p3]); (try rw [p4]); (try rw [r1]); (try rw [r2]); (try rw [r3]); (try rw [r4]); (try rw [r5]); (try rw [r6]); (try rw [q3]); (try rw [q4]); (try rw [hp]); (try rw [hq]); go_big_quiet_on)))
              refine wpQuiet_nil ?_
              rintro _ ⟨tq, rfl⟩))
        go_roundw
        case rel => exact ⟨k + 1, by omega, by go_num, by rw [HF.out]; exact (by repeat (first | with_reducible apply ownsRow_alloc | exact HG.out | with_reducible apply ownsRow_drew | with_reducible apply ownsRow_ext)), zq0⟩
        case measure => simp [intOf]; omega
      | false =>
        have HF := hid (filt_yes (p := notId id) HK.out (by simp [notId, hp]))
        go_wp2_with (first | ((refine wpList_app_Wlk (w0 := w) (xs := (xs.take k).filter (notId id)) rfl _ _ rfl rfl zq0 (by repeat (first | with_reducible apply ownsRow_alloc | exact HG.out | with_reducible apply ownsRow_drew | with_reducible apply ownsRow_ext)) (x) rfl (alloc_last (by simp [go_sem])) (by omega) ?_); intro v' t' hg; have HG' := hid hg; clear hg))
        go_roundw
        case rel => exact ⟨k + 1, by omega, by go_num, by rw [HF.out]; exact HG'.out, zq0⟩
        case measure => simp [intOf]; omega
    · have HE := hid (show xs.take k = xs from List.take_of_length_le (by rw [← HX.out.len]; omega))
      go_wp2
      go_ret
      rw [HE.out] at HG
      exact ⟨_, rfl, zq0, HG.out⟩
set_option maxHeartbeats 1000000 in
theorem sWlkOut_r (xs : List Wlk) (a : Option Addr) (n c : Nat) (id : Int) (w : World) (hx : Re w (.sl sWlk) [.slice a n c] (.l (xs.map Wlk.dat))) (hn : n ≤ 1048576) :
    Calls Try.prog 74 #[.slice a n c, .int .i64 id] w fun e w' => ∃ v, e = .returned v ∧ Ext w w' ∧ w'.ownsRow w.heap.size 52 5 v (wlkOut xs id).length ((wlkOut xs id).flatMap Wlk.cells) := by
  have HX := hid hx
  clear hx
  go_enter Try.func74, Try.ntmps74
  go_wp2
  go_loopw [5, 6] (fun v i wr => ∃ (k : Nat), k ≤ n ∧ i = .int .i64 k ∧ wr.ownsRow w.heap.size 52 5 v ((xs.take k).filter (notId id)).length (((xs.take k).filter (notId id)).flatMap Wlk.cells) ∧ Ext w wr) (fun _ i _ => n - (intOf i).toNat)
  case atStart => exact ⟨0, Nat.zero_le _, rfl, by simpa using World.ownsRow_made _ #[] 0 (Nat.le_refl _) (Nat.zero_le _) rfl, zq0⟩
  case round =>
    obtain ⟨k, hk, rfl, hg, t, rfl⟩ := hrel
    have HG := hid hg
    clear hg
    by_cases hlt : k < n
    · obtain ⟨x, b1, o1, hxk, rfl, hb1, f0, f1, f2, f3, f4⟩ := at_Wlk HX.out hlt
      have HK := hid hxk
      clear hxk
      have hb2 : b1 ≤ w.heap.size := Nat.le_of_lt hb1
      have hfl := filt_len (notId id) xs k
      cases hp : (x.id == id) with
      | true =>
        have HF := hid (filt_no (p := notId id) HK.out (by simp [notId, hp]))
        try go_wp2_with (first
            | fail
            | (
              with_reducible refine wp_region_mix (by kernel_rfl) (by decide +kernel) ?_
              repeat (first
                | (refine mix_pure rfl ?_; (first | go_big_quiet_skip | (go_big_quiet_want; go_big_quiet_op; go_big_quiet_on)); refine wpQuiet_nil ?_)
                | (refine mix_skip (by rfl) ?_; (try simp only [Act.put, List.setIfInBounds_toArray, List.set_cons_zero, List.set_cons_succ]))
                | (refine mix_mk rfl (by rfl) (fun K hK => ?_); (first | (go_simp; first | skip)); (show K _ _); refine hK _ _ (show Ext _ _ from zq0) ?_; clear hK K; (try simp only [Act.put, List.setIfInBounds_toArray, List.set_cons_zero, List.set_cons_succ])))
              refine mix_nil ?_)
            | (
              with_reducible refine wp_region_ext (by kernel_rfl) (by kernel_rfl) ?_
              repeat (first | go_big_quiet_skip | (go_big_quiet_want; go_big_quiet_op; first | go_big_quiet_on | (apply Exists.intro; refine ⟨fun _ => ?_, ?_⟩; (fail); (try rw [h1]); (try rw [h2]); (try rw [h3]); (try rw [h4]); (try rw [p1]); (try rw [p2]); (try rw [p3]); (try rw [p4]); (try rw [r1]); (try rw [r2]); (try rw [r3]); (try rw [r4]); (try rw [r5]); (try rw [r6]); (try rw [q3]); (try rw [q4]); (try rw [hp]); (try rw [hq]); go_big_quiet_on)))
              refine wpQuiet_nil ?_
              rintro _ ⟨tq, rfl⟩))
        go_roundw
        case rel => exact ⟨k + 1, by omega, by go_num, by rw [HF.out]; exact (by repeat (first | with_reducible apply ownsRow_alloc | exact HG.out | with_reducible apply ownsRow_drew | with_reducible apply ownsRow_ext)), zq0⟩
        case measure => simp [intOf]; omega
      | false =>
        have HF := hid (filt_yes (p := notId id) HK.out (by simp [notId, hp]))
        go_wp2_with (first | ((refine wpList_app_Wlk (w0 := w) (xs := (xs.take k).filter (notId id)) rfl _ _ rfl rfl zq0 (by repeat (first | with_reducible apply ownsRow_alloc | exact HG.out | with_reducible apply ownsRow_drew | with_reducible apply ownsRow_ext)) (x) rfl (alloc_last (by simp [go_sem])) (by omega) ?_); intro v' t' hg; have HG' := hid hg; clear hg))
        go_roundw
        case rel => exact ⟨k + 1, by omega, by go_num, by rw [HF.out]; exact HG'.out, zq0⟩
        case measure => simp [intOf]; omega
    · have HE := hid (show xs.take k = xs from List.take_of_length_le (by rw [← HX.out.len]; omega))
      go_wp2
      go_ret
      rw [HE.out] at HG
      exact ⟨_, rfl, zq0, HG.out⟩

theorem put1_c (x : Wlk) (b : Nat) (id : Int) (w : World) (hb : b < w.heap.size) (hc : w.cell? ⟨b, 0, none⟩ = some (.int .i64 id)) :
    Calls Try.prog 71 #[.agg #[.int .i64 x.id, .int .i64 x.at_, .int .i64 x.coins, .int .i64 x.seq, .int .i64 x.last], .pointer (some ⟨b, 0, none⟩)] w fun e w' => e = .returned (.bool (idGt id x)) ∧ Ext w w' := by
  go_enter Try.func71, Try.ntmps71
  try go_wp2_with (first
      | fail
      | (
        with_reducible refine wp_region_mix (by kernel_rfl) (by decide +kernel) ?_
        repeat (first
          | (refine mix_pure rfl ?_; (first | go_big_quiet_skip | (go_big_quiet_want; go_big_quiet_op; go_big_quiet_on)); refine wpQuiet_nil ?_)
          | (refine mix_skip (by rfl) ?_; (try simp only [Act.put, List.setIfInBounds_toArray, List.set_cons_zero, List.set_cons_succ]))
          | (refine mix_mk rfl (by rfl) (fun K hK => ?_); (first | (go_simp; first | skip)); (show K _ _); refine hK _ _ (show Ext _ _ from zq0) ?_; clear hK K; (try simp only [Act.put, List.setIfInBounds_toArray, List.set_cons_zero, List.set_cons_succ])))
        refine mix_nil ?_)
      | (
        with_reducible refine wp_region_ext (by kernel_rfl) (by kernel_rfl) ?_
        repeat (first | go_big_quiet_skip | (go_big_quiet_want; go_big_quiet_op; first | go_big_quiet_on | (apply Exists.intro; refine ⟨fun _ => ?_, ?_⟩; (fail); (try rw [h1]); (try rw [h2]); (try rw [h3]); (try rw [h4]); (try rw [p1]); (try rw [p2]); (try rw [p3]); (try rw [p4]); (try rw [r1]); (try rw [r2]); (try rw [r3]); (try rw [r4]); (try rw [r5]); (try rw [r6]); (try rw [q3]); (try rw [q4]); (try rw [hp]); (try rw [hq]); go_big_quiet_on)))
        refine wpQuiet_nil ?_
        rintro _ ⟨tq, rfl⟩))
  go_ret
  exact ⟨rfl, zq0⟩

set_option maxHeartbeats 1000000 in
theorem idxP_c (xs : List Wlk) (a : Option Addr) (n c b : Nat) (id q : Int) (w : World) (hx : Re w (.sl sWlk) [.slice a n c] (.l (xs.map Wlk.dat))) (hn : n ≤ 1048576) (hb : b < w.heap.size) (hc : w.cell? ⟨b, 0, none⟩ = some (.int .i64 id)) (hq : (if pos (idGt id) xs < xs.length then ((pos (idGt id) xs : Nat) : Int) else -1) = q) :
    Calls Try.prog 70 #[.slice a n c, .func (.func 71) #[] #[.pointer (some ⟨b, 0, none⟩)]] w fun e w' => e = .returned (.int .i64 q) ∧ Ext w w' := by
  have HX := hid hx
  have HQ := hid hq
  clear hx hq
  go_enter Try.func70, Try.ntmps70
  go_wp2
  go_loopw [8] (fun i wr => ∃ k : Nat, k ≤ n ∧ i = .int .i64 k ∧ (∀ y ∈ xs.take k, idGt id y = false) ∧ Ext w wr) (fun i _ => n - (intOf i).toNat)
  case atStart => exact ⟨0, Nat.zero_le _, rfl, by simp, Ext.refl _⟩
  case round =>
    obtain ⟨k, hk, rfl, hal, t, rfl⟩ := hrel
    have HA := hid hal
    clear hal
    by_cases hlt : k < n
    · obtain ⟨x, b1, o1, hxk, rfl, hb1, f0, f1, f2, f3, f4⟩ := at_Wlk HX.out hlt
      have HK := hid hxk
      clear hxk
      cases hp : idGt id x with
      | true =>
        have E := hid (show q = (k : Int) by rw [← HQ.out, pos_hit HK.out HA.out hp, if_pos (by have := HX.out.len; omega)])
        try go_wp2_with (first
            | (go_at_call 71; (with_reducible refine (put1_c x b id _ (by simp [ext_size]; omega) (by rw [ext_cell' _ _ _ _ hb]; exact hc)).mono ?_); rintro e w' ⟨rfl, t, rfl⟩)
            | (
              with_reducible refine wp_region_mix (by kernel_rfl) (by decide +kernel) ?_
              repeat (first
                | (refine mix_pure rfl ?_; (first | go_big_quiet_skip | (go_big_quiet_want; go_big_quiet_op; go_big_quiet_on)); refine wpQuiet_nil ?_)
                | (refine mix_skip (by rfl) ?_; (try simp only [Act.put, List.setIfInBounds_toArray, List.set_cons_zero, List.set_cons_succ]))
                | (refine mix_mk rfl (by rfl) (fun K hK => ?_); (first | (go_simp; first | (go_at_call 71; (with_reducible refine (put1_c x b id _ (by simp [ext_size]; omega) (by rw [ext_cell' _ _ _ _ hb]; exact hc)).mono ?_); rintro e w' ⟨rfl, t, rfl⟩) | skip)); (show K _ _); refine hK _ _ (show Ext _ _ from zq0) ?_; clear hK K; (try simp only [Act.put, List.setIfInBounds_toArray, List.set_cons_zero, List.set_cons_succ])))
              refine mix_nil ?_)
            | (
              with_reducible refine wp_region_ext (by kernel_rfl) (by kernel_rfl) ?_
              repeat (first | go_big_quiet_skip | (go_big_quiet_want; go_big_quiet_op; first | go_big_quiet_on | (apply Exists.intro; refine ⟨fun _ => ?_, ?_⟩; (fail); (try rw [h1]); (try rw [h2]); (try rw [h3]); (try rw [h4]); (try rw [p1]); (try rw [p2]); (try rw [p3]); (try rw [p4]); (try rw [r1]); (try rw [r2]); (try rw [r3]); (try rw [r4]); (try rw [r5]); (try rw [r6]); (try rw [q3]); (try rw [q4]); (try rw [hp]); (try rw [hq]); go_big_quiet_on)))
              refine wpQuiet_nil ?_
              rintro _ ⟨tq, rfl⟩))
        go_ret
        exact ⟨ret_int E.out.symm, zq0⟩
      | false =>
        try go_wp2_with (first
            | (go_at_call 71; (with_reducible refine (put1_c x b id _ (by simp [ext_size]; omega) (by rw [ext_cell' _ _ _ _ hb]; exact hc)).mono ?_); rintro e w' ⟨rfl, t, rfl⟩)
            | (
              with_reducible refine wp_region_mix (by kernel_rfl) (by decide +kernel) ?_
              repeat (first
                | (refine mix_pure rfl ?_; (first | go_big_quiet_skip | (go_big_quiet_want; go_big_quiet_op; go_big_quiet_on)); refine wpQuiet_nil ?_)
                | (refine mix_skip (by rfl) ?_; (try simp only [Act.put, List.setIfInBounds_toArray, List.set_cons_zero, List.set_cons_succ]))
                | (refine mix_mk rfl (by rfl) (fun K hK => ?_); (first | (go_simp; first | (go_at_call 71; (with_reducible refine (put1_c x b id _ (by simp [ext_size]; omega) (by rw [ext_cell' _ _ _ _ hb]; exact hc)).mono ?_); rintro e w' ⟨rfl, t, rfl⟩) | skip)); (show K _ _); refine hK _ _ (show Ext _ _ from zq0) ?_; clear hK K; (try simp only [Act.put, List.setIfInBounds_toArray, List.set_cons_zero, List.set_cons_succ])))
              refine mix_nil ?_)
            | (
              with_reducible refine wp_region_ext (by kernel_rfl) (by kernel_rfl) ?_
              repeat (first | go_big_quiet_skip | (go_big_quiet_want; go_big_quiet_op; first | go_big_quiet_on | (apply Exists.intro; refine ⟨fun _ => ?_, ?_⟩; (fail); (try rw [h1]); (try rw [h2]); (try rw [h3]); (try rw [h4]); (try rw [p1]); (try rw [p2]); (try rw [p3]); (try rw [p4]); (try rw [r1]); (try rw [r2]); (try rw [r3]); (try rw [r4]); (try rw [r5]); (try rw [r6]); (try rw [q3]); (try rw [q4]); (try rw [hp]); (try rw [hq]); go_big_quiet_on)))
              refine wpQuiet_nil ?_
              rintro _ ⟨tq, rfl⟩))
        go_roundw
        case rel => exact ⟨k + 1, by omega, by go_num, take_step HA.out HK.out hp, zq0⟩
        case measure => simp [intOf]; omega
    · have HE := hid (show q = -1 by rw [← HQ.out, pos_none (take_end HA.out (by have := HX.out.len; omega)), if_neg (by omega)])
      go_wp2
      go_ret
      exact ⟨ret_int HE.out.symm, zq0⟩
theorem row_reW {w : World} {base : Nat} {a : Option Addr} {n c : Nat} {xs : List Wlk} (hm : xs.length ≤ 9223372036854775807) (h : w.ownsRow base 52 5 (.slice a n c) xs.length (xs.flatMap Wlk.cells)) : n = xs.length ∧ Re w (.sl sWlk) [.slice a n c] (.l (xs.map Wlk.dat)) := by
  obtain ⟨a9, c9, e9, h9⟩ := own_row (dat := Wlk.dat) (sch := sWlk) (k := 5) rfl (fun w x => own_Wlk_mk w x) (fun _ => rfl) hm h
  obtain ⟨rfl, rfl, rfl⟩ := Value.slice.inj e9
  exact ⟨rfl, h9.re⟩
set_option maxRecDepth 100000 in
set_option maxHeartbeats 4000000 in
theorem iWlkPut_c (xs : List Wlk) (y : Wlk) (a : Option Addr) (n c : Nat) (w : World) (hx : Re w (.sl sWlk) [.slice a n c] (.l (xs.map Wlk.dat))) (hn : n ≤ 1048576) :
    Calls Try.prog 36 #[.slice a n c, .agg #[.int .i64 y.id, .int .i64 y.at_, .int .i64 y.coins, .int .i64 y.seq, .int .i64 y.last]] w (MadeX w 52 5 Wlk.cells (wlkPut xs y)) := by
  have HX := hid hx
  have HL := hid hx.len
  clear hx
  have hol : (wlkOut xs y.id).length ≤ 1048576 := by have := wlkOut_len xs y.id; have := HL.out; omega
  obtain ⟨p, hp⟩ : ∃ p, putAt xs y = p := ⟨_, rfl⟩
  have HP := hid hp
  have hple : p ≤ (wlkOut xs y.id).length := hp ▸ putAt_le xs y
  clear hp
  by_cases hlt : p < (wlkOut xs y.id).length
  · have HQ := hid (show (if pos (idGt y.id) (wlkOut xs y.id) < (wlkOut xs y.id).length then ((pos (idGt y.id) (wlkOut xs y.id) : Nat) : Int) else -1) = (p : Int) by rw [show pos (idGt y.id) (wlkOut xs y.id) = p from HP.out, if_pos hlt])
    go_enter Try.func36, Try.ntmps36
    go_wp2_with (first
      | (go_at_call 40; ((with_reducible refine (iWlkOut_r xs _ _ _ _ _ (HX.out.of zq0) (by omega)).mono ?_); rintro e w' ⟨v, rfl, ⟨t, rfl⟩, hrow⟩; obtain ⟨sa, sn, sc, rfl⟩ := row_slice hrow; obtain ⟨hsn, hre⟩ := row_reW (by omega) hrow; have HG := hid (ownsRow_le (base' := w.heap.size) hrow (by simp)); have HRo := hid hre; have hsm : sn ≤ 1048576 := (by omega); have HSN := hid hsn; clear hrow hre hsn))
      | (go_at_call 70; (with_reducible refine (idxP_c (wlkOut xs y.id) _ _ _ _ y.id (p : Int) _ (HRo.out.of zq0) hsm (by (try simp [go_sem]) <;> (try simp [Xt.add]) <;> omega) (by simp [go_sem]) HQ.out).mono ?_); rintro e w' ⟨rfl, t2, rfl⟩)
      | (go_at_call 73; ((refine (insWlk_c (wlkOut xs y.id) y _ p _ _ w.heap.size _ (ownsRow_of HG.out zq0) (by (try simp [go_sem]) <;> (try simp [Xt.add]) <;> omega) hple (by exact alloc_last (by (try simp [go_sem]) <;> (try simp [Xt.add]) <;> omega)) (fun g hg => Nat.ne_of_gt (Nat.lt_of_lt_of_le (HG.out.lt g hg).2 (by (try simp [go_sem]) <;> (try simp [Xt.add]) <;> omega))) (by omega)).mono ?_); rintro e w' ⟨v2, rfl, hrow2, hch⟩; obtain ⟨t3, rfl⟩ : Ext w w' := Ext.of_below (Below.chg (w0 := w) (Ext.below zq0) hch (fun g hg => (HG.out.lt g (by simpa using hg)).1)); obtain ⟨ra, rn, rc, rfl⟩ := row_slice hrow2; obtain ⟨hrn, hre2⟩ := row_reW (by rw [insAt_len _ _ _ hple]; omega) hrow2; have HR2 := hid hre2; have hrm : rn ≤ 2097152 := (by rw [hrn, insAt_len _ _ _ hple]; omega); have HRN := hid hrn; clear hrow2 hch hre2 hrn))
      | (go_at_call 72; ((with_reducible refine (iCloneWlk_x (insAt (wlkOut xs y.id) p y) _ _ _ _ (HR2.out.of zq0) hrm).mono ?_); rintro e w' ⟨a4, c4, B4, rfl, ⟨t4, rfl⟩, hx4, hb4⟩; have HX4 := hid hx4; have HB4 := hid hb4; clear hx4 hb4)))
    go_ret
    rw [show wlkPut xs y = insAt (wlkOut xs y.id) p y by have h9 := HSN.out; first | (rw [wlkPut, HP.out]; done) | (rw [wlkPut, HP.out]; congr 1; omega)]
    exact ⟨a4, c4, B4, rfl, zq0, HX4.out.of zq0, fun b hb => Nat.le_trans (by (try simp [go_sem]) <;> (try simp [Xt.add]) <;> omega) (HB4.out b hb)⟩
  · have hpe : p = (wlkOut xs y.id).length := by omega
    have HQ := hid (show (if pos (idGt y.id) (wlkOut xs y.id) < (wlkOut xs y.id).length then ((pos (idGt y.id) (wlkOut xs y.id) : Nat) : Int) else -1) = -1 by rw [show pos (idGt y.id) (wlkOut xs y.id) = p from HP.out, if_neg hlt])
    go_enter Try.func36, Try.ntmps36
    go_wp2_with (first
      | (go_at_call 40; ((with_reducible refine (iWlkOut_r xs _ _ _ _ _ (HX.out.of zq0) (by omega)).mono ?_); rintro e w' ⟨v, rfl, ⟨t, rfl⟩, hrow⟩; obtain ⟨sa, sn, sc, rfl⟩ := row_slice hrow; obtain ⟨hsn, hre⟩ := row_reW (by omega) hrow; have HG := hid (ownsRow_le (base' := w.heap.size) hrow (by simp)); have HRo := hid hre; have hsm : sn ≤ 1048576 := (by omega); have HSN := hid hsn; clear hrow hre hsn))
      | (go_at_call 70; (with_reducible refine (idxP_c (wlkOut xs y.id) _ _ _ _ y.id (-1) _ (HRo.out.of zq0) hsm (by (try simp [go_sem]) <;> (try simp [Xt.add]) <;> omega) (by simp [go_sem]) HQ.out).mono ?_); rintro e w' ⟨rfl, t2, rfl⟩)
      | (go_at_call 73; ((refine (insWlk_c (wlkOut xs y.id) y _ sn _ _ w.heap.size _ (ownsRow_of HG.out zq0) (by (try simp [go_sem]) <;> (try simp [Xt.add]) <;> omega) (show sn ≤ (wlkOut xs y.id).length from Nat.le_of_eq HSN.out) (by exact alloc_last (by (try simp [go_sem]) <;> (try simp [Xt.add]) <;> omega)) (fun g hg => Nat.ne_of_gt (Nat.lt_of_lt_of_le (HG.out.lt g hg).2 (by (try simp [go_sem]) <;> (try simp [Xt.add]) <;> omega))) (by omega)).mono ?_); rintro e w' ⟨v2, rfl, hrow2, hch⟩; obtain ⟨t3, rfl⟩ : Ext w w' := Ext.of_below (Below.chg (w0 := w) (Ext.below zq0) hch (fun g hg => (HG.out.lt g (by simpa using hg)).1)); obtain ⟨ra, rn, rc, rfl⟩ := row_slice hrow2; obtain ⟨hrn, hre2⟩ := row_reW (by rw [insAt_len _ _ _ (show sn ≤ (wlkOut xs y.id).length from Nat.le_of_eq HSN.out)]; omega) hrow2; have HR2 := hid hre2; have hrm : rn ≤ 2097152 := (by rw [hrn, insAt_len _ _ _ (show sn ≤ (wlkOut xs y.id).length from Nat.le_of_eq HSN.out)]; omega); have HRN := hid hrn; clear hrow2 hch hre2 hrn))
      | (go_at_call 72; ((with_reducible refine (iCloneWlk_x (insAt (wlkOut xs y.id) sn y) _ _ _ _ (HR2.out.of zq0) hrm).mono ?_); rintro e w' ⟨a4, c4, B4, rfl, ⟨t4, rfl⟩, hx4, hb4⟩; have HX4 := hid hx4; have HB4 := hid hb4; clear hx4 hb4)))
    go_ret
    rw [show wlkPut xs y = insAt (wlkOut xs y.id) sn y by have h9 := HSN.out; first | (rw [wlkPut, HP.out]; done) | (rw [wlkPut, HP.out]; congr 1; omega)]
    exact ⟨a4, c4, B4, rfl, zq0, HX4.out.of zq0, fun b hb => Nat.le_trans (by (try simp [go_sem]) <;> (try simp [Xt.add]) <;> omega) (HB4.out b hb)⟩
/-- What the reference has built behind k elements. -/
def outK (r : List Wlk) (p : Nat) (y : Wlk) (k : Nat) : List Wlk := if p < k then insAt (r.take k) p y else r.take k
theorem outK_len (r : List Wlk) (p : Nat) (y : Wlk) (k : Nat) : (outK r p y k).length ≤ r.length + 1 := by
  unfold outK
  split
  · simp only [insAt, List.length_append, List.length_cons, List.length_take, List.length_drop]; omega
  · rw [List.length_take]; omega
theorem outK_done {r : List Wlk} {p : Nat} {y x : Wlk} {k : Nat} (h : p < k) (hx : r[k]? = some x) : outK r p y (k + 1) = outK r p y k ++ [x] := by
  have hk := (List.getElem?_eq_some_iff.1 hx).1
  unfold outK
  rw [if_pos (by omega), if_pos h, insAt, insAt, List.take_add_one, hx]
  simp only [Option.toList_some]
  rw [List.take_append_of_le_length (by simp; omega), List.drop_append_of_le_length (by simp; omega)]
  simp
theorem outK_at {r : List Wlk} {y x : Wlk} {k : Nat} (hx : r[k]? = some x) : outK r k y (k + 1) = (outK r k y k ++ [y]) ++ [x] := by
  have hk := (List.getElem?_eq_some_iff.1 hx).1
  unfold outK
  rw [if_pos (by omega), if_neg (by omega), insAt, List.take_add_one, hx]
  simp only [Option.toList_some]
  have e : (List.take k r).length = k := by simp; omega
  rw [List.take_append_of_le_length (by omega), List.drop_append_of_le_length (by omega), List.take_of_length_le (by omega), List.drop_of_length_le (by omega)]
  simp
theorem outK_lt {r : List Wlk} {p : Nat} {y x : Wlk} {k : Nat} (h : k < p) (hx : r[k]? = some x) : outK r p y (k + 1) = outK r p y k ++ [x] := by
  unfold outK
  rw [if_neg (by omega), if_neg (by omega), List.take_add_one, hx]; rfl
theorem pos_at {α : Type} {p : α → Bool} : ∀ {xs : List α} {k : Nat} {x : α}, xs[k]? = some x → (k < pos p xs → p x = false) ∧ (k = pos p xs → p x = true)
  | [], _, _, h => by simp at h
  | z :: zs, 0, x, h => by
    obtain rfl : z = x := by simpa using h
    simp only [pos]
    cases hz : p z <;> simp
  | z :: zs, k + 1, x, h => by
    have := pos_at (p := p) (k := k) (xs := zs) (x := x) (by simpa using h)
    simp only [pos]
    cases hz : p z with
    | true => simp
    | false =>
      simp only [Bool.false_eq_true, if_false]
      exact ⟨fun h1 => this.1 (by omega), fun h1 => this.2 (by omega)⟩
set_option maxRecDepth 100000 in
set_option maxHeartbeats 4000000 in
theorem sWlkPut_c (xs : List Wlk) (y : Wlk) (a : Option Addr) (n c : Nat) (w : World) (hx : Re w (.sl sWlk) [.slice a n c] (.l (xs.map Wlk.dat))) (hn : n ≤ 1048576) :
    Calls Try.prog 38 #[.slice a n c, .agg #[.int .i64 y.id, .int .i64 y.at_, .int .i64 y.coins, .int .i64 y.seq, .int .i64 y.last]] w (MadeX w 52 5 Wlk.cells (wlkPut xs y)) := by
  have HX := hid hx
  have HL := hid hx.len
  clear hx
  have hol : (wlkOut xs y.id).length ≤ 1048576 := by have := wlkOut_len xs y.id; have := HL.out; omega
  obtain ⟨p, hp⟩ : ∃ p, putAt xs y = p := ⟨_, rfl⟩
  have HP := hid hp
  have hple : p ≤ (wlkOut xs y.id).length := hp ▸ putAt_le xs y
  clear hp
  go_enter Try.func38, Try.ntmps38
  go_wp2_with (go_at_call 74; (with_reducible refine (sWlkOut_r xs _ _ _ _ _ (HX.out.of zq0) (by omega)).mono ?_); rintro e w' ⟨v, rfl, ⟨t, rfl⟩, hrow⟩; obtain ⟨sa, sn, sc, rfl⟩ := row_slice hrow; obtain ⟨hsn, hre⟩ := row_reW (by omega) hrow; have HRo := hid hre; have hsm : sn ≤ 1048576 := (by omega); have HSN := hid hsn; clear hrow hre hsn)
  refine wp_gen fun B0 hB0 => ?_
  have EB : Ext w B0 := by rw [hB0]; ((try simp only [ext_drew]); (try simp only [ext_ext]); repeat (first | exact Ext.refl _ | with_reducible apply Ext.add | with_reducible apply Ext.dr | apply Ext.alloc | apply Ext.ext | apply Ext.drew | refine Ext.trans ?_ (by assumption)))
  have HRb := hid (show Re B0 (.sl sWlk) [.slice sa sn sc] (.l ((wlkOut xs y.id).map Wlk.dat)) by rw [hB0]; exact HRo.out.of zq0)
  have lM : w.heap.size < B0.heap.size := by rw [hB0]; ((try simp [go_sem]) <;> (try simp [Xt.add]) <;> omega)
  have cM0 : B0.cell? ⟨w.heap.size, 0, none⟩ = some (.int .i64 y.id) := by rw [hB0]; simp [go_sem]
  have cM1 : B0.cell? ⟨w.heap.size, 1, none⟩ = some (.int .i64 y.at_) := by rw [hB0]; simp [go_sem]
  have cM2 : B0.cell? ⟨w.heap.size, 2, none⟩ = some (.int .i64 y.coins) := by rw [hB0]; simp [go_sem]
  have cM3 : B0.cell? ⟨w.heap.size, 3, none⟩ = some (.int .i64 y.seq) := by rw [hB0]; simp [go_sem]
  have cM4 : B0.cell? ⟨w.heap.size, 4, none⟩ = some (.int .i64 y.last) := by rw [hB0]; simp [go_sem]
  have HG0 := hid (show RowX B0 52 5 Wlk.cells (.slice (some ⟨w.heap.size + 1 + t.bs.size, 0, none⟩) 0 0) [] [] from .inl ⟨rfl, rfl, _, rfl, .inr ⟨_, rfl⟩⟩)
  clear hB0 HRo
  go_loopw [6, 7, 8] (fun v d i wr => ∃ (k : Nat) (B : List Nat), k ≤ sn ∧ i = .int .i64 k ∧ d = .bool (decide (p < k)) ∧ RowX wr 52 5 Wlk.cells v (outK (wlkOut xs y.id) p y k) B ∧ (∀ b ∈ B, B0.heap.size ≤ b) ∧ Ext B0 wr) (fun _ _ i _ => sn - (intOf i).toNat)
  case atStart => exact ⟨0, [], Nat.zero_le _, rfl, by simp, HG0.out, by simp, zq0⟩
  case round =>
    obtain ⟨k, B, hk, rfl, rfl, hg, hgb, t2, rfl⟩ := hrel
    have HG := hid hg
    have HGb := hid hgb
    have hol2 := outK_len (wlkOut xs y.id) p y k
    clear hg hgb
    by_cases hlt : k < sn
    · obtain ⟨x, b1, o1, hxk, rfl, hb1, f0, f1, f2, f3, f4⟩ := at_Wlk HRb.out hlt
      have HK := hid hxk
      obtain ⟨g1, g2⟩ := pos_at (p := idGt y.id) hxk
      rw [show pos (idGt y.id) (wlkOut xs y.id) = p from HP.out] at g1 g2
      clear hxk
      rcases Nat.lt_trichotomy p k with hpk | hpk | hpk
      · have hd : decide (p < k) = true := by simp [hpk]
        have HD := hid (show decide (p < k + 1) = true by simp; omega)
        have HE := hid (outK_done (y := y) hpk HK.out)
        clear g1 g2
        go_wp2
        with_reducible refine wp_region_ext (by kernel_rfl) (by kernel_rfl) ?_
        repeat (go_big_quiet_step (fail))
        refine wpQuiet_nil ?_
        rintro _ ⟨tq, rfl⟩
        go_wp2_with (first | ((refine wpList_appXE (cells := Wlk.cells) (k := 5) (bytes := 40) (z := .agg #[.int .i64 0, .int .i64 0, .int .i64 0, .int .i64 0, .int .i64 0]) Try.underlying50 (by kernel_rfl) rfl (by decide) (by decide) (fun _ => rfl) (fun x u hu => by simp only [Wlk.cells, List.mem_cons, List.not_mem_nil, or_false] at hu; rcases hu with rfl | rfl | rfl | rfl | rfl <;> rfl) rfl (B0) _ _ rfl rfl zq0 (xs := outK (wlkOut xs y.id) p y k) (HG.out.of zq0) HGb.out (x) rfl (alloc_last (by (try simp [go_sem]) <;> (try simp [Xt.add]) <;> omega)) (by omega) ?_); intro v' t' B' hg hb; have HG' := hid hg; have HG'b := hid hb; clear hg hb))
        go_roundw
        case rel => exact ⟨k + 1, _, by omega, by go_num, by rw [HD.out], by rw [HE.out]; exact HG'.out, HG'b.out, zq0⟩
        case measure => simp [intOf]; omega
      · subst hpk
        have hd : decide (p < p) = false := by simp
        have HD := hid (show decide (p < p + 1) = true by simp)
        have HE := hid (outK_at (y := y) HK.out)
        have hgt : decide (y.id < x.id) = true := g2 rfl
        have hol3 : (outK (wlkOut xs y.id) p y p ++ [y]).length ≤ 4194304 := by rw [List.length_append]; simp; omega
        clear g1 g2
        go_wp2
        with_reducible refine wp_region_ext (by kernel_rfl) (by kernel_rfl) ?_
        repeat (go_big_quiet_step (fail))
        refine wpQuiet_nil ?_
        rintro _ ⟨tq, rfl⟩
        go_wp2_with (first | ((refine wpList_appXE (cells := Wlk.cells) (k := 5) (bytes := 40) (z := .agg #[.int .i64 0, .int .i64 0, .int .i64 0, .int .i64 0, .int .i64 0]) Try.underlying50 (by kernel_rfl) rfl (by decide) (by decide) (fun _ => rfl) (fun x u hu => by simp only [Wlk.cells, List.mem_cons, List.not_mem_nil, or_false] at hu; rcases hu with rfl | rfl | rfl | rfl | rfl <;> rfl) rfl (B0) _ _ rfl rfl zq0 (xs := outK (wlkOut xs y.id) p y p) (HG.out.of zq0) HGb.out (y) rfl (alloc_last (by (try simp [go_sem]) <;> (try simp [Xt.add]) <;> omega)) (by omega) ?_); intro v' t' B' hg hb; have HG' := hid hg; have HG'b := hid hb; clear hg hb) | ((refine wpList_appXE (cells := Wlk.cells) (k := 5) (bytes := 40) (z := .agg #[.int .i64 0, .int .i64 0, .int .i64 0, .int .i64 0, .int .i64 0]) Try.underlying50 (by kernel_rfl) rfl (by decide) (by decide) (fun _ => rfl) (fun x u hu => by simp only [Wlk.cells, List.mem_cons, List.not_mem_nil, or_false] at hu; rcases hu with rfl | rfl | rfl | rfl | rfl <;> rfl) rfl (B0) _ _ rfl rfl zq0 (xs := outK (wlkOut xs y.id) p y p ++ [y]) (HG'.out.of zq0) HG'b.out (x) rfl (alloc_last (by (try simp [go_sem]) <;> (try simp [Xt.add]) <;> omega)) (by omega) ?_); intro v' t' B' hg hb; have HG'' := hid hg; have HG''b := hid hb; clear hg hb))
        go_roundw
        case rel => exact ⟨p + 1, _, by omega, by go_num, by rw [HD.out], by rw [HE.out]; exact HG''.out, HG''b.out, zq0⟩
        case measure => simp [intOf]; omega
      · have hd : decide (p < k) = false := by simp; omega
        have HD := hid (show decide (p < k + 1) = false by simp; omega)
        have HE := hid (outK_lt (y := y) hpk HK.out)
        have hgt : decide (y.id < x.id) = false := g1 hpk
        clear g1 g2
        go_wp2
        with_reducible refine wp_region_ext (by kernel_rfl) (by kernel_rfl) ?_
        repeat (go_big_quiet_step (fail))
        refine wpQuiet_nil ?_
        rintro _ ⟨tq, rfl⟩
        go_wp2_with (first | ((refine wpList_appXE (cells := Wlk.cells) (k := 5) (bytes := 40) (z := .agg #[.int .i64 0, .int .i64 0, .int .i64 0, .int .i64 0, .int .i64 0]) Try.underlying50 (by kernel_rfl) rfl (by decide) (by decide) (fun _ => rfl) (fun x u hu => by simp only [Wlk.cells, List.mem_cons, List.not_mem_nil, or_false] at hu; rcases hu with rfl | rfl | rfl | rfl | rfl <;> rfl) rfl (B0) _ _ rfl rfl zq0 (xs := outK (wlkOut xs y.id) p y k) (HG.out.of zq0) HGb.out (x) rfl (alloc_last (by (try simp [go_sem]) <;> (try simp [Xt.add]) <;> omega)) (by omega) ?_); intro v' t' B' hg hb; have HG' := hid hg; have HG'b := hid hb; clear hg hb))
        go_roundw
        case rel => exact ⟨k + 1, _, by omega, by go_num, by rw [HD.out], by rw [HE.out]; exact HG'.out, HG'b.out, zq0⟩
        case measure => simp [intOf]; omega
    · have hke : k = sn := by omega
      subst hke
      by_cases hpk : p < k
      · have hd : decide (p < k) = true := by simp [hpk]
        have HE := hid (show outK (wlkOut xs y.id) p y k = wlkPut xs y by rw [outK, if_pos hpk, List.take_of_length_le (Nat.le_of_eq HSN.out.symm), wlkPut, HP.out])
        obtain ⟨a5, c5, rfl⟩ := HG.out.slice
        rw [HE.out] at HG ⊢
        go_wp2
        go_ret
        exact ⟨a5, c5, B, rfl, zq0, HG.out, fun b hb => Nat.le_trans (Nat.le_of_lt lM) (HGb.out b hb)⟩
      · have hd : decide (p < k) = false := by simp; omega
        have HE := hid (show outK (wlkOut xs y.id) p y k ++ [y] = wlkPut xs y by
          rw [outK, if_neg hpk, List.take_of_length_le (Nat.le_of_eq HSN.out.symm), wlkPut, HP.out, show p = (wlkOut xs y.id).length by have := HSN.out; omega, insAt_end])
        go_wp2_with (first | ((refine wpList_appXE (cells := Wlk.cells) (k := 5) (bytes := 40) (z := .agg #[.int .i64 0, .int .i64 0, .int .i64 0, .int .i64 0, .int .i64 0]) Try.underlying50 (by kernel_rfl) rfl (by decide) (by decide) (fun _ => rfl) (fun x u hu => by simp only [Wlk.cells, List.mem_cons, List.not_mem_nil, or_false] at hu; rcases hu with rfl | rfl | rfl | rfl | rfl <;> rfl) rfl (B0) _ _ rfl rfl zq0 (xs := outK (wlkOut xs y.id) p y k) (HG.out.of zq0) HGb.out (y) rfl (alloc_last (by (try simp [go_sem]) <;> (try simp [Xt.add]) <;> omega)) (by omega) ?_); intro v' t' B' hg hb; have HG' := hid hg; have HG'b := hid hb; clear hg hb))
        go_ret
        rw [HE.out] at HG'
        obtain ⟨a5, c5, rfl⟩ := HG'.out.slice
        exact ⟨a5, c5, _, rfl, zq0, HG'.out, fun b hb => Nat.le_trans (Nat.le_of_lt lM) (HG'b.out b hb)⟩
end Go.Proofs.Ytbbpipbemhggdaa

namespace Go.Proofs.Ytbbpipbemhggdaa
open Go.RowKit
theorem app_gate {P : Program} {ops : Array Oper} {rest : List Oper} {Q : Exit → Act → World → Prop} {a : Act} {w : World} {d : Option Nat} {s x : Operand} {T1 T2 ty : TypeId} {ps : String} {af : Array Edge}
    (h : wpList P ops Q ({ dst := d, op := Op.call { callee := Callee.builtin Builtin.append, args := #[s, x], argTypes := #[T1, T2] }, type := ty, pos := ps, after := af, guard := none } :: rest) a w) :
    wpList P ops Q ({ dst := d, op := Op.call { callee := Callee.builtin Builtin.append, args := #[s, x], argTypes := #[T1, T2] }, type := ty, pos := ps, after := af, guard := none } :: rest) a w := h
section
variable {α : Type} {cells : α → List Value} {k bytes : Nat} {z : Value} {TS T : TypeId}
end
end Go.Proofs.Ytbbpipbemhggdaa

namespace Go.Proofs.Ytbbpipbemhggdaa
open Go.RowKit
set_option linter.unusedSimpArgs false
set_option linter.unusedVariables false

section
variable {α : Type} {cells : α → List Value} {k bytes : Nat} {z : Value} {TS T : TypeId}
/-- An element appended to a row: what has changed is told by blocks. -/
theorem wpList_appXK (hT : Try.prog.underlying TS = some (.slice T)) (hI : (Try.prog.info? T).map (fun i => (i.zero, i.size, i.bytes)) = some (some z, k, bytes)) (hz : z.cells.size = k) (hpos : 0 < k) (hby : bytes ≤ 1024)
    (hcl : ∀ x, (cells x).length = k) (hone : ∀ x, ∀ u ∈ cells x, u.oneCell' = true)
    {ops : Array Oper} {rest : List Oper} {o : Oper} {a : Act} {Q : Exit → Act → World → Prop} {w : World} (hgd : o.guard = none) (s x : Operand) (ho : o.op = .call { callee := .builtin .append, args := #[s, x], argTypes := #[TS, TS] })
    {v : Value} {xs : List α} {B : List Nat} (hs : a.eval s = v) (hown : RowX w T k cells v xs B) (y : α) {b c : Nat} {T' : TypeId} (hx : a.eval x = .slice (some ⟨b, 0, none⟩) 1 c) (hy : w.heap[b]? = some (.cells (cells y).toArray T' (0, 0))) (hn : xs.length ≤ 4194304)
    (h : ∀ v' w' B', RowX w' T k cells v' (xs ++ [y]) B' → Chg B w w' → (B' = B ∨ B' = [w.heap.size]) → wpList Try.prog ops Q rest (a.put o.dst v') w') : wpList Try.prog ops Q (o :: rest) a w :=
  wpList_plain hgd fun _ hK => wp_appX hT hI hz hpos hby hcl hone s x ho hs hown y hx hy hn fun v' w' B' h1 h2 h3 => hK _ _ (h v' w' B' h1 h2 h3)
end
/-- A list of walkers in memory of its own, made behind b0. -/
def LstW (b0 : Nat) (w : World) (v : Value) (xs : List Wlk) : Prop := ∃ B, RowX w 52 5 Wlk.cells v xs B ∧ (∀ b ∈ B, b0 ≤ b) ∧ (∀ x ∈ xs, WlkIn x)
theorem LstW.chg {b0 : Nat} {w w' : World} {v : Value} {xs : List Wlk} {B' : List Nat} (h : LstW b0 w v xs) (hc : Chg B' w w') (hB' : ∀ b ∈ B', b < b0) : LstW b0 w' v xs := by
  obtain ⟨B, h2, h3, h4⟩ := h
  exact ⟨B, h2.chg hc (fun b hb hm => by have := h3 b hb; have := hB' b hm; omega), h3, h4⟩
theorem LstW.of {b0 : Nat} {w w' : World} {v : Value} {xs : List Wlk} (h : LstW b0 w v xs) (hE : Ext w w') : LstW b0 w' v xs := h.chg (Chg.of_ext hE []) (by simp)
theorem LstW.le {b0 b1 : Nat} {w : World} {v : Value} {xs : List Wlk} (h : LstW b0 w v xs) (hb : b1 ≤ b0) : LstW b1 w v xs := by
  obtain ⟨B, h2, h3, h4⟩ := h
  exact ⟨B, h2, fun b hm => Nat.le_trans hb (h3 b hm), h4⟩
theorem rowW_re {w : World} {v : Value} {xs : List Wlk} {B : List Nat} (h : RowX w 52 5 Wlk.cells v xs B) : Re w (.sl sWlk) [v] (.l (xs.map Wlk.dat)) := (h.own (k := 5) rfl (fun w x => own_Wlk_mk w x)).re h.lt
theorem wlkPut_mem {xs : List Wlk} {y x : Wlk} (h : x ∈ wlkPut xs y) : x = y ∨ x ∈ xs := by
  unfold wlkPut insAt at h
  rcases List.mem_append.1 h with h | h
  · exact .inr ((List.mem_filter.1 (List.mem_of_mem_take h)).1)
  · rcases List.mem_cons.1 h with h | h
    · exact .inl h
    · exact .inr ((List.mem_filter.1 (List.mem_of_mem_drop h)).1)
def wkArr (arr : Array Value) (k : Nat) (y : Wlk) : Array Value := ((((arr.setIfInBounds (k * 5) (.int .i64 y.id)).setIfInBounds (k * 5 + 1) (.int .i64 y.at_)).setIfInBounds (k * 5 + 2) (.int .i64 y.coins)).setIfInBounds (k * 5 + 3) (.int .i64 y.seq)).setIfInBounds (k * 5 + 4) (.int .i64 y.last)
theorem wkO {arr : Array Value} {i j : Nat} {v : Value} {x : Option Value} (h : i ≠ j) (k : arr[j]? = x) : (arr.setIfInBounds i v)[j]? = x := by
  rw [Array.getElem?_setIfInBounds_ne h]; exact k
theorem wkA {arr : Array Value} {i j : Nat} {v : Value} (e : i = j) (h : i < arr.size) : (arr.setIfInBounds i v)[j]? = some v := by
  subst e; rw [Array.getElem?_setIfInBounds, if_pos rfl, if_pos h]
theorem wkArr_ok {arr : Array Value} {k : Nat} {y : Wlk} (hsz : k * 5 + 5 ≤ arr.size) :
    (wkArr arr k y).size = arr.size ∧ (∀ i, ¬ (k * 5 ≤ i ∧ i < k * 5 + 5) → (wkArr arr k y)[i]? = arr[i]?) ∧ (∀ i v, y.cells[i]? = some v → (wkArr arr k y)[k * 5 + i]? = some v) := by
  unfold wkArr
  refine ⟨by simp, fun i hi => ?_, fun i v hv => ?_⟩
  · repeat (with_reducible refine wkO (by omega) ?_)
    rfl
  · match i, hv with
    | 0, hv =>
      repeat (with_reducible refine wkO (by omega) ?_)
      exact (wkA (by omega) (by (try simp only [Array.size_setIfInBounds]); omega)).trans hv
    | 1, hv =>
      repeat (with_reducible refine wkO (by omega) ?_)
      exact (wkA (by omega) (by (try simp only [Array.size_setIfInBounds]); omega)).trans hv
    | 2, hv =>
      repeat (with_reducible refine wkO (by omega) ?_)
      exact (wkA (by omega) (by (try simp only [Array.size_setIfInBounds]); omega)).trans hv
    | 3, hv =>
      repeat (with_reducible refine wkO (by omega) ?_)
      exact (wkA (by omega) (by (try simp only [Array.size_setIfInBounds]); omega)).trans hv
    | 4, hv =>
      repeat (with_reducible refine wkO (by omega) ?_)
      exact (wkA (by omega) (by (try simp only [Array.size_setIfInBounds]); omega)).trans hv
set_option maxRecDepth 100000 in
set_option maxHeartbeats 4000000 in
theorem l20List_c (lo p Q : Nat) (m : Mp) (n : Int) (w : World) (h : Rdr lo p Q w) (hQ : Q ≤ 80000) (hm : MapIn m) (n1 : 1 ≤ n) (n2 : n ≤ 1000) :
    Calls Try.prog 68 #[.pointer (some ⟨p, 0, none⟩), .agg #[.int .i64 m.c, .int .i64 m.w], .int .i64 n] w fun e w' => ∃ (v : Value) (xs : List Wlk), e = .returned v ∧ LstW w.heap.size w' v xs ∧ xs.length ≤ 6 ∧ Rdr lo p (Q + 106) w' ∧ Chg [p] w w' := by
  have lP := h.lt
  have hlo := h.lo
  have HR := hid h
  have HM := hid hm
  clear h hm
  go_enter Try.func68, Try.ntmps68
  try go_wp2_with (first
      | fail
      | (
        with_reducible refine wp_region_mix (by kernel_rfl) (by decide +kernel) ?_
        repeat (first
          | (refine mix_pure rfl ?_; (first | go_big_quiet_skip | (go_big_quiet_want; go_big_quiet_op; go_big_quiet_on)); refine wpQuiet_nil ?_)
          | (refine mix_skip (by rfl) ?_; (try simp only [Act.put, List.setIfInBounds_toArray, List.set_cons_zero, List.set_cons_succ]))
          | (refine mix_mk rfl (by rfl) (fun K hK => ?_); (first | (go_simp; first | skip)); (show K _ _); refine hK _ _ (show Ext _ _ from zq0) ?_; clear hK K; (try simp only [Act.put, List.setIfInBounds_toArray, List.set_cons_zero, List.set_cons_succ])))
        refine mix_nil ?_)
      | (
        with_reducible refine wp_region_ext (by kernel_rfl) (by kernel_rfl) ?_
        repeat (first | go_big_quiet_skip | (go_big_quiet_want; go_big_quiet_op; first | go_big_quiet_on | (apply Exists.intro; refine ⟨fun _ => ?_, ?_⟩; (fail); (try rw [h1]); (try rw [h2]); (try rw [h3]); (try rw [h4]); (try rw [p1]); (try rw [p2]); (try rw [p3]); (try rw [p4]); (try rw [r1]); (try rw [r2]); (try rw [r3]); (try rw [r4]); (try rw [r5]); (try rw [r6]); (try rw [q3]); (try rw [q4]); (try rw [hp]); (try rw [hq]); go_big_quiet_on)))
        refine wpQuiet_nil ?_
        rintro _ ⟨tq, rfl⟩))
  refine calls_gen fun X hX => ?_
  obtain ⟨M, hMe⟩ : ∃ M, w.heap.size = M := ⟨_, rfl⟩
  have EX : Ext w X := by rw [hX]; ((try simp only [ext_drew]); (try simp only [ext_ext]); repeat (first | exact Ext.refl _ | with_reducible apply Ext.add | with_reducible apply Ext.dr | apply Ext.alloc | apply Ext.ext | apply Ext.drew | refine Ext.trans ?_ (by assumption)))
  have bm : X.heap[M]? = some (.cells #[.int .i64 m.c, .int .i64 m.w] 24 (0, 0)) := by rw [hX, ← hMe]; exact (by repeat (first | exact alloc_last (by (try simp [go_sem]) <;> (try simp [Xt.add]) <;> omega) | with_reducible refine blk_alloc ?_ | with_reducible refine blk_ext ?_ | with_reducible apply blk_drew))
  have lM := lt_blk bm
  obtain ⟨S, hS⟩ : ∃ S, w.heap.size + 1 = S := ⟨_, rfl⟩
  rw [hS, hMe]
  have hMp : M ≠ p := by omega
  have hwM : w.heap.size ≤ M := by omega
  have HRX := hid (HR.out.of EX)
  have HEX := hid EX
  clear hX EX hS hMe HR
  refine (pick_c lo p Q 6 X HRX.out (by omega) (by omega) (by omega)).mono ?_
  rintro e Y ⟨v, rfl, hv0, hv1, hRY, hCY⟩
  obtain ⟨k0, rfl⟩ : ∃ i : Nat, v = (i : Int) := ⟨v.toNat, by omega⟩
  have hk0 : k0 ≤ 5 := by omega
  have bmY := (hCY.block M lM (by simpa using hMp)).trans bm
  have HC0 := hid ((Chg.of_ext HEX.out [p]).trans hCY)
  have HRY := hid hRY
  have HBM := hid bmY
  clear bm lM hRY hCY HRX HEX hv0 hv1 bmY
  try go_wp2_with (first
      | fail
      | (
        with_reducible refine wp_region_mix (by kernel_rfl) (by decide +kernel) ?_
        repeat (first
          | (refine mix_pure rfl ?_; (first | go_big_quiet_skip | (go_big_quiet_want; go_big_quiet_op; go_big_quiet_on)); refine wpQuiet_nil ?_)
          | (refine mix_skip (by rfl) ?_; (try simp only [Act.put, List.setIfInBounds_toArray, List.set_cons_zero, List.set_cons_succ]))
          | (refine mix_mk rfl (by rfl) (fun K hK => ?_); (first | (go_simp; first | skip)); (show K _ _); refine hK _ _ (show Ext _ _ from zq0) ?_; clear hK K; (try simp only [Act.put, List.setIfInBounds_toArray, List.set_cons_zero, List.set_cons_succ])))
        refine mix_nil ?_)
      | (
        with_reducible refine wp_region_ext (by kernel_rfl) (by kernel_rfl) ?_
        repeat (first | go_big_quiet_skip | (go_big_quiet_want; go_big_quiet_op; first | go_big_quiet_on | (apply Exists.intro; refine ⟨fun _ => ?_, ?_⟩; (fail); (try rw [h1]); (try rw [h2]); (try rw [h3]); (try rw [h4]); (try rw [p1]); (try rw [p2]); (try rw [p3]); (try rw [p4]); (try rw [r1]); (try rw [r2]); (try rw [r3]); (try rw [r4]); (try rw [r5]); (try rw [r6]); (try rw [q3]); (try rw [q4]); (try rw [hp]); (try rw [hq]); go_big_quiet_on)))
        refine wpQuiet_nil ?_
        rintro _ ⟨tq, rfl⟩))
  go_loopw [7, 8] (fun v i wr => ∃ (k : Nat) (xs : List Wlk) (a : Option Addr) (c : Nat) (B : List Nat), k ≤ 5 ∧ i = .int .i64 k ∧ v = .slice a xs.length c ∧ xs.length + k ≤ 5 ∧ (∀ x ∈ xs, WlkIn x) ∧ RowX wr 52 5 Wlk.cells (.slice a xs.length c) xs B ∧ (∀ b ∈ B, w.heap.size ≤ b) ∧ Rdr lo p (Q + 1 + 20 * (5 - k)) wr ∧ Chg [p] w wr ∧ wr.heap[M]? = some (.cells #[.int .i64 m.c, .int .i64 m.w] 24 (0, 0))) (fun _ i _ => (intOf i).toNat)
  case atStart => exact ⟨k0, [], _, _, [], hk0, rfl, rfl, by simpa using hk0, by simp, .inl ⟨rfl, rfl, _, rfl, .inr ⟨_, rfl⟩⟩, by simp, (HRY.out.of zq0).up (by omega), HC0.out.trans (Chg.of_ext zq0 [p]), (by repeat (first | with_reducible exact HBM.out | with_reducible apply blk_drew | with_reducible refine blk_set ?_ | (with_reducible refine blk_other ?_ (by first | assumption | omega)) | with_reducible refine blk_ext ?_ | with_reducible refine blk_alloc ?_))⟩
  case round =>
    obtain ⟨k, xs, a, c, B, hk, rfl, rfl, hxk, hin, hrow, hB, hR, hC, bM⟩ := hrel
    have HIN := hid hin
    have HROW := hid hrow
    have HB := hid hB
    have HR := hid hR
    have HC := hid hC
    have cM0 : wr.cell? ⟨M, 0, none⟩ = some (.int .i64 m.c) := (cell_blk bM 0).trans rfl
    have cM1 : wr.cell? ⟨M, 1, none⟩ = some (.int .i64 m.w) := (cell_blk bM 1).trans rfl
    have lM := lt_blk bM
    have HBM := hid bM
    clear hin hrow hB hR hC bM
    by_cases hk1 : 0 < k
    · try go_wp2_with (first
          | fail
          | (
            with_reducible refine wp_region_mix (by kernel_rfl) (by decide +kernel) ?_
            repeat (first
              | (refine mix_pure rfl ?_; (first | go_big_quiet_skip | (go_big_quiet_want; go_big_quiet_op; go_big_quiet_on)); refine wpQuiet_nil ?_)
              | (refine mix_skip (by rfl) ?_; (try simp only [Act.put, List.setIfInBounds_toArray, List.set_cons_zero, List.set_cons_succ]))
              | (refine mix_mk rfl (by rfl) (fun K hK => ?_); (first | (go_simp; first | skip)); (show K _ _); refine hK _ _ (show Ext _ _ from zq0) ?_; clear hK K; (try simp only [Act.put, List.setIfInBounds_toArray, List.set_cons_zero, List.set_cons_succ])))
            refine mix_nil ?_)
          | (
            with_reducible refine wp_region_ext (by kernel_rfl) (by kernel_rfl) ?_
            repeat (first | go_big_quiet_skip | (go_big_quiet_want; go_big_quiet_op; first | go_big_quiet_on | (apply Exists.intro; refine ⟨fun _ => ?_, ?_⟩; (fail); (try rw [h1]); (try rw [h2]); (try rw [h3]); (try rw [h4]); (try rw [p1]); (try rw [p2]); (try rw [p3]); (try rw [p4]); (try rw [r1]); (try rw [r2]); (try rw [r3]); (try rw [r4]); (try rw [r5]); (try rw [r6]); (try rw [q3]); (try rw [q4]); (try rw [hp]); (try rw [hq]); go_big_quiet_on)))
            refine wpQuiet_nil ?_
            rintro _ ⟨tq, rfl⟩))
      refine calls_gen fun X hX => ?_
      have EX : Ext wr X := by rw [hX]; ((try simp only [ext_drew]); (try simp only [ext_ext]); repeat (first | exact Ext.refl _ | with_reducible apply Ext.add | with_reducible apply Ext.dr | apply Ext.alloc | apply Ext.ext | apply Ext.drew | refine Ext.trans ?_ (by assumption)))
      have hrX := hid (HROW.out.of EX)
      have HRX := hid (HR.out.of EX)
      have HCX := hid (HC.out.trans (Chg.of_ext EX [p]))
      have bM := (EX.block lM).trans HBM.out
      clear hX EX cM0 cM1 lM HBM HROW HR HC
      refine (l20Walker_c lo p _ m X HRX.out (by omega) HM.out).mono ?_
      rintro e Y9 ⟨y, rfl, hy, hRY, hCY⟩
      have hrY := hrX.out.chg hCY (fun b hb => by have := HB.out b hb; simp; omega)
      have bMY := (hCY.block M (lt_blk bM) (by simpa using hMp)).trans bM
      have HCY := hid (HCX.out.trans hCY)
      have HRY9 := hid hRY
      have HBM := hid bMY
      have HRE := hid (rowW_re hrY)
      have hws := HCY.out.size
      clear hrX HRX HCX bM hRY hCY hrY bMY
      try go_wp2_with (first
          | (go_at_call 38; (with_reducible refine (sWlkPut_c xs y _ _ _ _ (HRE.out.of zq0) (by omega)).mono ?_); rintro e w' ⟨a2, c2, B2, rfl, ⟨t2, rfl⟩, ho, hb⟩; have HO := hid ho; have HB2 := hid hb; clear ho hb)
          | (
            with_reducible refine wp_region_mix (by kernel_rfl) (by decide +kernel) ?_
            repeat (first
              | (refine mix_pure rfl ?_; (first | go_big_quiet_skip | (go_big_quiet_want; go_big_quiet_op; go_big_quiet_on)); refine wpQuiet_nil ?_)
              | (refine mix_skip (by rfl) ?_; (try simp only [Act.put, List.setIfInBounds_toArray, List.set_cons_zero, List.set_cons_succ]))
              | (refine mix_mk rfl (by rfl) (fun K hK => ?_); (first | (go_simp; first | (go_at_call 38; (with_reducible refine (sWlkPut_c xs y _ _ _ _ (HRE.out.of zq0) (by omega)).mono ?_); rintro e w' ⟨a2, c2, B2, rfl, ⟨t2, rfl⟩, ho, hb⟩; have HO := hid ho; have HB2 := hid hb; clear ho hb) | skip)); (show K _ _); refine hK _ _ (show Ext _ _ from zq0) ?_; clear hK K; (try simp only [Act.put, List.setIfInBounds_toArray, List.set_cons_zero, List.set_cons_succ])))
            refine mix_nil ?_)
          | (
            with_reducible refine wp_region_ext (by kernel_rfl) (by kernel_rfl) ?_
            repeat (first | go_big_quiet_skip | (go_big_quiet_want; go_big_quiet_op; first | go_big_quiet_on | (apply Exists.intro; refine ⟨fun _ => ?_, ?_⟩; (fail); (try rw [h1]); (try rw [h2]); (try rw [h3]); (try rw [h4]); (try rw [p1]); (try rw [p2]); (try rw [p3]); (try rw [p4]); (try rw [r1]); (try rw [r2]); (try rw [r3]); (try rw [r4]); (try rw [r5]); (try rw [r6]); (try rw [q3]); (try rw [q4]); (try rw [hp]); (try rw [hq]); go_big_quiet_on)))
            refine wpQuiet_nil ?_
            rintro _ ⟨tq, rfl⟩))
      go_roundw
      case rel => exact ⟨k - 1, wlkPut xs y, a2, c2, B2, by omega, by go_num, rfl, by have := wlkPut_len xs y; omega, fun x hx => by rcases wlkPut_mem hx with rfl | hx; exact hy; exact HIN.out x hx, HO.out.of zq0, fun b hb => Nat.le_trans hws (HB2.out b hb), (HRY9.out.of zq0).up (by omega), HCY.out.trans (Chg.of_ext zq0 [p]), (by repeat (first | with_reducible exact HBM.out | with_reducible apply blk_drew | with_reducible refine blk_set ?_ | (with_reducible refine blk_other ?_ (by first | assumption | omega)) | with_reducible refine blk_ext ?_ | with_reducible refine blk_alloc ?_))⟩
      case measure => simp [intOf]; omega
    · obtain rfl : k = 0 := by omega
      clear hk1 cM0 cM1 lM HBM
      try go_wp2_with (first
          | fail
          | (
            with_reducible refine wp_region_mix (by kernel_rfl) (by decide +kernel) ?_
            repeat (first
              | (refine mix_pure rfl ?_; (first | go_big_quiet_skip | (go_big_quiet_want; go_big_quiet_op; go_big_quiet_on)); refine wpQuiet_nil ?_)
              | (refine mix_skip (by rfl) ?_; (try simp only [Act.put, List.setIfInBounds_toArray, List.set_cons_zero, List.set_cons_succ]))
              | (refine mix_mk rfl (by rfl) (fun K hK => ?_); (first | (go_simp; first | skip)); (show K _ _); refine hK _ _ (show Ext _ _ from zq0) ?_; clear hK K; (try simp only [Act.put, List.setIfInBounds_toArray, List.set_cons_zero, List.set_cons_succ])))
            refine mix_nil ?_)
          | (
            with_reducible refine wp_region_ext (by kernel_rfl) (by kernel_rfl) ?_
            repeat (first | go_big_quiet_skip | (go_big_quiet_want; go_big_quiet_op; first | go_big_quiet_on | (apply Exists.intro; refine ⟨fun _ => ?_, ?_⟩; (fail); (try rw [h1]); (try rw [h2]); (try rw [h3]); (try rw [h4]); (try rw [p1]); (try rw [p2]); (try rw [p3]); (try rw [p4]); (try rw [r1]); (try rw [r2]); (try rw [r3]); (try rw [r4]); (try rw [r5]); (try rw [r6]); (try rw [q3]); (try rw [q4]); (try rw [hp]); (try rw [hq]); go_big_quiet_on)))
            refine wpQuiet_nil ?_
            rintro _ ⟨tq, rfl⟩))
      refine (pick_c lo p (Q + 101) n wr (HR.out.up (by omega)) (by omega) (by omega) (by omega)).mono ?_
      rintro e Z ⟨v, rfl, hv0, hv1, hRZ, hCZ⟩
      have HRZ := hid hRZ
      have hrZ := HROW.out.chg hCZ (fun b hb => by have := HB.out b hb; simp; omega)
      have HCZ := hid (HC.out.trans hCZ)
      have HROZ := hid hrZ
      clear hRZ hCZ hrZ HROW HR HC
      by_cases hv : v = 0
      · subst hv
        clear hv0 hv1
        by_cases hn0 : 0 < xs.length
        · have hn9 : xs.length ≤ 5 := by omega
          obtain ⟨x1, hx1⟩ : ∃ x, xs.length = x := ⟨_, rfl⟩
          rw [hx1] at hn0 hn9 HROZ ⊢
          have HX1 := hid hx1
          clear hx1 hxk
          try go_wp2_with (first
              | fail
              | (
                with_reducible refine wp_region_mix (by kernel_rfl) (by decide +kernel) ?_
                repeat (first
                  | (refine mix_pure rfl ?_; (first | go_big_quiet_skip | (go_big_quiet_want; go_big_quiet_op; go_big_quiet_on)); refine wpQuiet_nil ?_)
                  | (refine mix_skip (by rfl) ?_; (try simp only [Act.put, List.setIfInBounds_toArray, List.set_cons_zero, List.set_cons_succ]))
                  | (refine mix_mk rfl (by rfl) (fun K hK => ?_); (first | (go_simp; first | skip)); (show K _ _); refine hK _ _ (show Ext _ _ from zq0) ?_; clear hK K; (try simp only [Act.put, List.setIfInBounds_toArray, List.set_cons_zero, List.set_cons_succ])))
                refine mix_nil ?_)
              | (
                with_reducible refine wp_region_ext (by kernel_rfl) (by kernel_rfl) ?_
                repeat (first | go_big_quiet_skip | (go_big_quiet_want; go_big_quiet_op; first | go_big_quiet_on | (apply Exists.intro; refine ⟨fun _ => ?_, ?_⟩; (fail); (try rw [h1]); (try rw [h2]); (try rw [h3]); (try rw [h4]); (try rw [p1]); (try rw [p2]); (try rw [p3]); (try rw [p4]); (try rw [r1]); (try rw [r2]); (try rw [r3]); (try rw [r4]); (try rw [r5]); (try rw [r6]); (try rw [q3]); (try rw [q4]); (try rw [hp]); (try rw [hq]); go_big_quiet_on)))
                refine wpQuiet_nil ?_
                rintro _ ⟨tq, rfl⟩))
          refine (pick_c lo p (Q + 102) x1 Z HRZ.out (by omega) (by omega) (by omega)).mono ?_
          rintro e Z2 ⟨v, rfl, hv0, hv1, hRY, hCY⟩
          obtain ⟨j, rfl⟩ : ∃ i : Nat, v = (i : Int) := ⟨v.toNat, by omega⟩
          have hj : j < x1 := by omega
          have hrY := HROZ.out.chg hCY (fun b hb => by have := HB.out b hb; simp; omega)
          have HRY2 := hid hRY
          have HCY := hid (HCZ.out.trans hCY)
          have HROY := hid hrY
          clear hRY hCY hrY HROZ HCZ HRZ hv0 hv1
          obtain ⟨g, cur, x, hga, hBg, hnn, hnc, hxj, hb, hsz, hcell, hput⟩ := RowX.at (cells := Wlk.cells) (k := 5) (j := j) (by decide) (fun _ => rfl) HROY.out (by have := HX1.out; omega)
          subst hga
          have HPUT := hid hput
          have HSZ := hid hsz
          have HCELL := hid hcell
          have hgw : w.heap.size ≤ g := HB.out g (by rw [hBg]; simp)
          have HBG := hid hBg
          have hgp : g ≠ p := by omega
          have hxin := HIN.out x (List.mem_of_getElem? hxj)
          have cg0 : Z2.cell? ⟨g, j * 5, none⟩ = some (.int .i64 x.id) := (cell_blk hb (j * 5)).trans (hcell 0 _ rfl)
          have cg1 : Z2.cell? ⟨g, j * 5 + 1, none⟩ = some (.int .i64 x.at_) := (cell_blk hb (j * 5 + 1)).trans (hcell 1 _ rfl)
          have cg2 : Z2.cell? ⟨g, j * 5 + 2, none⟩ = some (.int .i64 x.coins) := (cell_blk hb (j * 5 + 2)).trans (hcell 2 _ rfl)
          have cg3 : Z2.cell? ⟨g, j * 5 + 3, none⟩ = some (.int .i64 x.seq) := (cell_blk hb (j * 5 + 3)).trans (hcell 3 _ rfl)
          have cg4 : Z2.cell? ⟨g, j * 5 + 4, none⟩ = some (.int .i64 x.last) := (cell_blk hb (j * 5 + 4)).trans (hcell 4 _ rfl)
          have zcg0 := frozen_blk hb (j * 5)
          have zcg1 := frozen_blk hb (j * 5 + 1)
          have zcg2 := frozen_blk hb (j * 5 + 2)
          have zcg3 := frozen_blk hb (j * 5 + 3)
          have zcg4 := frozen_blk hb (j * 5 + 4)
          have lcg0 := lt_blk hb
          have HXJ := hid hxj
          have HBL := hid hb
          clear hput hsz hcell hBg hnn hb hxj
          try go_wp2_with (first
              | fail
              | (
                with_reducible refine wp_region_mix (by kernel_rfl) (by decide +kernel) ?_
                repeat (first
                  | (refine mix_pure rfl ?_; (first | go_big_quiet_skip | (go_big_quiet_want; go_big_quiet_op; go_big_quiet_on)); refine wpQuiet_nil ?_)
                  | (refine mix_skip (by rfl) ?_; (try simp only [Act.put, List.setIfInBounds_toArray, List.set_cons_zero, List.set_cons_succ]))
                  | (refine mix_mk rfl (by rfl) (fun K hK => ?_); (first | (go_simp; first | skip)); (show K _ _); refine hK _ _ (show Ext _ _ from zq0) ?_; clear hK K; (try simp only [Act.put, List.setIfInBounds_toArray, List.set_cons_zero, List.set_cons_succ])))
                refine mix_nil ?_)
              | (
                with_reducible refine wp_region_ext (by kernel_rfl) (by kernel_rfl) ?_
                repeat (first | go_big_quiet_skip | (go_big_quiet_want; go_big_quiet_op; first | go_big_quiet_on | (apply Exists.intro; refine ⟨fun _ => ?_, ?_⟩; (fail); (try rw [h1]); (try rw [h2]); (try rw [h3]); (try rw [h4]); (try rw [p1]); (try rw [p2]); (try rw [p3]); (try rw [p4]); (try rw [r1]); (try rw [r2]); (try rw [r3]); (try rw [r4]); (try rw [r5]); (try rw [r6]); (try rw [q3]); (try rw [q4]); (try rw [hp]); (try rw [hq]); go_big_quiet_on)))
                refine wpQuiet_nil ?_
                rintro _ ⟨tq, rfl⟩))
          refine (l20BadWalker_c lo p (Q + 103) x Z2 HRY2.out (by omega) hxin).mono ?_
          rintro e V ⟨y, rfl, hy, hRV, hCV⟩
          have hbV := (hCV.block g lcg0 (by simpa using hgp)).trans HBL.out
          have HRV := hid hRV
          have HCV := hid (HCY.out.trans hCV)
          clear cg0 cg1 cg2 cg3 cg4 zcg0 zcg1 zcg2 zcg3 zcg4 lcg0 hRV hCV HRY2 HCY HBL
          have cg0 : V.cell? ⟨g, j * 5, none⟩ = some (.int .i64 x.id) := (cell_blk hbV (j * 5)).trans (HCELL.out 0 _ rfl)
          have cg1 : V.cell? ⟨g, j * 5 + 1, none⟩ = some (.int .i64 x.at_) := (cell_blk hbV (j * 5 + 1)).trans (HCELL.out 1 _ rfl)
          have cg2 : V.cell? ⟨g, j * 5 + 2, none⟩ = some (.int .i64 x.coins) := (cell_blk hbV (j * 5 + 2)).trans (HCELL.out 2 _ rfl)
          have cg3 : V.cell? ⟨g, j * 5 + 3, none⟩ = some (.int .i64 x.seq) := (cell_blk hbV (j * 5 + 3)).trans (HCELL.out 3 _ rfl)
          have cg4 : V.cell? ⟨g, j * 5 + 4, none⟩ = some (.int .i64 x.last) := (cell_blk hbV (j * 5 + 4)).trans (HCELL.out 4 _ rfl)
          have zcg0 := frozen_blk hbV (j * 5)
          have zcg1 := frozen_blk hbV (j * 5 + 1)
          have zcg2 := frozen_blk hbV (j * 5 + 2)
          have zcg3 := frozen_blk hbV (j * 5 + 3)
          have zcg4 := frozen_blk hbV (j * 5 + 4)
          have lcg0 := lt_blk hbV
          have HBL := hid hbV
          have HPUT2 := HPUT
          clear hbV HPUT
          try go_wp2_with (first
              | fail
              | (
                with_reducible refine wp_region_mix (by kernel_rfl) (by decide +kernel) ?_
                repeat (first
                  | (refine mix_pure rfl ?_; (first | go_big_quiet_skip | (go_big_quiet_want; go_big_quiet_op; go_big_quiet_on)); refine wpQuiet_nil ?_)
                  | (refine mix_skip (by rfl) ?_; (try simp only [Act.put, List.setIfInBounds_toArray, List.set_cons_zero, List.set_cons_succ]))
                  | (refine mix_mk rfl (by rfl) (fun K hK => ?_); (first | (go_simp; first | skip)); (show K _ _); refine hK _ _ (show Ext _ _ from zq0) ?_; clear hK K; (try simp only [Act.put, List.setIfInBounds_toArray, List.set_cons_zero, List.set_cons_succ])))
                refine mix_nil ?_)
              | (
                with_reducible refine wp_region_ext (by kernel_rfl) (by kernel_rfl) ?_
                repeat (first | go_big_quiet_skip | (go_big_quiet_want; go_big_quiet_op; first | go_big_quiet_on | (apply Exists.intro; refine ⟨fun _ => ?_, ?_⟩; (fail); (try rw [h1]); (try rw [h2]); (try rw [h3]); (try rw [h4]); (try rw [p1]); (try rw [p2]); (try rw [p3]); (try rw [p4]); (try rw [r1]); (try rw [r2]); (try rw [r3]); (try rw [r4]); (try rw [r5]); (try rw [r6]); (try rw [q3]); (try rw [q4]); (try rw [hp]); (try rw [hq]); go_big_quiet_on)))
                refine wpQuiet_nil ?_
                rintro _ ⟨tq, rfl⟩))
          refine calls_gen fun X hX => ?_
          have hYb : X.heap[g]? = some (.cells (wkArr cur j y) 52 (0, 0)) := by rw [hX]; unfold wkArr; exact (by repeat (first | with_reducible exact HBL.out | with_reducible apply blk_drew | with_reducible refine blk_set ?_ | (with_reducible refine blk_other ?_ (by first | assumption | omega)) | with_reducible refine blk_ext ?_ | with_reducible refine blk_alloc ?_))
          have hch : Chg [g] V X := by rw [hX]; exact zq1
          have hrX := HPUT2.out X (wkArr cur j y) y hYb (wkArr_ok HSZ.out).1 (wkArr_ok HSZ.out).2.1 (wkArr_ok HSZ.out).2.2
          obtain ⟨ys, hys⟩ : ∃ ys, xs.set j y = ys := ⟨_, rfl⟩
          have hyl : ys.length = x1 := by rw [← hys, List.length_set]; exact HX1.out
          have hyin : ∀ z ∈ ys, WlkIn z := fun z hz => by
            rw [← hys] at hz
            rcases List.mem_or_eq_of_mem_set hz with h | rfl
            · exact HIN.out z h
            · exact hy
          rw [hys] at hrX
          have HYI := hid hyin
          have HYL := hid hyl
          have HRX := hid (HRV.out.chg (B := [g]) hch (by simp; omega) (Nat.le_refl _))
          have HCX := hid (Chg.fin (B := [g]) ((HCV.out.mono (B' := [p, g]) (by simp)).trans (hch.mono (by simp))) (by simp; omega))
          have HROX := hid hrX
          clear hX hYb hch hrX hys hyl hyin HPUT2 HRV HCV HBL HSZ HCELL HX1 cg0 cg1 cg2 cg3 cg4 zcg0 zcg1 zcg2 zcg3 zcg4 lcg0 HIN HXJ hxin hy
          refine (pick_c lo p (Q + 105) 2 X HRX.out (by omega) (by omega) (by omega)).mono ?_
          rintro e Z3 ⟨v, rfl, hv0, hv1, hRZ, hCZ⟩
          have hrZ := HROX.out.chg hCZ (fun b hb => by have := HB.out b hb; simp; omega)
          have HRZ3 := hid hRZ
          have HCZ3 := hid (HCX.out.trans hCZ)
          have HROZ := hid hrZ
          clear hRZ hCZ hrZ HROX HCX HRX
          by_cases hv : v = 0
          · subst hv
            clear hv0 hv1
            obtain ⟨g2, cur2, x0, hga, hBg, hnn, hnc, hxj, hb, hsz, hcell, hput⟩ := RowX.at (cells := Wlk.cells) (k := 5) (j := 0) (by decide) (fun _ => rfl) HROZ.out (by have := HYL.out; omega)
            obtain rfl : g = g2 := by simpa using hga
            have hxin := HYI.out x0 (List.mem_of_getElem? hxj)
            have ce0 : Z3.cell? ⟨g, 0, none⟩ = some (.int .i64 x0.id) := (cell_blk hb 0).trans (hcell 0 _ rfl)
            have ce1 : Z3.cell? ⟨g, 1, none⟩ = some (.int .i64 x0.at_) := (cell_blk hb 1).trans (hcell 1 _ rfl)
            have ce2 : Z3.cell? ⟨g, 2, none⟩ = some (.int .i64 x0.coins) := (cell_blk hb 2).trans (hcell 2 _ rfl)
            have ce3 : Z3.cell? ⟨g, 3, none⟩ = some (.int .i64 x0.seq) := (cell_blk hb 3).trans (hcell 3 _ rfl)
            have ce4 : Z3.cell? ⟨g, 4, none⟩ = some (.int .i64 x0.last) := (cell_blk hb 4).trans (hcell 4 _ rfl)
            have le := lt_blk hb
            have HXI := hid hxin
            have HBG2 := hid hBg
            have hyl5 : ys.length ≤ 5 := by have := HYL.out; omega
            clear hga hBg hnn hb hsz hcell hput hxj hxin
            try go_wp2_with (first
                | ((with_reducible refine app_gate ?_); (refine wpList_appXK (cells := Wlk.cells) (k := 5) (bytes := 40) (z := .agg #[.int .i64 0, .int .i64 0, .int .i64 0, .int .i64 0, .int .i64 0]) Try.underlying50 (by kernel_rfl) rfl (by decide) (by decide) (fun _ => rfl) (fun x u hu => by simp only [Wlk.cells, List.mem_cons, List.not_mem_nil, or_false] at hu; rcases hu with rfl | rfl | rfl | rfl | rfl <;> rfl) rfl _ _ rfl rfl (xs := ys) (HROZ.out.of zq0) (x0) rfl (alloc_last (by (try simp [go_sem]) <;> (try simp [Xt.add]) <;> omega)) (by omega) ?_); intro v' w' B' h1 h2 h3; have HROZ' := hid h1; have HROZc := hid h2; have HROZb := hid h3; clear h1 h2 h3)
                | (
                  with_reducible refine wp_region_mix (by kernel_rfl) (by decide +kernel) ?_
                  repeat (first
                    | (refine mix_pure rfl ?_; (first | go_big_quiet_skip | (go_big_quiet_want; go_big_quiet_op; go_big_quiet_on)); refine wpQuiet_nil ?_)
                    | (refine mix_skip (by rfl) ?_; (try simp only [Act.put, List.setIfInBounds_toArray, List.set_cons_zero, List.set_cons_succ]))
                    | (refine mix_mk rfl (by rfl) (fun K hK => ?_); (first | (go_simp; first | ((with_reducible refine app_gate ?_); (refine wpList_appXK (cells := Wlk.cells) (k := 5) (bytes := 40) (z := .agg #[.int .i64 0, .int .i64 0, .int .i64 0, .int .i64 0, .int .i64 0]) Try.underlying50 (by kernel_rfl) rfl (by decide) (by decide) (fun _ => rfl) (fun x u hu => by simp only [Wlk.cells, List.mem_cons, List.not_mem_nil, or_false] at hu; rcases hu with rfl | rfl | rfl | rfl | rfl <;> rfl) rfl _ _ rfl rfl (xs := ys) (HROZ.out.of zq0) (x0) rfl (alloc_last (by (try simp [go_sem]) <;> (try simp [Xt.add]) <;> omega)) (by omega) ?_); intro v' w' B' h1 h2 h3; have HROZ' := hid h1; have HROZc := hid h2; have HROZb := hid h3; clear h1 h2 h3) | skip)); (show K _ _); refine hK _ _ (show Ext _ _ from zq0) ?_; clear hK K; (try simp only [Act.put, List.setIfInBounds_toArray, List.set_cons_zero, List.set_cons_succ])))
                  refine mix_nil ?_)
                | (
                  with_reducible refine wp_region_ext (by kernel_rfl) (by kernel_rfl) ?_
                  repeat (first | go_big_quiet_skip | (go_big_quiet_want; go_big_quiet_op; first | go_big_quiet_on | (apply Exists.intro; refine ⟨fun _ => ?_, ?_⟩; (fail); (try rw [h1]); (try rw [h2]); (try rw [h3]); (try rw [h4]); (try rw [p1]); (try rw [p2]); (try rw [p3]); (try rw [p4]); (try rw [r1]); (try rw [r2]); (try rw [r3]); (try rw [r4]); (try rw [r5]); (try rw [r6]); (try rw [q3]); (try rw [q4]); (try rw [hp]); (try rw [hq]); go_big_quiet_on)))
                  refine wpQuiet_nil ?_
                  rintro _ ⟨tq, rfl⟩))
            go_ret
            have hBg' : ∀ b ∈ B, b = g := fun b hb => by have := HBG2.out; subst this; simpa using hb
            have hZs := HCZ3.out.size
            have hBn : ∀ b ∈ B', w.heap.size ≤ b := fun b hb => by
              rcases HROZb.out with h | h
              · subst h; exact HB.out b hb
              · subst h
                obtain rfl := List.mem_singleton.1 hb
                exact Nat.le_trans hZs (by (try simp [go_sem]) <;> (try simp [Xt.add]) <;> omega)
            have hchB : Chg B Z3 w' := Chg.trans zq1 HROZc.out
            refine ⟨_, ys ++ [x0], rfl, ⟨_, HROZ'.out, hBn, fun z hz => ?_⟩, by have := HYL.out; simp; omega, (HRZ3.out.chg hchB (fun b hb => by have := hBg' b hb; omega) (Nat.le_refl _)).up (by omega), HCZ3.out.up hchB HB.out⟩
            rcases List.mem_append.1 hz with hz | hz
            · exact HYI.out z hz
            · obtain rfl := List.mem_singleton.1 hz
              exact HXI.out
          · have g9 : (v == 0) = false := beq_f hv
            clear hv
            try go_wp2_with (first
                | fail
                | (
                  with_reducible refine wp_region_mix (by kernel_rfl) (by decide +kernel) ?_
                  repeat (first
                    | (refine mix_pure rfl ?_; (first | go_big_quiet_skip | (go_big_quiet_want; go_big_quiet_op; go_big_quiet_on)); refine wpQuiet_nil ?_)
                    | (refine mix_skip (by rfl) ?_; (try simp only [Act.put, List.setIfInBounds_toArray, List.set_cons_zero, List.set_cons_succ]))
                    | (refine mix_mk rfl (by rfl) (fun K hK => ?_); (first | (go_simp; first | skip)); (show K _ _); refine hK _ _ (show Ext _ _ from zq0) ?_; clear hK K; (try simp only [Act.put, List.setIfInBounds_toArray, List.set_cons_zero, List.set_cons_succ])))
                  refine mix_nil ?_)
                | (
                  with_reducible refine wp_region_ext (by kernel_rfl) (by kernel_rfl) ?_
                  repeat (first | go_big_quiet_skip | (go_big_quiet_want; go_big_quiet_op; first | go_big_quiet_on | (apply Exists.intro; refine ⟨fun _ => ?_, ?_⟩; (fail); (try rw [h1]); (try rw [h2]); (try rw [h3]); (try rw [h4]); (try rw [p1]); (try rw [p2]); (try rw [p3]); (try rw [p4]); (try rw [r1]); (try rw [r2]); (try rw [r3]); (try rw [r4]); (try rw [r5]); (try rw [r6]); (try rw [q3]); (try rw [q4]); (try rw [hp]); (try rw [hq]); go_big_quiet_on)))
                  refine wpQuiet_nil ?_
                  rintro _ ⟨tq, rfl⟩))
            go_ret
            refine ⟨_, ys, rfl, ⟨_, HROZ.out.of zq0, HB.out, HYI.out⟩, by have := HYL.out; omega, (HRZ3.out.of zq0).up (by omega), HCZ3.out.trans (Chg.of_ext zq0 [p])⟩
        · try go_wp2_with (first
              | fail
              | (
                with_reducible refine wp_region_mix (by kernel_rfl) (by decide +kernel) ?_
                repeat (first
                  | (refine mix_pure rfl ?_; (first | go_big_quiet_skip | (go_big_quiet_want; go_big_quiet_op; go_big_quiet_on)); refine wpQuiet_nil ?_)
                  | (refine mix_skip (by rfl) ?_; (try simp only [Act.put, List.setIfInBounds_toArray, List.set_cons_zero, List.set_cons_succ]))
                  | (refine mix_mk rfl (by rfl) (fun K hK => ?_); (first | (go_simp; first | skip)); (show K _ _); refine hK _ _ (show Ext _ _ from zq0) ?_; clear hK K; (try simp only [Act.put, List.setIfInBounds_toArray, List.set_cons_zero, List.set_cons_succ])))
                refine mix_nil ?_)
              | (
                with_reducible refine wp_region_ext (by kernel_rfl) (by kernel_rfl) ?_
                repeat (first | go_big_quiet_skip | (go_big_quiet_want; go_big_quiet_op; first | go_big_quiet_on | (apply Exists.intro; refine ⟨fun _ => ?_, ?_⟩; (fail); (try rw [h1]); (try rw [h2]); (try rw [h3]); (try rw [h4]); (try rw [p1]); (try rw [p2]); (try rw [p3]); (try rw [p4]); (try rw [r1]); (try rw [r2]); (try rw [r3]); (try rw [r4]); (try rw [r5]); (try rw [r6]); (try rw [q3]); (try rw [q4]); (try rw [hp]); (try rw [hq]); go_big_quiet_on)))
                refine wpQuiet_nil ?_
                rintro _ ⟨tq, rfl⟩))
          go_ret
          exact ⟨_, xs, rfl, ⟨_, HROZ.out.of zq0, HB.out, HIN.out⟩, by omega, (HRZ.out.of zq0).up (by omega), HCZ.out.trans (Chg.of_ext zq0 [p])⟩
      · have g : (v == 0) = false := beq_f hv
        clear hv
        try go_wp2_with (first
            | fail
            | (
              with_reducible refine wp_region_mix (by kernel_rfl) (by decide +kernel) ?_
              repeat (first
                | (refine mix_pure rfl ?_; (first | go_big_quiet_skip | (go_big_quiet_want; go_big_quiet_op; go_big_quiet_on)); refine wpQuiet_nil ?_)
                | (refine mix_skip (by rfl) ?_; (try simp only [Act.put, List.setIfInBounds_toArray, List.set_cons_zero, List.set_cons_succ]))
                | (refine mix_mk rfl (by rfl) (fun K hK => ?_); (first | (go_simp; first | skip)); (show K _ _); refine hK _ _ (show Ext _ _ from zq0) ?_; clear hK K; (try simp only [Act.put, List.setIfInBounds_toArray, List.set_cons_zero, List.set_cons_succ])))
              refine mix_nil ?_)
            | (
              with_reducible refine wp_region_ext (by kernel_rfl) (by kernel_rfl) ?_
              repeat (first | go_big_quiet_skip | (go_big_quiet_want; go_big_quiet_op; first | go_big_quiet_on | (apply Exists.intro; refine ⟨fun _ => ?_, ?_⟩; (fail); (try rw [h1]); (try rw [h2]); (try rw [h3]); (try rw [h4]); (try rw [p1]); (try rw [p2]); (try rw [p3]); (try rw [p4]); (try rw [r1]); (try rw [r2]); (try rw [r3]); (try rw [r4]); (try rw [r5]); (try rw [r6]); (try rw [q3]); (try rw [q4]); (try rw [hp]); (try rw [hq]); go_big_quiet_on)))
              refine wpQuiet_nil ?_
              rintro _ ⟨tq, rfl⟩))
        go_ret
        exact ⟨_, xs, rfl, ⟨_, HROZ.out.of zq0, HB.out, HIN.out⟩, by omega, (HRZ.out.of zq0).up (by omega), HCZ.out.trans (Chg.of_ext zq0 [p])⟩
end Go.Proofs.Ytbbpipbemhggdaa

namespace Go.Proofs.Ytbbpipbemhggdaa
open Go.RowKit
set_option linter.unusedSimpArgs false
set_option linter.unusedVariables false

def MpB (R : Nat) (w : World) : Prop := ∃ x : Mp, w.heap[R]? = some (.cells #[.int .i64 x.c, .int .i64 x.w] 24 (0, 0))
def MpAt (R : Nat) (w : World) : Prop := ∃ x : Mp, w.heap[R]? = some (.cells #[.int .i64 x.c, .int .i64 x.w] 24 (0, 0)) ∧ MapIn x
theorem MpB.chg {R : Nat} {w w' : World} {B : List Nat} (h : MpB R w) (hc : Chg B w w') (hR : R ∉ B) : MpB R w' := by
  obtain ⟨x, h⟩ := h
  exact ⟨x, (hc.block R (lt_blk h) hR).trans h⟩
theorem MpB.of {R : Nat} {w w' : World} (h : MpB R w) (hE : Ext w w') : MpB R w' := h.chg (Chg.of_ext hE []) (by simp)
theorem MpB.drw {R : Nat} {w : World} (h : MpB R w) : MpB R w.drew := h
theorem MpAt.chg {R : Nat} {w w' : World} {B : List Nat} (h : MpAt R w) (hc : Chg B w w') (hR : R ∉ B) : MpAt R w' := by
  obtain ⟨x, h, hx⟩ := h
  exact ⟨x, (hc.block R (lt_blk h) hR).trans h, hx⟩
/-- A result's block, and a block that holds a map. -/
def MJ (M : Nat) (m : Mp) (R : Nat) (w : World) : Prop := MpB R w ∧ w.heap[M]? = some (.cells #[.int .i64 m.c, .int .i64 m.w] 24 (0, 0))
theorem MJ.chg {M R : Nat} {m : Mp} {w w' : World} {B : List Nat} (h : MJ M m R w) (hc : Chg B w w') (hR : R ∉ B ∧ M ∉ B) : MJ M m R w' := ⟨h.1.chg hc hR.1, (hc.block M (lt_blk h.2) hR.2).trans h.2⟩
theorem MJ.of {M R : Nat} {m : Mp} {w w' : World} (h : MJ M m R w) (hE : Ext w w') : MJ M m R w' := h.chg (Chg.of_ext hE []) (by simp)
theorem MJ.drw {M R : Nat} {m : Mp} {w : World} (h : MJ M m R w) : MJ M m R w.drew := h
theorem mp_store {w : World} {R : Nat} {x0 x : Mp} (h : w.heap[R]? = some (.cells #[.int .i64 x0.c, .int .i64 x0.w] 24 (0, 0))) :
    ((w.setCell ⟨R, 0, none⟩ (.int .i64 x.c)).setCell ⟨R, 1, none⟩ (.int .i64 x.w)).heap[R]? = some (.cells #[.int .i64 x.c, .int .i64 x.w] 24 (0, 0)) := by
  refine Eq.trans (blk_set (blk_set h)) ?_
  simp only [List.setIfInBounds_toArray, List.set_cons_zero, List.set_cons_succ]
/-- What was made and changed lies above the old blocks: the old ones are as they were. -/
theorem Ext.chg2 {w V W : World} {p R : Nat} (hE : Ext w V) (hc : Chg [p, R] V W) (hp : w.heap.size ≤ p) (hR : w.heap.size ≤ R) : Ext w W := Ext.of_below (Below.chg (w0 := w) hE.below hc (by simp; omega))
end Go.Proofs.Ytbbpipbemhggdaa

namespace Go.Proofs.Ytbbpipbemhggdaa
open Go.RowKit
set_option linter.unusedSimpArgs false
set_option linter.unusedVariables false

/-- A result's block for a walker, and a block that holds a map. -/
def WJ (M : Nat) (m : Mp) (R : Nat) (w : World) : Prop := WlkB R w ∧ w.heap[M]? = some (.cells #[.int .i64 m.c, .int .i64 m.w] 24 (0, 0))
theorem WJ.chg {M R : Nat} {m : Mp} {w w' : World} {B : List Nat} (h : WJ M m R w) (hc : Chg B w w') (hR : R ∉ B ∧ M ∉ B) : WJ M m R w' := ⟨h.1.chg hc hR.1, (hc.block M (lt_blk h.2) hR.2).trans h.2⟩
theorem WJ.of {M R : Nat} {m : Mp} {w w' : World} (h : WJ M m R w) (hE : Ext w w') : WJ M m R w' := h.chg (Chg.of_ext hE []) (by simp)
theorem WJ.drw {M R : Nat} {m : Mp} {w : World} (h : WJ M m R w) : WJ M m R w.drew := h
/-- A list that was drawn. -/
def LsC (b0 : Nat) (v : Value) (w : World) : Prop := ∃ u : Value, v = u ∧ ∃ xs, LstW b0 w u xs ∧ xs.length ≤ 6
theorem LsC.chg {b0 : Nat} {v : Value} {w w' : World} {B' : List Nat} (h : LsC b0 v w) (hc : Chg B' w w') (hB' : ∀ b ∈ B', b < b0) : LsC b0 v w' := by
  obtain ⟨u, h1, xs, h2, h3⟩ := h
  exact ⟨u, h1, xs, h2.chg hc hB', h3⟩
set_option maxRecDepth 100000 in
set_option maxHeartbeats 8000000 in
theorem DrawCllNew_c (n c : Nat) (a : Option Addr) (w : World) (hB : Bytes w.heap.size w a n) (hc : n ≤ c) :
    Calls Try.prog 41 #[.slice a n c] w fun e w' => ∃ (m : Mp) (k : Int) (v : Value) (xs : List Wlk), e = .returned (.tuple #[.agg #[.int .i64 m.c, .int .i64 m.w], .int .i64 k, v]) ∧ MapIn m ∧ (-1 ≤ k ∧ k ≤ 4) ∧ LstW w.heap.size w' v xs ∧ xs.length ≤ 6 ∧ Ext w w' := by
  have HB := hid hB
  clear hB
  go_enter Try.func41, Try.ntmps41
  try go_wp2_with (first
      | (go_at_call 54; refine (l20Open_c w.heap.size n c a _ (HB.out.chg (B := []) (Chg.of_ext zq0 []) (by simp) (Nat.le_refl _)) (by (try simp [go_sem]) <;> (try simp [Xt.add]) <;> omega) hc).mono ?_; rintro e w1 ⟨rfl, hR, hE⟩; have HR := hid hR; have HE := hid hE; clear hR hE)
      | (
        with_reducible refine wp_region_mix (by kernel_rfl) (by decide +kernel) ?_
        repeat (first
          | (refine mix_pure rfl ?_; (first | go_big_quiet_skip | (go_big_quiet_want; go_big_quiet_op; go_big_quiet_on)); refine wpQuiet_nil ?_)
          | (refine mix_skip (by rfl) ?_; (try simp only [Act.put, List.setIfInBounds_toArray, List.set_cons_zero, List.set_cons_succ]))
          | (refine mix_mk rfl (by rfl) (fun K hK => ?_); (first | (go_simp; first | (go_at_call 54; refine (l20Open_c w.heap.size n c a _ (HB.out.chg (B := []) (Chg.of_ext zq0 []) (by simp) (Nat.le_refl _)) (by (try simp [go_sem]) <;> (try simp [Xt.add]) <;> omega) hc).mono ?_; rintro e w1 ⟨rfl, hR, hE⟩; have HR := hid hR; have HE := hid hE; clear hR hE) | skip)); (show K _ _); refine hK _ _ (show Ext _ _ from zq0) ?_; clear hK K; (try simp only [Act.put, List.setIfInBounds_toArray, List.set_cons_zero, List.set_cons_succ])))
        refine mix_nil ?_)
      | (
        with_reducible refine wp_region_ext (by kernel_rfl) (by kernel_rfl) ?_
        repeat (first | go_big_quiet_skip | (go_big_quiet_want; go_big_quiet_op; first | go_big_quiet_on | (apply Exists.intro; refine ⟨fun _ => ?_, ?_⟩; (fail); (try rw [h1]); (try rw [h2]); (try rw [h3]); (try rw [h4]); (try rw [p1]); (try rw [p2]); (try rw [p3]); (try rw [p4]); (try rw [r1]); (try rw [r2]); (try rw [r3]); (try rw [r4]); (try rw [r5]); (try rw [r6]); (try rw [q3]); (try rw [q4]); (try rw [hp]); (try rw [hq]); go_big_quiet_on)))
        refine wpQuiet_nil ?_
        rintro _ ⟨tq, rfl⟩))
  obtain ⟨p, hp⟩ : ∃ p, (w.alloc (Obj.cells #[.int .i64 0, .int .i64 0] 24)).heap.size = p := ⟨_, rfl⟩
  have hp1 : p = w.heap.size + 1 := by rw [← hp]; simp
  have hR0 := HR.out
  rw [hp] at hR0
  have bR0 : w1.heap[w.heap.size]? = some (.cells #[.int .i64 0, .int .i64 0] 24 (0, 0)) := (HE.out.block (by simp)).trans (alloc_last (by simp))
  have hpW : p < w1.heap.size := hR0.lt
  have EW1 := hid (show Ext w w1 from ((Ext.refl w).alloc _).trans HE.out)
  rw [← hp1]
  obtain ⟨R, hRe⟩ : ∃ R, w.heap.size = R := ⟨_, rfl⟩
  have HJ := hid (show Rdr w.heap.size p 0 w1 ∧ MpB R w1 from ⟨hR0, ⟨0, 0⟩, hRe ▸ bR0⟩)
  have hRW : R < w1.heap.size := hRe ▸ lt_blk bR0
  have hRp : R ≠ p := by omega
  have hloR : w.heap.size ≤ R := by omega
  have hwp : w.heap.size ≤ p := by omega
  have hwR : w.heap.size ≤ R := by omega
  rw [hRe]
  rw [hRe] at HJ
  clear HR HE hp hp1 hR0 bR0
  have HR0 := hid HJ.out.1
  refine (l20Map_c R p 0 w1 HR0.out (by omega)).mono ?_
  rintro e w2 ⟨m, rfl, hm, hR2, hC2⟩
  have bR2 : MpB R w2 := HJ.out.2.chg hC2 (by simpa using hRp)
  have hE2 : Ext w w2 := EW1.out.chg2 (R := p) (hC2.mono (by simp)) (by omega) (by omega)
  have HR2 := hid hR2
  have HC2 := hid bR2
  have HE2 := hid hE2
  clear hR2 bR2 hE2 HR0 HJ EW1
  try go_wp2_with (first
      | fail
      | (
        with_reducible refine wp_region_mix (by kernel_rfl) (by decide +kernel) ?_
        repeat (first
          | (refine mix_pure rfl ?_; (first | go_big_quiet_skip | (go_big_quiet_want; go_big_quiet_op; go_big_quiet_on)); refine wpQuiet_nil ?_)
          | (refine mix_skip (by rfl) ?_; (try simp only [Act.put, List.setIfInBounds_toArray, List.set_cons_zero, List.set_cons_succ]))
          | (refine mix_mk rfl (by rfl) (fun K hK => ?_); (first | (go_simp; first | skip)); (show K _ _); refine hK _ _ (show Ext _ _ from zq0) ?_; clear hK K; (try simp only [Act.put, List.setIfInBounds_toArray, List.set_cons_zero, List.set_cons_succ])))
        refine mix_nil ?_)
      | (
        with_reducible refine wp_region_ext (by kernel_rfl) (by kernel_rfl) ?_
        repeat (first | go_big_quiet_skip | (go_big_quiet_want; go_big_quiet_op; first | go_big_quiet_on | (apply Exists.intro; refine ⟨fun _ => ?_, ?_⟩; (fail); (try rw [h1]); (try rw [h2]); (try rw [h3]); (try rw [h4]); (try rw [p1]); (try rw [p2]); (try rw [p3]); (try rw [p4]); (try rw [r1]); (try rw [r2]); (try rw [r3]); (try rw [r4]); (try rw [r5]); (try rw [r6]); (try rw [q3]); (try rw [q4]); (try rw [hp]); (try rw [hq]); go_big_quiet_on)))
        refine wpQuiet_nil ?_
        rintro _ ⟨tq, rfl⟩))
  refine wp_gen fun V hV => ?_
  obtain ⟨M, hM⟩ : ∃ M, w2.heap.size = M := ⟨_, rfl⟩
  rw [hM]
  have bM : V.heap[M]? = some (.cells #[.int .i64 m.c, .int .i64 m.w] 24 (0, 0)) := by rw [hV, ← hM]; exact alloc_last rfl
  have EV : Ext w2 V := by rw [hV]; ((try simp only [ext_drew]); (try simp only [ext_ext]); repeat (first | exact Ext.refl _ | with_reducible apply Ext.add | with_reducible apply Ext.dr | apply Ext.alloc | apply Ext.ext | apply Ext.drew | refine Ext.trans ?_ (by assumption)))
  have EW1 := hid (HE2.out.trans EV)
  have HJ := hid (show Rdr R p 4 V ∧ MJ M m R V from ⟨HR2.out.of EV, HC2.out.of EV, bM⟩)
  have lp2 := HR2.out.lt
  have lR2 : R < w2.heap.size := by obtain ⟨_, hb⟩ := HC2.out; exact lt_blk hb
  have lM : M < V.heap.size := lt_blk bM
  have hMR : M ≠ R := by omega
  have hRM : R ≠ M := by omega
  have hMp : M ≠ p := by omega
  have hRW : R < V.heap.size := by omega
  have hpW : p < V.heap.size := by omega
  have HM0 := hid hm
  have hWV := EW1.out.size
  clear hV bM EV HR2 HC2 HE2 hM hm
  refine wp_region_flowD [some 11, some 12, some 13, some 14, some 15, some 16, some 17, none, some 3, some 4] (fun a b => Chg [p, R] a b) (fun i a b => Chg (bif i == 7 then [R] else [p]) a b) (fun k9 w9 => Rdr R p (4 + 106 * k9) w9 ∧ MJ M m R w9) (fun i v9 w9 => match i with
    | 0 => v9 = .agg #[.int .i64 (m.c), .int .i64 (m.w)]
    | 1 => v9 = .pointer (some ⟨p, 0, none⟩)
    | 2 => InI 0 (5) (v9)
    | 3 => InI (-1) (4) (v9)
    | 4 => v9 = .pointer (some ⟨p, 0, none⟩)
    | 5 => v9 = .agg #[.int .i64 (m.c), .int .i64 (m.w)]
    | 6 => LsC V.heap.size (v9) w9
    | 7 => MpAt R w9
    | 8 => InI (-1) (4) (v9)
    | _ => LsC V.heap.size (v9) w9) (by kernel_rfl) (by decide +kernel) (by simp) (fun a => Chg.refl _ a) (fun a b c h k => Chg.trans h k) ?_ (Chg.drew (Chg.refl _ _)) ?_ ?_ ?_ ?_
  · intro i a b hi hG
    refine hG.mono ?_
    cases (i == 7) <;> simp
  · exact ⟨HJ.out.1.of zq0, HJ.out.2.drw⟩
  · intro i j hi hj hij v9 w9 w8 hg hS hG
    have hG2 : Chg [p, R] w9 w8 := hG.mono (by cases (i == 7) <;> simp)
    have hj9 : j < 10 := hj
    clear hi hj
    match j, hj9 with
    | 0, _ => exact hS
    | 1, _ => exact hS
    | 2, _ => exact hS
    | 3, _ => exact hS
    | 4, _ => exact hS
    | 5, _ => exact hS
    | 6, _ => exact LsC.chg hS hG2 (by simp; omega)
    | 7, _ =>
      have h9 : (i == 7) = false := by simpa using hij
      rw [h9, cond_false] at hG
      exact hS.chg hG (by simpa using hRp)
    | 8, _ => exact hS
    | 9, _ => exact LsC.chg hS hG2 (by simp; omega)
    | n + 10, h9 => exact absurd h9 (by omega)
  · intro i oo ho σ k9 w9 hG hk9 hJ hd
    have HG := hid hG
    have HJ9 := hid hJ
    have lp9 : p < w9.heap.size := Nat.lt_of_lt_of_le hpW hG.size
    have lR9 : R < w9.heap.size := Nat.lt_of_lt_of_le hRW hG.size
    have hW9 := hG.size
    have hkN : k9 < 10 := hk9
    have hi9 : i < 10 := (List.getElem?_eq_some_iff.1 ho).1
    clear hG hJ hk9
    match i, hi9, ho with
    | 0, _, ho =>
      have cM0 := (cell_blk HJ9.out.2.2 0).trans (show _ = some (Value.int .i64 m.c) from rfl)
      have zM0 := frozen_blk HJ9.out.2.2 0
      have cM1 := (cell_blk HJ9.out.2.2 1).trans (show _ = some (Value.int .i64 m.w) from rfl)
      have zM1 := frozen_blk HJ9.out.2.2 1
      have lM9 := lt_blk HJ9.out.2.2
      obtain rfl := Option.some.inj ho
      clear hd ho
      simp only [actO, putO, List.setIfInBounds_toArray, List.set_cons_zero, List.set_cons_succ, Nat.reduceAdd]
      refine flow_K (fun K hK => ?_)
      go_simp
      (show K _ _)
      refine hK _ _ ⟨_, rfl, by simp, Chg.of_ext (show Ext _ _ from zq0) _, ⟨(HJ9.out.1.of (show Ext _ _ from zq0)).up (by omega), HJ9.out.2.of (show Ext _ _ from zq0)⟩, rfl⟩
    | 1, _, ho =>
      obtain rfl := Option.some.inj ho
      clear hd ho
      simp only [actO, putO, List.setIfInBounds_toArray, List.set_cons_zero, List.set_cons_succ, Nat.reduceAdd]
      refine flow_K (fun K hK => ?_)
      go_simp
      (show K _ _)
      refine hK _ _ ⟨_, rfl, by simp, Chg.of_ext (show Ext _ _ from zq0) _, ⟨(HJ9.out.1.of (show Ext _ _ from zq0)).up (by omega), HJ9.out.2.of (show Ext _ _ from zq0)⟩, rfl⟩
    | 2, _, ho =>
      have e1 : σ 1 = .pointer (some ⟨p, 0, none⟩) := hd 1 (by obtain rfl := Option.some.inj ho; kernel_rfl)
      obtain rfl := Option.some.inj ho
      clear hd ho
      simp only [actO, putO, List.setIfInBounds_toArray, List.set_cons_zero, List.set_cons_succ, Nat.reduceAdd, e1]
      refine flow_K (fun K hK => ?_)
      have HRd := hid HJ9.out.1
      go_simp
      refine (pick_c R p _ (6) w9 HRd.out (by omega) (by omega) (by omega)).mono ?_
      rintro e w8 ⟨vv, rfl, hv0, hv1, hR8, hC8⟩
      (show K _ _)
      refine hK _ _ ⟨_, rfl, by simp, hC8, ⟨hR8.up (by omega), HJ9.out.2.chg hC8 (by simp; omega)⟩, ⟨vv, rfl, hv0, by omega⟩⟩
    | 3, _, ho =>
      obtain ⟨x2, e2, y2, z2⟩ : InI 0 (5) (σ 2) := hd 2 (by obtain rfl := Option.some.inj ho; kernel_rfl)
      have hwr : IntKind.i64.wrap (x2 - 1) = x2 - 1 := by simp [IntKind.wrap, IntKind.bits, IntKind.signed]; omega
      obtain rfl := Option.some.inj ho
      clear hd ho
      simp only [actO, putO, List.setIfInBounds_toArray, List.set_cons_zero, List.set_cons_succ, Nat.reduceAdd, e2]
      refine flow_K (fun K hK => ?_)
      go_simp
      (try rw [hwr])
      (show K _ _)
      refine hK _ _ ⟨_, rfl, by simp, Chg.of_ext (show Ext _ _ from zq0) _, ⟨(HJ9.out.1.of (show Ext _ _ from zq0)).up (by omega), HJ9.out.2.of (show Ext _ _ from zq0)⟩, ⟨_, rfl, by omega, by omega⟩⟩
    | 4, _, ho =>
      obtain rfl := Option.some.inj ho
      clear hd ho
      simp only [actO, putO, List.setIfInBounds_toArray, List.set_cons_zero, List.set_cons_succ, Nat.reduceAdd]
      refine flow_K (fun K hK => ?_)
      go_simp
      (show K _ _)
      refine hK _ _ ⟨_, rfl, by simp, Chg.of_ext (show Ext _ _ from zq0) _, ⟨(HJ9.out.1.of (show Ext _ _ from zq0)).up (by omega), HJ9.out.2.of (show Ext _ _ from zq0)⟩, rfl⟩
    | 5, _, ho =>
      have cM0 := (cell_blk HJ9.out.2.2 0).trans (show _ = some (Value.int .i64 m.c) from rfl)
      have zM0 := frozen_blk HJ9.out.2.2 0
      have cM1 := (cell_blk HJ9.out.2.2 1).trans (show _ = some (Value.int .i64 m.w) from rfl)
      have zM1 := frozen_blk HJ9.out.2.2 1
      have lM9 := lt_blk HJ9.out.2.2
      obtain rfl := Option.some.inj ho
      clear hd ho
      simp only [actO, putO, List.setIfInBounds_toArray, List.set_cons_zero, List.set_cons_succ, Nat.reduceAdd]
      refine flow_K (fun K hK => ?_)
      go_simp
      (show K _ _)
      refine hK _ _ ⟨_, rfl, by simp, Chg.of_ext (show Ext _ _ from zq0) _, ⟨(HJ9.out.1.of (show Ext _ _ from zq0)).up (by omega), HJ9.out.2.of (show Ext _ _ from zq0)⟩, rfl⟩
    | 6, _, ho =>
      have e4 : σ 4 = .pointer (some ⟨p, 0, none⟩) := hd 4 (by obtain rfl := Option.some.inj ho; kernel_rfl)
      have e5 : σ 5 = .agg #[.int .i64 (m.c), .int .i64 (m.w)] := hd 5 (by obtain rfl := Option.some.inj ho; kernel_rfl)
      obtain rfl := Option.some.inj ho
      clear hd ho
      simp only [actO, putO, List.setIfInBounds_toArray, List.set_cons_zero, List.set_cons_succ, Nat.reduceAdd, e4, e5]
      refine flow_K (fun K hK => ?_)
      have HRd := hid HJ9.out.1
      go_simp
      refine (l20List_c R p _ m 8 w9 HRd.out (by omega) HM0.out (by omega) (by omega)).mono ?_
      rintro e w8 ⟨vv, xs, rfl, hls, hln, hR8, hC8⟩
      (show K _ _)
      refine hK _ _ ⟨_, rfl, by simp, hC8, ⟨hR8.up (by omega), HJ9.out.2.chg hC8 (by simp; omega)⟩, ⟨vv, rfl, xs, hls.le hW9, hln⟩⟩
    | 7, _, ho =>
      have e0 : σ 0 = .agg #[.int .i64 (m.c), .int .i64 (m.w)] := hd 0 (by obtain rfl := Option.some.inj ho; kernel_rfl)
      obtain ⟨x0, hb0⟩ := HJ9.out.2.1
      obtain rfl := Option.some.inj ho
      clear hd ho
      simp only [actO, putO, List.setIfInBounds_toArray, List.set_cons_zero, List.set_cons_succ, Nat.reduceAdd, e0]
      refine flow_K (fun K hK => ?_)
      have cR0 := (cell_blk hb0 0).trans (show _ = some (Value.int .i64 x0.c) from rfl)
      have zR0 := frozen_blk hb0 0
      have cR1 := (cell_blk hb0 1).trans (show _ = some (Value.int .i64 x0.w) from rfl)
      have zR1 := frozen_blk hb0 1
      have HB0 := hid hb0
      clear hb0
      go_simp
      (show K _ _)
      refine hK _ _ ⟨undef, rfl, fun _ => rfl, zq1, ⟨(HJ9.out.1.chg (B := [R]) zq1 (by simp; omega) (Nat.le_refl _)).up (by omega), ⟨⟨m, mp_store (x := m) HB0.out⟩, blk_other (blk_other HJ9.out.2.2 hMR) hMR⟩⟩, ⟨m, mp_store (x := m) HB0.out, HM0.out⟩⟩
    | 8, _, ho =>
      obtain ⟨x3, e3, y3, z3⟩ : InI (-1) (4) (σ 3) := hd 3 (by obtain rfl := Option.some.inj ho; kernel_rfl)
      obtain rfl := Option.some.inj ho
      clear hd ho
      simp only [actO, putO, List.setIfInBounds_toArray, List.set_cons_zero, List.set_cons_succ, Nat.reduceAdd, e3]
      refine flow_K (fun K hK => ?_)
      go_simp
      (show K _ _)
      refine hK _ _ ⟨_, rfl, by simp, Chg.of_ext (show Ext _ _ from zq0) _, ⟨(HJ9.out.1.of (show Ext _ _ from zq0)).up (by omega), HJ9.out.2.of (show Ext _ _ from zq0)⟩, ⟨_, rfl, by omega, by omega⟩⟩
    | 9, _, ho =>
      obtain ⟨x6, e6, h6⟩ : LsC V.heap.size (σ 6) _ := hd 6 (by obtain rfl := Option.some.inj ho; kernel_rfl)
      obtain rfl := Option.some.inj ho
      clear hd ho
      simp only [actO, putO, List.setIfInBounds_toArray, List.set_cons_zero, List.set_cons_succ, Nat.reduceAdd, e6]
      refine flow_K (fun K hK => ?_)
      go_simp
      (show K _ _)
      refine hK _ _ ⟨_, rfl, by simp, Chg.of_ext (show Ext _ _ from zq0) _, ⟨(HJ9.out.1.of (show Ext _ _ from zq0)).up (by omega), HJ9.out.2.of (show Ext _ _ from zq0)⟩, ⟨x6, rfl, h6⟩⟩
  · intro σ w9 hG hJ hd
    have e0 : σ 0 = .agg #[.int .i64 (m.c), .int .i64 (m.w)] := hd 0 (by decide)
    have e1 : σ 1 = .pointer (some ⟨p, 0, none⟩) := hd 1 (by decide)
    obtain ⟨x2, e2, y2, z2⟩ : InI 0 (5) (σ 2) := hd 2 (by decide)
    obtain ⟨x3, e3, y3, z3⟩ : InI (-1) (4) (σ 3) := hd 3 (by decide)
    have e4 : σ 4 = .pointer (some ⟨p, 0, none⟩) := hd 4 (by decide)
    have e5 : σ 5 = .agg #[.int .i64 (m.c), .int .i64 (m.w)] := hd 5 (by decide)
    obtain ⟨x6, e6, h6⟩ : LsC V.heap.size (σ 6) _ := hd 6 (by decide)
    have hs7 : MpAt R _ := hd 7 (by decide)
    obtain ⟨x8, e8, y8, z8⟩ : InI (-1) (4) (σ 8) := hd 8 (by decide)
    obtain ⟨x9, e9, h9⟩ : LsC V.heap.size (σ 9) _ := hd 9 (by decide)
    have HG := hid hG
    have HJ9 := hid hJ
    clear hd hG hJ
    simp only [actO, putO, List.setIfInBounds_toArray, List.set_cons_zero, List.set_cons_succ, Nat.reduceAdd, e0, e1, e2, e3, e4, e5, e6, e8, e9]
    clear e0 e1 e2 e3 e4 e5 e6 e8 e9
    obtain ⟨x, hb, hx⟩ := hs7
    obtain ⟨xs, hls, hln⟩ := h9
    have c0 := (cell_blk hb 0).trans (show _ = some (Value.int .i64 x.c) from rfl)
    have c1 := (cell_blk hb 1).trans (show _ = some (Value.int .i64 x.w) from rfl)
    have lR := lt_blk hb
    have HLS := hid hls
    clear hb hls
    go_wp2_with (fail)
    refine bodyPost_ret (v := .tuple #[.agg #[.int .i64 x.c, .int .i64 x.w], .int .i64 x8, x9]) (by simp [results, Try.results41, go_sem, c0, c1, lR]) rfl ?_
    exact ⟨x, x8, x9, xs, rfl, hx, by omega, HLS.out.le (by omega), hln, EW1.out.chg2 HG.out (by omega) (by omega)⟩
end Go.Proofs.Ytbbpipbemhggdaa

namespace Go.Proofs.Ytbbpipbemhggdaa
open Go.RowKit
set_option linter.unusedSimpArgs false
set_option linter.unusedVariables false

theorem maOk_c (w : World) : Calls Try.prog 15 #[] w fun e w' => e = .returned (.bool true) ∧ Ext w w' := by
  have h := hid (show plcOk ⟨2, 2⟩ = true by decide)
  go_enter Try.func15, Try.ntmps15
  try go_wp2_with (first
      | (go_at_call 13; refine (iPlcOk_c ⟨2, 2⟩ _).mono ?_; rintro e w' ⟨rfl, t, rfl⟩)
      | (
        with_reducible refine wp_region_mix (by kernel_rfl) (by decide +kernel) ?_
        repeat (first
          | (refine mix_pure rfl ?_; (first | go_big_quiet_skip | (go_big_quiet_want; go_big_quiet_op; go_big_quiet_on)); refine wpQuiet_nil ?_)
          | (refine mix_skip (by rfl) ?_; (try simp only [Act.put, List.setIfInBounds_toArray, List.set_cons_zero, List.set_cons_succ]))
          | (refine mix_mk rfl (by rfl) (fun K hK => ?_); (first | (go_simp; first | (go_at_call 13; refine (iPlcOk_c ⟨2, 2⟩ _).mono ?_; rintro e w' ⟨rfl, t, rfl⟩) | skip)); (show K _ _); refine hK _ _ (show Ext _ _ from zq0) ?_; clear hK K; (try simp only [Act.put, List.setIfInBounds_toArray, List.set_cons_zero, List.set_cons_succ])))
        refine mix_nil ?_)
      | (
        with_reducible refine wp_region_ext (by kernel_rfl) (by kernel_rfl) ?_
        repeat (first | go_big_quiet_skip | (go_big_quiet_want; go_big_quiet_op; first | go_big_quiet_on | (apply Exists.intro; refine ⟨fun _ => ?_, ?_⟩; (fail); (try rw [h1]); (try rw [h2]); (try rw [h3]); (try rw [h4]); (try rw [p1]); (try rw [p2]); (try rw [p3]); (try rw [p4]); (try rw [r1]); (try rw [r2]); (try rw [r3]); (try rw [r4]); (try rw [r5]); (try rw [r6]); (try rw [q3]); (try rw [q4]); (try rw [hp]); (try rw [hq]); go_big_quiet_on)))
        refine wpQuiet_nil ?_
        rintro _ ⟨tq, rfl⟩))
  go_ret
  exact ⟨ret_bool h.out, zq0⟩
end Go.Proofs.Ytbbpipbemhggdaa

namespace Go.Proofs.Ytbbpipbemhggdaa
open Go.RowKit
set_option linter.unusedSimpArgs false
set_option linter.unusedVariables false

set_option maxRecDepth 100000 in
set_option maxHeartbeats 2000000 in
theorem maList_c (xs : List Wlk) (a1 a2 : Option Addr) (n1 n2 c1 c2 : Nat) (w : World) (h1 : Re w (.sl sWlk) [.slice a1 n1 c1] (.l (xs.map Wlk.dat))) (h2 : Re w (.sl sWlk) [.slice a2 n2 c2] (.l (xs.map Wlk.dat))) (hn : n1 ≤ 2097152) :
    Calls Try.prog 37 #[.slice a1 n1 c1, .slice a2 n2 c2] w fun e w' => e = .returned (.bool true) ∧ Ext w w' := by
  obtain rfl : n1 = n2 := by rw [h1.len, h2.len]
  have H1 := hid h1
  have H2 := hid h2
  clear h1 h2
  go_enter Try.func37, Try.ntmps37
  go_wp2
  go_loopw [5] (fun i wr => ∃ k : Nat, k ≤ n1 ∧ i = .int .i64 k ∧ Ext w wr) (fun i _ => n1 - (intOf i).toNat)
  case atStart => exact ⟨0, Nat.zero_le _, rfl, Ext.refl _⟩
  case round =>
    obtain ⟨k, hk, rfl, t, rfl⟩ := hrel
    by_cases hlt : k < n1
    · obtain ⟨x, b1, o1, hx, rfl, hb1, f0, f1, f2, f3, f4⟩ := at_Wlk H1.out hlt
      obtain ⟨y, b2, o2, hy, rfl, hb2, g0, g1, g2, g3, g4⟩ := at_Wlk H2.out hlt
      have e : x = y := Option.some.inj (hx.symm.trans hy)
      subst e
      clear hx hy
      go_wp2
      with_reducible refine wp_region_ext (by kernel_rfl) (by kernel_rfl) ?_
      repeat (go_big_quiet_step (fail))
      refine wpQuiet_nil ?_
      rintro _ ⟨tq, rfl⟩
      go_wp2
      go_roundw
      case rel => exact ⟨k + 1, by omega, by go_num, zq0⟩
      case measure => simp [intOf]; omega
    · go_wp2
      go_ret
      exact ⟨rfl, zq0⟩
set_option maxRecDepth 100000 in
set_option maxHeartbeats 2000000 in
theorem maParcels_c (xs : List Pcl) (a1 a2 : Option Addr) (n1 n2 c1 c2 : Nat) (w : World) (h1 : Re w (.sl sPcl) [.slice a1 n1 c1] (.l (xs.map Pcl.dat))) (h2 : Re w (.sl sPcl) [.slice a2 n2 c2] (.l (xs.map Pcl.dat))) (hn : n1 ≤ 2097152) :
    Calls Try.prog 33 #[.slice a1 n1 c1, .slice a2 n2 c2] w fun e w' => e = .returned (.bool true) ∧ Ext w w' := by
  obtain rfl : n1 = n2 := by rw [h1.len, h2.len]
  have H1 := hid h1
  have H2 := hid h2
  clear h1 h2
  go_enter Try.func33, Try.ntmps33
  go_wp2
  go_loopw [5] (fun i wr => ∃ k : Nat, k ≤ n1 ∧ i = .int .i64 k ∧ Ext w wr) (fun i _ => n1 - (intOf i).toNat)
  case atStart => exact ⟨0, Nat.zero_le _, rfl, Ext.refl _⟩
  case round =>
    obtain ⟨k, hk, rfl, t, rfl⟩ := hrel
    by_cases hlt : k < n1
    · obtain ⟨x, b1, o1, hx, rfl, hb1, f0, f1, f2, f3, f4, f5, f6, f7⟩ := at_Pcl H1.out hlt
      obtain ⟨y, b2, o2, hy, rfl, hb2, g0, g1, g2, g3, g4, g5, g6, g7⟩ := at_Pcl H2.out hlt
      have e : x = y := Option.some.inj (hx.symm.trans hy)
      subst e
      clear hx hy
      go_wp2
      with_reducible refine wp_region_ext (by kernel_rfl) (by kernel_rfl) ?_
      repeat (go_big_quiet_step (fail))
      refine wpQuiet_nil ?_
      rintro _ ⟨tq, rfl⟩
      go_wp2
      go_roundw
      case rel => exact ⟨k + 1, by omega, by go_num, zq0⟩
      case measure => simp [intOf]; omega
    · go_wp2
      go_ret
      exact ⟨rfl, zq0⟩
set_option maxRecDepth 100000 in
set_option maxHeartbeats 2000000 in
theorem maInts_c (xs : List Int) (a1 a2 : Option Addr) (n1 n2 c1 c2 : Nat) (w : World) (h1 : Re w (.sl .int) [.slice a1 n1 c1] (.l (xs.map Dat.i))) (h2 : Re w (.sl .int) [.slice a2 n2 c2] (.l (xs.map Dat.i))) (hn : n1 ≤ 2097152) :
    Calls Try.prog 24 #[.slice a1 n1 c1, .slice a2 n2 c2] w fun e w' => e = .returned (.bool true) ∧ Ext w w' := by
  obtain rfl : n1 = n2 := by rw [h1.len, h2.len]
  have H1 := hid h1
  have H2 := hid h2
  clear h1 h2
  go_enter Try.func24, Try.ntmps24
  go_wp2
  go_loopw [5] (fun i wr => ∃ k : Nat, k ≤ n1 ∧ i = .int .i64 k ∧ Ext w wr) (fun i _ => n1 - (intOf i).toNat)
  case atStart => exact ⟨0, Nat.zero_le _, rfl, Ext.refl _⟩
  case round =>
    obtain ⟨k, hk, rfl, t, rfl⟩ := hrel
    by_cases hlt : k < n1
    · obtain ⟨x, b1, o1, hx, rfl, hb1, f0⟩ := at_Int H1.out hlt
      obtain ⟨y, b2, o2, hy, rfl, hb2, g0⟩ := at_Int H2.out hlt
      have e : x = y := Option.some.inj (hx.symm.trans hy)
      subst e
      clear hx hy
      go_wp2
      with_reducible refine wp_region_ext (by kernel_rfl) (by kernel_rfl) ?_
      repeat (go_big_quiet_step (fail))
      refine wpQuiet_nil ?_
      rintro _ ⟨tq, rfl⟩
      go_wp2
      go_roundw
      case rel => exact ⟨k + 1, by omega, by go_num, zq0⟩
      case measure => simp [intOf]; omega
    · go_wp2
      go_ret
      exact ⟨rfl, zq0⟩
end Go.Proofs.Ytbbpipbemhggdaa

namespace Go.Proofs.Ytbbpipbemhggdaa
open Go.RowKit
set_option linter.unusedSimpArgs false
set_option linter.unusedVariables false

def ldat {α : Type} (dat : α → Dat) (xs : List α) : Dat := .l (xs.map dat)
section
variable {α : Type} {dat : α → Dat} {sch : Sch}
theorem at_SS {w : World} {a : Option Addr} {n c : Nat} {xss : List (List α)} (h : Re w (.sl (.sl sch)) [.slice a n c] (.l (xss.map (ldat dat)))) {k : Nat} (hk : k < n) :
    ∃ xs b o a' c', xss[k]? = some xs ∧ a = some (⟨b, o, none⟩ : Addr) ∧ b < w.heap.size ∧ w.cell? ⟨b, o + k, none⟩ = some (.slice a' xs.length c') ∧ Re w (.sl sch) [.slice a' xs.length c'] (.l (xs.map dat)) := by
  unfold Re Rd at h
  obtain ⟨a', n', c', ds, h1, h2, h3, h4, h5⟩ := h
  simp only [List.cons.injEq, Value.slice.injEq, and_true] at h1
  obtain ⟨rfl, rfl, rfl⟩ := h1
  simp only [Dat.l.injEq] at h2
  subst h2
  have hk' : k < xss.length := by rw [List.length_map] at h3; omega
  obtain ⟨b, o, es, ha, hb, hc, hr⟩ := h5 k (ldat dat xss[k]) (by simp [hk'])
  have hr' : Re w (.sl sch) es (.l (xss[k].map dat)) := hr
  obtain ⟨a2, c2, rfl⟩ := hr'.slice
  rw [List.length_map] at hc hr'
  refine ⟨xss[k], b, o, a2, c2, by simp [hk'], ha, hb, ?_, hr'⟩
  have := hc 0 _ rfl
  simpa [Sch.size] using this
theorem SS.len {w : World} {a : Option Addr} {n c : Nat} {xss : List (List α)} (h : Re w (.sl (.sl sch)) [.slice a n c] (.l (xss.map (ldat dat)))) : n = xss.length := h.len

/-- The first k elements are in place, and one owns what they lead to. -/
def Fill2 (lo : Nat) (w : World) (e : Sch) (arr : Array Value) (ds : List Dat) (k : Nat) : Prop :=
  ∃ Bs : List (List Nat), Bs.length = k ∧ Bs.flatten.Nodup ∧ (∀ b ∈ Bs.flatten, lo ≤ b ∧ b < w.heap.size) ∧ ∀ i x, i < k → ds[i]? = some x → ∃ es Bi, Bs[i]? = some Bi ∧ es.length = e.size ∧ (∀ j v, es[j]? = some v → arr[i * e.size + j]? = some v) ∧ Own w e es x Bi
theorem Fill2.zero (lo : Nat) (w : World) (e : Sch) (arr : Array Value) (ds : List Dat) : Fill2 lo w e arr ds 0 :=
  ⟨[], rfl, by simp, by simp, fun i x hi => absurd hi (Nat.not_lt_zero _)⟩
theorem Fill2.step {w : World} {e : Sch} {arr : Array Value} {T : TypeId} {t s : Xt} {ds : List Dat} {k : Nat} {vs : List Value} {x : Dat} (h : Fill2 (w.heap.size + 1) (ext (w.alloc (.cells arr T)) t) e arr ds k) (hx : ds[k]? = some x)
    (ho : OwnR (ext (w.alloc (.cells arr T)) t).heap.size (ext (ext (w.alloc (.cells arr T)) t) s).heap.size (ext (ext (w.alloc (.cells arr T)) t) s) e vs x) (hv : vs.length = e.size) (hk : k * e.size + e.size ≤ arr.size) :
    Fill2 (w.heap.size + 1) (ext (w.alloc (.cells (putRow arr (k * e.size) vs) T)) (t.add s)) e (putRow arr (k * e.size) vs) ds (k + 1) := by
  obtain ⟨Bs, hl, hn, hr, hi⟩ := h
  obtain ⟨_, B, hBn, hBr, hBo⟩ := ho
  have hsz : ∀ (o : Obj) (t : Xt), (ext (w.alloc o) t).heap.size = w.heap.size + 1 + t.bs.size := fun o t => by simp [ext_size]
  have hadd : (t.add s).bs.size = t.bs.size + s.bs.size := by simp [Xt.add]
  have hal : ∀ o : Obj, (w.alloc o).heap.size = w.heap.size + 1 := fun o => by simp
  have hsame : ∀ b, w.heap.size + 1 ≤ b → (ext (w.alloc (.cells (putRow arr (k * e.size) vs) T)) (t.add s)).heap[b]? = (ext (ext (w.alloc (.cells arr T)) t) s).heap[b]? := fun b hb => by
    rw [ext_ext, ext_heap, ext_heap, Array.getElem?_append, Array.getElem?_append]
    simp only [hal]
    rw [if_neg (by omega), if_neg (by omega)]
  refine ⟨Bs ++ [B], by simp [hl], ?_, ?_, ?_⟩
  · rw [List.flatten_append, List.flatten_singleton]
    refine List.nodup_append.2 ⟨hn, hBn, fun p hp q hq e => ?_⟩
    have h1 := hr p hp; have h2 := hBr q hq
    omega
  · intro b hb
    rw [List.flatten_append, List.flatten_singleton] at hb
    rw [hsz, hadd]
    rcases List.mem_append.1 hb with hb | hb
    · have := hr b hb; rw [hsz] at this; omega
    · have := hBr b hb; rw [ext_ext, hsz, hsz, hadd] at this; omega
  · intro i y hik hy
    rcases Nat.lt_or_ge i k with hlt | hge
    · obtain ⟨es, Bi, h1, h0, h2, h3⟩ := hi i y hlt hy
      refine ⟨es, Bi, by rw [List.getElem?_append_left (by omega)]; exact h1, h0, fun j u hu => ?_, Own.same _ _ _ _ (fun b hb => ?_) h3⟩
      · have hj : j < es.length := (List.getElem?_eq_some_iff.1 hu).1
        have : (i + 1) * e.size ≤ k * e.size := Nat.mul_le_mul_right _ hlt
        rw [Nat.add_mul, Nat.one_mul] at this
        rw [putRow_get _ _ _ _ (by omega), if_neg (by omega)]
        exact h2 j u hu
      · have hb2 := hr b (mem_flatten_of h1 hb)
        rw [hsame b hb2.1, ext_block _ _ _ hb2.2]
    · obtain rfl : i = k := by omega
      rw [hx] at hy
      obtain rfl := Option.some.inj hy
      refine ⟨vs, B, by rw [List.getElem?_append_right (by omega), hl, Nat.sub_self]; rfl, hv, fun j u hu => ?_, Own.same _ _ _ _ (fun b hb => hsame b ?_) hBo⟩
      · have hj : j < vs.length := (List.getElem?_eq_some_iff.1 hu).1
        rw [putRow_get _ _ _ _ (by omega), if_pos (by omega), Nat.add_sub_cancel_left]
        exact hu
      · have := hBr b hb; rw [hsz] at this; omega
end

end Go.Proofs.Ytbbpipbemhggdaa

namespace Go.Proofs.Ytbbpipbemhggdaa
open Go.RowKit
set_option linter.unusedSimpArgs false
set_option linter.unusedVariables false

structure Cll where
  cell : Int
  wk : List Wlk
  ground : Int
  outs : List (List Pcl)
  next : List Int
  ins : List Int
/-- Where a cell's slices lie. -/
structure CllH where
  a1 : Option Addr
  c1 : Nat
  a3 : Option Addr
  c3 : Nat
  a4 : Option Addr
  c4 : Nat
  a5 : Option Addr
  c5 : Nat
def sCll : Sch := .st [.int, .sl sWlk, .int, .sl (.sl sPcl), .sl .int, .sl .int]
def cllDat (c : Cll) : Dat := .s [.i c.cell, .l (c.wk.map Wlk.dat), .i c.ground, .l (c.outs.map (ldat Pcl.dat)), .l (c.next.map Dat.i), .l (c.ins.map Dat.i)]
def cllCells (c : Cll) (h : CllH) : List Value := [.int .i64 c.cell, .slice h.a1 c.wk.length h.c1, .int .i64 c.ground, .slice h.a3 c.outs.length h.c3, .slice h.a4 c.next.length h.c4, .slice h.a5 c.ins.length h.c5]
structure ReC (w : World) (c : Cll) (h : CllH) : Prop where
  r1 : Re w (.sl sWlk) [.slice h.a1 c.wk.length h.c1] (.l (c.wk.map Wlk.dat))
  r3 : Re w (.sl (.sl sPcl)) [.slice h.a3 c.outs.length h.c3] (.l (c.outs.map (ldat Pcl.dat)))
  r4 : Re w (.sl .int) [.slice h.a4 c.next.length h.c4] (.l (c.next.map Dat.i))
  r5 : Re w (.sl .int) [.slice h.a5 c.ins.length h.c5] (.l (c.ins.map Dat.i))
theorem ReC.of {w w' : World} {c : Cll} {h : CllH} (r : ReC w c h) (hE : Ext w w') : ReC w' c h := ⟨r.r1.of hE, r.r3.of hE, r.r4.of hE, r.r5.of hE⟩
structure BdC (c : Cll) : Prop where
  b1 : c.wk.length ≤ 1048576
  b3 : c.outs.length ≤ 1048576
  bo : ∀ xs ∈ c.outs, xs.length ≤ 1048576
  b4 : c.next.length ≤ 1048576
  b5 : c.ins.length ≤ 1048576
theorem OwnRL.int {lo hi : Nat} {w : World} {n : Int} {vs : List Value} {fs : List Sch} {ds : List Dat} (k : OwnRL lo hi w fs vs ds) : OwnRL lo hi w (.int :: fs) (.int .i64 n :: vs) (.i n :: ds) :=
  OwnRL.one (s := .int) (v1 := [.int .i64 n]) (d := .i n) (by unfold Own; exact ⟨⟨_, rfl, rfl⟩, rfl⟩) k
theorem re_slm {α : Type} {hi : Nat} {w : World} {e : Sch} {vs : List Value} {f : α → Dat} {xs : List α} (h : Rd hi w (.sl e) vs (.l (xs.map f))) : ∃ a c, vs = [.slice a xs.length c] ∧ Rd hi w (.sl e) [.slice a xs.length c] (.l (xs.map f)) := by
  have h0 := h
  unfold Rd at h
  obtain ⟨a, n, c, ds', h1, h2, h3, h4, h5⟩ := h
  simp only [Dat.l.injEq] at h2
  subst h2
  rw [List.length_map] at h3
  subst h3
  exact ⟨a, c, h1, by rw [h1] at h0; exact h0⟩
theorem rdL_cons {hi : Nat} {w : World} {f : Sch} {fs : List Sch} {vs : List Value} {ds : List Dat} (h : RdL hi w (f :: fs) vs ds) : ∃ v1 v2 d1 d2, vs = v1 ++ v2 ∧ ds = d1 :: d2 ∧ Rd hi w f v1 d1 ∧ RdL hi w fs v2 d2 := by
  unfold RdL at h; exact h
theorem rdL_nil {hi : Nat} {w : World} {vs : List Value} {ds : List Dat} (h : RdL hi w [] vs ds) : vs = [] ∧ ds = [] := by unfold RdL at h; exact h
theorem rd_st {hi : Nat} {w : World} {fs : List Sch} {vs : List Value} {d : Dat} (h : Rd hi w (.st fs) vs d) : ∃ ds, d = .s ds ∧ RdL hi w fs vs ds := by unfold Rd at h; exact h
theorem rd_Cll {w : World} {vs : List Value} {c : Cll} (h : Re w sCll vs (cllDat c)) : ∃ h, vs = cllCells c h ∧ ReC w c h := by
  obtain ⟨ds, hd, k0⟩ := rd_st h
  clear h
  unfold cllDat at hd
  simp only [Dat.s.injEq] at hd
  subst hd
  obtain ⟨v1, v2, d1, d2, rfl, e, g0, k1⟩ := rdL_cons k0
  simp only [List.cons.injEq] at e; obtain ⟨rfl, rfl⟩ := e
  obtain ⟨x, rfl, e⟩ := rd_int g0
  simp only [Dat.i.injEq] at e; subst e
  obtain ⟨v1, v2, d1, d2, rfl, e, g1, k2⟩ := rdL_cons k1
  simp only [List.cons.injEq] at e; obtain ⟨rfl, rfl⟩ := e
  obtain ⟨a1, c1, rfl, g1⟩ := re_slm g1
  obtain ⟨v1, v2, d1, d2, rfl, e, g0, k3⟩ := rdL_cons k2
  simp only [List.cons.injEq] at e; obtain ⟨rfl, rfl⟩ := e
  obtain ⟨x, rfl, e⟩ := rd_int g0
  simp only [Dat.i.injEq] at e; subst e
  obtain ⟨v1, v2, d1, d2, rfl, e, g3, k4⟩ := rdL_cons k3
  simp only [List.cons.injEq] at e; obtain ⟨rfl, rfl⟩ := e
  obtain ⟨a3, c3, rfl, g3⟩ := re_slm g3
  obtain ⟨v1, v2, d1, d2, rfl, e, g4, k5⟩ := rdL_cons k4
  simp only [List.cons.injEq] at e; obtain ⟨rfl, rfl⟩ := e
  obtain ⟨a4, c4, rfl, g4⟩ := re_slm g4
  obtain ⟨v1, v2, d1, d2, rfl, e, g5, k6⟩ := rdL_cons k5
  simp only [List.cons.injEq] at e; obtain ⟨rfl, rfl⟩ := e
  obtain ⟨a5, c5, rfl, g5⟩ := re_slm g5
  obtain ⟨rfl, _⟩ := rdL_nil k6
  exact ⟨⟨a1, c1, a3, c3, a4, c4, a5, c5⟩, rfl, g1, g3, g4, g5⟩
def MadeC (w : World) (c : Cll) (e : Ending) (w' : World) : Prop :=
  ∃ h : CllH, e = .returned (.agg #[.int .i64 c.cell, .slice h.a1 c.wk.length h.c1, .int .i64 c.ground, .slice h.a3 c.outs.length h.c3, .slice h.a4 c.next.length h.c4, .slice h.a5 c.ins.length h.c5]) ∧ Ext w w' ∧ OwnR w.heap.size w'.heap.size w' sCll (cllCells c h) (cllDat c)
theorem OwnR.cll {lo hi : Nat} {w : World} {c : Cll} {h : CllH} (o : OwnR lo hi w sCll (cllCells c h) (cllDat c)) : ReC w c h := by
  obtain ⟨h', e, r⟩ := rd_Cll o.re
  unfold cllCells at e
  simp only [List.cons.injEq, Value.slice.injEq, true_and, and_true] at e
  obtain ⟨⟨e1, e2⟩, ⟨e3, e4⟩, ⟨e5, e6⟩, e7, e8⟩ := e
  obtain ⟨a1, c1, a3, c3, a4, c4, a5, c5⟩ := h
  obtain ⟨b1, d1, b3, d3, b4, d4, b5, d5⟩ := h'
  simp only at e1 e2 e3 e4 e5 e6 e7 e8
  subst e1 e2 e3 e4 e5 e6 e7 e8
  exact r

end Go.Proofs.Ytbbpipbemhggdaa

namespace Go.Proofs.Ytbbpipbemhggdaa
open Go.RowKit
set_option linter.unusedSimpArgs false
set_option linter.unusedVariables false

set_option maxRecDepth 100000 in
set_option maxHeartbeats 4000000 in
theorem maCell_c (c : Cll) (h h' : CllH) (w : World) (hx : ReC w c h) (hx' : ReC w c h') (hb : BdC c) :
    Calls Try.prog 43 #[.agg #[.int .i64 c.cell, .slice h.a1 c.wk.length h.c1, .int .i64 c.ground, .slice h.a3 c.outs.length h.c3, .slice h.a4 c.next.length h.c4, .slice h.a5 c.ins.length h.c5], .agg #[.int .i64 c.cell, .slice h'.a1 c.wk.length h'.c1, .int .i64 c.ground, .slice h'.a3 c.outs.length h'.c3, .slice h'.a4 c.next.length h'.c4, .slice h'.a5 c.ins.length h'.c5]] w fun e w' => e = .returned (.bool true) ∧ Ext w w' := by
  have H1 := hid hx.r1
  have H3 := hid hx.r3
  have H4 := hid hx.r4
  have H5 := hid hx.r5
  have H1' := hid hx'.r1
  have H3' := hid hx'.r3
  have H4' := hid hx'.r4
  have H5' := hid hx'.r5
  have B1 := hb.b1
  have B3 := hb.b3
  have BO := hid hb.bo
  have B4 := hb.b4
  have B5 := hb.b5
  clear hx hx' hb
  obtain ⟨a1, c1, a3, c3, a4, c4, a5, c5⟩ := h
  obtain ⟨a1', c1', a3', c3', a4', c4', a5', c5'⟩ := h'
  dsimp only at H1 H3 H4 H5 H1' H3' H4' H5' ⊢
  obtain ⟨n3, hn3⟩ : ∃ n, c.outs.length = n := ⟨_, rfl⟩
  rw [hn3] at H3 H3' B3 ⊢
  go_enter Try.func43, Try.ntmps43
  try go_wp2_with (first
      | (go_at_call 37; refine (maList_c _ _ _ _ _ _ _ _ (Re.of (Hid.out (by assumption)) zq0) (Re.of (Hid.out (by assumption)) zq0) (by omega)).mono ?_; rintro e w' ⟨rfl, t, rfl⟩) | (go_at_call 24; refine (maInts_c _ _ _ _ _ _ _ _ (Re.of (Hid.out (by assumption)) zq0) (Re.of (Hid.out (by assumption)) zq0) (by omega)).mono ?_; rintro e w' ⟨rfl, t, rfl⟩)
      | (
        with_reducible refine wp_region_mix (by kernel_rfl) (by decide +kernel) ?_
        repeat (first
          | (refine mix_pure rfl ?_; (first | go_big_quiet_skip | (go_big_quiet_want; go_big_quiet_op; go_big_quiet_on)); refine wpQuiet_nil ?_)
          | (refine mix_skip (by rfl) ?_; (try simp only [Act.put, List.setIfInBounds_toArray, List.set_cons_zero, List.set_cons_succ]))
          | (refine mix_mk rfl (by rfl) (fun K hK => ?_); (first | (go_simp; first | (go_at_call 37; refine (maList_c _ _ _ _ _ _ _ _ (Re.of (Hid.out (by assumption)) zq0) (Re.of (Hid.out (by assumption)) zq0) (by omega)).mono ?_; rintro e w' ⟨rfl, t, rfl⟩) | (go_at_call 24; refine (maInts_c _ _ _ _ _ _ _ _ (Re.of (Hid.out (by assumption)) zq0) (Re.of (Hid.out (by assumption)) zq0) (by omega)).mono ?_; rintro e w' ⟨rfl, t, rfl⟩) | skip)); (show K _ _); refine hK _ _ (show Ext _ _ from zq0) ?_; clear hK K; (try simp only [Act.put, List.setIfInBounds_toArray, List.set_cons_zero, List.set_cons_succ])))
        refine mix_nil ?_)
      | (
        with_reducible refine wp_region_ext (by kernel_rfl) (by kernel_rfl) ?_
        repeat (first | go_big_quiet_skip | (go_big_quiet_want; go_big_quiet_op; first | go_big_quiet_on | (apply Exists.intro; refine ⟨fun _ => ?_, ?_⟩; ((first | (go_at_call 37; first | exact quiet_call (maList_c _ _ _ _ _ _ _ _ (Re.of (Hid.out (by assumption)) zq0) (Re.of (Hid.out (by assumption)) zq0) (by omega)) | exact quiet_call2 (maList_c _ _ _ _ _ _ _ _ (Re.of (Hid.out (by assumption)) zq0) (Re.of (Hid.out (by assumption)) zq0) (by omega))) | (go_at_call 24; first | exact quiet_call (maInts_c _ _ _ _ _ _ _ _ (Re.of (Hid.out (by assumption)) zq0) (Re.of (Hid.out (by assumption)) zq0) (by omega)) | exact quiet_call2 (maInts_c _ _ _ _ _ _ _ _ (Re.of (Hid.out (by assumption)) zq0) (Re.of (Hid.out (by assumption)) zq0) (by omega))))); (try rw [h1]); (try rw [h2]); (try rw [h3]); (try rw [h4]); (try rw [p1]); (try rw [p2]); (try rw [p3]); (try rw [p4]); (try rw [r1]); (try rw [r2]); (try rw [r3]); (try rw [r4]); (try rw [r5]); (try rw [r6]); (try rw [q3]); (try rw [q4]); (try rw [hp]); (try rw [hq]); go_big_quiet_on)))
        refine wpQuiet_nil ?_
        rintro _ ⟨tq, rfl⟩))
  refine wp_gen fun V hV => ?_
  have EV : Ext w V := by rw [hV]; ((try simp only [ext_drew]); (try simp only [ext_ext]); repeat (first | exact Ext.refl _ | with_reducible apply Ext.add | with_reducible apply Ext.dr | apply Ext.alloc | apply Ext.ext | apply Ext.drew | refine Ext.trans ?_ (by assumption)))
  obtain ⟨A, hA⟩ : ∃ A, w.heap.size = A := ⟨_, rfl⟩
  obtain ⟨D, hD⟩ : ∃ D, w.heap.size + 1 = D := ⟨_, rfl⟩
  have cA : V.cell? ⟨A, 3, none⟩ = some (.slice a3 n3 c3) := by rw [hV, ← hA]; simp [go_sem]
  have cD : V.cell? ⟨D, 3, none⟩ = some (.slice a3' n3 c3') := by rw [hV, ← hD]; simp [go_sem]
  have lA : A < V.heap.size := by rw [hV, ← hA]; ((try simp [go_sem]) <;> (try simp [Xt.add]) <;> omega)
  have lD : D < V.heap.size := by rw [hV, ← hD]; ((try simp [go_sem]) <;> (try simp [Xt.add]) <;> omega)
  rw [hD, hA]
  have HO := hid (H3.out.of EV)
  have HO' := hid (H3'.out.of EV)
  clear hV hA hD H1 H3 H4 H5 H1' H3' H4' H5'
  go_loopw [5] (fun i wr => ∃ k : Nat, k ≤ n3 ∧ i = .int .i64 k ∧ Ext V wr) (fun i _ => n3 - (intOf i).toNat)
  case atStart => exact ⟨0, Nat.zero_le _, rfl, zq0⟩
  case round =>
    obtain ⟨k, hk, rfl, t, rfl⟩ := hrel
    by_cases hlt : k < n3
    · obtain ⟨xs, b1, o1, a1', c1', hx, rfl, hb1, f0, hr1⟩ := at_SS HO.out hlt
      obtain ⟨ys, b2, o2, a2', c2', hy, rfl, hb2, g0, hr2⟩ := at_SS HO'.out hlt
      have e : xs = ys := Option.some.inj (hx.symm.trans hy)
      subst e
      have hxb : xs.length ≤ 1048576 := BO.out xs (List.mem_of_getElem? hx)
      have HR1 := hid hr1
      have HR2 := hid hr2
      clear hx hy hr1 hr2
      try go_wp2_with (first
          | (go_at_call 33; refine (maParcels_c _ _ _ _ _ _ _ _ (Re.of (Hid.out (by assumption)) zq0) (Re.of (Hid.out (by assumption)) zq0) (by omega)).mono ?_; rintro e w' ⟨rfl, t, rfl⟩)
          | (
            with_reducible refine wp_region_mix (by kernel_rfl) (by decide +kernel) ?_
            repeat (first
              | (refine mix_pure rfl ?_; (first | go_big_quiet_skip | (go_big_quiet_want; go_big_quiet_op; go_big_quiet_on)); refine wpQuiet_nil ?_)
              | (refine mix_skip (by rfl) ?_; (try simp only [Act.put, List.setIfInBounds_toArray, List.set_cons_zero, List.set_cons_succ]))
              | (refine mix_mk rfl (by rfl) (fun K hK => ?_); (first | (go_simp; first | (go_at_call 33; refine (maParcels_c _ _ _ _ _ _ _ _ (Re.of (Hid.out (by assumption)) zq0) (Re.of (Hid.out (by assumption)) zq0) (by omega)).mono ?_; rintro e w' ⟨rfl, t, rfl⟩) | skip)); (show K _ _); refine hK _ _ (show Ext _ _ from zq0) ?_; clear hK K; (try simp only [Act.put, List.setIfInBounds_toArray, List.set_cons_zero, List.set_cons_succ])))
            refine mix_nil ?_)
          | (
            with_reducible refine wp_region_ext (by kernel_rfl) (by kernel_rfl) ?_
            repeat (first | go_big_quiet_skip | (go_big_quiet_want; go_big_quiet_op; first | go_big_quiet_on | (apply Exists.intro; refine ⟨fun _ => ?_, ?_⟩; ((first | (go_at_call 33; first | exact quiet_call (maParcels_c _ _ _ _ _ _ _ _ (Re.of (Hid.out (by assumption)) zq0) (Re.of (Hid.out (by assumption)) zq0) (by omega)) | exact quiet_call2 (maParcels_c _ _ _ _ _ _ _ _ (Re.of (Hid.out (by assumption)) zq0) (Re.of (Hid.out (by assumption)) zq0) (by omega))))); (try rw [h1]); (try rw [h2]); (try rw [h3]); (try rw [h4]); (try rw [p1]); (try rw [p2]); (try rw [p3]); (try rw [p4]); (try rw [r1]); (try rw [r2]); (try rw [r3]); (try rw [r4]); (try rw [r5]); (try rw [r6]); (try rw [q3]); (try rw [q4]); (try rw [hp]); (try rw [hq]); go_big_quiet_on)))
            refine wpQuiet_nil ?_
            rintro _ ⟨tq, rfl⟩))
      go_roundw
      case rel => exact ⟨k + 1, by omega, by go_num, zq0⟩
      case measure => simp [intOf]; omega
    · try go_wp2_with (first
          | fail
          | (
            with_reducible refine wp_region_mix (by kernel_rfl) (by decide +kernel) ?_
            repeat (first
              | (refine mix_pure rfl ?_; (first | go_big_quiet_skip | (go_big_quiet_want; go_big_quiet_op; go_big_quiet_on)); refine wpQuiet_nil ?_)
              | (refine mix_skip (by rfl) ?_; (try simp only [Act.put, List.setIfInBounds_toArray, List.set_cons_zero, List.set_cons_succ]))
              | (refine mix_mk rfl (by rfl) (fun K hK => ?_); (first | (go_simp; first | skip)); (show K _ _); refine hK _ _ (show Ext _ _ from zq0) ?_; clear hK K; (try simp only [Act.put, List.setIfInBounds_toArray, List.set_cons_zero, List.set_cons_succ])))
            refine mix_nil ?_)
          | (
            with_reducible refine wp_region_ext (by kernel_rfl) (by kernel_rfl) ?_
            repeat (first | go_big_quiet_skip | (go_big_quiet_want; go_big_quiet_op; first | go_big_quiet_on | (apply Exists.intro; refine ⟨fun _ => ?_, ?_⟩; (fail); (try rw [h1]); (try rw [h2]); (try rw [h3]); (try rw [h4]); (try rw [p1]); (try rw [p2]); (try rw [p3]); (try rw [p4]); (try rw [r1]); (try rw [r2]); (try rw [r3]); (try rw [r4]); (try rw [r5]); (try rw [r6]); (try rw [q3]); (try rw [q4]); (try rw [hp]); (try rw [hq]); go_big_quiet_on)))
            refine wpQuiet_nil ?_
            rintro _ ⟨tq, rfl⟩))
      go_ret
      exact ⟨rfl, EV.trans zq0⟩
end Go.Proofs.Ytbbpipbemhggdaa

namespace Go.Proofs.Ytbbpipbemhggdaa
open Go.RowKit
set_option linter.unusedSimpArgs false
set_option linter.unusedVariables false

theorem nodup_flat : ∀ (Ls : List (List Nat)), Ls.flatten.Nodup ↔ (∀ l ∈ Ls, l.Nodup) ∧ Ls.Pairwise (fun a b => ∀ x ∈ a, x ∉ b)
  | [] => by simp
  | l :: Ls => by
    have ih := nodup_flat Ls
    rw [List.flatten_cons, List.nodup_append, List.pairwise_cons, ih]
    constructor
    · rintro ⟨h1, ⟨h2, h3⟩, h4⟩
      refine ⟨fun m hm => ?_, fun m hm x hx hx2 => h4 x hx x (List.mem_flatten.2 ⟨m, hm, hx2⟩) rfl, h3⟩
      rcases List.mem_cons.1 hm with rfl | hm
      · exact h1
      · exact h2 m hm
    · rintro ⟨h1, h2, h3⟩
      refine ⟨h1 l (by simp), ⟨fun m hm => h1 m (by simp [hm]), h3⟩, fun a ha b hb e => ?_⟩
      obtain ⟨m, hm, hb⟩ := List.mem_flatten.1 hb
      subst e
      exact h2 m hm a ha hb
/-- A slice of slices of one's own: the row, and each slice in it. T: the type of the elements; TS: that of their slices. -/
def RowSS {α : Type} (w : World) (TS T : TypeId) (k : Nat) (cells : α → List Value) (v : Value) (xss : List (List α)) (B : List Nat) : Prop :=
  ∃ (es : List SlV) (R : List Nat) (Bs : List (List Nat)), RowX w TS 1 SlV.cells v es R ∧ es.length = xss.length ∧ Bs.length = es.length ∧ B = R ++ Bs.flatten ∧ B.Nodup ∧
    ∀ (i : Nat) (e : SlV) (xs : List α), es[i]? = some e → xss[i]? = some xs → ∃ Bi, Bs[i]? = some Bi ∧ RowX w T k cells (.slice e.a e.n e.c) xs Bi
section
variable {α : Type} {cells : α → List Value} {dat : α → Dat} {sch : Sch} {k : Nat} {T TS : TypeId} {w w' : World} {v : Value} {xss : List (List α)} {B : List Nat}
theorem RowSS.nodup (h : RowSS w TS T k cells v xss B) : B.Nodup := by
  obtain ⟨es, R, Bs, _, _, _, _, h, _⟩ := h; exact h
theorem RowSS.lt (h : RowSS w TS T k cells v xss B) : ∀ b ∈ B, b < w.heap.size := by
  obtain ⟨es, R, Bs, h1, h2, h3, rfl, h5, h6⟩ := h
  intro b hb
  rcases List.mem_append.1 hb with hb | hb
  · exact h1.lt b hb
  · obtain ⟨Bi, hBi, hb⟩ := List.mem_flatten.1 hb
    obtain ⟨i, hi⟩ := List.getElem?_of_mem hBi
    have hlt := (List.getElem?_eq_some_iff.1 hi).1
    obtain ⟨Bj, e1, hr⟩ := h6 i (es[i]'(by omega)) (xss[i]'(by omega)) (List.getElem?_eq_getElem _) (List.getElem?_eq_getElem _)
    rw [hi] at e1
    obtain rfl := Option.some.inj e1
    exact hr.lt b hb
theorem RowSS.same (h : RowSS w TS T k cells v xss B) (hs : ∀ b ∈ B, w'.heap[b]? = w.heap[b]?) : RowSS w' TS T k cells v xss B := by
  obtain ⟨es, R, Bs, h1, h2, h3, rfl, h5, h6⟩ := h
  refine ⟨es, R, Bs, h1.same fun b hb => hs b (List.mem_append_left _ hb), h2, h3, rfl, h5, fun i e xs he hx => ?_⟩
  obtain ⟨Bi, g1, g2⟩ := h6 i e xs he hx
  exact ⟨Bi, g1, g2.same fun b hb => hs b (List.mem_append_right _ (List.mem_flatten.2 ⟨Bi, List.mem_of_getElem? g1, hb⟩))⟩
theorem RowSS.chg {B' : List Nat} (h : RowSS w TS T k cells v xss B) (hc : Chg B' w w') (hd : ∀ b ∈ B, b ∉ B') : RowSS w' TS T k cells v xss B :=
  h.same fun b hb => hc.block b (h.lt b hb) (hd b hb)
theorem RowSS.of (h : RowSS w TS T k cells v xss B) (hE : Ext w w') : RowSS w' TS T k cells v xss B := h.same fun b hb => hE.block (h.lt b hb)
theorem RowSS.slice (h : RowSS w TS T k cells v xss B) : ∃ a c, v = .slice a xss.length c := by
  obtain ⟨es, R, Bs, h1, h2, _⟩ := h
  obtain ⟨a, c, e⟩ := h1.slice
  exact ⟨a, c, by rw [e, h2]⟩
theorem RowSS.max (h : RowSS w TS T k cells v xss B) : xss.length ≤ maxLen := by
  obtain ⟨es, R, Bs, h1, h2, _⟩ := h
  rw [← h2]; exact h1.max
theorem RowSS.own (hsz : sch.size = k) (hown : ∀ w x, Own w sch (cells x) (dat x) []) (h : RowSS w TS T k cells v xss B) : Own w (.sl (.sl sch)) [v] (.l (xss.map (ldat dat))) B := by
  have hm := h.max
  obtain ⟨es, R, Bs, h1, h2, h3, rfl, h5, h6⟩ := h
  unfold Own
  rcases h1 with ⟨rfl, rfl, a, rfl, _⟩ | ⟨g, cap, cur, rfl, rfl, hb, g1, g2, hs, hf⟩
  · have hx : xss = [] := List.eq_nil_of_length_eq_zero h2.symm
    have hB : Bs = [] := List.eq_nil_of_length_eq_zero (by simpa using h3)
    subst hx hB
    exact ⟨[], rfl, Nat.zero_le _, .inl ⟨rfl, rfl, a, 0, rfl⟩⟩
  · refine ⟨_, rfl, by simpa using hm, .inr ⟨g, cap, cur, TS, Bs, by rw [List.length_map, h2], by simp, by rw [List.length_map, h3, h2], hb, fun i x hx => ?_⟩⟩
    rw [List.getElem?_map] at hx
    cases hy : xss[i]? with
    | none => rw [hy] at hx; cases hx
    | some xs =>
      rw [hy] at hx
      obtain rfl := Option.some.inj hx
      have hi := (List.getElem?_eq_some_iff.1 hy).1
      have he : es[i]? = some (es[i]'(by omega)) := List.getElem?_eq_getElem _
      obtain ⟨Bi, g3, g4⟩ := h6 i _ xs he hy
      refine ⟨(es[i]'(by omega)).cells, Bi, g3, fun j u hu => ?_, ?_⟩
      · have hj : j = 0 := by
          have := (List.getElem?_eq_some_iff.1 hu).1
          simp [SlV.cells] at this; exact this
        subst hj
        have := hf i _ (by omega) he 0 u hu
        simpa [Sch.size] using this
      · exact g4.own hsz hown
/-- An element slice: where its header lies; what becomes of the whole when it is replaced. -/
theorem RowSS.at {a : Option Addr} {n c : Nat} (h : RowSS w TS T k cells (.slice a n c) xss B) {j : Nat} (hj : j < xss.length) :
    ∃ (g : Nat) (cur : Array Value) (e : SlV) (xs : List α) (Bj : List Nat), a = some ⟨g, 0, none⟩ ∧ g ∈ B ∧ n = xss.length ∧ n ≤ c ∧ xss[j]? = some xs ∧ w.heap[g]? = some (.cells cur TS (0, 0)) ∧ j < cur.size ∧ cur[j]? = some (.slice e.a e.n e.c) ∧ RowX w T k cells (.slice e.a e.n e.c) xs Bj ∧ (∀ b ∈ Bj, b ∈ B ∧ b ≠ g) ∧
      ∀ (w' : World) (B' : List Nat) (e' : SlV) (xs' : List α), Chg (g :: Bj) w w' → w'.heap[g]? = some (.cells (cur.setIfInBounds j (.slice e'.a e'.n e'.c)) TS (0, 0)) → RowX w' T k cells (.slice e'.a e'.n e'.c) xs' B' → (B' = Bj ∨ ∀ b ∈ B', w.heap.size ≤ b) →
        ∃ B2, RowSS w' TS T k cells (.slice a n c) (xss.set j xs') B2 ∧ ∀ b ∈ B2, b ∈ B ∨ b ∈ B' := by
  have hlt := h.lt
  obtain ⟨es, R, Bs, h1, h2, h3, rfl, h5, h6⟩ := h
  have hje : j < es.length := by omega
  obtain ⟨g, cur, x, rfl, rfl, hn, hnc, hx, hb, hsz, hc, hset⟩ := h1.at Nat.one_pos (fun _ => rfl) hje
  have hxj : xss[j]? = some (xss[j]'hj) := List.getElem?_eq_getElem _
  obtain ⟨Bj, hBj, hr⟩ := h6 j x _ hx hxj
  have hcj : cur[j]? = some (.slice x.a x.n x.c) := by have := hc 0 _ rfl; simpa using this
  have hnd := h5
  rw [List.singleton_append, List.nodup_cons] at hnd
  have hmem : ∀ b ∈ Bj, b ∈ Bs.flatten := fun b hb => List.mem_flatten.2 ⟨Bj, List.mem_of_getElem? hBj, hb⟩
  refine ⟨g, cur, x, _, Bj, rfl, by simp, by omega, hnc, hxj, hb, by omega, hcj, hr, fun b hb => ⟨by simp [hmem b hb], fun e => hnd.1 (e ▸ hmem b hb)⟩, fun w' B' e' xs' hch hb' hr' hB' => ?_⟩
  have hjB : j < Bs.length := by omega
  have hr1 := hset w' (cur.setIfInBounds j (.slice e'.a e'.n e'.c)) e' hb' (by simp) (fun i hi => by rw [Array.getElem?_setIfInBounds_ne (by omega)]) (fun i u hu => by
    have hi : i = 0 := by
      have := (List.getElem?_eq_some_iff.1 hu).1
      simp [SlV.cells] at this; exact this
    subst hi
    rw [Nat.mul_one, Nat.add_zero, arr_set (by omega), if_pos rfl]; exact hu)
  -- the blocks of the other elements
  have hoth : ∀ (i : Nat) (Bi : List Nat), i ≠ j → Bs[i]? = some Bi → ∀ b ∈ Bi, b ∉ Bj := fun i Bi hij hi b hb hbj => by
    have hp := ((nodup_flat _).1 hnd.2).2
    rw [List.pairwise_iff_getElem] at hp
    have hi1 := (List.getElem?_eq_some_iff.1 hi)
    have hj1 := (List.getElem?_eq_some_iff.1 hBj)
    obtain ⟨hi2, hi3⟩ := hi1
    obtain ⟨hj2, hj3⟩ := hj1
    rcases Nat.lt_or_gt_of_ne hij with hl | hl
    · have := hp i j hi2 hj2 hl
      rw [hi3, hj3] at this
      exact this b hb hbj
    · have := hp j i hj2 hi2 hl
      rw [hi3, hj3] at this
      exact this b hbj hb
  have hmem2 : ∀ b ∈ (Bs.set j B').flatten, (b ∈ Bs.flatten ∧ ∃ i Bi, i ≠ j ∧ Bs[i]? = some Bi ∧ b ∈ Bi) ∨ b ∈ B' := fun b hb => by
    obtain ⟨Bi, hBi, hb⟩ := List.mem_flatten.1 hb
    obtain ⟨i, hi⟩ := List.getElem?_of_mem hBi
    rw [List.getElem?_set] at hi
    split at hi
    · rename_i e
      subst e
      obtain rfl : B' = Bi := by simpa [hjB] using hi
      exact .inr hb
    · rename_i e
      exact .inl ⟨List.mem_flatten.2 ⟨Bi, List.mem_of_getElem? hi, hb⟩, i, Bi, Ne.symm e, hi, hb⟩
  refine ⟨g :: (Bs.set j B').flatten, ⟨es.set j e', [g], Bs.set j B', by simpa [hn, List.length_set] using hr1, by simp [h2], by simp [h3], rfl, ?_, fun i e xs he hx2 => ?_⟩, fun b hb => ?_⟩
  · rw [List.nodup_cons]
    refine ⟨fun hm => ?_, ?_⟩
    · rcases hmem2 g hm with ⟨hm, _⟩ | hm
      · exact hnd.1 hm
      · rcases hB' with rfl | hB'
        · exact hnd.1 (hmem g hm)
        · have := hB' g hm; have := lt_blk hb; omega
    · rw [nodup_flat]
      have hp := (nodup_flat _).1 hnd.2
      refine ⟨fun l hl => ?_, ?_⟩
      · rcases List.mem_or_eq_of_mem_set hl with hl | rfl
        · exact hp.1 l hl
        · exact hr'.nodup
      · rw [List.pairwise_iff_getElem]
        intro i1 i2 hi1 hi2 hlt12
        have hp2 := hp.2
        rw [List.pairwise_iff_getElem] at hp2
        rw [List.length_set] at hi1 hi2
        rw [List.getElem_set, List.getElem_set]
        have key : ∀ (i : Nat) (hi : i < Bs.length), i ≠ j → ∀ b ∈ Bs[i], b ∉ B' := fun i hi hij b hb hbB => by
          rcases hB' with rfl | hB'
          · exact hoth i _ hij (List.getElem?_eq_getElem hi) b hb hbB
          · have h9 := hB' b hbB
            have h8 := hlt b (by simp only [List.singleton_append, List.mem_cons]; exact .inr (List.mem_flatten.2 ⟨Bs[i], List.getElem_mem hi, hb⟩))
            omega
        by_cases e1 : j = i1
        · subst e1
          rw [if_pos rfl, if_neg (by omega)]
          intro b hb hb2
          exact key i2 hi2 (by omega) b hb2 hb
        · by_cases e2 : j = i2
          · subst e2
            rw [if_neg e1, if_pos rfl]
            intro b hb hb2
            exact key i1 hi1 (by omega) b hb hb2
          · rw [if_neg e1, if_neg e2]
            exact hp2 i1 i2 hi1 hi2 hlt12
  · rw [List.getElem?_set] at he hx2
    by_cases e1 : j = i
    · subst e1
      rw [if_pos rfl] at he hx2
      simp only [hje, if_true, Option.some.injEq, hj] at he hx2
      subst he hx2
      exact ⟨B', by simp [hjB], hr'⟩
    · rw [if_neg e1] at he hx2
      obtain ⟨Bi, g1, g2⟩ := h6 i e xs he hx2
      refine ⟨Bi, by rw [List.getElem?_set_ne e1]; exact g1, g2.chg hch fun b9 hb9 hm => ?_⟩
      rcases List.mem_cons.1 hm with e9 | hm
      · exact hnd.1 (e9 ▸ List.mem_flatten.2 ⟨Bi, List.mem_of_getElem? g1, hb9⟩)
      · exact hoth i Bi (Ne.symm e1) g1 b9 hb9 hm
  · rcases List.mem_cons.1 hb with rfl | hb
    · exact .inl (by simp)
    · rcases hmem2 b hb with ⟨hm, _⟩ | hm
      · exact .inl (by simp [hm])
      · exact .inr hm
end

/-- A cell's slices in memory of one's own. -/
structure CX (w : World) (c : Cll) (h : CllH) (B1 B3 B4 B5 : List Nat) : Prop where
  x1 : RowX w 52 5 Wlk.cells (.slice h.a1 c.wk.length h.c1) c.wk B1
  x3 : RowSS w 44 91 8 Pcl.cells (.slice h.a3 c.outs.length h.c3) c.outs B3
  x4 : RowX w 3 1 icells (.slice h.a4 c.next.length h.c4) c.next B4
  x5 : RowX w 3 1 icells (.slice h.a5 c.ins.length h.c5) c.ins B5
  nd : (B1 ++ (B3 ++ (B4 ++ B5))).Nodup
theorem CX.own {w : World} {c : Cll} {h : CllH} {B1 B3 B4 B5 : List Nat} {lo : Nat} (x : CX w c h B1 B3 B4 B5) (hlo : ∀ b ∈ B1 ++ (B3 ++ (B4 ++ B5)), lo ≤ b) : OwnR lo w.heap.size w sCll (cllCells c h) (cllDat c) := by
  refine ⟨Nat.le_refl _, B1 ++ (B3 ++ (B4 ++ (B5 ++ []))), by simpa using x.nd, fun b hb => ?_, ?_⟩
  · rw [List.append_nil] at hb
    refine ⟨hlo b hb, ?_⟩
    rcases List.mem_append.1 hb with hb | hb
    · exact x.x1.lt b hb
    · rcases List.mem_append.1 hb with hb | hb
      · exact x.x3.lt b hb
      · rcases List.mem_append.1 hb with hb | hb
        · exact x.x4.lt b hb
        · exact x.x5.lt b hb
  · unfold sCll cllCells cllDat
    refine own_st_mk ?_
    have o1 : Own w (.sl sWlk) [.slice h.a1 c.wk.length h.c1] (.l (c.wk.map Wlk.dat)) B1 := x.x1.own (k := 5) rfl (fun w x => own_Wlk_mk w x)
    have o3 : Own w (.sl (.sl sPcl)) [.slice h.a3 c.outs.length h.c3] (.l (c.outs.map (ldat Pcl.dat))) B3 := x.x3.own (k := 8) rfl (fun w x => own_Pcl_mk w x)
    have o4 : Own w (.sl .int) [.slice h.a4 c.next.length h.c4] (.l (c.next.map Dat.i)) B4 := x.x4.own (k := 1) rfl (fun w x => own_Int_mk w x)
    have o5 : Own w (.sl .int) [.slice h.a5 c.ins.length h.c5] (.l (c.ins.map Dat.i)) B5 := x.x5.own (k := 1) rfl (fun w x => own_Int_mk w x)
    have i : ∀ n : Int, Own w .int [.int .i64 n] (.i n) [] := fun n => by unfold Own; exact ⟨⟨_, rfl, rfl⟩, rfl⟩
    unfold OwnL
    refine ⟨[_], _, _, _, [], _, rfl, rfl, rfl, i _, ?_⟩
    unfold OwnL
    refine ⟨[_], _, _, _, B1, _, rfl, rfl, rfl, o1, ?_⟩
    unfold OwnL
    refine ⟨[_], _, _, _, [], _, rfl, rfl, rfl, i _, ?_⟩
    unfold OwnL
    refine ⟨[_], _, _, _, B3, _, rfl, rfl, rfl, o3, ?_⟩
    unfold OwnL
    refine ⟨[_], _, _, _, B4, _, rfl, rfl, rfl, o4, ?_⟩
    unfold OwnL
    refine ⟨[_], _, _, _, B5, _, rfl, rfl, rfl, o5, ?_⟩
    unfold OwnL
    exact ⟨rfl, rfl, rfl⟩
theorem CX.same {w w' : World} {c : Cll} {h : CllH} {B1 B3 B4 B5 : List Nat} (x : CX w c h B1 B3 B4 B5) (hs : ∀ b ∈ B1 ++ (B3 ++ (B4 ++ B5)), w'.heap[b]? = w.heap[b]?) : CX w' c h B1 B3 B4 B5 :=
  ⟨x.x1.same fun b hb => hs b (by simp [hb]), x.x3.same fun b hb => hs b (by simp [hb]), x.x4.same fun b hb => hs b (by simp [hb]), x.x5.same fun b hb => hs b (by simp [hb]), x.nd⟩
theorem CX.lt {w : World} {c : Cll} {h : CllH} {B1 B3 B4 B5 : List Nat} (x : CX w c h B1 B3 B4 B5) : ∀ b ∈ B1 ++ (B3 ++ (B4 ++ B5)), b < w.heap.size := fun b hb => by
  rcases List.mem_append.1 hb with hb | hb
  · exact x.x1.lt b hb
  · rcases List.mem_append.1 hb with hb | hb
    · exact x.x3.lt b hb
    · rcases List.mem_append.1 hb with hb | hb
      · exact x.x4.lt b hb
      · exact x.x5.lt b hb
theorem CX.chg {w w' : World} {c : Cll} {h : CllH} {B1 B3 B4 B5 B' : List Nat} (x : CX w c h B1 B3 B4 B5) (hc : Chg B' w w') (hd : ∀ b ∈ B1 ++ (B3 ++ (B4 ++ B5)), b ∉ B') : CX w' c h B1 B3 B4 B5 :=
  x.same fun b hb => hc.block b (x.lt b hb) (hd b hb)
theorem CX.of {w w' : World} {c : Cll} {h : CllH} {B1 B3 B4 B5 : List Nat} (x : CX w c h B1 B3 B4 B5) (hE : Ext w w') : CX w' c h B1 B3 B4 B5 := x.same fun b hb => hE.block (x.lt b hb)
end Go.Proofs.Ytbbpipbemhggdaa

namespace Go.Proofs.Ytbbpipbemhggdaa

/-- All elements, with their places, pass. -/
def allI {α : Type} (p : Nat → α → Bool) : Nat → List α → Bool
  | _, [] => true
  | i, x :: r => p i x && allI p (i + 1) r
theorem allI_snoc {α : Type} (p : Nat → α → Bool) : ∀ (i : Nat) (l : List α) (x : α), allI p i (l ++ [x]) = (allI p i l && p (i + l.length) x)
  | i, [], x => by simp [allI]
  | i, y :: l, x => by simp [allI, allI_snoc p (i + 1) l x, Bool.and_assoc, Nat.add_comm l.length 1, ← Nat.add_assoc]
theorem take_snoc_of {α : Type} {xs : List α} {k : Nat} {x : α} (h : xs[k]? = some x) : xs.take (k + 1) = xs.take k ++ [x] := by
  rw [List.take_add_one, h]; rfl
theorem lt_of_get {α : Type} {xs : List α} {k : Nat} {x : α} (h : xs[k]? = some x) : k < xs.length := (List.getElem?_eq_some_iff.1 h).1
theorem allI_step {α : Type} {p : Nat → α → Bool} {xs : List α} {k : Nat} {x : α} (h : xs[k]? = some x) (h1 : allI p 0 (xs.take k) = true) (h2 : p k x = true) : allI p 0 (xs.take (k + 1)) = true := by
  have := lt_of_get h
  rw [take_snoc_of h, allI_snoc, h1]
  simp [List.length_take, Nat.min_eq_left (Nat.le_of_lt this), h2]
theorem allI_append {α : Type} (p : Nat → α → Bool) : ∀ (i : Nat) (l r : List α), allI p i (l ++ r) = (allI p i l && allI p (i + l.length) r)
  | i, [], r => by simp [allI]
  | i, y :: l, r => by simp [allI, allI_append p (i + 1) l r, Bool.and_assoc, Nat.add_comm l.length 1, ← Nat.add_assoc]
theorem allI_fail {α : Type} {p : Nat → α → Bool} {xs : List α} {k : Nat} {x : α} (h : xs[k]? = some x) (h2 : p k x = false) : allI p 0 xs = false := by
  have hk := lt_of_get h
  rw [← List.take_append_drop (k + 1) xs, allI_append, take_snoc_of h, allI_snoc]
  simp [List.length_take, Nat.min_eq_left (Nat.le_of_lt hk), h2]
theorem allI_all {α : Type} {p : Nat → α → Bool} {xs : List α} {k : Nat} (hk : xs.length ≤ k) (h1 : allI p 0 (xs.take k) = true) : allI p 0 xs = true := by
  rw [List.take_of_length_le hk] at h1; exact h1
theorem allI_iff {α : Type} {p : Nat → α → Bool} : ∀ {i : Nat} {xs : List α}, allI p i xs = true ↔ ∀ k x, xs[k]? = some x → p (i + k) x = true
  | i, [] => by simp [allI]
  | i, y :: l => by
    simp only [allI, Bool.and_eq_true, allI_iff (i := i + 1) (xs := l)]
    constructor
    · rintro ⟨h0, h1⟩ k x hx
      cases k with
      | zero => simp at hx; subst hx; exact h0
      | succ k => have := h1 k x (by simpa using hx); rwa [show i + (k + 1) = i + 1 + k by omega]
    · intro h
      refine ⟨h 0 y rfl, fun k x hx => ?_⟩
      have := h (k + 1) x (by simpa using hx)
      rwa [show i + (k + 1) = i + 1 + k by omega] at this
end Go.Proofs.Ytbbpipbemhggdaa

namespace Go.Proofs.Ytbbpipbemhggdaa
open Go.RowKit

/-- The element stands behind the one ahead of it. -/
def ordAt {α : Type} (key : α → Int) (xs : List α) (i : Nat) (x : α) : Bool := (i == 0) || decide (((xs[i - 1]?).map key).getD 0 < key x)
theorem ordAt_succ {α : Type} {key : α → Int} {xs : List α} {j : Nat} {y : α} (h : xs[j]? = some y) (x : α) : ordAt key xs (j + 1) x = decide (key y < key x) := by
  simp [ordAt, h]
theorem ordAt_pos {α : Type} {key : α → Int} {xs : List α} {k j : Nat} {y : α} (e : k = j + 1) (h : xs[j]? = some y) (x : α) : ordAt key xs k x = decide (key y < key x) := by subst e; exact ordAt_succ h x
theorem ordAt_nul {α : Type} {key : α → Int} {xs : List α} {k : Nat} (e : k = 0) (x : α) : ordAt key xs k x = true := by subst e; rfl
def wlkAt (m : Mp) (xs : List Wlk) (i : Nat) (x : Wlk) : Bool := wlkOk m x && ordAt Wlk.id xs i x
def wlkAll (m : Mp) (xs : List Wlk) : Bool := allI (wlkAt m xs) 0 xs

set_option maxRecDepth 100000 in
set_option maxHeartbeats 2000000 in
theorem iWlkListOk_c (m : Mp) (xs : List Wlk) (a : Option Addr) (n c : Nat) (w : World) (hx : Re w (.sl sWlk) [.slice a n c] (.l (xs.map Wlk.dat))) (hn : n ≤ 1048576) :
    Calls Try.prog 76 #[.agg #[.int .i64 m.c, .int .i64 m.w], .slice a n c] w fun e w' => e = .returned (.bool (wlkAll m xs && plcOk m)) ∧ Ext w w' := by
  have HX := hid hx
  clear hx
  go_enter Try.func76, Try.ntmps76
  try go_wp2_with (first
      | fail
      | (
        with_reducible refine wp_region_mix (by kernel_rfl) (by decide +kernel) ?_
        repeat (first
          | (refine mix_pure rfl ?_; (first | go_big_quiet_skip | (go_big_quiet_want; go_big_quiet_op; go_big_quiet_on)); refine wpQuiet_nil ?_)
          | (refine mix_skip (by rfl) ?_; (try simp only [Act.put, List.setIfInBounds_toArray, List.set_cons_zero, List.set_cons_succ]))
          | (refine mix_mk rfl (by rfl) (fun K hK => ?_); (first | (go_simp; first | skip)); (show K _ _); refine hK _ _ (show Ext _ _ from zq0) ?_; clear hK K; (try simp only [Act.put, List.setIfInBounds_toArray, List.set_cons_zero, List.set_cons_succ])))
        refine mix_nil ?_)
      | (
        with_reducible refine wp_region_ext (by kernel_rfl) (by kernel_rfl) ?_
        repeat (first | go_big_quiet_skip | (go_big_quiet_want; go_big_quiet_op; first | go_big_quiet_on | (apply Exists.intro; refine ⟨fun _ => ?_, ?_⟩; (fail); (try rw [h1]); (try rw [h2]); (try rw [h3]); (try rw [h4]); (try rw [p1]); (try rw [p2]); (try rw [p3]); (try rw [p4]); (try rw [r1]); (try rw [r2]); (try rw [r3]); (try rw [r4]); (try rw [r5]); (try rw [r6]); (try rw [q3]); (try rw [q4]); (try rw [hp]); (try rw [hq]); go_big_quiet_on)))
        refine wpQuiet_nil ?_
        rintro _ ⟨tq, rfl⟩))
  go_loopw [9] (fun i wr => ∃ k : Nat, k ≤ n ∧ i = .int .i64 k ∧ allI (wlkAt m xs) 0 (xs.take k) = true ∧ Ext (w.alloc (Obj.cells #[.int .i64 m.c, .int .i64 m.w] 24)) wr) (fun i _ => n - (intOf i).toNat)
  case atStart => exact ⟨0, Nat.zero_le _, rfl, rfl, zq0⟩
  case round =>
    obtain ⟨k, hk, rfl, hal, t', rfl⟩ := hrel
    have HA := hid hal
    clear hal
    by_cases hlt : k < n
    · obtain ⟨x, b, o, hxk, rfl, hb, f0, f1, f2, f3, f4⟩ := at_Wlk HX.out hlt
      have HK := hid hxk
      clear hxk
      have hb1 : b ≤ w.heap.size := Nat.le_of_lt hb
      cases h1 : wlkOk m x with
      | false =>
        have E := hid (show wlkAll m xs = false from allI_fail (p := wlkAt m xs) HK.out (by simp [wlkAt, h1]))
        try go_wp2_with (first
            | (go_at_call 88; refine (iWlkOk_c _ _ _).mono ?_; rintro e w' ⟨rfl, t, rfl⟩) | (go_at_call 13; refine (iPlcOk_c _ _).mono ?_; rintro e w' ⟨rfl, t, rfl⟩)
            | (
              with_reducible refine wp_region_mix (by kernel_rfl) (by decide +kernel) ?_
              repeat (first
                | (refine mix_pure rfl ?_; (first | go_big_quiet_skip | (go_big_quiet_want; go_big_quiet_op; go_big_quiet_on)); refine wpQuiet_nil ?_)
                | (refine mix_skip (by rfl) ?_; (try simp only [Act.put, List.setIfInBounds_toArray, List.set_cons_zero, List.set_cons_succ]))
                | (refine mix_mk rfl (by rfl) (fun K hK => ?_); (first | (go_simp; first | (go_at_call 88; refine (iWlkOk_c _ _ _).mono ?_; rintro e w' ⟨rfl, t, rfl⟩) | (go_at_call 13; refine (iPlcOk_c _ _).mono ?_; rintro e w' ⟨rfl, t, rfl⟩) | skip)); (show K _ _); refine hK _ _ (show Ext _ _ from zq0) ?_; clear hK K; (try simp only [Act.put, List.setIfInBounds_toArray, List.set_cons_zero, List.set_cons_succ])))
              refine mix_nil ?_)
            | (
              with_reducible refine wp_region_ext (by kernel_rfl) (by kernel_rfl) ?_
              repeat (first | go_big_quiet_skip | (go_big_quiet_want; go_big_quiet_op; first | go_big_quiet_on | (apply Exists.intro; refine ⟨fun _ => ?_, ?_⟩; ((first | (go_at_call 88; first | exact quiet_call (iWlkOk_c _ _ _) | exact quiet_call2 (iWlkOk_c _ _ _)) | (go_at_call 13; first | exact quiet_call (iPlcOk_c _ _) | exact quiet_call2 (iPlcOk_c _ _)))); (try rw [h1]); (try rw [h2]); (try rw [h3]); (try rw [h4]); (try rw [p1]); (try rw [p2]); (try rw [p3]); (try rw [p4]); (try rw [r1]); (try rw [r2]); (try rw [r3]); (try rw [r4]); (try rw [r5]); (try rw [r6]); (try rw [q3]); (try rw [q4]); (try rw [hp]); (try rw [hq]); go_big_quiet_on)))
              refine wpQuiet_nil ?_
              rintro _ ⟨tq, rfl⟩))
        go_ret
        exact ⟨ret_bool (by rw [E.out]; try rfl), zq0⟩
      | true =>
        rcases Nat.eq_zero_or_pos k with hk0 | hk0
        · have HZ := hid hk0
          have hz : ¬ (0 : Int) < (k : Int) := by omega
          have hz1 : ¬ 0 < k := by omega
          clear hk0
          have HB := hid (allI_step (p := wlkAt m xs) HK.out HA.out (by simp [wlkAt, h1, ordAt_nul HZ.out]))
          try go_wp2_with (first
              | (go_at_call 88; refine (iWlkOk_c _ _ _).mono ?_; rintro e w' ⟨rfl, t, rfl⟩) | (go_at_call 13; refine (iPlcOk_c _ _).mono ?_; rintro e w' ⟨rfl, t, rfl⟩)
              | (
                with_reducible refine wp_region_mix (by kernel_rfl) (by decide +kernel) ?_
                repeat (first
                  | (refine mix_pure rfl ?_; (first | go_big_quiet_skip | (go_big_quiet_want; go_big_quiet_op; go_big_quiet_on)); refine wpQuiet_nil ?_)
                  | (refine mix_skip (by rfl) ?_; (try simp only [Act.put, List.setIfInBounds_toArray, List.set_cons_zero, List.set_cons_succ]))
                  | (refine mix_mk rfl (by rfl) (fun K hK => ?_); (first | (go_simp; first | (go_at_call 88; refine (iWlkOk_c _ _ _).mono ?_; rintro e w' ⟨rfl, t, rfl⟩) | (go_at_call 13; refine (iPlcOk_c _ _).mono ?_; rintro e w' ⟨rfl, t, rfl⟩) | skip)); (show K _ _); refine hK _ _ (show Ext _ _ from zq0) ?_; clear hK K; (try simp only [Act.put, List.setIfInBounds_toArray, List.set_cons_zero, List.set_cons_succ])))
                refine mix_nil ?_)
              | (
                with_reducible refine wp_region_ext (by kernel_rfl) (by kernel_rfl) ?_
                repeat (first | go_big_quiet_skip | (go_big_quiet_want; go_big_quiet_op; first | go_big_quiet_on | (apply Exists.intro; refine ⟨fun _ => ?_, ?_⟩; ((first | (go_at_call 88; first | exact quiet_call (iWlkOk_c _ _ _) | exact quiet_call2 (iWlkOk_c _ _ _)) | (go_at_call 13; first | exact quiet_call (iPlcOk_c _ _) | exact quiet_call2 (iPlcOk_c _ _)))); (try rw [h1]); (try rw [h2]); (try rw [h3]); (try rw [h4]); (try rw [p1]); (try rw [p2]); (try rw [p3]); (try rw [p4]); (try rw [r1]); (try rw [r2]); (try rw [r3]); (try rw [r4]); (try rw [r5]); (try rw [r6]); (try rw [q3]); (try rw [q4]); (try rw [hp]); (try rw [hq]); go_big_quiet_on)))
                refine wpQuiet_nil ?_
                rintro _ ⟨tq, rfl⟩))
          go_roundw
          case rel => exact ⟨k + 1, by omega, by go_num, HB.out, zq0⟩
          case measure => simp [intOf]; omega
        · obtain ⟨j, hkj⟩ : ∃ j, k = j + 1 := ⟨k - 1, by omega⟩
          have HJ := hid hkj
          have hpos : (0 : Int) < (k : Int) := by omega
          have hpos1 : 0 < k := by omega
          have hpre : (k : Int) - 1 = (j : Int) := by omega
          clear hk0 hkj
          obtain ⟨y, b2, o2, hyk, hab, hb2, g0, g1, g2, g3, g4⟩ := at_Wlk HX.out (show j < n by have := HJ.out; omega)
          simp only [Option.some.injEq, Addr.mk.injEq, and_true] at hab
          obtain ⟨rfl, rfl⟩ := hab
          have HY := hid hyk
          clear hyk
          by_cases hq : y.id < x.id
          · have HB := hid (allI_step (p := wlkAt m xs) HK.out HA.out (by simp [wlkAt, h1, ordAt_pos HJ.out HY.out, hq]))
            try go_wp2_with (first
                | (go_at_call 88; refine (iWlkOk_c _ _ _).mono ?_; rintro e w' ⟨rfl, t, rfl⟩) | (go_at_call 13; refine (iPlcOk_c _ _).mono ?_; rintro e w' ⟨rfl, t, rfl⟩)
                | (
                  with_reducible refine wp_region_mix (by kernel_rfl) (by decide +kernel) ?_
                  repeat (first
                    | (refine mix_pure rfl ?_; (first | go_big_quiet_skip | (go_big_quiet_want; go_big_quiet_op; go_big_quiet_on)); refine wpQuiet_nil ?_)
                    | (refine mix_skip (by rfl) ?_; (try simp only [Act.put, List.setIfInBounds_toArray, List.set_cons_zero, List.set_cons_succ]))
                    | (refine mix_mk rfl (by rfl) (fun K hK => ?_); (first | (go_simp; first | (go_at_call 88; refine (iWlkOk_c _ _ _).mono ?_; rintro e w' ⟨rfl, t, rfl⟩) | (go_at_call 13; refine (iPlcOk_c _ _).mono ?_; rintro e w' ⟨rfl, t, rfl⟩) | skip)); (show K _ _); refine hK _ _ (show Ext _ _ from zq0) ?_; clear hK K; (try simp only [Act.put, List.setIfInBounds_toArray, List.set_cons_zero, List.set_cons_succ])))
                  refine mix_nil ?_)
                | (
                  with_reducible refine wp_region_ext (by kernel_rfl) (by kernel_rfl) ?_
                  repeat (first | go_big_quiet_skip | (go_big_quiet_want; go_big_quiet_op; first | go_big_quiet_on | (apply Exists.intro; refine ⟨fun _ => ?_, ?_⟩; ((first | (go_at_call 88; first | exact quiet_call (iWlkOk_c _ _ _) | exact quiet_call2 (iWlkOk_c _ _ _)) | (go_at_call 13; first | exact quiet_call (iPlcOk_c _ _) | exact quiet_call2 (iPlcOk_c _ _)))); (try rw [h1]); (try rw [h2]); (try rw [h3]); (try rw [h4]); (try rw [p1]); (try rw [p2]); (try rw [p3]); (try rw [p4]); (try rw [r1]); (try rw [r2]); (try rw [r3]); (try rw [r4]); (try rw [r5]); (try rw [r6]); (try rw [q3]); (try rw [q4]); (try rw [hp]); (try rw [hq]); go_big_quiet_on)))
                  refine wpQuiet_nil ?_
                  rintro _ ⟨tq, rfl⟩))
            go_roundw
            case rel => exact ⟨k + 1, by omega, by go_num, HB.out, zq0⟩
            case measure => simp [intOf]; omega
          · have hq' : x.id ≤ y.id := by omega
            have E := hid (show wlkAll m xs = false from allI_fail (p := wlkAt m xs) HK.out (by simp [wlkAt, ordAt_pos HJ.out HY.out, hq']))
            try go_wp2_with (first
                | (go_at_call 88; refine (iWlkOk_c _ _ _).mono ?_; rintro e w' ⟨rfl, t, rfl⟩) | (go_at_call 13; refine (iPlcOk_c _ _).mono ?_; rintro e w' ⟨rfl, t, rfl⟩)
                | (
                  with_reducible refine wp_region_mix (by kernel_rfl) (by decide +kernel) ?_
                  repeat (first
                    | (refine mix_pure rfl ?_; (first | go_big_quiet_skip | (go_big_quiet_want; go_big_quiet_op; go_big_quiet_on)); refine wpQuiet_nil ?_)
                    | (refine mix_skip (by rfl) ?_; (try simp only [Act.put, List.setIfInBounds_toArray, List.set_cons_zero, List.set_cons_succ]))
                    | (refine mix_mk rfl (by rfl) (fun K hK => ?_); (first | (go_simp; first | (go_at_call 88; refine (iWlkOk_c _ _ _).mono ?_; rintro e w' ⟨rfl, t, rfl⟩) | (go_at_call 13; refine (iPlcOk_c _ _).mono ?_; rintro e w' ⟨rfl, t, rfl⟩) | skip)); (show K _ _); refine hK _ _ (show Ext _ _ from zq0) ?_; clear hK K; (try simp only [Act.put, List.setIfInBounds_toArray, List.set_cons_zero, List.set_cons_succ])))
                  refine mix_nil ?_)
                | (
                  with_reducible refine wp_region_ext (by kernel_rfl) (by kernel_rfl) ?_
                  repeat (first | go_big_quiet_skip | (go_big_quiet_want; go_big_quiet_op; first | go_big_quiet_on | (apply Exists.intro; refine ⟨fun _ => ?_, ?_⟩; ((first | (go_at_call 88; first | exact quiet_call (iWlkOk_c _ _ _) | exact quiet_call2 (iWlkOk_c _ _ _)) | (go_at_call 13; first | exact quiet_call (iPlcOk_c _ _) | exact quiet_call2 (iPlcOk_c _ _)))); (try rw [h1]); (try rw [h2]); (try rw [h3]); (try rw [h4]); (try rw [p1]); (try rw [p2]); (try rw [p3]); (try rw [p4]); (try rw [r1]); (try rw [r2]); (try rw [r3]); (try rw [r4]); (try rw [r5]); (try rw [r6]); (try rw [q3]); (try rw [q4]); (try rw [hp]); (try rw [hq]); go_big_quiet_on)))
                  refine wpQuiet_nil ?_
                  rintro _ ⟨tq, rfl⟩))
            go_ret
            exact ⟨ret_bool (by rw [E.out]; try rfl), zq0⟩
    · have E := hid (show wlkAll m xs = true from allI_all (p := wlkAt m xs) (xs := xs) (k := k) (by rw [← HX.out.len]; omega) HA.out)
      try go_wp2_with (first
          | (go_at_call 13; refine (iPlcOk_c _ _).mono ?_; rintro e w' ⟨rfl, t, rfl⟩)
          | (
            with_reducible refine wp_region_mix (by kernel_rfl) (by decide +kernel) ?_
            repeat (first
              | (refine mix_pure rfl ?_; (first | go_big_quiet_skip | (go_big_quiet_want; go_big_quiet_op; go_big_quiet_on)); refine wpQuiet_nil ?_)
              | (refine mix_skip (by rfl) ?_; (try simp only [Act.put, List.setIfInBounds_toArray, List.set_cons_zero, List.set_cons_succ]))
              | (refine mix_mk rfl (by rfl) (fun K hK => ?_); (first | (go_simp; first | (go_at_call 13; refine (iPlcOk_c _ _).mono ?_; rintro e w' ⟨rfl, t, rfl⟩) | skip)); (show K _ _); refine hK _ _ (show Ext _ _ from zq0) ?_; clear hK K; (try simp only [Act.put, List.setIfInBounds_toArray, List.set_cons_zero, List.set_cons_succ])))
            refine mix_nil ?_)
          | (
            with_reducible refine wp_region_ext (by kernel_rfl) (by kernel_rfl) ?_
            repeat (first | go_big_quiet_skip | (go_big_quiet_want; go_big_quiet_op; first | go_big_quiet_on | (apply Exists.intro; refine ⟨fun _ => ?_, ?_⟩; ((first | (go_at_call 13; first | exact quiet_call (iPlcOk_c _ _) | exact quiet_call2 (iPlcOk_c _ _)))); (try rw [h1]); (try rw [h2]); (try rw [h3]); (try rw [h4]); (try rw [p1]); (try rw [p2]); (try rw [p3]); (try rw [p4]); (try rw [r1]); (try rw [r2]); (try rw [r3]); (try rw [r4]); (try rw [r5]); (try rw [r6]); (try rw [q3]); (try rw [q4]); (try rw [hp]); (try rw [hq]); go_big_quiet_on)))
            refine wpQuiet_nil ?_
            rintro _ ⟨tq, rfl⟩))
      go_ret
      exact ⟨ret_bool (by rw [E.out]; try rfl), zq0⟩

set_option maxRecDepth 100000 in
set_option maxHeartbeats 2000000 in
theorem sWlkListOk_c (m : Mp) (xs : List Wlk) (a : Option Addr) (n c : Nat) (w : World) (hx : Re w (.sl sWlk) [.slice a n c] (.l (xs.map Wlk.dat))) (hn : n ≤ 1048576) :
    Calls Try.prog 45 #[.agg #[.int .i64 m.c, .int .i64 m.w], .slice a n c] w fun e w' => e = .returned (.bool (wlkAll m xs)) ∧ Ext w w' := by
  have HX := hid hx
  clear hx
  go_enter Try.func45, Try.ntmps45
  try go_wp2_with (first
      | fail
      | (
        with_reducible refine wp_region_mix (by kernel_rfl) (by decide +kernel) ?_
        repeat (first
          | (refine mix_pure rfl ?_; (first | go_big_quiet_skip | (go_big_quiet_want; go_big_quiet_op; go_big_quiet_on)); refine wpQuiet_nil ?_)
          | (refine mix_skip (by rfl) ?_; (try simp only [Act.put, List.setIfInBounds_toArray, List.set_cons_zero, List.set_cons_succ]))
          | (refine mix_mk rfl (by rfl) (fun K hK => ?_); (first | (go_simp; first | skip)); (show K _ _); refine hK _ _ (show Ext _ _ from zq0) ?_; clear hK K; (try simp only [Act.put, List.setIfInBounds_toArray, List.set_cons_zero, List.set_cons_succ])))
        refine mix_nil ?_)
      | (
        with_reducible refine wp_region_ext (by kernel_rfl) (by kernel_rfl) ?_
        repeat (first | go_big_quiet_skip | (go_big_quiet_want; go_big_quiet_op; first | go_big_quiet_on | (apply Exists.intro; refine ⟨fun _ => ?_, ?_⟩; (fail); (try rw [h1]); (try rw [h2]); (try rw [h3]); (try rw [h4]); (try rw [p1]); (try rw [p2]); (try rw [p3]); (try rw [p4]); (try rw [r1]); (try rw [r2]); (try rw [r3]); (try rw [r4]); (try rw [r5]); (try rw [r6]); (try rw [q3]); (try rw [q4]); (try rw [hp]); (try rw [hq]); go_big_quiet_on)))
        refine wpQuiet_nil ?_
        rintro _ ⟨tq, rfl⟩))
  go_loopw [5] (fun i wr => ∃ k : Nat, k ≤ n ∧ i = .int .i64 k ∧ allI (wlkAt m xs) 0 (xs.take k) = true ∧ Ext (w.alloc (Obj.cells #[.int .i64 m.c, .int .i64 m.w] 24)) wr) (fun i _ => n - (intOf i).toNat)
  case atStart => exact ⟨0, Nat.zero_le _, rfl, rfl, zq0⟩
  case round =>
    obtain ⟨k, hk, rfl, hal, t', rfl⟩ := hrel
    have HA := hid hal
    clear hal
    by_cases hlt : k < n
    · obtain ⟨x, b, o, hxk, rfl, hb, f0, f1, f2, f3, f4⟩ := at_Wlk HX.out hlt
      have HK := hid hxk
      clear hxk
      have hb1 : b ≤ w.heap.size := Nat.le_of_lt hb
      cases h1 : wlkOk m x with
      | false =>
        have E := hid (show wlkAll m xs = false from allI_fail (p := wlkAt m xs) HK.out (by simp [wlkAt, h1]))
        try go_wp2_with (first
            | (go_at_call 77; refine (sWlkOk_c _ _ _).mono ?_; rintro e w' ⟨rfl, t, rfl⟩)
            | (
              with_reducible refine wp_region_mix (by kernel_rfl) (by decide +kernel) ?_
              repeat (first
                | (refine mix_pure rfl ?_; (first | go_big_quiet_skip | (go_big_quiet_want; go_big_quiet_op; go_big_quiet_on)); refine wpQuiet_nil ?_)
                | (refine mix_skip (by rfl) ?_; (try simp only [Act.put, List.setIfInBounds_toArray, List.set_cons_zero, List.set_cons_succ]))
                | (refine mix_mk rfl (by rfl) (fun K hK => ?_); (first | (go_simp; first | (go_at_call 77; refine (sWlkOk_c _ _ _).mono ?_; rintro e w' ⟨rfl, t, rfl⟩) | skip)); (show K _ _); refine hK _ _ (show Ext _ _ from zq0) ?_; clear hK K; (try simp only [Act.put, List.setIfInBounds_toArray, List.set_cons_zero, List.set_cons_succ])))
              refine mix_nil ?_)
            | (
              with_reducible refine wp_region_ext (by kernel_rfl) (by kernel_rfl) ?_
              repeat (first | go_big_quiet_skip | (go_big_quiet_want; go_big_quiet_op; first | go_big_quiet_on | (apply Exists.intro; refine ⟨fun _ => ?_, ?_⟩; ((first | (go_at_call 77; first | exact quiet_call (sWlkOk_c _ _ _) | exact quiet_call2 (sWlkOk_c _ _ _)))); (try rw [h1]); (try rw [h2]); (try rw [h3]); (try rw [h4]); (try rw [p1]); (try rw [p2]); (try rw [p3]); (try rw [p4]); (try rw [r1]); (try rw [r2]); (try rw [r3]); (try rw [r4]); (try rw [r5]); (try rw [r6]); (try rw [q3]); (try rw [q4]); (try rw [hp]); (try rw [hq]); go_big_quiet_on)))
              refine wpQuiet_nil ?_
              rintro _ ⟨tq, rfl⟩))
        go_ret
        exact ⟨ret_bool (by rw [E.out]; try rfl), zq0⟩
      | true =>
        rcases Nat.eq_zero_or_pos k with hk0 | hk0
        · have HZ := hid hk0
          have hz : ¬ (0 : Int) < (k : Int) := by omega
          have hz1 : ¬ 0 < k := by omega
          clear hk0
          have HB := hid (allI_step (p := wlkAt m xs) HK.out HA.out (by simp [wlkAt, h1, ordAt_nul HZ.out]))
          try go_wp2_with (first
              | (go_at_call 77; refine (sWlkOk_c _ _ _).mono ?_; rintro e w' ⟨rfl, t, rfl⟩)
              | (
                with_reducible refine wp_region_mix (by kernel_rfl) (by decide +kernel) ?_
                repeat (first
                  | (refine mix_pure rfl ?_; (first | go_big_quiet_skip | (go_big_quiet_want; go_big_quiet_op; go_big_quiet_on)); refine wpQuiet_nil ?_)
                  | (refine mix_skip (by rfl) ?_; (try simp only [Act.put, List.setIfInBounds_toArray, List.set_cons_zero, List.set_cons_succ]))
                  | (refine mix_mk rfl (by rfl) (fun K hK => ?_); (first | (go_simp; first | (go_at_call 77; refine (sWlkOk_c _ _ _).mono ?_; rintro e w' ⟨rfl, t, rfl⟩) | skip)); (show K _ _); refine hK _ _ (show Ext _ _ from zq0) ?_; clear hK K; (try simp only [Act.put, List.setIfInBounds_toArray, List.set_cons_zero, List.set_cons_succ])))
                refine mix_nil ?_)
              | (
                with_reducible refine wp_region_ext (by kernel_rfl) (by kernel_rfl) ?_
                repeat (first | go_big_quiet_skip | (go_big_quiet_want; go_big_quiet_op; first | go_big_quiet_on | (apply Exists.intro; refine ⟨fun _ => ?_, ?_⟩; ((first | (go_at_call 77; first | exact quiet_call (sWlkOk_c _ _ _) | exact quiet_call2 (sWlkOk_c _ _ _)))); (try rw [h1]); (try rw [h2]); (try rw [h3]); (try rw [h4]); (try rw [p1]); (try rw [p2]); (try rw [p3]); (try rw [p4]); (try rw [r1]); (try rw [r2]); (try rw [r3]); (try rw [r4]); (try rw [r5]); (try rw [r6]); (try rw [q3]); (try rw [q4]); (try rw [hp]); (try rw [hq]); go_big_quiet_on)))
                refine wpQuiet_nil ?_
                rintro _ ⟨tq, rfl⟩))
          go_roundw
          case rel => exact ⟨k + 1, by omega, by go_num, HB.out, zq0⟩
          case measure => simp [intOf]; omega
        · obtain ⟨j, hkj⟩ : ∃ j, k = j + 1 := ⟨k - 1, by omega⟩
          have HJ := hid hkj
          have hpos : (0 : Int) < (k : Int) := by omega
          have hpos1 : 0 < k := by omega
          have hpre : (k : Int) - 1 = (j : Int) := by omega
          clear hk0 hkj
          obtain ⟨y, b2, o2, hyk, hab, hb2, g0, g1, g2, g3, g4⟩ := at_Wlk HX.out (show j < n by have := HJ.out; omega)
          simp only [Option.some.injEq, Addr.mk.injEq, and_true] at hab
          obtain ⟨rfl, rfl⟩ := hab
          have HY := hid hyk
          clear hyk
          by_cases hq : y.id < x.id
          · have HB := hid (allI_step (p := wlkAt m xs) HK.out HA.out (by simp [wlkAt, h1, ordAt_pos HJ.out HY.out, hq]))
            try go_wp2_with (first
                | (go_at_call 77; refine (sWlkOk_c _ _ _).mono ?_; rintro e w' ⟨rfl, t, rfl⟩)
                | (
                  with_reducible refine wp_region_mix (by kernel_rfl) (by decide +kernel) ?_
                  repeat (first
                    | (refine mix_pure rfl ?_; (first | go_big_quiet_skip | (go_big_quiet_want; go_big_quiet_op; go_big_quiet_on)); refine wpQuiet_nil ?_)
                    | (refine mix_skip (by rfl) ?_; (try simp only [Act.put, List.setIfInBounds_toArray, List.set_cons_zero, List.set_cons_succ]))
                    | (refine mix_mk rfl (by rfl) (fun K hK => ?_); (first | (go_simp; first | (go_at_call 77; refine (sWlkOk_c _ _ _).mono ?_; rintro e w' ⟨rfl, t, rfl⟩) | skip)); (show K _ _); refine hK _ _ (show Ext _ _ from zq0) ?_; clear hK K; (try simp only [Act.put, List.setIfInBounds_toArray, List.set_cons_zero, List.set_cons_succ])))
                  refine mix_nil ?_)
                | (
                  with_reducible refine wp_region_ext (by kernel_rfl) (by kernel_rfl) ?_
                  repeat (first | go_big_quiet_skip | (go_big_quiet_want; go_big_quiet_op; first | go_big_quiet_on | (apply Exists.intro; refine ⟨fun _ => ?_, ?_⟩; ((first | (go_at_call 77; first | exact quiet_call (sWlkOk_c _ _ _) | exact quiet_call2 (sWlkOk_c _ _ _)))); (try rw [h1]); (try rw [h2]); (try rw [h3]); (try rw [h4]); (try rw [p1]); (try rw [p2]); (try rw [p3]); (try rw [p4]); (try rw [r1]); (try rw [r2]); (try rw [r3]); (try rw [r4]); (try rw [r5]); (try rw [r6]); (try rw [q3]); (try rw [q4]); (try rw [hp]); (try rw [hq]); go_big_quiet_on)))
                  refine wpQuiet_nil ?_
                  rintro _ ⟨tq, rfl⟩))
            go_roundw
            case rel => exact ⟨k + 1, by omega, by go_num, HB.out, zq0⟩
            case measure => simp [intOf]; omega
          · have hq' : x.id ≤ y.id := by omega
            have E := hid (show wlkAll m xs = false from allI_fail (p := wlkAt m xs) HK.out (by simp [wlkAt, ordAt_pos HJ.out HY.out, hq']))
            try go_wp2_with (first
                | (go_at_call 77; refine (sWlkOk_c _ _ _).mono ?_; rintro e w' ⟨rfl, t, rfl⟩)
                | (
                  with_reducible refine wp_region_mix (by kernel_rfl) (by decide +kernel) ?_
                  repeat (first
                    | (refine mix_pure rfl ?_; (first | go_big_quiet_skip | (go_big_quiet_want; go_big_quiet_op; go_big_quiet_on)); refine wpQuiet_nil ?_)
                    | (refine mix_skip (by rfl) ?_; (try simp only [Act.put, List.setIfInBounds_toArray, List.set_cons_zero, List.set_cons_succ]))
                    | (refine mix_mk rfl (by rfl) (fun K hK => ?_); (first | (go_simp; first | (go_at_call 77; refine (sWlkOk_c _ _ _).mono ?_; rintro e w' ⟨rfl, t, rfl⟩) | skip)); (show K _ _); refine hK _ _ (show Ext _ _ from zq0) ?_; clear hK K; (try simp only [Act.put, List.setIfInBounds_toArray, List.set_cons_zero, List.set_cons_succ])))
                  refine mix_nil ?_)
                | (
                  with_reducible refine wp_region_ext (by kernel_rfl) (by kernel_rfl) ?_
                  repeat (first | go_big_quiet_skip | (go_big_quiet_want; go_big_quiet_op; first | go_big_quiet_on | (apply Exists.intro; refine ⟨fun _ => ?_, ?_⟩; ((first | (go_at_call 77; first | exact quiet_call (sWlkOk_c _ _ _) | exact quiet_call2 (sWlkOk_c _ _ _)))); (try rw [h1]); (try rw [h2]); (try rw [h3]); (try rw [h4]); (try rw [p1]); (try rw [p2]); (try rw [p3]); (try rw [p4]); (try rw [r1]); (try rw [r2]); (try rw [r3]); (try rw [r4]); (try rw [r5]); (try rw [r6]); (try rw [q3]); (try rw [q4]); (try rw [hp]); (try rw [hq]); go_big_quiet_on)))
                  refine wpQuiet_nil ?_
                  rintro _ ⟨tq, rfl⟩))
            go_ret
            exact ⟨ret_bool (by rw [E.out]; try rfl), zq0⟩
    · have E := hid (show wlkAll m xs = true from allI_all (p := wlkAt m xs) (xs := xs) (k := k) (by rw [← HX.out.len]; omega) HA.out)
      try go_wp2_with (first
          | fail
          | (
            with_reducible refine wp_region_mix (by kernel_rfl) (by decide +kernel) ?_
            repeat (first
              | (refine mix_pure rfl ?_; (first | go_big_quiet_skip | (go_big_quiet_want; go_big_quiet_op; go_big_quiet_on)); refine wpQuiet_nil ?_)
              | (refine mix_skip (by rfl) ?_; (try simp only [Act.put, List.setIfInBounds_toArray, List.set_cons_zero, List.set_cons_succ]))
              | (refine mix_mk rfl (by rfl) (fun K hK => ?_); (first | (go_simp; first | skip)); (show K _ _); refine hK _ _ (show Ext _ _ from zq0) ?_; clear hK K; (try simp only [Act.put, List.setIfInBounds_toArray, List.set_cons_zero, List.set_cons_succ])))
            refine mix_nil ?_)
          | (
            with_reducible refine wp_region_ext (by kernel_rfl) (by kernel_rfl) ?_
            repeat (first | go_big_quiet_skip | (go_big_quiet_want; go_big_quiet_op; first | go_big_quiet_on | (apply Exists.intro; refine ⟨fun _ => ?_, ?_⟩; (fail); (try rw [h1]); (try rw [h2]); (try rw [h3]); (try rw [h4]); (try rw [p1]); (try rw [p2]); (try rw [p3]); (try rw [p4]); (try rw [r1]); (try rw [r2]); (try rw [r3]); (try rw [r4]); (try rw [r5]); (try rw [r6]); (try rw [q3]); (try rw [q4]); (try rw [hp]); (try rw [hq]); go_big_quiet_on)))
            refine wpQuiet_nil ?_
            rintro _ ⟨tq, rfl⟩))
      go_ret
      exact ⟨ret_bool (by rw [E.out]; try rfl), zq0⟩
end Go.Proofs.Ytbbpipbemhggdaa

namespace Go.Proofs.Ytbbpipbemhggdaa
open Go.RowKit

def pclAt (m : Mp) (b : Int) (i : Nat) (x : Pcl) : Bool := pclOk m x && (x.n == b + i)
def pclListOk (m : Mp) (xs : List Pcl) (next : Int) : Bool := plcOk m && inB next 0 5000 && decide ((xs.length : Int) ≤ next) && allI (pclAt m (next - xs.length)) 0 xs

set_option maxHeartbeats 1000000 in
theorem iPclListOk_c (m : Mp) (a : Option Addr) (n c : Nat) (xs : List Pcl) (next : Int) (w : World) (hx : Re w (.sl sPcl) [.slice a n c] (.l (xs.map Pcl.dat))) (hn : n ≤ 1048576) :
    Calls Try.prog 30 #[.agg #[.int .i64 m.c, .int .i64 m.w], .slice a n c, .int .i64 next] w fun e w' => e = .returned (.bool (pclListOk m xs next)) ∧ Ext w w' := by
  have HL := hid (sl_len hx).1
  have HX := hid hx
  clear hx
  cases h1 : plcOk m with
  | false =>
    have E := hid (show pclListOk m xs next = false by simp [pclListOk, h1])
    go_enter Try.func30, Try.ntmps30
    go_wp2_with (first | (go_at_call 13; refine (iPlcOk_c _ _).mono ?_; rintro e w' ⟨rfl, t, rfl⟩) | (go_at_call 61; refine (in_c _ _ _ _).mono ?_; rintro e w' ⟨rfl, rfl⟩))
    go_ret
    exact ⟨ret_bool (by rw [E.out]), zq0⟩
  | true =>
    cases h2 : inB next 0 5000 with
    | false =>
      have E := hid (show pclListOk m xs next = false by simp [pclListOk, h2])
      go_enter Try.func30, Try.ntmps30
      go_wp2_with (first | (go_at_call 13; refine (iPlcOk_c _ _).mono ?_; rintro e w' ⟨rfl, t, rfl⟩) | (go_at_call 61; refine (in_c _ _ _ _).mono ?_; rintro e w' ⟨rfl, rfl⟩))
      go_ret
      exact ⟨ret_bool (by rw [E.out]), zq0⟩
    | true =>
      obtain ⟨n1, n2⟩ := inB_iff.1 h2
      by_cases h3 : next < (n : Int)
      · have E := hid (show pclListOk m xs next = false by have := HL.out; simp at this; simp [pclListOk]; omega)
        go_enter Try.func30, Try.ntmps30
        go_wp2_with (first | (go_at_call 13; refine (iPlcOk_c _ _).mono ?_; rintro e w' ⟨rfl, t, rfl⟩) | (go_at_call 61; refine (in_c _ _ _ _).mono ?_; rintro e w' ⟨rfl, rfl⟩))
        go_ret
        exact ⟨ret_bool (by rw [E.out]), zq0⟩
      · go_enter Try.func30, Try.ntmps30
        go_wp2_with (first | (go_at_call 13; refine (iPlcOk_c _ _).mono ?_; rintro e w' ⟨rfl, t, rfl⟩) | (go_at_call 61; refine (in_c _ _ _ _).mono ?_; rintro e w' ⟨rfl, rfl⟩))
        go_loopw [25] (fun i wr => ∃ k : Nat, k ≤ n ∧ i = .int .i64 k ∧ allI (pclAt m (next - n)) 0 (xs.take k) = true ∧ Ext (w.alloc (Obj.cells #[.int .i64 m.c, .int .i64 m.w] 24)) wr) (fun i _ => n - (intOf i).toNat)
        case atStart => exact ⟨0, Nat.zero_le _, rfl, rfl, zq0⟩
        case round =>
          obtain ⟨k, hk, rfl, hal, t', rfl⟩ := hrel
          have HA := hid hal
          clear hal
          by_cases hlt : k < n
          · obtain ⟨x, b, o, hxk, rfl, hb, f0, f1, f2, f3, f4, f5, f6, f7⟩ := at_Pcl HX.out hlt
            have HK := hid hxk
            clear hxk
            have hb1 : b ≤ w.heap.size := Nat.le_of_lt hb
            have hm : (n : Int) ≤ 1048576 := by omega
            cases hp : pclOk m x with
            | false =>
              have E := hid (show pclListOk m xs next = false by
                have := allI_fail (p := pclAt m (next - n)) HK.out (by simp [pclAt, hp])
                have hl := HL.out; simp at hl
                simp [pclListOk, ← hl, this])
              go_wp2_with (first | (go_at_call 66; refine (iPclOk_c _ _ _).mono ?_; rintro e w' ⟨rfl, t, rfl⟩))
              go_ret
              exact ⟨ret_bool (by rw [E.out]), zq0⟩
            | true =>
              by_cases hq : x.n = next - (n : Int) + (k : Int)
              · have HB := hid (allI_step (p := pclAt m (next - n)) HK.out HA.out (by simp [pclAt, hp, hq]))
                have hq' := bne_f hq
                clear hq
                go_wp2_with (first | (go_at_call 66; refine (iPclOk_c _ _ _).mono ?_; rintro e w' ⟨rfl, t, rfl⟩))
                go_roundw
                case rel => exact ⟨k + 1, by omega, by go_num, HB.out, zq0⟩
                case measure => simp [intOf]; omega
              · have E := hid (show pclListOk m xs next = false by
                  have := allI_fail (p := pclAt m (next - n)) HK.out (by simp [pclAt, hq])
                  have hl := HL.out; simp at hl
                  simp [pclListOk, ← hl, this])
                have hq' := bne_t hq
                clear hq
                go_wp2_with (first | (go_at_call 66; refine (iPclOk_c _ _ _).mono ?_; rintro e w' ⟨rfl, t, rfl⟩))
                go_ret
                exact ⟨ret_bool (by rw [E.out]), zq0⟩
          · have E := hid (show pclListOk m xs next = true by
              have hl := HL.out; simp at hl
              have := allI_all (p := pclAt m (next - n)) (xs := xs) (k := k) (by omega) HA.out
              simp [pclListOk, ← hl, this, h1, h2]; omega)
            go_wp2
            go_ret
            exact ⟨ret_bool (by rw [E.out]), zq0⟩

end Go.Proofs.Ytbbpipbemhggdaa

