/- DrawPlcSide, DrawPlcEdge: a map, a cell or a place, and a side are drawn. -/
import Derived.Test.YtbbpipbemhggdaaDw
namespace Go.Proofs.Ytbbpipbemhggdaa
open Go.RowKit
set_option linter.unusedSimpArgs false
set_option linter.unusedVariables false

def MpB (R : Nat) (w : World) : Prop := ∃ x : Mp, w.heap[R]? = some (.cells #[.int .i64 x.c, .int .i64 x.w] 24 (0, 0))
def MpAt (R : Nat) (w : World) : Prop := ∃ x : Mp, w.heap[R]? = some (.cells #[.int .i64 x.c, .int .i64 x.w] 24 (0, 0)) ∧ MapIn x
theorem MpB.chg {R : Nat} {w w' : World} {B : List Nat} (h : MpB R w) (hc : Chg B w w') (hR : R ∉ B) : MpB R w' := by
  obtain ⟨x, h⟩ := h
  exact ⟨x, (hc.block R (lt_blk h) hR).trans h⟩
theorem MpB.of {R : Nat} {w w' : World} (h : MpB R w) (hE : Ext w w') : MpB R w' := h.chg (Chg.of_ext hE []) (by simp)
theorem MpB.drw {R : Nat} {w : World} (h : MpB R w) : MpB R w.drew := h
theorem MpAt.chg {R : Nat} {w w' : World} {B : List Nat} (h : MpAt R w) (hc : Chg B w w') (hR : R ∉ B) : MpAt R w' := by
  obtain ⟨x, h, hx⟩ := h
  exact ⟨x, (hc.block R (lt_blk h) hR).trans h, hx⟩
/-- A result's block, and a block that holds a map. -/
def MJ (M : Nat) (m : Mp) (R : Nat) (w : World) : Prop := MpB R w ∧ w.heap[M]? = some (.cells #[.int .i64 m.c, .int .i64 m.w] 24 (0, 0))
theorem MJ.chg {M R : Nat} {m : Mp} {w w' : World} {B : List Nat} (h : MJ M m R w) (hc : Chg B w w') (hR : R ∉ B ∧ M ∉ B) : MJ M m R w' := ⟨h.1.chg hc hR.1, (hc.block M (lt_blk h.2) hR.2).trans h.2⟩
theorem MJ.of {M R : Nat} {m : Mp} {w w' : World} (h : MJ M m R w) (hE : Ext w w') : MJ M m R w' := h.chg (Chg.of_ext hE []) (by simp)
theorem MJ.drw {M R : Nat} {m : Mp} {w : World} (h : MJ M m R w) : MJ M m R w.drew := h
theorem mp_store {w : World} {R : Nat} {x0 x : Mp} (h : w.heap[R]? = some (.cells #[.int .i64 x0.c, .int .i64 x0.w] 24 (0, 0))) :
    ((w.setCell ⟨R, 0, none⟩ (.int .i64 x.c)).setCell ⟨R, 1, none⟩ (.int .i64 x.w)).heap[R]? = some (.cells #[.int .i64 x.c, .int .i64 x.w] 24 (0, 0)) := by
  refine Eq.trans (blk_set (blk_set h)) ?_
  simp only [List.setIfInBounds_toArray, List.set_cons_zero, List.set_cons_succ]
/-- What was made and changed lies above the old blocks: the old ones are as they were. -/
theorem Ext.chg2 {w V W : World} {p R : Nat} (hE : Ext w V) (hc : Chg [p, R] V W) (hp : w.heap.size ≤ p) (hR : w.heap.size ≤ R) : Ext w W := Ext.of_below (Below.chg (w0 := w) hE.below hc (by simp; omega))
theorem map_mul9 {m : Mp} (h : MapIn m) : -9 ≤ m.c * m.w ∧ m.c * m.w ≤ 81 := by
  obtain ⟨h1, h2, h3, h4⟩ := h
  have key : ∀ a b : Int, -1 ≤ a → a ≤ 9 → -1 ≤ b → b ≤ 9 → -9 ≤ a * b ∧ a * b ≤ 81 := fun a b a0 a1 b0 b1 => by
    have ha : a = -1 ∨ a = 0 ∨ a = 1 ∨ a = 2 ∨ a = 3 ∨ a = 4 ∨ a = 5 ∨ a = 6 ∨ a = 7 ∨ a = 8 ∨ a = 9 := by omega
    rcases ha with rfl | rfl | rfl | rfl | rfl | rfl | rfl | rfl | rfl | rfl | rfl <;> omega
  exact key _ _ h1 h2 h3 h4
set_option maxRecDepth 100000 in
set_option maxHeartbeats 8000000 in
theorem DrawPlcSide_c (n c : Nat) (a : Option Addr) (w : World) (hB : Bytes w.heap.size w a n) (hc : n ≤ c) :
    Calls Try.prog 10 #[.slice a n c] w fun e w' => ∃ (m : Mp) (k s : Int), e = .returned (.tuple #[.agg #[.int .i64 m.c, .int .i64 m.w], .int .i64 k, .int .i64 s]) ∧ MapIn m ∧ (-1 ≤ k ∧ k ≤ 4) ∧ (-1 ≤ s ∧ s ≤ 2) ∧ Ext w w' := by
  have HB := hid hB
  clear hB
  go_enter Try.func10, Try.ntmps10
  try go_wp2_with (first
      | (go_at_call 54; refine (l20Open_c w.heap.size n c a _ (HB.out.chg (B := []) (Chg.of_ext (by ((try simp only [ext_drew]); (try simp only [ext_ext]); repeat (first | exact Ext.refl _ | with_reducible apply Ext.add | with_reducible apply Ext.dr | apply Ext.alloc | apply Ext.ext | apply Ext.drew | refine Ext.trans ?_ (by assumption)))) []) (by simp) (Nat.le_refl _)) (by (try simp [go_sem]) <;> (try simp [Xt.add]) <;> omega) hc).mono ?_; rintro e w1 ⟨rfl, hR, hE⟩; have HR := hid hR; have HE := hid hE; clear hR hE)
      | (
        with_reducible refine wp_region_mix (by kernel_rfl) (by decide +kernel) ?_
        repeat (first
          | (refine mix_pure rfl ?_; (first | go_big_quiet_skip | (go_big_quiet_want; go_big_quiet_op; go_big_quiet_on)); refine wpQuiet_nil ?_)
          | (refine mix_skip (by rfl) ?_; (try simp only [Act.put, List.setIfInBounds_toArray, List.set_cons_zero, List.set_cons_succ]))
          | (refine mix_mk rfl (by rfl) (fun K hK => ?_); (first | (go_simp; first | (go_at_call 54; refine (l20Open_c w.heap.size n c a _ (HB.out.chg (B := []) (Chg.of_ext (by ((try simp only [ext_drew]); (try simp only [ext_ext]); repeat (first | exact Ext.refl _ | with_reducible apply Ext.add | with_reducible apply Ext.dr | apply Ext.alloc | apply Ext.ext | apply Ext.drew | refine Ext.trans ?_ (by assumption)))) []) (by simp) (Nat.le_refl _)) (by (try simp [go_sem]) <;> (try simp [Xt.add]) <;> omega) hc).mono ?_; rintro e w1 ⟨rfl, hR, hE⟩; have HR := hid hR; have HE := hid hE; clear hR hE) | skip)); (show K _ _); refine hK _ _ (show Ext _ _ from (by ((try simp only [ext_drew]); (try simp only [ext_ext]); repeat (first | exact Ext.refl _ | with_reducible apply Ext.add | with_reducible apply Ext.dr | apply Ext.alloc | apply Ext.ext | apply Ext.drew | refine Ext.trans ?_ (by assumption))))) ?_; clear hK K; (try simp only [Act.put, List.setIfInBounds_toArray, List.set_cons_zero, List.set_cons_succ])))
        refine mix_nil ?_)
      | (
        with_reducible refine wp_region_ext (by kernel_rfl) (by kernel_rfl) ?_
        repeat (first | go_big_quiet_skip | (go_big_quiet_want; go_big_quiet_op; first | go_big_quiet_on | (apply Exists.intro; refine ⟨fun _ => ?_, ?_⟩; (fail); (try rw [h1]); (try rw [h2]); (try rw [h3]); (try rw [h4]); (try rw [p1]); (try rw [p2]); (try rw [p3]); (try rw [p4]); (try rw [r1]); (try rw [r2]); (try rw [r3]); (try rw [r4]); (try rw [r5]); (try rw [r6]); (try rw [q3]); (try rw [q4]); (try rw [hp]); (try rw [hq]); go_big_quiet_on)))
        refine wpQuiet_nil ?_
        rintro _ ⟨tq, rfl⟩))
  obtain ⟨p, hp⟩ : ∃ p, (w.alloc (Obj.cells #[.int .i64 0, .int .i64 0] 24)).heap.size = p := ⟨_, rfl⟩
  have hp1 : p = w.heap.size + 1 := by rw [← hp]; simp
  have hR0 := HR.out
  rw [hp] at hR0
  have bR0 : w1.heap[w.heap.size]? = some (.cells #[.int .i64 0, .int .i64 0] 24 (0, 0)) := (HE.out.block (by simp)).trans (alloc_last (by simp))
  have hpW : p < w1.heap.size := hR0.lt
  have EW1 := hid (show Ext w w1 from ((Ext.refl w).alloc _).trans HE.out)
  rw [← hp1]
  obtain ⟨R, hRe⟩ : ∃ R, w.heap.size = R := ⟨_, rfl⟩
  have HJ := hid (show Rdr w.heap.size p 0 w1 ∧ MpB R w1 from ⟨hR0, ⟨0, 0⟩, hRe ▸ bR0⟩)
  have hRW : R < w1.heap.size := hRe ▸ lt_blk bR0
  have hRp : R ≠ p := by omega
  have hloR : w.heap.size ≤ R := by omega
  have hwp : w.heap.size ≤ p := by omega
  have hwR : w.heap.size ≤ R := by omega
  rw [hRe]
  rw [hRe] at HJ
  clear HR HE hp hp1 hR0 bR0
  refine wp_region_flowD [some 8, some 9, some 10, some 11, some 12, some 13, some 14, some 15, some 16, some 17, none, some 3, some 4] (fun a b => Chg [p, R] a b) (fun i a b => Chg (bif i == 10 then [R] else [p]) a b) (fun k9 w9 => Rdr R p (0 + 4 * k9) w9 ∧ MpB R w9) (fun i v9 w9 => match i with
    | 0 => v9 = .pointer (some ⟨p, 0, none⟩)
    | 1 => InM (v9)
    | 2 => v9 = .pointer (some ⟨p, 0, none⟩)
    | 3 => InI 0 (5) (v9)
    | 4 => InI (-1) (4) (v9)
    | 5 => MkI w1.heap.size 6 (-1) (2) (v9) w9
    | 6 => v9 = .pointer (some ⟨p, 0, none⟩)
    | 7 => InI 0 (5) (v9)
    | 8 => PtI w1.heap.size 6 (-1) (2) (v9) w9
    | 9 => InI (-1) (2) (v9)
    | 10 => MpAt R w9
    | 11 => InI (-1) (4) (v9)
    | _ => InI (-1) (2) (v9)) (by kernel_rfl) (by decide +kernel) (by simp) (fun a => Chg.refl _ a) (fun a b c h k => Chg.trans h k) ?_ (Chg.drew (Chg.refl _ _)) ?_ ?_ ?_ ?_
  · intro i a b hi hG
    refine hG.mono ?_
    cases (i == 10) <;> simp
  · exact ⟨HJ.out.1.of (by ((try simp only [ext_drew]); (try simp only [ext_ext]); repeat (first | exact Ext.refl _ | with_reducible apply Ext.add | with_reducible apply Ext.dr | apply Ext.alloc | apply Ext.ext | apply Ext.drew | refine Ext.trans ?_ (by assumption)))), HJ.out.2.drw⟩
  · intro i j hi hj hij v9 w9 w8 hg hS hG
    have hG2 : Chg [p, R] w9 w8 := hG.mono (by cases (i == 10) <;> simp)
    have hj9 : j < 13 := hj
    clear hi hj
    match j, hj9 with
    | 0, _ => exact hS
    | 1, _ => exact hS
    | 2, _ => exact hS
    | 3, _ => exact hS
    | 4, _ => exact hS
    | 5, _ => exact MkI.chg hS hG2 (by simp; omega)
    | 6, _ => exact hS
    | 7, _ => exact hS
    | 8, _ => exact PtI.chg hS hG2 (by simp; omega)
    | 9, _ => exact hS
    | 10, _ =>
      have h9 : (i == 10) = false := by simpa using hij
      rw [h9, cond_false] at hG
      exact hS.chg hG (by simpa using hRp)
    | 11, _ => exact hS
    | 12, _ => exact hS
    | n + 13, h9 => exact absurd h9 (by omega)
  · intro i oo ho σ k9 w9 hG hk9 hJ hd
    have HG := hid hG
    have HJ9 := hid hJ
    have lp9 : p < w9.heap.size := Nat.lt_of_lt_of_le hpW hG.size
    have lR9 : R < w9.heap.size := Nat.lt_of_lt_of_le hRW hG.size
    have hW9 := hG.size
    have hkN : k9 < 13 := hk9
    have hi9 : i < 13 := (List.getElem?_eq_some_iff.1 ho).1
    clear hG hJ hk9
    match i, hi9, ho with
    | 0, _, ho =>
      obtain rfl := Option.some.inj ho
      clear hd ho
      simp only [actO, putO, List.setIfInBounds_toArray, List.set_cons_zero, List.set_cons_succ, Nat.reduceAdd]
      refine flow_K (fun K hK => ?_)
      go_simp
      (show K _ _)
      refine hK _ _ ⟨_, rfl, by simp, Chg.of_ext (show Ext _ _ from (by ((try simp only [ext_drew]); (try simp only [ext_ext]); repeat (first | exact Ext.refl _ | with_reducible apply Ext.add | with_reducible apply Ext.dr | apply Ext.alloc | apply Ext.ext | apply Ext.drew | refine Ext.trans ?_ (by assumption))))) _, ⟨(HJ9.out.1.of (show Ext _ _ from (by ((try simp only [ext_drew]); (try simp only [ext_ext]); repeat (first | exact Ext.refl _ | with_reducible apply Ext.add | with_reducible apply Ext.dr | apply Ext.alloc | apply Ext.ext | apply Ext.drew | refine Ext.trans ?_ (by assumption)))))).up (by omega), HJ9.out.2.of (show Ext _ _ from (by ((try simp only [ext_drew]); (try simp only [ext_ext]); repeat (first | exact Ext.refl _ | with_reducible apply Ext.add | with_reducible apply Ext.dr | apply Ext.alloc | apply Ext.ext | apply Ext.drew | refine Ext.trans ?_ (by assumption)))))⟩, rfl⟩
    | 1, _, ho =>
      have e0 : σ 0 = .pointer (some ⟨p, 0, none⟩) := hd 0 (by obtain rfl := Option.some.inj ho; kernel_rfl)
      obtain rfl := Option.some.inj ho
      clear hd ho
      simp only [actO, putO, List.setIfInBounds_toArray, List.set_cons_zero, List.set_cons_succ, Nat.reduceAdd, e0]
      refine flow_K (fun K hK => ?_)
      have HRd := hid HJ9.out.1
      go_simp
      refine (l20Map_c R p _ w9 HRd.out (by omega)).mono ?_
      rintro e w8 ⟨mm, rfl, hm, hR8, hC8⟩
      (show K _ _)
      refine hK _ _ ⟨_, rfl, by simp, hC8, ⟨hR8.up (by omega), HJ9.out.2.chg hC8 (by simpa using hRp)⟩, ⟨mm, rfl, hm⟩⟩
    | 2, _, ho =>
      obtain rfl := Option.some.inj ho
      clear hd ho
      simp only [actO, putO, List.setIfInBounds_toArray, List.set_cons_zero, List.set_cons_succ, Nat.reduceAdd]
      refine flow_K (fun K hK => ?_)
      go_simp
      (show K _ _)
      refine hK _ _ ⟨_, rfl, by simp, Chg.of_ext (show Ext _ _ from (by ((try simp only [ext_drew]); (try simp only [ext_ext]); repeat (first | exact Ext.refl _ | with_reducible apply Ext.add | with_reducible apply Ext.dr | apply Ext.alloc | apply Ext.ext | apply Ext.drew | refine Ext.trans ?_ (by assumption))))) _, ⟨(HJ9.out.1.of (show Ext _ _ from (by ((try simp only [ext_drew]); (try simp only [ext_ext]); repeat (first | exact Ext.refl _ | with_reducible apply Ext.add | with_reducible apply Ext.dr | apply Ext.alloc | apply Ext.ext | apply Ext.drew | refine Ext.trans ?_ (by assumption)))))).up (by omega), HJ9.out.2.of (show Ext _ _ from (by ((try simp only [ext_drew]); (try simp only [ext_ext]); repeat (first | exact Ext.refl _ | with_reducible apply Ext.add | with_reducible apply Ext.dr | apply Ext.alloc | apply Ext.ext | apply Ext.drew | refine Ext.trans ?_ (by assumption)))))⟩, rfl⟩
    | 3, _, ho =>
      have e2 : σ 2 = .pointer (some ⟨p, 0, none⟩) := hd 2 (by obtain rfl := Option.some.inj ho; kernel_rfl)
      obtain rfl := Option.some.inj ho
      clear hd ho
      simp only [actO, putO, List.setIfInBounds_toArray, List.set_cons_zero, List.set_cons_succ, Nat.reduceAdd, e2]
      refine flow_K (fun K hK => ?_)
      have HRd := hid HJ9.out.1
      go_simp
      refine (pick_c R p _ (6) w9 HRd.out (by omega) (by omega) (by omega)).mono ?_
      rintro e w8 ⟨vv, rfl, hv0, hv1, hR8, hC8⟩
      (show K _ _)
      refine hK _ _ ⟨_, rfl, by simp, hC8, ⟨hR8.up (by omega), HJ9.out.2.chg hC8 (by simpa using hRp)⟩, ⟨vv, rfl, hv0, by omega⟩⟩
    | 4, _, ho =>
      obtain ⟨x3, e3, y3, z3⟩ : InI 0 (5) (σ 3) := hd 3 (by obtain rfl := Option.some.inj ho; kernel_rfl)
      have hwr : IntKind.i64.wrap (x3 - 1) = x3 - 1 := by simp [IntKind.wrap, IntKind.bits, IntKind.signed]; omega
      obtain rfl := Option.some.inj ho
      clear hd ho
      simp only [actO, putO, List.setIfInBounds_toArray, List.set_cons_zero, List.set_cons_succ, Nat.reduceAdd, e3]
      refine flow_K (fun K hK => ?_)
      go_simp
      (try rw [hwr])
      (show K _ _)
      refine hK _ _ ⟨_, rfl, by simp, Chg.of_ext (show Ext _ _ from (by ((try simp only [ext_drew]); (try simp only [ext_ext]); repeat (first | exact Ext.refl _ | with_reducible apply Ext.add | with_reducible apply Ext.dr | apply Ext.alloc | apply Ext.ext | apply Ext.drew | refine Ext.trans ?_ (by assumption))))) _, ⟨(HJ9.out.1.of (show Ext _ _ from (by ((try simp only [ext_drew]); (try simp only [ext_ext]); repeat (first | exact Ext.refl _ | with_reducible apply Ext.add | with_reducible apply Ext.dr | apply Ext.alloc | apply Ext.ext | apply Ext.drew | refine Ext.trans ?_ (by assumption)))))).up (by omega), HJ9.out.2.of (show Ext _ _ from (by ((try simp only [ext_drew]); (try simp only [ext_ext]); repeat (first | exact Ext.refl _ | with_reducible apply Ext.add | with_reducible apply Ext.dr | apply Ext.alloc | apply Ext.ext | apply Ext.drew | refine Ext.trans ?_ (by assumption)))))⟩, ⟨_, rfl, by omega, by omega⟩⟩
    | 5, _, ho =>
      obtain rfl := Option.some.inj ho
      clear hd ho
      simp only [actO, putO, List.setIfInBounds_toArray, List.set_cons_zero, List.set_cons_succ, Nat.reduceAdd]
      refine flow_K (fun K hK => ?_)
      go_simp
      (show K _ _)
      refine hK _ _ ⟨_, rfl, by simp, Chg.of_ext (show Ext _ _ from (by ((try simp only [ext_drew]); (try simp only [ext_ext]); repeat (first | exact Ext.refl _ | with_reducible apply Ext.add | with_reducible apply Ext.dr | apply Ext.alloc | apply Ext.ext | apply Ext.drew | refine Ext.trans ?_ (by assumption))))) _, ⟨(HJ9.out.1.of (show Ext _ _ from (by ((try simp only [ext_drew]); (try simp only [ext_ext]); repeat (first | exact Ext.refl _ | with_reducible apply Ext.add | with_reducible apply Ext.dr | apply Ext.alloc | apply Ext.ext | apply Ext.drew | refine Ext.trans ?_ (by assumption)))))).up (by omega), HJ9.out.2.of (show Ext _ _ from (by ((try simp only [ext_drew]); (try simp only [ext_ext]); repeat (first | exact Ext.refl _ | with_reducible apply Ext.add | with_reducible apply Ext.dr | apply Ext.alloc | apply Ext.ext | apply Ext.drew | refine Ext.trans ?_ (by assumption)))))⟩, ⟨_, rfl, by (try simp [go_sem]) <;> omega, ⟨_, heap_new (by simp [go_sem]), fun i hi => ?_⟩⟩⟩
      match i, hi with
      | 0, _ => exact ⟨0, rfl, by omega, by omega⟩
      | 1, _ => exact ⟨1, rfl, by omega, by omega⟩
      | 2, _ => exact ⟨0, rfl, by omega, by omega⟩
      | 3, _ => exact ⟨1, rfl, by omega, by omega⟩
      | 4, _ => exact ⟨2, rfl, by omega, by omega⟩
      | 5, _ => exact ⟨(-1), rfl, by omega, by omega⟩
    | 6, _, ho =>
      obtain rfl := Option.some.inj ho
      clear hd ho
      simp only [actO, putO, List.setIfInBounds_toArray, List.set_cons_zero, List.set_cons_succ, Nat.reduceAdd]
      refine flow_K (fun K hK => ?_)
      go_simp
      (show K _ _)
      refine hK _ _ ⟨_, rfl, by simp, Chg.of_ext (show Ext _ _ from (by ((try simp only [ext_drew]); (try simp only [ext_ext]); repeat (first | exact Ext.refl _ | with_reducible apply Ext.add | with_reducible apply Ext.dr | apply Ext.alloc | apply Ext.ext | apply Ext.drew | refine Ext.trans ?_ (by assumption))))) _, ⟨(HJ9.out.1.of (show Ext _ _ from (by ((try simp only [ext_drew]); (try simp only [ext_ext]); repeat (first | exact Ext.refl _ | with_reducible apply Ext.add | with_reducible apply Ext.dr | apply Ext.alloc | apply Ext.ext | apply Ext.drew | refine Ext.trans ?_ (by assumption)))))).up (by omega), HJ9.out.2.of (show Ext _ _ from (by ((try simp only [ext_drew]); (try simp only [ext_ext]); repeat (first | exact Ext.refl _ | with_reducible apply Ext.add | with_reducible apply Ext.dr | apply Ext.alloc | apply Ext.ext | apply Ext.drew | refine Ext.trans ?_ (by assumption)))))⟩, rfl⟩
    | 7, _, ho =>
      have e6 : σ 6 = .pointer (some ⟨p, 0, none⟩) := hd 6 (by obtain rfl := Option.some.inj ho; kernel_rfl)
      obtain rfl := Option.some.inj ho
      clear hd ho
      simp only [actO, putO, List.setIfInBounds_toArray, List.set_cons_zero, List.set_cons_succ, Nat.reduceAdd, e6]
      refine flow_K (fun K hK => ?_)
      have HRd := hid HJ9.out.1
      go_simp
      refine (pick_c R p _ (6) w9 HRd.out (by omega) (by omega) (by omega)).mono ?_
      rintro e w8 ⟨vv, rfl, hv0, hv1, hR8, hC8⟩
      (show K _ _)
      refine hK _ _ ⟨_, rfl, by simp, hC8, ⟨hR8.up (by omega), HJ9.out.2.chg hC8 (by simpa using hRp)⟩, ⟨vv, rfl, hv0, by omega⟩⟩
    | 8, _, ho =>
      obtain ⟨b5, e5, hb5, ha5⟩ : MkI w1.heap.size 6 (-1) (2) (σ 5) _ := hd 5 (by obtain rfl := Option.some.inj ho; kernel_rfl)
      obtain ⟨x7, e7, y7, z7⟩ : InI 0 (5) (σ 7) := hd 7 (by obtain rfl := Option.some.inj ho; kernel_rfl)
      obtain ⟨i7, rfl⟩ : ∃ i : Nat, x7 = (i : Int) := ⟨x7.toNat, by omega⟩
      have hin : i7 < 6 := by omega
      have hin2 : (i7 : Int) < 6 := by omega
      obtain rfl := Option.some.inj ho
      clear hd ho
      simp only [actO, putO, List.setIfInBounds_toArray, List.set_cons_zero, List.set_cons_succ, Nat.reduceAdd, e5, e7]
      refine flow_K (fun K hK => ?_)
      go_simp
      (show K _ _)
      refine hK _ _ ⟨_, rfl, by simp, Chg.of_ext (show Ext _ _ from (by ((try simp only [ext_drew]); (try simp only [ext_ext]); repeat (first | exact Ext.refl _ | with_reducible apply Ext.add | with_reducible apply Ext.dr | apply Ext.alloc | apply Ext.ext | apply Ext.drew | refine Ext.trans ?_ (by assumption))))) _, ⟨(HJ9.out.1.of (show Ext _ _ from (by ((try simp only [ext_drew]); (try simp only [ext_ext]); repeat (first | exact Ext.refl _ | with_reducible apply Ext.add | with_reducible apply Ext.dr | apply Ext.alloc | apply Ext.ext | apply Ext.drew | refine Ext.trans ?_ (by assumption)))))).up (by omega), HJ9.out.2.of (show Ext _ _ from (by ((try simp only [ext_drew]); (try simp only [ext_ext]); repeat (first | exact Ext.refl _ | with_reducible apply Ext.add | with_reducible apply Ext.dr | apply Ext.alloc | apply Ext.ext | apply Ext.drew | refine Ext.trans ?_ (by assumption)))))⟩, ⟨_, _, rfl, hin, hb5, ha5⟩⟩
    | 9, _, ho =>
      obtain ⟨b8, k8, e8, hk8, hb8, ha8⟩ : PtI w1.heap.size 6 (-1) (2) (σ 8) _ := hd 8 (by obtain rfl := Option.some.inj ho; kernel_rfl)
      obtain ⟨y, hy, hy0, hy1⟩ := index_at ha8 hk8
      obtain rfl := Option.some.inj ho
      clear hd ho
      simp only [actO, putO, List.setIfInBounds_toArray, List.set_cons_zero, List.set_cons_succ, Nat.reduceAdd, e8]
      refine flow_K (fun K hK => ?_)
      go_simp
      (show K _ _)
      refine hK _ _ ⟨_, rfl, by simp, Chg.of_ext (show Ext _ _ from (by ((try simp only [ext_drew]); (try simp only [ext_ext]); repeat (first | exact Ext.refl _ | with_reducible apply Ext.add | with_reducible apply Ext.dr | apply Ext.alloc | apply Ext.ext | apply Ext.drew | refine Ext.trans ?_ (by assumption))))) _, ⟨(HJ9.out.1.of (show Ext _ _ from (by ((try simp only [ext_drew]); (try simp only [ext_ext]); repeat (first | exact Ext.refl _ | with_reducible apply Ext.add | with_reducible apply Ext.dr | apply Ext.alloc | apply Ext.ext | apply Ext.drew | refine Ext.trans ?_ (by assumption)))))).up (by omega), HJ9.out.2.of (show Ext _ _ from (by ((try simp only [ext_drew]); (try simp only [ext_ext]); repeat (first | exact Ext.refl _ | with_reducible apply Ext.add | with_reducible apply Ext.dr | apply Ext.alloc | apply Ext.ext | apply Ext.drew | refine Ext.trans ?_ (by assumption)))))⟩, ⟨y, rfl, hy0, hy1⟩⟩
    | 10, _, ho =>
      obtain ⟨x1, e1, h1⟩ : InM (σ 1) := hd 1 (by obtain rfl := Option.some.inj ho; kernel_rfl)
      obtain ⟨x0, hb0⟩ := HJ9.out.2
      obtain rfl := Option.some.inj ho
      clear hd ho
      simp only [actO, putO, List.setIfInBounds_toArray, List.set_cons_zero, List.set_cons_succ, Nat.reduceAdd, e1]
      refine flow_K (fun K hK => ?_)
      have cR0 := (cell_blk hb0 0).trans (show _ = some (Value.int .i64 x0.c) from rfl)
      have zR0 := frozen_blk hb0 0
      have cR1 := (cell_blk hb0 1).trans (show _ = some (Value.int .i64 x0.w) from rfl)
      have zR1 := frozen_blk hb0 1
      have HB0 := hid hb0
      clear hb0
      go_simp
      (show K _ _)
      refine hK _ _ ⟨undef, rfl, fun _ => rfl, (by repeat (first | with_reducible exact Chg.refl _ _ | with_reducible apply Chg.drew | with_reducible apply Chg.drewl | with_reducible refine Chg.turn (by simp) | with_reducible refine Chg.both ?_ (by simp) | (with_reducible refine Chg.set ?_ (by simp) _) | with_reducible apply Chg.alloc | with_reducible apply Chg.ext)), ⟨(HJ9.out.1.chg (B := [R]) (by repeat (first | with_reducible exact Chg.refl _ _ | with_reducible apply Chg.drew | with_reducible apply Chg.drewl | with_reducible refine Chg.turn (by simp) | with_reducible refine Chg.both ?_ (by simp) | (with_reducible refine Chg.set ?_ (by simp) _) | with_reducible apply Chg.alloc | with_reducible apply Chg.ext)) (by simp; omega) (Nat.le_refl _)).up (by omega), ⟨x1, mp_store (x := x1) HB0.out⟩⟩, ⟨x1, mp_store (x := x1) HB0.out, h1⟩⟩
    | 11, _, ho =>
      obtain ⟨x4, e4, y4, z4⟩ : InI (-1) (4) (σ 4) := hd 4 (by obtain rfl := Option.some.inj ho; kernel_rfl)
      obtain rfl := Option.some.inj ho
      clear hd ho
      simp only [actO, putO, List.setIfInBounds_toArray, List.set_cons_zero, List.set_cons_succ, Nat.reduceAdd, e4]
      refine flow_K (fun K hK => ?_)
      go_simp
      (show K _ _)
      refine hK _ _ ⟨_, rfl, by simp, Chg.of_ext (show Ext _ _ from (by ((try simp only [ext_drew]); (try simp only [ext_ext]); repeat (first | exact Ext.refl _ | with_reducible apply Ext.add | with_reducible apply Ext.dr | apply Ext.alloc | apply Ext.ext | apply Ext.drew | refine Ext.trans ?_ (by assumption))))) _, ⟨(HJ9.out.1.of (show Ext _ _ from (by ((try simp only [ext_drew]); (try simp only [ext_ext]); repeat (first | exact Ext.refl _ | with_reducible apply Ext.add | with_reducible apply Ext.dr | apply Ext.alloc | apply Ext.ext | apply Ext.drew | refine Ext.trans ?_ (by assumption)))))).up (by omega), HJ9.out.2.of (show Ext _ _ from (by ((try simp only [ext_drew]); (try simp only [ext_ext]); repeat (first | exact Ext.refl _ | with_reducible apply Ext.add | with_reducible apply Ext.dr | apply Ext.alloc | apply Ext.ext | apply Ext.drew | refine Ext.trans ?_ (by assumption)))))⟩, ⟨_, rfl, by omega, by omega⟩⟩
    | 12, _, ho =>
      obtain ⟨x9, e9, y9, z9⟩ : InI (-1) (2) (σ 9) := hd 9 (by obtain rfl := Option.some.inj ho; kernel_rfl)
      obtain rfl := Option.some.inj ho
      clear hd ho
      simp only [actO, putO, List.setIfInBounds_toArray, List.set_cons_zero, List.set_cons_succ, Nat.reduceAdd, e9]
      refine flow_K (fun K hK => ?_)
      go_simp
      (show K _ _)
      refine hK _ _ ⟨_, rfl, by simp, Chg.of_ext (show Ext _ _ from (by ((try simp only [ext_drew]); (try simp only [ext_ext]); repeat (first | exact Ext.refl _ | with_reducible apply Ext.add | with_reducible apply Ext.dr | apply Ext.alloc | apply Ext.ext | apply Ext.drew | refine Ext.trans ?_ (by assumption))))) _, ⟨(HJ9.out.1.of (show Ext _ _ from (by ((try simp only [ext_drew]); (try simp only [ext_ext]); repeat (first | exact Ext.refl _ | with_reducible apply Ext.add | with_reducible apply Ext.dr | apply Ext.alloc | apply Ext.ext | apply Ext.drew | refine Ext.trans ?_ (by assumption)))))).up (by omega), HJ9.out.2.of (show Ext _ _ from (by ((try simp only [ext_drew]); (try simp only [ext_ext]); repeat (first | exact Ext.refl _ | with_reducible apply Ext.add | with_reducible apply Ext.dr | apply Ext.alloc | apply Ext.ext | apply Ext.drew | refine Ext.trans ?_ (by assumption)))))⟩, ⟨_, rfl, by omega, by omega⟩⟩
  · intro σ w9 hG hJ hd
    have e0 : σ 0 = .pointer (some ⟨p, 0, none⟩) := hd 0 (by decide)
    obtain ⟨x1, e1, h1⟩ : InM (σ 1) := hd 1 (by decide)
    have e2 : σ 2 = .pointer (some ⟨p, 0, none⟩) := hd 2 (by decide)
    obtain ⟨x3, e3, y3, z3⟩ : InI 0 (5) (σ 3) := hd 3 (by decide)
    obtain ⟨x4, e4, y4, z4⟩ : InI (-1) (4) (σ 4) := hd 4 (by decide)
    obtain ⟨b5, e5, hb5, ha5⟩ : MkI w1.heap.size 6 (-1) (2) (σ 5) _ := hd 5 (by decide)
    have e6 : σ 6 = .pointer (some ⟨p, 0, none⟩) := hd 6 (by decide)
    obtain ⟨x7, e7, y7, z7⟩ : InI 0 (5) (σ 7) := hd 7 (by decide)
    obtain ⟨b8, k8, e8, hk8, hb8, ha8⟩ : PtI w1.heap.size 6 (-1) (2) (σ 8) _ := hd 8 (by decide)
    obtain ⟨x9, e9, y9, z9⟩ : InI (-1) (2) (σ 9) := hd 9 (by decide)
    have hs10 : MpAt R _ := hd 10 (by decide)
    obtain ⟨x11, e11, y11, z11⟩ : InI (-1) (4) (σ 11) := hd 11 (by decide)
    obtain ⟨x12, e12, y12, z12⟩ : InI (-1) (2) (σ 12) := hd 12 (by decide)
    have HG := hid hG
    have HJ9 := hid hJ
    clear hd hG hJ
    simp only [actO, putO, List.setIfInBounds_toArray, List.set_cons_zero, List.set_cons_succ, Nat.reduceAdd, e0, e1, e2, e3, e4, e5, e6, e7, e8, e9, e11, e12]
    clear e0 e1 e2 e3 e4 e5 e6 e7 e8 e9 e11 e12
    obtain ⟨x, hb, hx⟩ := hs10
    have c0 := (cell_blk hb 0).trans (show _ = some (Value.int .i64 x.c) from rfl)
    have c1 := (cell_blk hb 1).trans (show _ = some (Value.int .i64 x.w) from rfl)
    have lR := lt_blk hb
    clear hb
    go_wp2_with (fail)
    refine bodyPost_ret (v := .tuple #[.agg #[.int .i64 x.c, .int .i64 x.w], .int .i64 x11, .int .i64 x12]) (by simp [results, Try.results10, go_sem, c0, c1, lR]) rfl ?_
    exact ⟨x, x11, x12, rfl, hx, by omega, by omega, EW1.out.chg2 HG.out (by omega) (by omega)⟩
set_option maxRecDepth 100000 in
set_option maxHeartbeats 8000000 in
theorem DrawPlcEdge_c (n c : Nat) (a : Option Addr) (w : World) (hB : Bytes w.heap.size w a n) (hc : n ≤ c) :
    Calls Try.prog 18 #[.slice a n c] w fun e w' => ∃ (m : Mp) (k s : Int), e = .returned (.tuple #[.agg #[.int .i64 m.c, .int .i64 m.w], .int .i64 k, .int .i64 s]) ∧ MapIn m ∧ (-1000 ≤ k ∧ k ≤ 1000) ∧ (-1 ≤ s ∧ s ≤ 2) ∧ Ext w w' := by
  have HB := hid hB
  clear hB
  go_enter Try.func18, Try.ntmps18
  try go_wp2_with (first
      | (go_at_call 54; refine (l20Open_c w.heap.size n c a _ (HB.out.chg (B := []) (Chg.of_ext (by ((try simp only [ext_drew]); (try simp only [ext_ext]); repeat (first | exact Ext.refl _ | with_reducible apply Ext.add | with_reducible apply Ext.dr | apply Ext.alloc | apply Ext.ext | apply Ext.drew | refine Ext.trans ?_ (by assumption)))) []) (by simp) (Nat.le_refl _)) (by (try simp [go_sem]) <;> (try simp [Xt.add]) <;> omega) hc).mono ?_; rintro e w1 ⟨rfl, hR, hE⟩; have HR := hid hR; have HE := hid hE; clear hR hE)
      | (
        with_reducible refine wp_region_mix (by kernel_rfl) (by decide +kernel) ?_
        repeat (first
          | (refine mix_pure rfl ?_; (first | go_big_quiet_skip | (go_big_quiet_want; go_big_quiet_op; go_big_quiet_on)); refine wpQuiet_nil ?_)
          | (refine mix_skip (by rfl) ?_; (try simp only [Act.put, List.setIfInBounds_toArray, List.set_cons_zero, List.set_cons_succ]))
          | (refine mix_mk rfl (by rfl) (fun K hK => ?_); (first | (go_simp; first | (go_at_call 54; refine (l20Open_c w.heap.size n c a _ (HB.out.chg (B := []) (Chg.of_ext (by ((try simp only [ext_drew]); (try simp only [ext_ext]); repeat (first | exact Ext.refl _ | with_reducible apply Ext.add | with_reducible apply Ext.dr | apply Ext.alloc | apply Ext.ext | apply Ext.drew | refine Ext.trans ?_ (by assumption)))) []) (by simp) (Nat.le_refl _)) (by (try simp [go_sem]) <;> (try simp [Xt.add]) <;> omega) hc).mono ?_; rintro e w1 ⟨rfl, hR, hE⟩; have HR := hid hR; have HE := hid hE; clear hR hE) | skip)); (show K _ _); refine hK _ _ (show Ext _ _ from (by ((try simp only [ext_drew]); (try simp only [ext_ext]); repeat (first | exact Ext.refl _ | with_reducible apply Ext.add | with_reducible apply Ext.dr | apply Ext.alloc | apply Ext.ext | apply Ext.drew | refine Ext.trans ?_ (by assumption))))) ?_; clear hK K; (try simp only [Act.put, List.setIfInBounds_toArray, List.set_cons_zero, List.set_cons_succ])))
        refine mix_nil ?_)
      | (
        with_reducible refine wp_region_ext (by kernel_rfl) (by kernel_rfl) ?_
        repeat (first | go_big_quiet_skip | (go_big_quiet_want; go_big_quiet_op; first | go_big_quiet_on | (apply Exists.intro; refine ⟨fun _ => ?_, ?_⟩; (fail); (try rw [h1]); (try rw [h2]); (try rw [h3]); (try rw [h4]); (try rw [p1]); (try rw [p2]); (try rw [p3]); (try rw [p4]); (try rw [r1]); (try rw [r2]); (try rw [r3]); (try rw [r4]); (try rw [r5]); (try rw [r6]); (try rw [q3]); (try rw [q4]); (try rw [hp]); (try rw [hq]); go_big_quiet_on)))
        refine wpQuiet_nil ?_
        rintro _ ⟨tq, rfl⟩))
  obtain ⟨p, hp⟩ : ∃ p, (w.alloc (Obj.cells #[.int .i64 0, .int .i64 0] 24)).heap.size = p := ⟨_, rfl⟩
  have hp1 : p = w.heap.size + 1 := by rw [← hp]; simp
  have hR0 := HR.out
  rw [hp] at hR0
  have bR0 : w1.heap[w.heap.size]? = some (.cells #[.int .i64 0, .int .i64 0] 24 (0, 0)) := (HE.out.block (by simp)).trans (alloc_last (by simp))
  have hpW : p < w1.heap.size := hR0.lt
  have EW1 := hid (show Ext w w1 from ((Ext.refl w).alloc _).trans HE.out)
  rw [← hp1]
  obtain ⟨R, hRe⟩ : ∃ R, w.heap.size = R := ⟨_, rfl⟩
  have HJ := hid (show Rdr w.heap.size p 0 w1 ∧ MpB R w1 from ⟨hR0, ⟨0, 0⟩, hRe ▸ bR0⟩)
  have hRW : R < w1.heap.size := hRe ▸ lt_blk bR0
  have hRp : R ≠ p := by omega
  have hloR : w.heap.size ≤ R := by omega
  have hwp : w.heap.size ≤ p := by omega
  have hwR : w.heap.size ≤ R := by omega
  rw [hRe]
  rw [hRe] at HJ
  clear HR HE hp hp1 hR0 bR0
  have HR0 := hid HJ.out.1
  refine (l20Map_c R p 0 w1 HR0.out (by omega)).mono ?_
  rintro e w2 ⟨m, rfl, hm, hR2, hC2⟩
  have bR2 : MpB R w2 := HJ.out.2.chg hC2 (by simpa using hRp)
  have hE2 : Ext w w2 := EW1.out.chg2 (R := p) (hC2.mono (by simp)) (by omega) (by omega)
  have HR2 := hid hR2
  have HC2 := hid bR2
  have HE2 := hid hE2
  clear hR2 bR2 hE2 HR0 HJ EW1
  try go_wp2_with (first
      | fail
      | (
        with_reducible refine wp_region_mix (by kernel_rfl) (by decide +kernel) ?_
        repeat (first
          | (refine mix_pure rfl ?_; (first | go_big_quiet_skip | (go_big_quiet_want; go_big_quiet_op; go_big_quiet_on)); refine wpQuiet_nil ?_)
          | (refine mix_skip (by rfl) ?_; (try simp only [Act.put, List.setIfInBounds_toArray, List.set_cons_zero, List.set_cons_succ]))
          | (refine mix_mk rfl (by rfl) (fun K hK => ?_); (first | (go_simp; first | skip)); (show K _ _); refine hK _ _ (show Ext _ _ from (by ((try simp only [ext_drew]); (try simp only [ext_ext]); repeat (first | exact Ext.refl _ | with_reducible apply Ext.add | with_reducible apply Ext.dr | apply Ext.alloc | apply Ext.ext | apply Ext.drew | refine Ext.trans ?_ (by assumption))))) ?_; clear hK K; (try simp only [Act.put, List.setIfInBounds_toArray, List.set_cons_zero, List.set_cons_succ])))
        refine mix_nil ?_)
      | (
        with_reducible refine wp_region_ext (by kernel_rfl) (by kernel_rfl) ?_
        repeat (first | go_big_quiet_skip | (go_big_quiet_want; go_big_quiet_op; first | go_big_quiet_on | (apply Exists.intro; refine ⟨fun _ => ?_, ?_⟩; (fail); (try rw [h1]); (try rw [h2]); (try rw [h3]); (try rw [h4]); (try rw [p1]); (try rw [p2]); (try rw [p3]); (try rw [p4]); (try rw [r1]); (try rw [r2]); (try rw [r3]); (try rw [r4]); (try rw [r5]); (try rw [r6]); (try rw [q3]); (try rw [q4]); (try rw [hp]); (try rw [hq]); go_big_quiet_on)))
        refine wpQuiet_nil ?_
        rintro _ ⟨tq, rfl⟩))
  refine wp_gen fun V hV => ?_
  obtain ⟨M, hM⟩ : ∃ M, w2.heap.size = M := ⟨_, rfl⟩
  rw [hM]
  have bM : V.heap[M]? = some (.cells #[.int .i64 m.c, .int .i64 m.w] 24 (0, 0)) := by rw [hV, ← hM]; exact alloc_last rfl
  have EV : Ext w2 V := by rw [hV]; ((try simp only [ext_drew]); (try simp only [ext_ext]); repeat (first | exact Ext.refl _ | with_reducible apply Ext.add | with_reducible apply Ext.dr | apply Ext.alloc | apply Ext.ext | apply Ext.drew | refine Ext.trans ?_ (by assumption)))
  have EW1 := hid (HE2.out.trans EV)
  have HJ := hid (show Rdr R p 4 V ∧ MJ M m R V from ⟨HR2.out.of EV, HC2.out.of EV, bM⟩)
  have lp2 := HR2.out.lt
  have lR2 : R < w2.heap.size := by obtain ⟨_, hb⟩ := HC2.out; exact lt_blk hb
  have lM : M < V.heap.size := lt_blk bM
  have hMR : M ≠ R := by omega
  have hRM : R ≠ M := by omega
  have hMp : M ≠ p := by omega
  have hRW : R < V.heap.size := by omega
  have hpW : p < V.heap.size := by omega
  have hmu := map_mul9 hm
  have hm0 := hm
  obtain ⟨m0, m1, m2, m3⟩ := hm0
  clear hV bM EV HR2 HC2 HE2 hM
  refine wp_region_flowD [some 11, some 12, some 13, some 14, some 15, some 16, some 17, some 18, some 19, some 20, some 21, some 22, some 23, some 24, some 25, some 26, some 27, some 28, some 29, some 30, some 31, some 32, some 33, some 34, some 35, some 36, some 37, some 38, none, some 3, some 4] (fun a b => Chg [p, R] a b) (fun i a b => Chg (bif i == 28 then [R] else [p]) a b) (fun k9 w9 => Rdr R p (4 + 1 * k9) w9 ∧ MJ M m R w9) (fun i v9 w9 => match i with
    | 0 => v9 = .agg #[.int .i64 (m.c), .int .i64 (m.w)]
    | 1 => v9 = .pointer (some ⟨M, 1, none⟩)
    | 2 => v9 = .int .i64 (m.w)
    | 3 => InI (-2) (8) (v9)
    | 4 => v9 = .pointer (some ⟨M, 1, none⟩)
    | 5 => v9 = .int .i64 (m.w)
    | 6 => v9 = .pointer (some ⟨M, 1, none⟩)
    | 7 => v9 = .int .i64 (m.w)
    | 8 => InI (-2) (18) (v9)
    | 9 => InI (-3) (17) (v9)
    | 10 => v9 = .pointer (some ⟨M, 0, none⟩)
    | 11 => v9 = .int .i64 (m.c)
    | 12 => v9 = .pointer (some ⟨M, 1, none⟩)
    | 13 => v9 = .int .i64 (m.w)
    | 14 => InI (-9) (81) (v9)
    | 15 => InI (-10) (80) (v9)
    | 16 => v9 = .pointer (some ⟨p, 0, none⟩)
    | 17 => InI 0 (11) (v9)
    | 18 => MkI V.heap.size 7 (-10) (80) (v9) w9
    | 19 => v9 = .pointer (some ⟨p, 0, none⟩)
    | 20 => InI 0 (6) (v9)
    | 21 => PtI V.heap.size 7 (-10) (80) (v9) w9
    | 22 => InI (-10) (80) (v9)
    | 23 => MkI V.heap.size 6 (-1) (2) (v9) w9
    | 24 => v9 = .pointer (some ⟨p, 0, none⟩)
    | 25 => InI 0 (5) (v9)
    | 26 => PtI V.heap.size 6 (-1) (2) (v9) w9
    | 27 => InI (-1) (2) (v9)
    | 28 => MpAt R w9
    | 29 => InI (-10) (80) (v9)
    | _ => InI (-1) (2) (v9)) (by kernel_rfl) (by decide +kernel) (by simp) (fun a => Chg.refl _ a) (fun a b c h k => Chg.trans h k) ?_ (Chg.drew (Chg.refl _ _)) ?_ ?_ ?_ ?_
  · intro i a b hi hG
    refine hG.mono ?_
    cases (i == 28) <;> simp
  · exact ⟨HJ.out.1.of (by ((try simp only [ext_drew]); (try simp only [ext_ext]); repeat (first | exact Ext.refl _ | with_reducible apply Ext.add | with_reducible apply Ext.dr | apply Ext.alloc | apply Ext.ext | apply Ext.drew | refine Ext.trans ?_ (by assumption)))), HJ.out.2.drw⟩
  · intro i j hi hj hij v9 w9 w8 hg hS hG
    have hG2 : Chg [p, R] w9 w8 := hG.mono (by cases (i == 28) <;> simp)
    have hj9 : j < 31 := hj
    clear hi hj
    match j, hj9 with
    | 0, _ => exact hS
    | 1, _ => exact hS
    | 2, _ => exact hS
    | 3, _ => exact hS
    | 4, _ => exact hS
    | 5, _ => exact hS
    | 6, _ => exact hS
    | 7, _ => exact hS
    | 8, _ => exact hS
    | 9, _ => exact hS
    | 10, _ => exact hS
    | 11, _ => exact hS
    | 12, _ => exact hS
    | 13, _ => exact hS
    | 14, _ => exact hS
    | 15, _ => exact hS
    | 16, _ => exact hS
    | 17, _ => exact hS
    | 18, _ => exact MkI.chg hS hG2 (by simp; omega)
    | 19, _ => exact hS
    | 20, _ => exact hS
    | 21, _ => exact PtI.chg hS hG2 (by simp; omega)
    | 22, _ => exact hS
    | 23, _ => exact MkI.chg hS hG2 (by simp; omega)
    | 24, _ => exact hS
    | 25, _ => exact hS
    | 26, _ => exact PtI.chg hS hG2 (by simp; omega)
    | 27, _ => exact hS
    | 28, _ =>
      have h9 : (i == 28) = false := by simpa using hij
      rw [h9, cond_false] at hG
      exact hS.chg hG (by simpa using hRp)
    | 29, _ => exact hS
    | 30, _ => exact hS
    | n + 31, h9 => exact absurd h9 (by omega)
  · intro i oo ho σ k9 w9 hG hk9 hJ hd
    have HG := hid hG
    have HJ9 := hid hJ
    have lp9 : p < w9.heap.size := Nat.lt_of_lt_of_le hpW hG.size
    have lR9 : R < w9.heap.size := Nat.lt_of_lt_of_le hRW hG.size
    have hW9 := hG.size
    have hkN : k9 < 31 := hk9
    have hi9 : i < 31 := (List.getElem?_eq_some_iff.1 ho).1
    clear hG hJ hk9
    match i, hi9, ho with
    | 0, _, ho =>
      have cM0 := (cell_blk HJ9.out.2.2 0).trans (show _ = some (Value.int .i64 m.c) from rfl)
      have zM0 := frozen_blk HJ9.out.2.2 0
      have cM1 := (cell_blk HJ9.out.2.2 1).trans (show _ = some (Value.int .i64 m.w) from rfl)
      have zM1 := frozen_blk HJ9.out.2.2 1
      have lM9 := lt_blk HJ9.out.2.2
      obtain rfl := Option.some.inj ho
      clear hd ho
      simp only [actO, putO, List.setIfInBounds_toArray, List.set_cons_zero, List.set_cons_succ, Nat.reduceAdd]
      refine flow_K (fun K hK => ?_)
      go_simp
      (show K _ _)
      refine hK _ _ ⟨_, rfl, by simp, Chg.of_ext (show Ext _ _ from (by ((try simp only [ext_drew]); (try simp only [ext_ext]); repeat (first | exact Ext.refl _ | with_reducible apply Ext.add | with_reducible apply Ext.dr | apply Ext.alloc | apply Ext.ext | apply Ext.drew | refine Ext.trans ?_ (by assumption))))) _, ⟨(HJ9.out.1.of (show Ext _ _ from (by ((try simp only [ext_drew]); (try simp only [ext_ext]); repeat (first | exact Ext.refl _ | with_reducible apply Ext.add | with_reducible apply Ext.dr | apply Ext.alloc | apply Ext.ext | apply Ext.drew | refine Ext.trans ?_ (by assumption)))))).up (by omega), HJ9.out.2.of (show Ext _ _ from (by ((try simp only [ext_drew]); (try simp only [ext_ext]); repeat (first | exact Ext.refl _ | with_reducible apply Ext.add | with_reducible apply Ext.dr | apply Ext.alloc | apply Ext.ext | apply Ext.drew | refine Ext.trans ?_ (by assumption)))))⟩, rfl⟩
    | 1, _, ho =>
      obtain rfl := Option.some.inj ho
      clear hd ho
      simp only [actO, putO, List.setIfInBounds_toArray, List.set_cons_zero, List.set_cons_succ, Nat.reduceAdd]
      refine flow_K (fun K hK => ?_)
      go_simp
      (show K _ _)
      refine hK _ _ ⟨_, rfl, by simp, Chg.of_ext (show Ext _ _ from (by ((try simp only [ext_drew]); (try simp only [ext_ext]); repeat (first | exact Ext.refl _ | with_reducible apply Ext.add | with_reducible apply Ext.dr | apply Ext.alloc | apply Ext.ext | apply Ext.drew | refine Ext.trans ?_ (by assumption))))) _, ⟨(HJ9.out.1.of (show Ext _ _ from (by ((try simp only [ext_drew]); (try simp only [ext_ext]); repeat (first | exact Ext.refl _ | with_reducible apply Ext.add | with_reducible apply Ext.dr | apply Ext.alloc | apply Ext.ext | apply Ext.drew | refine Ext.trans ?_ (by assumption)))))).up (by omega), HJ9.out.2.of (show Ext _ _ from (by ((try simp only [ext_drew]); (try simp only [ext_ext]); repeat (first | exact Ext.refl _ | with_reducible apply Ext.add | with_reducible apply Ext.dr | apply Ext.alloc | apply Ext.ext | apply Ext.drew | refine Ext.trans ?_ (by assumption)))))⟩, rfl⟩
    | 2, _, ho =>
      have e1 : σ 1 = .pointer (some ⟨M, 1, none⟩) := hd 1 (by obtain rfl := Option.some.inj ho; kernel_rfl)
      have cM0 := (cell_blk HJ9.out.2.2 0).trans (show _ = some (Value.int .i64 m.c) from rfl)
      have zM0 := frozen_blk HJ9.out.2.2 0
      have cM1 := (cell_blk HJ9.out.2.2 1).trans (show _ = some (Value.int .i64 m.w) from rfl)
      have zM1 := frozen_blk HJ9.out.2.2 1
      have lM9 := lt_blk HJ9.out.2.2
      obtain rfl := Option.some.inj ho
      clear hd ho
      simp only [actO, putO, List.setIfInBounds_toArray, List.set_cons_zero, List.set_cons_succ, Nat.reduceAdd, e1]
      refine flow_K (fun K hK => ?_)
      go_simp
      (show K _ _)
      refine hK _ _ ⟨_, rfl, by simp, Chg.of_ext (show Ext _ _ from (by ((try simp only [ext_drew]); (try simp only [ext_ext]); repeat (first | exact Ext.refl _ | with_reducible apply Ext.add | with_reducible apply Ext.dr | apply Ext.alloc | apply Ext.ext | apply Ext.drew | refine Ext.trans ?_ (by assumption))))) _, ⟨(HJ9.out.1.of (show Ext _ _ from (by ((try simp only [ext_drew]); (try simp only [ext_ext]); repeat (first | exact Ext.refl _ | with_reducible apply Ext.add | with_reducible apply Ext.dr | apply Ext.alloc | apply Ext.ext | apply Ext.drew | refine Ext.trans ?_ (by assumption)))))).up (by omega), HJ9.out.2.of (show Ext _ _ from (by ((try simp only [ext_drew]); (try simp only [ext_ext]); repeat (first | exact Ext.refl _ | with_reducible apply Ext.add | with_reducible apply Ext.dr | apply Ext.alloc | apply Ext.ext | apply Ext.drew | refine Ext.trans ?_ (by assumption)))))⟩, rfl⟩
    | 3, _, ho =>
      have e2 : σ 2 = .int .i64 (m.w) := hd 2 (by obtain rfl := Option.some.inj ho; kernel_rfl)
      have hwr : IntKind.i64.wrap (m.w - 1) = m.w - 1 := by simp [IntKind.wrap, IntKind.bits, IntKind.signed]; omega
      obtain rfl := Option.some.inj ho
      clear hd ho
      simp only [actO, putO, List.setIfInBounds_toArray, List.set_cons_zero, List.set_cons_succ, Nat.reduceAdd, e2]
      refine flow_K (fun K hK => ?_)
      go_simp
      (try rw [hwr])
      (show K _ _)
      refine hK _ _ ⟨_, rfl, by simp, Chg.of_ext (show Ext _ _ from (by ((try simp only [ext_drew]); (try simp only [ext_ext]); repeat (first | exact Ext.refl _ | with_reducible apply Ext.add | with_reducible apply Ext.dr | apply Ext.alloc | apply Ext.ext | apply Ext.drew | refine Ext.trans ?_ (by assumption))))) _, ⟨(HJ9.out.1.of (show Ext _ _ from (by ((try simp only [ext_drew]); (try simp only [ext_ext]); repeat (first | exact Ext.refl _ | with_reducible apply Ext.add | with_reducible apply Ext.dr | apply Ext.alloc | apply Ext.ext | apply Ext.drew | refine Ext.trans ?_ (by assumption)))))).up (by omega), HJ9.out.2.of (show Ext _ _ from (by ((try simp only [ext_drew]); (try simp only [ext_ext]); repeat (first | exact Ext.refl _ | with_reducible apply Ext.add | with_reducible apply Ext.dr | apply Ext.alloc | apply Ext.ext | apply Ext.drew | refine Ext.trans ?_ (by assumption)))))⟩, ⟨_, rfl, by omega, by omega⟩⟩
    | 4, _, ho =>
      obtain rfl := Option.some.inj ho
      clear hd ho
      simp only [actO, putO, List.setIfInBounds_toArray, List.set_cons_zero, List.set_cons_succ, Nat.reduceAdd]
      refine flow_K (fun K hK => ?_)
      go_simp
      (show K _ _)
      refine hK _ _ ⟨_, rfl, by simp, Chg.of_ext (show Ext _ _ from (by ((try simp only [ext_drew]); (try simp only [ext_ext]); repeat (first | exact Ext.refl _ | with_reducible apply Ext.add | with_reducible apply Ext.dr | apply Ext.alloc | apply Ext.ext | apply Ext.drew | refine Ext.trans ?_ (by assumption))))) _, ⟨(HJ9.out.1.of (show Ext _ _ from (by ((try simp only [ext_drew]); (try simp only [ext_ext]); repeat (first | exact Ext.refl _ | with_reducible apply Ext.add | with_reducible apply Ext.dr | apply Ext.alloc | apply Ext.ext | apply Ext.drew | refine Ext.trans ?_ (by assumption)))))).up (by omega), HJ9.out.2.of (show Ext _ _ from (by ((try simp only [ext_drew]); (try simp only [ext_ext]); repeat (first | exact Ext.refl _ | with_reducible apply Ext.add | with_reducible apply Ext.dr | apply Ext.alloc | apply Ext.ext | apply Ext.drew | refine Ext.trans ?_ (by assumption)))))⟩, rfl⟩
    | 5, _, ho =>
      have e4 : σ 4 = .pointer (some ⟨M, 1, none⟩) := hd 4 (by obtain rfl := Option.some.inj ho; kernel_rfl)
      have cM0 := (cell_blk HJ9.out.2.2 0).trans (show _ = some (Value.int .i64 m.c) from rfl)
      have zM0 := frozen_blk HJ9.out.2.2 0
      have cM1 := (cell_blk HJ9.out.2.2 1).trans (show _ = some (Value.int .i64 m.w) from rfl)
      have zM1 := frozen_blk HJ9.out.2.2 1
      have lM9 := lt_blk HJ9.out.2.2
      obtain rfl := Option.some.inj ho
      clear hd ho
      simp only [actO, putO, List.setIfInBounds_toArray, List.set_cons_zero, List.set_cons_succ, Nat.reduceAdd, e4]
      refine flow_K (fun K hK => ?_)
      go_simp
      (show K _ _)
      refine hK _ _ ⟨_, rfl, by simp, Chg.of_ext (show Ext _ _ from (by ((try simp only [ext_drew]); (try simp only [ext_ext]); repeat (first | exact Ext.refl _ | with_reducible apply Ext.add | with_reducible apply Ext.dr | apply Ext.alloc | apply Ext.ext | apply Ext.drew | refine Ext.trans ?_ (by assumption))))) _, ⟨(HJ9.out.1.of (show Ext _ _ from (by ((try simp only [ext_drew]); (try simp only [ext_ext]); repeat (first | exact Ext.refl _ | with_reducible apply Ext.add | with_reducible apply Ext.dr | apply Ext.alloc | apply Ext.ext | apply Ext.drew | refine Ext.trans ?_ (by assumption)))))).up (by omega), HJ9.out.2.of (show Ext _ _ from (by ((try simp only [ext_drew]); (try simp only [ext_ext]); repeat (first | exact Ext.refl _ | with_reducible apply Ext.add | with_reducible apply Ext.dr | apply Ext.alloc | apply Ext.ext | apply Ext.drew | refine Ext.trans ?_ (by assumption)))))⟩, rfl⟩
    | 6, _, ho =>
      obtain rfl := Option.some.inj ho
      clear hd ho
      simp only [actO, putO, List.setIfInBounds_toArray, List.set_cons_zero, List.set_cons_succ, Nat.reduceAdd]
      refine flow_K (fun K hK => ?_)
      go_simp
      (show K _ _)
      refine hK _ _ ⟨_, rfl, by simp, Chg.of_ext (show Ext _ _ from (by ((try simp only [ext_drew]); (try simp only [ext_ext]); repeat (first | exact Ext.refl _ | with_reducible apply Ext.add | with_reducible apply Ext.dr | apply Ext.alloc | apply Ext.ext | apply Ext.drew | refine Ext.trans ?_ (by assumption))))) _, ⟨(HJ9.out.1.of (show Ext _ _ from (by ((try simp only [ext_drew]); (try simp only [ext_ext]); repeat (first | exact Ext.refl _ | with_reducible apply Ext.add | with_reducible apply Ext.dr | apply Ext.alloc | apply Ext.ext | apply Ext.drew | refine Ext.trans ?_ (by assumption)))))).up (by omega), HJ9.out.2.of (show Ext _ _ from (by ((try simp only [ext_drew]); (try simp only [ext_ext]); repeat (first | exact Ext.refl _ | with_reducible apply Ext.add | with_reducible apply Ext.dr | apply Ext.alloc | apply Ext.ext | apply Ext.drew | refine Ext.trans ?_ (by assumption)))))⟩, rfl⟩
    | 7, _, ho =>
      have e6 : σ 6 = .pointer (some ⟨M, 1, none⟩) := hd 6 (by obtain rfl := Option.some.inj ho; kernel_rfl)
      have cM0 := (cell_blk HJ9.out.2.2 0).trans (show _ = some (Value.int .i64 m.c) from rfl)
      have zM0 := frozen_blk HJ9.out.2.2 0
      have cM1 := (cell_blk HJ9.out.2.2 1).trans (show _ = some (Value.int .i64 m.w) from rfl)
      have zM1 := frozen_blk HJ9.out.2.2 1
      have lM9 := lt_blk HJ9.out.2.2
      obtain rfl := Option.some.inj ho
      clear hd ho
      simp only [actO, putO, List.setIfInBounds_toArray, List.set_cons_zero, List.set_cons_succ, Nat.reduceAdd, e6]
      refine flow_K (fun K hK => ?_)
      go_simp
      (show K _ _)
      refine hK _ _ ⟨_, rfl, by simp, Chg.of_ext (show Ext _ _ from (by ((try simp only [ext_drew]); (try simp only [ext_ext]); repeat (first | exact Ext.refl _ | with_reducible apply Ext.add | with_reducible apply Ext.dr | apply Ext.alloc | apply Ext.ext | apply Ext.drew | refine Ext.trans ?_ (by assumption))))) _, ⟨(HJ9.out.1.of (show Ext _ _ from (by ((try simp only [ext_drew]); (try simp only [ext_ext]); repeat (first | exact Ext.refl _ | with_reducible apply Ext.add | with_reducible apply Ext.dr | apply Ext.alloc | apply Ext.ext | apply Ext.drew | refine Ext.trans ?_ (by assumption)))))).up (by omega), HJ9.out.2.of (show Ext _ _ from (by ((try simp only [ext_drew]); (try simp only [ext_ext]); repeat (first | exact Ext.refl _ | with_reducible apply Ext.add | with_reducible apply Ext.dr | apply Ext.alloc | apply Ext.ext | apply Ext.drew | refine Ext.trans ?_ (by assumption)))))⟩, rfl⟩
    | 8, _, ho =>
      have e7 : σ 7 = .int .i64 (m.w) := hd 7 (by obtain rfl := Option.some.inj ho; kernel_rfl)
      have hwr : IntKind.i64.wrap (2 * m.w) = 2 * m.w := by simp [IntKind.wrap, IntKind.bits, IntKind.signed]; omega
      obtain rfl := Option.some.inj ho
      clear hd ho
      simp only [actO, putO, List.setIfInBounds_toArray, List.set_cons_zero, List.set_cons_succ, Nat.reduceAdd, e7]
      refine flow_K (fun K hK => ?_)
      go_simp
      (try rw [hwr])
      (show K _ _)
      refine hK _ _ ⟨_, rfl, by simp, Chg.of_ext (show Ext _ _ from (by ((try simp only [ext_drew]); (try simp only [ext_ext]); repeat (first | exact Ext.refl _ | with_reducible apply Ext.add | with_reducible apply Ext.dr | apply Ext.alloc | apply Ext.ext | apply Ext.drew | refine Ext.trans ?_ (by assumption))))) _, ⟨(HJ9.out.1.of (show Ext _ _ from (by ((try simp only [ext_drew]); (try simp only [ext_ext]); repeat (first | exact Ext.refl _ | with_reducible apply Ext.add | with_reducible apply Ext.dr | apply Ext.alloc | apply Ext.ext | apply Ext.drew | refine Ext.trans ?_ (by assumption)))))).up (by omega), HJ9.out.2.of (show Ext _ _ from (by ((try simp only [ext_drew]); (try simp only [ext_ext]); repeat (first | exact Ext.refl _ | with_reducible apply Ext.add | with_reducible apply Ext.dr | apply Ext.alloc | apply Ext.ext | apply Ext.drew | refine Ext.trans ?_ (by assumption)))))⟩, ⟨_, rfl, by omega, by omega⟩⟩
    | 9, _, ho =>
      obtain ⟨x8, e8, y8, z8⟩ : InI (-2) (18) (σ 8) := hd 8 (by obtain rfl := Option.some.inj ho; kernel_rfl)
      have hwr : IntKind.i64.wrap (x8 - 1) = x8 - 1 := by simp [IntKind.wrap, IntKind.bits, IntKind.signed]; omega
      obtain rfl := Option.some.inj ho
      clear hd ho
      simp only [actO, putO, List.setIfInBounds_toArray, List.set_cons_zero, List.set_cons_succ, Nat.reduceAdd, e8]
      refine flow_K (fun K hK => ?_)
      go_simp
      (try rw [hwr])
      (show K _ _)
      refine hK _ _ ⟨_, rfl, by simp, Chg.of_ext (show Ext _ _ from (by ((try simp only [ext_drew]); (try simp only [ext_ext]); repeat (first | exact Ext.refl _ | with_reducible apply Ext.add | with_reducible apply Ext.dr | apply Ext.alloc | apply Ext.ext | apply Ext.drew | refine Ext.trans ?_ (by assumption))))) _, ⟨(HJ9.out.1.of (show Ext _ _ from (by ((try simp only [ext_drew]); (try simp only [ext_ext]); repeat (first | exact Ext.refl _ | with_reducible apply Ext.add | with_reducible apply Ext.dr | apply Ext.alloc | apply Ext.ext | apply Ext.drew | refine Ext.trans ?_ (by assumption)))))).up (by omega), HJ9.out.2.of (show Ext _ _ from (by ((try simp only [ext_drew]); (try simp only [ext_ext]); repeat (first | exact Ext.refl _ | with_reducible apply Ext.add | with_reducible apply Ext.dr | apply Ext.alloc | apply Ext.ext | apply Ext.drew | refine Ext.trans ?_ (by assumption)))))⟩, ⟨_, rfl, by omega, by omega⟩⟩
    | 10, _, ho =>
      obtain rfl := Option.some.inj ho
      clear hd ho
      simp only [actO, putO, List.setIfInBounds_toArray, List.set_cons_zero, List.set_cons_succ, Nat.reduceAdd]
      refine flow_K (fun K hK => ?_)
      go_simp
      (show K _ _)
      refine hK _ _ ⟨_, rfl, by simp, Chg.of_ext (show Ext _ _ from (by ((try simp only [ext_drew]); (try simp only [ext_ext]); repeat (first | exact Ext.refl _ | with_reducible apply Ext.add | with_reducible apply Ext.dr | apply Ext.alloc | apply Ext.ext | apply Ext.drew | refine Ext.trans ?_ (by assumption))))) _, ⟨(HJ9.out.1.of (show Ext _ _ from (by ((try simp only [ext_drew]); (try simp only [ext_ext]); repeat (first | exact Ext.refl _ | with_reducible apply Ext.add | with_reducible apply Ext.dr | apply Ext.alloc | apply Ext.ext | apply Ext.drew | refine Ext.trans ?_ (by assumption)))))).up (by omega), HJ9.out.2.of (show Ext _ _ from (by ((try simp only [ext_drew]); (try simp only [ext_ext]); repeat (first | exact Ext.refl _ | with_reducible apply Ext.add | with_reducible apply Ext.dr | apply Ext.alloc | apply Ext.ext | apply Ext.drew | refine Ext.trans ?_ (by assumption)))))⟩, rfl⟩
    | 11, _, ho =>
      have e10 : σ 10 = .pointer (some ⟨M, 0, none⟩) := hd 10 (by obtain rfl := Option.some.inj ho; kernel_rfl)
      have cM0 := (cell_blk HJ9.out.2.2 0).trans (show _ = some (Value.int .i64 m.c) from rfl)
      have zM0 := frozen_blk HJ9.out.2.2 0
      have cM1 := (cell_blk HJ9.out.2.2 1).trans (show _ = some (Value.int .i64 m.w) from rfl)
      have zM1 := frozen_blk HJ9.out.2.2 1
      have lM9 := lt_blk HJ9.out.2.2
      obtain rfl := Option.some.inj ho
      clear hd ho
      simp only [actO, putO, List.setIfInBounds_toArray, List.set_cons_zero, List.set_cons_succ, Nat.reduceAdd, e10]
      refine flow_K (fun K hK => ?_)
      go_simp
      (show K _ _)
      refine hK _ _ ⟨_, rfl, by simp, Chg.of_ext (show Ext _ _ from (by ((try simp only [ext_drew]); (try simp only [ext_ext]); repeat (first | exact Ext.refl _ | with_reducible apply Ext.add | with_reducible apply Ext.dr | apply Ext.alloc | apply Ext.ext | apply Ext.drew | refine Ext.trans ?_ (by assumption))))) _, ⟨(HJ9.out.1.of (show Ext _ _ from (by ((try simp only [ext_drew]); (try simp only [ext_ext]); repeat (first | exact Ext.refl _ | with_reducible apply Ext.add | with_reducible apply Ext.dr | apply Ext.alloc | apply Ext.ext | apply Ext.drew | refine Ext.trans ?_ (by assumption)))))).up (by omega), HJ9.out.2.of (show Ext _ _ from (by ((try simp only [ext_drew]); (try simp only [ext_ext]); repeat (first | exact Ext.refl _ | with_reducible apply Ext.add | with_reducible apply Ext.dr | apply Ext.alloc | apply Ext.ext | apply Ext.drew | refine Ext.trans ?_ (by assumption)))))⟩, rfl⟩
    | 12, _, ho =>
      obtain rfl := Option.some.inj ho
      clear hd ho
      simp only [actO, putO, List.setIfInBounds_toArray, List.set_cons_zero, List.set_cons_succ, Nat.reduceAdd]
      refine flow_K (fun K hK => ?_)
      go_simp
      (show K _ _)
      refine hK _ _ ⟨_, rfl, by simp, Chg.of_ext (show Ext _ _ from (by ((try simp only [ext_drew]); (try simp only [ext_ext]); repeat (first | exact Ext.refl _ | with_reducible apply Ext.add | with_reducible apply Ext.dr | apply Ext.alloc | apply Ext.ext | apply Ext.drew | refine Ext.trans ?_ (by assumption))))) _, ⟨(HJ9.out.1.of (show Ext _ _ from (by ((try simp only [ext_drew]); (try simp only [ext_ext]); repeat (first | exact Ext.refl _ | with_reducible apply Ext.add | with_reducible apply Ext.dr | apply Ext.alloc | apply Ext.ext | apply Ext.drew | refine Ext.trans ?_ (by assumption)))))).up (by omega), HJ9.out.2.of (show Ext _ _ from (by ((try simp only [ext_drew]); (try simp only [ext_ext]); repeat (first | exact Ext.refl _ | with_reducible apply Ext.add | with_reducible apply Ext.dr | apply Ext.alloc | apply Ext.ext | apply Ext.drew | refine Ext.trans ?_ (by assumption)))))⟩, rfl⟩
    | 13, _, ho =>
      have e12 : σ 12 = .pointer (some ⟨M, 1, none⟩) := hd 12 (by obtain rfl := Option.some.inj ho; kernel_rfl)
      have cM0 := (cell_blk HJ9.out.2.2 0).trans (show _ = some (Value.int .i64 m.c) from rfl)
      have zM0 := frozen_blk HJ9.out.2.2 0
      have cM1 := (cell_blk HJ9.out.2.2 1).trans (show _ = some (Value.int .i64 m.w) from rfl)
      have zM1 := frozen_blk HJ9.out.2.2 1
      have lM9 := lt_blk HJ9.out.2.2
      obtain rfl := Option.some.inj ho
      clear hd ho
      simp only [actO, putO, List.setIfInBounds_toArray, List.set_cons_zero, List.set_cons_succ, Nat.reduceAdd, e12]
      refine flow_K (fun K hK => ?_)
      go_simp
      (show K _ _)
      refine hK _ _ ⟨_, rfl, by simp, Chg.of_ext (show Ext _ _ from (by ((try simp only [ext_drew]); (try simp only [ext_ext]); repeat (first | exact Ext.refl _ | with_reducible apply Ext.add | with_reducible apply Ext.dr | apply Ext.alloc | apply Ext.ext | apply Ext.drew | refine Ext.trans ?_ (by assumption))))) _, ⟨(HJ9.out.1.of (show Ext _ _ from (by ((try simp only [ext_drew]); (try simp only [ext_ext]); repeat (first | exact Ext.refl _ | with_reducible apply Ext.add | with_reducible apply Ext.dr | apply Ext.alloc | apply Ext.ext | apply Ext.drew | refine Ext.trans ?_ (by assumption)))))).up (by omega), HJ9.out.2.of (show Ext _ _ from (by ((try simp only [ext_drew]); (try simp only [ext_ext]); repeat (first | exact Ext.refl _ | with_reducible apply Ext.add | with_reducible apply Ext.dr | apply Ext.alloc | apply Ext.ext | apply Ext.drew | refine Ext.trans ?_ (by assumption)))))⟩, rfl⟩
    | 14, _, ho =>
      have e11 : σ 11 = .int .i64 (m.c) := hd 11 (by obtain rfl := Option.some.inj ho; kernel_rfl)
      have e13 : σ 13 = .int .i64 (m.w) := hd 13 (by obtain rfl := Option.some.inj ho; kernel_rfl)
      have hwr : IntKind.i64.wrap (m.c * m.w) = m.c * m.w := by simp [IntKind.wrap, IntKind.bits, IntKind.signed]; omega
      obtain rfl := Option.some.inj ho
      clear hd ho
      simp only [actO, putO, List.setIfInBounds_toArray, List.set_cons_zero, List.set_cons_succ, Nat.reduceAdd, e11, e13]
      refine flow_K (fun K hK => ?_)
      go_simp
      (try rw [hwr])
      (show K _ _)
      refine hK _ _ ⟨_, rfl, by simp, Chg.of_ext (show Ext _ _ from (by ((try simp only [ext_drew]); (try simp only [ext_ext]); repeat (first | exact Ext.refl _ | with_reducible apply Ext.add | with_reducible apply Ext.dr | apply Ext.alloc | apply Ext.ext | apply Ext.drew | refine Ext.trans ?_ (by assumption))))) _, ⟨(HJ9.out.1.of (show Ext _ _ from (by ((try simp only [ext_drew]); (try simp only [ext_ext]); repeat (first | exact Ext.refl _ | with_reducible apply Ext.add | with_reducible apply Ext.dr | apply Ext.alloc | apply Ext.ext | apply Ext.drew | refine Ext.trans ?_ (by assumption)))))).up (by omega), HJ9.out.2.of (show Ext _ _ from (by ((try simp only [ext_drew]); (try simp only [ext_ext]); repeat (first | exact Ext.refl _ | with_reducible apply Ext.add | with_reducible apply Ext.dr | apply Ext.alloc | apply Ext.ext | apply Ext.drew | refine Ext.trans ?_ (by assumption)))))⟩, ⟨_, rfl, by omega, by omega⟩⟩
    | 15, _, ho =>
      obtain ⟨x14, e14, y14, z14⟩ : InI (-9) (81) (σ 14) := hd 14 (by obtain rfl := Option.some.inj ho; kernel_rfl)
      have hwr : IntKind.i64.wrap (x14 - 1) = x14 - 1 := by simp [IntKind.wrap, IntKind.bits, IntKind.signed]; omega
      obtain rfl := Option.some.inj ho
      clear hd ho
      simp only [actO, putO, List.setIfInBounds_toArray, List.set_cons_zero, List.set_cons_succ, Nat.reduceAdd, e14]
      refine flow_K (fun K hK => ?_)
      go_simp
      (try rw [hwr])
      (show K _ _)
      refine hK _ _ ⟨_, rfl, by simp, Chg.of_ext (show Ext _ _ from (by ((try simp only [ext_drew]); (try simp only [ext_ext]); repeat (first | exact Ext.refl _ | with_reducible apply Ext.add | with_reducible apply Ext.dr | apply Ext.alloc | apply Ext.ext | apply Ext.drew | refine Ext.trans ?_ (by assumption))))) _, ⟨(HJ9.out.1.of (show Ext _ _ from (by ((try simp only [ext_drew]); (try simp only [ext_ext]); repeat (first | exact Ext.refl _ | with_reducible apply Ext.add | with_reducible apply Ext.dr | apply Ext.alloc | apply Ext.ext | apply Ext.drew | refine Ext.trans ?_ (by assumption)))))).up (by omega), HJ9.out.2.of (show Ext _ _ from (by ((try simp only [ext_drew]); (try simp only [ext_ext]); repeat (first | exact Ext.refl _ | with_reducible apply Ext.add | with_reducible apply Ext.dr | apply Ext.alloc | apply Ext.ext | apply Ext.drew | refine Ext.trans ?_ (by assumption)))))⟩, ⟨_, rfl, by omega, by omega⟩⟩
    | 16, _, ho =>
      obtain rfl := Option.some.inj ho
      clear hd ho
      simp only [actO, putO, List.setIfInBounds_toArray, List.set_cons_zero, List.set_cons_succ, Nat.reduceAdd]
      refine flow_K (fun K hK => ?_)
      go_simp
      (show K _ _)
      refine hK _ _ ⟨_, rfl, by simp, Chg.of_ext (show Ext _ _ from (by ((try simp only [ext_drew]); (try simp only [ext_ext]); repeat (first | exact Ext.refl _ | with_reducible apply Ext.add | with_reducible apply Ext.dr | apply Ext.alloc | apply Ext.ext | apply Ext.drew | refine Ext.trans ?_ (by assumption))))) _, ⟨(HJ9.out.1.of (show Ext _ _ from (by ((try simp only [ext_drew]); (try simp only [ext_ext]); repeat (first | exact Ext.refl _ | with_reducible apply Ext.add | with_reducible apply Ext.dr | apply Ext.alloc | apply Ext.ext | apply Ext.drew | refine Ext.trans ?_ (by assumption)))))).up (by omega), HJ9.out.2.of (show Ext _ _ from (by ((try simp only [ext_drew]); (try simp only [ext_ext]); repeat (first | exact Ext.refl _ | with_reducible apply Ext.add | with_reducible apply Ext.dr | apply Ext.alloc | apply Ext.ext | apply Ext.drew | refine Ext.trans ?_ (by assumption)))))⟩, rfl⟩
    | 17, _, ho =>
      have e16 : σ 16 = .pointer (some ⟨p, 0, none⟩) := hd 16 (by obtain rfl := Option.some.inj ho; kernel_rfl)
      obtain rfl := Option.some.inj ho
      clear hd ho
      simp only [actO, putO, List.setIfInBounds_toArray, List.set_cons_zero, List.set_cons_succ, Nat.reduceAdd, e16]
      refine flow_K (fun K hK => ?_)
      have HRd := hid HJ9.out.1
      go_simp
      refine (pick_c R p _ (12) w9 HRd.out (by omega) (by omega) (by omega)).mono ?_
      rintro e w8 ⟨vv, rfl, hv0, hv1, hR8, hC8⟩
      (show K _ _)
      refine hK _ _ ⟨_, rfl, by simp, hC8, ⟨hR8.up (by omega), HJ9.out.2.chg hC8 (by simp; omega)⟩, ⟨vv, rfl, hv0, by omega⟩⟩
    | 18, _, ho =>
      obtain ⟨x3, e3, y3, z3⟩ : InI (-2) (8) (σ 3) := hd 3 (by obtain rfl := Option.some.inj ho; kernel_rfl)
      have e5 : σ 5 = .int .i64 (m.w) := hd 5 (by obtain rfl := Option.some.inj ho; kernel_rfl)
      obtain ⟨x9, e9, y9, z9⟩ : InI (-3) (17) (σ 9) := hd 9 (by obtain rfl := Option.some.inj ho; kernel_rfl)
      obtain ⟨x15, e15, y15, z15⟩ : InI (-10) (80) (σ 15) := hd 15 (by obtain rfl := Option.some.inj ho; kernel_rfl)
      obtain ⟨x17, e17, y17, z17⟩ : InI 0 (11) (σ 17) := hd 17 (by obtain rfl := Option.some.inj ho; kernel_rfl)
      obtain rfl := Option.some.inj ho
      clear hd ho
      simp only [actO, putO, List.setIfInBounds_toArray, List.set_cons_zero, List.set_cons_succ, Nat.reduceAdd, e3, e5, e9, e15, e17]
      refine flow_K (fun K hK => ?_)
      go_simp
      (show K _ _)
      refine hK _ _ ⟨_, rfl, by simp, Chg.of_ext (show Ext _ _ from (by ((try simp only [ext_drew]); (try simp only [ext_ext]); repeat (first | exact Ext.refl _ | with_reducible apply Ext.add | with_reducible apply Ext.dr | apply Ext.alloc | apply Ext.ext | apply Ext.drew | refine Ext.trans ?_ (by assumption))))) _, ⟨(HJ9.out.1.of (show Ext _ _ from (by ((try simp only [ext_drew]); (try simp only [ext_ext]); repeat (first | exact Ext.refl _ | with_reducible apply Ext.add | with_reducible apply Ext.dr | apply Ext.alloc | apply Ext.ext | apply Ext.drew | refine Ext.trans ?_ (by assumption)))))).up (by omega), HJ9.out.2.of (show Ext _ _ from (by ((try simp only [ext_drew]); (try simp only [ext_ext]); repeat (first | exact Ext.refl _ | with_reducible apply Ext.add | with_reducible apply Ext.dr | apply Ext.alloc | apply Ext.ext | apply Ext.drew | refine Ext.trans ?_ (by assumption)))))⟩, ⟨_, rfl, by (try simp [go_sem]) <;> omega, ⟨_, heap_new (by simp [go_sem]), fun i hi => ?_⟩⟩⟩
      match i, hi with
      | 0, _ => exact ⟨0, rfl, by omega, by omega⟩
      | 1, _ => exact ⟨x3, rfl, by omega, by omega⟩
      | 2, _ => exact ⟨m.w, rfl, by omega, by omega⟩
      | 3, _ => exact ⟨x9, rfl, by omega, by omega⟩
      | 4, _ => exact ⟨x15, rfl, by omega, by omega⟩
      | 5, _ => exact ⟨(-1), rfl, by omega, by omega⟩
      | 6, _ => exact ⟨x17, rfl, by omega, by omega⟩
    | 19, _, ho =>
      obtain rfl := Option.some.inj ho
      clear hd ho
      simp only [actO, putO, List.setIfInBounds_toArray, List.set_cons_zero, List.set_cons_succ, Nat.reduceAdd]
      refine flow_K (fun K hK => ?_)
      go_simp
      (show K _ _)
      refine hK _ _ ⟨_, rfl, by simp, Chg.of_ext (show Ext _ _ from (by ((try simp only [ext_drew]); (try simp only [ext_ext]); repeat (first | exact Ext.refl _ | with_reducible apply Ext.add | with_reducible apply Ext.dr | apply Ext.alloc | apply Ext.ext | apply Ext.drew | refine Ext.trans ?_ (by assumption))))) _, ⟨(HJ9.out.1.of (show Ext _ _ from (by ((try simp only [ext_drew]); (try simp only [ext_ext]); repeat (first | exact Ext.refl _ | with_reducible apply Ext.add | with_reducible apply Ext.dr | apply Ext.alloc | apply Ext.ext | apply Ext.drew | refine Ext.trans ?_ (by assumption)))))).up (by omega), HJ9.out.2.of (show Ext _ _ from (by ((try simp only [ext_drew]); (try simp only [ext_ext]); repeat (first | exact Ext.refl _ | with_reducible apply Ext.add | with_reducible apply Ext.dr | apply Ext.alloc | apply Ext.ext | apply Ext.drew | refine Ext.trans ?_ (by assumption)))))⟩, rfl⟩
    | 20, _, ho =>
      have e19 : σ 19 = .pointer (some ⟨p, 0, none⟩) := hd 19 (by obtain rfl := Option.some.inj ho; kernel_rfl)
      obtain rfl := Option.some.inj ho
      clear hd ho
      simp only [actO, putO, List.setIfInBounds_toArray, List.set_cons_zero, List.set_cons_succ, Nat.reduceAdd, e19]
      refine flow_K (fun K hK => ?_)
      have HRd := hid HJ9.out.1
      go_simp
      refine (pick_c R p _ (7) w9 HRd.out (by omega) (by omega) (by omega)).mono ?_
      rintro e w8 ⟨vv, rfl, hv0, hv1, hR8, hC8⟩
      (show K _ _)
      refine hK _ _ ⟨_, rfl, by simp, hC8, ⟨hR8.up (by omega), HJ9.out.2.chg hC8 (by simp; omega)⟩, ⟨vv, rfl, hv0, by omega⟩⟩
    | 21, _, ho =>
      obtain ⟨b18, e18, hb18, ha18⟩ : MkI V.heap.size 7 (-10) (80) (σ 18) _ := hd 18 (by obtain rfl := Option.some.inj ho; kernel_rfl)
      obtain ⟨x20, e20, y20, z20⟩ : InI 0 (6) (σ 20) := hd 20 (by obtain rfl := Option.some.inj ho; kernel_rfl)
      obtain ⟨i20, rfl⟩ : ∃ i : Nat, x20 = (i : Int) := ⟨x20.toNat, by omega⟩
      have hin : i20 < 7 := by omega
      have hin2 : (i20 : Int) < 7 := by omega
      obtain rfl := Option.some.inj ho
      clear hd ho
      simp only [actO, putO, List.setIfInBounds_toArray, List.set_cons_zero, List.set_cons_succ, Nat.reduceAdd, e18, e20]
      refine flow_K (fun K hK => ?_)
      go_simp
      (show K _ _)
      refine hK _ _ ⟨_, rfl, by simp, Chg.of_ext (show Ext _ _ from (by ((try simp only [ext_drew]); (try simp only [ext_ext]); repeat (first | exact Ext.refl _ | with_reducible apply Ext.add | with_reducible apply Ext.dr | apply Ext.alloc | apply Ext.ext | apply Ext.drew | refine Ext.trans ?_ (by assumption))))) _, ⟨(HJ9.out.1.of (show Ext _ _ from (by ((try simp only [ext_drew]); (try simp only [ext_ext]); repeat (first | exact Ext.refl _ | with_reducible apply Ext.add | with_reducible apply Ext.dr | apply Ext.alloc | apply Ext.ext | apply Ext.drew | refine Ext.trans ?_ (by assumption)))))).up (by omega), HJ9.out.2.of (show Ext _ _ from (by ((try simp only [ext_drew]); (try simp only [ext_ext]); repeat (first | exact Ext.refl _ | with_reducible apply Ext.add | with_reducible apply Ext.dr | apply Ext.alloc | apply Ext.ext | apply Ext.drew | refine Ext.trans ?_ (by assumption)))))⟩, ⟨_, _, rfl, hin, hb18, ha18⟩⟩
    | 22, _, ho =>
      obtain ⟨b21, k21, e21, hk21, hb21, ha21⟩ : PtI V.heap.size 7 (-10) (80) (σ 21) _ := hd 21 (by obtain rfl := Option.some.inj ho; kernel_rfl)
      obtain ⟨y, hy, hy0, hy1⟩ := index_at ha21 hk21
      obtain rfl := Option.some.inj ho
      clear hd ho
      simp only [actO, putO, List.setIfInBounds_toArray, List.set_cons_zero, List.set_cons_succ, Nat.reduceAdd, e21]
      refine flow_K (fun K hK => ?_)
      go_simp
      (show K _ _)
      refine hK _ _ ⟨_, rfl, by simp, Chg.of_ext (show Ext _ _ from (by ((try simp only [ext_drew]); (try simp only [ext_ext]); repeat (first | exact Ext.refl _ | with_reducible apply Ext.add | with_reducible apply Ext.dr | apply Ext.alloc | apply Ext.ext | apply Ext.drew | refine Ext.trans ?_ (by assumption))))) _, ⟨(HJ9.out.1.of (show Ext _ _ from (by ((try simp only [ext_drew]); (try simp only [ext_ext]); repeat (first | exact Ext.refl _ | with_reducible apply Ext.add | with_reducible apply Ext.dr | apply Ext.alloc | apply Ext.ext | apply Ext.drew | refine Ext.trans ?_ (by assumption)))))).up (by omega), HJ9.out.2.of (show Ext _ _ from (by ((try simp only [ext_drew]); (try simp only [ext_ext]); repeat (first | exact Ext.refl _ | with_reducible apply Ext.add | with_reducible apply Ext.dr | apply Ext.alloc | apply Ext.ext | apply Ext.drew | refine Ext.trans ?_ (by assumption)))))⟩, ⟨y, rfl, hy0, hy1⟩⟩
    | 23, _, ho =>
      obtain rfl := Option.some.inj ho
      clear hd ho
      simp only [actO, putO, List.setIfInBounds_toArray, List.set_cons_zero, List.set_cons_succ, Nat.reduceAdd]
      refine flow_K (fun K hK => ?_)
      go_simp
      (show K _ _)
      refine hK _ _ ⟨_, rfl, by simp, Chg.of_ext (show Ext _ _ from (by ((try simp only [ext_drew]); (try simp only [ext_ext]); repeat (first | exact Ext.refl _ | with_reducible apply Ext.add | with_reducible apply Ext.dr | apply Ext.alloc | apply Ext.ext | apply Ext.drew | refine Ext.trans ?_ (by assumption))))) _, ⟨(HJ9.out.1.of (show Ext _ _ from (by ((try simp only [ext_drew]); (try simp only [ext_ext]); repeat (first | exact Ext.refl _ | with_reducible apply Ext.add | with_reducible apply Ext.dr | apply Ext.alloc | apply Ext.ext | apply Ext.drew | refine Ext.trans ?_ (by assumption)))))).up (by omega), HJ9.out.2.of (show Ext _ _ from (by ((try simp only [ext_drew]); (try simp only [ext_ext]); repeat (first | exact Ext.refl _ | with_reducible apply Ext.add | with_reducible apply Ext.dr | apply Ext.alloc | apply Ext.ext | apply Ext.drew | refine Ext.trans ?_ (by assumption)))))⟩, ⟨_, rfl, by (try simp [go_sem]) <;> omega, ⟨_, heap_new (by simp [go_sem]), fun i hi => ?_⟩⟩⟩
      match i, hi with
      | 0, _ => exact ⟨0, rfl, by omega, by omega⟩
      | 1, _ => exact ⟨1, rfl, by omega, by omega⟩
      | 2, _ => exact ⟨0, rfl, by omega, by omega⟩
      | 3, _ => exact ⟨1, rfl, by omega, by omega⟩
      | 4, _ => exact ⟨2, rfl, by omega, by omega⟩
      | 5, _ => exact ⟨(-1), rfl, by omega, by omega⟩
    | 24, _, ho =>
      obtain rfl := Option.some.inj ho
      clear hd ho
      simp only [actO, putO, List.setIfInBounds_toArray, List.set_cons_zero, List.set_cons_succ, Nat.reduceAdd]
      refine flow_K (fun K hK => ?_)
      go_simp
      (show K _ _)
      refine hK _ _ ⟨_, rfl, by simp, Chg.of_ext (show Ext _ _ from (by ((try simp only [ext_drew]); (try simp only [ext_ext]); repeat (first | exact Ext.refl _ | with_reducible apply Ext.add | with_reducible apply Ext.dr | apply Ext.alloc | apply Ext.ext | apply Ext.drew | refine Ext.trans ?_ (by assumption))))) _, ⟨(HJ9.out.1.of (show Ext _ _ from (by ((try simp only [ext_drew]); (try simp only [ext_ext]); repeat (first | exact Ext.refl _ | with_reducible apply Ext.add | with_reducible apply Ext.dr | apply Ext.alloc | apply Ext.ext | apply Ext.drew | refine Ext.trans ?_ (by assumption)))))).up (by omega), HJ9.out.2.of (show Ext _ _ from (by ((try simp only [ext_drew]); (try simp only [ext_ext]); repeat (first | exact Ext.refl _ | with_reducible apply Ext.add | with_reducible apply Ext.dr | apply Ext.alloc | apply Ext.ext | apply Ext.drew | refine Ext.trans ?_ (by assumption)))))⟩, rfl⟩
    | 25, _, ho =>
      have e24 : σ 24 = .pointer (some ⟨p, 0, none⟩) := hd 24 (by obtain rfl := Option.some.inj ho; kernel_rfl)
      obtain rfl := Option.some.inj ho
      clear hd ho
      simp only [actO, putO, List.setIfInBounds_toArray, List.set_cons_zero, List.set_cons_succ, Nat.reduceAdd, e24]
      refine flow_K (fun K hK => ?_)
      have HRd := hid HJ9.out.1
      go_simp
      refine (pick_c R p _ (6) w9 HRd.out (by omega) (by omega) (by omega)).mono ?_
      rintro e w8 ⟨vv, rfl, hv0, hv1, hR8, hC8⟩
      (show K _ _)
      refine hK _ _ ⟨_, rfl, by simp, hC8, ⟨hR8.up (by omega), HJ9.out.2.chg hC8 (by simp; omega)⟩, ⟨vv, rfl, hv0, by omega⟩⟩
    | 26, _, ho =>
      obtain ⟨b23, e23, hb23, ha23⟩ : MkI V.heap.size 6 (-1) (2) (σ 23) _ := hd 23 (by obtain rfl := Option.some.inj ho; kernel_rfl)
      obtain ⟨x25, e25, y25, z25⟩ : InI 0 (5) (σ 25) := hd 25 (by obtain rfl := Option.some.inj ho; kernel_rfl)
      obtain ⟨i25, rfl⟩ : ∃ i : Nat, x25 = (i : Int) := ⟨x25.toNat, by omega⟩
      have hin : i25 < 6 := by omega
      have hin2 : (i25 : Int) < 6 := by omega
      obtain rfl := Option.some.inj ho
      clear hd ho
      simp only [actO, putO, List.setIfInBounds_toArray, List.set_cons_zero, List.set_cons_succ, Nat.reduceAdd, e23, e25]
      refine flow_K (fun K hK => ?_)
      go_simp
      (show K _ _)
      refine hK _ _ ⟨_, rfl, by simp, Chg.of_ext (show Ext _ _ from (by ((try simp only [ext_drew]); (try simp only [ext_ext]); repeat (first | exact Ext.refl _ | with_reducible apply Ext.add | with_reducible apply Ext.dr | apply Ext.alloc | apply Ext.ext | apply Ext.drew | refine Ext.trans ?_ (by assumption))))) _, ⟨(HJ9.out.1.of (show Ext _ _ from (by ((try simp only [ext_drew]); (try simp only [ext_ext]); repeat (first | exact Ext.refl _ | with_reducible apply Ext.add | with_reducible apply Ext.dr | apply Ext.alloc | apply Ext.ext | apply Ext.drew | refine Ext.trans ?_ (by assumption)))))).up (by omega), HJ9.out.2.of (show Ext _ _ from (by ((try simp only [ext_drew]); (try simp only [ext_ext]); repeat (first | exact Ext.refl _ | with_reducible apply Ext.add | with_reducible apply Ext.dr | apply Ext.alloc | apply Ext.ext | apply Ext.drew | refine Ext.trans ?_ (by assumption)))))⟩, ⟨_, _, rfl, hin, hb23, ha23⟩⟩
    | 27, _, ho =>
      obtain ⟨b26, k26, e26, hk26, hb26, ha26⟩ : PtI V.heap.size 6 (-1) (2) (σ 26) _ := hd 26 (by obtain rfl := Option.some.inj ho; kernel_rfl)
      obtain ⟨y, hy, hy0, hy1⟩ := index_at ha26 hk26
      obtain rfl := Option.some.inj ho
      clear hd ho
      simp only [actO, putO, List.setIfInBounds_toArray, List.set_cons_zero, List.set_cons_succ, Nat.reduceAdd, e26]
      refine flow_K (fun K hK => ?_)
      go_simp
      (show K _ _)
      refine hK _ _ ⟨_, rfl, by simp, Chg.of_ext (show Ext _ _ from (by ((try simp only [ext_drew]); (try simp only [ext_ext]); repeat (first | exact Ext.refl _ | with_reducible apply Ext.add | with_reducible apply Ext.dr | apply Ext.alloc | apply Ext.ext | apply Ext.drew | refine Ext.trans ?_ (by assumption))))) _, ⟨(HJ9.out.1.of (show Ext _ _ from (by ((try simp only [ext_drew]); (try simp only [ext_ext]); repeat (first | exact Ext.refl _ | with_reducible apply Ext.add | with_reducible apply Ext.dr | apply Ext.alloc | apply Ext.ext | apply Ext.drew | refine Ext.trans ?_ (by assumption)))))).up (by omega), HJ9.out.2.of (show Ext _ _ from (by ((try simp only [ext_drew]); (try simp only [ext_ext]); repeat (first | exact Ext.refl _ | with_reducible apply Ext.add | with_reducible apply Ext.dr | apply Ext.alloc | apply Ext.ext | apply Ext.drew | refine Ext.trans ?_ (by assumption)))))⟩, ⟨y, rfl, hy0, hy1⟩⟩
    | 28, _, ho =>
      have e0 : σ 0 = .agg #[.int .i64 (m.c), .int .i64 (m.w)] := hd 0 (by obtain rfl := Option.some.inj ho; kernel_rfl)
      obtain ⟨x0, hb0⟩ := HJ9.out.2.1
      obtain rfl := Option.some.inj ho
      clear hd ho
      simp only [actO, putO, List.setIfInBounds_toArray, List.set_cons_zero, List.set_cons_succ, Nat.reduceAdd, e0]
      refine flow_K (fun K hK => ?_)
      have cR0 := (cell_blk hb0 0).trans (show _ = some (Value.int .i64 x0.c) from rfl)
      have zR0 := frozen_blk hb0 0
      have cR1 := (cell_blk hb0 1).trans (show _ = some (Value.int .i64 x0.w) from rfl)
      have zR1 := frozen_blk hb0 1
      have HB0 := hid hb0
      clear hb0
      go_simp
      (show K _ _)
      refine hK _ _ ⟨undef, rfl, fun _ => rfl, (by repeat (first | with_reducible exact Chg.refl _ _ | with_reducible apply Chg.drew | with_reducible apply Chg.drewl | with_reducible refine Chg.turn (by simp) | with_reducible refine Chg.both ?_ (by simp) | (with_reducible refine Chg.set ?_ (by simp) _) | with_reducible apply Chg.alloc | with_reducible apply Chg.ext)), ⟨(HJ9.out.1.chg (B := [R]) (by repeat (first | with_reducible exact Chg.refl _ _ | with_reducible apply Chg.drew | with_reducible apply Chg.drewl | with_reducible refine Chg.turn (by simp) | with_reducible refine Chg.both ?_ (by simp) | (with_reducible refine Chg.set ?_ (by simp) _) | with_reducible apply Chg.alloc | with_reducible apply Chg.ext)) (by simp; omega) (Nat.le_refl _)).up (by omega), ⟨⟨m, mp_store (x := m) HB0.out⟩, blk_other (blk_other HJ9.out.2.2 hMR) hMR⟩⟩, ⟨m, mp_store (x := m) HB0.out, hm⟩⟩
    | 29, _, ho =>
      obtain ⟨x22, e22, y22, z22⟩ : InI (-10) (80) (σ 22) := hd 22 (by obtain rfl := Option.some.inj ho; kernel_rfl)
      obtain rfl := Option.some.inj ho
      clear hd ho
      simp only [actO, putO, List.setIfInBounds_toArray, List.set_cons_zero, List.set_cons_succ, Nat.reduceAdd, e22]
      refine flow_K (fun K hK => ?_)
      go_simp
      (show K _ _)
      refine hK _ _ ⟨_, rfl, by simp, Chg.of_ext (show Ext _ _ from (by ((try simp only [ext_drew]); (try simp only [ext_ext]); repeat (first | exact Ext.refl _ | with_reducible apply Ext.add | with_reducible apply Ext.dr | apply Ext.alloc | apply Ext.ext | apply Ext.drew | refine Ext.trans ?_ (by assumption))))) _, ⟨(HJ9.out.1.of (show Ext _ _ from (by ((try simp only [ext_drew]); (try simp only [ext_ext]); repeat (first | exact Ext.refl _ | with_reducible apply Ext.add | with_reducible apply Ext.dr | apply Ext.alloc | apply Ext.ext | apply Ext.drew | refine Ext.trans ?_ (by assumption)))))).up (by omega), HJ9.out.2.of (show Ext _ _ from (by ((try simp only [ext_drew]); (try simp only [ext_ext]); repeat (first | exact Ext.refl _ | with_reducible apply Ext.add | with_reducible apply Ext.dr | apply Ext.alloc | apply Ext.ext | apply Ext.drew | refine Ext.trans ?_ (by assumption)))))⟩, ⟨_, rfl, by omega, by omega⟩⟩
    | 30, _, ho =>
      obtain ⟨x27, e27, y27, z27⟩ : InI (-1) (2) (σ 27) := hd 27 (by obtain rfl := Option.some.inj ho; kernel_rfl)
      obtain rfl := Option.some.inj ho
      clear hd ho
      simp only [actO, putO, List.setIfInBounds_toArray, List.set_cons_zero, List.set_cons_succ, Nat.reduceAdd, e27]
      refine flow_K (fun K hK => ?_)
      go_simp
      (show K _ _)
      refine hK _ _ ⟨_, rfl, by simp, Chg.of_ext (show Ext _ _ from (by ((try simp only [ext_drew]); (try simp only [ext_ext]); repeat (first | exact Ext.refl _ | with_reducible apply Ext.add | with_reducible apply Ext.dr | apply Ext.alloc | apply Ext.ext | apply Ext.drew | refine Ext.trans ?_ (by assumption))))) _, ⟨(HJ9.out.1.of (show Ext _ _ from (by ((try simp only [ext_drew]); (try simp only [ext_ext]); repeat (first | exact Ext.refl _ | with_reducible apply Ext.add | with_reducible apply Ext.dr | apply Ext.alloc | apply Ext.ext | apply Ext.drew | refine Ext.trans ?_ (by assumption)))))).up (by omega), HJ9.out.2.of (show Ext _ _ from (by ((try simp only [ext_drew]); (try simp only [ext_ext]); repeat (first | exact Ext.refl _ | with_reducible apply Ext.add | with_reducible apply Ext.dr | apply Ext.alloc | apply Ext.ext | apply Ext.drew | refine Ext.trans ?_ (by assumption)))))⟩, ⟨_, rfl, by omega, by omega⟩⟩
  · intro σ w9 hG hJ hd
    have e0 : σ 0 = .agg #[.int .i64 (m.c), .int .i64 (m.w)] := hd 0 (by decide)
    have e1 : σ 1 = .pointer (some ⟨M, 1, none⟩) := hd 1 (by decide)
    have e2 : σ 2 = .int .i64 (m.w) := hd 2 (by decide)
    obtain ⟨x3, e3, y3, z3⟩ : InI (-2) (8) (σ 3) := hd 3 (by decide)
    have e4 : σ 4 = .pointer (some ⟨M, 1, none⟩) := hd 4 (by decide)
    have e5 : σ 5 = .int .i64 (m.w) := hd 5 (by decide)
    have e6 : σ 6 = .pointer (some ⟨M, 1, none⟩) := hd 6 (by decide)
    have e7 : σ 7 = .int .i64 (m.w) := hd 7 (by decide)
    obtain ⟨x8, e8, y8, z8⟩ : InI (-2) (18) (σ 8) := hd 8 (by decide)
    obtain ⟨x9, e9, y9, z9⟩ : InI (-3) (17) (σ 9) := hd 9 (by decide)
    have e10 : σ 10 = .pointer (some ⟨M, 0, none⟩) := hd 10 (by decide)
    have e11 : σ 11 = .int .i64 (m.c) := hd 11 (by decide)
    have e12 : σ 12 = .pointer (some ⟨M, 1, none⟩) := hd 12 (by decide)
    have e13 : σ 13 = .int .i64 (m.w) := hd 13 (by decide)
    obtain ⟨x14, e14, y14, z14⟩ : InI (-9) (81) (σ 14) := hd 14 (by decide)
    obtain ⟨x15, e15, y15, z15⟩ : InI (-10) (80) (σ 15) := hd 15 (by decide)
    have e16 : σ 16 = .pointer (some ⟨p, 0, none⟩) := hd 16 (by decide)
    obtain ⟨x17, e17, y17, z17⟩ : InI 0 (11) (σ 17) := hd 17 (by decide)
    obtain ⟨b18, e18, hb18, ha18⟩ : MkI V.heap.size 7 (-10) (80) (σ 18) _ := hd 18 (by decide)
    have e19 : σ 19 = .pointer (some ⟨p, 0, none⟩) := hd 19 (by decide)
    obtain ⟨x20, e20, y20, z20⟩ : InI 0 (6) (σ 20) := hd 20 (by decide)
    obtain ⟨b21, k21, e21, hk21, hb21, ha21⟩ : PtI V.heap.size 7 (-10) (80) (σ 21) _ := hd 21 (by decide)
    obtain ⟨x22, e22, y22, z22⟩ : InI (-10) (80) (σ 22) := hd 22 (by decide)
    obtain ⟨b23, e23, hb23, ha23⟩ : MkI V.heap.size 6 (-1) (2) (σ 23) _ := hd 23 (by decide)
    have e24 : σ 24 = .pointer (some ⟨p, 0, none⟩) := hd 24 (by decide)
    obtain ⟨x25, e25, y25, z25⟩ : InI 0 (5) (σ 25) := hd 25 (by decide)
    obtain ⟨b26, k26, e26, hk26, hb26, ha26⟩ : PtI V.heap.size 6 (-1) (2) (σ 26) _ := hd 26 (by decide)
    obtain ⟨x27, e27, y27, z27⟩ : InI (-1) (2) (σ 27) := hd 27 (by decide)
    have hs28 : MpAt R _ := hd 28 (by decide)
    obtain ⟨x29, e29, y29, z29⟩ : InI (-10) (80) (σ 29) := hd 29 (by decide)
    obtain ⟨x30, e30, y30, z30⟩ : InI (-1) (2) (σ 30) := hd 30 (by decide)
    have HG := hid hG
    have HJ9 := hid hJ
    clear hd hG hJ
    simp only [actO, putO, List.setIfInBounds_toArray, List.set_cons_zero, List.set_cons_succ, Nat.reduceAdd, e0, e1, e2, e3, e4, e5, e6, e7, e8, e9, e10, e11, e12, e13, e14, e15, e16, e17, e18, e19, e20, e21, e22, e23, e24, e25, e26, e27, e29, e30]
    clear e0 e1 e2 e3 e4 e5 e6 e7 e8 e9 e10 e11 e12 e13 e14 e15 e16 e17 e18 e19 e20 e21 e22 e23 e24 e25 e26 e27 e29 e30
    obtain ⟨x, hb, hx⟩ := hs28
    have c0 := (cell_blk hb 0).trans (show _ = some (Value.int .i64 x.c) from rfl)
    have c1 := (cell_blk hb 1).trans (show _ = some (Value.int .i64 x.w) from rfl)
    have lR := lt_blk hb
    clear hb
    go_wp2_with (fail)
    refine bodyPost_ret (v := .tuple #[.agg #[.int .i64 x.c, .int .i64 x.w], .int .i64 x29, .int .i64 x30]) (by simp [results, Try.results18, go_sem, c0, c1, lR]) rfl ?_
    exact ⟨x, x29, x30, rfl, hx, by omega, by omega, EW1.out.chg2 HG.out (by omega) (by omega)⟩
end Go.Proofs.Ytbbpipbemhggdaa
