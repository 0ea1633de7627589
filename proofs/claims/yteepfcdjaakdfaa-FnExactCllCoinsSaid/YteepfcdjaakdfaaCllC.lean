/- How many coins there are in a cell. -/
import Derived.Test.YteepfcdjaakdfaaCllOkS
namespace Go.Proofs.Yteepfcdjaakdfaa
open Go.RowKit
set_option linter.unusedSimpArgs false
set_option linter.unusedVariables false

def sumBy {α : Type} (f : α → Int) (xs : List α) : Int := (xs.map f).sum
theorem sumBy_step {α : Type} (f : α → Int) {xs : List α} {k : Nat} {x : α} (h : xs[k]? = some x) : sumBy f (xs.take (k + 1)) = sumBy f (xs.take k) + f x := by
  rw [take_snoc_of h]; simp [sumBy]
theorem sumBy_all {α : Type} (f : α → Int) {xs : List α} {k : Nat} (h : xs.length ≤ k) : sumBy f (xs.take k) = sumBy f xs := by rw [List.take_of_length_le h]
theorem sumBy_le {α : Type} (f : α → Int) (B : Int) : ∀ (xs : List α), (∀ x ∈ xs, 0 ≤ f x ∧ f x ≤ B) → 0 ≤ sumBy f xs ∧ sumBy f xs ≤ xs.length * B
  | [], _ => by simp [sumBy]
  | x :: xs, h => by
    have h1 := sumBy_le f B xs (fun y hy => h y (List.mem_cons_of_mem _ hy))
    have h2 := h x List.mem_cons_self
    have e : sumBy f (x :: xs) = f x + sumBy f xs := by simp [sumBy]
    have e2 : ((xs.length + 1 : Nat) : Int) * B = xs.length * B + B := by rw [Int.natCast_add, Int.add_mul]; simp
    rw [e, List.length_cons, e2]
    omega
def pclCoins (p : Pcl) : Int := p.coins + p.wk.coins
theorem wlk_coins {m : Mp} {x : Wlk} (h : wlkOk m x = true) : 0 ≤ x.coins ∧ x.coins ≤ 99 := by
  simp only [wlkOk, ranged, Bool.and_eq_true] at h
  exact inB_iff.1 h.2.1.1.2
theorem pcl_coins {m : Mp} {p : Pcl} (h : pclOk m p = true) : (0 ≤ p.coins ∧ p.coins ≤ 9) ∧ (0 ≤ p.wk.coins ∧ p.wk.coins ≤ 99) := by
  simp only [pclOk, formed, Bool.and_eq_true, Bool.or_eq_true, beq_iff_eq] at h
  obtain ⟨⟨_, _, h1⟩, h2⟩ := h
  rcases h1 with ⟨h1, h3⟩ | ⟨⟨h1, h3⟩, h4⟩
  · refine ⟨by omega, ?_⟩
    rcases h2 with h2 | h2
    · omega
    · exact wlk_coins h2
  · refine ⟨by have := inB_iff.1 h4; omega, ?_⟩
    simp only [wlkZero, Bool.and_eq_true, beq_iff_eq] at h3
    omega
theorem wlkAll_coins {m : Mp} {xs : List Wlk} (h : wlkAll m xs = true) : ∀ x ∈ xs, 0 ≤ x.coins ∧ x.coins ≤ 99 := fun x hx => by
  obtain ⟨k, hk⟩ := List.getElem?_of_mem hx
  have := allI_iff.1 h k x hk
  simp only [wlkAt, Bool.and_eq_true] at this
  exact wlk_coins this.1
theorem pclList_coins {m : Mp} {xs : List Pcl} {next : Int} (h : pclListOk m xs next = true) : ∀ x ∈ xs, (0 ≤ x.coins ∧ x.coins ≤ 9) ∧ (0 ≤ x.wk.coins ∧ x.wk.coins ≤ 99) := fun x hx => by
  obtain ⟨k, hk⟩ := List.getElem?_of_mem hx
  simp only [pclListOk, Bool.and_eq_true] at h
  have := allI_iff.1 h.2 k x hk
  simp only [pclAt, Bool.and_eq_true] at this
  exact pcl_coins this.1
theorem sideAt_coins {m : Mp} {c : Cll} {k : Nat} (h : sideAt m c k = true) {xs : List Pcl} (hx : c.outs[k]? = some xs) : ∀ x ∈ xs, (0 ≤ x.coins ∧ x.coins ≤ 9) ∧ (0 ≤ x.wk.coins ∧ x.wk.coins ≤ 99) := by
  simp only [sideAt, hx] at h
  split at h
  · rename_i h1 h2 h3
    obtain rfl := Option.some.inj h1
    simp only [sideOk, Bool.and_eq_true] at h
    exact pclList_coins h.1.1
  · cases h
def cllCoins (m : Mp) (c : Cll) : Int := if cllOk m c = true then c.ground + sumBy Wlk.coins c.wk + sumBy (sumBy pclCoins) c.outs else 0
/-- What is true of the numbers of coins in a cell that is ok. -/
structure CoinB (c : Cll) : Prop where
  l3 : c.outs.length = 2
  g0 : 0 ≤ c.ground
  g1 : c.ground ≤ 900
  wb : ∀ x ∈ c.wk, 0 ≤ x.coins ∧ x.coins ≤ 99
  ob : ∀ xs ∈ c.outs, ∀ x ∈ xs, (0 ≤ x.coins ∧ x.coins ≤ 9) ∧ (0 ≤ x.wk.coins ∧ x.wk.coins ≤ 99)
theorem CoinB.of {m : Mp} {c : Cll} (h : cllOk m c = true) : CoinB c := by
  simp only [cllOk, Bool.and_eq_true] at h
  obtain ⟨⟨⟨hh, _⟩, s0⟩, s1⟩ := h
  obtain ⟨_, _, h3, h4, h5, _, _⟩ := cllHead_iff.1 hh
  have hg := inB_iff.1 h4
  have hl : c.outs.length = 2 := by omega
  refine ⟨hl, hg.1, hg.2, wlkAll_coins h3, fun xs hx => ?_⟩
  obtain ⟨k, hk⟩ := List.getElem?_of_mem hx
  have hlt := (List.getElem?_eq_some_iff.1 hk).1
  rw [hl] at hlt
  match k, hlt with
  | 0, _ => exact sideAt_coins s0 hk
  | 1, _ => exact sideAt_coins s1 hk
theorem CoinB.wsum {c : Cll} (h : CoinB c) (hb : BdC c) (k : Nat) : 0 ≤ sumBy Wlk.coins (c.wk.take k) ∧ sumBy Wlk.coins (c.wk.take k) ≤ 103809024 := by
  have := sumBy_le Wlk.coins 99 (c.wk.take k) (fun x hx => h.wb x (List.mem_of_mem_take hx))
  have hl : ((c.wk.take k).length : Int) ≤ 1048576 := by have := hb.b1; rw [List.length_take]; omega
  omega
theorem CoinB.psum {c : Cll} (h : CoinB c) (hb : BdC c) {xs : List Pcl} (hx : xs ∈ c.outs) (k : Nat) : 0 ≤ sumBy pclCoins (xs.take k) ∧ sumBy pclCoins (xs.take k) ≤ 113246208 := by
  have := sumBy_le pclCoins 108 (xs.take k) (fun x hx' => by have := h.ob xs hx x (List.mem_of_mem_take hx'); unfold pclCoins; omega)
  have hl : ((xs.take k).length : Int) ≤ 1048576 := by have := hb.bo xs hx; rw [List.length_take]; omega
  omega
theorem CoinB.osum {c : Cll} (h : CoinB c) (hb : BdC c) (k : Nat) : 0 ≤ sumBy (sumBy pclCoins) (c.outs.take k) ∧ sumBy (sumBy pclCoins) (c.outs.take k) ≤ 226492416 := by
  have := sumBy_le (sumBy pclCoins) 113246208 (c.outs.take k) (fun xs hx' => by have := h.psum hb (List.mem_of_mem_take hx') xs.length; rw [List.take_length] at this; exact this)
  have hl : ((c.outs.take k).length : Int) ≤ 2 := by have := h.l3; rw [List.length_take]; omega
  omega

set_option maxRecDepth 100000 in
set_option maxHeartbeats 4000000 in
theorem iCllCoins_c (m : Mp) (c : Cll) (h : CllH) (w : World) (hx : ReC w c h) (hb : BdC c) :
    Calls Try.prog 25 #[.agg #[.int .i64 m.c, .int .i64 m.w], .agg #[.int .i64 c.cell, .slice h.a1 c.wk.length h.c1, .int .i64 c.ground, .slice h.a3 c.outs.length h.c3, .slice h.a4 c.next.length h.c4, .slice h.a5 c.ins.length h.c5]] w fun e w' => e = .returned (.int .i64 (cllCoins m c)) ∧ Ext w w' := by
  have HX := hid hx
  have HBD := hid hb
  cases r0 : cllOk m c with
  | false =>
    have E := hid (show cllCoins m c = 0 by simp [cllCoins, r0])
    clear hx hb
    go_enter Try.func25, Try.ntmps25
    try go_wp2_with (first
        | (go_at_call 19; refine (iCllOk_c _ _ _ _ (ReC.of (Hid.out (by assumption)) (by ((try simp only [ext_drew]); (try simp only [ext_ext]); repeat (first | exact Ext.refl _ | with_reducible apply Ext.add | with_reducible apply Ext.dr | apply Ext.alloc | apply Ext.ext | apply Ext.drew | refine Ext.trans ?_ (by assumption))))) (Hid.out (by assumption))).mono ?_; rintro e w' ⟨rfl, t, rfl⟩)
        | (
          with_reducible refine wp_region_mix (by kernel_rfl) (by decide +kernel) ?_
          repeat (first
            | (refine mix_pure rfl ?_; (first | go_big_quiet_skip | (go_big_quiet_want; go_big_quiet_op; go_big_quiet_on)); refine wpQuiet_nil ?_)
            | (refine mix_skip (by rfl) ?_; (try simp only [Act.put, List.setIfInBounds_toArray, List.set_cons_zero, List.set_cons_succ]))
            | (refine mix_mk rfl (by rfl) (fun K hK => ?_); (first | (go_simp; first | (go_at_call 19; refine (iCllOk_c _ _ _ _ (ReC.of (Hid.out (by assumption)) (by ((try simp only [ext_drew]); (try simp only [ext_ext]); repeat (first | exact Ext.refl _ | with_reducible apply Ext.add | with_reducible apply Ext.dr | apply Ext.alloc | apply Ext.ext | apply Ext.drew | refine Ext.trans ?_ (by assumption))))) (Hid.out (by assumption))).mono ?_; rintro e w' ⟨rfl, t, rfl⟩) | skip)); (show K _ _); refine hK _ _ (show Ext _ _ from (by ((try simp only [ext_drew]); (try simp only [ext_ext]); repeat (first | exact Ext.refl _ | with_reducible apply Ext.add | with_reducible apply Ext.dr | apply Ext.alloc | apply Ext.ext | apply Ext.drew | refine Ext.trans ?_ (by assumption))))) ?_; clear hK K; (try simp only [Act.put, List.setIfInBounds_toArray, List.set_cons_zero, List.set_cons_succ])))
          refine mix_nil ?_)
        | (
          with_reducible refine wp_region_ext (by kernel_rfl) (by kernel_rfl) ?_
          repeat (first | go_big_quiet_skip | (go_big_quiet_want; go_big_quiet_op; first | go_big_quiet_on | (apply Exists.intro; refine ⟨fun _ => ?_, ?_⟩; ((first | (go_at_call 19; first | exact quiet_call (iCllOk_c _ _ _ _ (ReC.of (Hid.out (by assumption)) (by ((try simp only [ext_drew]); (try simp only [ext_ext]); repeat (first | exact Ext.refl _ | with_reducible apply Ext.add | with_reducible apply Ext.dr | apply Ext.alloc | apply Ext.ext | apply Ext.drew | refine Ext.trans ?_ (by assumption))))) (Hid.out (by assumption))) | exact quiet_call2 (iCllOk_c _ _ _ _ (ReC.of (Hid.out (by assumption)) (by ((try simp only [ext_drew]); (try simp only [ext_ext]); repeat (first | exact Ext.refl _ | with_reducible apply Ext.add | with_reducible apply Ext.dr | apply Ext.alloc | apply Ext.ext | apply Ext.drew | refine Ext.trans ?_ (by assumption))))) (Hid.out (by assumption)))))); (try rw [h1]); (try rw [h2]); (try rw [h3]); (try rw [h4]); (try rw [p1]); (try rw [p2]); (try rw [p3]); (try rw [p4]); (try rw [r1]); (try rw [r2]); (try rw [r3]); (try rw [r4]); (try rw [r5]); (try rw [r6]); (try rw [q3]); (try rw [q4]); (try rw [hp]); (try rw [hq]); go_big_quiet_on)))
          refine wpQuiet_nil ?_
          rintro _ ⟨tq, rfl⟩))
    go_ret
    exact ⟨ret_int (by rw [E.out]), (by ((try simp only [ext_drew]); (try simp only [ext_ext]); repeat (first | exact Ext.refl _ | with_reducible apply Ext.add | with_reducible apply Ext.dr | apply Ext.alloc | apply Ext.ext | apply Ext.drew | refine Ext.trans ?_ (by assumption))))⟩
  | true =>
    have E := hid (show cllCoins m c = c.ground + sumBy Wlk.coins c.wk + sumBy (sumBy pclCoins) c.outs by simp [cllCoins, r0])
    have HC := hid (CoinB.of r0)
    have H1 := hid hx.r1
    have H3 := hid hx.r3
    have BO := hid hb.bo
    have B1 := hb.b1
    have HL3 := hid HC.out.l3
    have lll : (c.outs.length : Int) ≤ 2 := by have := HL3.out; omega
    clear hx hb
    obtain ⟨a1, c1, a3, c3, a4, c4, a5, c5⟩ := h
    dsimp only at H1 H3 ⊢
    have g0 := HC.out.g0
    have g1 := HC.out.g1
    go_enter Try.func25, Try.ntmps25
    try go_wp2_with (first
        | (go_at_call 19; (with_reducible refine (iCllOk_c m c ⟨a1, c1, a3, c3, a4, c4, a5, c5⟩ _ (ReC.of HX.out (by ((try simp only [ext_drew]); (try simp only [ext_ext]); repeat (first | exact Ext.refl _ | with_reducible apply Ext.add | with_reducible apply Ext.dr | apply Ext.alloc | apply Ext.ext | apply Ext.drew | refine Ext.trans ?_ (by assumption))))) HBD.out).mono ?_); rintro e w' ⟨rfl, t, rfl⟩)
        | (
          with_reducible refine wp_region_mix (by kernel_rfl) (by decide +kernel) ?_
          repeat (first
            | (refine mix_pure rfl ?_; (first | go_big_quiet_skip | (go_big_quiet_want; go_big_quiet_op; go_big_quiet_on)); refine wpQuiet_nil ?_)
            | (refine mix_skip (by rfl) ?_; (try simp only [Act.put, List.setIfInBounds_toArray, List.set_cons_zero, List.set_cons_succ]))
            | (refine mix_mk rfl (by rfl) (fun K hK => ?_); (first | (go_simp; first | (go_at_call 19; (with_reducible refine (iCllOk_c m c ⟨a1, c1, a3, c3, a4, c4, a5, c5⟩ _ (ReC.of HX.out (by ((try simp only [ext_drew]); (try simp only [ext_ext]); repeat (first | exact Ext.refl _ | with_reducible apply Ext.add | with_reducible apply Ext.dr | apply Ext.alloc | apply Ext.ext | apply Ext.drew | refine Ext.trans ?_ (by assumption))))) HBD.out).mono ?_); rintro e w' ⟨rfl, t, rfl⟩) | skip)); (show K _ _); refine hK _ _ (show Ext _ _ from (by ((try simp only [ext_drew]); (try simp only [ext_ext]); repeat (first | exact Ext.refl _ | with_reducible apply Ext.add | with_reducible apply Ext.dr | apply Ext.alloc | apply Ext.ext | apply Ext.drew | refine Ext.trans ?_ (by assumption))))) ?_; clear hK K; (try simp only [Act.put, List.setIfInBounds_toArray, List.set_cons_zero, List.set_cons_succ])))
          refine mix_nil ?_)
        | (
          with_reducible refine wp_region_ext (by kernel_rfl) (by kernel_rfl) ?_
          repeat (first | go_big_quiet_skip | (go_big_quiet_want; go_big_quiet_op; first | go_big_quiet_on | (apply Exists.intro; refine ⟨fun _ => ?_, ?_⟩; (fail); (try rw [h1]); (try rw [h2]); (try rw [h3]); (try rw [h4]); (try rw [p1]); (try rw [p2]); (try rw [p3]); (try rw [p4]); (try rw [r1]); (try rw [r2]); (try rw [r3]); (try rw [r4]); (try rw [r5]); (try rw [r6]); (try rw [q3]); (try rw [q4]); (try rw [hp]); (try rw [hq]); go_big_quiet_on)))
          refine wpQuiet_nil ?_
          rintro _ ⟨tq, rfl⟩))
    go_loopw [5, 21] (fun s i wr => ∃ (k : Nat) (q : Int), k ≤ c.wk.length ∧ i = .int .i64 k ∧ s = .int .i64 q ∧ 0 ≤ q ∧ q ≤ 900000000 ∧ q = c.ground + sumBy Wlk.coins (c.wk.take k) ∧ Ext ((w.alloc (Obj.cells #[.int .i64 m.c, .int .i64 m.w] 31)).alloc (Obj.cells #[.int .i64 c.cell, .slice a1 c.wk.length c1, .int .i64 c.ground, .slice a3 c.outs.length c3, .slice a4 c.next.length c4, .slice a5 c.ins.length c5] 36)) wr) (fun _ i _ => c.wk.length - (intOf i).toNat)
    case atStart => exact ⟨0, c.ground, Nat.zero_le _, rfl, rfl, g0, by omega, by simp [sumBy], (by ((try simp only [ext_drew]); (try simp only [ext_ext]); repeat (first | exact Ext.refl _ | with_reducible apply Ext.add | with_reducible apply Ext.dr | apply Ext.alloc | apply Ext.ext | apply Ext.drew | refine Ext.trans ?_ (by assumption))))⟩
    case round =>
      obtain ⟨k, q, hk, rfl, rfl, q0, q1, hq, t', rfl⟩ := hrel
      have HQ := hid hq
      clear hq
      by_cases hlt : k < c.wk.length
      · obtain ⟨x, b, o, hxk, rfl, hb, f0, f1, f2, f3, f4⟩ := at_Wlk H1.out hlt
        have hb1 : b ≤ w.heap.size := Nat.le_of_lt hb
        have hxc := HC.out.wb x (List.mem_of_getElem? hxk)
        have hc0 := hxc.1
        have hc1 := hxc.2
        have hbn := HC.out.wsum HBD.out (k + 1)
        rw [sumBy_step Wlk.coins hxk] at hbn
        have hq2 : q + x.coins ≤ 900000000 := by have := HQ.out; omega
        have HS := hid (sumBy_step Wlk.coins hxk)
        clear hxk hxc hbn
        try go_wp2_with (first
            | fail
            | (
              with_reducible refine wp_region_mix (by kernel_rfl) (by decide +kernel) ?_
              repeat (first
                | (refine mix_pure rfl ?_; (first | go_big_quiet_skip | (go_big_quiet_want; go_big_quiet_op; go_big_quiet_on)); refine wpQuiet_nil ?_)
                | (refine mix_skip (by rfl) ?_; (try simp only [Act.put, List.setIfInBounds_toArray, List.set_cons_zero, List.set_cons_succ]))
                | (refine mix_mk rfl (by rfl) (fun K hK => ?_); (first | (go_simp; first | skip)); (show K _ _); refine hK _ _ (show Ext _ _ from (by ((try simp only [ext_drew]); (try simp only [ext_ext]); repeat (first | exact Ext.refl _ | with_reducible apply Ext.add | with_reducible apply Ext.dr | apply Ext.alloc | apply Ext.ext | apply Ext.drew | refine Ext.trans ?_ (by assumption))))) ?_; clear hK K; (try simp only [Act.put, List.setIfInBounds_toArray, List.set_cons_zero, List.set_cons_succ])))
              refine mix_nil ?_)
            | (
              with_reducible refine wp_region_ext (by kernel_rfl) (by kernel_rfl) ?_
              repeat (first | go_big_quiet_skip | (go_big_quiet_want; go_big_quiet_op; first | go_big_quiet_on | (apply Exists.intro; refine ⟨fun _ => ?_, ?_⟩; (fail); (try rw [h1]); (try rw [h2]); (try rw [h3]); (try rw [h4]); (try rw [p1]); (try rw [p2]); (try rw [p3]); (try rw [p4]); (try rw [r1]); (try rw [r2]); (try rw [r3]); (try rw [r4]); (try rw [r5]); (try rw [r6]); (try rw [q3]); (try rw [q4]); (try rw [hp]); (try rw [hq]); go_big_quiet_on)))
              refine wpQuiet_nil ?_
              rintro _ ⟨tq, rfl⟩))
        go_roundw
        case rel => exact ⟨k + 1, q + x.coins, by omega, by go_num, rfl, by omega, hq2, by rw [HS.out, HQ.out]; omega, (by ((try simp only [ext_drew]); (try simp only [ext_ext]); repeat (first | exact Ext.refl _ | with_reducible apply Ext.add | with_reducible apply Ext.dr | apply Ext.alloc | apply Ext.ext | apply Ext.drew | refine Ext.trans ?_ (by assumption))))⟩
        case measure => simp [intOf]; omega
      · have HW := hid (show q = c.ground + sumBy Wlk.coins c.wk by rw [HQ.out, sumBy_all _ (by omega)])
        have hq9 : q ≤ 400000000 := by have := HC.out.wsum HBD.out k; have := HQ.out; omega
        try go_wp2_with (first
            | fail
            | (
              with_reducible refine wp_region_mix (by kernel_rfl) (by decide +kernel) ?_
              repeat (first
                | (refine mix_pure rfl ?_; (first | go_big_quiet_skip | (go_big_quiet_want; go_big_quiet_op; go_big_quiet_on)); refine wpQuiet_nil ?_)
                | (refine mix_skip (by rfl) ?_; (try simp only [Act.put, List.setIfInBounds_toArray, List.set_cons_zero, List.set_cons_succ]))
                | (refine mix_mk rfl (by rfl) (fun K hK => ?_); (first | (go_simp; first | skip)); (show K _ _); refine hK _ _ (show Ext _ _ from (by ((try simp only [ext_drew]); (try simp only [ext_ext]); repeat (first | exact Ext.refl _ | with_reducible apply Ext.add | with_reducible apply Ext.dr | apply Ext.alloc | apply Ext.ext | apply Ext.drew | refine Ext.trans ?_ (by assumption))))) ?_; clear hK K; (try simp only [Act.put, List.setIfInBounds_toArray, List.set_cons_zero, List.set_cons_succ])))
              refine mix_nil ?_)
            | (
              with_reducible refine wp_region_ext (by kernel_rfl) (by kernel_rfl) ?_
              repeat (first | go_big_quiet_skip | (go_big_quiet_want; go_big_quiet_op; first | go_big_quiet_on | (apply Exists.intro; refine ⟨fun _ => ?_, ?_⟩; (fail); (try rw [h1]); (try rw [h2]); (try rw [h3]); (try rw [h4]); (try rw [p1]); (try rw [p2]); (try rw [p3]); (try rw [p4]); (try rw [r1]); (try rw [r2]); (try rw [r3]); (try rw [r4]); (try rw [r5]); (try rw [r6]); (try rw [q3]); (try rw [q4]); (try rw [hp]); (try rw [hq]); go_big_quiet_on)))
              refine wpQuiet_nil ?_
              rintro _ ⟨tq, rfl⟩))
        go_loopw [5, 33] (fun s i wr => ∃ (k : Nat) (p : Int), k ≤ 2 ∧ i = .int .i64 k ∧ s = .int .i64 p ∧ 0 ≤ p ∧ p ≤ 900000000 ∧ p = q + sumBy (sumBy pclCoins) (c.outs.take k) ∧ Ext ((w.alloc (Obj.cells #[.int .i64 m.c, .int .i64 m.w] 31)).alloc (Obj.cells #[.int .i64 c.cell, .slice a1 c.wk.length c1, .int .i64 c.ground, .slice a3 c.outs.length c3, .slice a4 c.next.length c4, .slice a5 c.ins.length c5] 36)) wr) (fun _ i _ => 2 - (intOf i).toNat)
        case atStart => exact ⟨0, q, by omega, rfl, rfl, q0, by omega, by simp [sumBy], (by ((try simp only [ext_drew]); (try simp only [ext_ext]); repeat (first | exact Ext.refl _ | with_reducible apply Ext.add | with_reducible apply Ext.dr | apply Ext.alloc | apply Ext.ext | apply Ext.drew | refine Ext.trans ?_ (by assumption))))⟩
        case round =>
          obtain ⟨k2, p, hk2, rfl, rfl, p0, p1, hp, t2, rfl⟩ := hrel
          have HP := hid hp
          clear hp
          by_cases hlt2 : k2 < 2
          · have lt3 : k2 < c.outs.length := by rw [HL3.out]; exact hlt2
            obtain ⟨xs, b3, o3, xa, xc, hx3, rfl, hb3, f3, hr3⟩ := at_SS H3.out lt3
            have HXM := hid (List.mem_of_getElem? hx3)
            have hxb : xs.length ≤ 1048576 := BO.out xs HXM.out
            have HR3 := hid hr3
            have hb3' : b3 ≤ w.heap.size := Nat.le_of_lt hb3
            have HS2 := hid (sumBy_step (sumBy pclCoins) hx3)
            have hp9 : p ≤ 700000000 := by have := HC.out.osum HBD.out k2; have := HP.out; omega
            clear hx3 hr3
            try go_wp2_with (first
                | fail
                | (
                  with_reducible refine wp_region_mix (by kernel_rfl) (by decide +kernel) ?_
                  repeat (first
                    | (refine mix_pure rfl ?_; (first | go_big_quiet_skip | (go_big_quiet_want; go_big_quiet_op; go_big_quiet_on)); refine wpQuiet_nil ?_)
                    | (refine mix_skip (by rfl) ?_; (try simp only [Act.put, List.setIfInBounds_toArray, List.set_cons_zero, List.set_cons_succ]))
                    | (refine mix_mk rfl (by rfl) (fun K hK => ?_); (first | (go_simp; first | skip)); (show K _ _); refine hK _ _ (show Ext _ _ from (by ((try simp only [ext_drew]); (try simp only [ext_ext]); repeat (first | exact Ext.refl _ | with_reducible apply Ext.add | with_reducible apply Ext.dr | apply Ext.alloc | apply Ext.ext | apply Ext.drew | refine Ext.trans ?_ (by assumption))))) ?_; clear hK K; (try simp only [Act.put, List.setIfInBounds_toArray, List.set_cons_zero, List.set_cons_succ])))
                  refine mix_nil ?_)
                | (
                  with_reducible refine wp_region_ext (by kernel_rfl) (by kernel_rfl) ?_
                  repeat (first | go_big_quiet_skip | (go_big_quiet_want; go_big_quiet_op; first | go_big_quiet_on | (apply Exists.intro; refine ⟨fun _ => ?_, ?_⟩; (fail); (try rw [h1]); (try rw [h2]); (try rw [h3]); (try rw [h4]); (try rw [p1]); (try rw [p2]); (try rw [p3]); (try rw [p4]); (try rw [r1]); (try rw [r2]); (try rw [r3]); (try rw [r4]); (try rw [r5]); (try rw [r6]); (try rw [q3]); (try rw [q4]); (try rw [hp]); (try rw [hq]); go_big_quiet_on)))
                  refine wpQuiet_nil ?_
                  rintro _ ⟨tq, rfl⟩))
            go_loopw [5, 39] (fun s i wr => ∃ (j : Nat) (r : Int), j ≤ xs.length ∧ i = .int .i64 j ∧ s = .int .i64 r ∧ 0 ≤ r ∧ r ≤ 900000000 ∧ r = p + sumBy pclCoins (xs.take j) ∧ Ext ((w.alloc (Obj.cells #[.int .i64 m.c, .int .i64 m.w] 31)).alloc (Obj.cells #[.int .i64 c.cell, .slice a1 c.wk.length c1, .int .i64 c.ground, .slice (some ⟨b3, o3, none⟩) c.outs.length c3, .slice a4 c.next.length c4, .slice a5 c.ins.length c5] 36)) wr) (fun _ i _ => xs.length - (intOf i).toNat)
            case atStart => exact ⟨0, p, Nat.zero_le _, rfl, rfl, p0, by omega, by simp [sumBy], (by ((try simp only [ext_drew]); (try simp only [ext_ext]); repeat (first | exact Ext.refl _ | with_reducible apply Ext.add | with_reducible apply Ext.dr | apply Ext.alloc | apply Ext.ext | apply Ext.drew | refine Ext.trans ?_ (by assumption))))⟩
            case round =>
              obtain ⟨j, r, hj, rfl, rfl, r0', r1', hr, t3, rfl⟩ := hrel
              have HRR := hid hr
              clear hr
              by_cases hlt3 : j < xs.length
              · obtain ⟨x, b, o, hxk, rfl, hb, f0, f1, f2, g3, f4, f5, f6, f7⟩ := at_Pcl HR3.out hlt3
                have hb1 : b ≤ w.heap.size := Nat.le_of_lt hb
                have hxc := HC.out.ob xs HXM.out x (List.mem_of_getElem? hxk)
                have hc0 := hxc.1.1
                have hc1 := hxc.1.2
                have hc2 := hxc.2.1
                have hc3 := hxc.2.2
                have HS3 := hid (show sumBy pclCoins (xs.take (j + 1)) = sumBy pclCoins (xs.take j) + (x.coins + x.wk.coins) from sumBy_step pclCoins hxk)
                have hbn := HC.out.psum HBD.out HXM.out j
                have hr9 : r ≤ 870000000 := by have := HRR.out; omega
                clear hxk hxc hbn
                try go_wp2_with (first
                    | fail
                    | (
                      with_reducible refine wp_region_mix (by kernel_rfl) (by decide +kernel) ?_
                      repeat (first
                        | (refine mix_pure rfl ?_; (first | go_big_quiet_skip | (go_big_quiet_want; go_big_quiet_op; go_big_quiet_on)); refine wpQuiet_nil ?_)
                        | (refine mix_skip (by rfl) ?_; (try simp only [Act.put, List.setIfInBounds_toArray, List.set_cons_zero, List.set_cons_succ]))
                        | (refine mix_mk rfl (by rfl) (fun K hK => ?_); (first | (go_simp; first | skip)); (show K _ _); refine hK _ _ (show Ext _ _ from (by ((try simp only [ext_drew]); (try simp only [ext_ext]); repeat (first | exact Ext.refl _ | with_reducible apply Ext.add | with_reducible apply Ext.dr | apply Ext.alloc | apply Ext.ext | apply Ext.drew | refine Ext.trans ?_ (by assumption))))) ?_; clear hK K; (try simp only [Act.put, List.setIfInBounds_toArray, List.set_cons_zero, List.set_cons_succ])))
                      refine mix_nil ?_)
                    | (
                      with_reducible refine wp_region_ext (by kernel_rfl) (by kernel_rfl) ?_
                      repeat (first | go_big_quiet_skip | (go_big_quiet_want; go_big_quiet_op; first | go_big_quiet_on | (apply Exists.intro; refine ⟨fun _ => ?_, ?_⟩; (fail); (try rw [h1]); (try rw [h2]); (try rw [h3]); (try rw [h4]); (try rw [p1]); (try rw [p2]); (try rw [p3]); (try rw [p4]); (try rw [r1]); (try rw [r2]); (try rw [r3]); (try rw [r4]); (try rw [r5]); (try rw [r6]); (try rw [q3]); (try rw [q4]); (try rw [hp]); (try rw [hq]); go_big_quiet_on)))
                      refine wpQuiet_nil ?_
                      rintro _ ⟨tq, rfl⟩))
                go_roundw
                case rel => exact ⟨j + 1, r + (x.coins + x.wk.coins), by omega, by go_num, rfl, by omega, by omega, by rw [HS3.out, HRR.out]; omega, (by ((try simp only [ext_drew]); (try simp only [ext_ext]); repeat (first | exact Ext.refl _ | with_reducible apply Ext.add | with_reducible apply Ext.dr | apply Ext.alloc | apply Ext.ext | apply Ext.drew | refine Ext.trans ?_ (by assumption))))⟩
                case measure => simp [intOf]; omega
              · have HT := hid (show r = p + sumBy pclCoins xs by rw [HRR.out, sumBy_all _ (by omega)])
                try go_wp2_with (first
                    | fail
                    | (
                      with_reducible refine wp_region_mix (by kernel_rfl) (by decide +kernel) ?_
                      repeat (first
                        | (refine mix_pure rfl ?_; (first | go_big_quiet_skip | (go_big_quiet_want; go_big_quiet_op; go_big_quiet_on)); refine wpQuiet_nil ?_)
                        | (refine mix_skip (by rfl) ?_; (try simp only [Act.put, List.setIfInBounds_toArray, List.set_cons_zero, List.set_cons_succ]))
                        | (refine mix_mk rfl (by rfl) (fun K hK => ?_); (first | (go_simp; first | skip)); (show K _ _); refine hK _ _ (show Ext _ _ from (by ((try simp only [ext_drew]); (try simp only [ext_ext]); repeat (first | exact Ext.refl _ | with_reducible apply Ext.add | with_reducible apply Ext.dr | apply Ext.alloc | apply Ext.ext | apply Ext.drew | refine Ext.trans ?_ (by assumption))))) ?_; clear hK K; (try simp only [Act.put, List.setIfInBounds_toArray, List.set_cons_zero, List.set_cons_succ])))
                      refine mix_nil ?_)
                    | (
                      with_reducible refine wp_region_ext (by kernel_rfl) (by kernel_rfl) ?_
                      repeat (first | go_big_quiet_skip | (go_big_quiet_want; go_big_quiet_op; first | go_big_quiet_on | (apply Exists.intro; refine ⟨fun _ => ?_, ?_⟩; (fail); (try rw [h1]); (try rw [h2]); (try rw [h3]); (try rw [h4]); (try rw [p1]); (try rw [p2]); (try rw [p3]); (try rw [p4]); (try rw [r1]); (try rw [r2]); (try rw [r3]); (try rw [r4]); (try rw [r5]); (try rw [r6]); (try rw [q3]); (try rw [q4]); (try rw [hp]); (try rw [hq]); go_big_quiet_on)))
                      refine wpQuiet_nil ?_
                      rintro _ ⟨tq, rfl⟩))
                go_roundw
                case rel => exact ⟨k2 + 1, r, by omega, by go_num, rfl, r0', by omega, by rw [HS2.out, HT.out, HP.out]; omega, (by ((try simp only [ext_drew]); (try simp only [ext_ext]); repeat (first | exact Ext.refl _ | with_reducible apply Ext.add | with_reducible apply Ext.dr | apply Ext.alloc | apply Ext.ext | apply Ext.drew | refine Ext.trans ?_ (by assumption))))⟩
                case measure => simp [intOf]; omega
          · have hge : ¬ k2 < c.outs.length := by have := HL3.out; omega
            have HT := hid (show p = c.ground + sumBy Wlk.coins c.wk + sumBy (sumBy pclCoins) c.outs by rw [HP.out, HW.out, sumBy_all _ (by have := HL3.out; omega)])
            try go_wp2_with (first
                | fail
                | (
                  with_reducible refine wp_region_mix (by kernel_rfl) (by decide +kernel) ?_
                  repeat (first
                    | (refine mix_pure rfl ?_; (first | go_big_quiet_skip | (go_big_quiet_want; go_big_quiet_op; go_big_quiet_on)); refine wpQuiet_nil ?_)
                    | (refine mix_skip (by rfl) ?_; (try simp only [Act.put, List.setIfInBounds_toArray, List.set_cons_zero, List.set_cons_succ]))
                    | (refine mix_mk rfl (by rfl) (fun K hK => ?_); (first | (go_simp; first | skip)); (show K _ _); refine hK _ _ (show Ext _ _ from (by ((try simp only [ext_drew]); (try simp only [ext_ext]); repeat (first | exact Ext.refl _ | with_reducible apply Ext.add | with_reducible apply Ext.dr | apply Ext.alloc | apply Ext.ext | apply Ext.drew | refine Ext.trans ?_ (by assumption))))) ?_; clear hK K; (try simp only [Act.put, List.setIfInBounds_toArray, List.set_cons_zero, List.set_cons_succ])))
                  refine mix_nil ?_)
                | (
                  with_reducible refine wp_region_ext (by kernel_rfl) (by kernel_rfl) ?_
                  repeat (first | go_big_quiet_skip | (go_big_quiet_want; go_big_quiet_op; first | go_big_quiet_on | (apply Exists.intro; refine ⟨fun _ => ?_, ?_⟩; (fail); (try rw [h1]); (try rw [h2]); (try rw [h3]); (try rw [h4]); (try rw [p1]); (try rw [p2]); (try rw [p3]); (try rw [p4]); (try rw [r1]); (try rw [r2]); (try rw [r3]); (try rw [r4]); (try rw [r5]); (try rw [r6]); (try rw [q3]); (try rw [q4]); (try rw [hp]); (try rw [hq]); go_big_quiet_on)))
                  refine wpQuiet_nil ?_
                  rintro _ ⟨tq, rfl⟩))
            go_ret
            exact ⟨ret_int (by rw [E.out, HT.out]), (by ((try simp only [ext_drew]); (try simp only [ext_ext]); repeat (first | exact Ext.refl _ | with_reducible apply Ext.add | with_reducible apply Ext.dr | apply Ext.alloc | apply Ext.ext | apply Ext.drew | refine Ext.trans ?_ (by assumption))))⟩
end Go.Proofs.Yteepfcdjaakdfaa
