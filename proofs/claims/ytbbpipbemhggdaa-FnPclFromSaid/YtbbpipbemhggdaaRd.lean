/- The reader of codes that the laws draw with. -/
import Derived.Test.YtbbpipbemhggdaaOk2
import Derived.Test.YtbbpipbemhggdaaFlowJ
import Derived.Test.YtbbpipbemhggdaaSt
import Derived.Test.YtbbpipbemhggdaaGapL
import Derived.Test.YtbbpipbemhggdaaApp
import Derived.Laws.Bits64
namespace Go.Proofs.Ytbbpipbemhggdaa
open Go.RowKit
set_option linter.unusedSimpArgs false
set_option linter.unusedVariables false

/-- The bytes that a slice leads to. -/
def Bytes (hi : Nat) (w : World) (a : Option Addr) (n : Nat) : Prop := ∀ i, i < n → ∃ (b o x : Nat), a = some ⟨b, o, none⟩ ∧ b < hi ∧ x ≤ 255 ∧ w.cell? ⟨b, o + i, none⟩ = some (.int .u8 x)
theorem Bytes.chg {hi n : Nat} {a : Option Addr} {w w' : World} {B : List Nat} (h : Bytes hi w a n) (hc : Chg B w w') (hB : ∀ b ∈ B, hi ≤ b) (hs : hi ≤ w.heap.size) : Bytes hi w' a n := fun i hi' => by
  obtain ⟨b, o, x, h1, h2, h3, h4⟩ := h i hi'
  exact ⟨b, o, x, h1, h2, h3, (hc.cell (by omega) (fun hb => by have := hB b hb; omega) _).trans h4⟩
theorem Bytes.mono {hi hi' n n' : Nat} {a : Option Addr} {w : World} (h : Bytes hi w a n) (hh : hi ≤ hi') (hn : n' ≤ n) : Bytes hi' w a n' := fun i hi => by
  obtain ⟨b, o, x, h1, h2, h3, h4⟩ := h i (by omega)
  exact ⟨b, o, x, h1, by omega, h3, h4⟩
/-- A reader in block p that has read at most Q bytes of what lies below lo. -/
def Rdr (lo p Q : Nat) (w : World) : Prop := lo ≤ p ∧ ∃ (a : Option Addr) (n c q : Nat), n ≤ 2000 ∧ q ≤ Q ∧ w.heap[p]? = some (.cells #[.slice a n c, .int .i64 q] 108 (0, 0)) ∧ Bytes lo w a n
theorem Rdr.lt {lo p Q : Nat} {w : World} (h : Rdr lo p Q w) : p < w.heap.size := by
  obtain ⟨_, a, n, c, q, _, _, h, _⟩ := h; exact lt_blk h
theorem Rdr.lo {lo p Q : Nat} {w : World} (h : Rdr lo p Q w) : lo ≤ p := h.1
theorem Rdr.chg {lo p Q Q' : Nat} {w w' : World} {B : List Nat} (h : Rdr lo p Q w) (hc : Chg B w w') (hB : ∀ b ∈ B, lo ≤ b ∧ b ≠ p) (hQ : Q ≤ Q') : Rdr lo p Q' w' := by
  obtain ⟨h0, a, n, c, q, h1, h2, h3, h4⟩ := h
  have := lt_blk h3
  exact ⟨h0, a, n, c, q, h1, by omega, (hc.block p this (fun hb => (hB p hb).2 rfl)).trans h3, h4.chg hc (fun b hb => (hB b hb).1) (by omega)⟩
theorem Rdr.of {lo p Q : Nat} {w w' : World} (h : Rdr lo p Q w) (hE : Ext w w') : Rdr lo p Q w' := h.chg (Chg.of_ext hE []) (by simp) (Nat.le_refl _)
theorem Rdr.up {lo p Q Q' : Nat} {w : World} (h : Rdr lo p Q w) (hQ : Q ≤ Q') : Rdr lo p Q' w := h.chg (Chg.refl [] w) (by simp) hQ

theorem bits_xor_i64 (a b : Nat) (ha : a < 4611686018427387904) (hb : b < 4611686018427387904) : bits .xor .i64 (a : Int) (b : Int) = ((a ^^^ b : Nat) : Int) := by
  have hx : a ^^^ b < 2 ^ 62 := Nat.xor_lt_two_pow (by omega) (by omega)
  have h1 : (BitVec.ofInt 64 (a : Int)).toNat = a := by
    rw [BitVec.ofInt_natCast, BitVec.toNat_ofNat]; exact Nat.mod_eq_of_lt (by omega)
  have h2 : (BitVec.ofInt 64 (b : Int)).toNat = b := by
    rw [BitVec.ofInt_natCast, BitVec.toNat_ofNat]; exact Nat.mod_eq_of_lt (by omega)
  show IntKind.i64.wrap ((BitVec.ofInt 64 (a : Int) ^^^ BitVec.ofInt 64 (b : Int)).toNat : Int) = _
  rw [BitVec.toNat_xor, h1, h2]
  simp [IntKind.wrap, IntKind.bits, IntKind.signed]
  omega
theorem bits_nn (X : Int) (h0 : 0 ≤ X) (h1 : X ≤ 1000000000) : ∃ r : Nat, bits .xor .i64 X (X / 64) = (r : Int) := by
  obtain ⟨a, rfl⟩ := Int.eq_ofNat_of_zero_le h0
  have e : ((a : Int) / 64) = ((a / 64 : Nat) : Int) := by omega
  rw [e]
  exact ⟨_, bits_xor_i64 a (a / 64) (by omega) (by omega)⟩
set_option maxRecDepth 100000 in
set_option maxHeartbeats 1000000 in
theorem pick_c (lo p Q : Nat) (k : Int) (w : World) (h : Rdr lo p Q w) (k1 : 1 ≤ k) (k2 : k ≤ 100000) (hQ : Q ≤ 100000) :
    Calls Try.prog 56 #[.pointer (some ⟨p, 0, none⟩), .int .i64 k] w fun e w' => ∃ v : Int, e = .returned (.int .i64 v) ∧ 0 ≤ v ∧ v < k ∧ Rdr lo p (Q + 1) w' ∧ Chg [p] w w' := by
  obtain ⟨h0, a, n, c, q, h1, h2, h3, h4⟩ := h
  have HB := hid h3
  have H4 := hid h4
  have lP : p < w.heap.size := lt_blk h3
  have cP0 : w.cell? ⟨p, 0, none⟩ = some (.slice a n c) := (cell_blk h3 0).trans rfl
  have cP1 : w.cell? ⟨p, 1, none⟩ = some (.int .i64 q) := (cell_blk h3 1).trans rfl
  have zP0 := frozen_blk h3 0
  have zP1 := frozen_blk h3 1
  have HF := hid (fun (v : Int) (w' : World) (hw : Chg [p] w w') (hb : w'.heap[p]? = some (.cells #[.slice a n c, .int .i64 ((q + 1 : Nat) : Int)] 108 (0, 0))) => (show Rdr lo p (Q + 1) w' from ⟨h0, a, n, c, q + 1, h1, by omega, hb, h4.chg hw (by simp; omega) (by omega)⟩))
  clear h3 h4
  have g1 : decide (k < 1) = false := by simp; omega
  by_cases hn : n = 0
  · subst hn
    go_enter Try.func56, Try.ntmps56
    try go_wp2_with (first
        | fail
        | (
          with_reducible refine wp_region_mix (by kernel_rfl) (by decide +kernel) ?_
          repeat (first
            | (refine mix_pure rfl ?_; (first | go_big_quiet_skip | (go_big_quiet_want; go_big_quiet_op; go_big_quiet_on)); refine wpQuiet_nil ?_)
            | (refine mix_skip (by rfl) ?_; (try simp only [Act.put, List.setIfInBounds_toArray, List.set_cons_zero, List.set_cons_succ]))
            | (refine mix_mk rfl (by rfl) (fun K hK => ?_); (first | (go_simp; first | skip)); (show K _ _); refine hK _ _ (show Ext _ _ from (by ((try simp only [ext_drew]); (try simp only [ext_ext]); repeat (first | exact Ext.refl _ | with_reducible apply Ext.add | with_reducible apply Ext.dr | apply Ext.alloc | apply Ext.ext | apply Ext.drew | refine Ext.trans ?_ (by assumption))))) ?_; clear hK K; (try simp only [Act.put, List.setIfInBounds_toArray, List.set_cons_zero, List.set_cons_succ])))
          refine mix_nil ?_)
        | (
          with_reducible refine wp_region_ext (by kernel_rfl) (by kernel_rfl) ?_
          repeat (first | go_big_quiet_skip | (go_big_quiet_want; go_big_quiet_op; first | go_big_quiet_on | (apply Exists.intro; refine ⟨fun _ => ?_, ?_⟩; (fail); (try rw [h1]); (try rw [h2]); (try rw [h3]); (try rw [h4]); (try rw [p1]); (try rw [p2]); (try rw [p3]); (try rw [p4]); (try rw [r1]); (try rw [r2]); (try rw [r3]); (try rw [r4]); (try rw [r5]); (try rw [r6]); (try rw [q3]); (try rw [q4]); (try rw [hp]); (try rw [hq]); go_big_quiet_on)))
          refine wpQuiet_nil ?_
          rintro _ ⟨tq, rfl⟩))
    go_ret
    exact ⟨0, ret_int (by simp), by omega, by omega, HF.out 0 _ (by repeat (first | with_reducible exact Chg.refl _ _ | with_reducible apply Chg.drew | with_reducible apply Chg.drewl | with_reducible refine Chg.turn (by simp) | with_reducible refine Chg.both ?_ (by simp) | (with_reducible refine Chg.set ?_ (by simp) _) | with_reducible apply Chg.alloc | with_reducible apply Chg.ext)) (by exact blk_set HB.out), (by repeat (first | with_reducible exact Chg.refl _ _ | with_reducible apply Chg.drew | with_reducible apply Chg.drewl | with_reducible refine Chg.turn (by simp) | with_reducible refine Chg.both ?_ (by simp) | (with_reducible refine Chg.set ?_ (by simp) _) | with_reducible apply Chg.alloc | with_reducible apply Chg.ext))⟩
  · have g2 : ((n : Int) == 0) = false := by simp; omega
    by_cases hq : q < n
    · obtain ⟨b, o, x, rfl, hb, hx, hc⟩ := H4.out q hq
      have hbp : b ≠ p := by omega
      have hpb : p ≠ b := by omega
      have lb : b < w.heap.size := by omega
      go_enter Try.func56, Try.ntmps56
      try go_wp2_with (first
          | fail
          | (
            with_reducible refine wp_region_mix (by kernel_rfl) (by decide +kernel) ?_
            repeat (first
              | (refine mix_pure rfl ?_; (first | go_big_quiet_skip | (go_big_quiet_want; go_big_quiet_op; go_big_quiet_on)); refine wpQuiet_nil ?_)
              | (refine mix_skip (by rfl) ?_; (try simp only [Act.put, List.setIfInBounds_toArray, List.set_cons_zero, List.set_cons_succ]))
              | (refine mix_mk rfl (by rfl) (fun K hK => ?_); (first | (go_simp; first | skip)); (show K _ _); refine hK _ _ (show Ext _ _ from (by ((try simp only [ext_drew]); (try simp only [ext_ext]); repeat (first | exact Ext.refl _ | with_reducible apply Ext.add | with_reducible apply Ext.dr | apply Ext.alloc | apply Ext.ext | apply Ext.drew | refine Ext.trans ?_ (by assumption))))) ?_; clear hK K; (try simp only [Act.put, List.setIfInBounds_toArray, List.set_cons_zero, List.set_cons_succ])))
            refine mix_nil ?_)
          | (
            with_reducible refine wp_region_ext (by kernel_rfl) (by kernel_rfl) ?_
            repeat (first | go_big_quiet_skip | (go_big_quiet_want; go_big_quiet_op; first | go_big_quiet_on | (apply Exists.intro; refine ⟨fun _ => ?_, ?_⟩; (fail); (try rw [h1]); (try rw [h2]); (try rw [h3]); (try rw [h4]); (try rw [p1]); (try rw [p2]); (try rw [p3]); (try rw [p4]); (try rw [r1]); (try rw [r2]); (try rw [r3]); (try rw [r4]); (try rw [r5]); (try rw [r6]); (try rw [q3]); (try rw [q4]); (try rw [hp]); (try rw [hq]); go_big_quiet_on)))
            refine wpQuiet_nil ?_
            rintro _ ⟨tq, rfl⟩))
      go_ret
      exact ⟨(x : Int) % k, ret_int (by simp), Int.emod_nonneg _ (by omega), Int.emod_lt_of_pos _ (by omega), HF.out 0 _ (by repeat (first | with_reducible exact Chg.refl _ _ | with_reducible apply Chg.drew | with_reducible apply Chg.drewl | with_reducible refine Chg.turn (by simp) | with_reducible refine Chg.both ?_ (by simp) | (with_reducible refine Chg.set ?_ (by simp) _) | with_reducible apply Chg.alloc | with_reducible apply Chg.ext)) (by exact blk_set HB.out), (by repeat (first | with_reducible exact Chg.refl _ _ | with_reducible apply Chg.drew | with_reducible apply Chg.drewl | with_reducible refine Chg.turn (by simp) | with_reducible refine Chg.both ?_ (by simp) | (with_reducible refine Chg.set ?_ (by simp) _) | with_reducible apply Chg.alloc | with_reducible apply Chg.ext))⟩
    · obtain ⟨i1, hi1⟩ : ∃ i, q % n = i := ⟨_, rfl⟩
      obtain ⟨i2, hi2⟩ : ∃ i, (q * 7 + 3) % n = i := ⟨_, rfl⟩
      obtain ⟨d, hd⟩ : ∃ d, q / n = d := ⟨_, rfl⟩
      have l1 : i1 < n := by rw [← hi1]; exact Nat.mod_lt _ (by omega)
      have l2 : i2 < n := by rw [← hi2]; exact Nat.mod_lt _ (by omega)
      have ld : d ≤ q := by rw [← hd]; exact Nat.div_le_self _ _
      have e1 : (q : Int) % (n : Int) = (i1 : Int) := by rw [← hi1]; simp
      have e2 : ((q : Int) * 7 + 3) % (n : Int) = (i2 : Int) := by rw [← hi2]; simp
      have e3 : (q : Int) / (n : Int) = (d : Int) := by rw [← hd]; simp
      obtain ⟨b, o, x, rfl, hb, hx, hc⟩ := H4.out i1 l1
      obtain ⟨b', o', x', hbo, hb', hx', hc'⟩ := H4.out i2 l2
      simp only [Option.some.injEq, Addr.mk.injEq, and_true] at hbo
      obtain ⟨rfl, rfl⟩ := hbo
      have hbp : b ≠ p := by omega
      have hpb : p ≠ b := by omega
      have lb : b < w.heap.size := by omega
      clear hi1 hi2 hd
      go_enter Try.func56, Try.ntmps56
      try go_wp2_with (first
          | fail
          | (
            with_reducible refine wp_region_mix (by kernel_rfl) (by decide +kernel) ?_
            repeat (first
              | (refine mix_pure rfl ?_; (first | go_big_quiet_skip | (go_big_quiet_want; go_big_quiet_op; go_big_quiet_on)); refine wpQuiet_nil ?_)
              | (refine mix_skip (by rfl) ?_; (try simp only [Act.put, List.setIfInBounds_toArray, List.set_cons_zero, List.set_cons_succ]))
              | (refine mix_mk rfl (by rfl) (fun K hK => ?_); (first | (go_simp; first | skip)); (show K _ _); refine hK _ _ (show Ext _ _ from (by ((try simp only [ext_drew]); (try simp only [ext_ext]); repeat (first | exact Ext.refl _ | with_reducible apply Ext.add | with_reducible apply Ext.dr | apply Ext.alloc | apply Ext.ext | apply Ext.drew | refine Ext.trans ?_ (by assumption))))) ?_; clear hK K; (try simp only [Act.put, List.setIfInBounds_toArray, List.set_cons_zero, List.set_cons_succ])))
            refine mix_nil ?_)
          | (
            with_reducible refine wp_region_ext (by kernel_rfl) (by kernel_rfl) ?_
            repeat (first | go_big_quiet_skip | (go_big_quiet_want; go_big_quiet_op; first | go_big_quiet_on | (apply Exists.intro; refine ⟨fun _ => ?_, ?_⟩; (fail); (try rw [h1]); (try rw [h2]); (try rw [h3]); (try rw [h4]); (try rw [p1]); (try rw [p2]); (try rw [p3]); (try rw [p4]); (try rw [r1]); (try rw [r2]); (try rw [r3]); (try rw [r4]); (try rw [r5]); (try rw [r6]); (try rw [q3]); (try rw [q4]); (try rw [hp]); (try rw [hq]); go_big_quiet_on)))
            refine wpQuiet_nil ?_
            rintro _ ⟨tq, rfl⟩))
      go_ret
      obtain ⟨r, hr⟩ := bits_nn ((x : Int) * 131 + (x' : Int) * 1117 + (q : Int) * 29 + (d : Int) * 53) (by omega) (by omega)
      refine ⟨((r : Int)).tmod k, ret_int (by rw [hr]), ?_, ?_, HF.out 0 _ (by repeat (first | with_reducible exact Chg.refl _ _ | with_reducible apply Chg.drew | with_reducible apply Chg.drewl | with_reducible refine Chg.turn (by simp) | with_reducible refine Chg.both ?_ (by simp) | (with_reducible refine Chg.set ?_ (by simp) _) | with_reducible apply Chg.alloc | with_reducible apply Chg.ext)) (by exact blk_ext (blk_set HB.out)), (by repeat (first | with_reducible exact Chg.refl _ _ | with_reducible apply Chg.drew | with_reducible apply Chg.drewl | with_reducible refine Chg.turn (by simp) | with_reducible refine Chg.both ?_ (by simp) | (with_reducible refine Chg.set ?_ (by simp) _) | with_reducible apply Chg.alloc | with_reducible apply Chg.ext))⟩
      · rw [Int.tmod_eq_emod_of_nonneg (by omega)]; exact Int.emod_nonneg _ (by omega)
      · rw [Int.tmod_eq_emod_of_nonneg (by omega)]; exact Int.emod_lt_of_pos _ (by omega)
@[go_sem] theorem extR_size (w : World) (R : Nat) (x : Xr) : (extR w R x).heap.size = w.heap.size + x.t.bs.size := by simp [extR, ext_size, putBlk]
/-- A map that was drawn, in bounds. -/
def MapIn (m : Mp) : Prop := -1 ≤ m.c ∧ m.c ≤ 9 ∧ -1 ≤ m.w ∧ m.w ≤ 9
set_option maxRecDepth 100000 in
set_option maxHeartbeats 1000000 in
theorem l20Map_c (lo p Q : Nat) (w : World) (h : Rdr lo p Q w) (hQ : Q ≤ 90000) :
    Calls Try.prog 55 #[.pointer (some ⟨p, 0, none⟩)] w fun e w' => ∃ m : Mp, e = .returned (.agg #[.int .i64 m.c, .int .i64 m.w]) ∧ MapIn m ∧ Rdr lo p (Q + 4) w' ∧ Chg [p] w w' := by
  have lP := h.lt
  have HR := hid h
  clear h
  go_enter Try.func55, Try.ntmps55
  try go_wp2_with (first
      | (go_at_call 56; with_reducible refine (pick_c lo p _ 3 _ (HR.out.of (by ((try simp only [ext_drew]); (try simp only [ext_ext]); repeat (first | exact Ext.refl _ | with_reducible apply Ext.add | with_reducible apply Ext.dr | apply Ext.alloc | apply Ext.ext | apply Ext.drew | refine Ext.trans ?_ (by assumption))))) (by omega) (by omega) (by omega)).mono ?_; rintro e w' ⟨v, rfl, hv0, hv1, hR, hC⟩; have HR := hid hR; have bR := hid (show w'.heap[w.heap.size]? = some (.cells #[.int .i64 0, .int .i64 0] 24 (0, 0)) from (hC.block _ (by first | assumption | ((try simp [go_sem]) <;> (try simp [Xt.add]) <;> omega)) (by simp; omega)).trans (by first | exact bR.out | exact alloc_last (by simp))); have lR := lt_blk bR.out; have HC := hid (show Chg [p] w w' from (by first | exact Chg.trans HC.out hC | exact Chg.trans (by repeat (first | with_reducible exact Chg.refl _ _ | with_reducible apply Chg.drew | with_reducible apply Chg.drewl | with_reducible refine Chg.turn (by simp) | with_reducible refine Chg.both ?_ (by simp) | (with_reducible refine Chg.set ?_ (by simp) _) | with_reducible apply Chg.alloc | with_reducible apply Chg.ext)) hC)); clear hR hC)
      | (
        with_reducible refine wp_region_mix (by kernel_rfl) (by decide +kernel) ?_
        repeat (first
          | (refine mix_pure rfl ?_; (first | go_big_quiet_skip | (go_big_quiet_want; go_big_quiet_op; go_big_quiet_on)); refine wpQuiet_nil ?_)
          | (refine mix_skip (by rfl) ?_; (try simp only [Act.put, List.setIfInBounds_toArray, List.set_cons_zero, List.set_cons_succ]))
          | (refine mix_mk rfl (by rfl) (fun K hK => ?_); (first | (go_simp; first | (go_at_call 56; with_reducible refine (pick_c lo p _ 3 _ (HR.out.of (by ((try simp only [ext_drew]); (try simp only [ext_ext]); repeat (first | exact Ext.refl _ | with_reducible apply Ext.add | with_reducible apply Ext.dr | apply Ext.alloc | apply Ext.ext | apply Ext.drew | refine Ext.trans ?_ (by assumption))))) (by omega) (by omega) (by omega)).mono ?_; rintro e w' ⟨v, rfl, hv0, hv1, hR, hC⟩; have HR := hid hR; have bR := hid (show w'.heap[w.heap.size]? = some (.cells #[.int .i64 0, .int .i64 0] 24 (0, 0)) from (hC.block _ (by first | assumption | ((try simp [go_sem]) <;> (try simp [Xt.add]) <;> omega)) (by simp; omega)).trans (by first | exact bR.out | exact alloc_last (by simp))); have lR := lt_blk bR.out; have HC := hid (show Chg [p] w w' from (by first | exact Chg.trans HC.out hC | exact Chg.trans (by repeat (first | with_reducible exact Chg.refl _ _ | with_reducible apply Chg.drew | with_reducible apply Chg.drewl | with_reducible refine Chg.turn (by simp) | with_reducible refine Chg.both ?_ (by simp) | (with_reducible refine Chg.set ?_ (by simp) _) | with_reducible apply Chg.alloc | with_reducible apply Chg.ext)) hC)); clear hR hC) | skip)); (show K _ _); refine hK _ _ (show Ext _ _ from (by ((try simp only [ext_drew]); (try simp only [ext_ext]); repeat (first | exact Ext.refl _ | with_reducible apply Ext.add | with_reducible apply Ext.dr | apply Ext.alloc | apply Ext.ext | apply Ext.drew | refine Ext.trans ?_ (by assumption))))) ?_; clear hK K; (try simp only [Act.put, List.setIfInBounds_toArray, List.set_cons_zero, List.set_cons_succ])))
        refine mix_nil ?_)
      | (
        with_reducible refine wp_region_ext (by kernel_rfl) (by kernel_rfl) ?_
        repeat (first | go_big_quiet_skip | (go_big_quiet_want; go_big_quiet_op; first | go_big_quiet_on | (apply Exists.intro; refine ⟨fun _ => ?_, ?_⟩; (fail); (try rw [h1]); (try rw [h2]); (try rw [h3]); (try rw [h4]); (try rw [p1]); (try rw [p2]); (try rw [p3]); (try rw [p4]); (try rw [r1]); (try rw [r2]); (try rw [r3]); (try rw [r4]); (try rw [r5]); (try rw [r6]); (try rw [q3]); (try rw [q4]); (try rw [hp]); (try rw [hq]); go_big_quiet_on)))
        refine wpQuiet_nil ?_
        rintro _ ⟨tq, rfl⟩))
  refine calls_gen fun X hX => ?_
  obtain ⟨T, hT⟩ : ∃ T, w'.heap.size = T := ⟨_, rfl⟩
  obtain ⟨a, b, hab, bT⟩ : ∃ a b : Int, (2 ≤ a ∧ a ≤ 4 ∧ 2 ≤ b ∧ b ≤ 4) ∧ X.heap[T]? = some (.cells #[.int .i64 a, .int .i64 b] 24 (0, 0)) := by
    refine ⟨_, _, ?_, by rw [hX]; exact alloc_last (by simp [hT])⟩
    omega
  have EX : Ext w' X := by rw [hX]; ((try simp only [ext_drew]); (try simp only [ext_ext]); repeat (first | exact Ext.refl _ | with_reducible apply Ext.add | with_reducible apply Ext.dr | apply Ext.alloc | apply Ext.ext | apply Ext.drew | refine Ext.trans ?_ (by assumption)))
  have bRX : X.heap[w.heap.size]? = some (.cells #[.int .i64 0, .int .i64 0] 24 (0, 0)) := (EX.block lR).trans bR.out
  have HRX := hid (HR.out.of EX)
  have HCX := hid (HC.out.trans (Chg.of_ext EX [p]))
  rw [hT]
  have hTw : w.heap.size < T := by rw [← hT]; exact lR
  have hpT : p < T := by omega
  clear hX EX bR HR HC hT lR
  refine (pick_c lo p (Q + 2) 24 X HRX.out (by omega) (by omega) (by omega)).mono ?_
  rintro e Y ⟨v0, rfl, h00, h01, hRY, hCY⟩
  have bTY := (hCY.block T (lt_blk bT) (by simp; omega)).trans bT
  have bRY := (hCY.block w.heap.size (lt_blk bRX) (by simp; omega)).trans bRX
  have HY := hid hRY
  have HCY := hid (HCX.out.trans hCY)
  clear bT bRX hRY hCY HRX HCX
  have lT := lt_blk bTY
  have lR := lt_blk bRY
  by_cases z0 : v0 = 0
  · subst z0
    try go_wp2_with (first
        | fail
        | (
          with_reducible refine wp_region_mix (by kernel_rfl) (by decide +kernel) ?_
          repeat (first
            | (refine mix_pure rfl ?_; (first | go_big_quiet_skip | (go_big_quiet_want; go_big_quiet_op; go_big_quiet_on)); refine wpQuiet_nil ?_)
            | (refine mix_skip (by rfl) ?_; (try simp only [Act.put, List.setIfInBounds_toArray, List.set_cons_zero, List.set_cons_succ]))
            | (refine mix_mk rfl (by rfl) (fun K hK => ?_); (first | (go_simp; first | skip)); (show K _ _); refine hK _ _ (show Ext _ _ from (by ((try simp only [ext_drew]); (try simp only [ext_ext]); repeat (first | exact Ext.refl _ | with_reducible apply Ext.add | with_reducible apply Ext.dr | apply Ext.alloc | apply Ext.ext | apply Ext.drew | refine Ext.trans ?_ (by assumption))))) ?_; clear hK K; (try simp only [Act.put, List.setIfInBounds_toArray, List.set_cons_zero, List.set_cons_succ])))
          refine mix_nil ?_)
        | (
          with_reducible refine wp_region_ext (by kernel_rfl) (by kernel_rfl) ?_
          repeat (first | go_big_quiet_skip | (go_big_quiet_want; go_big_quiet_op; first | go_big_quiet_on | (apply Exists.intro; refine ⟨fun _ => ?_, ?_⟩; (fail); (try rw [h1]); (try rw [h2]); (try rw [h3]); (try rw [h4]); (try rw [p1]); (try rw [p2]); (try rw [p3]); (try rw [p4]); (try rw [r1]); (try rw [r2]); (try rw [r3]); (try rw [r4]); (try rw [r5]); (try rw [r6]); (try rw [q3]); (try rw [q4]); (try rw [hp]); (try rw [hq]); go_big_quiet_on)))
          refine wpQuiet_nil ?_
          rintro _ ⟨tq, rfl⟩))
    refine calls_gen fun Z hZ => ?_
    obtain ⟨S, hS⟩ : ∃ S, Y.heap.size = S := ⟨_, rfl⟩
    have bS : Z.heap[S]? = some (.cells #[.int .i64 0, .int .i64 1, .int .i64 5, .int .i64 (-1)] 3 (0, 0)) := by rw [hZ]; exact alloc_last (by simp [hS])
    have EZ : Ext Y Z := by rw [hZ]; ((try simp only [ext_drew]); (try simp only [ext_ext]); repeat (first | exact Ext.refl _ | with_reducible apply Ext.add | with_reducible apply Ext.dr | apply Ext.alloc | apply Ext.ext | apply Ext.drew | refine Ext.trans ?_ (by assumption)))
    have bT := (EZ.block lT).trans bTY
    have bR := (EZ.block lR).trans bRY
    have HR4 := hid (HY.out.of EZ)
    have HC4 := hid (HCY.out.trans (Chg.of_ext EZ [p]))
    have hTS : T < S := by rw [← hS]; exact lT
    have hTR : T ≠ w.heap.size := by omega
    have hRT : w.heap.size ≠ T := by omega
    rw [hS]
    clear hZ EZ bTY bRY HY HCY lT lR hS
    refine (pick_c lo p (Q + 3) 4 Z HR4.out (by omega) (by omega) (by omega)).mono ?_
    rintro e Z' ⟨v4, rfl, h40, h41, hRZ, hCZ⟩
    have bT' := (hCZ.block T (lt_blk bT) (by simp; omega)).trans bT
    have bR' := (hCZ.block w.heap.size (lt_blk bR) (by simp; omega)).trans bR
    have bS' := (hCZ.block S (lt_blk bS) (by simp; omega)).trans bS
    have HZ := hid hRZ
    have HCZ := hid (HC4.out.trans hCZ)
    clear bT bR bS hRZ hCZ HR4 HC4
    have lT' := lt_blk bT'
    have lR' := lt_blk bR'
    have lS' := lt_blk bS'
    have hv4 : v4 = 0 ∨ v4 = 1 ∨ v4 = 2 ∨ v4 = 3 := by omega
    rcases hv4 with rfl | rfl | rfl | rfl
    · have cS : Z'.cell? ⟨S, 0, none⟩ = some _ := (cell_blk bS' 0).trans rfl
      have cT0 : Z'.cell? ⟨T, 0, none⟩ = some (.int .i64 a) := (cell_blk bT' 0).trans rfl
      have cT1 : Z'.cell? ⟨T, 1, none⟩ = some (.int .i64 b) := (cell_blk bT' 1).trans rfl
      have zT0 := frozen_blk bT' 0
      have zT1 := frozen_blk bT' 1
      have cR0 : Z'.cell? ⟨w.heap.size, 0, none⟩ = some (.int .i64 0) := (cell_blk bR' 0).trans rfl
      have cR1 : Z'.cell? ⟨w.heap.size, 1, none⟩ = some (.int .i64 0) := (cell_blk bR' 1).trans rfl
      have zR0 := frozen_blk bR' 0
      have zR1 := frozen_blk bR' 1
      clear bS' bT' bR'
      try go_wp2_with (first
          | fail
          | (
            with_reducible refine wp_region_mix (by kernel_rfl) (by decide +kernel) ?_
            repeat (first
              | (refine mix_pure rfl ?_; (first | go_big_quiet_skip | (go_big_quiet_want; go_big_quiet_op; go_big_quiet_on)); refine wpQuiet_nil ?_)
              | (refine mix_skip (by rfl) ?_; (try simp only [Act.put, List.setIfInBounds_toArray, List.set_cons_zero, List.set_cons_succ]))
              | (refine mix_mk rfl (by rfl) (fun K hK => ?_); (first | (go_simp; first | skip)); (show K _ _); refine hK _ _ (show Ext _ _ from (by ((try simp only [ext_drew]); (try simp only [ext_ext]); repeat (first | exact Ext.refl _ | with_reducible apply Ext.add | with_reducible apply Ext.dr | apply Ext.alloc | apply Ext.ext | apply Ext.drew | refine Ext.trans ?_ (by assumption))))) ?_; clear hK K; (try simp only [Act.put, List.setIfInBounds_toArray, List.set_cons_zero, List.set_cons_succ])))
            refine mix_nil ?_)
          | (
            with_reducible refine wp_region_ext (by kernel_rfl) (by kernel_rfl) ?_
            repeat (first | go_big_quiet_skip | (go_big_quiet_want; go_big_quiet_op; first | go_big_quiet_on | (apply Exists.intro; refine ⟨fun _ => ?_, ?_⟩; (fail); (try rw [h1]); (try rw [h2]); (try rw [h3]); (try rw [h4]); (try rw [p1]); (try rw [p2]); (try rw [p3]); (try rw [p4]); (try rw [r1]); (try rw [r2]); (try rw [r3]); (try rw [r4]); (try rw [r5]); (try rw [r6]); (try rw [q3]); (try rw [q4]); (try rw [hp]); (try rw [hq]); go_big_quiet_on)))
            refine wpQuiet_nil ?_
            rintro _ ⟨tq, rfl⟩))
      refine bodyPost_ret (v := .agg #[.int .i64 (0), .int .i64 (b)]) (by simp [results, Try.results55, go_sem, cT0, cT1, cR0, cR1, lT', lR', hTR]) rfl ?_
      exact ⟨⟨0, b⟩, rfl, ⟨by dsimp only; omega, by dsimp only; omega, by dsimp only; omega, by dsimp only; omega⟩, HZ.out.chg (B := [T, w.heap.size]) (by repeat (first | with_reducible exact Chg.refl _ _ | with_reducible apply Chg.drew | with_reducible apply Chg.drewl | with_reducible refine Chg.turn (by simp) | with_reducible refine Chg.both ?_ (by simp) | (with_reducible refine Chg.set ?_ (by simp) _) | with_reducible apply Chg.alloc | with_reducible apply Chg.ext)) (by simp; have := HZ.out.lo; omega) (by omega), HCZ.out.up (B' := [T, w.heap.size]) (by repeat (first | with_reducible exact Chg.refl _ _ | with_reducible apply Chg.drew | with_reducible apply Chg.drewl | with_reducible refine Chg.turn (by simp) | with_reducible refine Chg.both ?_ (by simp) | (with_reducible refine Chg.set ?_ (by simp) _) | with_reducible apply Chg.alloc | with_reducible apply Chg.ext)) (by simp; omega)⟩
    · have cS : Z'.cell? ⟨S, 1, none⟩ = some _ := (cell_blk bS' 1).trans rfl
      have cT0 : Z'.cell? ⟨T, 0, none⟩ = some (.int .i64 a) := (cell_blk bT' 0).trans rfl
      have cT1 : Z'.cell? ⟨T, 1, none⟩ = some (.int .i64 b) := (cell_blk bT' 1).trans rfl
      have zT0 := frozen_blk bT' 0
      have zT1 := frozen_blk bT' 1
      have cR0 : Z'.cell? ⟨w.heap.size, 0, none⟩ = some (.int .i64 0) := (cell_blk bR' 0).trans rfl
      have cR1 : Z'.cell? ⟨w.heap.size, 1, none⟩ = some (.int .i64 0) := (cell_blk bR' 1).trans rfl
      have zR0 := frozen_blk bR' 0
      have zR1 := frozen_blk bR' 1
      clear bS' bT' bR'
      try go_wp2_with (first
          | fail
          | (
            with_reducible refine wp_region_mix (by kernel_rfl) (by decide +kernel) ?_
            repeat (first
              | (refine mix_pure rfl ?_; (first | go_big_quiet_skip | (go_big_quiet_want; go_big_quiet_op; go_big_quiet_on)); refine wpQuiet_nil ?_)
              | (refine mix_skip (by rfl) ?_; (try simp only [Act.put, List.setIfInBounds_toArray, List.set_cons_zero, List.set_cons_succ]))
              | (refine mix_mk rfl (by rfl) (fun K hK => ?_); (first | (go_simp; first | skip)); (show K _ _); refine hK _ _ (show Ext _ _ from (by ((try simp only [ext_drew]); (try simp only [ext_ext]); repeat (first | exact Ext.refl _ | with_reducible apply Ext.add | with_reducible apply Ext.dr | apply Ext.alloc | apply Ext.ext | apply Ext.drew | refine Ext.trans ?_ (by assumption))))) ?_; clear hK K; (try simp only [Act.put, List.setIfInBounds_toArray, List.set_cons_zero, List.set_cons_succ])))
            refine mix_nil ?_)
          | (
            with_reducible refine wp_region_ext (by kernel_rfl) (by kernel_rfl) ?_
            repeat (first | go_big_quiet_skip | (go_big_quiet_want; go_big_quiet_op; first | go_big_quiet_on | (apply Exists.intro; refine ⟨fun _ => ?_, ?_⟩; (fail); (try rw [h1]); (try rw [h2]); (try rw [h3]); (try rw [h4]); (try rw [p1]); (try rw [p2]); (try rw [p3]); (try rw [p4]); (try rw [r1]); (try rw [r2]); (try rw [r3]); (try rw [r4]); (try rw [r5]); (try rw [r6]); (try rw [q3]); (try rw [q4]); (try rw [hp]); (try rw [hq]); go_big_quiet_on)))
            refine wpQuiet_nil ?_
            rintro _ ⟨tq, rfl⟩))
      refine bodyPost_ret (v := .agg #[.int .i64 (1), .int .i64 (b)]) (by simp [results, Try.results55, go_sem, cT0, cT1, cR0, cR1, lT', lR', hTR]) rfl ?_
      exact ⟨⟨1, b⟩, rfl, ⟨by dsimp only; omega, by dsimp only; omega, by dsimp only; omega, by dsimp only; omega⟩, HZ.out.chg (B := [T, w.heap.size]) (by repeat (first | with_reducible exact Chg.refl _ _ | with_reducible apply Chg.drew | with_reducible apply Chg.drewl | with_reducible refine Chg.turn (by simp) | with_reducible refine Chg.both ?_ (by simp) | (with_reducible refine Chg.set ?_ (by simp) _) | with_reducible apply Chg.alloc | with_reducible apply Chg.ext)) (by simp; have := HZ.out.lo; omega) (by omega), HCZ.out.up (B' := [T, w.heap.size]) (by repeat (first | with_reducible exact Chg.refl _ _ | with_reducible apply Chg.drew | with_reducible apply Chg.drewl | with_reducible refine Chg.turn (by simp) | with_reducible refine Chg.both ?_ (by simp) | (with_reducible refine Chg.set ?_ (by simp) _) | with_reducible apply Chg.alloc | with_reducible apply Chg.ext)) (by simp; omega)⟩
    · have cS : Z'.cell? ⟨S, 2, none⟩ = some _ := (cell_blk bS' 2).trans rfl
      have cT0 : Z'.cell? ⟨T, 0, none⟩ = some (.int .i64 a) := (cell_blk bT' 0).trans rfl
      have cT1 : Z'.cell? ⟨T, 1, none⟩ = some (.int .i64 b) := (cell_blk bT' 1).trans rfl
      have zT0 := frozen_blk bT' 0
      have zT1 := frozen_blk bT' 1
      have cR0 : Z'.cell? ⟨w.heap.size, 0, none⟩ = some (.int .i64 0) := (cell_blk bR' 0).trans rfl
      have cR1 : Z'.cell? ⟨w.heap.size, 1, none⟩ = some (.int .i64 0) := (cell_blk bR' 1).trans rfl
      have zR0 := frozen_blk bR' 0
      have zR1 := frozen_blk bR' 1
      clear bS' bT' bR'
      try go_wp2_with (first
          | fail
          | (
            with_reducible refine wp_region_mix (by kernel_rfl) (by decide +kernel) ?_
            repeat (first
              | (refine mix_pure rfl ?_; (first | go_big_quiet_skip | (go_big_quiet_want; go_big_quiet_op; go_big_quiet_on)); refine wpQuiet_nil ?_)
              | (refine mix_skip (by rfl) ?_; (try simp only [Act.put, List.setIfInBounds_toArray, List.set_cons_zero, List.set_cons_succ]))
              | (refine mix_mk rfl (by rfl) (fun K hK => ?_); (first | (go_simp; first | skip)); (show K _ _); refine hK _ _ (show Ext _ _ from (by ((try simp only [ext_drew]); (try simp only [ext_ext]); repeat (first | exact Ext.refl _ | with_reducible apply Ext.add | with_reducible apply Ext.dr | apply Ext.alloc | apply Ext.ext | apply Ext.drew | refine Ext.trans ?_ (by assumption))))) ?_; clear hK K; (try simp only [Act.put, List.setIfInBounds_toArray, List.set_cons_zero, List.set_cons_succ])))
            refine mix_nil ?_)
          | (
            with_reducible refine wp_region_ext (by kernel_rfl) (by kernel_rfl) ?_
            repeat (first | go_big_quiet_skip | (go_big_quiet_want; go_big_quiet_op; first | go_big_quiet_on | (apply Exists.intro; refine ⟨fun _ => ?_, ?_⟩; (fail); (try rw [h1]); (try rw [h2]); (try rw [h3]); (try rw [h4]); (try rw [p1]); (try rw [p2]); (try rw [p3]); (try rw [p4]); (try rw [r1]); (try rw [r2]); (try rw [r3]); (try rw [r4]); (try rw [r5]); (try rw [r6]); (try rw [q3]); (try rw [q4]); (try rw [hp]); (try rw [hq]); go_big_quiet_on)))
            refine wpQuiet_nil ?_
            rintro _ ⟨tq, rfl⟩))
      refine bodyPost_ret (v := .agg #[.int .i64 (5), .int .i64 (b)]) (by simp [results, Try.results55, go_sem, cT0, cT1, cR0, cR1, lT', lR', hTR]) rfl ?_
      exact ⟨⟨5, b⟩, rfl, ⟨by dsimp only; omega, by dsimp only; omega, by dsimp only; omega, by dsimp only; omega⟩, HZ.out.chg (B := [T, w.heap.size]) (by repeat (first | with_reducible exact Chg.refl _ _ | with_reducible apply Chg.drew | with_reducible apply Chg.drewl | with_reducible refine Chg.turn (by simp) | with_reducible refine Chg.both ?_ (by simp) | (with_reducible refine Chg.set ?_ (by simp) _) | with_reducible apply Chg.alloc | with_reducible apply Chg.ext)) (by simp; have := HZ.out.lo; omega) (by omega), HCZ.out.up (B' := [T, w.heap.size]) (by repeat (first | with_reducible exact Chg.refl _ _ | with_reducible apply Chg.drew | with_reducible apply Chg.drewl | with_reducible refine Chg.turn (by simp) | with_reducible refine Chg.both ?_ (by simp) | (with_reducible refine Chg.set ?_ (by simp) _) | with_reducible apply Chg.alloc | with_reducible apply Chg.ext)) (by simp; omega)⟩
    · have cS : Z'.cell? ⟨S, 3, none⟩ = some _ := (cell_blk bS' 3).trans rfl
      have cT0 : Z'.cell? ⟨T, 0, none⟩ = some (.int .i64 a) := (cell_blk bT' 0).trans rfl
      have cT1 : Z'.cell? ⟨T, 1, none⟩ = some (.int .i64 b) := (cell_blk bT' 1).trans rfl
      have zT0 := frozen_blk bT' 0
      have zT1 := frozen_blk bT' 1
      have cR0 : Z'.cell? ⟨w.heap.size, 0, none⟩ = some (.int .i64 0) := (cell_blk bR' 0).trans rfl
      have cR1 : Z'.cell? ⟨w.heap.size, 1, none⟩ = some (.int .i64 0) := (cell_blk bR' 1).trans rfl
      have zR0 := frozen_blk bR' 0
      have zR1 := frozen_blk bR' 1
      clear bS' bT' bR'
      try go_wp2_with (first
          | fail
          | (
            with_reducible refine wp_region_mix (by kernel_rfl) (by decide +kernel) ?_
            repeat (first
              | (refine mix_pure rfl ?_; (first | go_big_quiet_skip | (go_big_quiet_want; go_big_quiet_op; go_big_quiet_on)); refine wpQuiet_nil ?_)
              | (refine mix_skip (by rfl) ?_; (try simp only [Act.put, List.setIfInBounds_toArray, List.set_cons_zero, List.set_cons_succ]))
              | (refine mix_mk rfl (by rfl) (fun K hK => ?_); (first | (go_simp; first | skip)); (show K _ _); refine hK _ _ (show Ext _ _ from (by ((try simp only [ext_drew]); (try simp only [ext_ext]); repeat (first | exact Ext.refl _ | with_reducible apply Ext.add | with_reducible apply Ext.dr | apply Ext.alloc | apply Ext.ext | apply Ext.drew | refine Ext.trans ?_ (by assumption))))) ?_; clear hK K; (try simp only [Act.put, List.setIfInBounds_toArray, List.set_cons_zero, List.set_cons_succ])))
            refine mix_nil ?_)
          | (
            with_reducible refine wp_region_ext (by kernel_rfl) (by kernel_rfl) ?_
            repeat (first | go_big_quiet_skip | (go_big_quiet_want; go_big_quiet_op; first | go_big_quiet_on | (apply Exists.intro; refine ⟨fun _ => ?_, ?_⟩; (fail); (try rw [h1]); (try rw [h2]); (try rw [h3]); (try rw [h4]); (try rw [p1]); (try rw [p2]); (try rw [p3]); (try rw [p4]); (try rw [r1]); (try rw [r2]); (try rw [r3]); (try rw [r4]); (try rw [r5]); (try rw [r6]); (try rw [q3]); (try rw [q4]); (try rw [hp]); (try rw [hq]); go_big_quiet_on)))
            refine wpQuiet_nil ?_
            rintro _ ⟨tq, rfl⟩))
      refine bodyPost_ret (v := .agg #[.int .i64 (-1), .int .i64 (b)]) (by simp [results, Try.results55, go_sem, cT0, cT1, cR0, cR1, lT', lR', hTR]) rfl ?_
      exact ⟨⟨-1, b⟩, rfl, ⟨by dsimp only; omega, by dsimp only; omega, by dsimp only; omega, by dsimp only; omega⟩, HZ.out.chg (B := [T, w.heap.size]) (by repeat (first | with_reducible exact Chg.refl _ _ | with_reducible apply Chg.drew | with_reducible apply Chg.drewl | with_reducible refine Chg.turn (by simp) | with_reducible refine Chg.both ?_ (by simp) | (with_reducible refine Chg.set ?_ (by simp) _) | with_reducible apply Chg.alloc | with_reducible apply Chg.ext)) (by simp; have := HZ.out.lo; omega) (by omega), HCZ.out.up (B' := [T, w.heap.size]) (by repeat (first | with_reducible exact Chg.refl _ _ | with_reducible apply Chg.drew | with_reducible apply Chg.drewl | with_reducible refine Chg.turn (by simp) | with_reducible refine Chg.both ?_ (by simp) | (with_reducible refine Chg.set ?_ (by simp) _) | with_reducible apply Chg.alloc | with_reducible apply Chg.ext)) (by simp; omega)⟩
  · by_cases z1 : v0 = 1
    · subst z1
      try go_wp2_with (first
          | fail
          | (
            with_reducible refine wp_region_mix (by kernel_rfl) (by decide +kernel) ?_
            repeat (first
              | (refine mix_pure rfl ?_; (first | go_big_quiet_skip | (go_big_quiet_want; go_big_quiet_op; go_big_quiet_on)); refine wpQuiet_nil ?_)
              | (refine mix_skip (by rfl) ?_; (try simp only [Act.put, List.setIfInBounds_toArray, List.set_cons_zero, List.set_cons_succ]))
              | (refine mix_mk rfl (by rfl) (fun K hK => ?_); (first | (go_simp; first | skip)); (show K _ _); refine hK _ _ (show Ext _ _ from (by ((try simp only [ext_drew]); (try simp only [ext_ext]); repeat (first | exact Ext.refl _ | with_reducible apply Ext.add | with_reducible apply Ext.dr | apply Ext.alloc | apply Ext.ext | apply Ext.drew | refine Ext.trans ?_ (by assumption))))) ?_; clear hK K; (try simp only [Act.put, List.setIfInBounds_toArray, List.set_cons_zero, List.set_cons_succ])))
            refine mix_nil ?_)
          | (
            with_reducible refine wp_region_ext (by kernel_rfl) (by kernel_rfl) ?_
            repeat (first | go_big_quiet_skip | (go_big_quiet_want; go_big_quiet_op; first | go_big_quiet_on | (apply Exists.intro; refine ⟨fun _ => ?_, ?_⟩; (fail); (try rw [h1]); (try rw [h2]); (try rw [h3]); (try rw [h4]); (try rw [p1]); (try rw [p2]); (try rw [p3]); (try rw [p4]); (try rw [r1]); (try rw [r2]); (try rw [r3]); (try rw [r4]); (try rw [r5]); (try rw [r6]); (try rw [q3]); (try rw [q4]); (try rw [hp]); (try rw [hq]); go_big_quiet_on)))
            refine wpQuiet_nil ?_
            rintro _ ⟨tq, rfl⟩))
      refine calls_gen fun Z hZ => ?_
      obtain ⟨S, hS⟩ : ∃ S, Y.heap.size = S := ⟨_, rfl⟩
      have bS : Z.heap[S]? = some (.cells #[.int .i64 0, .int .i64 1, .int .i64 9, .int .i64 8] 3 (0, 0)) := by rw [hZ]; exact alloc_last (by simp [hS])
      have EZ : Ext Y Z := by rw [hZ]; ((try simp only [ext_drew]); (try simp only [ext_ext]); repeat (first | exact Ext.refl _ | with_reducible apply Ext.add | with_reducible apply Ext.dr | apply Ext.alloc | apply Ext.ext | apply Ext.drew | refine Ext.trans ?_ (by assumption)))
      have bT := (EZ.block lT).trans bTY
      have bR := (EZ.block lR).trans bRY
      have HR4 := hid (HY.out.of EZ)
      have HC4 := hid (HCY.out.trans (Chg.of_ext EZ [p]))
      have hTS : T < S := by rw [← hS]; exact lT
      have hTR : T ≠ w.heap.size := by omega
      have hRT : w.heap.size ≠ T := by omega
      rw [hS]
      clear hZ EZ bTY bRY HY HCY lT lR hS
      refine (pick_c lo p (Q + 3) 4 Z HR4.out (by omega) (by omega) (by omega)).mono ?_
      rintro e Z' ⟨v4, rfl, h40, h41, hRZ, hCZ⟩
      have bT' := (hCZ.block T (lt_blk bT) (by simp; omega)).trans bT
      have bR' := (hCZ.block w.heap.size (lt_blk bR) (by simp; omega)).trans bR
      have bS' := (hCZ.block S (lt_blk bS) (by simp; omega)).trans bS
      have HZ := hid hRZ
      have HCZ := hid (HC4.out.trans hCZ)
      clear bT bR bS hRZ hCZ HR4 HC4
      have lT' := lt_blk bT'
      have lR' := lt_blk bR'
      have lS' := lt_blk bS'
      have hv4 : v4 = 0 ∨ v4 = 1 ∨ v4 = 2 ∨ v4 = 3 := by omega
      rcases hv4 with rfl | rfl | rfl | rfl
      · have cS : Z'.cell? ⟨S, 0, none⟩ = some _ := (cell_blk bS' 0).trans rfl
        have cT0 : Z'.cell? ⟨T, 0, none⟩ = some (.int .i64 a) := (cell_blk bT' 0).trans rfl
        have cT1 : Z'.cell? ⟨T, 1, none⟩ = some (.int .i64 b) := (cell_blk bT' 1).trans rfl
        have zT0 := frozen_blk bT' 0
        have zT1 := frozen_blk bT' 1
        have cR0 : Z'.cell? ⟨w.heap.size, 0, none⟩ = some (.int .i64 0) := (cell_blk bR' 0).trans rfl
        have cR1 : Z'.cell? ⟨w.heap.size, 1, none⟩ = some (.int .i64 0) := (cell_blk bR' 1).trans rfl
        have zR0 := frozen_blk bR' 0
        have zR1 := frozen_blk bR' 1
        clear bS' bT' bR'
        try go_wp2_with (first
            | fail
            | (
              with_reducible refine wp_region_mix (by kernel_rfl) (by decide +kernel) ?_
              repeat (first
                | (refine mix_pure rfl ?_; (first | go_big_quiet_skip | (go_big_quiet_want; go_big_quiet_op; go_big_quiet_on)); refine wpQuiet_nil ?_)
                | (refine mix_skip (by rfl) ?_; (try simp only [Act.put, List.setIfInBounds_toArray, List.set_cons_zero, List.set_cons_succ]))
                | (refine mix_mk rfl (by rfl) (fun K hK => ?_); (first | (go_simp; first | skip)); (show K _ _); refine hK _ _ (show Ext _ _ from (by ((try simp only [ext_drew]); (try simp only [ext_ext]); repeat (first | exact Ext.refl _ | with_reducible apply Ext.add | with_reducible apply Ext.dr | apply Ext.alloc | apply Ext.ext | apply Ext.drew | refine Ext.trans ?_ (by assumption))))) ?_; clear hK K; (try simp only [Act.put, List.setIfInBounds_toArray, List.set_cons_zero, List.set_cons_succ])))
              refine mix_nil ?_)
            | (
              with_reducible refine wp_region_ext (by kernel_rfl) (by kernel_rfl) ?_
              repeat (first | go_big_quiet_skip | (go_big_quiet_want; go_big_quiet_op; first | go_big_quiet_on | (apply Exists.intro; refine ⟨fun _ => ?_, ?_⟩; (fail); (try rw [h1]); (try rw [h2]); (try rw [h3]); (try rw [h4]); (try rw [p1]); (try rw [p2]); (try rw [p3]); (try rw [p4]); (try rw [r1]); (try rw [r2]); (try rw [r3]); (try rw [r4]); (try rw [r5]); (try rw [r6]); (try rw [q3]); (try rw [q4]); (try rw [hp]); (try rw [hq]); go_big_quiet_on)))
              refine wpQuiet_nil ?_
              rintro _ ⟨tq, rfl⟩))
        refine bodyPost_ret (v := .agg #[.int .i64 (a), .int .i64 (0)]) (by simp [results, Try.results55, go_sem, cT0, cT1, cR0, cR1, lT', lR', hTR]) rfl ?_
        exact ⟨⟨a, 0⟩, rfl, ⟨by dsimp only; omega, by dsimp only; omega, by dsimp only; omega, by dsimp only; omega⟩, HZ.out.chg (B := [T, w.heap.size]) (by repeat (first | with_reducible exact Chg.refl _ _ | with_reducible apply Chg.drew | with_reducible apply Chg.drewl | with_reducible refine Chg.turn (by simp) | with_reducible refine Chg.both ?_ (by simp) | (with_reducible refine Chg.set ?_ (by simp) _) | with_reducible apply Chg.alloc | with_reducible apply Chg.ext)) (by simp; have := HZ.out.lo; omega) (by omega), HCZ.out.up (B' := [T, w.heap.size]) (by repeat (first | with_reducible exact Chg.refl _ _ | with_reducible apply Chg.drew | with_reducible apply Chg.drewl | with_reducible refine Chg.turn (by simp) | with_reducible refine Chg.both ?_ (by simp) | (with_reducible refine Chg.set ?_ (by simp) _) | with_reducible apply Chg.alloc | with_reducible apply Chg.ext)) (by simp; omega)⟩
      · have cS : Z'.cell? ⟨S, 1, none⟩ = some _ := (cell_blk bS' 1).trans rfl
        have cT0 : Z'.cell? ⟨T, 0, none⟩ = some (.int .i64 a) := (cell_blk bT' 0).trans rfl
        have cT1 : Z'.cell? ⟨T, 1, none⟩ = some (.int .i64 b) := (cell_blk bT' 1).trans rfl
        have zT0 := frozen_blk bT' 0
        have zT1 := frozen_blk bT' 1
        have cR0 : Z'.cell? ⟨w.heap.size, 0, none⟩ = some (.int .i64 0) := (cell_blk bR' 0).trans rfl
        have cR1 : Z'.cell? ⟨w.heap.size, 1, none⟩ = some (.int .i64 0) := (cell_blk bR' 1).trans rfl
        have zR0 := frozen_blk bR' 0
        have zR1 := frozen_blk bR' 1
        clear bS' bT' bR'
        try go_wp2_with (first
            | fail
            | (
              with_reducible refine wp_region_mix (by kernel_rfl) (by decide +kernel) ?_
              repeat (first
                | (refine mix_pure rfl ?_; (first | go_big_quiet_skip | (go_big_quiet_want; go_big_quiet_op; go_big_quiet_on)); refine wpQuiet_nil ?_)
                | (refine mix_skip (by rfl) ?_; (try simp only [Act.put, List.setIfInBounds_toArray, List.set_cons_zero, List.set_cons_succ]))
                | (refine mix_mk rfl (by rfl) (fun K hK => ?_); (first | (go_simp; first | skip)); (show K _ _); refine hK _ _ (show Ext _ _ from (by ((try simp only [ext_drew]); (try simp only [ext_ext]); repeat (first | exact Ext.refl _ | with_reducible apply Ext.add | with_reducible apply Ext.dr | apply Ext.alloc | apply Ext.ext | apply Ext.drew | refine Ext.trans ?_ (by assumption))))) ?_; clear hK K; (try simp only [Act.put, List.setIfInBounds_toArray, List.set_cons_zero, List.set_cons_succ])))
              refine mix_nil ?_)
            | (
              with_reducible refine wp_region_ext (by kernel_rfl) (by kernel_rfl) ?_
              repeat (first | go_big_quiet_skip | (go_big_quiet_want; go_big_quiet_op; first | go_big_quiet_on | (apply Exists.intro; refine ⟨fun _ => ?_, ?_⟩; (fail); (try rw [h1]); (try rw [h2]); (try rw [h3]); (try rw [h4]); (try rw [p1]); (try rw [p2]); (try rw [p3]); (try rw [p4]); (try rw [r1]); (try rw [r2]); (try rw [r3]); (try rw [r4]); (try rw [r5]); (try rw [r6]); (try rw [q3]); (try rw [q4]); (try rw [hp]); (try rw [hq]); go_big_quiet_on)))
              refine wpQuiet_nil ?_
              rintro _ ⟨tq, rfl⟩))
        refine bodyPost_ret (v := .agg #[.int .i64 (a), .int .i64 (1)]) (by simp [results, Try.results55, go_sem, cT0, cT1, cR0, cR1, lT', lR', hTR]) rfl ?_
        exact ⟨⟨a, 1⟩, rfl, ⟨by dsimp only; omega, by dsimp only; omega, by dsimp only; omega, by dsimp only; omega⟩, HZ.out.chg (B := [T, w.heap.size]) (by repeat (first | with_reducible exact Chg.refl _ _ | with_reducible apply Chg.drew | with_reducible apply Chg.drewl | with_reducible refine Chg.turn (by simp) | with_reducible refine Chg.both ?_ (by simp) | (with_reducible refine Chg.set ?_ (by simp) _) | with_reducible apply Chg.alloc | with_reducible apply Chg.ext)) (by simp; have := HZ.out.lo; omega) (by omega), HCZ.out.up (B' := [T, w.heap.size]) (by repeat (first | with_reducible exact Chg.refl _ _ | with_reducible apply Chg.drew | with_reducible apply Chg.drewl | with_reducible refine Chg.turn (by simp) | with_reducible refine Chg.both ?_ (by simp) | (with_reducible refine Chg.set ?_ (by simp) _) | with_reducible apply Chg.alloc | with_reducible apply Chg.ext)) (by simp; omega)⟩
      · have cS : Z'.cell? ⟨S, 2, none⟩ = some _ := (cell_blk bS' 2).trans rfl
        have cT0 : Z'.cell? ⟨T, 0, none⟩ = some (.int .i64 a) := (cell_blk bT' 0).trans rfl
        have cT1 : Z'.cell? ⟨T, 1, none⟩ = some (.int .i64 b) := (cell_blk bT' 1).trans rfl
        have zT0 := frozen_blk bT' 0
        have zT1 := frozen_blk bT' 1
        have cR0 : Z'.cell? ⟨w.heap.size, 0, none⟩ = some (.int .i64 0) := (cell_blk bR' 0).trans rfl
        have cR1 : Z'.cell? ⟨w.heap.size, 1, none⟩ = some (.int .i64 0) := (cell_blk bR' 1).trans rfl
        have zR0 := frozen_blk bR' 0
        have zR1 := frozen_blk bR' 1
        clear bS' bT' bR'
        try go_wp2_with (first
            | fail
            | (
              with_reducible refine wp_region_mix (by kernel_rfl) (by decide +kernel) ?_
              repeat (first
                | (refine mix_pure rfl ?_; (first | go_big_quiet_skip | (go_big_quiet_want; go_big_quiet_op; go_big_quiet_on)); refine wpQuiet_nil ?_)
                | (refine mix_skip (by rfl) ?_; (try simp only [Act.put, List.setIfInBounds_toArray, List.set_cons_zero, List.set_cons_succ]))
                | (refine mix_mk rfl (by rfl) (fun K hK => ?_); (first | (go_simp; first | skip)); (show K _ _); refine hK _ _ (show Ext _ _ from (by ((try simp only [ext_drew]); (try simp only [ext_ext]); repeat (first | exact Ext.refl _ | with_reducible apply Ext.add | with_reducible apply Ext.dr | apply Ext.alloc | apply Ext.ext | apply Ext.drew | refine Ext.trans ?_ (by assumption))))) ?_; clear hK K; (try simp only [Act.put, List.setIfInBounds_toArray, List.set_cons_zero, List.set_cons_succ])))
              refine mix_nil ?_)
            | (
              with_reducible refine wp_region_ext (by kernel_rfl) (by kernel_rfl) ?_
              repeat (first | go_big_quiet_skip | (go_big_quiet_want; go_big_quiet_op; first | go_big_quiet_on | (apply Exists.intro; refine ⟨fun _ => ?_, ?_⟩; (fail); (try rw [h1]); (try rw [h2]); (try rw [h3]); (try rw [h4]); (try rw [p1]); (try rw [p2]); (try rw [p3]); (try rw [p4]); (try rw [r1]); (try rw [r2]); (try rw [r3]); (try rw [r4]); (try rw [r5]); (try rw [r6]); (try rw [q3]); (try rw [q4]); (try rw [hp]); (try rw [hq]); go_big_quiet_on)))
              refine wpQuiet_nil ?_
              rintro _ ⟨tq, rfl⟩))
        refine bodyPost_ret (v := .agg #[.int .i64 (a), .int .i64 (9)]) (by simp [results, Try.results55, go_sem, cT0, cT1, cR0, cR1, lT', lR', hTR]) rfl ?_
        exact ⟨⟨a, 9⟩, rfl, ⟨by dsimp only; omega, by dsimp only; omega, by dsimp only; omega, by dsimp only; omega⟩, HZ.out.chg (B := [T, w.heap.size]) (by repeat (first | with_reducible exact Chg.refl _ _ | with_reducible apply Chg.drew | with_reducible apply Chg.drewl | with_reducible refine Chg.turn (by simp) | with_reducible refine Chg.both ?_ (by simp) | (with_reducible refine Chg.set ?_ (by simp) _) | with_reducible apply Chg.alloc | with_reducible apply Chg.ext)) (by simp; have := HZ.out.lo; omega) (by omega), HCZ.out.up (B' := [T, w.heap.size]) (by repeat (first | with_reducible exact Chg.refl _ _ | with_reducible apply Chg.drew | with_reducible apply Chg.drewl | with_reducible refine Chg.turn (by simp) | with_reducible refine Chg.both ?_ (by simp) | (with_reducible refine Chg.set ?_ (by simp) _) | with_reducible apply Chg.alloc | with_reducible apply Chg.ext)) (by simp; omega)⟩
      · have cS : Z'.cell? ⟨S, 3, none⟩ = some _ := (cell_blk bS' 3).trans rfl
        have cT0 : Z'.cell? ⟨T, 0, none⟩ = some (.int .i64 a) := (cell_blk bT' 0).trans rfl
        have cT1 : Z'.cell? ⟨T, 1, none⟩ = some (.int .i64 b) := (cell_blk bT' 1).trans rfl
        have zT0 := frozen_blk bT' 0
        have zT1 := frozen_blk bT' 1
        have cR0 : Z'.cell? ⟨w.heap.size, 0, none⟩ = some (.int .i64 0) := (cell_blk bR' 0).trans rfl
        have cR1 : Z'.cell? ⟨w.heap.size, 1, none⟩ = some (.int .i64 0) := (cell_blk bR' 1).trans rfl
        have zR0 := frozen_blk bR' 0
        have zR1 := frozen_blk bR' 1
        clear bS' bT' bR'
        try go_wp2_with (first
            | fail
            | (
              with_reducible refine wp_region_mix (by kernel_rfl) (by decide +kernel) ?_
              repeat (first
                | (refine mix_pure rfl ?_; (first | go_big_quiet_skip | (go_big_quiet_want; go_big_quiet_op; go_big_quiet_on)); refine wpQuiet_nil ?_)
                | (refine mix_skip (by rfl) ?_; (try simp only [Act.put, List.setIfInBounds_toArray, List.set_cons_zero, List.set_cons_succ]))
                | (refine mix_mk rfl (by rfl) (fun K hK => ?_); (first | (go_simp; first | skip)); (show K _ _); refine hK _ _ (show Ext _ _ from (by ((try simp only [ext_drew]); (try simp only [ext_ext]); repeat (first | exact Ext.refl _ | with_reducible apply Ext.add | with_reducible apply Ext.dr | apply Ext.alloc | apply Ext.ext | apply Ext.drew | refine Ext.trans ?_ (by assumption))))) ?_; clear hK K; (try simp only [Act.put, List.setIfInBounds_toArray, List.set_cons_zero, List.set_cons_succ])))
              refine mix_nil ?_)
            | (
              with_reducible refine wp_region_ext (by kernel_rfl) (by kernel_rfl) ?_
              repeat (first | go_big_quiet_skip | (go_big_quiet_want; go_big_quiet_op; first | go_big_quiet_on | (apply Exists.intro; refine ⟨fun _ => ?_, ?_⟩; (fail); (try rw [h1]); (try rw [h2]); (try rw [h3]); (try rw [h4]); (try rw [p1]); (try rw [p2]); (try rw [p3]); (try rw [p4]); (try rw [r1]); (try rw [r2]); (try rw [r3]); (try rw [r4]); (try rw [r5]); (try rw [r6]); (try rw [q3]); (try rw [q4]); (try rw [hp]); (try rw [hq]); go_big_quiet_on)))
              refine wpQuiet_nil ?_
              rintro _ ⟨tq, rfl⟩))
        refine bodyPost_ret (v := .agg #[.int .i64 (a), .int .i64 (8)]) (by simp [results, Try.results55, go_sem, cT0, cT1, cR0, cR1, lT', lR', hTR]) rfl ?_
        exact ⟨⟨a, 8⟩, rfl, ⟨by dsimp only; omega, by dsimp only; omega, by dsimp only; omega, by dsimp only; omega⟩, HZ.out.chg (B := [T, w.heap.size]) (by repeat (first | with_reducible exact Chg.refl _ _ | with_reducible apply Chg.drew | with_reducible apply Chg.drewl | with_reducible refine Chg.turn (by simp) | with_reducible refine Chg.both ?_ (by simp) | (with_reducible refine Chg.set ?_ (by simp) _) | with_reducible apply Chg.alloc | with_reducible apply Chg.ext)) (by simp; have := HZ.out.lo; omega) (by omega), HCZ.out.up (B' := [T, w.heap.size]) (by repeat (first | with_reducible exact Chg.refl _ _ | with_reducible apply Chg.drew | with_reducible apply Chg.drewl | with_reducible refine Chg.turn (by simp) | with_reducible refine Chg.both ?_ (by simp) | (with_reducible refine Chg.set ?_ (by simp) _) | with_reducible apply Chg.alloc | with_reducible apply Chg.ext)) (by simp; omega)⟩
    · have t0 : (v0 == 0) = false := by simpa using z0
      have t1 : (v0 == 1) = false := by simpa using z1
      have cT0 : Y.cell? ⟨T, 0, none⟩ = some (.int .i64 a) := (cell_blk bTY 0).trans rfl
      have cT1 : Y.cell? ⟨T, 1, none⟩ = some (.int .i64 b) := (cell_blk bTY 1).trans rfl
      have zT0 := frozen_blk bTY 0
      have zT1 := frozen_blk bTY 1
      have cR0 : Y.cell? ⟨w.heap.size, 0, none⟩ = some (.int .i64 0) := (cell_blk bRY 0).trans rfl
      have cR1 : Y.cell? ⟨w.heap.size, 1, none⟩ = some (.int .i64 0) := (cell_blk bRY 1).trans rfl
      have zR0 := frozen_blk bRY 0
      have zR1 := frozen_blk bRY 1
      try go_wp2_with (first
          | fail
          | (
            with_reducible refine wp_region_mix (by kernel_rfl) (by decide +kernel) ?_
            repeat (first
              | (refine mix_pure rfl ?_; (first | go_big_quiet_skip | (go_big_quiet_want; go_big_quiet_op; go_big_quiet_on)); refine wpQuiet_nil ?_)
              | (refine mix_skip (by rfl) ?_; (try simp only [Act.put, List.setIfInBounds_toArray, List.set_cons_zero, List.set_cons_succ]))
              | (refine mix_mk rfl (by rfl) (fun K hK => ?_); (first | (go_simp; first | skip)); (show K _ _); refine hK _ _ (show Ext _ _ from (by ((try simp only [ext_drew]); (try simp only [ext_ext]); repeat (first | exact Ext.refl _ | with_reducible apply Ext.add | with_reducible apply Ext.dr | apply Ext.alloc | apply Ext.ext | apply Ext.drew | refine Ext.trans ?_ (by assumption))))) ?_; clear hK K; (try simp only [Act.put, List.setIfInBounds_toArray, List.set_cons_zero, List.set_cons_succ])))
            refine mix_nil ?_)
          | (
            with_reducible refine wp_region_ext (by kernel_rfl) (by kernel_rfl) ?_
            repeat (first | go_big_quiet_skip | (go_big_quiet_want; go_big_quiet_op; first | go_big_quiet_on | (apply Exists.intro; refine ⟨fun _ => ?_, ?_⟩; (fail); (try rw [h1]); (try rw [h2]); (try rw [h3]); (try rw [h4]); (try rw [p1]); (try rw [p2]); (try rw [p3]); (try rw [p4]); (try rw [r1]); (try rw [r2]); (try rw [r3]); (try rw [r4]); (try rw [r5]); (try rw [r6]); (try rw [q3]); (try rw [q4]); (try rw [hp]); (try rw [hq]); go_big_quiet_on)))
            refine wpQuiet_nil ?_
            rintro _ ⟨tq, rfl⟩))
      refine bodyPost_ret (v := .agg #[.int .i64 a, .int .i64 b]) (by simp [results, Try.results55, go_sem, cT0, cT1, cR0, cR1, lT, lR]) rfl ?_
      exact ⟨⟨a, b⟩, rfl, ⟨by dsimp only; omega, by dsimp only; omega, by dsimp only; omega, by dsimp only; omega⟩, HY.out.chg (B := [w.heap.size]) (by repeat (first | with_reducible exact Chg.refl _ _ | with_reducible apply Chg.drew | with_reducible apply Chg.drewl | with_reducible refine Chg.turn (by simp) | with_reducible refine Chg.both ?_ (by simp) | (with_reducible refine Chg.set ?_ (by simp) _) | with_reducible apply Chg.alloc | with_reducible apply Chg.ext)) (by simp; have := HY.out.lo; omega) (by omega), HCY.out.up (B' := [w.heap.size]) (by repeat (first | with_reducible exact Chg.refl _ _ | with_reducible apply Chg.drew | with_reducible apply Chg.drewl | with_reducible refine Chg.turn (by simp) | with_reducible refine Chg.both ?_ (by simp) | (with_reducible refine Chg.set ?_ (by simp) _) | with_reducible apply Chg.alloc | with_reducible apply Chg.ext)) (by simp)⟩
end Go.Proofs.Ytbbpipbemhggdaa
