/- Draws of maps, cells, places and sides; the bytes that a law is given. -/
import Derived.Test.YtbbpipbemhggdaaRd
namespace Go.Proofs.Ytbbpipbemhggdaa
open Go.RowKit
set_option linter.unusedSimpArgs false
set_option linter.unusedVariables false

theorem open_bytes {H : Type} {enc : TypeId × Value → H} {w : World} {a : Option Addr} {n c : Nat} {d : DataW H} {p : List MemPlace} (h : DataW.Trod enc Try.prog w 0 (fun _ => true) true 22 (.slice a n c) d p) : n ≤ c ∧ Bytes w.heap.size w a n := by
  obtain ⟨fuel, h⟩ := h
  rcases Go.Deep.open_slice1 Try.underlying22 (by kernel_rfl) h with ⟨h0, _⟩ | ⟨a', len, cap, m, k, V, D, Pl, h0, _, hl, hm, hmm, _, hi⟩
  · have e : Value.slice a n c = .slice none 0 0 := (List.cons.inj h0).1
    obtain ⟨rfl, rfl, rfl⟩ := Value.slice.inj e
    exact ⟨Nat.le_refl _, fun i hi => absurd hi (Nat.not_lt_zero _)⟩
  · have e : Value.slice a n c = .slice (some a') len cap := (List.cons.inj h0).1
    obtain ⟨rfl, rfl, rfl⟩ := Value.slice.inj e
    refine ⟨hl, fun i hin => ?_⟩
    have him : i < m := by rw [hmm]; split <;> omega
    obtain ⟨hc, htr⟩ := hi i him
    obtain ⟨x, hx, _, hwf⟩ := DataW.trod_int (k := .u8) Try.underlying5 htr
    have e2 : V i = .int .u8 x := (List.cons.inj hx).1
    rw [e2] at hc
    obtain ⟨b, o, sp⟩ := a'
    have h00 := (hi 0 (by omega)).1
    have hsp : sp = none := by simpa [Addr.add] using World.cell?_spot h00
    subst hsp
    have hb : b < w.heap.size := by have := block_lt_of_cell h00; simpa [Addr.add] using this
    have hr : 0 ≤ x ∧ x ≤ 255 := by
      simp [Lit.wf, IntKind.min, IntKind.max, IntKind.bits, IntKind.signed] at hwf
      omega
    refine ⟨b, o, x.toNat, rfl, hb, by omega, ?_⟩
    have e3 : ((x.toNat : Nat) : Int) = x := Int.toNat_of_nonneg hr.1
    rw [e3]
    have e4 : (⟨b, o, none⟩ : Addr).add i = ⟨b, o + i, none⟩ := by
      simp only [Addr.add]; try (split <;> simp_all)
    rw [← e4]; exact hc

theorem l20Open_c (lo n c : Nat) (a : Option Addr) (w : World) (hB : Bytes lo w a n) (hlo : lo ≤ w.heap.size) (hc : n ≤ c) :
    Calls Try.prog 54 #[.slice a n c] w fun e w' => e = .returned (.pointer (some ⟨w.heap.size, 0, none⟩)) ∧ Rdr lo w.heap.size 0 w' ∧ Ext w w' := by
  have HB := hid hB
  by_cases hn : 2000 < n
  · obtain ⟨b, o, x, rfl, hb, hx, hcl⟩ := hB 0 (by omega)
    clear hB hcl
    go_enter Try.func54, Try.ntmps54
    try go_wp2_with (first
        | fail
        | (
          with_reducible refine wp_region_mix (by kernel_rfl) (by decide +kernel) ?_
          repeat (first
            | (refine mix_pure rfl ?_; (first | go_big_quiet_skip | (go_big_quiet_want; go_big_quiet_op; go_big_quiet_on)); refine wpQuiet_nil ?_)
            | (refine mix_skip (by rfl) ?_; (try simp only [Act.put, List.setIfInBounds_toArray, List.set_cons_zero, List.set_cons_succ]))
            | (refine mix_mk rfl (by rfl) (fun K hK => ?_); (first | (go_simp; first | skip)); (show K _ _); refine hK _ _ (show Ext _ _ from (by ((try simp only [ext_drew]); (try simp only [ext_ext]); repeat (first | exact Ext.refl _ | with_reducible apply Ext.add | with_reducible apply Ext.dr | apply Ext.alloc | apply Ext.ext | apply Ext.drew | refine Ext.trans ?_ (by assumption))))) ?_; clear hK K; (try simp only [Act.put, List.setIfInBounds_toArray, List.set_cons_zero, List.set_cons_succ])))
          refine mix_nil ?_)
        | (
          with_reducible refine wp_region_ext (by kernel_rfl) (by kernel_rfl) ?_
          repeat (first | go_big_quiet_skip | (go_big_quiet_want; go_big_quiet_op; first | go_big_quiet_on | (apply Exists.intro; refine ⟨fun _ => ?_, ?_⟩; (fail); (try rw [h1]); (try rw [h2]); (try rw [h3]); (try rw [h4]); (try rw [p1]); (try rw [p2]); (try rw [p3]); (try rw [p4]); (try rw [r1]); (try rw [r2]); (try rw [r3]); (try rw [r4]); (try rw [r5]); (try rw [r6]); (try rw [q3]); (try rw [q4]); (try rw [hp]); (try rw [hq]); go_big_quiet_on)))
          refine wpQuiet_nil ?_
          rintro _ ⟨tq, rfl⟩))
    go_ret
    exact ⟨rfl, ⟨hlo, _, 2000, c, 0, by omega, by omega, alloc_last (by simp), (HB.out.mono (Nat.le_refl _) (by omega)).chg (B := []) (Chg.of_ext (by ((try simp only [ext_drew]); (try simp only [ext_ext]); repeat (first | exact Ext.refl _ | with_reducible apply Ext.add | with_reducible apply Ext.dr | apply Ext.alloc | apply Ext.ext | apply Ext.drew | refine Ext.trans ?_ (by assumption)))) []) (by simp) hlo⟩, (by ((try simp only [ext_drew]); (try simp only [ext_ext]); repeat (first | exact Ext.refl _ | with_reducible apply Ext.add | with_reducible apply Ext.dr | apply Ext.alloc | apply Ext.ext | apply Ext.drew | refine Ext.trans ?_ (by assumption))))⟩
  · clear hB
    go_enter Try.func54, Try.ntmps54
    try go_wp2_with (first
        | fail
        | (
          with_reducible refine wp_region_mix (by kernel_rfl) (by decide +kernel) ?_
          repeat (first
            | (refine mix_pure rfl ?_; (first | go_big_quiet_skip | (go_big_quiet_want; go_big_quiet_op; go_big_quiet_on)); refine wpQuiet_nil ?_)
            | (refine mix_skip (by rfl) ?_; (try simp only [Act.put, List.setIfInBounds_toArray, List.set_cons_zero, List.set_cons_succ]))
            | (refine mix_mk rfl (by rfl) (fun K hK => ?_); (first | (go_simp; first | skip)); (show K _ _); refine hK _ _ (show Ext _ _ from (by ((try simp only [ext_drew]); (try simp only [ext_ext]); repeat (first | exact Ext.refl _ | with_reducible apply Ext.add | with_reducible apply Ext.dr | apply Ext.alloc | apply Ext.ext | apply Ext.drew | refine Ext.trans ?_ (by assumption))))) ?_; clear hK K; (try simp only [Act.put, List.setIfInBounds_toArray, List.set_cons_zero, List.set_cons_succ])))
          refine mix_nil ?_)
        | (
          with_reducible refine wp_region_ext (by kernel_rfl) (by kernel_rfl) ?_
          repeat (first | go_big_quiet_skip | (go_big_quiet_want; go_big_quiet_op; first | go_big_quiet_on | (apply Exists.intro; refine ⟨fun _ => ?_, ?_⟩; (fail); (try rw [h1]); (try rw [h2]); (try rw [h3]); (try rw [h4]); (try rw [p1]); (try rw [p2]); (try rw [p3]); (try rw [p4]); (try rw [r1]); (try rw [r2]); (try rw [r3]); (try rw [r4]); (try rw [r5]); (try rw [r6]); (try rw [q3]); (try rw [q4]); (try rw [hp]); (try rw [hq]); go_big_quiet_on)))
          refine wpQuiet_nil ?_
          rintro _ ⟨tq, rfl⟩))
    go_ret
    exact ⟨rfl, ⟨hlo, _, n, c, 0, by omega, by omega, alloc_last (by simp), HB.out.chg (B := []) (Chg.of_ext (by ((try simp only [ext_drew]); (try simp only [ext_ext]); repeat (first | exact Ext.refl _ | with_reducible apply Ext.add | with_reducible apply Ext.dr | apply Ext.alloc | apply Ext.ext | apply Ext.drew | refine Ext.trans ?_ (by assumption)))) []) (by simp) hlo⟩, (by ((try simp only [ext_drew]); (try simp only [ext_ext]); repeat (first | exact Ext.refl _ | with_reducible apply Ext.add | with_reducible apply Ext.dr | apply Ext.alloc | apply Ext.ext | apply Ext.drew | refine Ext.trans ?_ (by assumption))))⟩

/-- A block of numbers in bounds. -/
def IntArr (w : World) (b n : Nat) (lo hi : Int) : Prop := ∃ arr, w.heap[b]? = some (.cells arr 3 (0, 0)) ∧ ∀ i, i < n → ∃ x : Int, arr[i]? = some (.int .i64 x) ∧ lo ≤ x ∧ x ≤ hi
theorem IntArr.chg {w w' : World} {b n : Nat} {lo hi : Int} {B : List Nat} (h : IntArr w b n lo hi) (hc : Chg B w w') (hb : b ∉ B) : IntArr w' b n lo hi := by
  obtain ⟨arr, h1, h2⟩ := h
  exact ⟨arr, (hc.block b (lt_blk h1) hb).trans h1, h2⟩
def InI (lo hi : Int) (v : Value) : Prop := ∃ x : Int, v = .int .i64 x ∧ lo ≤ x ∧ x ≤ hi
def InM (v : Value) : Prop := ∃ m : Mp, v = .agg #[.int .i64 m.c, .int .i64 m.w] ∧ MapIn m
def MkI (W n : Nat) (lo hi : Int) (v : Value) (w : World) : Prop := ∃ b, v = .slice (some ⟨b, 0, none⟩) n n ∧ W ≤ b ∧ IntArr w b n lo hi
def PtI (W n : Nat) (lo hi : Int) (v : Value) (w : World) : Prop := ∃ b k, v = .pointer (some ⟨b, k, none⟩) ∧ k < n ∧ W ≤ b ∧ IntArr w b n lo hi
theorem MkI.chg {W n : Nat} {lo hi : Int} {v : Value} {w w' : World} {B : List Nat} (h : MkI W n lo hi v w) (hc : Chg B w w') (hB : ∀ b ∈ B, b < W) : MkI W n lo hi v w' := by
  obtain ⟨b, h1, h2, h3⟩ := h
  exact ⟨b, h1, h2, h3.chg hc (fun hm => by have := hB b hm; omega)⟩
theorem PtI.chg {W n : Nat} {lo hi : Int} {v : Value} {w w' : World} {B : List Nat} (h : PtI W n lo hi v w) (hc : Chg B w w') (hB : ∀ b ∈ B, b < W) : PtI W n lo hi v w' := by
  obtain ⟨b, k, h1, h0, h2, h3⟩ := h
  exact ⟨b, k, h1, h0, h2, h3.chg hc (fun hm => by have := hB b hm; omega)⟩
/-- What goes along with a region that draws: the reader, and a result's map. -/
def JD (lo p Q R : Nat) (done : Bool) (w : World) : Prop := Rdr lo p Q w ∧ ∃ a b : Int, w.heap[R]? = some (.cells #[.int .i64 a, .int .i64 b] 24 (0, 0)) ∧ (done = true → MapIn ⟨a, b⟩)
theorem JD.ext {lo p Q R : Nat} {d : Bool} {w w' : World} (h : JD lo p Q R d w) (hE : Ext w w') : JD lo p Q R d w' := by
  obtain ⟨h1, a, b, h2, h3⟩ := h
  exact ⟨h1.of hE, a, b, (hE.block (lt_blk h2)).trans h2, h3⟩
theorem JD.up' {lo p Q Q' R : Nat} {d : Bool} {w : World} (h : JD lo p Q R d w) (hQ : Q ≤ Q') : JD lo p Q' R d w := by
  obtain ⟨h1, a, b, h2, h3⟩ := h
  exact ⟨h1.up hQ, a, b, h2, h3⟩
theorem JD.draw {lo p Q Q' R : Nat} {d : Bool} {w w' : World} (h : JD lo p Q R d w) (hc : Chg [p] w w') (hR : Rdr lo p Q' w') (hn : R ≠ p) : JD lo p Q' R d w' := by
  obtain ⟨h1, a, b, h2, h3⟩ := h
  exact ⟨hR, a, b, (hc.block R (lt_blk h2) (by simpa using hn)).trans h2, h3⟩
theorem jd_store {lo p Q R : Nat} {d : Bool} {w : World} {a b : Int} (h : JD lo p Q R d w) (hn : R ≠ p) (hl : lo ≤ R) (hm : MapIn ⟨a, b⟩) : JD lo p Q R true ((w.setCell ⟨R, 0, none⟩ (.int .i64 a)).setCell ⟨R, 1, none⟩ (.int .i64 b)) := by
  obtain ⟨h1, a', b', h2, h3⟩ := h
  exact ⟨h1.chg (B := [R]) (Chg.set (Chg.set (Chg.refl _ _) (by simp) _) (by simp) _) (by simp; omega) (Nat.le_refl _), a, b, blk_set (blk_set h2), fun _ => hm⟩
theorem index_at {w : World} {b n : Nat} {lo hi : Int} (h : IntArr w b n lo hi) {k : Nat} (hk : k < n) : ∃ x : Int, w.cell? ⟨b, k, none⟩ = some (.int .i64 x) ∧ lo ≤ x ∧ x ≤ hi := by
  obtain ⟨arr, h1, h2⟩ := h
  obtain ⟨x, h3, h4⟩ := h2 k hk
  exact ⟨x, (cell_blk h1 k).trans h3, h4⟩
end Go.Proofs.Ytbbpipbemhggdaa
