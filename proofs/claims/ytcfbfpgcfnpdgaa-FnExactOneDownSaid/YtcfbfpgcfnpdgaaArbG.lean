/- A cell given to a server. -/
import Derived.Test.YtcfbfpgcfnpdgaaArb
namespace Go.Proofs.Ytcfbfpgcfnpdgaa
open Go.RowKit
set_option linter.unusedSimpArgs false
set_option linter.unusedVariables false

def MadeArbB (w : World) (n0 n1 : Nat) (xs0 xs1 : List Int) (b : Bool) (e : Ending) (w' : World) : Prop :=
  ∃ a0 c0 a1 c1, e = .returned (.tuple #[.agg #[.slice a0 n0 c0, .slice a1 n1 c1], .bool b]) ∧ Ext w w' ∧ OwnR w.heap.size w'.heap.size w' sArb [.slice a0 n0 c0, .slice a1 n1 c1] (arbDat xs0 xs1)
def grantB (xs0 xs1 : List Int) (s k v : Int) : Bool := inB k 0 ((xs0.length : Int) - 1) && inB v 0 (s - 1) && !((xs1[k.toNat]?).getD 0 == 900)
def grant0 (xs0 xs1 : List Int) (s k v : Int) : List Int := if grantB xs0 xs1 s k v then xs0.set k.toNat v else xs0
def grant1 (xs0 xs1 : List Int) (s k v : Int) : List Int := if grantB xs0 xs1 s k v then xs1.set k.toNat ((xs1[k.toNat]?).getD 0 + 1) else xs1

set_option maxRecDepth 100000 in
set_option maxHeartbeats 2000000 in
theorem arbClone_c (xs0 : List Int) (xs1 : List Int) (a0 : Option Addr) (c0 : Nat) (a1 : Option Addr) (c1 : Nat) (n0 n1 : Nat) (w : World) (h0 : Re w (.sl .int) [.slice a0 n0 c0] (.l (xs0.map Dat.i))) (h1 : Re w (.sl .int) [.slice a1 n1 c1] (.l (xs1.map Dat.i))) (b0 : n0 ≤ 1048576) (b1 : n1 ≤ 1048576) :
    Calls Try.prog 32 #[.agg #[.slice a0 n0 c0, .slice a1 n1 c1]] w (MadeArb w n0 n1 xs0 xs1) := by
  have H0 := hid h0
  have H1 := hid h1
  clear h0 h1
  go_enter Try.func32, Try.ntmps32
  try go_wp2_with (first
      | (refine wp_clone_Int _ _ rfl (by first | rfl | (simp [go_sem]; done)) xs0 rfl (H0.out.of (by ((try simp only [ext_drew]); (try simp only [ext_ext]); repeat (first | exact Ext.refl _ | with_reducible apply Ext.add | with_reducible apply Ext.dr | apply Ext.alloc | apply Ext.ext | apply Ext.drew | refine Ext.trans ?_ (by assumption))))) (by omega) ?_; intro p0 q0 t0 ho; have O0 := hid ho; clear ho) | (refine wpList_clone_Int rfl _ _ rfl (by first | rfl | (simp [go_sem]; done)) xs0 rfl (H0.out.of (by ((try simp only [ext_drew]); (try simp only [ext_ext]); repeat (first | exact Ext.refl _ | with_reducible apply Ext.add | with_reducible apply Ext.dr | apply Ext.alloc | apply Ext.ext | apply Ext.drew | refine Ext.trans ?_ (by assumption))))) (by omega) ?_; intro p0 q0 t0 ho; have O0 := hid ho; clear ho) | (refine wp_clone_Int _ _ rfl (by first | rfl | (simp [go_sem]; done)) xs1 rfl (H1.out.of (by ((try simp only [ext_drew]); (try simp only [ext_ext]); repeat (first | exact Ext.refl _ | with_reducible apply Ext.add | with_reducible apply Ext.dr | apply Ext.alloc | apply Ext.ext | apply Ext.drew | refine Ext.trans ?_ (by assumption))))) (by omega) ?_; intro p1 q1 t1 ho; have O1 := hid ho; clear ho) | (refine wpList_clone_Int rfl _ _ rfl (by first | rfl | (simp [go_sem]; done)) xs1 rfl (H1.out.of (by ((try simp only [ext_drew]); (try simp only [ext_ext]); repeat (first | exact Ext.refl _ | with_reducible apply Ext.add | with_reducible apply Ext.dr | apply Ext.alloc | apply Ext.ext | apply Ext.drew | refine Ext.trans ?_ (by assumption))))) (by omega) ?_; intro p1 q1 t1 ho; have O1 := hid ho; clear ho)
      | (
        with_reducible refine wp_region_mixR (w.heap.size + 1) (by kernel_rfl) (by decide +kernel) ?_
        repeat (first
          | (refine mix_pure rfl ?_; (first | go_big_quiet_skip | (go_big_quiet_want; go_big_quiet_op; go_big_quiet_on)); refine wpQuiet_nil ?_)
          | (refine mix_skip (by rfl) ?_; (try simp only [Act.put, List.setIfInBounds_toArray, List.set_cons_zero, List.set_cons_succ]))
          | (refine mix_mk rfl (by rfl) (fun K hK => ?_); (first | (refine wp_clone_Int _ _ rfl (by first | rfl | (simp [go_sem]; done)) xs0 rfl (H0.out.of (by ((try simp only [ext_drew]); (try simp only [ext_ext]); repeat (first | exact Ext.refl _ | with_reducible apply Ext.add | with_reducible apply Ext.dr | apply Ext.alloc | apply Ext.ext | apply Ext.drew | refine Ext.trans ?_ (by assumption))))) (by omega) ?_; intro p0 q0 t0 ho; have O0 := hid ho; clear ho) | (refine wp_clone_Int _ _ rfl (by first | rfl | (simp [go_sem]; done)) xs1 rfl (H1.out.of (by ((try simp only [ext_drew]); (try simp only [ext_ext]); repeat (first | exact Ext.refl _ | with_reducible apply Ext.add | with_reducible apply Ext.dr | apply Ext.alloc | apply Ext.ext | apply Ext.drew | refine Ext.trans ?_ (by assumption))))) (by omega) ?_; intro p1 q1 t1 ho; have O1 := hid ho; clear ho) | (go_simp; first | (refine wpList_clone_Int rfl _ _ rfl (by first | rfl | (simp [go_sem]; done)) xs0 rfl (H0.out.of (by ((try simp only [ext_drew]); (try simp only [ext_ext]); repeat (first | exact Ext.refl _ | with_reducible apply Ext.add | with_reducible apply Ext.dr | apply Ext.alloc | apply Ext.ext | apply Ext.drew | refine Ext.trans ?_ (by assumption))))) (by omega) ?_; intro p0 q0 t0 ho; have O0 := hid ho; clear ho) | (refine wpList_clone_Int rfl _ _ rfl (by first | rfl | (simp [go_sem]; done)) xs1 rfl (H1.out.of (by ((try simp only [ext_drew]); (try simp only [ext_ext]); repeat (first | exact Ext.refl _ | with_reducible apply Ext.add | with_reducible apply Ext.dr | apply Ext.alloc | apply Ext.ext | apply Ext.drew | refine Ext.trans ?_ (by assumption))))) (by omega) ?_; intro p1 q1 t1 ho; have O1 := hid ho; clear ho) | skip)); (show K _ _); refine hK _ _ (extR_of (by repeat (first | with_reducible exact Chg.refl _ _ | with_reducible apply Chg.drew | with_reducible apply Chg.drewl | with_reducible refine Chg.turn (by simp) | with_reducible refine Chg.both ?_ (by simp) | (with_reducible refine Chg.set ?_ (by simp) _) | with_reducible apply Chg.alloc | with_reducible apply Chg.ext))) ?_; clear hK K; (try simp only [Act.put, List.setIfInBounds_toArray, List.set_cons_zero, List.set_cons_succ])))
        refine mix_nil ?_)
      | (
        with_reducible refine wp_region_ext (by kernel_rfl) (by kernel_rfl) ?_
        repeat (first | go_big_quiet_skip | (go_big_quiet_want; go_big_quiet_op; first | go_big_quiet_on | (apply Exists.intro; refine ⟨fun _ => ?_, ?_⟩; (fail); (try rw [h1]); (try rw [h2]); (try rw [h3]); (try rw [h4]); (try rw [p1]); (try rw [p2]); (try rw [p3]); (try rw [p4]); (try rw [r1]); (try rw [r2]); (try rw [r3]); (try rw [r4]); (try rw [r5]); (try rw [r6]); (try rw [q3]); (try rw [q4]); (try rw [hp]); (try rw [hq]); go_big_quiet_on)))
        refine wpQuiet_nil ?_
        rintro _ ⟨tq, rfl⟩))
  refine bodyPost_ret (v := .agg #[.slice p0 n0 q0, .slice p1 n1 q1]) (by simp [results, Try.results32, go_sem]) rfl ?_
  refine ⟨_, _, _, _, rfl, (by ((try simp only [ext_drew]); (try simp only [ext_ext]); repeat (first | exact Ext.refl _ | with_reducible apply Ext.add | with_reducible apply Ext.dr | apply Ext.alloc | apply Ext.ext | apply Ext.drew | refine Ext.trans ?_ (by assumption)))), ?_⟩
  have Q0 := O0.out
  (try rw [ext_ext] at Q0)
  have Q1 := O1.out
  (try rw [ext_ext] at Q1)
  exact OwnRL.st (OwnRL.lo (OwnRL.cons' (OwnR.fin Q0 (by ((try simp only [ext_drew]); (try simp only [ext_ext]); repeat (first | exact Ext.refl _ | with_reducible apply Ext.add | with_reducible apply Ext.dr | apply Ext.alloc | apply Ext.ext | apply Ext.drew | refine Ext.trans ?_ (by assumption)))) (by simp) (by simp [go_sem])) (OwnRL.cons' (OwnR.fin Q1 (by ((try simp only [ext_drew]); (try simp only [ext_ext]); repeat (first | exact Ext.refl _ | with_reducible apply Ext.add | with_reducible apply Ext.dr | apply Ext.alloc | apply Ext.ext | apply Ext.drew | refine Ext.trans ?_ (by assumption)))) (by simp) (by simp [go_sem])) (OwnRL.nil' (Nat.le_refl _)) (by (try simp [go_sem]) <;> (try simp [Xt.add]) <;> omega) (by (try simp [go_sem]) <;> (try simp [Xt.add]) <;> omega) (by (try simp [go_sem]) <;> (try simp [Xt.add]) <;> omega)) (by (try simp [go_sem]) <;> (try simp [Xt.add]) <;> omega) (by (try simp [go_sem]) <;> (try simp [Xt.add]) <;> omega) (by (try simp [go_sem]) <;> (try simp [Xt.add]) <;> omega)) (by (try simp [go_sem]) <;> (try simp [Xt.add]) <;> omega))

theorem own_Arb_two {w : World} {a0 a1 : Option Addr} {n0 c0 n1 c1 : Nat} {xs0 xs1 : List Int} {B : List Nat} (h : Own w sArb [.slice a0 n0 c0, .slice a1 n1 c1] (arbDat xs0 xs1) B) : ∃ B0 B1, B = B0 ++ B1 ∧ Own w (.sl .int) [.slice a0 n0 c0] (.l (xs0.map Dat.i)) B0 ∧ Own w (.sl .int) [.slice a1 n1 c1] (.l (xs1.map Dat.i)) B1 := by
  have L := own_st (show Own w (.st [.sl .int, .sl .int]) [.slice a0 n0 c0, .slice a1 n1 c1] (.s [.l (xs0.map Dat.i), .l (xs1.map Dat.i)]) B from h)
  obtain ⟨B0, R0, rfl, O0, L⟩ := ownL_sl L
  obtain ⟨B1, R1, rfl, O1, L⟩ := ownL_sl L
  obtain rfl : R1 = [] := by unfold OwnL at L; exact L.2.2
  exact ⟨B0, B1, by simp, O0, O1⟩
theorem own_Arb_of {w : World} {a0 a1 : Option Addr} {n0 c0 n1 c1 : Nat} {xs0 xs1 : List Int} {B0 B1 : List Nat} (h0 : Own w (.sl .int) [.slice a0 n0 c0] (.l (xs0.map Dat.i)) B0) (h1 : Own w (.sl .int) [.slice a1 n1 c1] (.l (xs1.map Dat.i)) B1) : Own w sArb [.slice a0 n0 c0, .slice a1 n1 c1] (arbDat xs0 xs1) (B0 ++ B1) := by
  have := own_st_mk (ownL_mk h0 (ownL_mk h1 ownL_nil))
  simpa [sArb, arbDat] using this
theorem own_at_Int {w : World} {a : Option Addr} {n c : Nat} {xs : List Int} {B : List Nat} (h : Own w (.sl .int) [.slice a n c] (.l (xs.map Dat.i)) B) {j : Nat} (hj : j < n) :
    ∃ (b : Nat) (arr : Array Value) (T : TypeId) (x : Int), a = some ⟨b, 0, none⟩ ∧ B = [b] ∧ n = xs.length ∧ xs[j]? = some x ∧ w.heap[b]? = some (.cells arr T (0, 0)) ∧ w.cell? ⟨b, j, none⟩ = some (.int .i64 x) ∧ w.frozen? ⟨b, j, none⟩ = false ∧
      ∀ (w' : World) (y : Int), w'.heap[b]? = some (.cells (arr.setIfInBounds j (.int .i64 y)) T (0, 0)) → Own w' (.sl .int) [.slice (some ⟨b, 0, none⟩) n c] (.l ((xs.set j y).map Dat.i)) [b] := by
  obtain ⟨b, arr, T, x, h1, h2, h3, h4, h5, h6, h7, h8, h9⟩ := own_at (cells := icells) (dat := Dat.i) (sch := .int) (k := 1) rfl (by decide) (by decide) (fun _ => rfl) (fun _ _ _ _ h => rd_Int h) (fun _ _ h => idat_inj h) (fun w x => own_Int_mk w x) h hj
  refine ⟨b, arr, T, x, h1, h2, h3, h4, h5, ?_, h8 _, fun w' y hb => h9 w' _ y hb (by simp) (fun i hi => ?_) (fun i v hv => ?_)⟩
  · have := h7 0 _ rfl
    simpa using this
  · rw [arr_set (by omega), if_neg (by omega)]
  · match i, hv with
    | 0, hv =>
      rw [arr_set (by omega), if_pos (by omega)]
      simpa [icells] using hv

set_option maxRecDepth 100000 in
set_option maxHeartbeats 2000000 in
theorem grant_c (xs0 xs1 : List Int) (a0 a1 : Option Addr) (n c0 c1 p lo hi : Nat) (s k v : Int) (w : World) (ho : OwnR lo hi w sArb [.slice a0 n c0, .slice a1 n c1] (arbDat xs0 xs1)) (hp : hi ≤ p)
    (f0 : w.cell? ⟨p, 0, none⟩ = some (.slice a0 n c0)) (f1 : w.cell? ⟨p, 1, none⟩ = some (.slice a1 n c1)) (hs1 : 1 ≤ s) (hs2 : s ≤ 3) (hage : ∀ y ∈ xs1, 0 ≤ y ∧ y ≤ 900) (b0 : n ≤ 1048576) :
    Calls Try.prog 33 #[.pointer (some ⟨p, 0, none⟩), .int .i64 s, .int .i64 k, .int .i64 v] w fun e w' => e = .returned (.bool (grantB xs0 xs1 s k v)) ∧
      OwnR lo hi w' sArb [.slice a0 n c0, .slice a1 n c1] (arbDat (grant0 xs0 xs1 s k v) (grant1 xs0 xs1 s k v)) ∧ ChgR lo hi w w' := by
  obtain ⟨hh, B, hn, hr, ho⟩ := ho
  obtain ⟨B0, B1, rfl, O0, O1⟩ := own_Arb_two ho
  clear ho
  have HO0 := hid O0
  have HO1 := hid O1
  have HH := hid hh
  have HND := hid hn
  have HR := hid hr
  have HA := hid hage
  have HL := hid (show n = xs0.length from (own_flat (cells := icells) (dat := Dat.i) (sch := .int) (k := 1) rfl (by decide) (by decide) (fun _ => rfl) (fun _ _ _ _ h => rd_Int h) (fun _ _ h => idat_inj h) O0).1)
  clear hh hn hr hage O0 O1
  cases r1 : inB k 0 ((n : Int) - 1) with
  | false =>
    have E := hid (show grantB xs0 xs1 s k v = false by rw [grantB, ← HL.out, r1]; rfl)
    have E0 := hid (show grant0 xs0 xs1 s k v = xs0 by rw [grant0, E.out]; rfl)
    have E1 := hid (show grant1 xs0 xs1 s k v = xs1 by rw [grant1, E.out]; rfl)
    go_enter Try.func33, Try.ntmps33
    try go_wp2_with (first
        | (go_at_call 55; refine (in_c _ _ _ _).mono ?_; rintro e w' ⟨rfl, rfl⟩)
        | (
          with_reducible refine wp_region_mix (by kernel_rfl) (by decide +kernel) ?_
          repeat (first
            | (refine mix_pure rfl ?_; (first | go_big_quiet_skip | (go_big_quiet_want; go_big_quiet_op; go_big_quiet_on)); refine wpQuiet_nil ?_)
            | (refine mix_skip (by rfl) ?_; (try simp only [Act.put, List.setIfInBounds_toArray, List.set_cons_zero, List.set_cons_succ]))
            | (refine mix_mk rfl (by rfl) (fun K hK => ?_); (first | (go_simp; first | (go_at_call 55; refine (in_c _ _ _ _).mono ?_; rintro e w' ⟨rfl, rfl⟩) | skip)); (show K _ _); refine hK _ _ (show Ext _ _ from (by ((try simp only [ext_drew]); (try simp only [ext_ext]); repeat (first | exact Ext.refl _ | with_reducible apply Ext.add | with_reducible apply Ext.dr | apply Ext.alloc | apply Ext.ext | apply Ext.drew | refine Ext.trans ?_ (by assumption))))) ?_; clear hK K; (try simp only [Act.put, List.setIfInBounds_toArray, List.set_cons_zero, List.set_cons_succ])))
          refine mix_nil ?_)
        | (
          with_reducible refine wp_region_ext (by kernel_rfl) (by kernel_rfl) ?_
          repeat (first | go_big_quiet_skip | (go_big_quiet_want; go_big_quiet_op; first | go_big_quiet_on | (apply Exists.intro; refine ⟨fun _ => ?_, ?_⟩; ((first | (go_at_call 55; first | exact quiet_same (in_c _ _ _ _) | exact quiet_same2 (in_c _ _ _ _)))); (try rw [h1]); (try rw [h2]); (try rw [h3]); (try rw [h4]); (try rw [p1]); (try rw [p2]); (try rw [p3]); (try rw [p4]); (try rw [r1]); (try rw [r2]); (try rw [r3]); (try rw [r4]); (try rw [r5]); (try rw [r6]); (try rw [q3]); (try rw [q4]); (try rw [hp]); (try rw [hq]); go_big_quiet_on)))
          refine wpQuiet_nil ?_
          rintro _ ⟨tq, rfl⟩))
    go_ret
    refine ⟨ret_bool (by rw [E.out]), ?_, Chg.toR (by repeat (first | with_reducible exact Chg.refl _ _ | with_reducible apply Chg.drew | with_reducible apply Chg.drewl | with_reducible refine Chg.turn (by simp) | with_reducible refine Chg.both ?_ (by simp) | (with_reducible refine Chg.set ?_ (by simp) _) | with_reducible apply Chg.alloc | with_reducible apply Chg.ext)) HR.out⟩
    rw [E0.out, E1.out]
    exact ⟨HH.out, _, HND.out, HR.out, Own.same _ _ _ _ (fun _ _ => rfl) (own_Arb_of HO0.out HO1.out)⟩
  | true =>
    cases r2 : inB v 0 (s - 1) with
    | false =>
      have E := hid (show grantB xs0 xs1 s k v = false by rw [grantB, r2]; simp)
      have E0 := hid (show grant0 xs0 xs1 s k v = xs0 by rw [grant0, E.out]; rfl)
      have E1 := hid (show grant1 xs0 xs1 s k v = xs1 by rw [grant1, E.out]; rfl)
      go_enter Try.func33, Try.ntmps33
      try go_wp2_with (first
          | (go_at_call 55; refine (in_c _ _ _ _).mono ?_; rintro e w' ⟨rfl, rfl⟩)
          | (
            with_reducible refine wp_region_mix (by kernel_rfl) (by decide +kernel) ?_
            repeat (first
              | (refine mix_pure rfl ?_; (first | go_big_quiet_skip | (go_big_quiet_want; go_big_quiet_op; go_big_quiet_on)); refine wpQuiet_nil ?_)
              | (refine mix_skip (by rfl) ?_; (try simp only [Act.put, List.setIfInBounds_toArray, List.set_cons_zero, List.set_cons_succ]))
              | (refine mix_mk rfl (by rfl) (fun K hK => ?_); (first | (go_simp; first | (go_at_call 55; refine (in_c _ _ _ _).mono ?_; rintro e w' ⟨rfl, rfl⟩) | skip)); (show K _ _); refine hK _ _ (show Ext _ _ from (by ((try simp only [ext_drew]); (try simp only [ext_ext]); repeat (first | exact Ext.refl _ | with_reducible apply Ext.add | with_reducible apply Ext.dr | apply Ext.alloc | apply Ext.ext | apply Ext.drew | refine Ext.trans ?_ (by assumption))))) ?_; clear hK K; (try simp only [Act.put, List.setIfInBounds_toArray, List.set_cons_zero, List.set_cons_succ])))
            refine mix_nil ?_)
          | (
            with_reducible refine wp_region_ext (by kernel_rfl) (by kernel_rfl) ?_
            repeat (first | go_big_quiet_skip | (go_big_quiet_want; go_big_quiet_op; first | go_big_quiet_on | (apply Exists.intro; refine ⟨fun _ => ?_, ?_⟩; ((first | (go_at_call 55; first | exact quiet_same (in_c _ _ _ _) | exact quiet_same2 (in_c _ _ _ _)))); (try rw [h1]); (try rw [h2]); (try rw [h3]); (try rw [h4]); (try rw [p1]); (try rw [p2]); (try rw [p3]); (try rw [p4]); (try rw [r1]); (try rw [r2]); (try rw [r3]); (try rw [r4]); (try rw [r5]); (try rw [r6]); (try rw [q3]); (try rw [q4]); (try rw [hp]); (try rw [hq]); go_big_quiet_on)))
            refine wpQuiet_nil ?_
            rintro _ ⟨tq, rfl⟩))
      go_ret
      refine ⟨ret_bool (by rw [E.out]), ?_, Chg.toR (by repeat (first | with_reducible exact Chg.refl _ _ | with_reducible apply Chg.drew | with_reducible apply Chg.drewl | with_reducible refine Chg.turn (by simp) | with_reducible refine Chg.both ?_ (by simp) | (with_reducible refine Chg.set ?_ (by simp) _) | with_reducible apply Chg.alloc | with_reducible apply Chg.ext)) HR.out⟩
      rw [E0.out, E1.out]
      exact ⟨HH.out, _, HND.out, HR.out, Own.same _ _ _ _ (fun _ _ => rfl) (own_Arb_of HO0.out HO1.out)⟩
    | true =>
      obtain ⟨k1, k2⟩ := inB_iff.1 r1
      obtain ⟨j, rfl⟩ : ∃ j : Nat, k = j := ⟨k.toNat, by omega⟩
      have hj : j < n := by omega
      obtain ⟨u, arr0, T0, x, rfl, rfl, hl0, hx, hb0, g0, z0, put0⟩ := own_at_Int HO0.out hj
      obtain ⟨u', arr1, T1, y, rfl, rfl, hl1, hy, hb1, g1, z1, put1⟩ := own_at_Int HO1.out hj
      have hne : u ≠ u' := by have := HND.out; simpa using this
      have hne' : u' ≠ u := Ne.symm hne
      have hr0 := HR.out u (by simp)
      have hr1 := HR.out u' (by simp)
      have hpu : p ≠ u := by omega
      have hpu' : p ≠ u' := by omega
      have hup : u ≠ p := by omega
      have hup' : u' ≠ p := by omega
      have hy1 := (HA.out y (List.mem_of_getElem? hy)).1
      have hy2 := (HA.out y (List.mem_of_getElem? hy)).2
      have HX := hid hx
      have HY := hid hy
      have HB0 := hid hb0
      have HB1 := hid hb1
      have HP0 := hid put0
      have HP1 := hid put1
      clear hx hy hb0 hb1 put0 put1 hl0 hl1
      cases r3 : (y == 900) with
      | true =>
        have E := hid (show grantB xs0 xs1 s j v = false by simp only [grantB, Int.toNat_natCast, HY.out, Option.getD_some, r3]; simp)
        have E0 := hid (show grant0 xs0 xs1 s j v = xs0 by rw [grant0, E.out]; rfl)
        have E1 := hid (show grant1 xs0 xs1 s j v = xs1 by rw [grant1, E.out]; rfl)
        go_enter Try.func33, Try.ntmps33
        try go_wp2_with (first
            | (go_at_call 55; refine (in_c _ _ _ _).mono ?_; rintro e w' ⟨rfl, rfl⟩)
            | (
              with_reducible refine wp_region_mix (by kernel_rfl) (by decide +kernel) ?_
              repeat (first
                | (refine mix_pure rfl ?_; (first | go_big_quiet_skip | (go_big_quiet_want; go_big_quiet_op; go_big_quiet_on)); refine wpQuiet_nil ?_)
                | (refine mix_skip (by rfl) ?_; (try simp only [Act.put, List.setIfInBounds_toArray, List.set_cons_zero, List.set_cons_succ]))
                | (refine mix_mk rfl (by rfl) (fun K hK => ?_); (first | (go_simp; first | (go_at_call 55; refine (in_c _ _ _ _).mono ?_; rintro e w' ⟨rfl, rfl⟩) | skip)); (show K _ _); refine hK _ _ (show Ext _ _ from (by ((try simp only [ext_drew]); (try simp only [ext_ext]); repeat (first | exact Ext.refl _ | with_reducible apply Ext.add | with_reducible apply Ext.dr | apply Ext.alloc | apply Ext.ext | apply Ext.drew | refine Ext.trans ?_ (by assumption))))) ?_; clear hK K; (try simp only [Act.put, List.setIfInBounds_toArray, List.set_cons_zero, List.set_cons_succ])))
              refine mix_nil ?_)
            | (
              with_reducible refine wp_region_ext (by kernel_rfl) (by kernel_rfl) ?_
              repeat (first | go_big_quiet_skip | (go_big_quiet_want; go_big_quiet_op; first | go_big_quiet_on | (apply Exists.intro; refine ⟨fun _ => ?_, ?_⟩; ((first | (go_at_call 55; first | exact quiet_same (in_c _ _ _ _) | exact quiet_same2 (in_c _ _ _ _)))); (try rw [h1]); (try rw [h2]); (try rw [h3]); (try rw [h4]); (try rw [p1]); (try rw [p2]); (try rw [p3]); (try rw [p4]); (try rw [r1]); (try rw [r2]); (try rw [r3]); (try rw [r4]); (try rw [r5]); (try rw [r6]); (try rw [q3]); (try rw [q4]); (try rw [hp]); (try rw [hq]); go_big_quiet_on)))
              refine wpQuiet_nil ?_
              rintro _ ⟨tq, rfl⟩))
        go_ret
        refine ⟨ret_bool (by rw [E.out]), ?_, Chg.toR (by repeat (first | with_reducible exact Chg.refl _ _ | with_reducible apply Chg.drew | with_reducible apply Chg.drewl | with_reducible refine Chg.turn (by simp) | with_reducible refine Chg.both ?_ (by simp) | (with_reducible refine Chg.set ?_ (by simp) _) | with_reducible apply Chg.alloc | with_reducible apply Chg.ext)) HR.out⟩
        rw [E0.out, E1.out]
        exact ⟨HH.out, _, HND.out, HR.out, Own.same _ _ _ _ (fun _ _ => rfl) (own_Arb_of HO0.out HO1.out)⟩
      | false =>
        have E := hid (show grantB xs0 xs1 s j v = true by simp only [grantB, Int.toNat_natCast, HY.out, Option.getD_some, r3, ← HL.out, r1, r2]; rfl)
        have E0 := hid (show grant0 xs0 xs1 s j v = xs0.set j v by rw [grant0, E.out]; rfl)
        have E1 := hid (show grant1 xs0 xs1 s j v = xs1.set j (y + 1) by rw [grant1, E.out]; simp only [Int.toNat_natCast, HY.out, Option.getD_some, if_true])
        go_enter Try.func33, Try.ntmps33
        try go_wp2_with (first
            | (go_at_call 55; refine (in_c _ _ _ _).mono ?_; rintro e w' ⟨rfl, rfl⟩)
            | (
              with_reducible refine wp_region_mix (by kernel_rfl) (by decide +kernel) ?_
              repeat (first
                | (refine mix_pure rfl ?_; (first | go_big_quiet_skip | (go_big_quiet_want; go_big_quiet_op; go_big_quiet_on)); refine wpQuiet_nil ?_)
                | (refine mix_skip (by rfl) ?_; (try simp only [Act.put, List.setIfInBounds_toArray, List.set_cons_zero, List.set_cons_succ]))
                | (refine mix_mk rfl (by rfl) (fun K hK => ?_); (first | (go_simp; first | (go_at_call 55; refine (in_c _ _ _ _).mono ?_; rintro e w' ⟨rfl, rfl⟩) | skip)); (show K _ _); refine hK _ _ (show Ext _ _ from (by ((try simp only [ext_drew]); (try simp only [ext_ext]); repeat (first | exact Ext.refl _ | with_reducible apply Ext.add | with_reducible apply Ext.dr | apply Ext.alloc | apply Ext.ext | apply Ext.drew | refine Ext.trans ?_ (by assumption))))) ?_; clear hK K; (try simp only [Act.put, List.setIfInBounds_toArray, List.set_cons_zero, List.set_cons_succ])))
              refine mix_nil ?_)
            | (
              with_reducible refine wp_region_ext (by kernel_rfl) (by kernel_rfl) ?_
              repeat (first | go_big_quiet_skip | (go_big_quiet_want; go_big_quiet_op; first | go_big_quiet_on | (apply Exists.intro; refine ⟨fun _ => ?_, ?_⟩; ((first | (go_at_call 55; first | exact quiet_same (in_c _ _ _ _) | exact quiet_same2 (in_c _ _ _ _)))); (try rw [h1]); (try rw [h2]); (try rw [h3]); (try rw [h4]); (try rw [p1]); (try rw [p2]); (try rw [p3]); (try rw [p4]); (try rw [r1]); (try rw [r2]); (try rw [r3]); (try rw [r4]); (try rw [r5]); (try rw [r6]); (try rw [q3]); (try rw [q4]); (try rw [hp]); (try rw [hq]); go_big_quiet_on)))
              refine wpQuiet_nil ?_
              rintro _ ⟨tq, rfl⟩))
        go_ret
        refine ⟨ret_bool (by rw [E.out]), ?_, Chg.toR (by repeat (first | with_reducible exact Chg.refl _ _ | with_reducible apply Chg.drew | with_reducible apply Chg.drewl | with_reducible refine Chg.turn (by simp) | with_reducible refine Chg.both ?_ (by simp) | (with_reducible refine Chg.set ?_ (by simp) _) | with_reducible apply Chg.alloc | with_reducible apply Chg.ext)) HR.out⟩
        rw [E0.out, E1.out]
        exact ⟨by have := HH.out; simp [go_sem]; omega, _, HND.out, HR.out, own_Arb_of (HP0.out _ v (by repeat (first | with_reducible exact HB0.out | with_reducible apply blk_drew | with_reducible refine blk_set ?_ | (with_reducible refine blk_other ?_ (by first | assumption | omega)) | with_reducible refine blk_ext ?_ | with_reducible refine blk_alloc ?_))) (HP1.out _ (y + 1) (by repeat (first | with_reducible exact HB1.out | with_reducible apply blk_drew | with_reducible refine blk_set ?_ | (with_reducible refine blk_other ?_ (by first | assumption | omega)) | with_reducible refine blk_ext ?_ | with_reducible refine blk_alloc ?_)))⟩
end Go.Proofs.Ytcfbfpgcfnpdgaa
