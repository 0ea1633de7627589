/- The laws' helpers at GwyBook. -/
import Derived.Test.YtnfodkhfoegnaaaSt
import Derived.Test.YtnfodkhfoegnaaaTRow
namespace Go.Proofs.Ytnfodkhfoegnaaa
open Go.RowKit

def sGwy : Sch := .st [.sl sRow]
def gwyDat  (xs0 : List Row) : Dat := .s [.l (xs0.map Row.dat)]
def MadeGwy (w : World)  (n0 : Nat) (xs0 : List Row) (e : Ending) (w' : World) : Prop :=
  ∃ a0 c0, e = .returned (.agg #[.slice a0 n0 c0]) ∧ Ext w w' ∧ OwnR w.heap.size w'.heap.size w' sGwy [.slice a0 n0 c0] (gwyDat xs0)

theorem re_Gwy {w : World} {a0 : Option Addr} {n0 c0 : Nat} {xs0 : List Row}  (h : Re w sGwy [.slice a0 n0 c0] (gwyDat xs0)) : Re w (.sl sRow) [.slice a0 n0 c0] (.l (xs0.map Row.dat)) := by
  unfold Re sGwy gwyDat Rd at h
  obtain ⟨ds, hd, h⟩ := h
  simp only [Dat.s.injEq] at hd
  subst hd
  unfold RdL at h; obtain ⟨v1, v2, d1, d2, e1, e2, g0, h⟩ := h
  simp only [List.cons.injEq] at e2
  obtain ⟨rfl, rfl⟩ := e2
  obtain ⟨_, _, rfl⟩ := Re.slice g0
  simp only [List.singleton_append, List.cons.injEq] at e1
  obtain ⟨e1, rfl⟩ := e1
  rw [← e1] at g0
  exact g0

theorem open_Gwy {w : World} {vs : List Value} {d : Dat} (h : Rd w.heap.size w sGwy vs d) : ∃  (a0 : Option Addr) (n0 c0 : Nat) (xs0 : List Row), vs = [.slice a0 n0 c0] ∧ Re w (.sl sRow) [.slice a0 n0 c0] (.l (xs0.map Row.dat)) := by
  unfold sGwy Rd at h
  obtain ⟨ds, hd, h⟩ := h
  subst hd
  unfold RdL at h; obtain ⟨v1, v2, d1, d2, rfl, rfl, g0, h⟩ := h
  obtain ⟨a0, c0, xs0, rfl, rfl, _⟩ := rdS_Row g0
  unfold RdL at h; obtain ⟨rfl, rfl⟩ := h
  exact ⟨a0, _, c0, xs0, rfl, g0⟩

theorem szGwy_c  (n0 : Nat) (a0 : Option Addr) (c0 : Nat) (left : Int) (w : World) (h0 : 0 ≤ left) (h1 : left ≤ 1048576) (m0 : n0 ≤ 9223372036854775807) :
    Calls Try.prog 11 #[.agg #[.slice a0 n0 c0], .int .i64 left] w fun e w' => e = .returned (.int .i64 (if left < (n0 : Int) then -1 else left - (n0 : Int))) ∧ Ext w w' := by
  by_cases t0 : left < (n0 : Int)
  · have tt : left < (n0 : Int) := by omega
    go_enter Try.func11, Try.ntmps11
    try go_wp2_with (first
        | (go_at_call 48; refine (szRowS_c _ _ _ _ _ (by omega) (by omega) (by assumption)).mono ?_; rintro e w' ⟨rfl, rfl⟩)
        | (
          with_reducible refine wp_region_mix (by kernel_rfl) (by decide +kernel) ?_
          repeat (first
            | (refine mix_pure rfl ?_; (first | go_big_quiet_skip | (go_big_quiet_want; go_big_quiet_op; go_big_quiet_on)); refine wpQuiet_nil ?_)
            | (refine mix_skip (by rfl) ?_; (try simp only [Act.put, List.setIfInBounds_toArray, List.set_cons_zero, List.set_cons_succ]))
            | (refine mix_mk rfl (by rfl) (fun K hK => ?_); (first | (go_simp; first | (go_at_call 48; refine (szRowS_c _ _ _ _ _ (by omega) (by omega) (by assumption)).mono ?_; rintro e w' ⟨rfl, rfl⟩) | skip)); (show K _ _); refine hK _ _ (show Ext _ _ from (by ((try simp only [ext_drew]); (try simp only [ext_ext]); repeat (first | exact Ext.refl _ | with_reducible apply Ext.add | with_reducible apply Ext.dr | apply Ext.alloc | apply Ext.ext | apply Ext.drew | refine Ext.trans ?_ (by assumption))))) ?_; clear hK K; (try simp only [Act.put, List.setIfInBounds_toArray, List.set_cons_zero, List.set_cons_succ])))
          refine mix_nil ?_)
        | (
          with_reducible refine wp_region_ext (by kernel_rfl) (by kernel_rfl) ?_
          repeat (first | go_big_quiet_skip | (go_big_quiet_want; go_big_quiet_op; first | go_big_quiet_on | (apply Exists.intro; refine ⟨fun _ => ?_, ?_⟩; ((first | (go_at_call 48; first | exact quiet_same (szRowS_c _ _ _ _ _ (by omega) (by omega) (by assumption)) | exact quiet_same2 (szRowS_c _ _ _ _ _ (by omega) (by omega) (by assumption))))); (try rw [h1]); (try rw [h2]); (try rw [h3]); (try rw [h4]); (try rw [p1]); (try rw [p2]); (try rw [p3]); (try rw [p4]); (try rw [r1]); (try rw [r2]); (try rw [r3]); (try rw [r4]); (try rw [r5]); (try rw [r6]); (try rw [q3]); (try rw [q4]); (try rw [hp]); (try rw [hq]); go_big_quiet_on)))
          refine wpQuiet_nil ?_
          rintro _ ⟨tq, rfl⟩))
    go_ret
    exact ⟨ret_int (by first | rfl | rw [if_pos tt]), (by ((try simp only [ext_drew]); (try simp only [ext_ext]); repeat (first | exact Ext.refl _ | with_reducible apply Ext.add | with_reducible apply Ext.dr | apply Ext.alloc | apply Ext.ext | apply Ext.drew | refine Ext.trans ?_ (by assumption))))⟩
  · go_enter Try.func11, Try.ntmps11
    try go_wp2_with (first
        | (go_at_call 48; refine (szRowS_c _ _ _ _ _ (by omega) (by omega) (by assumption)).mono ?_; rintro e w' ⟨rfl, rfl⟩)
        | (
          with_reducible refine wp_region_mix (by kernel_rfl) (by decide +kernel) ?_
          repeat (first
            | (refine mix_pure rfl ?_; (first | go_big_quiet_skip | (go_big_quiet_want; go_big_quiet_op; go_big_quiet_on)); refine wpQuiet_nil ?_)
            | (refine mix_skip (by rfl) ?_; (try simp only [Act.put, List.setIfInBounds_toArray, List.set_cons_zero, List.set_cons_succ]))
            | (refine mix_mk rfl (by rfl) (fun K hK => ?_); (first | (go_simp; first | (go_at_call 48; refine (szRowS_c _ _ _ _ _ (by omega) (by omega) (by assumption)).mono ?_; rintro e w' ⟨rfl, rfl⟩) | skip)); (show K _ _); refine hK _ _ (show Ext _ _ from (by ((try simp only [ext_drew]); (try simp only [ext_ext]); repeat (first | exact Ext.refl _ | with_reducible apply Ext.add | with_reducible apply Ext.dr | apply Ext.alloc | apply Ext.ext | apply Ext.drew | refine Ext.trans ?_ (by assumption))))) ?_; clear hK K; (try simp only [Act.put, List.setIfInBounds_toArray, List.set_cons_zero, List.set_cons_succ])))
          refine mix_nil ?_)
        | (
          with_reducible refine wp_region_ext (by kernel_rfl) (by kernel_rfl) ?_
          repeat (first | go_big_quiet_skip | (go_big_quiet_want; go_big_quiet_op; first | go_big_quiet_on | (apply Exists.intro; refine ⟨fun _ => ?_, ?_⟩; ((first | (go_at_call 48; first | exact quiet_same (szRowS_c _ _ _ _ _ (by omega) (by omega) (by assumption)) | exact quiet_same2 (szRowS_c _ _ _ _ _ (by omega) (by omega) (by assumption))))); (try rw [h1]); (try rw [h2]); (try rw [h3]); (try rw [h4]); (try rw [p1]); (try rw [p2]); (try rw [p3]); (try rw [p4]); (try rw [r1]); (try rw [r2]); (try rw [r3]); (try rw [r4]); (try rw [r5]); (try rw [r6]); (try rw [q3]); (try rw [q4]); (try rw [hp]); (try rw [hq]); go_big_quiet_on)))
          refine wpQuiet_nil ?_
          rintro _ ⟨tq, rfl⟩))
    go_ret
    exact ⟨ret_int (by first | rfl | rw [if_neg (by omega)]), (by ((try simp only [ext_drew]); (try simp only [ext_ext]); repeat (first | exact Ext.refl _ | with_reducible apply Ext.add | with_reducible apply Ext.dr | apply Ext.alloc | apply Ext.ext | apply Ext.drew | refine Ext.trans ?_ (by assumption))))⟩

set_option maxRecDepth 100000 in
set_option maxHeartbeats 2000000 in
theorem toGwy_c  (xs0 : List Row) (a0 : Option Addr) (c0 : Nat) (n0 : Nat) (w : World) (h0 : Re w (.sl sRow) [.slice a0 n0 c0] (.l (xs0.map Row.dat))) (b0 : n0 ≤ 1048576) :
    Calls Try.prog 14 #[.agg #[.slice a0 n0 c0]] w (MadeGwy w  n0 xs0) := by
  have H0 := hid h0
  clear h0
  go_enter Try.func14, Try.ntmps14
  try go_wp2_with (first
      | (go_at_call 54; (with_reducible refine (toRowS_c xs0 a0 n0 c0 _ (H0.out.of (by ((try simp only [ext_drew]); (try simp only [ext_ext]); repeat (first | exact Ext.refl _ | with_reducible apply Ext.add | with_reducible apply Ext.dr | apply Ext.alloc | apply Ext.ext | apply Ext.drew | refine Ext.trans ?_ (by assumption))))) b0).mono ?_); rintro e w' ⟨p0, q0, rfl, ⟨t0, rfl⟩, ho⟩; have O0 := hid ho; clear ho)
      | (
        with_reducible refine wp_region_mix (by kernel_rfl) (by decide +kernel) ?_
        repeat (first
          | (refine mix_pure rfl ?_; (first | go_big_quiet_skip | (go_big_quiet_want; go_big_quiet_op; go_big_quiet_on)); refine wpQuiet_nil ?_)
          | (refine mix_skip (by rfl) ?_; (try simp only [Act.put, List.setIfInBounds_toArray, List.set_cons_zero, List.set_cons_succ]))
          | (refine mix_mk rfl (by rfl) (fun K hK => ?_); (first | (go_simp; first | (go_at_call 54; (with_reducible refine (toRowS_c xs0 a0 n0 c0 _ (H0.out.of (by ((try simp only [ext_drew]); (try simp only [ext_ext]); repeat (first | exact Ext.refl _ | with_reducible apply Ext.add | with_reducible apply Ext.dr | apply Ext.alloc | apply Ext.ext | apply Ext.drew | refine Ext.trans ?_ (by assumption))))) b0).mono ?_); rintro e w' ⟨p0, q0, rfl, ⟨t0, rfl⟩, ho⟩; have O0 := hid ho; clear ho) | skip)); (show K _ _); refine hK _ _ (show Ext _ _ from (by ((try simp only [ext_drew]); (try simp only [ext_ext]); repeat (first | exact Ext.refl _ | with_reducible apply Ext.add | with_reducible apply Ext.dr | apply Ext.alloc | apply Ext.ext | apply Ext.drew | refine Ext.trans ?_ (by assumption))))) ?_; clear hK K; (try simp only [Act.put, List.setIfInBounds_toArray, List.set_cons_zero, List.set_cons_succ])))
        refine mix_nil ?_)
      | (
        with_reducible refine wp_region_ext (by kernel_rfl) (by kernel_rfl) ?_
        repeat (first | go_big_quiet_skip | (go_big_quiet_want; go_big_quiet_op; first | go_big_quiet_on | (apply Exists.intro; refine ⟨fun _ => ?_, ?_⟩; (fail); (try rw [h1]); (try rw [h2]); (try rw [h3]); (try rw [h4]); (try rw [p1]); (try rw [p2]); (try rw [p3]); (try rw [p4]); (try rw [r1]); (try rw [r2]); (try rw [r3]); (try rw [r4]); (try rw [r5]); (try rw [r6]); (try rw [q3]); (try rw [q4]); (try rw [hp]); (try rw [hq]); go_big_quiet_on)))
        refine wpQuiet_nil ?_
        rintro _ ⟨tq, rfl⟩))
  refine bodyPost_ret (v := .agg #[.slice p0 n0 q0]) (by simp [results, Try.results14, go_sem]) rfl ?_
  refine ⟨_, _, rfl, (by ((try simp only [ext_drew]); (try simp only [ext_ext]); repeat (first | exact Ext.refl _ | with_reducible apply Ext.add | with_reducible apply Ext.dr | apply Ext.alloc | apply Ext.ext | apply Ext.drew | refine Ext.trans ?_ (by assumption)))), ?_⟩
  have Q0 := O0.out
  (try rw [ext_ext] at Q0)
  exact OwnRL.st (OwnRL.lo (OwnRL.cons' (OwnR.fin Q0 (by ((try simp only [ext_drew]); (try simp only [ext_ext]); repeat (first | exact Ext.refl _ | with_reducible apply Ext.add | with_reducible apply Ext.dr | apply Ext.alloc | apply Ext.ext | apply Ext.drew | refine Ext.trans ?_ (by assumption)))) (by simp) (by simp [go_sem])) (OwnRL.nil' (Nat.le_refl _)) (by (try simp [go_sem]) <;> (try simp [Xt.add]) <;> omega) (by (try simp [go_sem]) <;> (try simp [Xt.add]) <;> omega) (by (try simp [go_sem]) <;> (try simp [Xt.add]) <;> omega)) (by (try simp [go_sem]) <;> (try simp [Xt.add]) <;> omega))

theorem eqGwy_c  (xs0 : List Row) (a0 : Option Addr) (c0 : Nat) (a0' : Option Addr) (c0' : Nat) (n0 : Nat) (w : World) (h0 : Re w (.sl sRow) [.slice a0 n0 c0] (.l (xs0.map Row.dat))) (h0' : Re w (.sl sRow) [.slice a0' n0 c0'] (.l (xs0.map Row.dat))) (b0 : n0 ≤ 1048576) :
    Calls Try.prog 18 #[.agg #[.slice a0 n0 c0], .agg #[.slice a0' n0 c0']] w fun e w' => e = .returned (.bool true) ∧ Ext w w' := by
  have H0 := hid h0
  have H0' := hid h0'
  clear h0 h0'
  go_enter Try.func18, Try.ntmps18
  try go_wp2_with (first
      | (go_at_call 62; refine (eqRowS_c _ _ _ _ _ _ _ (Re.of (Hid.out (by assumption)) (by ((try simp only [ext_drew]); (try simp only [ext_ext]); repeat (first | exact Ext.refl _ | with_reducible apply Ext.add | with_reducible apply Ext.dr | apply Ext.alloc | apply Ext.ext | apply Ext.drew | refine Ext.trans ?_ (by assumption))))) (Re.of (Hid.out (by assumption)) (by ((try simp only [ext_drew]); (try simp only [ext_ext]); repeat (first | exact Ext.refl _ | with_reducible apply Ext.add | with_reducible apply Ext.dr | apply Ext.alloc | apply Ext.ext | apply Ext.drew | refine Ext.trans ?_ (by assumption))))) (by omega)).mono ?_; rintro e w' ⟨rfl, t, rfl⟩)
      | (
        with_reducible refine wp_region_mix (by kernel_rfl) (by decide +kernel) ?_
        repeat (first
          | (refine mix_pure rfl ?_; (first | go_big_quiet_skip | (go_big_quiet_want; go_big_quiet_op; go_big_quiet_on)); refine wpQuiet_nil ?_)
          | (refine mix_skip (by rfl) ?_; (try simp only [Act.put, List.setIfInBounds_toArray, List.set_cons_zero, List.set_cons_succ]))
          | (refine mix_mk rfl (by rfl) (fun K hK => ?_); (first | (go_simp; first | (go_at_call 62; refine (eqRowS_c _ _ _ _ _ _ _ (Re.of (Hid.out (by assumption)) (by ((try simp only [ext_drew]); (try simp only [ext_ext]); repeat (first | exact Ext.refl _ | with_reducible apply Ext.add | with_reducible apply Ext.dr | apply Ext.alloc | apply Ext.ext | apply Ext.drew | refine Ext.trans ?_ (by assumption))))) (Re.of (Hid.out (by assumption)) (by ((try simp only [ext_drew]); (try simp only [ext_ext]); repeat (first | exact Ext.refl _ | with_reducible apply Ext.add | with_reducible apply Ext.dr | apply Ext.alloc | apply Ext.ext | apply Ext.drew | refine Ext.trans ?_ (by assumption))))) (by omega)).mono ?_; rintro e w' ⟨rfl, t, rfl⟩) | skip)); (show K _ _); refine hK _ _ (show Ext _ _ from (by ((try simp only [ext_drew]); (try simp only [ext_ext]); repeat (first | exact Ext.refl _ | with_reducible apply Ext.add | with_reducible apply Ext.dr | apply Ext.alloc | apply Ext.ext | apply Ext.drew | refine Ext.trans ?_ (by assumption))))) ?_; clear hK K; (try simp only [Act.put, List.setIfInBounds_toArray, List.set_cons_zero, List.set_cons_succ])))
        refine mix_nil ?_)
      | (
        with_reducible refine wp_region_ext (by kernel_rfl) (by kernel_rfl) ?_
        repeat (first | go_big_quiet_skip | (go_big_quiet_want; go_big_quiet_op; first | go_big_quiet_on | (apply Exists.intro; refine ⟨fun _ => ?_, ?_⟩; ((first | (go_at_call 62; first | exact quiet_call (eqRowS_c _ _ _ _ _ _ _ (Re.of (Hid.out (by assumption)) (by ((try simp only [ext_drew]); (try simp only [ext_ext]); repeat (first | exact Ext.refl _ | with_reducible apply Ext.add | with_reducible apply Ext.dr | apply Ext.alloc | apply Ext.ext | apply Ext.drew | refine Ext.trans ?_ (by assumption))))) (Re.of (Hid.out (by assumption)) (by ((try simp only [ext_drew]); (try simp only [ext_ext]); repeat (first | exact Ext.refl _ | with_reducible apply Ext.add | with_reducible apply Ext.dr | apply Ext.alloc | apply Ext.ext | apply Ext.drew | refine Ext.trans ?_ (by assumption))))) (by omega)) | exact quiet_call2 (eqRowS_c _ _ _ _ _ _ _ (Re.of (Hid.out (by assumption)) (by ((try simp only [ext_drew]); (try simp only [ext_ext]); repeat (first | exact Ext.refl _ | with_reducible apply Ext.add | with_reducible apply Ext.dr | apply Ext.alloc | apply Ext.ext | apply Ext.drew | refine Ext.trans ?_ (by assumption))))) (Re.of (Hid.out (by assumption)) (by ((try simp only [ext_drew]); (try simp only [ext_ext]); repeat (first | exact Ext.refl _ | with_reducible apply Ext.add | with_reducible apply Ext.dr | apply Ext.alloc | apply Ext.ext | apply Ext.drew | refine Ext.trans ?_ (by assumption))))) (by omega))))); (try rw [h1]); (try rw [h2]); (try rw [h3]); (try rw [h4]); (try rw [p1]); (try rw [p2]); (try rw [p3]); (try rw [p4]); (try rw [r1]); (try rw [r2]); (try rw [r3]); (try rw [r4]); (try rw [r5]); (try rw [r6]); (try rw [q3]); (try rw [q4]); (try rw [hp]); (try rw [hq]); go_big_quiet_on)))
        refine wpQuiet_nil ?_
        rintro _ ⟨tq, rfl⟩))
  go_ret
  exact ⟨rfl, (by ((try simp only [ext_drew]); (try simp only [ext_ext]); repeat (first | exact Ext.refl _ | with_reducible apply Ext.add | with_reducible apply Ext.dr | apply Ext.alloc | apply Ext.ext | apply Ext.drew | refine Ext.trans ?_ (by assumption))))⟩

def gwyMarks  (n0 : Nat) (q : Int) : Dat := gwyDat (marksOf Row.mk' 10 (q) n0)

set_option maxRecDepth 100000 in
set_option maxHeartbeats 2000000 in
theorem markGwy_c  (xs0 : List Row) (a0 : Option Addr) (c0 : Nat) (n0 : Nat) (lo hi : Nat) (q : Int) (w : World) (ho : OwnR lo hi w sGwy [.slice a0 n0 c0] (gwyDat xs0)) (h0 : 0 ≤ q) (h1 : q ≤ 900000000) (b0 : n0 ≤ 1048576) :
    Calls Try.prog 22 #[.agg #[.slice a0 n0 c0], .int .i64 q] w fun e w' => e = .returned (.int .i64 (q + 10 * (n0 : Int))) ∧ OwnR lo hi w' sGwy [.slice a0 n0 c0] (gwyMarks n0 q) ∧ ChgR lo hi w w' := by
  obtain ⟨hh, B, hn, hr, ho⟩ := ho
  have L := own_st (show Own w (.st [.sl sRow]) [.slice a0 n0 c0] (.s [.l (xs0.map Row.dat)]) B from ho)
  clear ho
  obtain ⟨B0, R0, rfl, O0, L⟩ := ownL_sl L
  obtain rfl : R0 = [] := by unfold OwnL at L; exact L.2.2
  clear L
  have D0 : ∀ b ∈ B0, b < w.heap.size := fun b hb => Nat.lt_of_lt_of_le (hr b (by simp [hb])).2 hh
  have HO0 := hid O0
  have HD0 := hid D0
  have HND := hid hn
  have HR := hid hr
  clear hn hr O0 D0
  go_enter Try.func22, Try.ntmps22
  go_wp2_with (fail)
  refine (markRowS_b xs0 a0 n0 c0 B0 (q) _ (HO0.out.of (by ((try simp only [ext_drew]); (try simp only [ext_ext]); repeat (first | exact Ext.refl _ | with_reducible apply Ext.add | with_reducible apply Ext.dr | apply Ext.alloc | apply Ext.ext | apply Ext.drew | refine Ext.trans ?_ (by assumption)))) HD0.out) (by omega) (by omega) b0).mono ?_
  rintro e w0 ⟨rfl, m0, C0⟩
  have Z0 : w.heap.size ≤ w0.heap.size := Nat.le_trans (Ext.size (by ((try simp only [ext_drew]); (try simp only [ext_ext]); repeat (first | exact Ext.refl _ | with_reducible apply Ext.add | with_reducible apply Ext.dr | apply Ext.alloc | apply Ext.ext | apply Ext.drew | refine Ext.trans ?_ (by assumption))))) C0.size
  have P0_0 := hid m0
  have g0_0 : w0.cell? ⟨w.heap.size, 0, none⟩ = some (.slice a0 n0 c0) := (C0.cell (by simp [go_sem]) (fun h => Nat.lt_irrefl _ (HD0.out _ h)) 0).trans (by simp [go_sem])
  have Y0 : w.heap.size + 1 ≤ w0.heap.size := Nat.le_trans (by simp [go_sem]) C0.size
  have HC0 := hid C0
  clear m0 C0
  try go_wp2_with (first
      | fail
      | (
        with_reducible refine wp_region_mix (by kernel_rfl) (by decide +kernel) ?_
        repeat (first
          | (refine mix_pure rfl ?_; (first | go_big_quiet_skip | (go_big_quiet_want; go_big_quiet_op; go_big_quiet_on)); refine wpQuiet_nil ?_)
          | (refine mix_skip (by rfl) ?_; (try simp only [Act.put, List.setIfInBounds_toArray, List.set_cons_zero, List.set_cons_succ]))
          | (refine mix_mk rfl (by rfl) (fun K hK => ?_); (first | (go_simp; first | skip)); (show K _ _); refine hK _ _ (show Ext _ _ from (by ((try simp only [ext_drew]); (try simp only [ext_ext]); repeat (first | exact Ext.refl _ | with_reducible apply Ext.add | with_reducible apply Ext.dr | apply Ext.alloc | apply Ext.ext | apply Ext.drew | refine Ext.trans ?_ (by assumption))))) ?_; clear hK K; (try simp only [Act.put, List.setIfInBounds_toArray, List.set_cons_zero, List.set_cons_succ])))
        refine mix_nil ?_)
      | (
        with_reducible refine wp_region_ext (by kernel_rfl) (by kernel_rfl) ?_
        repeat (first | go_big_quiet_skip | (go_big_quiet_want; go_big_quiet_op; first | go_big_quiet_on | (apply Exists.intro; refine ⟨fun _ => ?_, ?_⟩; (fail); (try rw [h1]); (try rw [h2]); (try rw [h3]); (try rw [h4]); (try rw [p1]); (try rw [p2]); (try rw [p3]); (try rw [p4]); (try rw [r1]); (try rw [r2]); (try rw [r3]); (try rw [r4]); (try rw [r5]); (try rw [r6]); (try rw [q3]); (try rw [q4]); (try rw [hp]); (try rw [hq]); go_big_quiet_on)))
        refine wpQuiet_nil ?_
        rintro _ ⟨tq, rfl⟩))
  go_ret
  refine ⟨ret_int (by omega), ?_, ?_⟩
  · exact ⟨Nat.le_trans hh Z0, _, HND.out, HR.out, own_st_mk (ownL_mk P0_0.out ownL_nil)⟩
  · exact Chg.toR (Chg.trans (Chg.of_ext (show Ext w _ from (by ((try simp only [ext_drew]); (try simp only [ext_ext]); repeat (first | exact Ext.refl _ | with_reducible apply Ext.add | with_reducible apply Ext.dr | apply Ext.alloc | apply Ext.ext | apply Ext.drew | refine Ext.trans ?_ (by assumption))))) _) (Chg.mono HC0.out (fun b hb => by simp [hb]))) HR.out

set_option maxRecDepth 100000 in
set_option maxHeartbeats 2000000 in
theorem heldGwy_c  (a0 : Option Addr) (c0 : Nat) (n0 : Nat) (q : Int) (w : World) (hx : Re w sGwy [.slice a0 n0 c0] (gwyMarks n0 q)) (h0 : 0 ≤ q) (h1 : q ≤ 900000000) (b0 : n0 ≤ 1048576) :
    Calls Try.prog 23 #[.agg #[.slice a0 n0 c0], .int .i64 q] w fun e w' => e = .returned (.int .i64 (q + 10 * (n0 : Int))) ∧ Ext w w' := by
  have hR := re_Gwy hx
  have HE0 := hid hR
  clear hR hx
  go_enter Try.func23, Try.ntmps23
  try go_wp2_with (first
      | (go_at_call 68; (with_reducible refine (heldRowS_c a0 n0 c0 (q) _ (HE0.out.of (by ((try simp only [ext_drew]); (try simp only [ext_ext]); repeat (first | exact Ext.refl _ | with_reducible apply Ext.add | with_reducible apply Ext.dr | apply Ext.alloc | apply Ext.ext | apply Ext.drew | refine Ext.trans ?_ (by assumption))))) (by omega) (by omega) b0).mono ?_); rintro e w' ⟨rfl, t, rfl⟩)
      | (
        with_reducible refine wp_region_mix (by kernel_rfl) (by decide +kernel) ?_
        repeat (first
          | (refine mix_pure rfl ?_; (first | go_big_quiet_skip | (go_big_quiet_want; go_big_quiet_op; go_big_quiet_on)); refine wpQuiet_nil ?_)
          | (refine mix_skip (by rfl) ?_; (try simp only [Act.put, List.setIfInBounds_toArray, List.set_cons_zero, List.set_cons_succ]))
          | (refine mix_mk rfl (by rfl) (fun K hK => ?_); (first | (go_simp; first | (go_at_call 68; (with_reducible refine (heldRowS_c a0 n0 c0 (q) _ (HE0.out.of (by ((try simp only [ext_drew]); (try simp only [ext_ext]); repeat (first | exact Ext.refl _ | with_reducible apply Ext.add | with_reducible apply Ext.dr | apply Ext.alloc | apply Ext.ext | apply Ext.drew | refine Ext.trans ?_ (by assumption))))) (by omega) (by omega) b0).mono ?_); rintro e w' ⟨rfl, t, rfl⟩) | skip)); (show K _ _); refine hK _ _ (show Ext _ _ from (by ((try simp only [ext_drew]); (try simp only [ext_ext]); repeat (first | exact Ext.refl _ | with_reducible apply Ext.add | with_reducible apply Ext.dr | apply Ext.alloc | apply Ext.ext | apply Ext.drew | refine Ext.trans ?_ (by assumption))))) ?_; clear hK K; (try simp only [Act.put, List.setIfInBounds_toArray, List.set_cons_zero, List.set_cons_succ])))
        refine mix_nil ?_)
      | (
        with_reducible refine wp_region_ext (by kernel_rfl) (by kernel_rfl) ?_
        repeat (first | go_big_quiet_skip | (go_big_quiet_want; go_big_quiet_op; first | go_big_quiet_on | (apply Exists.intro; refine ⟨fun _ => ?_, ?_⟩; (fail); (try rw [h1]); (try rw [h2]); (try rw [h3]); (try rw [h4]); (try rw [p1]); (try rw [p2]); (try rw [p3]); (try rw [p4]); (try rw [r1]); (try rw [r2]); (try rw [r3]); (try rw [r4]); (try rw [r5]); (try rw [r6]); (try rw [q3]); (try rw [q4]); (try rw [hp]); (try rw [hq]); go_big_quiet_on)))
        refine wpQuiet_nil ?_
        rintro _ ⟨tq, rfl⟩))
  go_ret
  exact ⟨ret_int (by omega), (by ((try simp only [ext_drew]); (try simp only [ext_ext]); repeat (first | exact Ext.refl _ | with_reducible apply Ext.add | with_reducible apply Ext.dr | apply Ext.alloc | apply Ext.ext | apply Ext.drew | refine Ext.trans ?_ (by assumption))))⟩

end Go.Proofs.Ytnfodkhfoegnaaa
