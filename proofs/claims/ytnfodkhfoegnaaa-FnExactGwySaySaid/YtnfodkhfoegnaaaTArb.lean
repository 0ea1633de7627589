/- The laws' helpers at ArbTable. -/
import Derived.Test.YtnfodkhfoegnaaaSt
import Derived.Test.YtnfodkhfoegnaaaTInt
namespace Go.Proofs.Ytnfodkhfoegnaaa
open Go.RowKit

def sArb : Sch := .st [.sl .int, .sl .int]
def arbDat  (xs0 : List Int) (xs1 : List Int) : Dat := .s [.l (xs0.map Dat.i), .l (xs1.map Dat.i)]
def MadeArb (w : World)  (n0 n1 : Nat) (xs0 : List Int) (xs1 : List Int) (e : Ending) (w' : World) : Prop :=
  ∃ a0 c0 a1 c1, e = .returned (.agg #[.slice a0 n0 c0, .slice a1 n1 c1]) ∧ Ext w w' ∧ OwnR w.heap.size w'.heap.size w' sArb [.slice a0 n0 c0, .slice a1 n1 c1] (arbDat xs0 xs1)

theorem re_Arb {w : World} {a0 : Option Addr} {n0 c0 : Nat} {xs0 : List Int} {a1 : Option Addr} {n1 c1 : Nat} {xs1 : List Int}  (h : Re w sArb [.slice a0 n0 c0, .slice a1 n1 c1] (arbDat xs0 xs1)) : Re w (.sl .int) [.slice a0 n0 c0] (.l (xs0.map Dat.i)) ∧ Re w (.sl .int) [.slice a1 n1 c1] (.l (xs1.map Dat.i)) := by
  unfold Re sArb arbDat Rd at h
  obtain ⟨ds, hd, h⟩ := h
  simp only [Dat.s.injEq] at hd
  subst hd
  unfold RdL at h; obtain ⟨v1, v2, d1, d2, e1, e2, g0, h⟩ := h
  simp only [List.cons.injEq] at e2
  obtain ⟨rfl, rfl⟩ := e2
  obtain ⟨_, _, rfl⟩ := Re.slice g0
  simp only [List.singleton_append, List.cons.injEq] at e1
  obtain ⟨e1, rfl⟩ := e1
  rw [← e1] at g0
  unfold RdL at h; obtain ⟨v1, v2, d1, d2, e1, e2, g1, h⟩ := h
  simp only [List.cons.injEq] at e2
  obtain ⟨rfl, rfl⟩ := e2
  obtain ⟨_, _, rfl⟩ := Re.slice g1
  simp only [List.singleton_append, List.cons.injEq] at e1
  obtain ⟨e1, rfl⟩ := e1
  rw [← e1] at g1
  exact ⟨g0, g1⟩

theorem open_Arb {w : World} {vs : List Value} {d : Dat} (h : Rd w.heap.size w sArb vs d) : ∃  (a0 : Option Addr) (n0 c0 : Nat) (xs0 : List Int) (a1 : Option Addr) (n1 c1 : Nat) (xs1 : List Int), vs = [.slice a0 n0 c0, .slice a1 n1 c1] ∧ Re w (.sl .int) [.slice a0 n0 c0] (.l (xs0.map Dat.i)) ∧ Re w (.sl .int) [.slice a1 n1 c1] (.l (xs1.map Dat.i)) := by
  unfold sArb Rd at h
  obtain ⟨ds, hd, h⟩ := h
  subst hd
  unfold RdL at h; obtain ⟨v1, v2, d1, d2, rfl, rfl, g0, h⟩ := h
  obtain ⟨a0, c0, xs0, rfl, rfl, _⟩ := rdS_Int g0
  unfold RdL at h; obtain ⟨v1, v2, d1, d2, rfl, rfl, g1, h⟩ := h
  obtain ⟨a1, c1, xs1, rfl, rfl, _⟩ := rdS_Int g1
  unfold RdL at h; obtain ⟨rfl, rfl⟩ := h
  exact ⟨a0, _, c0, xs0, a1, _, c1, xs1, rfl, g0, g1⟩

theorem szArb_c  (n0 n1 : Nat) (a0 : Option Addr) (c0 : Nat) (a1 : Option Addr) (c1 : Nat) (left : Int) (w : World) (h0 : 0 ≤ left) (h1 : left ≤ 1048576) (m0 : n0 ≤ 9223372036854775807) (m1 : n1 ≤ 9223372036854775807) :
    Calls Try.prog 12 #[.agg #[.slice a0 n0 c0, .slice a1 n1 c1], .int .i64 left] w fun e w' => e = .returned (.int .i64 (if left < (n0 : Int) + (n1 : Int) then -1 else left - (n0 : Int) - (n1 : Int))) ∧ Ext w w' := by
  by_cases t0 : left < (n0 : Int)
  · have tt : left < (n0 : Int) + (n1 : Int) := by omega
    go_enter Try.func12, Try.ntmps12
    try go_wp2_with (first
        | (go_at_call 49; refine (szIntS_c _ _ _ _ _ (by omega) (by omega) (by assumption)).mono ?_; rintro e w' ⟨rfl, rfl⟩)
        | (
          with_reducible refine wp_region_mix (by kernel_rfl) (by decide +kernel) ?_
          repeat (first
            | (refine mix_pure rfl ?_; (first | go_big_quiet_skip | (go_big_quiet_want; go_big_quiet_op; go_big_quiet_on)); refine wpQuiet_nil ?_)
            | (refine mix_skip (by rfl) ?_; (try simp only [Act.put, List.setIfInBounds_toArray, List.set_cons_zero, List.set_cons_succ]))
            | (refine mix_mk rfl (by rfl) (fun K hK => ?_); (first | (go_simp; first | (go_at_call 49; refine (szIntS_c _ _ _ _ _ (by omega) (by omega) (by assumption)).mono ?_; rintro e w' ⟨rfl, rfl⟩) | skip)); (show K _ _); refine hK _ _ (show Ext _ _ from (by ((try simp only [ext_drew]); (try simp only [ext_ext]); repeat (first | exact Ext.refl _ | with_reducible apply Ext.add | with_reducible apply Ext.dr | apply Ext.alloc | apply Ext.ext | apply Ext.drew | refine Ext.trans ?_ (by assumption))))) ?_; clear hK K; (try simp only [Act.put, List.setIfInBounds_toArray, List.set_cons_zero, List.set_cons_succ])))
          refine mix_nil ?_)
        | (
          with_reducible refine wp_region_ext (by kernel_rfl) (by kernel_rfl) ?_
          repeat (first | go_big_quiet_skip | (go_big_quiet_want; go_big_quiet_op; first | go_big_quiet_on | (apply Exists.intro; refine ⟨fun _ => ?_, ?_⟩; ((first | (go_at_call 49; first | exact quiet_same (szIntS_c _ _ _ _ _ (by omega) (by omega) (by assumption)) | exact quiet_same2 (szIntS_c _ _ _ _ _ (by omega) (by omega) (by assumption))))); (try rw [h1]); (try rw [h2]); (try rw [h3]); (try rw [h4]); (try rw [p1]); (try rw [p2]); (try rw [p3]); (try rw [p4]); (try rw [r1]); (try rw [r2]); (try rw [r3]); (try rw [r4]); (try rw [r5]); (try rw [r6]); (try rw [q3]); (try rw [q4]); (try rw [hp]); (try rw [hq]); go_big_quiet_on)))
          refine wpQuiet_nil ?_
          rintro _ ⟨tq, rfl⟩))
    go_ret
    exact ⟨ret_int (by first | rfl | rw [if_pos tt]), (by ((try simp only [ext_drew]); (try simp only [ext_ext]); repeat (first | exact Ext.refl _ | with_reducible apply Ext.add | with_reducible apply Ext.dr | apply Ext.alloc | apply Ext.ext | apply Ext.drew | refine Ext.trans ?_ (by assumption))))⟩
  ·
    by_cases t1 : left < (n0 : Int) + (n1 : Int)
    · have tt : left < (n0 : Int) + (n1 : Int) := by omega
      go_enter Try.func12, Try.ntmps12
      try go_wp2_with (first
          | (go_at_call 49; refine (szIntS_c _ _ _ _ _ (by omega) (by omega) (by assumption)).mono ?_; rintro e w' ⟨rfl, rfl⟩)
          | (
            with_reducible refine wp_region_mix (by kernel_rfl) (by decide +kernel) ?_
            repeat (first
              | (refine mix_pure rfl ?_; (first | go_big_quiet_skip | (go_big_quiet_want; go_big_quiet_op; go_big_quiet_on)); refine wpQuiet_nil ?_)
              | (refine mix_skip (by rfl) ?_; (try simp only [Act.put, List.setIfInBounds_toArray, List.set_cons_zero, List.set_cons_succ]))
              | (refine mix_mk rfl (by rfl) (fun K hK => ?_); (first | (go_simp; first | (go_at_call 49; refine (szIntS_c _ _ _ _ _ (by omega) (by omega) (by assumption)).mono ?_; rintro e w' ⟨rfl, rfl⟩) | skip)); (show K _ _); refine hK _ _ (show Ext _ _ from (by ((try simp only [ext_drew]); (try simp only [ext_ext]); repeat (first | exact Ext.refl _ | with_reducible apply Ext.add | with_reducible apply Ext.dr | apply Ext.alloc | apply Ext.ext | apply Ext.drew | refine Ext.trans ?_ (by assumption))))) ?_; clear hK K; (try simp only [Act.put, List.setIfInBounds_toArray, List.set_cons_zero, List.set_cons_succ])))
            refine mix_nil ?_)
          | (
            with_reducible refine wp_region_ext (by kernel_rfl) (by kernel_rfl) ?_
            repeat (first | go_big_quiet_skip | (go_big_quiet_want; go_big_quiet_op; first | go_big_quiet_on | (apply Exists.intro; refine ⟨fun _ => ?_, ?_⟩; ((first | (go_at_call 49; first | exact quiet_same (szIntS_c _ _ _ _ _ (by omega) (by omega) (by assumption)) | exact quiet_same2 (szIntS_c _ _ _ _ _ (by omega) (by omega) (by assumption))))); (try rw [h1]); (try rw [h2]); (try rw [h3]); (try rw [h4]); (try rw [p1]); (try rw [p2]); (try rw [p3]); (try rw [p4]); (try rw [r1]); (try rw [r2]); (try rw [r3]); (try rw [r4]); (try rw [r5]); (try rw [r6]); (try rw [q3]); (try rw [q4]); (try rw [hp]); (try rw [hq]); go_big_quiet_on)))
            refine wpQuiet_nil ?_
            rintro _ ⟨tq, rfl⟩))
      go_ret
      exact ⟨ret_int (by first | rfl | rw [if_pos tt]), (by ((try simp only [ext_drew]); (try simp only [ext_ext]); repeat (first | exact Ext.refl _ | with_reducible apply Ext.add | with_reducible apply Ext.dr | apply Ext.alloc | apply Ext.ext | apply Ext.drew | refine Ext.trans ?_ (by assumption))))⟩
    · go_enter Try.func12, Try.ntmps12
      try go_wp2_with (first
          | (go_at_call 49; refine (szIntS_c _ _ _ _ _ (by omega) (by omega) (by assumption)).mono ?_; rintro e w' ⟨rfl, rfl⟩)
          | (
            with_reducible refine wp_region_mix (by kernel_rfl) (by decide +kernel) ?_
            repeat (first
              | (refine mix_pure rfl ?_; (first | go_big_quiet_skip | (go_big_quiet_want; go_big_quiet_op; go_big_quiet_on)); refine wpQuiet_nil ?_)
              | (refine mix_skip (by rfl) ?_; (try simp only [Act.put, List.setIfInBounds_toArray, List.set_cons_zero, List.set_cons_succ]))
              | (refine mix_mk rfl (by rfl) (fun K hK => ?_); (first | (go_simp; first | (go_at_call 49; refine (szIntS_c _ _ _ _ _ (by omega) (by omega) (by assumption)).mono ?_; rintro e w' ⟨rfl, rfl⟩) | skip)); (show K _ _); refine hK _ _ (show Ext _ _ from (by ((try simp only [ext_drew]); (try simp only [ext_ext]); repeat (first | exact Ext.refl _ | with_reducible apply Ext.add | with_reducible apply Ext.dr | apply Ext.alloc | apply Ext.ext | apply Ext.drew | refine Ext.trans ?_ (by assumption))))) ?_; clear hK K; (try simp only [Act.put, List.setIfInBounds_toArray, List.set_cons_zero, List.set_cons_succ])))
            refine mix_nil ?_)
          | (
            with_reducible refine wp_region_ext (by kernel_rfl) (by kernel_rfl) ?_
            repeat (first | go_big_quiet_skip | (go_big_quiet_want; go_big_quiet_op; first | go_big_quiet_on | (apply Exists.intro; refine ⟨fun _ => ?_, ?_⟩; ((first | (go_at_call 49; first | exact quiet_same (szIntS_c _ _ _ _ _ (by omega) (by omega) (by assumption)) | exact quiet_same2 (szIntS_c _ _ _ _ _ (by omega) (by omega) (by assumption))))); (try rw [h1]); (try rw [h2]); (try rw [h3]); (try rw [h4]); (try rw [p1]); (try rw [p2]); (try rw [p3]); (try rw [p4]); (try rw [r1]); (try rw [r2]); (try rw [r3]); (try rw [r4]); (try rw [r5]); (try rw [r6]); (try rw [q3]); (try rw [q4]); (try rw [hp]); (try rw [hq]); go_big_quiet_on)))
            refine wpQuiet_nil ?_
            rintro _ ⟨tq, rfl⟩))
      go_ret
      exact ⟨ret_int (by first | rfl | rw [if_neg (by omega)]), (by ((try simp only [ext_drew]); (try simp only [ext_ext]); repeat (first | exact Ext.refl _ | with_reducible apply Ext.add | with_reducible apply Ext.dr | apply Ext.alloc | apply Ext.ext | apply Ext.drew | refine Ext.trans ?_ (by assumption))))⟩

set_option maxRecDepth 100000 in
set_option maxHeartbeats 2000000 in
theorem toArb_c  (xs0 : List Int) (xs1 : List Int) (a0 : Option Addr) (c0 : Nat) (a1 : Option Addr) (c1 : Nat) (n0 n1 : Nat) (w : World) (h0 : Re w (.sl .int) [.slice a0 n0 c0] (.l (xs0.map Dat.i))) (h1 : Re w (.sl .int) [.slice a1 n1 c1] (.l (xs1.map Dat.i))) (b0 : n0 ≤ 1048576) (b1 : n1 ≤ 1048576) :
    Calls Try.prog 15 #[.agg #[.slice a0 n0 c0, .slice a1 n1 c1]] w (MadeArb w  n0 n1 xs0 xs1) := by
  have H0 := hid h0
  have H1 := hid h1
  clear h0 h1
  go_enter Try.func15, Try.ntmps15
  try go_wp2_with (first
      | (go_at_call 55; (with_reducible refine (toIntS_c xs0 a0 n0 c0 _ (H0.out.of (by ((try simp only [ext_drew]); (try simp only [ext_ext]); repeat (first | exact Ext.refl _ | with_reducible apply Ext.add | with_reducible apply Ext.dr | apply Ext.alloc | apply Ext.ext | apply Ext.drew | refine Ext.trans ?_ (by assumption))))) b0).mono ?_); rintro e w' ⟨p0, q0, rfl, ⟨t0, rfl⟩, ho⟩; have O0 := hid ho; clear ho) | (go_at_call 55; (with_reducible refine (toIntS_c xs1 a1 n1 c1 _ (H1.out.of (by ((try simp only [ext_drew]); (try simp only [ext_ext]); repeat (first | exact Ext.refl _ | with_reducible apply Ext.add | with_reducible apply Ext.dr | apply Ext.alloc | apply Ext.ext | apply Ext.drew | refine Ext.trans ?_ (by assumption))))) b1).mono ?_); rintro e w' ⟨p1, q1, rfl, ⟨t1, rfl⟩, ho⟩; have O1 := hid ho; clear ho)
      | (
        with_reducible refine wp_region_mix (by kernel_rfl) (by decide +kernel) ?_
        repeat (first
          | (refine mix_pure rfl ?_; (first | go_big_quiet_skip | (go_big_quiet_want; go_big_quiet_op; go_big_quiet_on)); refine wpQuiet_nil ?_)
          | (refine mix_skip (by rfl) ?_; (try simp only [Act.put, List.setIfInBounds_toArray, List.set_cons_zero, List.set_cons_succ]))
          | (refine mix_mk rfl (by rfl) (fun K hK => ?_); (first | (go_simp; first | (go_at_call 55; (with_reducible refine (toIntS_c xs0 a0 n0 c0 _ (H0.out.of (by ((try simp only [ext_drew]); (try simp only [ext_ext]); repeat (first | exact Ext.refl _ | with_reducible apply Ext.add | with_reducible apply Ext.dr | apply Ext.alloc | apply Ext.ext | apply Ext.drew | refine Ext.trans ?_ (by assumption))))) b0).mono ?_); rintro e w' ⟨p0, q0, rfl, ⟨t0, rfl⟩, ho⟩; have O0 := hid ho; clear ho) | (go_at_call 55; (with_reducible refine (toIntS_c xs1 a1 n1 c1 _ (H1.out.of (by ((try simp only [ext_drew]); (try simp only [ext_ext]); repeat (first | exact Ext.refl _ | with_reducible apply Ext.add | with_reducible apply Ext.dr | apply Ext.alloc | apply Ext.ext | apply Ext.drew | refine Ext.trans ?_ (by assumption))))) b1).mono ?_); rintro e w' ⟨p1, q1, rfl, ⟨t1, rfl⟩, ho⟩; have O1 := hid ho; clear ho) | skip)); (show K _ _); refine hK _ _ (show Ext _ _ from (by ((try simp only [ext_drew]); (try simp only [ext_ext]); repeat (first | exact Ext.refl _ | with_reducible apply Ext.add | with_reducible apply Ext.dr | apply Ext.alloc | apply Ext.ext | apply Ext.drew | refine Ext.trans ?_ (by assumption))))) ?_; clear hK K; (try simp only [Act.put, List.setIfInBounds_toArray, List.set_cons_zero, List.set_cons_succ])))
        refine mix_nil ?_)
      | (
        with_reducible refine wp_region_ext (by kernel_rfl) (by kernel_rfl) ?_
        repeat (first | go_big_quiet_skip | (go_big_quiet_want; go_big_quiet_op; first | go_big_quiet_on | (apply Exists.intro; refine ⟨fun _ => ?_, ?_⟩; (fail); (try rw [h1]); (try rw [h2]); (try rw [h3]); (try rw [h4]); (try rw [p1]); (try rw [p2]); (try rw [p3]); (try rw [p4]); (try rw [r1]); (try rw [r2]); (try rw [r3]); (try rw [r4]); (try rw [r5]); (try rw [r6]); (try rw [q3]); (try rw [q4]); (try rw [hp]); (try rw [hq]); go_big_quiet_on)))
        refine wpQuiet_nil ?_
        rintro _ ⟨tq, rfl⟩))
  refine bodyPost_ret (v := .agg #[.slice p0 n0 q0, .slice p1 n1 q1]) (by simp [results, Try.results15, go_sem]) rfl ?_
  refine ⟨_, _, _, _, rfl, (by ((try simp only [ext_drew]); (try simp only [ext_ext]); repeat (first | exact Ext.refl _ | with_reducible apply Ext.add | with_reducible apply Ext.dr | apply Ext.alloc | apply Ext.ext | apply Ext.drew | refine Ext.trans ?_ (by assumption)))), ?_⟩
  have Q0 := O0.out
  (try rw [ext_ext] at Q0)
  have Q1 := O1.out
  (try rw [ext_ext] at Q1)
  exact OwnRL.st (OwnRL.lo (OwnRL.cons' (OwnR.fin Q0 (by ((try simp only [ext_drew]); (try simp only [ext_ext]); repeat (first | exact Ext.refl _ | with_reducible apply Ext.add | with_reducible apply Ext.dr | apply Ext.alloc | apply Ext.ext | apply Ext.drew | refine Ext.trans ?_ (by assumption)))) (by simp) (by simp [go_sem])) (OwnRL.cons' (OwnR.fin Q1 (by ((try simp only [ext_drew]); (try simp only [ext_ext]); repeat (first | exact Ext.refl _ | with_reducible apply Ext.add | with_reducible apply Ext.dr | apply Ext.alloc | apply Ext.ext | apply Ext.drew | refine Ext.trans ?_ (by assumption)))) (by simp) (by simp [go_sem])) (OwnRL.nil' (Nat.le_refl _)) (by (try simp [go_sem]) <;> (try simp [Xt.add]) <;> omega) (by (try simp [go_sem]) <;> (try simp [Xt.add]) <;> omega) (by (try simp [go_sem]) <;> (try simp [Xt.add]) <;> omega)) (by (try simp [go_sem]) <;> (try simp [Xt.add]) <;> omega) (by (try simp [go_sem]) <;> (try simp [Xt.add]) <;> omega) (by (try simp [go_sem]) <;> (try simp [Xt.add]) <;> omega)) (by (try simp [go_sem]) <;> (try simp [Xt.add]) <;> omega))

theorem eqArb_c  (xs0 : List Int) (xs1 : List Int) (a0 : Option Addr) (c0 : Nat) (a1 : Option Addr) (c1 : Nat) (a0' : Option Addr) (c0' : Nat) (a1' : Option Addr) (c1' : Nat) (n0 n1 : Nat) (w : World) (h0 : Re w (.sl .int) [.slice a0 n0 c0] (.l (xs0.map Dat.i))) (h1 : Re w (.sl .int) [.slice a1 n1 c1] (.l (xs1.map Dat.i))) (h0' : Re w (.sl .int) [.slice a0' n0 c0'] (.l (xs0.map Dat.i))) (h1' : Re w (.sl .int) [.slice a1' n1 c1'] (.l (xs1.map Dat.i))) (b0 : n0 ≤ 1048576) (b1 : n1 ≤ 1048576) :
    Calls Try.prog 19 #[.agg #[.slice a0 n0 c0, .slice a1 n1 c1], .agg #[.slice a0' n0 c0', .slice a1' n1 c1']] w fun e w' => e = .returned (.bool true) ∧ Ext w w' := by
  have H0 := hid h0
  have H0' := hid h0'
  have H1 := hid h1
  have H1' := hid h1'
  clear h0 h0' h1 h1'
  go_enter Try.func19, Try.ntmps19
  try go_wp2_with (first
      | (go_at_call 63; refine (eqIntS_c _ _ _ _ _ _ _ (Re.of (Hid.out (by assumption)) (by ((try simp only [ext_drew]); (try simp only [ext_ext]); repeat (first | exact Ext.refl _ | with_reducible apply Ext.add | with_reducible apply Ext.dr | apply Ext.alloc | apply Ext.ext | apply Ext.drew | refine Ext.trans ?_ (by assumption))))) (Re.of (Hid.out (by assumption)) (by ((try simp only [ext_drew]); (try simp only [ext_ext]); repeat (first | exact Ext.refl _ | with_reducible apply Ext.add | with_reducible apply Ext.dr | apply Ext.alloc | apply Ext.ext | apply Ext.drew | refine Ext.trans ?_ (by assumption))))) (by omega)).mono ?_; rintro e w' ⟨rfl, t, rfl⟩)
      | (
        with_reducible refine wp_region_mix (by kernel_rfl) (by decide +kernel) ?_
        repeat (first
          | (refine mix_pure rfl ?_; (first | go_big_quiet_skip | (go_big_quiet_want; go_big_quiet_op; go_big_quiet_on)); refine wpQuiet_nil ?_)
          | (refine mix_skip (by rfl) ?_; (try simp only [Act.put, List.setIfInBounds_toArray, List.set_cons_zero, List.set_cons_succ]))
          | (refine mix_mk rfl (by rfl) (fun K hK => ?_); (first | (go_simp; first | (go_at_call 63; refine (eqIntS_c _ _ _ _ _ _ _ (Re.of (Hid.out (by assumption)) (by ((try simp only [ext_drew]); (try simp only [ext_ext]); repeat (first | exact Ext.refl _ | with_reducible apply Ext.add | with_reducible apply Ext.dr | apply Ext.alloc | apply Ext.ext | apply Ext.drew | refine Ext.trans ?_ (by assumption))))) (Re.of (Hid.out (by assumption)) (by ((try simp only [ext_drew]); (try simp only [ext_ext]); repeat (first | exact Ext.refl _ | with_reducible apply Ext.add | with_reducible apply Ext.dr | apply Ext.alloc | apply Ext.ext | apply Ext.drew | refine Ext.trans ?_ (by assumption))))) (by omega)).mono ?_; rintro e w' ⟨rfl, t, rfl⟩) | skip)); (show K _ _); refine hK _ _ (show Ext _ _ from (by ((try simp only [ext_drew]); (try simp only [ext_ext]); repeat (first | exact Ext.refl _ | with_reducible apply Ext.add | with_reducible apply Ext.dr | apply Ext.alloc | apply Ext.ext | apply Ext.drew | refine Ext.trans ?_ (by assumption))))) ?_; clear hK K; (try simp only [Act.put, List.setIfInBounds_toArray, List.set_cons_zero, List.set_cons_succ])))
        refine mix_nil ?_)
      | (
        with_reducible refine wp_region_ext (by kernel_rfl) (by kernel_rfl) ?_
        repeat (first | go_big_quiet_skip | (go_big_quiet_want; go_big_quiet_op; first | go_big_quiet_on | (apply Exists.intro; refine ⟨fun _ => ?_, ?_⟩; ((first | (go_at_call 63; first | exact quiet_call (eqIntS_c _ _ _ _ _ _ _ (Re.of (Hid.out (by assumption)) (by ((try simp only [ext_drew]); (try simp only [ext_ext]); repeat (first | exact Ext.refl _ | with_reducible apply Ext.add | with_reducible apply Ext.dr | apply Ext.alloc | apply Ext.ext | apply Ext.drew | refine Ext.trans ?_ (by assumption))))) (Re.of (Hid.out (by assumption)) (by ((try simp only [ext_drew]); (try simp only [ext_ext]); repeat (first | exact Ext.refl _ | with_reducible apply Ext.add | with_reducible apply Ext.dr | apply Ext.alloc | apply Ext.ext | apply Ext.drew | refine Ext.trans ?_ (by assumption))))) (by omega)) | exact quiet_call2 (eqIntS_c _ _ _ _ _ _ _ (Re.of (Hid.out (by assumption)) (by ((try simp only [ext_drew]); (try simp only [ext_ext]); repeat (first | exact Ext.refl _ | with_reducible apply Ext.add | with_reducible apply Ext.dr | apply Ext.alloc | apply Ext.ext | apply Ext.drew | refine Ext.trans ?_ (by assumption))))) (Re.of (Hid.out (by assumption)) (by ((try simp only [ext_drew]); (try simp only [ext_ext]); repeat (first | exact Ext.refl _ | with_reducible apply Ext.add | with_reducible apply Ext.dr | apply Ext.alloc | apply Ext.ext | apply Ext.drew | refine Ext.trans ?_ (by assumption))))) (by omega))))); (try rw [h1]); (try rw [h2]); (try rw [h3]); (try rw [h4]); (try rw [p1]); (try rw [p2]); (try rw [p3]); (try rw [p4]); (try rw [r1]); (try rw [r2]); (try rw [r3]); (try rw [r4]); (try rw [r5]); (try rw [r6]); (try rw [q3]); (try rw [q4]); (try rw [hp]); (try rw [hq]); go_big_quiet_on)))
        refine wpQuiet_nil ?_
        rintro _ ⟨tq, rfl⟩))
  go_ret
  exact ⟨rfl, (by ((try simp only [ext_drew]); (try simp only [ext_ext]); repeat (first | exact Ext.refl _ | with_reducible apply Ext.add | with_reducible apply Ext.dr | apply Ext.alloc | apply Ext.ext | apply Ext.drew | refine Ext.trans ?_ (by assumption))))⟩

def arbMarks  (n0 n1 : Nat) (q : Int) : Dat := arbDat (marksOf imk 1 (q) n0) (marksOf imk 1 (q + (n0 : Int)) n1)

end Go.Proofs.Ytnfodkhfoegnaaa
