/- Packed texts: TCll, Flow, FlowB, Cx, TGst, Clo, All, Ok, WlkL, Ok2, TMp, Lst, CllOk, CllCp, FlowK, Gap, GapL -/
import Derived.Test.YtablgohncilmfaaZI1
import Derived.Deep.AppendSrc
namespace Go.Proofs.Ytablgohncilmfaa
open Go.RowKit
set_option linter.unusedSimpArgs false
set_option linter.unusedVariables false

structure Cll where
  cell : Int
  wk : List Wlk
  ground : Int
  outs : List (List Pcl)
  next : List Int
  ins : List Int
/-- Where a cell's slices lie. -/
structure CllH where
  a1 : Option Addr
  c1 : Nat
  a3 : Option Addr
  c3 : Nat
  a4 : Option Addr
  c4 : Nat
  a5 : Option Addr
  c5 : Nat
def sCll : Sch := .st [.int, .sl sWlk, .int, .sl (.sl sPcl), .sl .int, .sl .int]
def cllDat (c : Cll) : Dat := .s [.i c.cell, .l (c.wk.map Wlk.dat), .i c.ground, .l (c.outs.map (ldat Pcl.dat)), .l (c.next.map Dat.i), .l (c.ins.map Dat.i)]
def cllCells (c : Cll) (h : CllH) : List Value := [.int .i64 c.cell, .slice h.a1 c.wk.length h.c1, .int .i64 c.ground, .slice h.a3 c.outs.length h.c3, .slice h.a4 c.next.length h.c4, .slice h.a5 c.ins.length h.c5]
structure ReC (w : World) (c : Cll) (h : CllH) : Prop where
  r1 : Re w (.sl sWlk) [.slice h.a1 c.wk.length h.c1] (.l (c.wk.map Wlk.dat))
  r3 : Re w (.sl (.sl sPcl)) [.slice h.a3 c.outs.length h.c3] (.l (c.outs.map (ldat Pcl.dat)))
  r4 : Re w (.sl .int) [.slice h.a4 c.next.length h.c4] (.l (c.next.map Dat.i))
  r5 : Re w (.sl .int) [.slice h.a5 c.ins.length h.c5] (.l (c.ins.map Dat.i))
theorem ReC.of {w w' : World} {c : Cll} {h : CllH} (r : ReC w c h) (hE : Ext w w') : ReC w' c h := ⟨r.r1.of hE, r.r3.of hE, r.r4.of hE, r.r5.of hE⟩
structure BdC (c : Cll) : Prop where
  b1 : c.wk.length ≤ 1048576
  b3 : c.outs.length ≤ 1048576
  bo : ∀ xs ∈ c.outs, xs.length ≤ 1048576
  b4 : c.next.length ≤ 1048576
  b5 : c.ins.length ≤ 1048576
def cllLens (c : Cll) : List Nat := c.wk.length :: ((c.outs.length :: c.outs.map List.length) ++ [c.next.length, c.ins.length])
theorem BdC.mk' {c : Cll} (h : ∀ n ∈ cllLens c, (n : Int) ≤ 1048576) : BdC c := by
  have h' : ∀ n ∈ cllLens c, n ≤ 1048576 := fun n hn => by have := h n hn; omega
  unfold cllLens at h'
  refine ⟨h' _ (by simp), h' _ (by simp), fun xs hx => h' _ ?_, h' _ (by simp), h' _ (by simp)⟩
  refine List.mem_cons_of_mem _ (List.mem_append_left _ (List.mem_cons_of_mem _ (List.mem_map.2 ⟨xs, hx, rfl⟩)))

theorem OwnRL.int {lo hi : Nat} {w : World} {n : Int} {vs : List Value} {fs : List Sch} {ds : List Dat} (k : OwnRL lo hi w fs vs ds) : OwnRL lo hi w (.int :: fs) (.int .i64 n :: vs) (.i n :: ds) :=
  OwnRL.one (s := .int) (v1 := [.int .i64 n]) (d := .i n) (by unfold Own; exact ⟨⟨_, rfl, rfl⟩, rfl⟩) k
theorem re_slm {α : Type} {hi : Nat} {w : World} {e : Sch} {vs : List Value} {f : α → Dat} {xs : List α} (h : Rd hi w (.sl e) vs (.l (xs.map f))) : ∃ a c, vs = [.slice a xs.length c] ∧ Rd hi w (.sl e) [.slice a xs.length c] (.l (xs.map f)) := by
  have h0 := h
  unfold Rd at h
  obtain ⟨a, n, c, ds', h1, h2, h3, h4, h5⟩ := h
  simp only [Dat.l.injEq] at h2
  subst h2
  rw [List.length_map] at h3
  subst h3
  exact ⟨a, c, h1, by rw [h1] at h0; exact h0⟩
theorem dmap_of {hi : Nat} {w : World} {α : Type} {e : Sch} {f : α → Dat} (hrd : ∀ vs d, Rd hi w e vs d → ∃ x : α, d = f x) {vs : List Value} {d : Dat} (h : Rd hi w (.sl e) vs d) : ∃ xs : List α, d = .l (xs.map f) := by
  unfold Rd at h
  obtain ⟨a, n, c, ds, h1, h2, h3, h4, h5⟩ := h
  have key : ∃ xs : List α, ds = xs.map f := list_of_all fun i x hx => by
    obtain ⟨b, o, es, _, _, _, hr⟩ := h5 i x hx
    exact hrd _ _ hr
  obtain ⟨xs, rfl⟩ := key
  exact ⟨xs, h2⟩
theorem rdL_cons {hi : Nat} {w : World} {f : Sch} {fs : List Sch} {vs : List Value} {ds : List Dat} (h : RdL hi w (f :: fs) vs ds) : ∃ v1 v2 d1 d2, vs = v1 ++ v2 ∧ ds = d1 :: d2 ∧ Rd hi w f v1 d1 ∧ RdL hi w fs v2 d2 := by
  unfold RdL at h; exact h
theorem rdL_nil {hi : Nat} {w : World} {vs : List Value} {ds : List Dat} (h : RdL hi w [] vs ds) : vs = [] ∧ ds = [] := by unfold RdL at h; exact h
theorem rd_st {hi : Nat} {w : World} {fs : List Sch} {vs : List Value} {d : Dat} (h : Rd hi w (.st fs) vs d) : ∃ ds, d = .s ds ∧ RdL hi w fs vs ds := by unfold Rd at h; exact h
theorem rd_Cll {w : World} {vs : List Value} {c : Cll} (h : Re w sCll vs (cllDat c)) : ∃ h, vs = cllCells c h ∧ ReC w c h := by
  obtain ⟨ds, hd, k0⟩ := rd_st h
  clear h
  unfold cllDat at hd
  simp only [Dat.s.injEq] at hd
  subst hd
  obtain ⟨v1, v2, d1, d2, rfl, e, g0, k1⟩ := rdL_cons k0
  simp only [List.cons.injEq] at e; obtain ⟨rfl, rfl⟩ := e
  obtain ⟨x, rfl, e⟩ := rd_int g0
  simp only [Dat.i.injEq] at e; subst e
  obtain ⟨v1, v2, d1, d2, rfl, e, g1, k2⟩ := rdL_cons k1
  simp only [List.cons.injEq] at e; obtain ⟨rfl, rfl⟩ := e
  obtain ⟨a1, c1, rfl, g1⟩ := re_slm g1
  obtain ⟨v1, v2, d1, d2, rfl, e, g0, k3⟩ := rdL_cons k2
  simp only [List.cons.injEq] at e; obtain ⟨rfl, rfl⟩ := e
  obtain ⟨x, rfl, e⟩ := rd_int g0
  simp only [Dat.i.injEq] at e; subst e
  obtain ⟨v1, v2, d1, d2, rfl, e, g3, k4⟩ := rdL_cons k3
  simp only [List.cons.injEq] at e; obtain ⟨rfl, rfl⟩ := e
  obtain ⟨a3, c3, rfl, g3⟩ := re_slm g3
  obtain ⟨v1, v2, d1, d2, rfl, e, g4, k5⟩ := rdL_cons k4
  simp only [List.cons.injEq] at e; obtain ⟨rfl, rfl⟩ := e
  obtain ⟨a4, c4, rfl, g4⟩ := re_slm g4
  obtain ⟨v1, v2, d1, d2, rfl, e, g5, k6⟩ := rdL_cons k5
  simp only [List.cons.injEq] at e; obtain ⟨rfl, rfl⟩ := e
  obtain ⟨a5, c5, rfl, g5⟩ := re_slm g5
  obtain ⟨rfl, _⟩ := rdL_nil k6
  exact ⟨⟨a1, c1, a3, c3, a4, c4, a5, c5⟩, rfl, g1, g3, g4, g5⟩
theorem cll_of {hi : Nat} {w : World} {vs : List Value} {d : Dat} (h : Rd hi w sCll vs d) : ∃ c, d = cllDat c := by
  obtain ⟨ds, hd, k0⟩ := rd_st h
  clear h
  subst hd
  obtain ⟨v1, v2, d1, d2, rfl, rfl, g0, k1⟩ := rdL_cons k0
  obtain ⟨x0, _, rfl⟩ := rd_int g0
  obtain ⟨v1, v2, d1, d2, rfl, rfl, g0, k2⟩ := rdL_cons k1
  obtain ⟨x1, rfl⟩ := dmap_of (fun vs d h => by obtain ⟨x, _, rfl⟩ := rd_Wlk h; exact ⟨x, rfl⟩) g0
  obtain ⟨v1, v2, d1, d2, rfl, rfl, g0, k3⟩ := rdL_cons k2
  obtain ⟨x2, _, rfl⟩ := rd_int g0
  obtain ⟨v1, v2, d1, d2, rfl, rfl, g0, k4⟩ := rdL_cons k3
  obtain ⟨x3, rfl⟩ := dmap_of (f := ldat Pcl.dat) (fun vs d h => by obtain ⟨x, rfl⟩ := dmap_of (fun vs d h => by obtain ⟨x, _, rfl⟩ := rd_Pcl h; exact ⟨x, rfl⟩) h; exact ⟨x, rfl⟩) g0
  obtain ⟨v1, v2, d1, d2, rfl, rfl, g0, k5⟩ := rdL_cons k4
  obtain ⟨x4, rfl⟩ := dmap_of (f := Dat.i) (fun vs d h => by obtain ⟨x, _, rfl⟩ := rd_int h; exact ⟨x, rfl⟩) g0
  obtain ⟨v1, v2, d1, d2, rfl, rfl, g0, k6⟩ := rdL_cons k5
  obtain ⟨x5, rfl⟩ := dmap_of (f := Dat.i) (fun vs d h => by obtain ⟨x, _, rfl⟩ := rd_int h; exact ⟨x, rfl⟩) g0
  obtain ⟨rfl, rfl⟩ := rdL_nil k6
  exact ⟨⟨x0, x1, x2, x3, x4, x5⟩, rfl⟩
theorem open_Cll {w : World} {vs : List Value} {d : Dat} (h : Rd w.heap.size w sCll vs d) : ∃ c h, vs = cllCells c h ∧ ReC w c h := by
  obtain ⟨c, rfl⟩ := cll_of h
  obtain ⟨h', e, r⟩ := rd_Cll h
  exact ⟨c, h', e, r⟩

def MadeC (w : World) (c : Cll) (e : Ending) (w' : World) : Prop :=
  ∃ h : CllH, e = .returned (.agg #[.int .i64 c.cell, .slice h.a1 c.wk.length h.c1, .int .i64 c.ground, .slice h.a3 c.outs.length h.c3, .slice h.a4 c.next.length h.c4, .slice h.a5 c.ins.length h.c5]) ∧ Ext w w' ∧ OwnR w.heap.size w'.heap.size w' sCll (cllCells c h) (cllDat c)
theorem OwnR.cll {lo hi : Nat} {w : World} {c : Cll} {h : CllH} (o : OwnR lo hi w sCll (cllCells c h) (cllDat c)) : ReC w c h := by
  obtain ⟨h', e, r⟩ := rd_Cll o.re
  unfold cllCells at e
  simp only [List.cons.injEq, Value.slice.injEq, true_and, and_true] at e
  obtain ⟨⟨e1, e2⟩, ⟨e3, e4⟩, ⟨e5, e6⟩, e7, e8⟩ := e
  obtain ⟨a1, c1, a3, c3, a4, c4, a5, c5⟩ := h
  obtain ⟨b1, d1, b3, d3, b4, d4, b5, d5⟩ := h'
  simp only at e1 e2 e3 e4 e5 e6 e7 e8
  subst e1 e2 e3 e4 e5 e6 e7 e8
  exact r

theorem szCll_c (c : Cll) (h : CllH) (left q : Int) (w : World) (hx : ReC w c h) (hq : szRun left (cllLens c) = q) (h0 : 0 ≤ left) (h1 : left ≤ 1048576) :
    Calls Try.prog 13 #[.agg #[.int .i64 c.cell, .slice h.a1 c.wk.length h.c1, .int .i64 c.ground, .slice h.a3 c.outs.length h.c3, .slice h.a4 c.next.length h.c4, .slice h.a5 c.ins.length h.c5], .int .i64 left] w fun e w' => e = .returned (.int .i64 q) ∧ Ext w w' := by
  subst hq
  have m1 := hx.r1.max
  have m4 := hx.r4.max
  have m5 := hx.r5.max
  have H3 := hid hx.r3
  clear hx
  by_cases t1 : left < (c.wk.length : Int)
  · have E := hid (show szRun left (cllLens c) = -1 from szRun_fail _ _ _ t1)
    go_enter Try.func13, Try.ntmps13
    try go_wp2_with (first
        | (go_at_call 42; refine (szWlkS_c _ _ _ _ _ (by omega) (by omega) (by assumption)).mono ?_; rintro e w' ⟨rfl, rfl⟩)
        | (
          with_reducible refine wp_region_mix (by kernel_rfl) (by decide +kernel) ?_
          repeat (first
            | (refine mix_pure rfl ?_; (first | go_big_quiet_skip | (go_big_quiet_want; go_big_quiet_op; go_big_quiet_on)); refine wpQuiet_nil ?_)
            | (refine mix_skip (by rfl) ?_; (try simp only [Act.put, List.setIfInBounds_toArray, List.set_cons_zero, List.set_cons_succ]))
            | (refine mix_mk rfl (by rfl) (fun K hK => ?_); (first | (go_simp; first | (go_at_call 42; refine (szWlkS_c _ _ _ _ _ (by omega) (by omega) (by assumption)).mono ?_; rintro e w' ⟨rfl, rfl⟩) | skip)); (show K _ _); refine hK _ _ (show Ext _ _ from zq0) ?_; clear hK K; (try simp only [Act.put, List.setIfInBounds_toArray, List.set_cons_zero, List.set_cons_succ])))
          refine mix_nil ?_)
        | (
          with_reducible refine wp_region_ext (by kernel_rfl) (by kernel_rfl) ?_
          repeat (first | go_big_quiet_skip | (go_big_quiet_want; go_big_quiet_op; first | go_big_quiet_on | (apply Exists.intro; refine ⟨fun _ => ?_, ?_⟩; ((first | (go_at_call 42; first | exact quiet_same (szWlkS_c _ _ _ _ _ (by omega) (by omega) (by assumption)) | exact quiet_same2 (szWlkS_c _ _ _ _ _ (by omega) (by omega) (by assumption))))); (try rw [h1]); (try rw [h2]); (try rw [h3]); (try rw [h4]); (try rw [p1]); (try rw [p2]); (try rw [p3]); (try rw [p4]); (try rw [r1]); (try rw [r2]); (try rw [r3]); (try rw [r4]); (try rw [r5]); (try rw [r6]); (try rw [q3]); (try rw [q4]); (try rw [hp]); (try rw [hq]); go_big_quiet_on)))
          refine wpQuiet_nil ?_
          rintro _ ⟨tq, rfl⟩))
    go_ret
    exact ⟨ret_int (by rw [E.out]), zq0⟩
  · have E := hid (show szRun left (cllLens c) = _ from szRun_step _ _ _ t1)
    obtain ⟨q, hq⟩ : ∃ q, szRun (left - (c.wk.length : Int)) (c.outs.length :: c.outs.map List.length) = q := ⟨_, rfl⟩
    have hb := szRun_le (c.outs.length :: c.outs.map List.length) (left - (c.wk.length : Int)) (by omega)
    rw [hq] at hb
    have hb1 := hb.1
    have hb2 := hb.2
    have HQ := hid hq
    clear hb hq
    by_cases t2 : q < 0
    · have E2 := hid (szRun_fail_app (c.outs.length :: c.outs.map List.length) [c.next.length, c.ins.length] (left - (c.wk.length : Int)) (by omega) (by rw [HQ.out]; exact t2))
      go_enter Try.func13, Try.ntmps13
      try go_wp2_with (first
          | (go_at_call 42; refine (szWlkS_c _ _ _ _ _ (by omega) (by omega) (by assumption)).mono ?_; rintro e w' ⟨rfl, rfl⟩) | (go_at_call 43; refine (szPclSS_c _ _ _ _ _ _ _ (Re.of (Hid.out (by assumption)) zq0) (Hid.out (by assumption)) (by omega) (by omega)).mono ?_; rintro e w' ⟨rfl, t, rfl⟩)
          | (
            with_reducible refine wp_region_mix (by kernel_rfl) (by decide +kernel) ?_
            repeat (first
              | (refine mix_pure rfl ?_; (first | go_big_quiet_skip | (go_big_quiet_want; go_big_quiet_op; go_big_quiet_on)); refine wpQuiet_nil ?_)
              | (refine mix_skip (by rfl) ?_; (try simp only [Act.put, List.setIfInBounds_toArray, List.set_cons_zero, List.set_cons_succ]))
              | (refine mix_mk rfl (by rfl) (fun K hK => ?_); (first | (go_simp; first | (go_at_call 42; refine (szWlkS_c _ _ _ _ _ (by omega) (by omega) (by assumption)).mono ?_; rintro e w' ⟨rfl, rfl⟩) | (go_at_call 43; refine (szPclSS_c _ _ _ _ _ _ _ (Re.of (Hid.out (by assumption)) zq0) (Hid.out (by assumption)) (by omega) (by omega)).mono ?_; rintro e w' ⟨rfl, t, rfl⟩) | skip)); (show K _ _); refine hK _ _ (show Ext _ _ from zq0) ?_; clear hK K; (try simp only [Act.put, List.setIfInBounds_toArray, List.set_cons_zero, List.set_cons_succ])))
            refine mix_nil ?_)
          | (
            with_reducible refine wp_region_ext (by kernel_rfl) (by kernel_rfl) ?_
            repeat (first | go_big_quiet_skip | (go_big_quiet_want; go_big_quiet_op; first | go_big_quiet_on | (apply Exists.intro; refine ⟨fun _ => ?_, ?_⟩; ((first | (go_at_call 42; first | exact quiet_same (szWlkS_c _ _ _ _ _ (by omega) (by omega) (by assumption)) | exact quiet_same2 (szWlkS_c _ _ _ _ _ (by omega) (by omega) (by assumption))) | (go_at_call 43; first | exact quiet_call (szPclSS_c _ _ _ _ _ _ _ (Re.of (Hid.out (by assumption)) zq0) (Hid.out (by assumption)) (by omega) (by omega)) | exact quiet_call2 (szPclSS_c _ _ _ _ _ _ _ (Re.of (Hid.out (by assumption)) zq0) (Hid.out (by assumption)) (by omega) (by omega))))); (try rw [h1]); (try rw [h2]); (try rw [h3]); (try rw [h4]); (try rw [p1]); (try rw [p2]); (try rw [p3]); (try rw [p4]); (try rw [r1]); (try rw [r2]); (try rw [r3]); (try rw [r4]); (try rw [r5]); (try rw [r6]); (try rw [q3]); (try rw [q4]); (try rw [hp]); (try rw [hq]); go_big_quiet_on)))
            refine wpQuiet_nil ?_
            rintro _ ⟨tq, rfl⟩))
      go_ret
      exact ⟨ret_int (by rw [E.out, E2.out]), zq0⟩
    · have E2 := hid (show szRun (left - (c.wk.length : Int)) ((c.outs.length :: c.outs.map List.length) ++ [c.next.length, c.ins.length]) = szRun q [c.next.length, c.ins.length] by rw [szRun_app _ _ _ (by omega), HQ.out, if_neg t2])
      by_cases t3 : q < (c.next.length : Int)
      · go_enter Try.func13, Try.ntmps13
        try go_wp2_with (first
            | (go_at_call 42; refine (szWlkS_c _ _ _ _ _ (by omega) (by omega) (by assumption)).mono ?_; rintro e w' ⟨rfl, rfl⟩) | (go_at_call 43; refine (szPclSS_c _ _ _ _ _ _ _ (Re.of (Hid.out (by assumption)) zq0) (Hid.out (by assumption)) (by omega) (by omega)).mono ?_; rintro e w' ⟨rfl, t, rfl⟩) | (go_at_call 44; refine (szIntS_c _ _ _ _ _ (by omega) (by omega) (by assumption)).mono ?_; rintro e w' ⟨rfl, rfl⟩)
            | (
              with_reducible refine wp_region_mix (by kernel_rfl) (by decide +kernel) ?_
              repeat (first
                | (refine mix_pure rfl ?_; (first | go_big_quiet_skip | (go_big_quiet_want; go_big_quiet_op; go_big_quiet_on)); refine wpQuiet_nil ?_)
                | (refine mix_skip (by rfl) ?_; (try simp only [Act.put, List.setIfInBounds_toArray, List.set_cons_zero, List.set_cons_succ]))
                | (refine mix_mk rfl (by rfl) (fun K hK => ?_); (first | (go_simp; first | (go_at_call 42; refine (szWlkS_c _ _ _ _ _ (by omega) (by omega) (by assumption)).mono ?_; rintro e w' ⟨rfl, rfl⟩) | (go_at_call 43; refine (szPclSS_c _ _ _ _ _ _ _ (Re.of (Hid.out (by assumption)) zq0) (Hid.out (by assumption)) (by omega) (by omega)).mono ?_; rintro e w' ⟨rfl, t, rfl⟩) | (go_at_call 44; refine (szIntS_c _ _ _ _ _ (by omega) (by omega) (by assumption)).mono ?_; rintro e w' ⟨rfl, rfl⟩) | skip)); (show K _ _); refine hK _ _ (show Ext _ _ from zq0) ?_; clear hK K; (try simp only [Act.put, List.setIfInBounds_toArray, List.set_cons_zero, List.set_cons_succ])))
              refine mix_nil ?_)
            | (
              with_reducible refine wp_region_ext (by kernel_rfl) (by kernel_rfl) ?_
              repeat (first | go_big_quiet_skip | (go_big_quiet_want; go_big_quiet_op; first | go_big_quiet_on | (apply Exists.intro; refine ⟨fun _ => ?_, ?_⟩; ((first | (go_at_call 42; first | exact quiet_same (szWlkS_c _ _ _ _ _ (by omega) (by omega) (by assumption)) | exact quiet_same2 (szWlkS_c _ _ _ _ _ (by omega) (by omega) (by assumption))) | (go_at_call 43; first | exact quiet_call (szPclSS_c _ _ _ _ _ _ _ (Re.of (Hid.out (by assumption)) zq0) (Hid.out (by assumption)) (by omega) (by omega)) | exact quiet_call2 (szPclSS_c _ _ _ _ _ _ _ (Re.of (Hid.out (by assumption)) zq0) (Hid.out (by assumption)) (by omega) (by omega))) | (go_at_call 44; first | exact quiet_same (szIntS_c _ _ _ _ _ (by omega) (by omega) (by assumption)) | exact quiet_same2 (szIntS_c _ _ _ _ _ (by omega) (by omega) (by assumption))))); (try rw [h1]); (try rw [h2]); (try rw [h3]); (try rw [h4]); (try rw [p1]); (try rw [p2]); (try rw [p3]); (try rw [p4]); (try rw [r1]); (try rw [r2]); (try rw [r3]); (try rw [r4]); (try rw [r5]); (try rw [r6]); (try rw [q3]); (try rw [q4]); (try rw [hp]); (try rw [hq]); go_big_quiet_on)))
              refine wpQuiet_nil ?_
              rintro _ ⟨tq, rfl⟩))
        go_ret
        exact ⟨ret_int (by rw [E.out, E2.out, szRun_fail _ _ _ t3]), zq0⟩
      · by_cases t4 : q - (c.next.length : Int) < (c.ins.length : Int)
        · go_enter Try.func13, Try.ntmps13
          try go_wp2_with (first
              | (go_at_call 42; refine (szWlkS_c _ _ _ _ _ (by omega) (by omega) (by assumption)).mono ?_; rintro e w' ⟨rfl, rfl⟩) | (go_at_call 43; refine (szPclSS_c _ _ _ _ _ _ _ (Re.of (Hid.out (by assumption)) zq0) (Hid.out (by assumption)) (by omega) (by omega)).mono ?_; rintro e w' ⟨rfl, t, rfl⟩) | (go_at_call 44; refine (szIntS_c _ _ _ _ _ (by omega) (by omega) (by assumption)).mono ?_; rintro e w' ⟨rfl, rfl⟩)
              | (
                with_reducible refine wp_region_mix (by kernel_rfl) (by decide +kernel) ?_
                repeat (first
                  | (refine mix_pure rfl ?_; (first | go_big_quiet_skip | (go_big_quiet_want; go_big_quiet_op; go_big_quiet_on)); refine wpQuiet_nil ?_)
                  | (refine mix_skip (by rfl) ?_; (try simp only [Act.put, List.setIfInBounds_toArray, List.set_cons_zero, List.set_cons_succ]))
                  | (refine mix_mk rfl (by rfl) (fun K hK => ?_); (first | (go_simp; first | (go_at_call 42; refine (szWlkS_c _ _ _ _ _ (by omega) (by omega) (by assumption)).mono ?_; rintro e w' ⟨rfl, rfl⟩) | (go_at_call 43; refine (szPclSS_c _ _ _ _ _ _ _ (Re.of (Hid.out (by assumption)) zq0) (Hid.out (by assumption)) (by omega) (by omega)).mono ?_; rintro e w' ⟨rfl, t, rfl⟩) | (go_at_call 44; refine (szIntS_c _ _ _ _ _ (by omega) (by omega) (by assumption)).mono ?_; rintro e w' ⟨rfl, rfl⟩) | skip)); (show K _ _); refine hK _ _ (show Ext _ _ from zq0) ?_; clear hK K; (try simp only [Act.put, List.setIfInBounds_toArray, List.set_cons_zero, List.set_cons_succ])))
                refine mix_nil ?_)
              | (
                with_reducible refine wp_region_ext (by kernel_rfl) (by kernel_rfl) ?_
                repeat (first | go_big_quiet_skip | (go_big_quiet_want; go_big_quiet_op; first | go_big_quiet_on | (apply Exists.intro; refine ⟨fun _ => ?_, ?_⟩; ((first | (go_at_call 42; first | exact quiet_same (szWlkS_c _ _ _ _ _ (by omega) (by omega) (by assumption)) | exact quiet_same2 (szWlkS_c _ _ _ _ _ (by omega) (by omega) (by assumption))) | (go_at_call 43; first | exact quiet_call (szPclSS_c _ _ _ _ _ _ _ (Re.of (Hid.out (by assumption)) zq0) (Hid.out (by assumption)) (by omega) (by omega)) | exact quiet_call2 (szPclSS_c _ _ _ _ _ _ _ (Re.of (Hid.out (by assumption)) zq0) (Hid.out (by assumption)) (by omega) (by omega))) | (go_at_call 44; first | exact quiet_same (szIntS_c _ _ _ _ _ (by omega) (by omega) (by assumption)) | exact quiet_same2 (szIntS_c _ _ _ _ _ (by omega) (by omega) (by assumption))))); (try rw [h1]); (try rw [h2]); (try rw [h3]); (try rw [h4]); (try rw [p1]); (try rw [p2]); (try rw [p3]); (try rw [p4]); (try rw [r1]); (try rw [r2]); (try rw [r3]); (try rw [r4]); (try rw [r5]); (try rw [r6]); (try rw [q3]); (try rw [q4]); (try rw [hp]); (try rw [hq]); go_big_quiet_on)))
                refine wpQuiet_nil ?_
                rintro _ ⟨tq, rfl⟩))
          go_ret
          exact ⟨ret_int (by rw [E.out, E2.out, szRun_step _ _ _ (show ¬ q < (c.next.length : Int) by omega), szRun_fail _ _ _ (show q - (c.next.length : Int) < (c.ins.length : Int) by omega)]), zq0⟩
        · go_enter Try.func13, Try.ntmps13
          try go_wp2_with (first
              | (go_at_call 42; refine (szWlkS_c _ _ _ _ _ (by omega) (by omega) (by assumption)).mono ?_; rintro e w' ⟨rfl, rfl⟩) | (go_at_call 43; refine (szPclSS_c _ _ _ _ _ _ _ (Re.of (Hid.out (by assumption)) zq0) (Hid.out (by assumption)) (by omega) (by omega)).mono ?_; rintro e w' ⟨rfl, t, rfl⟩) | (go_at_call 44; refine (szIntS_c _ _ _ _ _ (by omega) (by omega) (by assumption)).mono ?_; rintro e w' ⟨rfl, rfl⟩)
              | (
                with_reducible refine wp_region_mix (by kernel_rfl) (by decide +kernel) ?_
                repeat (first
                  | (refine mix_pure rfl ?_; (first | go_big_quiet_skip | (go_big_quiet_want; go_big_quiet_op; go_big_quiet_on)); refine wpQuiet_nil ?_)
                  | (refine mix_skip (by rfl) ?_; (try simp only [Act.put, List.setIfInBounds_toArray, List.set_cons_zero, List.set_cons_succ]))
                  | (refine mix_mk rfl (by rfl) (fun K hK => ?_); (first | (go_simp; first | (go_at_call 42; refine (szWlkS_c _ _ _ _ _ (by omega) (by omega) (by assumption)).mono ?_; rintro e w' ⟨rfl, rfl⟩) | (go_at_call 43; refine (szPclSS_c _ _ _ _ _ _ _ (Re.of (Hid.out (by assumption)) zq0) (Hid.out (by assumption)) (by omega) (by omega)).mono ?_; rintro e w' ⟨rfl, t, rfl⟩) | (go_at_call 44; refine (szIntS_c _ _ _ _ _ (by omega) (by omega) (by assumption)).mono ?_; rintro e w' ⟨rfl, rfl⟩) | skip)); (show K _ _); refine hK _ _ (show Ext _ _ from zq0) ?_; clear hK K; (try simp only [Act.put, List.setIfInBounds_toArray, List.set_cons_zero, List.set_cons_succ])))
                refine mix_nil ?_)
              | (
                with_reducible refine wp_region_ext (by kernel_rfl) (by kernel_rfl) ?_
                repeat (first | go_big_quiet_skip | (go_big_quiet_want; go_big_quiet_op; first | go_big_quiet_on | (apply Exists.intro; refine ⟨fun _ => ?_, ?_⟩; ((first | (go_at_call 42; first | exact quiet_same (szWlkS_c _ _ _ _ _ (by omega) (by omega) (by assumption)) | exact quiet_same2 (szWlkS_c _ _ _ _ _ (by omega) (by omega) (by assumption))) | (go_at_call 43; first | exact quiet_call (szPclSS_c _ _ _ _ _ _ _ (Re.of (Hid.out (by assumption)) zq0) (Hid.out (by assumption)) (by omega) (by omega)) | exact quiet_call2 (szPclSS_c _ _ _ _ _ _ _ (Re.of (Hid.out (by assumption)) zq0) (Hid.out (by assumption)) (by omega) (by omega))) | (go_at_call 44; first | exact quiet_same (szIntS_c _ _ _ _ _ (by omega) (by omega) (by assumption)) | exact quiet_same2 (szIntS_c _ _ _ _ _ (by omega) (by omega) (by assumption))))); (try rw [h1]); (try rw [h2]); (try rw [h3]); (try rw [h4]); (try rw [p1]); (try rw [p2]); (try rw [p3]); (try rw [p4]); (try rw [r1]); (try rw [r2]); (try rw [r3]); (try rw [r4]); (try rw [r5]); (try rw [r6]); (try rw [q3]); (try rw [q4]); (try rw [hp]); (try rw [hq]); go_big_quiet_on)))
                refine wpQuiet_nil ?_
                rintro _ ⟨tq, rfl⟩))
          go_ret
          exact ⟨ret_int (by rw [E.out, E2.out, szRun_step _ _ _ (show ¬ q < (c.next.length : Int) by omega), szRun_step _ _ _ (show ¬ q - (c.next.length : Int) < (c.ins.length : Int) by omega)]; rfl), zq0⟩

set_option maxRecDepth 100000 in
set_option maxHeartbeats 2000000 in
theorem toCll_c (c : Cll) (h : CllH) (w : World) (hx : ReC w c h) (hb : BdC c) :
    Calls Try.prog 16 #[.agg #[.int .i64 c.cell, .slice h.a1 c.wk.length h.c1, .int .i64 c.ground, .slice h.a3 c.outs.length h.c3, .slice h.a4 c.next.length h.c4, .slice h.a5 c.ins.length h.c5]] w (MadeC w c) := by
  have H1 := hid hx.r1
  have H3 := hid hx.r3
  have H4 := hid hx.r4
  have H5 := hid hx.r5
  have B1 := hb.b1
  have B3 := hb.b3
  have BO := hid hb.bo
  have B4 := hb.b4
  have B5 := hb.b5
  clear hx hb
  go_enter Try.func16, Try.ntmps16
  try go_wp2_with (first
      | (go_at_call 48; (with_reducible refine (toWlkS_c c.wk h.a1 c.wk.length h.c1 _ (H1.out.of zq0) B1).mono ?_); rintro e w' ⟨p1, q1, rfl, ⟨t1, rfl⟩, ho⟩; have O1 := hid ho; clear ho) | (go_at_call 49; (with_reducible refine (toPclSS_c c.outs h.a3 c.outs.length h.c3 _ (H3.out.of zq0) B3 BO.out).mono ?_); rintro e w' ⟨p3, q3, rfl, ⟨t3, rfl⟩, ho⟩; have O3 := hid ho; clear ho) | (go_at_call 50; (with_reducible refine (toIntS_c c.next h.a4 c.next.length h.c4 _ (H4.out.of zq0) B4).mono ?_); rintro e w' ⟨p4, q4, rfl, ⟨t4, rfl⟩, ho⟩; have O4 := hid ho; clear ho) | (go_at_call 50; (with_reducible refine (toIntS_c c.ins h.a5 c.ins.length h.c5 _ (H5.out.of zq0) B5).mono ?_); rintro e w' ⟨p5, q5, rfl, ⟨t5, rfl⟩, ho⟩; have O5 := hid ho; clear ho)
      | (
        with_reducible refine wp_region_mix (by kernel_rfl) (by decide +kernel) ?_
        repeat (first
          | (refine mix_pure rfl ?_; (first | go_big_quiet_skip | (go_big_quiet_want; go_big_quiet_op; go_big_quiet_on)); refine wpQuiet_nil ?_)
          | (refine mix_skip (by rfl) ?_; (try simp only [Act.put, List.setIfInBounds_toArray, List.set_cons_zero, List.set_cons_succ]))
          | (refine mix_mk rfl (by rfl) (fun K hK => ?_); (first | (go_simp; first | (go_at_call 48; (with_reducible refine (toWlkS_c c.wk h.a1 c.wk.length h.c1 _ (H1.out.of zq0) B1).mono ?_); rintro e w' ⟨p1, q1, rfl, ⟨t1, rfl⟩, ho⟩; have O1 := hid ho; clear ho) | (go_at_call 49; (with_reducible refine (toPclSS_c c.outs h.a3 c.outs.length h.c3 _ (H3.out.of zq0) B3 BO.out).mono ?_); rintro e w' ⟨p3, q3, rfl, ⟨t3, rfl⟩, ho⟩; have O3 := hid ho; clear ho) | (go_at_call 50; (with_reducible refine (toIntS_c c.next h.a4 c.next.length h.c4 _ (H4.out.of zq0) B4).mono ?_); rintro e w' ⟨p4, q4, rfl, ⟨t4, rfl⟩, ho⟩; have O4 := hid ho; clear ho) | (go_at_call 50; (with_reducible refine (toIntS_c c.ins h.a5 c.ins.length h.c5 _ (H5.out.of zq0) B5).mono ?_); rintro e w' ⟨p5, q5, rfl, ⟨t5, rfl⟩, ho⟩; have O5 := hid ho; clear ho) | skip)); (show K _ _); refine hK _ _ (show Ext _ _ from zq0) ?_; clear hK K; (try simp only [Act.put, List.setIfInBounds_toArray, List.set_cons_zero, List.set_cons_succ])))
        refine mix_nil ?_)
      | (
        with_reducible refine wp_region_ext (by kernel_rfl) (by kernel_rfl) ?_
        repeat (first | go_big_quiet_skip | (go_big_quiet_want; go_big_quiet_op; first | go_big_quiet_on | (apply Exists.intro; refine ⟨fun _ => ?_, ?_⟩; (fail); (try rw [h1]); (try rw [h2]); (try rw [h3]); (try rw [h4]); (try rw [p1]); (try rw [p2]); (try rw [p3]); (try rw [p4]); (try rw [r1]); (try rw [r2]); (try rw [r3]); (try rw [r4]); (try rw [r5]); (try rw [r6]); (try rw [q3]); (try rw [q4]); (try rw [hp]); (try rw [hq]); go_big_quiet_on)))
        refine wpQuiet_nil ?_
        rintro _ ⟨tq, rfl⟩))
  refine bodyPost_ret (v := .agg #[.int .i64 c.cell, .slice p1 c.wk.length q1, .int .i64 c.ground, .slice p3 c.outs.length q3, .slice p4 c.next.length q4, .slice p5 c.ins.length q5]) (by simp [results, Try.results16, go_sem]) rfl ?_
  refine ⟨⟨p1, q1, p3, q3, p4, q4, p5, q5⟩, rfl, zq0, ?_⟩
  have Q1 := O1.out
  (try rw [ext_ext] at Q1)
  have Q3 := O3.out
  (try rw [ext_ext] at Q3)
  have Q4 := O4.out
  (try rw [ext_ext] at Q4)
  have Q5 := O5.out
  (try rw [ext_ext] at Q5)
  exact OwnRL.st (OwnRL.lo (OwnRL.int (OwnRL.cons' (OwnR.fin Q1 zq0 (by simp) (by simp [go_sem])) (OwnRL.int (OwnRL.cons' (OwnR.fin Q3 zq0 (by simp) (by simp [go_sem])) (OwnRL.cons' (OwnR.fin Q4 zq0 (by simp) (by simp [go_sem])) (OwnRL.cons' (OwnR.fin Q5 zq0 (by simp) (by simp [go_sem])) (OwnRL.nil' (Nat.le_refl _)) zq1 zq1 zq1) zq1 zq1 zq1) zq1 zq1 zq1)) zq1 zq1 zq1)) zq1)

theorem eqCll_c (c : Cll) (h h' : CllH) (w : World) (hx : ReC w c h) (hx' : ReC w c h') (hb : BdC c) :
    Calls Try.prog 19 #[.agg #[.int .i64 c.cell, .slice h.a1 c.wk.length h.c1, .int .i64 c.ground, .slice h.a3 c.outs.length h.c3, .slice h.a4 c.next.length h.c4, .slice h.a5 c.ins.length h.c5], .agg #[.int .i64 c.cell, .slice h'.a1 c.wk.length h'.c1, .int .i64 c.ground, .slice h'.a3 c.outs.length h'.c3, .slice h'.a4 c.next.length h'.c4, .slice h'.a5 c.ins.length h'.c5]] w fun e w' => e = .returned (.bool true) ∧ Ext w w' := by
  have H1 := hid hx.r1
  have H3 := hid hx.r3
  have H4 := hid hx.r4
  have H5 := hid hx.r5
  have H1' := hid hx'.r1
  have H3' := hid hx'.r3
  have H4' := hid hx'.r4
  have H5' := hid hx'.r5
  have B1 := hb.b1
  have B3 := hb.b3
  have BO := hid hb.bo
  have B4 := hb.b4
  have B5 := hb.b5
  clear hx hx' hb
  go_enter Try.func19, Try.ntmps19
  try go_wp2_with (first
      | (go_at_call 56; refine (eqWlkS_c _ _ _ _ _ _ _ (Re.of (Hid.out (by assumption)) zq0) (Re.of (Hid.out (by assumption)) zq0) (by omega)).mono ?_; rintro e w' ⟨rfl, t, rfl⟩) | (go_at_call 57; refine (eqPclSS_c _ _ _ _ _ _ _ (Re.of (Hid.out (by assumption)) zq0) (Re.of (Hid.out (by assumption)) zq0) (by omega) (Hid.out (by assumption))).mono ?_; rintro e w' ⟨rfl, t, rfl⟩) | (go_at_call 58; refine (eqIntS_c _ _ _ _ _ _ _ (Re.of (Hid.out (by assumption)) zq0) (Re.of (Hid.out (by assumption)) zq0) (by omega)).mono ?_; rintro e w' ⟨rfl, t, rfl⟩)
      | (
        with_reducible refine wp_region_mix (by kernel_rfl) (by decide +kernel) ?_
        repeat (first
          | (refine mix_pure rfl ?_; (first | go_big_quiet_skip | (go_big_quiet_want; go_big_quiet_op; go_big_quiet_on)); refine wpQuiet_nil ?_)
          | (refine mix_skip (by rfl) ?_; (try simp only [Act.put, List.setIfInBounds_toArray, List.set_cons_zero, List.set_cons_succ]))
          | (refine mix_mk rfl (by rfl) (fun K hK => ?_); (first | (go_simp; first | (go_at_call 56; refine (eqWlkS_c _ _ _ _ _ _ _ (Re.of (Hid.out (by assumption)) zq0) (Re.of (Hid.out (by assumption)) zq0) (by omega)).mono ?_; rintro e w' ⟨rfl, t, rfl⟩) | (go_at_call 57; refine (eqPclSS_c _ _ _ _ _ _ _ (Re.of (Hid.out (by assumption)) zq0) (Re.of (Hid.out (by assumption)) zq0) (by omega) (Hid.out (by assumption))).mono ?_; rintro e w' ⟨rfl, t, rfl⟩) | (go_at_call 58; refine (eqIntS_c _ _ _ _ _ _ _ (Re.of (Hid.out (by assumption)) zq0) (Re.of (Hid.out (by assumption)) zq0) (by omega)).mono ?_; rintro e w' ⟨rfl, t, rfl⟩) | skip)); (show K _ _); refine hK _ _ (show Ext _ _ from zq0) ?_; clear hK K; (try simp only [Act.put, List.setIfInBounds_toArray, List.set_cons_zero, List.set_cons_succ])))
        refine mix_nil ?_)
      | (
        with_reducible refine wp_region_ext (by kernel_rfl) (by kernel_rfl) ?_
        repeat (first | go_big_quiet_skip | (go_big_quiet_want; go_big_quiet_op; first | go_big_quiet_on | (apply Exists.intro; refine ⟨fun _ => ?_, ?_⟩; ((first | (go_at_call 56; first | exact quiet_call (eqWlkS_c _ _ _ _ _ _ _ (Re.of (Hid.out (by assumption)) zq0) (Re.of (Hid.out (by assumption)) zq0) (by omega)) | exact quiet_call2 (eqWlkS_c _ _ _ _ _ _ _ (Re.of (Hid.out (by assumption)) zq0) (Re.of (Hid.out (by assumption)) zq0) (by omega))) | (go_at_call 57; first | exact quiet_call (eqPclSS_c _ _ _ _ _ _ _ (Re.of (Hid.out (by assumption)) zq0) (Re.of (Hid.out (by assumption)) zq0) (by omega) (Hid.out (by assumption))) | exact quiet_call2 (eqPclSS_c _ _ _ _ _ _ _ (Re.of (Hid.out (by assumption)) zq0) (Re.of (Hid.out (by assumption)) zq0) (by omega) (Hid.out (by assumption)))) | (go_at_call 58; first | exact quiet_call (eqIntS_c _ _ _ _ _ _ _ (Re.of (Hid.out (by assumption)) zq0) (Re.of (Hid.out (by assumption)) zq0) (by omega)) | exact quiet_call2 (eqIntS_c _ _ _ _ _ _ _ (Re.of (Hid.out (by assumption)) zq0) (Re.of (Hid.out (by assumption)) zq0) (by omega))))); (try rw [h1]); (try rw [h2]); (try rw [h3]); (try rw [h4]); (try rw [p1]); (try rw [p2]); (try rw [p3]); (try rw [p4]); (try rw [r1]); (try rw [r2]); (try rw [r3]); (try rw [r4]); (try rw [r5]); (try rw [r6]); (try rw [q3]); (try rw [q4]); (try rw [hp]); (try rw [hq]); go_big_quiet_on)))
        refine wpQuiet_nil ?_
        rintro _ ⟨tq, rfl⟩))
  go_ret
  exact ⟨rfl, zq0⟩
end Go.Proofs.Ytablgohncilmfaa

namespace Go.Proofs.Ytablgohncilmfaa
open Go.RowKit
set_option linter.unusedSimpArgs false
set_option linter.unusedVariables false

/-- The frame with values put into the slots ds. -/
def putS : Nat → List Nat → (Nat → Value) → Array Value → Array Value
  | _, [], _, T => T
  | k, d :: ds, σ, T => putS (k + 1) ds σ (T.setIfInBounds d (σ k))
theorem putS_off : ∀ (ds : List Nat) (k : Nat) (σ : Nat → Value) (T : Array Value) (s : Nat), s ∉ ds → (putS k ds σ T)[s]? = T[s]?
  | [], _, _, _, _, _ => rfl
  | d :: ds, k, σ, T, s, h => by
    simp only [List.mem_cons, not_or] at h
    simp only [putS]
    rw [putS_off ds (k + 1) σ _ s h.2, Array.getElem?_setIfInBounds_ne (Ne.symm h.1)]
theorem putS_on : ∀ (ds : List Nat) (k : Nat) (σ : Nat → Value) (T : Array Value) (i d : Nat), ds.Nodup → ds[i]? = some d → d < T.size → (putS k ds σ T)[d]? = some (σ (k + i))
  | [], _, _, _, _, _, _, h, _ => by simp at h
  | e :: ds, k, σ, T, 0, d, hn, h, hl => by
    simp only [List.getElem?_cons_zero, Option.some.injEq] at h
    subst h
    simp only [putS]
    rw [putS_off ds (k + 1) σ _ e (List.nodup_cons.1 hn).1, arr_set hl, if_pos rfl, Nat.add_zero]
  | e :: ds, k, σ, T, i + 1, d, hn, h, hl => by
    simp only [List.getElem?_cons_succ] at h
    simp only [putS]
    rw [putS_on ds (k + 1) σ _ i d (List.nodup_cons.1 hn).2 h (by simpa using hl)]
    congr 2; omega
theorem putS_eta {ds : List Nat} {T T' : Array Value} (hn : ds.Nodup) (hs : T'.size = T.size) (hl : ∀ d ∈ ds, d < T.size) (ho : ∀ s, s ∉ ds → T'[s]? = T[s]?) : T' = putS 0 ds (fun i => T'.getD (ds.getD i 0) undef) T := by
  apply Array.ext_getElem?
  intro s
  by_cases hm : s ∈ ds
  · obtain ⟨i, hi⟩ := List.getElem?_of_mem hm
    rw [putS_on ds 0 _ T i s hn hi (hl s hm)]
    have h1 : s < T'.size := by rw [hs]; exact hl s hm
    rw [Array.getElem?_eq_getElem h1]
    simp [hi, h1]
  · rw [putS_off ds 0 _ T s hm]; exact ho s hm
def actS (ds : List Nat) (σ : Nat → Value) (a0 : Act) : Act := { a0 with tmps := putS 0 ds σ a0.tmps }

/-- What is known of the operations that have come up. -/
structure FlowI (ds : List Nat) (S : Nat → (Nat → Value) → Nat → Nat → World → Prop) (N : Nat) (a0 : Act) (w0 : World) (L H : Nat → Nat) (listed : Array Bool) (a : Act) (w : World) : Prop where
  defers : a.defers = a0.defers
  size : a.tmps.size = a0.tmps.size
  off : ∀ s, s ∉ ds → a.tmps[s]? = a0.tmps[s]?
  ext : Ext w0 w
  spec : ∀ j, j < N → listed.getD j true = true → w0.heap.size ≤ L j ∧ L j ≤ H j ∧ H j ≤ w.heap.size ∧ S j (fun i => a.tmps.getD (ds.getD i 0) undef) (L j) (H j) w
  apart : ∀ j k, j < N → k < N → j ≠ k → listed.getD j true = true → listed.getD k true = true → H j ≤ L k ∨ H k ≤ L j

section
variable {P : Program} {ops : Array Oper} {Q : Exit → Act → World → Prop}
theorem flow_sound {N : Nat} {oN : Oper} {a0 : Act} {w0 : World} {ds : List Nat} {S : Nat → (Nat → Value) → Nat → Nat → World → Prop}
    (hsz : ops.size = N + 1) (hN : ops[N]? = some oN) (hgd : ∀ (i : Nat) (o : Oper), ops[i]? = some o → o.guard = none) (hds : ds.length = N) (hdd : ∀ i o, i < N → ops[i]? = some o → o.dst = ds[i]?)
    (hnd : ds.Nodup) (hlt : ∀ d ∈ ds, d < a0.tmps.size) (hNw : ∀ j, j < N → waits oN j = true) (hback : ∀ (i : Nat) (o : Oper), ops[i]? = some o → ∀ j, waits o j = true → j < i)
    (hloc : ∀ i o, i < N → ops[i]? = some o → ∀ (σ σ' : Nat → Value) lo hi w, (∀ j, (j = i ∨ waits o j = true) → σ j = σ' j) → S i σ lo hi w → S i σ' lo hi w)
    (hext : ∀ i, i < N → ∀ (σ : Nat → Value) lo hi w w', S i σ lo hi w → hi ≤ w.heap.size → Ext w w' → S i σ lo hi w')
    (hstep : ∀ i o, i < N → ops[i]? = some o → ∀ (σ : Nat → Value) (L H : Nat → Nat) w, Ext w0 w → (∀ j, waits o j = true → w0.heap.size ≤ L j ∧ L j ≤ H j ∧ H j ≤ w.heap.size ∧ S j σ (L j) (H j) w) →
      o.wp P (actS ds σ a0) w (fun a' w' => ∃ v, a' = (actS ds σ a0).put o.dst v ∧ Ext w w' ∧ S i (fun j => if j = i then v else σ j) w.heap.size w'.heap.size w') Qn)
    (hend : ∀ (σ : Nat → Value) (L H : Nat → Nat) w, Ext w0 w → (∀ j, j < N → w0.heap.size ≤ L j ∧ L j ≤ H j ∧ H j ≤ w.heap.size ∧ S j σ (L j) (H j) w) → (∀ j k, j < N → k < N → j ≠ k → H j ≤ L k ∨ H k ≤ L j) →
      oN.wp P (actS ds σ a0) w (fun a' w' => Q .normal a' w') Qn) :
    ∀ (n : Nat) (rem : List Nat) (listed : Array Bool) (L H : Nat → Nat) (a : Act) (w : World), rem.length = n → rem.Nodup → listed.size = ops.size → (∀ j, j ∈ rem ↔ j < N ∧ listed.getD j true = false) → listed.getD N true = false → Closed ops listed →
      FlowI ds S N a0 w0 L H listed a w → wpAny P .any ops Q (n + 1) listed a w := by
  have want : ∀ (i : Nat) (o : Oper), ops[i]? = some o → ∀ y, Region.wanted o y = true := fun i o hi y => by simp [Region.wanted, hgd i o hi]
  have wt : ∀ {o : Oper} {j : Nat}, waits o j = true → ∃ e ∈ o.after, Region.binds .any e = true ∧ e.on = j := fun {o j} h => by
    simp only [waits, Array.any_eq_true, Bool.and_eq_true, beq_iff_eq] at h
    obtain ⟨q, hq, hb, he⟩ := h
    exact ⟨_, Array.getElem_mem hq, hb, he⟩
  have wt' : ∀ {o : Oper} {e}, e ∈ o.after → Region.binds .any e = true → waits o e.on = true := fun {o e} he hb => by
    simp only [waits, Array.any_eq_true, Bool.and_eq_true, beq_iff_eq]
    obtain ⟨q, hq, rfl⟩ := Array.mem_iff_getElem.1 he
    exact ⟨q, hq, hb, rfl⟩
  intro n
  induction n with
  | zero =>
    intro rem listed L H a w hn hnr hls hmem hlN hcl hI
    obtain rfl := List.eq_nil_of_length_eq_zero hn
    have lst : ∀ j, j < N → listed.getD j true = true := fun j hj => by
      cases hl : listed.getD j true with
      | true => rfl
      | false => exact absurd ((hmem j).2 ⟨hj, hl⟩) (by simp)
    have hNr : N ∈ Region.ready .any ops listed := by
      refine mem_ready.2 ⟨hlN, oN, hN, fun e he hb => ?_⟩
      have hlt' := hback N oN hN e.on (wt' he hb)
      have h1 := lst e.on hlt'
      have : e.on < listed.size := by omega
      simp [this] at h1 ⊢; exact h1
    refine ⟨fun h0 => (by rw [h0] at hNr; cases hNr), fun j hj => ?_⟩
    have ejN : j = N := by
      obtain ⟨h0, oj, hoj, _⟩ := mem_ready.1 hj
      have hjs := (Array.getElem?_eq_some_iff.1 hoj).1
      rcases Nat.lt_or_ge j N with h' | h'
      · rw [lst j h'] at h0; cases h0
      · omega
    subst ejN
    unfold wpOp
    simp only [hN, want j oN hN, if_true]
    have ea : a = actS ds (fun i => a.tmps.getD (ds.getD i 0) undef) a0 := by
      have := putS_eta (T := a0.tmps) (T' := a.tmps) hnd hI.size hlt hI.off
      unfold actS
      rw [← this]
      cases a; cases a0
      simp only [Act.mk.injEq, true_and]
      exact hI.defers
    refine .inl ?_
    have h := hend (fun i => a.tmps.getD (ds.getD i 0) undef) L H w hI.ext (fun k hk => hI.spec k hk (lst k hk)) (fun k l hk hl hne => hI.apart k l hk hl hne (lst k hk) (lst l hl))
    rw [← ea] at h
    refine wp_Qn (fun a' w' h1 => ⟨?_, h1⟩) h
    rw [List.eq_nil_iff_forall_not_mem]
    intro k hk
    obtain ⟨h0, ok, hok, _⟩ := mem_ready.1 hk
    have hks := (Array.getElem?_eq_some_iff.1 hok).1
    by_cases e : j = k
    · subst e
      have : j < listed.size := by omega
      simp [this] at h0
    · rw [getD_set_ne true e, lst k (by omega)] at h0; cases h0
  | succ n ih =>
    intro rem listed L H a w hn hnr hls hmem hlN hcl hI
    have inrem : ∀ j, j ∈ Region.ready .any ops listed → j ∈ rem := fun j hj => by
      obtain ⟨h0, o, ho, hall⟩ := mem_ready.1 hj
      have hjs := (Array.getElem?_eq_some_iff.1 ho).1
      rcases Nat.lt_or_ge j N with h' | h'
      · exact (hmem j).2 ⟨h', h0⟩
      · exfalso
        obtain rfl : j = N := by omega
        cases rem with
        | nil => simp at hn
        | cons k rest =>
          obtain ⟨k1, k2⟩ := (hmem k).1 (by simp)
          rw [hN] at ho; obtain rfl := Option.some.inj ho
          obtain ⟨e, he, hb, hk⟩ := wt (hNw k k1)
          have h1 := hall e he hb
          rw [hk] at h1
          have : k < listed.size := by omega
          simp [this] at k2 h1
          rw [k2] at h1; cases h1
    refine ⟨fun h0 => ?_, fun i hi => ?_⟩
    · exfalso
      have key : ∀ m k, k ≤ m → k ∈ rem → False := by
        intro m
        induction m with
        | zero =>
          intro k hk hkm
          obtain ⟨k1, k2⟩ := (hmem k).1 hkm
          obtain ⟨o, ho⟩ : ∃ o, ops[k]? = some o := ⟨_, Array.getElem?_eq_getElem (by omega)⟩
          have : k ∈ Region.ready .any ops listed := mem_ready.2 ⟨k2, o, ho, fun e he hb => by have := hback k o ho e.on (wt' he hb); omega⟩
          rw [h0] at this; cases this
        | succ m ihm =>
          intro k hk hkm
          obtain ⟨k1, k2⟩ := (hmem k).1 hkm
          obtain ⟨o, ho⟩ : ∃ o, ops[k]? = some o := ⟨_, Array.getElem?_eq_getElem (by omega)⟩
          have : k ∈ Region.ready .any ops listed := mem_ready.2 ⟨k2, o, ho, fun e he hb => by
            have hlt' := hback k o ho e.on (wt' he hb)
            cases hl : listed.getD e.on true with
            | true =>
              have : e.on < listed.size := by omega
              simp [this] at hl ⊢; exact hl
            | false => exact (ihm e.on (by omega) ((hmem e.on).2 ⟨by omega, hl⟩)).elim⟩
          rw [h0] at this; cases this
      obtain ⟨k, hk⟩ : ∃ k, k ∈ rem := by
        cases rem with
        | nil => simp at hn
        | cons k rest => exact ⟨k, by simp⟩
      exact key k k (Nat.le_refl _) hk
    · have him := inrem i hi
      obtain ⟨hiN, hiu⟩ := (hmem i).1 him
      obtain ⟨_, o, ho, hall⟩ := mem_ready.1 hi
      have hal : ∀ {j}, j < listed.size → listed.getD j false = true → listed.getD j true = true := fun {j} hj h => by simp [hj] at h ⊢; exact h
      have hla : ∀ {j}, listed.getD j true = true → j < listed.size → listed.getD j false = true := fun {j} h hj => by simp [hj] at h ⊢; exact h
      have hdep : ∀ j, waits o j = true → j < N ∧ listed.getD j true = true := fun j hj => by
        have hlt' := hback i o ho j hj
        obtain ⟨e, he, hb, rfl⟩ := wt hj
        exact ⟨by omega, hal (by omega) (hall e he hb)⟩
      have ea : a = actS ds (fun i => a.tmps.getD (ds.getD i 0) undef) a0 := by
        have := putS_eta (T := a0.tmps) (T' := a.tmps) hnd hI.size hlt hI.off
        unfold actS
        rw [← this]
        cases a; cases a0
        simp only [Act.mk.injEq, true_and]
        exact hI.defers
      have h := hstep i o hiN ho (fun i => a.tmps.getD (ds.getD i 0) undef) L H w hI.ext (fun j hj => hI.spec j (hdep j hj).1 (hdep j hj).2)
      rw [← ea] at h
      unfold wpOp
      simp only [ho, want i o ho, if_true]
      refine .inl (wp_Qn (fun a' w' h1 => ?_) h)
      obtain ⟨v, rfl, hE, hS⟩ := h1
      obtain ⟨d, hd⟩ : ∃ d, ds[i]? = some d := ⟨_, List.getElem?_eq_getElem (by omega)⟩
      have hod : o.dst = some d := (hdd i o hiN ho).trans hd
      have hdm : d ∈ ds := List.mem_of_getElem? hd
      have hdl : d < a.tmps.size := by rw [hI.size]; exact hlt d hdm
      have hput : (a.put o.dst v).tmps = a.tmps.setIfInBounds d v := by rw [hod]; rfl
      have hne : ∀ {j}, j < N → j ≠ i → ds.getD j 0 ≠ d := fun {j} hj hji e => by
        have h1 : ds[j]? = some (ds.getD j 0) := by rw [List.getD_eq_getElem?_getD, List.getElem?_eq_getElem (by omega)]; rfl
        rw [e] at h1
        have hj' := (List.getElem?_eq_some_iff.1 h1)
        have hi' := (List.getElem?_eq_some_iff.1 hd)
        obtain ⟨hj1, hj2⟩ := hj'
        obtain ⟨hi1, hi2⟩ := hi'
        exact hji ((List.getElem_inj hnd).1 (hj2.trans hi2.symm))
      have hσ : ∀ j, j < N → j ≠ i → (a.put o.dst v).tmps.getD (ds.getD j 0) undef = a.tmps.getD (ds.getD j 0) undef := fun j hj hji => by
        rw [hput, Array.getD_eq_getD_getElem?, Array.getD_eq_getD_getElem?, Array.getElem?_setIfInBounds_ne (Ne.symm (hne hj hji))]
      have hσi : (a.put o.dst v).tmps.getD (ds.getD i 0) undef = v := by
        have e : ds.getD i 0 = d := by rw [List.getD_eq_getElem?_getD, hd]; rfl
        rw [hput, e, Array.getD_eq_getD_getElem?, arr_set hdl, if_pos rfl]; rfl
      have hlist : ∀ j, j < N → j ≠ i → (listed.setIfInBounds i true).getD j true = listed.getD j true := fun j _ hji => getD_set_ne true (Ne.symm hji)
      have hils : i < listed.size := by omega
      refine ih (rem.erase i) (listed.setIfInBounds i true) (fun j => if j = i then w.heap.size else L j) (fun j => if j = i then w'.heap.size else H j) (a.put o.dst v) w' ?_ (hnr.erase i) (by simp [hls]) ?_ ?_ (hcl.step hi) ?_
      · rw [List.length_erase_of_mem him, hn]; rfl
      · intro j
        rw [hnr.mem_erase_iff, hmem j]
        by_cases e : j = i
        · subst e
          simp [hils]
        · simp only [e, ne_eq, not_false_eq_true, true_and]
          constructor
          · rintro ⟨h1, h2⟩; exact ⟨h1, by rw [getD_set_ne true (Ne.symm e)]; exact h2⟩
          · rintro ⟨h1, h2⟩; exact ⟨h1, by rw [getD_set_ne true (Ne.symm e)] at h2; exact h2⟩
      · rw [getD_set_ne true (by omega)]; exact hlN
      · refine ⟨by rw [hod]; exact hI.defers, by rw [hput]; simpa using hI.size, fun s hs => ?_, hI.ext.trans hE, fun j hj hjl => ?_, fun j k hj hk hne' hjl hkl => ?_⟩
        · rw [hput, Array.getElem?_setIfInBounds_ne (fun e => hs (by rw [← e]; exact hdm))]; exact hI.off s hs
        · by_cases e : j = i
          · subst e
            simp only [if_true]
            refine ⟨hI.ext.size, hE.size, Nat.le_refl _, hloc j o hiN ho _ _ _ _ _ (fun k hk => ?_) hS⟩
            rcases hk with rfl | hk
            · simp only [if_true]; exact hσi.symm
            · have hlt' := hback j o ho k hk
              have hkj : k ≠ j := by omega
              simp only [hkj, if_false]
              exact (hσ k (by omega) hkj).symm
          · rw [hlist j hj e] at hjl
            obtain ⟨s1, s2, s3, s4⟩ := hI.spec j hj hjl
            simp only [e, if_false]
            obtain ⟨oj, hoj⟩ : ∃ oj, ops[j]? = some oj := ⟨_, Array.getElem?_eq_getElem (by omega)⟩
            refine ⟨s1, s2, Nat.le_trans s3 hE.size, hloc j oj hj hoj _ _ _ _ _ (fun k hk => ?_) (hext j hj _ _ _ _ _ s4 s3 hE)⟩
            have hkN : k < N ∧ k ≠ i := by
              rcases hk with rfl | hk
              · exact ⟨hj, e⟩
              · have hlt' := hback j oj hoj k hk
                refine ⟨by omega, fun e2 => ?_⟩
                subst e2
                obtain ⟨ee, he, hb, hek⟩ := wt hk
                have := hcl j oj hoj (hla hjl (by omega)) ee he hb
                rw [hek] at this
                have := hal hils this
                rw [hiu] at this; cases this
            exact (hσ k hkN.1 hkN.2).symm
        · by_cases ej : j = i
          · subst ej
            have hkj : k ≠ j := Ne.symm hne'
            rw [hlist k hk hkj] at hkl
            simp only [if_true, hkj, if_false]
            exact .inr (hI.spec k hk hkl).2.2.1
          · by_cases ek : k = i
            · subst ek
              rw [hlist j hj ej] at hjl
              simp only [if_true, ej, if_false]
              exact .inl (hI.spec j hj hjl).2.2.1
            · rw [hlist j hj ej] at hjl
              rw [hlist k hk ek] at hkl
              simp only [ej, ek, if_false]
              exact hI.apart j k hj hk hne' hjl hkl
end
end Go.Proofs.Ytablgohncilmfaa

namespace Go.Proofs.Ytablgohncilmfaa
open Go.RowKit
set_option linter.unusedSimpArgs false
set_option linter.unusedVariables false

/-- What the text of the region must be. -/
def flowOk (ops : List Oper) (ds : List Nat) : Bool :=
  (ops.length == ds.length + 1) && (ops.all fun o => o.guard.isNone) && ((ops.dropLast.map Oper.dst) == ds.map some) && decide ds.Nodup &&
  ((List.range ds.length).all fun j => (ops[ds.length]?).any fun o => waits o j) && ((List.range ops.length).all fun i => (ops[i]?).all fun o => o.after.all fun e => !Region.binds .any e || decide (e.on < i))
section
variable {P : Program} {Q : Exit → Act → World → Prop}
theorem wp_region_flow (ds : List Nat) (S : Nat → (Nat → Value) → Nat → Nat → World → Prop) {id : Nat} {a0 : Act} {w : World} {l : List Oper} (hm : P.follows .mixedOrders = true) (hok : flowOk l ds = true)
    (hlt : ∀ d ∈ ds, d < a0.tmps.size)
    (hloc : ∀ (i : Nat) (o : Oper), i < ds.length → l[i]? = some o → ∀ (σ σ' : Nat → Value) lo hi w, (∀ j, (j = i ∨ waits o j = true) → σ j = σ' j) → S i σ lo hi w → S i σ' lo hi w)
    (hext : ∀ (i : Nat), i < ds.length → ∀ (σ : Nat → Value) lo hi w w', S i σ lo hi w → hi ≤ w.heap.size → Ext w w' → S i σ lo hi w')
    (hstep : ∀ (i : Nat) (o : Oper), i < ds.length → l[i]? = some o → ∀ (σ : Nat → Value) (L H : Nat → Nat) w1, Ext w w1 → (∀ j, waits o j = true → w.heap.size ≤ L j ∧ L j ≤ H j ∧ H j ≤ w1.heap.size ∧ S j σ (L j) (H j) w1) →
      o.wp P (actS ds σ a0) w1 (fun a' w' => ∃ v, a' = (actS ds σ a0).put o.dst v ∧ Ext w1 w' ∧ S i (fun j => if j = i then v else σ j) w1.heap.size w'.heap.size w') Qn)
    (hend : ∀ (oN : Oper), l[ds.length]? = some oN → ∀ (σ : Nat → Value) (L H : Nat → Nat) w1, Ext w w1 → (∀ j, j < ds.length → w.heap.size ≤ L j ∧ L j ≤ H j ∧ H j ≤ w1.heap.size ∧ S j σ (L j) (H j) w1) → (∀ j k, j < ds.length → k < ds.length → j ≠ k → H j ≤ L k ∨ H k ≤ L j) →
      oN.wp P (actS ds σ a0) w1 (fun a' w' => Q .normal a' w') Qn) : (Code.region id l.toArray true).wp P Q a0 w := by
  simp only [flowOk, Bool.and_eq_true, beq_iff_eq, decide_eq_true_eq, List.all_eq_true, List.mem_range] at hok
  obtain ⟨⟨⟨⟨⟨h1, h2⟩, h3⟩, h4⟩, h5⟩, h6⟩ := hok
  obtain ⟨oN, hN⟩ : ∃ o, l[ds.length]? = some o := ⟨_, List.getElem?_eq_getElem (by omega)⟩
  have get : ∀ (i : Nat) (o : Oper), l.toArray[i]? = some o → l[i]? = some o := fun i o h => by simpa using h
  have hdr : w.drew.heap = w.heap := rfl
  refine wp_region_any hm ?_
  have hE0 : Ext w w.drew := (Ext.refl w).drew
  have key := flow_sound (P := P) (ops := l.toArray) (Q := Q) (N := ds.length) (oN := oN) (a0 := a0) (w0 := w.drew) (ds := ds) (S := S) (by simp [h1]) (by simpa using hN)
    (fun i o h => by have := h2 o (List.mem_of_getElem? (get i o h)); simpa using this) rfl
    (fun i o hi h => by
      have h' := get i o h
      have e : (l.dropLast.map Oper.dst)[i]? = some o.dst := by
        rw [List.getElem?_map, List.dropLast_eq_take, List.getElem?_take, if_pos (by omega), h']; rfl
      rw [h3, List.getElem?_map] at e
      cases hd : ds[i]? with
      | none => rw [hd] at e; cases e
      | some d => rw [hd] at e; simpa using e.symm)
    h4 hlt
    (fun j hj => by have := h5 j hj; rw [hN] at this; simpa using this)
    (fun i o h j hw => by
      have h' := get i o h
      have hi : i < l.length := (List.getElem?_eq_some_iff.1 h').1
      have := h6 i hi
      rw [h'] at this
      simp only [Option.all_some, Array.all_eq_true_iff_forall_mem, Bool.or_eq_true, Bool.not_eq_true', decide_eq_true_eq] at this
      simp only [waits, Array.any_eq_true, Bool.and_eq_true, beq_iff_eq] at hw
      obtain ⟨q, hq, hb, he⟩ := hw
      rcases this _ (Array.getElem_mem hq) with hh | hh
      · rw [hb] at hh; cases hh
      · omega)
    (fun i o hi h => hloc i o hi (get i o h)) hext
    (fun i o hi h σ L H w1 hE hd => hstep i o hi (get i o h) σ L H w1 (hE0.trans hE) hd)
    (fun σ L H w1 hE hd hap => hend oN hN σ L H w1 (hE0.trans hE) hd hap)
  have h := key ds.length (List.range ds.length) (Array.replicate l.toArray.size false) (fun _ => 0) (fun _ => 0) a0 w.drew (by simp) List.nodup_range (by simp) (fun j => by
      simp only [List.mem_range]
      constructor
      · intro hj; exact ⟨hj, by simp [show j < l.length by omega]⟩
      · exact fun hj => hj.1) (by simp [h1]) (closed_none _ _)
    ⟨rfl, rfl, fun s _ => rfl, Ext.refl _, fun j hj hl => by simp [show j < l.length by omega] at hl, fun j k hj _ _ hl _ => by simp [show j < l.length by omega] at hl⟩
  have e : l.toArray.size = ds.length + 1 := by simp [h1]
  rw [e] at h ⊢
  exact h
end

section
variable {α : Type} {cells : α → List Value} {dat : α → Dat} {sch : Sch} {k bytes : Nat} {z : Value} {TS T : TypeId}
end
end Go.Proofs.Ytablgohncilmfaa

namespace Go.Proofs.Ytablgohncilmfaa
open Go.RowKit
set_option linter.unusedSimpArgs false
set_option linter.unusedVariables false

/-- A slice of slices of one's own: the row, and each slice in it. T: the type of the elements; TS: that of their slices. -/
def RowSS {α : Type} (w : World) (TS T : TypeId) (k : Nat) (cells : α → List Value) (v : Value) (xss : List (List α)) (B : List Nat) : Prop :=
  ∃ (es : List SlV) (R : List Nat) (Bs : List (List Nat)), RowX w TS 1 SlV.cells v es R ∧ es.length = xss.length ∧ Bs.length = es.length ∧ B = R ++ Bs.flatten ∧ B.Nodup ∧
    ∀ (i : Nat) (e : SlV) (xs : List α), es[i]? = some e → xss[i]? = some xs → ∃ Bi, Bs[i]? = some Bi ∧ RowX w T k cells (.slice e.a e.n e.c) xs Bi
section
variable {α : Type} {cells : α → List Value} {dat : α → Dat} {sch : Sch} {k : Nat} {T TS : TypeId} {w w' : World} {v : Value} {xss : List (List α)} {B : List Nat}
theorem RowSS.nodup (h : RowSS w TS T k cells v xss B) : B.Nodup := by
  obtain ⟨es, R, Bs, _, _, _, _, h, _⟩ := h; exact h
theorem RowSS.lt (h : RowSS w TS T k cells v xss B) : ∀ b ∈ B, b < w.heap.size := by
  obtain ⟨es, R, Bs, h1, h2, h3, rfl, h5, h6⟩ := h
  intro b hb
  rcases List.mem_append.1 hb with hb | hb
  · exact h1.lt b hb
  · obtain ⟨Bi, hBi, hb⟩ := List.mem_flatten.1 hb
    obtain ⟨i, hi⟩ := List.getElem?_of_mem hBi
    have hlt := (List.getElem?_eq_some_iff.1 hi).1
    obtain ⟨Bj, e1, hr⟩ := h6 i (es[i]'(by omega)) (xss[i]'(by omega)) (List.getElem?_eq_getElem _) (List.getElem?_eq_getElem _)
    rw [hi] at e1
    obtain rfl := Option.some.inj e1
    exact hr.lt b hb
theorem RowSS.same (h : RowSS w TS T k cells v xss B) (hs : ∀ b ∈ B, w'.heap[b]? = w.heap[b]?) : RowSS w' TS T k cells v xss B := by
  obtain ⟨es, R, Bs, h1, h2, h3, rfl, h5, h6⟩ := h
  refine ⟨es, R, Bs, h1.same fun b hb => hs b (List.mem_append_left _ hb), h2, h3, rfl, h5, fun i e xs he hx => ?_⟩
  obtain ⟨Bi, g1, g2⟩ := h6 i e xs he hx
  exact ⟨Bi, g1, g2.same fun b hb => hs b (List.mem_append_right _ (List.mem_flatten.2 ⟨Bi, List.mem_of_getElem? g1, hb⟩))⟩
theorem RowSS.chg {B' : List Nat} (h : RowSS w TS T k cells v xss B) (hc : Chg B' w w') (hd : ∀ b ∈ B, b ∉ B') : RowSS w' TS T k cells v xss B :=
  h.same fun b hb => hc.block b (h.lt b hb) (hd b hb)
theorem RowSS.slice (h : RowSS w TS T k cells v xss B) : ∃ a c, v = .slice a xss.length c := by
  obtain ⟨es, R, Bs, h1, h2, _⟩ := h
  obtain ⟨a, c, e⟩ := h1.slice
  exact ⟨a, c, by rw [e, h2]⟩
theorem RowSS.max (h : RowSS w TS T k cells v xss B) : xss.length ≤ maxLen := by
  obtain ⟨es, R, Bs, h1, h2, _⟩ := h
  rw [← h2]; exact h1.max
theorem RowSS.own (hsz : sch.size = k) (hown : ∀ w x, Own w sch (cells x) (dat x) []) (h : RowSS w TS T k cells v xss B) : Own w (.sl (.sl sch)) [v] (.l (xss.map (ldat dat))) B := by
  have hm := h.max
  obtain ⟨es, R, Bs, h1, h2, h3, rfl, h5, h6⟩ := h
  unfold Own
  rcases h1 with ⟨rfl, rfl, a, rfl, _⟩ | ⟨g, cap, cur, rfl, rfl, hb, g1, g2, hs, hf⟩
  · have hx : xss = [] := List.eq_nil_of_length_eq_zero h2.symm
    have hB : Bs = [] := List.eq_nil_of_length_eq_zero (by simpa using h3)
    subst hx hB
    exact ⟨[], rfl, Nat.zero_le _, .inl ⟨rfl, rfl, a, 0, rfl⟩⟩
  · refine ⟨_, rfl, by simpa using hm, .inr ⟨g, cap, cur, TS, Bs, by rw [List.length_map, h2], by simp, by rw [List.length_map, h3, h2], hb, fun i x hx => ?_⟩⟩
    rw [List.getElem?_map] at hx
    cases hy : xss[i]? with
    | none => rw [hy] at hx; cases hx
    | some xs =>
      rw [hy] at hx
      obtain rfl := Option.some.inj hx
      have hi := (List.getElem?_eq_some_iff.1 hy).1
      have he : es[i]? = some (es[i]'(by omega)) := List.getElem?_eq_getElem _
      obtain ⟨Bi, g3, g4⟩ := h6 i _ xs he hy
      refine ⟨(es[i]'(by omega)).cells, Bi, g3, fun j u hu => ?_, ?_⟩
      · have hj : j = 0 := by
          have := (List.getElem?_eq_some_iff.1 hu).1
          simp [SlV.cells] at this; exact this
        subst hj
        have := hf i _ (by omega) he 0 u hu
        simpa [Sch.size] using this
      · exact g4.own hsz hown
end

/-- A cell's slices in memory of one's own. -/
structure CX (w : World) (c : Cll) (h : CllH) (B1 B3 B4 B5 : List Nat) : Prop where
  x1 : RowX w 43 5 Wlk.cells (.slice h.a1 c.wk.length h.c1) c.wk B1
  x3 : RowSS w 62 45 8 Pcl.cells (.slice h.a3 c.outs.length h.c3) c.outs B3
  x4 : RowX w 3 1 icells (.slice h.a4 c.next.length h.c4) c.next B4
  x5 : RowX w 3 1 icells (.slice h.a5 c.ins.length h.c5) c.ins B5
  nd : (B1 ++ (B3 ++ (B4 ++ B5))).Nodup
theorem CX.own {w : World} {c : Cll} {h : CllH} {B1 B3 B4 B5 : List Nat} {lo : Nat} (x : CX w c h B1 B3 B4 B5) (hlo : ∀ b ∈ B1 ++ (B3 ++ (B4 ++ B5)), lo ≤ b) : OwnR lo w.heap.size w sCll (cllCells c h) (cllDat c) := by
  refine ⟨Nat.le_refl _, B1 ++ (B3 ++ (B4 ++ (B5 ++ []))), by simpa using x.nd, fun b hb => ?_, ?_⟩
  · rw [List.append_nil] at hb
    refine ⟨hlo b hb, ?_⟩
    rcases List.mem_append.1 hb with hb | hb
    · exact x.x1.lt b hb
    · rcases List.mem_append.1 hb with hb | hb
      · exact x.x3.lt b hb
      · rcases List.mem_append.1 hb with hb | hb
        · exact x.x4.lt b hb
        · exact x.x5.lt b hb
  · unfold sCll cllCells cllDat
    refine own_st_mk ?_
    have o1 : Own w (.sl sWlk) [.slice h.a1 c.wk.length h.c1] (.l (c.wk.map Wlk.dat)) B1 := x.x1.own (k := 5) rfl (fun w x => own_Wlk_mk w x)
    have o3 : Own w (.sl (.sl sPcl)) [.slice h.a3 c.outs.length h.c3] (.l (c.outs.map (ldat Pcl.dat))) B3 := x.x3.own (k := 8) rfl (fun w x => own_Pcl_mk w x)
    have o4 : Own w (.sl .int) [.slice h.a4 c.next.length h.c4] (.l (c.next.map Dat.i)) B4 := x.x4.own (k := 1) rfl (fun w x => own_Int_mk w x)
    have o5 : Own w (.sl .int) [.slice h.a5 c.ins.length h.c5] (.l (c.ins.map Dat.i)) B5 := x.x5.own (k := 1) rfl (fun w x => own_Int_mk w x)
    have i : ∀ n : Int, Own w .int [.int .i64 n] (.i n) [] := fun n => by unfold Own; exact ⟨⟨_, rfl, rfl⟩, rfl⟩
    unfold OwnL
    refine ⟨[_], _, _, _, [], _, rfl, rfl, rfl, i _, ?_⟩
    unfold OwnL
    refine ⟨[_], _, _, _, B1, _, rfl, rfl, rfl, o1, ?_⟩
    unfold OwnL
    refine ⟨[_], _, _, _, [], _, rfl, rfl, rfl, i _, ?_⟩
    unfold OwnL
    refine ⟨[_], _, _, _, B3, _, rfl, rfl, rfl, o3, ?_⟩
    unfold OwnL
    refine ⟨[_], _, _, _, B4, _, rfl, rfl, rfl, o4, ?_⟩
    unfold OwnL
    refine ⟨[_], _, _, _, B5, _, rfl, rfl, rfl, o5, ?_⟩
    unfold OwnL
    exact ⟨rfl, rfl, rfl⟩
theorem CX.same {w w' : World} {c : Cll} {h : CllH} {B1 B3 B4 B5 : List Nat} (x : CX w c h B1 B3 B4 B5) (hs : ∀ b ∈ B1 ++ (B3 ++ (B4 ++ B5)), w'.heap[b]? = w.heap[b]?) : CX w' c h B1 B3 B4 B5 :=
  ⟨x.x1.same fun b hb => hs b (by simp [hb]), x.x3.same fun b hb => hs b (by simp [hb]), x.x4.same fun b hb => hs b (by simp [hb]), x.x5.same fun b hb => hs b (by simp [hb]), x.nd⟩
theorem CX.lt {w : World} {c : Cll} {h : CllH} {B1 B3 B4 B5 : List Nat} (x : CX w c h B1 B3 B4 B5) : ∀ b ∈ B1 ++ (B3 ++ (B4 ++ B5)), b < w.heap.size := fun b hb => by
  rcases List.mem_append.1 hb with hb | hb
  · exact x.x1.lt b hb
  · rcases List.mem_append.1 hb with hb | hb
    · exact x.x3.lt b hb
    · rcases List.mem_append.1 hb with hb | hb
      · exact x.x4.lt b hb
      · exact x.x5.lt b hb
theorem CX.chg {w w' : World} {c : Cll} {h : CllH} {B1 B3 B4 B5 B' : List Nat} (x : CX w c h B1 B3 B4 B5) (hc : Chg B' w w') (hd : ∀ b ∈ B1 ++ (B3 ++ (B4 ++ B5)), b ∉ B') : CX w' c h B1 B3 B4 B5 :=
  x.same fun b hb => hc.block b (x.lt b hb) (hd b hb)
theorem CX.of {w w' : World} {c : Cll} {h : CllH} {B1 B3 B4 B5 : List Nat} (x : CX w c h B1 B3 B4 B5) (hE : Ext w w') : CX w' c h B1 B3 B4 B5 := x.same fun b hb => hE.block (x.lt b hb)
/-- A function that answers a cell in new memory. -/
def MadeCX (w : World) (c : Cll) (e : Ending) (w' : World) : Prop :=
  ∃ (h : CllH) (B1 B3 B4 B5 : List Nat), e = .returned (.agg #[.int .i64 c.cell, .slice h.a1 c.wk.length h.c1, .int .i64 c.ground, .slice h.a3 c.outs.length h.c3, .slice h.a4 c.next.length h.c4, .slice h.a5 c.ins.length h.c5]) ∧ Ext w w' ∧ CX w' c h B1 B3 B4 B5 ∧ ∀ b ∈ B1 ++ (B3 ++ (B4 ++ B5)), w.heap.size ≤ b
end Go.Proofs.Ytablgohncilmfaa

namespace Go.Proofs.Ytablgohncilmfaa
open Go.RowKit

def Gst.mk' (q : Int) : Gst := ⟨q, q + 1, ⟨q + 1 + 1, q + 1 + 1 + 1, q + 1 + 1 + 1 + 1, q + 1 + 1 + 1 + 1 + 1, q + 1 + 1 + 1 + 1 + 1 + 1⟩⟩
end Go.Proofs.Ytablgohncilmfaa

namespace Go.Proofs.Ytablgohncilmfaa
open Go.RowKit
set_option linter.unusedSimpArgs false
set_option linter.unusedVariables false

/-- A copy in new memory: a row of one's own. -/
def MadeX {α : Type} (w : World) (T : TypeId) (k : Nat) (cells : α → List Value) (xs : List α) (e : Ending) (w' : World) : Prop :=
  ∃ a c B, e = .returned (.slice a xs.length c) ∧ Ext w w' ∧ RowX w' T k cells (.slice a xs.length c) xs B ∧ ∀ b ∈ B, w.heap.size ≤ b
set_option maxHeartbeats 1000000 in
theorem iCloneWlk_x (xs : List Wlk) (a : Option Addr) (n c : Nat) (w : World) (hx : Re w (.sl sWlk) [.slice a n c] (.l (xs.map Wlk.dat))) (hn : n ≤ 2097152) :
    Calls Try.prog 100 #[.slice a n c] w (MadeX w 43 5 Wlk.cells xs) := by
  have HX := hid hx
  have hl := hx.len
  clear hx
  go_enter Try.func100, Try.ntmps100
  go_wp2_with (refine wpList_cloneX (cells := Wlk.cells) (k := 5) (bytes := 40) (z := .agg #[.int .i64 0, .int .i64 0, .int .i64 0, .int .i64 0, .int .i64 0]) Try.underlying34 (by kernel_rfl) rfl (by decide) (by decide) rfl (fun _ => rfl) (fun _ _ _ _ h => rd_Wlk h) (fun _ _ h => Wlk.dat_inj h) (fun x u hu => by simp only [Wlk.cells, List.mem_cons, List.not_mem_nil, or_false] at hu; rcases hu with rfl | rfl | rfl | rfl | rfl <;> rfl) (fun w x => own_Wlk_mk w x) rfl _ _ rfl rfl (.inl rfl) xs rfl (HX.out.of zq0) hn ?_; intro a' c' t' B' hr hB; have HR := hid hr; have HB := hid hB; clear hr hB)
  go_ret
  subst hl
  exact ⟨a', c', B', rfl, zq0, HR.out, HB.out⟩
set_option maxHeartbeats 1000000 in
theorem iClonePcl_x (xs : List Pcl) (a : Option Addr) (n c : Nat) (w : World) (hx : Re w (.sl sPcl) [.slice a n c] (.l (xs.map Pcl.dat))) (hn : n ≤ 2097152) :
    Calls Try.prog 101 #[.slice a n c] w (MadeX w 45 8 Pcl.cells xs) := by
  have HX := hid hx
  have hl := hx.len
  clear hx
  go_enter Try.func101, Try.ntmps101
  go_wp2_with (refine wpList_cloneX (cells := Pcl.cells) (k := 8) (bytes := 64) (z := .agg #[.int .i64 0, .int .i64 0, .int .i64 0, .int .i64 0, .int .i64 0, .int .i64 0, .int .i64 0, .int .i64 0]) Try.underlying62 (by kernel_rfl) rfl (by decide) (by decide) rfl (fun _ => rfl) (fun _ _ _ _ h => rd_Pcl h) (fun _ _ h => Pcl.dat_inj h) (fun x u hu => by simp only [Pcl.cells, List.mem_cons, List.not_mem_nil, or_false] at hu; rcases hu with rfl | rfl | rfl | rfl | rfl | rfl | rfl | rfl <;> rfl) (fun w x => own_Pcl_mk w x) rfl _ _ rfl rfl (.inl rfl) xs rfl (HX.out.of zq0) hn ?_; intro a' c' t' B' hr hB; have HR := hid hr; have HB := hid hB; clear hr hB)
  go_ret
  subst hl
  exact ⟨a', c', B', rfl, zq0, HR.out, HB.out⟩
end Go.Proofs.Ytablgohncilmfaa

namespace Go.Proofs.Ytablgohncilmfaa

/-- All elements, with their places, pass. -/
def allI {α : Type} (p : Nat → α → Bool) : Nat → List α → Bool
  | _, [] => true
  | i, x :: r => p i x && allI p (i + 1) r
theorem allI_snoc {α : Type} (p : Nat → α → Bool) : ∀ (i : Nat) (l : List α) (x : α), allI p i (l ++ [x]) = (allI p i l && p (i + l.length) x)
  | i, [], x => by simp [allI]
  | i, y :: l, x => by simp [allI, allI_snoc p (i + 1) l x, Bool.and_assoc, Nat.add_comm l.length 1, ← Nat.add_assoc]
theorem take_snoc_of {α : Type} {xs : List α} {k : Nat} {x : α} (h : xs[k]? = some x) : xs.take (k + 1) = xs.take k ++ [x] := by
  rw [List.take_add_one, h]; rfl
theorem lt_of_get {α : Type} {xs : List α} {k : Nat} {x : α} (h : xs[k]? = some x) : k < xs.length := (List.getElem?_eq_some_iff.1 h).1
theorem allI_step {α : Type} {p : Nat → α → Bool} {xs : List α} {k : Nat} {x : α} (h : xs[k]? = some x) (h1 : allI p 0 (xs.take k) = true) (h2 : p k x = true) : allI p 0 (xs.take (k + 1)) = true := by
  have := lt_of_get h
  rw [take_snoc_of h, allI_snoc, h1]
  simp [List.length_take, Nat.min_eq_left (Nat.le_of_lt this), h2]
theorem allI_append {α : Type} (p : Nat → α → Bool) : ∀ (i : Nat) (l r : List α), allI p i (l ++ r) = (allI p i l && allI p (i + l.length) r)
  | i, [], r => by simp [allI]
  | i, y :: l, r => by simp [allI, allI_append p (i + 1) l r, Bool.and_assoc, Nat.add_comm l.length 1, ← Nat.add_assoc]
theorem allI_fail {α : Type} {p : Nat → α → Bool} {xs : List α} {k : Nat} {x : α} (h : xs[k]? = some x) (h2 : p k x = false) : allI p 0 xs = false := by
  have hk := lt_of_get h
  rw [← List.take_append_drop (k + 1) xs, allI_append, take_snoc_of h, allI_snoc]
  simp [List.length_take, Nat.min_eq_left (Nat.le_of_lt hk), h2]
theorem allI_all {α : Type} {p : Nat → α → Bool} {xs : List α} {k : Nat} (hk : xs.length ≤ k) (h1 : allI p 0 (xs.take k) = true) : allI p 0 xs = true := by
  rw [List.take_of_length_le hk] at h1; exact h1
theorem allI_iff {α : Type} {p : Nat → α → Bool} : ∀ {i : Nat} {xs : List α}, allI p i xs = true ↔ ∀ k x, xs[k]? = some x → p (i + k) x = true
  | i, [] => by simp [allI]
  | i, y :: l => by
    simp only [allI, Bool.and_eq_true, allI_iff (i := i + 1) (xs := l)]
    constructor
    · rintro ⟨h0, h1⟩ k x hx
      cases k with
      | zero => simp at hx; subst hx; exact h0
      | succ k => have := h1 k x (by simpa using hx); rwa [show i + (k + 1) = i + 1 + k by omega]
    · intro h
      refine ⟨h 0 y rfl, fun k x hx => ?_⟩
      have := h (k + 1) x (by simpa using hx)
      rwa [show i + (k + 1) = i + 1 + k by omega] at this
end Go.Proofs.Ytablgohncilmfaa

namespace Go.Proofs.Ytablgohncilmfaa
open Go.RowKit

def ranged (x : Wlk) : Bool := inB x.id 1 9 && inB x.coins 0 99 && inB x.seq 0 900 && inB x.last 0 9
def wlkOk (m : Mp) (x : Wlk) : Bool := (plcCell m x.at_ != -1) && ranged x
def ordOk (o : Ord) : Bool :=
  inB o.who 1 9 && inB o.seq 1 900 &&
    (if o.kind = 1 then inB o.to_ 0 1 && (o.n == 0)
     else if o.kind = 2 then inB o.to_ 1 9 && (o.to_ != o.who) && inB o.n 1 9
     else if o.kind = 3 ∨ o.kind = 4 then (o.to_ == 0) && inB o.n 1 9
     else if o.kind = 5 then inB o.to_ 0 1 && inB o.n 1 9
     else if o.kind = 6 then (o.to_ == 0) && (o.n == 0)
     else false)

theorem isWalker_c (n : Int) (w : World) : Calls Try.prog 108 #[.int .i64 n] w fun e w' => e = .returned (.bool (inB n 1 9)) ∧ w = w' := by
  go_enter Try.func108, Try.ntmps108
  go_wp2_with (first | (go_at_call 77; refine (in_c _ _ _ _).mono ?_; rintro e w' ⟨rfl, rfl⟩))
  go_ret
  exact ⟨rfl, rfl⟩

theorem ranged_c (x : Wlk) (w : World) : Calls Try.prog 127 #[.agg #[.int .i64 x.id, .int .i64 x.at_, .int .i64 x.coins, .int .i64 x.seq, .int .i64 x.last]] w fun e w' => e = .returned (.bool (ranged x)) ∧ Ext w w' := by
  go_enter Try.func127, Try.ntmps127
  go_wp2_with (first | (go_at_call 77; refine (in_c _ _ _ _).mono ?_; rintro e w' ⟨rfl, rfl⟩) | (go_at_call 108; refine (isWalker_c _ _).mono ?_; rintro e w' ⟨rfl, rfl⟩))
  all_goals go_ret
  all_goals refine ⟨ret_bool ?_, zq0⟩
  all_goals simp_all [ranged]

theorem iWlkOk_c (m : Mp) (x : Wlk) (w : World) : Calls Try.prog 98 #[.agg #[.int .i64 m.c, .int .i64 m.w], .agg #[.int .i64 x.id, .int .i64 x.at_, .int .i64 x.coins, .int .i64 x.seq, .int .i64 x.last]] w fun e w' => e = .returned (.bool (wlkOk m x)) ∧ Ext w w' := by
  go_enter Try.func98, Try.ntmps98
  go_wp2_with (first | (go_at_call 78; refine (iPlcCell_c _ _ _).mono ?_; rintro e w' ⟨rfl, t, rfl⟩) | (go_at_call 127; refine (ranged_c _ _).mono ?_; rintro e w' ⟨rfl, t, rfl⟩))
  all_goals go_ret
  all_goals refine ⟨ret_bool ?_, zq0⟩
  all_goals simp_all [wlkOk]

theorem sWlkOk_c (m : Mp) (x : Wlk) (w : World) : Calls Try.prog 93 #[.agg #[.int .i64 m.c, .int .i64 m.w], .agg #[.int .i64 x.id, .int .i64 x.at_, .int .i64 x.coins, .int .i64 x.seq, .int .i64 x.last]] w fun e w' => e = .returned (.bool (wlkOk m x)) ∧ Ext w w' := by
  go_enter Try.func93, Try.ntmps93
  go_wp2_with (first | (go_at_call 82; refine (l1In_c _ _ _ _).mono ?_; rintro e w' ⟨rfl, rfl⟩) | (go_at_call 84; refine (sPlcCell_c _ _ _).mono ?_; rintro e w' ⟨rfl, t, rfl⟩))
  all_goals go_ret
  all_goals refine ⟨ret_bool ?_, zq0⟩
  all_goals simp_all [wlkOk, ranged]

end Go.Proofs.Ytablgohncilmfaa

namespace Go.Proofs.Ytablgohncilmfaa
open Go.RowKit

/-- The element stands behind the one ahead of it. -/
def ordAt {α : Type} (key : α → Int) (xs : List α) (i : Nat) (x : α) : Bool := (i == 0) || decide (((xs[i - 1]?).map key).getD 0 < key x)
theorem ordAt_succ {α : Type} {key : α → Int} {xs : List α} {j : Nat} {y : α} (h : xs[j]? = some y) (x : α) : ordAt key xs (j + 1) x = decide (key y < key x) := by
  simp [ordAt, h]
theorem ordAt_pos {α : Type} {key : α → Int} {xs : List α} {k j : Nat} {y : α} (e : k = j + 1) (h : xs[j]? = some y) (x : α) : ordAt key xs k x = decide (key y < key x) := by subst e; exact ordAt_succ h x
theorem ordAt_nul {α : Type} {key : α → Int} {xs : List α} {k : Nat} (e : k = 0) (x : α) : ordAt key xs k x = true := by subst e; rfl
def wlkAt (m : Mp) (xs : List Wlk) (i : Nat) (x : Wlk) : Bool := wlkOk m x && ordAt Wlk.id xs i x
def wlkAll (m : Mp) (xs : List Wlk) : Bool := allI (wlkAt m xs) 0 xs

set_option maxRecDepth 100000 in
set_option maxHeartbeats 2000000 in
theorem iWlkListOk_c (m : Mp) (xs : List Wlk) (a : Option Addr) (n c : Nat) (w : World) (hx : Re w (.sl sWlk) [.slice a n c] (.l (xs.map Wlk.dat))) (hn : n ≤ 1048576) :
    Calls Try.prog 75 #[.agg #[.int .i64 m.c, .int .i64 m.w], .slice a n c] w fun e w' => e = .returned (.bool (wlkAll m xs && plcOk m)) ∧ Ext w w' := by
  have HX := hid hx
  clear hx
  go_enter Try.func75, Try.ntmps75
  try go_wp2_with (first
      | fail
      | (
        with_reducible refine wp_region_mix (by kernel_rfl) (by decide +kernel) ?_
        repeat (first
          | (refine mix_pure rfl ?_; (first | go_big_quiet_skip | (go_big_quiet_want; go_big_quiet_op; go_big_quiet_on)); refine wpQuiet_nil ?_)
          | (refine mix_skip (by rfl) ?_; (try simp only [Act.put, List.setIfInBounds_toArray, List.set_cons_zero, List.set_cons_succ]))
          | (refine mix_mk rfl (by rfl) (fun K hK => ?_); (first | (go_simp; first | skip)); (show K _ _); refine hK _ _ (show Ext _ _ from zq0) ?_; clear hK K; (try simp only [Act.put, List.setIfInBounds_toArray, List.set_cons_zero, List.set_cons_succ])))
        refine mix_nil ?_)
      | (
        with_reducible refine wp_region_ext (by kernel_rfl) (by kernel_rfl) ?_
        repeat (first | go_big_quiet_skip | (go_big_quiet_want; go_big_quiet_op; first | go_big_quiet_on | (apply Exists.intro; refine ⟨fun _ => ?_, ?_⟩; (fail); (try rw [h1]); (try rw [h2]); (try rw [h3]); (try rw [h4]); (try rw [p1]); (try rw [p2]); (try rw [p3]); (try rw [p4]); (try rw [r1]); (try rw [r2]); (try rw [r3]); (try rw [r4]); (try rw [r5]); (try rw [r6]); (try rw [q3]); (try rw [q4]); (try rw [hp]); (try rw [hq]); go_big_quiet_on)))
        refine wpQuiet_nil ?_
        rintro _ ⟨tq, rfl⟩))
  go_loopw [9] (fun i wr => ∃ k : Nat, k ≤ n ∧ i = .int .i64 k ∧ allI (wlkAt m xs) 0 (xs.take k) = true ∧ Ext (w.alloc (Obj.cells #[.int .i64 m.c, .int .i64 m.w] 40)) wr) (fun i _ => n - (intOf i).toNat)
  case atStart => exact ⟨0, Nat.zero_le _, rfl, rfl, zq0⟩
  case round =>
    obtain ⟨k, hk, rfl, hal, t', rfl⟩ := hrel
    have HA := hid hal
    clear hal
    by_cases hlt : k < n
    · obtain ⟨x, b, o, hxk, rfl, hb, f0, f1, f2, f3, f4⟩ := at_Wlk HX.out hlt
      have HK := hid hxk
      clear hxk
      have hb1 : b ≤ w.heap.size := Nat.le_of_lt hb
      cases h1 : wlkOk m x with
      | false =>
        have E := hid (show wlkAll m xs = false from allI_fail (p := wlkAt m xs) HK.out (by simp [wlkAt, h1]))
        try go_wp2_with (first
            | (go_at_call 98; refine (iWlkOk_c _ _ _).mono ?_; rintro e w' ⟨rfl, t, rfl⟩) | (go_at_call 74; refine (iPlcOk_c _ _).mono ?_; rintro e w' ⟨rfl, t, rfl⟩)
            | (
              with_reducible refine wp_region_mix (by kernel_rfl) (by decide +kernel) ?_
              repeat (first
                | (refine mix_pure rfl ?_; (first | go_big_quiet_skip | (go_big_quiet_want; go_big_quiet_op; go_big_quiet_on)); refine wpQuiet_nil ?_)
                | (refine mix_skip (by rfl) ?_; (try simp only [Act.put, List.setIfInBounds_toArray, List.set_cons_zero, List.set_cons_succ]))
                | (refine mix_mk rfl (by rfl) (fun K hK => ?_); (first | (go_simp; first | (go_at_call 98; refine (iWlkOk_c _ _ _).mono ?_; rintro e w' ⟨rfl, t, rfl⟩) | (go_at_call 74; refine (iPlcOk_c _ _).mono ?_; rintro e w' ⟨rfl, t, rfl⟩) | skip)); (show K _ _); refine hK _ _ (show Ext _ _ from zq0) ?_; clear hK K; (try simp only [Act.put, List.setIfInBounds_toArray, List.set_cons_zero, List.set_cons_succ])))
              refine mix_nil ?_)
            | (
              with_reducible refine wp_region_ext (by kernel_rfl) (by kernel_rfl) ?_
              repeat (first | go_big_quiet_skip | (go_big_quiet_want; go_big_quiet_op; first | go_big_quiet_on | (apply Exists.intro; refine ⟨fun _ => ?_, ?_⟩; ((first | (go_at_call 98; first | exact quiet_call (iWlkOk_c _ _ _) | exact quiet_call2 (iWlkOk_c _ _ _)) | (go_at_call 74; first | exact quiet_call (iPlcOk_c _ _) | exact quiet_call2 (iPlcOk_c _ _)))); (try rw [h1]); (try rw [h2]); (try rw [h3]); (try rw [h4]); (try rw [p1]); (try rw [p2]); (try rw [p3]); (try rw [p4]); (try rw [r1]); (try rw [r2]); (try rw [r3]); (try rw [r4]); (try rw [r5]); (try rw [r6]); (try rw [q3]); (try rw [q4]); (try rw [hp]); (try rw [hq]); go_big_quiet_on)))
              refine wpQuiet_nil ?_
              rintro _ ⟨tq, rfl⟩))
        go_ret
        exact ⟨ret_bool (by rw [E.out]; try rfl), zq0⟩
      | true =>
        rcases Nat.eq_zero_or_pos k with hk0 | hk0
        · have HZ := hid hk0
          have hz : ¬ (0 : Int) < (k : Int) := by omega
          have hz1 : ¬ 0 < k := by omega
          clear hk0
          have HB := hid (allI_step (p := wlkAt m xs) HK.out HA.out (by simp [wlkAt, h1, ordAt_nul HZ.out]))
          try go_wp2_with (first
              | (go_at_call 98; refine (iWlkOk_c _ _ _).mono ?_; rintro e w' ⟨rfl, t, rfl⟩) | (go_at_call 74; refine (iPlcOk_c _ _).mono ?_; rintro e w' ⟨rfl, t, rfl⟩)
              | (
                with_reducible refine wp_region_mix (by kernel_rfl) (by decide +kernel) ?_
                repeat (first
                  | (refine mix_pure rfl ?_; (first | go_big_quiet_skip | (go_big_quiet_want; go_big_quiet_op; go_big_quiet_on)); refine wpQuiet_nil ?_)
                  | (refine mix_skip (by rfl) ?_; (try simp only [Act.put, List.setIfInBounds_toArray, List.set_cons_zero, List.set_cons_succ]))
                  | (refine mix_mk rfl (by rfl) (fun K hK => ?_); (first | (go_simp; first | (go_at_call 98; refine (iWlkOk_c _ _ _).mono ?_; rintro e w' ⟨rfl, t, rfl⟩) | (go_at_call 74; refine (iPlcOk_c _ _).mono ?_; rintro e w' ⟨rfl, t, rfl⟩) | skip)); (show K _ _); refine hK _ _ (show Ext _ _ from zq0) ?_; clear hK K; (try simp only [Act.put, List.setIfInBounds_toArray, List.set_cons_zero, List.set_cons_succ])))
                refine mix_nil ?_)
              | (
                with_reducible refine wp_region_ext (by kernel_rfl) (by kernel_rfl) ?_
                repeat (first | go_big_quiet_skip | (go_big_quiet_want; go_big_quiet_op; first | go_big_quiet_on | (apply Exists.intro; refine ⟨fun _ => ?_, ?_⟩; ((first | (go_at_call 98; first | exact quiet_call (iWlkOk_c _ _ _) | exact quiet_call2 (iWlkOk_c _ _ _)) | (go_at_call 74; first | exact quiet_call (iPlcOk_c _ _) | exact quiet_call2 (iPlcOk_c _ _)))); (try rw [h1]); (try rw [h2]); (try rw [h3]); (try rw [h4]); (try rw [p1]); (try rw [p2]); (try rw [p3]); (try rw [p4]); (try rw [r1]); (try rw [r2]); (try rw [r3]); (try rw [r4]); (try rw [r5]); (try rw [r6]); (try rw [q3]); (try rw [q4]); (try rw [hp]); (try rw [hq]); go_big_quiet_on)))
                refine wpQuiet_nil ?_
                rintro _ ⟨tq, rfl⟩))
          go_roundw
          case rel => exact ⟨k + 1, by omega, by go_num, HB.out, zq0⟩
          case measure => simp [intOf]; omega
        · obtain ⟨j, hkj⟩ : ∃ j, k = j + 1 := ⟨k - 1, by omega⟩
          have HJ := hid hkj
          have hpos : (0 : Int) < (k : Int) := by omega
          have hpos1 : 0 < k := by omega
          have hpre : (k : Int) - 1 = (j : Int) := by omega
          clear hk0 hkj
          obtain ⟨y, b2, o2, hyk, hab, hb2, g0, g1, g2, g3, g4⟩ := at_Wlk HX.out (show j < n by have := HJ.out; omega)
          simp only [Option.some.injEq, Addr.mk.injEq, and_true] at hab
          obtain ⟨rfl, rfl⟩ := hab
          have HY := hid hyk
          clear hyk
          by_cases hq : y.id < x.id
          · have HB := hid (allI_step (p := wlkAt m xs) HK.out HA.out (by simp [wlkAt, h1, ordAt_pos HJ.out HY.out, hq]))
            try go_wp2_with (first
                | (go_at_call 98; refine (iWlkOk_c _ _ _).mono ?_; rintro e w' ⟨rfl, t, rfl⟩) | (go_at_call 74; refine (iPlcOk_c _ _).mono ?_; rintro e w' ⟨rfl, t, rfl⟩)
                | (
                  with_reducible refine wp_region_mix (by kernel_rfl) (by decide +kernel) ?_
                  repeat (first
                    | (refine mix_pure rfl ?_; (first | go_big_quiet_skip | (go_big_quiet_want; go_big_quiet_op; go_big_quiet_on)); refine wpQuiet_nil ?_)
                    | (refine mix_skip (by rfl) ?_; (try simp only [Act.put, List.setIfInBounds_toArray, List.set_cons_zero, List.set_cons_succ]))
                    | (refine mix_mk rfl (by rfl) (fun K hK => ?_); (first | (go_simp; first | (go_at_call 98; refine (iWlkOk_c _ _ _).mono ?_; rintro e w' ⟨rfl, t, rfl⟩) | (go_at_call 74; refine (iPlcOk_c _ _).mono ?_; rintro e w' ⟨rfl, t, rfl⟩) | skip)); (show K _ _); refine hK _ _ (show Ext _ _ from zq0) ?_; clear hK K; (try simp only [Act.put, List.setIfInBounds_toArray, List.set_cons_zero, List.set_cons_succ])))
                  refine mix_nil ?_)
                | (
                  with_reducible refine wp_region_ext (by kernel_rfl) (by kernel_rfl) ?_
                  repeat (first | go_big_quiet_skip | (go_big_quiet_want; go_big_quiet_op; first | go_big_quiet_on | (apply Exists.intro; refine ⟨fun _ => ?_, ?_⟩; ((first | (go_at_call 98; first | exact quiet_call (iWlkOk_c _ _ _) | exact quiet_call2 (iWlkOk_c _ _ _)) | (go_at_call 74; first | exact quiet_call (iPlcOk_c _ _) | exact quiet_call2 (iPlcOk_c _ _)))); (try rw [h1]); (try rw [h2]); (try rw [h3]); (try rw [h4]); (try rw [p1]); (try rw [p2]); (try rw [p3]); (try rw [p4]); (try rw [r1]); (try rw [r2]); (try rw [r3]); (try rw [r4]); (try rw [r5]); (try rw [r6]); (try rw [q3]); (try rw [q4]); (try rw [hp]); (try rw [hq]); go_big_quiet_on)))
                  refine wpQuiet_nil ?_
                  rintro _ ⟨tq, rfl⟩))
            go_roundw
            case rel => exact ⟨k + 1, by omega, by go_num, HB.out, zq0⟩
            case measure => simp [intOf]; omega
          · have hq' : x.id ≤ y.id := by omega
            have E := hid (show wlkAll m xs = false from allI_fail (p := wlkAt m xs) HK.out (by simp [wlkAt, ordAt_pos HJ.out HY.out, hq']))
            try go_wp2_with (first
                | (go_at_call 98; refine (iWlkOk_c _ _ _).mono ?_; rintro e w' ⟨rfl, t, rfl⟩) | (go_at_call 74; refine (iPlcOk_c _ _).mono ?_; rintro e w' ⟨rfl, t, rfl⟩)
                | (
                  with_reducible refine wp_region_mix (by kernel_rfl) (by decide +kernel) ?_
                  repeat (first
                    | (refine mix_pure rfl ?_; (first | go_big_quiet_skip | (go_big_quiet_want; go_big_quiet_op; go_big_quiet_on)); refine wpQuiet_nil ?_)
                    | (refine mix_skip (by rfl) ?_; (try simp only [Act.put, List.setIfInBounds_toArray, List.set_cons_zero, List.set_cons_succ]))
                    | (refine mix_mk rfl (by rfl) (fun K hK => ?_); (first | (go_simp; first | (go_at_call 98; refine (iWlkOk_c _ _ _).mono ?_; rintro e w' ⟨rfl, t, rfl⟩) | (go_at_call 74; refine (iPlcOk_c _ _).mono ?_; rintro e w' ⟨rfl, t, rfl⟩) | skip)); (show K _ _); refine hK _ _ (show Ext _ _ from zq0) ?_; clear hK K; (try simp only [Act.put, List.setIfInBounds_toArray, List.set_cons_zero, List.set_cons_succ])))
                  refine mix_nil ?_)
                | (
                  with_reducible refine wp_region_ext (by kernel_rfl) (by kernel_rfl) ?_
                  repeat (first | go_big_quiet_skip | (go_big_quiet_want; go_big_quiet_op; first | go_big_quiet_on | (apply Exists.intro; refine ⟨fun _ => ?_, ?_⟩; ((first | (go_at_call 98; first | exact quiet_call (iWlkOk_c _ _ _) | exact quiet_call2 (iWlkOk_c _ _ _)) | (go_at_call 74; first | exact quiet_call (iPlcOk_c _ _) | exact quiet_call2 (iPlcOk_c _ _)))); (try rw [h1]); (try rw [h2]); (try rw [h3]); (try rw [h4]); (try rw [p1]); (try rw [p2]); (try rw [p3]); (try rw [p4]); (try rw [r1]); (try rw [r2]); (try rw [r3]); (try rw [r4]); (try rw [r5]); (try rw [r6]); (try rw [q3]); (try rw [q4]); (try rw [hp]); (try rw [hq]); go_big_quiet_on)))
                  refine wpQuiet_nil ?_
                  rintro _ ⟨tq, rfl⟩))
            go_ret
            exact ⟨ret_bool (by rw [E.out]; try rfl), zq0⟩
    · have E := hid (show wlkAll m xs = true from allI_all (p := wlkAt m xs) (xs := xs) (k := k) (by rw [← HX.out.len]; omega) HA.out)
      try go_wp2_with (first
          | (go_at_call 74; refine (iPlcOk_c _ _).mono ?_; rintro e w' ⟨rfl, t, rfl⟩)
          | (
            with_reducible refine wp_region_mix (by kernel_rfl) (by decide +kernel) ?_
            repeat (first
              | (refine mix_pure rfl ?_; (first | go_big_quiet_skip | (go_big_quiet_want; go_big_quiet_op; go_big_quiet_on)); refine wpQuiet_nil ?_)
              | (refine mix_skip (by rfl) ?_; (try simp only [Act.put, List.setIfInBounds_toArray, List.set_cons_zero, List.set_cons_succ]))
              | (refine mix_mk rfl (by rfl) (fun K hK => ?_); (first | (go_simp; first | (go_at_call 74; refine (iPlcOk_c _ _).mono ?_; rintro e w' ⟨rfl, t, rfl⟩) | skip)); (show K _ _); refine hK _ _ (show Ext _ _ from zq0) ?_; clear hK K; (try simp only [Act.put, List.setIfInBounds_toArray, List.set_cons_zero, List.set_cons_succ])))
            refine mix_nil ?_)
          | (
            with_reducible refine wp_region_ext (by kernel_rfl) (by kernel_rfl) ?_
            repeat (first | go_big_quiet_skip | (go_big_quiet_want; go_big_quiet_op; first | go_big_quiet_on | (apply Exists.intro; refine ⟨fun _ => ?_, ?_⟩; ((first | (go_at_call 74; first | exact quiet_call (iPlcOk_c _ _) | exact quiet_call2 (iPlcOk_c _ _)))); (try rw [h1]); (try rw [h2]); (try rw [h3]); (try rw [h4]); (try rw [p1]); (try rw [p2]); (try rw [p3]); (try rw [p4]); (try rw [r1]); (try rw [r2]); (try rw [r3]); (try rw [r4]); (try rw [r5]); (try rw [r6]); (try rw [q3]); (try rw [q4]); (try rw [hp]); (try rw [hq]); go_big_quiet_on)))
            refine wpQuiet_nil ?_
            rintro _ ⟨tq, rfl⟩))
      go_ret
      exact ⟨ret_bool (by rw [E.out]; try rfl), zq0⟩

set_option maxRecDepth 100000 in
set_option maxHeartbeats 2000000 in
theorem sWlkListOk_c (m : Mp) (xs : List Wlk) (a : Option Addr) (n c : Nat) (w : World) (hx : Re w (.sl sWlk) [.slice a n c] (.l (xs.map Wlk.dat))) (hn : n ≤ 1048576) :
    Calls Try.prog 83 #[.agg #[.int .i64 m.c, .int .i64 m.w], .slice a n c] w fun e w' => e = .returned (.bool (wlkAll m xs)) ∧ Ext w w' := by
  have HX := hid hx
  clear hx
  go_enter Try.func83, Try.ntmps83
  try go_wp2_with (first
      | fail
      | (
        with_reducible refine wp_region_mix (by kernel_rfl) (by decide +kernel) ?_
        repeat (first
          | (refine mix_pure rfl ?_; (first | go_big_quiet_skip | (go_big_quiet_want; go_big_quiet_op; go_big_quiet_on)); refine wpQuiet_nil ?_)
          | (refine mix_skip (by rfl) ?_; (try simp only [Act.put, List.setIfInBounds_toArray, List.set_cons_zero, List.set_cons_succ]))
          | (refine mix_mk rfl (by rfl) (fun K hK => ?_); (first | (go_simp; first | skip)); (show K _ _); refine hK _ _ (show Ext _ _ from zq0) ?_; clear hK K; (try simp only [Act.put, List.setIfInBounds_toArray, List.set_cons_zero, List.set_cons_succ])))
        refine mix_nil ?_)
      | (
        with_reducible refine wp_region_ext (by kernel_rfl) (by kernel_rfl) ?_
        repeat (first | go_big_quiet_skip | (go_big_quiet_want; go_big_quiet_op; first | go_big_quiet_on | (apply Exists.intro; refine ⟨fun _ => ?_, ?_⟩; (fail); (try rw [h1]); (try rw [h2]); (try rw [h3]); (try rw [h4]); (try rw [p1]); (try rw [p2]); (try rw [p3]); (try rw [p4]); (try rw [r1]); (try rw [r2]); (try rw [r3]); (try rw [r4]); (try rw [r5]); (try rw [r6]); (try rw [q3]); (try rw [q4]); (try rw [hp]); (try rw [hq]); go_big_quiet_on)))
        refine wpQuiet_nil ?_
        rintro _ ⟨tq, rfl⟩))
  go_loopw [5] (fun i wr => ∃ k : Nat, k ≤ n ∧ i = .int .i64 k ∧ allI (wlkAt m xs) 0 (xs.take k) = true ∧ Ext (w.alloc (Obj.cells #[.int .i64 m.c, .int .i64 m.w] 40)) wr) (fun i _ => n - (intOf i).toNat)
  case atStart => exact ⟨0, Nat.zero_le _, rfl, rfl, zq0⟩
  case round =>
    obtain ⟨k, hk, rfl, hal, t', rfl⟩ := hrel
    have HA := hid hal
    clear hal
    by_cases hlt : k < n
    · obtain ⟨x, b, o, hxk, rfl, hb, f0, f1, f2, f3, f4⟩ := at_Wlk HX.out hlt
      have HK := hid hxk
      clear hxk
      have hb1 : b ≤ w.heap.size := Nat.le_of_lt hb
      cases h1 : wlkOk m x with
      | false =>
        have E := hid (show wlkAll m xs = false from allI_fail (p := wlkAt m xs) HK.out (by simp [wlkAt, h1]))
        try go_wp2_with (first
            | (go_at_call 93; refine (sWlkOk_c _ _ _).mono ?_; rintro e w' ⟨rfl, t, rfl⟩)
            | (
              with_reducible refine wp_region_mix (by kernel_rfl) (by decide +kernel) ?_
              repeat (first
                | (refine mix_pure rfl ?_; (first | go_big_quiet_skip | (go_big_quiet_want; go_big_quiet_op; go_big_quiet_on)); refine wpQuiet_nil ?_)
                | (refine mix_skip (by rfl) ?_; (try simp only [Act.put, List.setIfInBounds_toArray, List.set_cons_zero, List.set_cons_succ]))
                | (refine mix_mk rfl (by rfl) (fun K hK => ?_); (first | (go_simp; first | (go_at_call 93; refine (sWlkOk_c _ _ _).mono ?_; rintro e w' ⟨rfl, t, rfl⟩) | skip)); (show K _ _); refine hK _ _ (show Ext _ _ from zq0) ?_; clear hK K; (try simp only [Act.put, List.setIfInBounds_toArray, List.set_cons_zero, List.set_cons_succ])))
              refine mix_nil ?_)
            | (
              with_reducible refine wp_region_ext (by kernel_rfl) (by kernel_rfl) ?_
              repeat (first | go_big_quiet_skip | (go_big_quiet_want; go_big_quiet_op; first | go_big_quiet_on | (apply Exists.intro; refine ⟨fun _ => ?_, ?_⟩; ((first | (go_at_call 93; first | exact quiet_call (sWlkOk_c _ _ _) | exact quiet_call2 (sWlkOk_c _ _ _)))); (try rw [h1]); (try rw [h2]); (try rw [h3]); (try rw [h4]); (try rw [p1]); (try rw [p2]); (try rw [p3]); (try rw [p4]); (try rw [r1]); (try rw [r2]); (try rw [r3]); (try rw [r4]); (try rw [r5]); (try rw [r6]); (try rw [q3]); (try rw [q4]); (try rw [hp]); (try rw [hq]); go_big_quiet_on)))
              refine wpQuiet_nil ?_
              rintro _ ⟨tq, rfl⟩))
        go_ret
        exact ⟨ret_bool (by rw [E.out]; try rfl), zq0⟩
      | true =>
        rcases Nat.eq_zero_or_pos k with hk0 | hk0
        · have HZ := hid hk0
          have hz : ¬ (0 : Int) < (k : Int) := by omega
          have hz1 : ¬ 0 < k := by omega
          clear hk0
          have HB := hid (allI_step (p := wlkAt m xs) HK.out HA.out (by simp [wlkAt, h1, ordAt_nul HZ.out]))
          try go_wp2_with (first
              | (go_at_call 93; refine (sWlkOk_c _ _ _).mono ?_; rintro e w' ⟨rfl, t, rfl⟩)
              | (
                with_reducible refine wp_region_mix (by kernel_rfl) (by decide +kernel) ?_
                repeat (first
                  | (refine mix_pure rfl ?_; (first | go_big_quiet_skip | (go_big_quiet_want; go_big_quiet_op; go_big_quiet_on)); refine wpQuiet_nil ?_)
                  | (refine mix_skip (by rfl) ?_; (try simp only [Act.put, List.setIfInBounds_toArray, List.set_cons_zero, List.set_cons_succ]))
                  | (refine mix_mk rfl (by rfl) (fun K hK => ?_); (first | (go_simp; first | (go_at_call 93; refine (sWlkOk_c _ _ _).mono ?_; rintro e w' ⟨rfl, t, rfl⟩) | skip)); (show K _ _); refine hK _ _ (show Ext _ _ from zq0) ?_; clear hK K; (try simp only [Act.put, List.setIfInBounds_toArray, List.set_cons_zero, List.set_cons_succ])))
                refine mix_nil ?_)
              | (
                with_reducible refine wp_region_ext (by kernel_rfl) (by kernel_rfl) ?_
                repeat (first | go_big_quiet_skip | (go_big_quiet_want; go_big_quiet_op; first | go_big_quiet_on | (apply Exists.intro; refine ⟨fun _ => ?_, ?_⟩; ((first | (go_at_call 93; first | exact quiet_call (sWlkOk_c _ _ _) | exact quiet_call2 (sWlkOk_c _ _ _)))); (try rw [h1]); (try rw [h2]); (try rw [h3]); (try rw [h4]); (try rw [p1]); (try rw [p2]); (try rw [p3]); (try rw [p4]); (try rw [r1]); (try rw [r2]); (try rw [r3]); (try rw [r4]); (try rw [r5]); (try rw [r6]); (try rw [q3]); (try rw [q4]); (try rw [hp]); (try rw [hq]); go_big_quiet_on)))
                refine wpQuiet_nil ?_
                rintro _ ⟨tq, rfl⟩))
          go_roundw
          case rel => exact ⟨k + 1, by omega, by go_num, HB.out, zq0⟩
          case measure => simp [intOf]; omega
        · obtain ⟨j, hkj⟩ : ∃ j, k = j + 1 := ⟨k - 1, by omega⟩
          have HJ := hid hkj
          have hpos : (0 : Int) < (k : Int) := by omega
          have hpos1 : 0 < k := by omega
          have hpre : (k : Int) - 1 = (j : Int) := by omega
          clear hk0 hkj
          obtain ⟨y, b2, o2, hyk, hab, hb2, g0, g1, g2, g3, g4⟩ := at_Wlk HX.out (show j < n by have := HJ.out; omega)
          simp only [Option.some.injEq, Addr.mk.injEq, and_true] at hab
          obtain ⟨rfl, rfl⟩ := hab
          have HY := hid hyk
          clear hyk
          by_cases hq : y.id < x.id
          · have HB := hid (allI_step (p := wlkAt m xs) HK.out HA.out (by simp [wlkAt, h1, ordAt_pos HJ.out HY.out, hq]))
            try go_wp2_with (first
                | (go_at_call 93; refine (sWlkOk_c _ _ _).mono ?_; rintro e w' ⟨rfl, t, rfl⟩)
                | (
                  with_reducible refine wp_region_mix (by kernel_rfl) (by decide +kernel) ?_
                  repeat (first
                    | (refine mix_pure rfl ?_; (first | go_big_quiet_skip | (go_big_quiet_want; go_big_quiet_op; go_big_quiet_on)); refine wpQuiet_nil ?_)
                    | (refine mix_skip (by rfl) ?_; (try simp only [Act.put, List.setIfInBounds_toArray, List.set_cons_zero, List.set_cons_succ]))
                    | (refine mix_mk rfl (by rfl) (fun K hK => ?_); (first | (go_simp; first | (go_at_call 93; refine (sWlkOk_c _ _ _).mono ?_; rintro e w' ⟨rfl, t, rfl⟩) | skip)); (show K _ _); refine hK _ _ (show Ext _ _ from zq0) ?_; clear hK K; (try simp only [Act.put, List.setIfInBounds_toArray, List.set_cons_zero, List.set_cons_succ])))
                  refine mix_nil ?_)
                | (
                  with_reducible refine wp_region_ext (by kernel_rfl) (by kernel_rfl) ?_
                  repeat (first | go_big_quiet_skip | (go_big_quiet_want; go_big_quiet_op; first | go_big_quiet_on | (apply Exists.intro; refine ⟨fun _ => ?_, ?_⟩; ((first | (go_at_call 93; first | exact quiet_call (sWlkOk_c _ _ _) | exact quiet_call2 (sWlkOk_c _ _ _)))); (try rw [h1]); (try rw [h2]); (try rw [h3]); (try rw [h4]); (try rw [p1]); (try rw [p2]); (try rw [p3]); (try rw [p4]); (try rw [r1]); (try rw [r2]); (try rw [r3]); (try rw [r4]); (try rw [r5]); (try rw [r6]); (try rw [q3]); (try rw [q4]); (try rw [hp]); (try rw [hq]); go_big_quiet_on)))
                  refine wpQuiet_nil ?_
                  rintro _ ⟨tq, rfl⟩))
            go_roundw
            case rel => exact ⟨k + 1, by omega, by go_num, HB.out, zq0⟩
            case measure => simp [intOf]; omega
          · have hq' : x.id ≤ y.id := by omega
            have E := hid (show wlkAll m xs = false from allI_fail (p := wlkAt m xs) HK.out (by simp [wlkAt, ordAt_pos HJ.out HY.out, hq']))
            try go_wp2_with (first
                | (go_at_call 93; refine (sWlkOk_c _ _ _).mono ?_; rintro e w' ⟨rfl, t, rfl⟩)
                | (
                  with_reducible refine wp_region_mix (by kernel_rfl) (by decide +kernel) ?_
                  repeat (first
                    | (refine mix_pure rfl ?_; (first | go_big_quiet_skip | (go_big_quiet_want; go_big_quiet_op; go_big_quiet_on)); refine wpQuiet_nil ?_)
                    | (refine mix_skip (by rfl) ?_; (try simp only [Act.put, List.setIfInBounds_toArray, List.set_cons_zero, List.set_cons_succ]))
                    | (refine mix_mk rfl (by rfl) (fun K hK => ?_); (first | (go_simp; first | (go_at_call 93; refine (sWlkOk_c _ _ _).mono ?_; rintro e w' ⟨rfl, t, rfl⟩) | skip)); (show K _ _); refine hK _ _ (show Ext _ _ from zq0) ?_; clear hK K; (try simp only [Act.put, List.setIfInBounds_toArray, List.set_cons_zero, List.set_cons_succ])))
                  refine mix_nil ?_)
                | (
                  with_reducible refine wp_region_ext (by kernel_rfl) (by kernel_rfl) ?_
                  repeat (first | go_big_quiet_skip | (go_big_quiet_want; go_big_quiet_op; first | go_big_quiet_on | (apply Exists.intro; refine ⟨fun _ => ?_, ?_⟩; ((first | (go_at_call 93; first | exact quiet_call (sWlkOk_c _ _ _) | exact quiet_call2 (sWlkOk_c _ _ _)))); (try rw [h1]); (try rw [h2]); (try rw [h3]); (try rw [h4]); (try rw [p1]); (try rw [p2]); (try rw [p3]); (try rw [p4]); (try rw [r1]); (try rw [r2]); (try rw [r3]); (try rw [r4]); (try rw [r5]); (try rw [r6]); (try rw [q3]); (try rw [q4]); (try rw [hp]); (try rw [hq]); go_big_quiet_on)))
                  refine wpQuiet_nil ?_
                  rintro _ ⟨tq, rfl⟩))
            go_ret
            exact ⟨ret_bool (by rw [E.out]; try rfl), zq0⟩
    · have E := hid (show wlkAll m xs = true from allI_all (p := wlkAt m xs) (xs := xs) (k := k) (by rw [← HX.out.len]; omega) HA.out)
      try go_wp2_with (first
          | fail
          | (
            with_reducible refine wp_region_mix (by kernel_rfl) (by decide +kernel) ?_
            repeat (first
              | (refine mix_pure rfl ?_; (first | go_big_quiet_skip | (go_big_quiet_want; go_big_quiet_op; go_big_quiet_on)); refine wpQuiet_nil ?_)
              | (refine mix_skip (by rfl) ?_; (try simp only [Act.put, List.setIfInBounds_toArray, List.set_cons_zero, List.set_cons_succ]))
              | (refine mix_mk rfl (by rfl) (fun K hK => ?_); (first | (go_simp; first | skip)); (show K _ _); refine hK _ _ (show Ext _ _ from zq0) ?_; clear hK K; (try simp only [Act.put, List.setIfInBounds_toArray, List.set_cons_zero, List.set_cons_succ])))
            refine mix_nil ?_)
          | (
            with_reducible refine wp_region_ext (by kernel_rfl) (by kernel_rfl) ?_
            repeat (first | go_big_quiet_skip | (go_big_quiet_want; go_big_quiet_op; first | go_big_quiet_on | (apply Exists.intro; refine ⟨fun _ => ?_, ?_⟩; (fail); (try rw [h1]); (try rw [h2]); (try rw [h3]); (try rw [h4]); (try rw [p1]); (try rw [p2]); (try rw [p3]); (try rw [p4]); (try rw [r1]); (try rw [r2]); (try rw [r3]); (try rw [r4]); (try rw [r5]); (try rw [r6]); (try rw [q3]); (try rw [q4]); (try rw [hp]); (try rw [hq]); go_big_quiet_on)))
            refine wpQuiet_nil ?_
            rintro _ ⟨tq, rfl⟩))
      go_ret
      exact ⟨ret_bool (by rw [E.out]; try rfl), zq0⟩
end Go.Proofs.Ytablgohncilmfaa

namespace Go.Proofs.Ytablgohncilmfaa
open Go.RowKit

def wlkZero (x : Wlk) : Bool := (x.id == 0) && (x.at_ == 0) && (x.coins == 0) && (x.seq == 0) && (x.last == 0)
def formed (p : Pcl) : Bool := inB p.n 0 4999 && ((p.kind == 1) && (p.coins == 0) || (p.kind == 2) && wlkZero p.wk && inB p.coins 1 9)
def pclOk (m : Mp) (p : Pcl) : Bool := plcOk m && formed p && ((p.kind == 2) || wlkOk m p.wk)

theorem formed_c (p : Pcl) (w : World) : Calls Try.prog 97 #[.agg #[.int .i64 p.n, .int .i64 p.kind, .int .i64 p.wk.id, .int .i64 p.wk.at_, .int .i64 p.wk.coins, .int .i64 p.wk.seq, .int .i64 p.wk.last, .int .i64 p.coins]] w fun e w' => e = .returned (.bool (formed p)) ∧ Ext w w' := by
  go_enter Try.func97, Try.ntmps97
  go_wp2_with (first | (go_at_call 77; refine (in_c _ _ _ _).mono ?_; rintro e w' ⟨rfl, rfl⟩))
  all_goals go_ret
  all_goals refine ⟨ret_bool ?_, zq0⟩
  all_goals simp_all [formed, wlkZero]

theorem iPclOk_c (m : Mp) (p : Pcl) (w : World) : Calls Try.prog 52 #[.agg #[.int .i64 m.c, .int .i64 m.w], .agg #[.int .i64 p.n, .int .i64 p.kind, .int .i64 p.wk.id, .int .i64 p.wk.at_, .int .i64 p.wk.coins, .int .i64 p.wk.seq, .int .i64 p.wk.last, .int .i64 p.coins]] w fun e w' => e = .returned (.bool (pclOk m p)) ∧ Ext w w' := by
  go_enter Try.func52, Try.ntmps52
  go_wp2_with (first | (go_at_call 74; refine (iPlcOk_c _ _).mono ?_; rintro e w' ⟨rfl, t, rfl⟩) | (go_at_call 97; refine (formed_c _ _).mono ?_; rintro e w' ⟨rfl, t, rfl⟩) | (go_at_call 98; refine (iWlkOk_c _ _ _).mono ?_; rintro e w' ⟨rfl, t, rfl⟩))
  all_goals go_ret
  all_goals refine ⟨ret_bool ?_, zq0⟩
  all_goals simp_all [pclOk]

theorem sPclOk_c (m : Mp) (p : Pcl) (w : World) : Calls Try.prog 45 #[.agg #[.int .i64 m.c, .int .i64 m.w], .agg #[.int .i64 p.n, .int .i64 p.kind, .int .i64 p.wk.id, .int .i64 p.wk.at_, .int .i64 p.wk.coins, .int .i64 p.wk.seq, .int .i64 p.wk.last, .int .i64 p.coins]] w fun e w' => e = .returned (.bool (pclOk m p)) ∧ Ext w w' := by
  go_enter Try.func45, Try.ntmps45
  go_wp2_with (first | (go_at_call 81; refine (sPlcOk_c _ _).mono ?_; rintro e w' ⟨rfl, t, rfl⟩) | (go_at_call 82; refine (l1In_c _ _ _ _).mono ?_; rintro e w' ⟨rfl, rfl⟩) | (go_at_call 93; refine (sWlkOk_c _ _ _).mono ?_; rintro e w' ⟨rfl, t, rfl⟩))
  all_goals go_ret
  all_goals refine ⟨ret_bool ?_, zq0⟩
  all_goals simp_all [pclOk, formed, wlkZero]
end Go.Proofs.Ytablgohncilmfaa

namespace Go.Proofs.Ytablgohncilmfaa
open Go.RowKit

theorem toMp_c (x : Mp) (w : World) : Calls Try.prog 15 #[.agg #[.int .i64 x.c, .int .i64 x.w]] w fun e w' => e = .returned (.agg #[.int .i64 x.c, .int .i64 x.w]) ∧ Ext w w' := by
  go_enter Try.func15, Try.ntmps15
  go_wp2_with (fail)
  exact bodyPost_ret (v := .agg #[.int .i64 x.c, .int .i64 x.w]) (by simp [results, Try.results15, go_sem]) rfl ⟨rfl, zq0⟩

end Go.Proofs.Ytablgohncilmfaa

namespace Go.Proofs.Ytablgohncilmfaa
open Go.RowKit

def pclAt (m : Mp) (b : Int) (i : Nat) (x : Pcl) : Bool := pclOk m x && (x.n == b + i)
def pclListOk (m : Mp) (xs : List Pcl) (next : Int) : Bool := plcOk m && inB next 0 5000 && decide ((xs.length : Int) ≤ next) && allI (pclAt m (next - xs.length)) 0 xs

set_option maxHeartbeats 1000000 in
theorem iPclListOk_c (m : Mp) (a : Option Addr) (n c : Nat) (xs : List Pcl) (next : Int) (w : World) (hx : Re w (.sl sPcl) [.slice a n c] (.l (xs.map Pcl.dat))) (hn : n ≤ 1048576) :
    Calls Try.prog 79 #[.agg #[.int .i64 m.c, .int .i64 m.w], .slice a n c, .int .i64 next] w fun e w' => e = .returned (.bool (pclListOk m xs next)) ∧ Ext w w' := by
  have HL := hid (sl_len hx).1
  have HX := hid hx
  clear hx
  cases h1 : plcOk m with
  | false =>
    have E := hid (show pclListOk m xs next = false by simp [pclListOk, h1])
    go_enter Try.func79, Try.ntmps79
    go_wp2_with (first | (go_at_call 74; refine (iPlcOk_c _ _).mono ?_; rintro e w' ⟨rfl, t, rfl⟩) | (go_at_call 77; refine (in_c _ _ _ _).mono ?_; rintro e w' ⟨rfl, rfl⟩))
    go_ret
    exact ⟨ret_bool (by rw [E.out]), zq0⟩
  | true =>
    cases h2 : inB next 0 5000 with
    | false =>
      have E := hid (show pclListOk m xs next = false by simp [pclListOk, h2])
      go_enter Try.func79, Try.ntmps79
      go_wp2_with (first | (go_at_call 74; refine (iPlcOk_c _ _).mono ?_; rintro e w' ⟨rfl, t, rfl⟩) | (go_at_call 77; refine (in_c _ _ _ _).mono ?_; rintro e w' ⟨rfl, rfl⟩))
      go_ret
      exact ⟨ret_bool (by rw [E.out]), zq0⟩
    | true =>
      obtain ⟨n1, n2⟩ := inB_iff.1 h2
      by_cases h3 : next < (n : Int)
      · have E := hid (show pclListOk m xs next = false by have := HL.out; simp at this; simp [pclListOk]; omega)
        go_enter Try.func79, Try.ntmps79
        go_wp2_with (first | (go_at_call 74; refine (iPlcOk_c _ _).mono ?_; rintro e w' ⟨rfl, t, rfl⟩) | (go_at_call 77; refine (in_c _ _ _ _).mono ?_; rintro e w' ⟨rfl, rfl⟩))
        go_ret
        exact ⟨ret_bool (by rw [E.out]), zq0⟩
      · go_enter Try.func79, Try.ntmps79
        go_wp2_with (first | (go_at_call 74; refine (iPlcOk_c _ _).mono ?_; rintro e w' ⟨rfl, t, rfl⟩) | (go_at_call 77; refine (in_c _ _ _ _).mono ?_; rintro e w' ⟨rfl, rfl⟩))
        go_loopw [25] (fun i wr => ∃ k : Nat, k ≤ n ∧ i = .int .i64 k ∧ allI (pclAt m (next - n)) 0 (xs.take k) = true ∧ Ext (w.alloc (Obj.cells #[.int .i64 m.c, .int .i64 m.w] 40)) wr) (fun i _ => n - (intOf i).toNat)
        case atStart => exact ⟨0, Nat.zero_le _, rfl, rfl, zq0⟩
        case round =>
          obtain ⟨k, hk, rfl, hal, t', rfl⟩ := hrel
          have HA := hid hal
          clear hal
          by_cases hlt : k < n
          · obtain ⟨x, b, o, hxk, rfl, hb, f0, f1, f2, f3, f4, f5, f6, f7⟩ := at_Pcl HX.out hlt
            have HK := hid hxk
            clear hxk
            have hb1 : b ≤ w.heap.size := Nat.le_of_lt hb
            have hm : (n : Int) ≤ 1048576 := by omega
            cases hp : pclOk m x with
            | false =>
              have E := hid (show pclListOk m xs next = false by
                have := allI_fail (p := pclAt m (next - n)) HK.out (by simp [pclAt, hp])
                have hl := HL.out; simp at hl
                simp [pclListOk, ← hl, this])
              go_wp2_with (first | (go_at_call 52; refine (iPclOk_c _ _ _).mono ?_; rintro e w' ⟨rfl, t, rfl⟩))
              go_ret
              exact ⟨ret_bool (by rw [E.out]), zq0⟩
            | true =>
              by_cases hq : x.n = next - (n : Int) + (k : Int)
              · have HB := hid (allI_step (p := pclAt m (next - n)) HK.out HA.out (by simp [pclAt, hp, hq]))
                have hq' := bne_f hq
                clear hq
                go_wp2_with (first | (go_at_call 52; refine (iPclOk_c _ _ _).mono ?_; rintro e w' ⟨rfl, t, rfl⟩))
                go_roundw
                case rel => exact ⟨k + 1, by omega, by go_num, HB.out, zq0⟩
                case measure => simp [intOf]; omega
              · have E := hid (show pclListOk m xs next = false by
                  have := allI_fail (p := pclAt m (next - n)) HK.out (by simp [pclAt, hq])
                  have hl := HL.out; simp at hl
                  simp [pclListOk, ← hl, this])
                have hq' := bne_t hq
                clear hq
                go_wp2_with (first | (go_at_call 52; refine (iPclOk_c _ _ _).mono ?_; rintro e w' ⟨rfl, t, rfl⟩))
                go_ret
                exact ⟨ret_bool (by rw [E.out]), zq0⟩
          · have E := hid (show pclListOk m xs next = true by
              have hl := HL.out; simp at hl
              have := allI_all (p := pclAt m (next - n)) (xs := xs) (k := k) (by omega) HA.out
              simp [pclListOk, ← hl, this, h1, h2]; omega)
            go_wp2
            go_ret
            exact ⟨ret_bool (by rw [E.out]), zq0⟩

set_option maxHeartbeats 1000000 in
theorem sPclListOk_c (m : Mp) (a : Option Addr) (n c : Nat) (xs : List Pcl) (next : Int) (w : World) (hx : Re w (.sl sPcl) [.slice a n c] (.l (xs.map Pcl.dat))) (hn : n ≤ 1048576) :
    Calls Try.prog 118 #[.agg #[.int .i64 m.c, .int .i64 m.w], .slice a n c, .int .i64 next] w fun e w' => e = .returned (.bool (pclListOk m xs next)) ∧ Ext w w' := by
  have HL := hid (sl_len hx).1
  have HX := hid hx
  clear hx
  cases h1 : plcOk m with
  | false =>
    have E := hid (show pclListOk m xs next = false by simp [pclListOk, h1])
    go_enter Try.func118, Try.ntmps118
    go_wp2_with (first | (go_at_call 81; refine (sPlcOk_c _ _).mono ?_; rintro e w' ⟨rfl, t, rfl⟩) | (go_at_call 82; refine (l1In_c _ _ _ _).mono ?_; rintro e w' ⟨rfl, rfl⟩))
    go_ret
    exact ⟨ret_bool (by rw [E.out]), zq0⟩
  | true =>
    cases h2 : inB next 0 5000 with
    | false =>
      have E := hid (show pclListOk m xs next = false by simp [pclListOk, h2])
      go_enter Try.func118, Try.ntmps118
      go_wp2_with (first | (go_at_call 81; refine (sPlcOk_c _ _).mono ?_; rintro e w' ⟨rfl, t, rfl⟩) | (go_at_call 82; refine (l1In_c _ _ _ _).mono ?_; rintro e w' ⟨rfl, rfl⟩))
      go_ret
      exact ⟨ret_bool (by rw [E.out]), zq0⟩
    | true =>
      obtain ⟨n1, n2⟩ := inB_iff.1 h2
      by_cases h3 : next < (n : Int)
      · have E := hid (show pclListOk m xs next = false by have := HL.out; simp at this; simp [pclListOk]; omega)
        go_enter Try.func118, Try.ntmps118
        go_wp2_with (first | (go_at_call 81; refine (sPlcOk_c _ _).mono ?_; rintro e w' ⟨rfl, t, rfl⟩) | (go_at_call 82; refine (l1In_c _ _ _ _).mono ?_; rintro e w' ⟨rfl, rfl⟩))
        go_ret
        exact ⟨ret_bool (by rw [E.out]), zq0⟩
      · go_enter Try.func118, Try.ntmps118
        go_wp2_with (first | (go_at_call 81; refine (sPlcOk_c _ _).mono ?_; rintro e w' ⟨rfl, t, rfl⟩) | (go_at_call 82; refine (l1In_c _ _ _ _).mono ?_; rintro e w' ⟨rfl, rfl⟩))
        go_loopw [7] (fun i wr => ∃ k : Nat, k ≤ n ∧ i = .int .i64 k ∧ allI (pclAt m (next - n)) 0 (xs.take k) = true ∧ Ext (w.alloc (Obj.cells #[.int .i64 m.c, .int .i64 m.w] 40)) wr) (fun i _ => n - (intOf i).toNat)
        case atStart => exact ⟨0, Nat.zero_le _, rfl, rfl, zq0⟩
        case round =>
          obtain ⟨k, hk, rfl, hal, t', rfl⟩ := hrel
          have HA := hid hal
          clear hal
          by_cases hlt : k < n
          · obtain ⟨x, b, o, hxk, rfl, hb, f0, f1, f2, f3, f4, f5, f6, f7⟩ := at_Pcl HX.out hlt
            have HK := hid hxk
            clear hxk
            have hb1 : b ≤ w.heap.size := Nat.le_of_lt hb
            have hm : (n : Int) ≤ 1048576 := by omega
            cases hp : pclOk m x with
            | false =>
              have E := hid (show pclListOk m xs next = false by
                have := allI_fail (p := pclAt m (next - n)) HK.out (by simp [pclAt, hp])
                have hl := HL.out; simp at hl
                simp [pclListOk, ← hl, this])
              go_wp2
              with_reducible refine wp_region_ext (by kernel_rfl) (by kernel_rfl) ?_
              repeat (go_big_quiet_step ((first | (go_at_call 45; first | exact quiet_call (sPclOk_c _ _ _) | exact quiet_call2 (sPclOk_c _ _ _)))))
              refine wpQuiet_nil ?_
              rintro _ ⟨tq, rfl⟩
              go_wp2
              go_ret
              exact ⟨ret_bool (by rw [E.out]), zq0⟩
            | true =>
              by_cases hq : x.n = next - (n : Int) + (k : Int)
              · have HB := hid (allI_step (p := pclAt m (next - n)) HK.out HA.out (by simp [pclAt, hp, hq]))
                have hq' := bne_f hq
                clear hq
                go_wp2
                with_reducible refine wp_region_ext (by kernel_rfl) (by kernel_rfl) ?_
                repeat (go_big_quiet_step ((first | (go_at_call 45; first | exact quiet_call (sPclOk_c _ _ _) | exact quiet_call2 (sPclOk_c _ _ _)))))
                refine wpQuiet_nil ?_
                rintro _ ⟨tq, rfl⟩
                go_wp2
                go_roundw
                case rel => exact ⟨k + 1, by omega, by go_num, HB.out, zq0⟩
                case measure => simp [intOf]; omega
              · have E := hid (show pclListOk m xs next = false by
                  have := allI_fail (p := pclAt m (next - n)) HK.out (by simp [pclAt, hq])
                  have hl := HL.out; simp at hl
                  simp [pclListOk, ← hl, this])
                have hq' := bne_t hq
                clear hq
                go_wp2
                with_reducible refine wp_region_ext (by kernel_rfl) (by kernel_rfl) ?_
                repeat (go_big_quiet_step ((first | (go_at_call 45; first | exact quiet_call (sPclOk_c _ _ _) | exact quiet_call2 (sPclOk_c _ _ _)))))
                refine wpQuiet_nil ?_
                rintro _ ⟨tq, rfl⟩
                go_wp2
                go_ret
                exact ⟨ret_bool (by rw [E.out]), zq0⟩
          · have E := hid (show pclListOk m xs next = true by
              have hl := HL.out; simp at hl
              have := allI_all (p := pclAt m (next - n)) (xs := xs) (k := k) (by omega) HA.out
              simp [pclListOk, ← hl, this, h1, h2]; omega)
            go_wp2
            go_ret
            exact ⟨ret_bool (by rw [E.out]), zq0⟩
end Go.Proofs.Ytablgohncilmfaa

namespace Go.Proofs.Ytablgohncilmfaa
open Go.RowKit
set_option linter.unusedSimpArgs false
set_option linter.unusedVariables false

def inCell (m : Mp) (cell : Int) (i : Nat) (x : Wlk) : Bool := plcCell m x.at_ == cell
def goesTo (m : Mp) (there : Int) (i : Nat) (p : Pcl) : Bool := !(p.kind == 1) || plcCell m p.wk.at_ == there
def sideOk (m : Mp) (cell side : Int) (outs : List Pcl) (next ins : Int) : Bool :=
  pclListOk m outs next && inB ins 0 5000 && (if plcSide m cell side = -1 then (next == 0) && (ins == 0) else allI (goesTo m (plcSide m cell side)) 0 outs)
def sideAt (m : Mp) (c : Cll) (k : Nat) : Bool :=
  match c.outs[k]?, c.next[k]?, c.ins[k]? with
  | some o, some n, some i => sideOk m c.cell k o n i
  | _, _, _ => false
theorem sideAt_eq {m : Mp} {c : Cll} {k : Nat} {o : List Pcl} {n i : Int} (h1 : c.outs[k]? = some o) (h2 : c.next[k]? = some n) (h3 : c.ins[k]? = some i) : sideAt m c k = sideOk m c.cell k o n i := by
  simp only [sideAt, h1, h2, h3]
def cllHead (m : Mp) (c : Cll) : Bool := plcOk m && inB c.cell 0 (m.c - 1) && wlkAll m c.wk && inB c.ground 0 900 && ((c.outs.length : Int) == 2) && ((c.next.length : Int) == 2) && ((c.ins.length : Int) == 2)
def cllOk (m : Mp) (c : Cll) : Bool := cllHead m c && allI (inCell m c.cell) 0 c.wk && sideAt m c 0 && sideAt m c 1
theorem cllOk_fail_head {m : Mp} {c : Cll} (h : cllHead m c = false) : cllOk m c = false := by simp [cllOk, h]
theorem cllOk_fail_wk {m : Mp} {c : Cll} (h : allI (inCell m c.cell) 0 c.wk = false) : cllOk m c = false := by simp [cllOk, h]
theorem cllOk_fail_side {m : Mp} {c : Cll} {k : Nat} (hk : k < 2) (h : sideAt m c k = false) : cllOk m c = false := by
  match k, hk with
  | 0, _ => simp [cllOk, h]
  | 1, _ => simp [cllOk, h]
theorem cllOk_true {m : Mp} {c : Cll} (h1 : cllHead m c = true) (h2 : allI (inCell m c.cell) 0 c.wk = true) (h3 : ∀ j, j < 2 → sideAt m c j = true) : cllOk m c = true := by
  simp [cllOk, h1, h2, h3 0 (by decide), h3 1 (by decide)]
theorem pcl_nil {m : Mp} {xs : List Pcl} {next : Int} (h : pclListOk m xs next = true) (h0 : next = 0) : xs = [] := by
  simp only [pclListOk, Bool.and_eq_true, decide_eq_true_eq] at h
  have := h.1.2
  exact List.length_eq_zero_iff.1 (by omega)
theorem cllHead_iff {m : Mp} {c : Cll} : cllHead m c = true ↔ plcOk m = true ∧ inB c.cell 0 (m.c - 1) = true ∧ wlkAll m c.wk = true ∧ inB c.ground 0 900 = true ∧ (c.outs.length : Int) = 2 ∧ (c.next.length : Int) = 2 ∧ (c.ins.length : Int) = 2 := by
  simp only [cllHead, Bool.and_eq_true, beq_iff_eq]; simp only [and_assoc]



set_option maxRecDepth 100000 in
set_option maxHeartbeats 4000000 in
theorem iCllOk_c (m : Mp) (c : Cll) (h : CllH) (w : World) (hx : ReC w c h) (hb : BdC c) :
    Calls Try.prog 31 #[.agg #[.int .i64 m.c, .int .i64 m.w], .agg #[.int .i64 c.cell, .slice h.a1 c.wk.length h.c1, .int .i64 c.ground, .slice h.a3 c.outs.length h.c3, .slice h.a4 c.next.length h.c4, .slice h.a5 c.ins.length h.c5]] w fun e w' => e = .returned (.bool (cllOk m c)) ∧ Ext w w' := by
  have H1 := hid hx.r1
  have H3 := hid hx.r3
  have H4 := hid hx.r4
  have H5 := hid hx.r5
  have B1 := hb.b1
  have B3 := hb.b3
  have BO := hid hb.bo
  have B4 := hb.b4
  have B5 := hb.b5
  clear hx hb
  obtain ⟨a1, c1, a3, c3, a4, c4, a5, c5⟩ := h
  dsimp only at H1 H3 H4 H5 ⊢
  cases r0 : wlkAll m c.wk with
  | false =>
    have hfail : cllHead m c = false := by simp [cllHead, r0]
    have E := hid (cllOk_fail_head (m := m) (c := c) hfail)
    clear hfail
    go_enter Try.func31, Try.ntmps31
    try go_wp2_with (first
        | (go_at_call 75; refine (iWlkListOk_c _ _ _ _ _ _ (Re.of (Hid.out (by assumption)) zq0) (by omega)).mono ?_; rintro e w' ⟨rfl, t, rfl⟩) | (go_at_call 76; refine (hasCell_c _ _ _).mono ?_; rintro e w' ⟨rfl, t, rfl⟩) | (go_at_call 77; refine (in_c _ _ _ _).mono ?_; rintro e w' ⟨rfl, rfl⟩)
        | (
          with_reducible refine wp_region_mix (by kernel_rfl) (by decide +kernel) ?_
          repeat (first
            | (refine mix_pure rfl ?_; (first | go_big_quiet_skip | (go_big_quiet_want; go_big_quiet_op; go_big_quiet_on)); refine wpQuiet_nil ?_)
            | (refine mix_skip (by rfl) ?_; (try simp only [Act.put, List.setIfInBounds_toArray, List.set_cons_zero, List.set_cons_succ]))
            | (refine mix_mk rfl (by rfl) (fun K hK => ?_); (first | (go_simp; first | (go_at_call 75; refine (iWlkListOk_c _ _ _ _ _ _ (Re.of (Hid.out (by assumption)) zq0) (by omega)).mono ?_; rintro e w' ⟨rfl, t, rfl⟩) | (go_at_call 76; refine (hasCell_c _ _ _).mono ?_; rintro e w' ⟨rfl, t, rfl⟩) | (go_at_call 77; refine (in_c _ _ _ _).mono ?_; rintro e w' ⟨rfl, rfl⟩) | skip)); (show K _ _); refine hK _ _ (show Ext _ _ from zq0) ?_; clear hK K; (try simp only [Act.put, List.setIfInBounds_toArray, List.set_cons_zero, List.set_cons_succ])))
          refine mix_nil ?_)
        | (
          with_reducible refine wp_region_ext (by kernel_rfl) (by kernel_rfl) ?_
          repeat (first | go_big_quiet_skip | (go_big_quiet_want; go_big_quiet_op; first | go_big_quiet_on | (apply Exists.intro; refine ⟨fun _ => ?_, ?_⟩; ((first | (go_at_call 75; first | exact quiet_call (iWlkListOk_c _ _ _ _ _ _ (Re.of (Hid.out (by assumption)) zq0) (by omega)) | exact quiet_call2 (iWlkListOk_c _ _ _ _ _ _ (Re.of (Hid.out (by assumption)) zq0) (by omega))) | (go_at_call 76; first | exact quiet_call (hasCell_c _ _ _) | exact quiet_call2 (hasCell_c _ _ _)) | (go_at_call 77; first | exact quiet_same (in_c _ _ _ _) | exact quiet_same2 (in_c _ _ _ _)))); (try rw [h1]); (try rw [h2]); (try rw [h3]); (try rw [h4]); (try rw [p1]); (try rw [p2]); (try rw [p3]); (try rw [p4]); (try rw [r1]); (try rw [r2]); (try rw [r3]); (try rw [r4]); (try rw [r5]); (try rw [r6]); (try rw [q3]); (try rw [q4]); (try rw [hp]); (try rw [hq]); go_big_quiet_on)))
          refine wpQuiet_nil ?_
          rintro _ ⟨tq, rfl⟩))
    go_ret
    exact ⟨ret_bool (by rw [E.out]), zq0⟩
  | true =>
    cases r1 : plcOk m with
    | false =>
      have hfail : cllHead m c = false := by simp [cllHead, r1]
      have E := hid (cllOk_fail_head (m := m) (c := c) hfail)
      clear hfail
      go_enter Try.func31, Try.ntmps31
      try go_wp2_with (first
          | (go_at_call 75; refine (iWlkListOk_c _ _ _ _ _ _ (Re.of (Hid.out (by assumption)) zq0) (by omega)).mono ?_; rintro e w' ⟨rfl, t, rfl⟩) | (go_at_call 76; refine (hasCell_c _ _ _).mono ?_; rintro e w' ⟨rfl, t, rfl⟩) | (go_at_call 77; refine (in_c _ _ _ _).mono ?_; rintro e w' ⟨rfl, rfl⟩)
          | (
            with_reducible refine wp_region_mix (by kernel_rfl) (by decide +kernel) ?_
            repeat (first
              | (refine mix_pure rfl ?_; (first | go_big_quiet_skip | (go_big_quiet_want; go_big_quiet_op; go_big_quiet_on)); refine wpQuiet_nil ?_)
              | (refine mix_skip (by rfl) ?_; (try simp only [Act.put, List.setIfInBounds_toArray, List.set_cons_zero, List.set_cons_succ]))
              | (refine mix_mk rfl (by rfl) (fun K hK => ?_); (first | (go_simp; first | (go_at_call 75; refine (iWlkListOk_c _ _ _ _ _ _ (Re.of (Hid.out (by assumption)) zq0) (by omega)).mono ?_; rintro e w' ⟨rfl, t, rfl⟩) | (go_at_call 76; refine (hasCell_c _ _ _).mono ?_; rintro e w' ⟨rfl, t, rfl⟩) | (go_at_call 77; refine (in_c _ _ _ _).mono ?_; rintro e w' ⟨rfl, rfl⟩) | skip)); (show K _ _); refine hK _ _ (show Ext _ _ from zq0) ?_; clear hK K; (try simp only [Act.put, List.setIfInBounds_toArray, List.set_cons_zero, List.set_cons_succ])))
            refine mix_nil ?_)
          | (
            with_reducible refine wp_region_ext (by kernel_rfl) (by kernel_rfl) ?_
            repeat (first | go_big_quiet_skip | (go_big_quiet_want; go_big_quiet_op; first | go_big_quiet_on | (apply Exists.intro; refine ⟨fun _ => ?_, ?_⟩; ((first | (go_at_call 75; first | exact quiet_call (iWlkListOk_c _ _ _ _ _ _ (Re.of (Hid.out (by assumption)) zq0) (by omega)) | exact quiet_call2 (iWlkListOk_c _ _ _ _ _ _ (Re.of (Hid.out (by assumption)) zq0) (by omega))) | (go_at_call 76; first | exact quiet_call (hasCell_c _ _ _) | exact quiet_call2 (hasCell_c _ _ _)) | (go_at_call 77; first | exact quiet_same (in_c _ _ _ _) | exact quiet_same2 (in_c _ _ _ _)))); (try rw [h1]); (try rw [h2]); (try rw [h3]); (try rw [h4]); (try rw [p1]); (try rw [p2]); (try rw [p3]); (try rw [p4]); (try rw [r1]); (try rw [r2]); (try rw [r3]); (try rw [r4]); (try rw [r5]); (try rw [r6]); (try rw [q3]); (try rw [q4]); (try rw [hp]); (try rw [hq]); go_big_quiet_on)))
            refine wpQuiet_nil ?_
            rintro _ ⟨tq, rfl⟩))
      go_ret
      exact ⟨ret_bool (by rw [E.out]), zq0⟩
    | true =>
      cases r2 : inB c.cell 0 (m.c - 1) with
      | false =>
        have hfail : cllHead m c = false := by simp [cllHead, r2]
        have E := hid (cllOk_fail_head (m := m) (c := c) hfail)
        clear hfail
        go_enter Try.func31, Try.ntmps31
        try go_wp2_with (first
            | (go_at_call 75; refine (iWlkListOk_c _ _ _ _ _ _ (Re.of (Hid.out (by assumption)) zq0) (by omega)).mono ?_; rintro e w' ⟨rfl, t, rfl⟩) | (go_at_call 76; refine (hasCell_ok _ (by assumption) _ _).mono ?_; rintro e w' ⟨rfl, t, rfl⟩) | (go_at_call 77; refine (in_c _ _ _ _).mono ?_; rintro e w' ⟨rfl, rfl⟩)
            | (
              with_reducible refine wp_region_mix (by kernel_rfl) (by decide +kernel) ?_
              repeat (first
                | (refine mix_pure rfl ?_; (first | go_big_quiet_skip | (go_big_quiet_want; go_big_quiet_op; go_big_quiet_on)); refine wpQuiet_nil ?_)
                | (refine mix_skip (by rfl) ?_; (try simp only [Act.put, List.setIfInBounds_toArray, List.set_cons_zero, List.set_cons_succ]))
                | (refine mix_mk rfl (by rfl) (fun K hK => ?_); (first | (go_simp; first | (go_at_call 75; refine (iWlkListOk_c _ _ _ _ _ _ (Re.of (Hid.out (by assumption)) zq0) (by omega)).mono ?_; rintro e w' ⟨rfl, t, rfl⟩) | (go_at_call 76; refine (hasCell_ok _ (by assumption) _ _).mono ?_; rintro e w' ⟨rfl, t, rfl⟩) | (go_at_call 77; refine (in_c _ _ _ _).mono ?_; rintro e w' ⟨rfl, rfl⟩) | skip)); (show K _ _); refine hK _ _ (show Ext _ _ from zq0) ?_; clear hK K; (try simp only [Act.put, List.setIfInBounds_toArray, List.set_cons_zero, List.set_cons_succ])))
              refine mix_nil ?_)
            | (
              with_reducible refine wp_region_ext (by kernel_rfl) (by kernel_rfl) ?_
              repeat (first | go_big_quiet_skip | (go_big_quiet_want; go_big_quiet_op; first | go_big_quiet_on | (apply Exists.intro; refine ⟨fun _ => ?_, ?_⟩; ((first | (go_at_call 75; first | exact quiet_call (iWlkListOk_c _ _ _ _ _ _ (Re.of (Hid.out (by assumption)) zq0) (by omega)) | exact quiet_call2 (iWlkListOk_c _ _ _ _ _ _ (Re.of (Hid.out (by assumption)) zq0) (by omega))) | (go_at_call 76; first | exact quiet_call (hasCell_ok _ (by assumption) _ _) | exact quiet_call2 (hasCell_ok _ (by assumption) _ _)) | (go_at_call 77; first | exact quiet_same (in_c _ _ _ _) | exact quiet_same2 (in_c _ _ _ _)))); (try rw [h1]); (try rw [h2]); (try rw [h3]); (try rw [h4]); (try rw [p1]); (try rw [p2]); (try rw [p3]); (try rw [p4]); (try rw [r1]); (try rw [r2]); (try rw [r3]); (try rw [r4]); (try rw [r5]); (try rw [r6]); (try rw [q3]); (try rw [q4]); (try rw [hp]); (try rw [hq]); go_big_quiet_on)))
              refine wpQuiet_nil ?_
              rintro _ ⟨tq, rfl⟩))
        go_ret
        exact ⟨ret_bool (by rw [E.out]), zq0⟩
      | true =>
        cases r3 : inB c.ground 0 900 with
        | false =>
          have hfail : cllHead m c = false := by simp [cllHead, r3]
          have E := hid (cllOk_fail_head (m := m) (c := c) hfail)
          clear hfail
          go_enter Try.func31, Try.ntmps31
          try go_wp2_with (first
              | (go_at_call 75; refine (iWlkListOk_c _ _ _ _ _ _ (Re.of (Hid.out (by assumption)) zq0) (by omega)).mono ?_; rintro e w' ⟨rfl, t, rfl⟩) | (go_at_call 76; refine (hasCell_ok _ (by assumption) _ _).mono ?_; rintro e w' ⟨rfl, t, rfl⟩) | (go_at_call 77; refine (in_c _ _ _ _).mono ?_; rintro e w' ⟨rfl, rfl⟩)
              | (
                with_reducible refine wp_region_mix (by kernel_rfl) (by decide +kernel) ?_
                repeat (first
                  | (refine mix_pure rfl ?_; (first | go_big_quiet_skip | (go_big_quiet_want; go_big_quiet_op; go_big_quiet_on)); refine wpQuiet_nil ?_)
                  | (refine mix_skip (by rfl) ?_; (try simp only [Act.put, List.setIfInBounds_toArray, List.set_cons_zero, List.set_cons_succ]))
                  | (refine mix_mk rfl (by rfl) (fun K hK => ?_); (first | (go_simp; first | (go_at_call 75; refine (iWlkListOk_c _ _ _ _ _ _ (Re.of (Hid.out (by assumption)) zq0) (by omega)).mono ?_; rintro e w' ⟨rfl, t, rfl⟩) | (go_at_call 76; refine (hasCell_ok _ (by assumption) _ _).mono ?_; rintro e w' ⟨rfl, t, rfl⟩) | (go_at_call 77; refine (in_c _ _ _ _).mono ?_; rintro e w' ⟨rfl, rfl⟩) | skip)); (show K _ _); refine hK _ _ (show Ext _ _ from zq0) ?_; clear hK K; (try simp only [Act.put, List.setIfInBounds_toArray, List.set_cons_zero, List.set_cons_succ])))
                refine mix_nil ?_)
              | (
                with_reducible refine wp_region_ext (by kernel_rfl) (by kernel_rfl) ?_
                repeat (first | go_big_quiet_skip | (go_big_quiet_want; go_big_quiet_op; first | go_big_quiet_on | (apply Exists.intro; refine ⟨fun _ => ?_, ?_⟩; ((first | (go_at_call 75; first | exact quiet_call (iWlkListOk_c _ _ _ _ _ _ (Re.of (Hid.out (by assumption)) zq0) (by omega)) | exact quiet_call2 (iWlkListOk_c _ _ _ _ _ _ (Re.of (Hid.out (by assumption)) zq0) (by omega))) | (go_at_call 76; first | exact quiet_call (hasCell_ok _ (by assumption) _ _) | exact quiet_call2 (hasCell_ok _ (by assumption) _ _)) | (go_at_call 77; first | exact quiet_same (in_c _ _ _ _) | exact quiet_same2 (in_c _ _ _ _)))); (try rw [h1]); (try rw [h2]); (try rw [h3]); (try rw [h4]); (try rw [p1]); (try rw [p2]); (try rw [p3]); (try rw [p4]); (try rw [r1]); (try rw [r2]); (try rw [r3]); (try rw [r4]); (try rw [r5]); (try rw [r6]); (try rw [q3]); (try rw [q4]); (try rw [hp]); (try rw [hq]); go_big_quiet_on)))
                refine wpQuiet_nil ?_
                rintro _ ⟨tq, rfl⟩))
          go_ret
          exact ⟨ret_bool (by rw [E.out]), zq0⟩
        | true =>
          cases l3 : ((c.outs.length : Int) != 2) with
          | true =>
            have hfail : cllHead m c = false := by simp only [bne, Bool.not_eq_true'] at l3; simp only [cllHead, l3, Bool.and_false, Bool.false_and]
            have E := hid (cllOk_fail_head (m := m) (c := c) hfail)
            clear hfail
            go_enter Try.func31, Try.ntmps31
            try go_wp2_with (first
                | (go_at_call 75; refine (iWlkListOk_c _ _ _ _ _ _ (Re.of (Hid.out (by assumption)) zq0) (by omega)).mono ?_; rintro e w' ⟨rfl, t, rfl⟩) | (go_at_call 76; refine (hasCell_ok _ (by assumption) _ _).mono ?_; rintro e w' ⟨rfl, t, rfl⟩) | (go_at_call 77; refine (in_c _ _ _ _).mono ?_; rintro e w' ⟨rfl, rfl⟩)
                | (
                  with_reducible refine wp_region_mix (by kernel_rfl) (by decide +kernel) ?_
                  repeat (first
                    | (refine mix_pure rfl ?_; (first | go_big_quiet_skip | (go_big_quiet_want; go_big_quiet_op; go_big_quiet_on)); refine wpQuiet_nil ?_)
                    | (refine mix_skip (by rfl) ?_; (try simp only [Act.put, List.setIfInBounds_toArray, List.set_cons_zero, List.set_cons_succ]))
                    | (refine mix_mk rfl (by rfl) (fun K hK => ?_); (first | (go_simp; first | (go_at_call 75; refine (iWlkListOk_c _ _ _ _ _ _ (Re.of (Hid.out (by assumption)) zq0) (by omega)).mono ?_; rintro e w' ⟨rfl, t, rfl⟩) | (go_at_call 76; refine (hasCell_ok _ (by assumption) _ _).mono ?_; rintro e w' ⟨rfl, t, rfl⟩) | (go_at_call 77; refine (in_c _ _ _ _).mono ?_; rintro e w' ⟨rfl, rfl⟩) | skip)); (show K _ _); refine hK _ _ (show Ext _ _ from zq0) ?_; clear hK K; (try simp only [Act.put, List.setIfInBounds_toArray, List.set_cons_zero, List.set_cons_succ])))
                  refine mix_nil ?_)
                | (
                  with_reducible refine wp_region_ext (by kernel_rfl) (by kernel_rfl) ?_
                  repeat (first | go_big_quiet_skip | (go_big_quiet_want; go_big_quiet_op; first | go_big_quiet_on | (apply Exists.intro; refine ⟨fun _ => ?_, ?_⟩; ((first | (go_at_call 75; first | exact quiet_call (iWlkListOk_c _ _ _ _ _ _ (Re.of (Hid.out (by assumption)) zq0) (by omega)) | exact quiet_call2 (iWlkListOk_c _ _ _ _ _ _ (Re.of (Hid.out (by assumption)) zq0) (by omega))) | (go_at_call 76; first | exact quiet_call (hasCell_ok _ (by assumption) _ _) | exact quiet_call2 (hasCell_ok _ (by assumption) _ _)) | (go_at_call 77; first | exact quiet_same (in_c _ _ _ _) | exact quiet_same2 (in_c _ _ _ _)))); (try rw [h1]); (try rw [h2]); (try rw [h3]); (try rw [h4]); (try rw [p1]); (try rw [p2]); (try rw [p3]); (try rw [p4]); (try rw [r1]); (try rw [r2]); (try rw [r3]); (try rw [r4]); (try rw [r5]); (try rw [r6]); (try rw [q3]); (try rw [q4]); (try rw [hp]); (try rw [hq]); go_big_quiet_on)))
                  refine wpQuiet_nil ?_
                  rintro _ ⟨tq, rfl⟩))
            go_ret
            exact ⟨ret_bool (by rw [E.out]), zq0⟩
          | false =>
            cases l4 : ((c.next.length : Int) != 2) with
            | true =>
              have hfail : cllHead m c = false := by simp only [bne, Bool.not_eq_true'] at l4; simp only [cllHead, l4, Bool.and_false, Bool.false_and]
              have E := hid (cllOk_fail_head (m := m) (c := c) hfail)
              clear hfail
              go_enter Try.func31, Try.ntmps31
              try go_wp2_with (first
                  | (go_at_call 75; refine (iWlkListOk_c _ _ _ _ _ _ (Re.of (Hid.out (by assumption)) zq0) (by omega)).mono ?_; rintro e w' ⟨rfl, t, rfl⟩) | (go_at_call 76; refine (hasCell_ok _ (by assumption) _ _).mono ?_; rintro e w' ⟨rfl, t, rfl⟩) | (go_at_call 77; refine (in_c _ _ _ _).mono ?_; rintro e w' ⟨rfl, rfl⟩)
                  | (
                    with_reducible refine wp_region_mix (by kernel_rfl) (by decide +kernel) ?_
                    repeat (first
                      | (refine mix_pure rfl ?_; (first | go_big_quiet_skip | (go_big_quiet_want; go_big_quiet_op; go_big_quiet_on)); refine wpQuiet_nil ?_)
                      | (refine mix_skip (by rfl) ?_; (try simp only [Act.put, List.setIfInBounds_toArray, List.set_cons_zero, List.set_cons_succ]))
                      | (refine mix_mk rfl (by rfl) (fun K hK => ?_); (first | (go_simp; first | (go_at_call 75; refine (iWlkListOk_c _ _ _ _ _ _ (Re.of (Hid.out (by assumption)) zq0) (by omega)).mono ?_; rintro e w' ⟨rfl, t, rfl⟩) | (go_at_call 76; refine (hasCell_ok _ (by assumption) _ _).mono ?_; rintro e w' ⟨rfl, t, rfl⟩) | (go_at_call 77; refine (in_c _ _ _ _).mono ?_; rintro e w' ⟨rfl, rfl⟩) | skip)); (show K _ _); refine hK _ _ (show Ext _ _ from zq0) ?_; clear hK K; (try simp only [Act.put, List.setIfInBounds_toArray, List.set_cons_zero, List.set_cons_succ])))
                    refine mix_nil ?_)
                  | (
                    with_reducible refine wp_region_ext (by kernel_rfl) (by kernel_rfl) ?_
                    repeat (first | go_big_quiet_skip | (go_big_quiet_want; go_big_quiet_op; first | go_big_quiet_on | (apply Exists.intro; refine ⟨fun _ => ?_, ?_⟩; ((first | (go_at_call 75; first | exact quiet_call (iWlkListOk_c _ _ _ _ _ _ (Re.of (Hid.out (by assumption)) zq0) (by omega)) | exact quiet_call2 (iWlkListOk_c _ _ _ _ _ _ (Re.of (Hid.out (by assumption)) zq0) (by omega))) | (go_at_call 76; first | exact quiet_call (hasCell_ok _ (by assumption) _ _) | exact quiet_call2 (hasCell_ok _ (by assumption) _ _)) | (go_at_call 77; first | exact quiet_same (in_c _ _ _ _) | exact quiet_same2 (in_c _ _ _ _)))); (try rw [h1]); (try rw [h2]); (try rw [h3]); (try rw [h4]); (try rw [p1]); (try rw [p2]); (try rw [p3]); (try rw [p4]); (try rw [r1]); (try rw [r2]); (try rw [r3]); (try rw [r4]); (try rw [r5]); (try rw [r6]); (try rw [q3]); (try rw [q4]); (try rw [hp]); (try rw [hq]); go_big_quiet_on)))
                    refine wpQuiet_nil ?_
                    rintro _ ⟨tq, rfl⟩))
              go_ret
              exact ⟨ret_bool (by rw [E.out]), zq0⟩
            | false =>
              cases l5 : ((c.ins.length : Int) != 2) with
              | true =>
                have hfail : cllHead m c = false := by simp only [bne, Bool.not_eq_true'] at l5; simp only [cllHead, l5, Bool.and_false, Bool.false_and]
                have E := hid (cllOk_fail_head (m := m) (c := c) hfail)
                clear hfail
                go_enter Try.func31, Try.ntmps31
                try go_wp2_with (first
                    | (go_at_call 75; refine (iWlkListOk_c _ _ _ _ _ _ (Re.of (Hid.out (by assumption)) zq0) (by omega)).mono ?_; rintro e w' ⟨rfl, t, rfl⟩) | (go_at_call 76; refine (hasCell_ok _ (by assumption) _ _).mono ?_; rintro e w' ⟨rfl, t, rfl⟩) | (go_at_call 77; refine (in_c _ _ _ _).mono ?_; rintro e w' ⟨rfl, rfl⟩)
                    | (
                      with_reducible refine wp_region_mix (by kernel_rfl) (by decide +kernel) ?_
                      repeat (first
                        | (refine mix_pure rfl ?_; (first | go_big_quiet_skip | (go_big_quiet_want; go_big_quiet_op; go_big_quiet_on)); refine wpQuiet_nil ?_)
                        | (refine mix_skip (by rfl) ?_; (try simp only [Act.put, List.setIfInBounds_toArray, List.set_cons_zero, List.set_cons_succ]))
                        | (refine mix_mk rfl (by rfl) (fun K hK => ?_); (first | (go_simp; first | (go_at_call 75; refine (iWlkListOk_c _ _ _ _ _ _ (Re.of (Hid.out (by assumption)) zq0) (by omega)).mono ?_; rintro e w' ⟨rfl, t, rfl⟩) | (go_at_call 76; refine (hasCell_ok _ (by assumption) _ _).mono ?_; rintro e w' ⟨rfl, t, rfl⟩) | (go_at_call 77; refine (in_c _ _ _ _).mono ?_; rintro e w' ⟨rfl, rfl⟩) | skip)); (show K _ _); refine hK _ _ (show Ext _ _ from zq0) ?_; clear hK K; (try simp only [Act.put, List.setIfInBounds_toArray, List.set_cons_zero, List.set_cons_succ])))
                      refine mix_nil ?_)
                    | (
                      with_reducible refine wp_region_ext (by kernel_rfl) (by kernel_rfl) ?_
                      repeat (first | go_big_quiet_skip | (go_big_quiet_want; go_big_quiet_op; first | go_big_quiet_on | (apply Exists.intro; refine ⟨fun _ => ?_, ?_⟩; ((first | (go_at_call 75; first | exact quiet_call (iWlkListOk_c _ _ _ _ _ _ (Re.of (Hid.out (by assumption)) zq0) (by omega)) | exact quiet_call2 (iWlkListOk_c _ _ _ _ _ _ (Re.of (Hid.out (by assumption)) zq0) (by omega))) | (go_at_call 76; first | exact quiet_call (hasCell_ok _ (by assumption) _ _) | exact quiet_call2 (hasCell_ok _ (by assumption) _ _)) | (go_at_call 77; first | exact quiet_same (in_c _ _ _ _) | exact quiet_same2 (in_c _ _ _ _)))); (try rw [h1]); (try rw [h2]); (try rw [h3]); (try rw [h4]); (try rw [p1]); (try rw [p2]); (try rw [p3]); (try rw [p4]); (try rw [r1]); (try rw [r2]); (try rw [r3]); (try rw [r4]); (try rw [r5]); (try rw [r6]); (try rw [q3]); (try rw [q4]); (try rw [hp]); (try rw [hq]); go_big_quiet_on)))
                      refine wpQuiet_nil ?_
                      rintro _ ⟨tq, rfl⟩))
                go_ret
                exact ⟨ret_bool (by rw [E.out]), zq0⟩
              | false =>
                have hl3 : c.outs.length = 2 := by have : (c.outs.length : Int) = 2 := by simpa [bne] using l3
                                                   omega
                have hl4 : c.next.length = 2 := by have : (c.next.length : Int) = 2 := by simpa [bne] using l4
                                                   omega
                have hl5 : c.ins.length = 2 := by have : (c.ins.length : Int) = 2 := by simpa [bne] using l5
                                                  omega
                have HHD := hid (show cllHead m c = true from cllHead_iff.2 ⟨r1, r2, r0, r3, by omega, by omega, by omega⟩)
                have HL3 := hid hl3
                have HL4 := hid hl4
                have HL5 := hid hl5
                clear hl3 hl4 hl5
                go_enter Try.func31, Try.ntmps31
                try go_wp2_with (first
                    | (go_at_call 75; refine (iWlkListOk_c _ _ _ _ _ _ (Re.of (Hid.out (by assumption)) zq0) (by omega)).mono ?_; rintro e w' ⟨rfl, t, rfl⟩) | (go_at_call 76; refine (hasCell_ok _ (by assumption) _ _).mono ?_; rintro e w' ⟨rfl, t, rfl⟩) | (go_at_call 77; refine (in_c _ _ _ _).mono ?_; rintro e w' ⟨rfl, rfl⟩)
                    | (
                      with_reducible refine wp_region_mix (by kernel_rfl) (by decide +kernel) ?_
                      repeat (first
                        | (refine mix_pure rfl ?_; (first | go_big_quiet_skip | (go_big_quiet_want; go_big_quiet_op; go_big_quiet_on)); refine wpQuiet_nil ?_)
                        | (refine mix_skip (by rfl) ?_; (try simp only [Act.put, List.setIfInBounds_toArray, List.set_cons_zero, List.set_cons_succ]))
                        | (refine mix_mk rfl (by rfl) (fun K hK => ?_); (first | (go_simp; first | (go_at_call 75; refine (iWlkListOk_c _ _ _ _ _ _ (Re.of (Hid.out (by assumption)) zq0) (by omega)).mono ?_; rintro e w' ⟨rfl, t, rfl⟩) | (go_at_call 76; refine (hasCell_ok _ (by assumption) _ _).mono ?_; rintro e w' ⟨rfl, t, rfl⟩) | (go_at_call 77; refine (in_c _ _ _ _).mono ?_; rintro e w' ⟨rfl, rfl⟩) | skip)); (show K _ _); refine hK _ _ (show Ext _ _ from zq0) ?_; clear hK K; (try simp only [Act.put, List.setIfInBounds_toArray, List.set_cons_zero, List.set_cons_succ])))
                      refine mix_nil ?_)
                    | (
                      with_reducible refine wp_region_ext (by kernel_rfl) (by kernel_rfl) ?_
                      repeat (first | go_big_quiet_skip | (go_big_quiet_want; go_big_quiet_op; first | go_big_quiet_on | (apply Exists.intro; refine ⟨fun _ => ?_, ?_⟩; ((first | (go_at_call 75; first | exact quiet_call (iWlkListOk_c _ _ _ _ _ _ (Re.of (Hid.out (by assumption)) zq0) (by omega)) | exact quiet_call2 (iWlkListOk_c _ _ _ _ _ _ (Re.of (Hid.out (by assumption)) zq0) (by omega))) | (go_at_call 76; first | exact quiet_call (hasCell_ok _ (by assumption) _ _) | exact quiet_call2 (hasCell_ok _ (by assumption) _ _)) | (go_at_call 77; first | exact quiet_same (in_c _ _ _ _) | exact quiet_same2 (in_c _ _ _ _)))); (try rw [h1]); (try rw [h2]); (try rw [h3]); (try rw [h4]); (try rw [p1]); (try rw [p2]); (try rw [p3]); (try rw [p4]); (try rw [r1]); (try rw [r2]); (try rw [r3]); (try rw [r4]); (try rw [r5]); (try rw [r6]); (try rw [q3]); (try rw [q4]); (try rw [hp]); (try rw [hq]); go_big_quiet_on)))
                      refine wpQuiet_nil ?_
                      rintro _ ⟨tq, rfl⟩))
                go_loopw [50] (fun i wr => ∃ k : Nat, k ≤ c.wk.length ∧ i = .int .i64 k ∧ allI (inCell m c.cell) 0 (c.wk.take k) = true ∧ Ext ((w.alloc (Obj.cells #[.int .i64 m.c, .int .i64 m.w] 40)).alloc (Obj.cells #[.int .i64 c.cell, .slice a1 c.wk.length c1, .int .i64 c.ground, .slice a3 c.outs.length c3, .slice a4 c.next.length c4, .slice a5 c.ins.length c5] 37)) wr) (fun i _ => c.wk.length - (intOf i).toNat)
                case atStart => exact ⟨0, Nat.zero_le _, rfl, rfl, zq0⟩
                case round =>
                  obtain ⟨k, hk, rfl, hal, t', rfl⟩ := hrel
                  have HA := hid hal
                  clear hal
                  by_cases hlt : k < c.wk.length
                  · obtain ⟨x, b, o, hxk, rfl, hb, f0, f1, f2, f3, f4⟩ := at_Wlk H1.out hlt
                    have HK := hid hxk
                    have hb1 : b ≤ w.heap.size := Nat.le_of_lt hb
                    clear hxk
                    cases h1 : (plcCell m x.at_ != c.cell) with
                    | true =>
                      have E := hid (cllOk_fail_wk (m := m) (c := c) (allI_fail (p := inCell m c.cell) HK.out (by simpa [inCell] using h1)))
                      try go_wp2_with (first
                          | (go_at_call 78; refine (iPlcCell_c _ _ _).mono ?_; rintro e w' ⟨rfl, t, rfl⟩)
                          | (
                            with_reducible refine wp_region_mix (by kernel_rfl) (by decide +kernel) ?_
                            repeat (first
                              | (refine mix_pure rfl ?_; (first | go_big_quiet_skip | (go_big_quiet_want; go_big_quiet_op; go_big_quiet_on)); refine wpQuiet_nil ?_)
                              | (refine mix_skip (by rfl) ?_; (try simp only [Act.put, List.setIfInBounds_toArray, List.set_cons_zero, List.set_cons_succ]))
                              | (refine mix_mk rfl (by rfl) (fun K hK => ?_); (first | (go_simp; first | (go_at_call 78; refine (iPlcCell_c _ _ _).mono ?_; rintro e w' ⟨rfl, t, rfl⟩) | skip)); (show K _ _); refine hK _ _ (show Ext _ _ from zq0) ?_; clear hK K; (try simp only [Act.put, List.setIfInBounds_toArray, List.set_cons_zero, List.set_cons_succ])))
                            refine mix_nil ?_)
                          | (
                            with_reducible refine wp_region_ext (by kernel_rfl) (by kernel_rfl) ?_
                            repeat (first | go_big_quiet_skip | (go_big_quiet_want; go_big_quiet_op; first | go_big_quiet_on | (apply Exists.intro; refine ⟨fun _ => ?_, ?_⟩; ((first | (go_at_call 78; first | exact quiet_call (iPlcCell_c _ _ _) | exact quiet_call2 (iPlcCell_c _ _ _)))); (try rw [h1]); (try rw [h2]); (try rw [h3]); (try rw [h4]); (try rw [p1]); (try rw [p2]); (try rw [p3]); (try rw [p4]); (try rw [r1]); (try rw [r2]); (try rw [r3]); (try rw [r4]); (try rw [r5]); (try rw [r6]); (try rw [q3]); (try rw [q4]); (try rw [hp]); (try rw [hq]); go_big_quiet_on)))
                            refine wpQuiet_nil ?_
                            rintro _ ⟨tq, rfl⟩))
                      go_ret
                      exact ⟨ret_bool (by rw [E.out]), zq0⟩
                    | false =>
                      have HB := hid (allI_step (p := inCell m c.cell) HK.out HA.out (by simpa [inCell] using h1))
                      try go_wp2_with (first
                          | (go_at_call 78; refine (iPlcCell_c _ _ _).mono ?_; rintro e w' ⟨rfl, t, rfl⟩)
                          | (
                            with_reducible refine wp_region_mix (by kernel_rfl) (by decide +kernel) ?_
                            repeat (first
                              | (refine mix_pure rfl ?_; (first | go_big_quiet_skip | (go_big_quiet_want; go_big_quiet_op; go_big_quiet_on)); refine wpQuiet_nil ?_)
                              | (refine mix_skip (by rfl) ?_; (try simp only [Act.put, List.setIfInBounds_toArray, List.set_cons_zero, List.set_cons_succ]))
                              | (refine mix_mk rfl (by rfl) (fun K hK => ?_); (first | (go_simp; first | (go_at_call 78; refine (iPlcCell_c _ _ _).mono ?_; rintro e w' ⟨rfl, t, rfl⟩) | skip)); (show K _ _); refine hK _ _ (show Ext _ _ from zq0) ?_; clear hK K; (try simp only [Act.put, List.setIfInBounds_toArray, List.set_cons_zero, List.set_cons_succ])))
                            refine mix_nil ?_)
                          | (
                            with_reducible refine wp_region_ext (by kernel_rfl) (by kernel_rfl) ?_
                            repeat (first | go_big_quiet_skip | (go_big_quiet_want; go_big_quiet_op; first | go_big_quiet_on | (apply Exists.intro; refine ⟨fun _ => ?_, ?_⟩; ((first | (go_at_call 78; first | exact quiet_call (iPlcCell_c _ _ _) | exact quiet_call2 (iPlcCell_c _ _ _)))); (try rw [h1]); (try rw [h2]); (try rw [h3]); (try rw [h4]); (try rw [p1]); (try rw [p2]); (try rw [p3]); (try rw [p4]); (try rw [r1]); (try rw [r2]); (try rw [r3]); (try rw [r4]); (try rw [r5]); (try rw [r6]); (try rw [q3]); (try rw [q4]); (try rw [hp]); (try rw [hq]); go_big_quiet_on)))
                            refine wpQuiet_nil ?_
                            rintro _ ⟨tq, rfl⟩))
                      go_roundw
                      case rel => exact ⟨k + 1, by omega, by go_num, HB.out, zq0⟩
                      case measure => simp [intOf]; omega
                  · have HW := hid (allI_all (p := inCell m c.cell) (xs := c.wk) (k := k) (by omega) HA.out)
                    clear HA
                    try go_wp2_with (first
                        | fail
                        | (
                          with_reducible refine wp_region_mix (by kernel_rfl) (by decide +kernel) ?_
                          repeat (first
                            | (refine mix_pure rfl ?_; (first | go_big_quiet_skip | (go_big_quiet_want; go_big_quiet_op; go_big_quiet_on)); refine wpQuiet_nil ?_)
                            | (refine mix_skip (by rfl) ?_; (try simp only [Act.put, List.setIfInBounds_toArray, List.set_cons_zero, List.set_cons_succ]))
                            | (refine mix_mk rfl (by rfl) (fun K hK => ?_); (first | (go_simp; first | skip)); (show K _ _); refine hK _ _ (show Ext _ _ from zq0) ?_; clear hK K; (try simp only [Act.put, List.setIfInBounds_toArray, List.set_cons_zero, List.set_cons_succ])))
                          refine mix_nil ?_)
                        | (
                          with_reducible refine wp_region_ext (by kernel_rfl) (by kernel_rfl) ?_
                          repeat (first | go_big_quiet_skip | (go_big_quiet_want; go_big_quiet_op; first | go_big_quiet_on | (apply Exists.intro; refine ⟨fun _ => ?_, ?_⟩; (fail); (try rw [h1]); (try rw [h2]); (try rw [h3]); (try rw [h4]); (try rw [p1]); (try rw [p2]); (try rw [p3]); (try rw [p4]); (try rw [r1]); (try rw [r2]); (try rw [r3]); (try rw [r4]); (try rw [r5]); (try rw [r6]); (try rw [q3]); (try rw [q4]); (try rw [hp]); (try rw [hq]); go_big_quiet_on)))
                          refine wpQuiet_nil ?_
                          rintro _ ⟨tq, rfl⟩))
                    go_loopw [62] (fun i wr => ∃ k : Nat, k ≤ 2 ∧ i = .int .i64 k ∧ (∀ j, j < k → sideAt m c j = true) ∧ Ext ((w.alloc (Obj.cells #[.int .i64 m.c, .int .i64 m.w] 40)).alloc (Obj.cells #[.int .i64 c.cell, .slice a1 c.wk.length c1, .int .i64 c.ground, .slice a3 c.outs.length c3, .slice a4 c.next.length c4, .slice a5 c.ins.length c5] 37)) wr) (fun i _ => 2 - (intOf i).toNat)
                    case atStart => exact ⟨0, by omega, rfl, fun j h => absurd h (Nat.not_lt_zero _), zq0⟩
                    case round =>
                      obtain ⟨k2, hk2, rfl, hsd, t2, rfl⟩ := hrel
                      have HSD := hid hsd
                      clear hsd
                      by_cases hlt2 : k2 < 2
                      · have lt3 : k2 < c.outs.length := by rw [HL3.out]; exact hlt2
                        have lt4 : k2 < c.next.length := by rw [HL4.out]; exact hlt2
                        have lt5 : k2 < c.ins.length := by rw [HL5.out]; exact hlt2
                        obtain ⟨xs, b3, o3, xa, xc, hx3, rfl, hb3, f3, hr3⟩ := at_SS H3.out lt3
                        obtain ⟨nx, b4, o4, hx4, rfl, hb4, f4⟩ := at_Int H4.out lt4
                        obtain ⟨ix, b5, o5, hx5, rfl, hb5, f5⟩ := at_Int H5.out lt5
                        have HSE := hid (sideAt_eq (m := m) hx3 hx4 hx5)
                        have hxb : xs.length ≤ 1048576 := BO.out xs (List.mem_of_getElem? hx3)
                        have HR3 := hid hr3
                        have hb3' : b3 ≤ w.heap.size := Nat.le_of_lt hb3
                        have hb4' : b4 ≤ w.heap.size := Nat.le_of_lt hb4
                        have hb5' : b5 ≤ w.heap.size := Nat.le_of_lt hb5
                        clear hx3 hx4 hx5 hr3
                        cases p1 : pclListOk m xs nx with
                        | false =>
                          have E := hid (cllOk_fail_side (m := m) (c := c) hlt2 (by rw [HSE.out]; simp only [sideOk, p1, Bool.false_and]))
                          try go_wp2_with (first
                              | (go_at_call 53; refine (iPlcSide_c _ _ _ _).mono ?_; rintro e w' ⟨rfl, t, rfl⟩) | (go_at_call 79; refine (iPclListOk_c _ _ _ _ _ _ _ (Re.of (Hid.out (by assumption)) zq0) (by omega)).mono ?_; rintro e w' ⟨rfl, t, rfl⟩) | (go_at_call 77; refine (in_c _ _ _ _).mono ?_; rintro e w' ⟨rfl, rfl⟩) | (go_at_call 78; refine (iPlcCell_c _ _ _).mono ?_; rintro e w' ⟨rfl, t, rfl⟩)
                              | (
                                with_reducible refine wp_region_mix (by kernel_rfl) (by decide +kernel) ?_
                                repeat (first
                                  | (refine mix_pure rfl ?_; (first | go_big_quiet_skip | (go_big_quiet_want; go_big_quiet_op; go_big_quiet_on)); refine wpQuiet_nil ?_)
                                  | (refine mix_skip (by rfl) ?_; (try simp only [Act.put, List.setIfInBounds_toArray, List.set_cons_zero, List.set_cons_succ]))
                                  | (refine mix_mk rfl (by rfl) (fun K hK => ?_); (first | (go_simp; first | (go_at_call 53; refine (iPlcSide_c _ _ _ _).mono ?_; rintro e w' ⟨rfl, t, rfl⟩) | (go_at_call 79; refine (iPclListOk_c _ _ _ _ _ _ _ (Re.of (Hid.out (by assumption)) zq0) (by omega)).mono ?_; rintro e w' ⟨rfl, t, rfl⟩) | (go_at_call 77; refine (in_c _ _ _ _).mono ?_; rintro e w' ⟨rfl, rfl⟩) | (go_at_call 78; refine (iPlcCell_c _ _ _).mono ?_; rintro e w' ⟨rfl, t, rfl⟩) | skip)); (show K _ _); refine hK _ _ (show Ext _ _ from zq0) ?_; clear hK K; (try simp only [Act.put, List.setIfInBounds_toArray, List.set_cons_zero, List.set_cons_succ])))
                                refine mix_nil ?_)
                              | (
                                with_reducible refine wp_region_ext (by kernel_rfl) (by kernel_rfl) ?_
                                repeat (first | go_big_quiet_skip | (go_big_quiet_want; go_big_quiet_op; first | go_big_quiet_on | (apply Exists.intro; refine ⟨fun _ => ?_, ?_⟩; ((first | (go_at_call 53; first | exact quiet_call (iPlcSide_c _ _ _ _) | exact quiet_call2 (iPlcSide_c _ _ _ _)) | (go_at_call 79; first | exact quiet_call (iPclListOk_c _ _ _ _ _ _ _ (Re.of (Hid.out (by assumption)) zq0) (by omega)) | exact quiet_call2 (iPclListOk_c _ _ _ _ _ _ _ (Re.of (Hid.out (by assumption)) zq0) (by omega))) | (go_at_call 77; first | exact quiet_same (in_c _ _ _ _) | exact quiet_same2 (in_c _ _ _ _)) | (go_at_call 78; first | exact quiet_call (iPlcCell_c _ _ _) | exact quiet_call2 (iPlcCell_c _ _ _)))); (try rw [h1]); (try rw [h2]); (try rw [h3]); (try rw [h4]); (try rw [p1]); (try rw [p2]); (try rw [p3]); (try rw [p4]); (try rw [r1]); (try rw [r2]); (try rw [r3]); (try rw [r4]); (try rw [r5]); (try rw [r6]); (try rw [q3]); (try rw [q4]); (try rw [hp]); (try rw [hq]); go_big_quiet_on)))
                                refine wpQuiet_nil ?_
                                rintro _ ⟨tq, rfl⟩))
                          go_ret
                          exact ⟨ret_bool (by rw [E.out]), zq0⟩
                        | true =>
                          cases p2 : inB ix 0 5000 with
                          | false =>
                            have E := hid (cllOk_fail_side (m := m) (c := c) hlt2 (by rw [HSE.out]; simp only [sideOk, p2, Bool.false_and, Bool.and_false]))
                            try go_wp2_with (first
                                | (go_at_call 53; refine (iPlcSide_c _ _ _ _).mono ?_; rintro e w' ⟨rfl, t, rfl⟩) | (go_at_call 79; refine (iPclListOk_c _ _ _ _ _ _ _ (Re.of (Hid.out (by assumption)) zq0) (by omega)).mono ?_; rintro e w' ⟨rfl, t, rfl⟩) | (go_at_call 77; refine (in_c _ _ _ _).mono ?_; rintro e w' ⟨rfl, rfl⟩) | (go_at_call 78; refine (iPlcCell_c _ _ _).mono ?_; rintro e w' ⟨rfl, t, rfl⟩)
                                | (
                                  with_reducible refine wp_region_mix (by kernel_rfl) (by decide +kernel) ?_
                                  repeat (first
                                    | (refine mix_pure rfl ?_; (first | go_big_quiet_skip | (go_big_quiet_want; go_big_quiet_op; go_big_quiet_on)); refine wpQuiet_nil ?_)
                                    | (refine mix_skip (by rfl) ?_; (try simp only [Act.put, List.setIfInBounds_toArray, List.set_cons_zero, List.set_cons_succ]))
                                    | (refine mix_mk rfl (by rfl) (fun K hK => ?_); (first | (go_simp; first | (go_at_call 53; refine (iPlcSide_c _ _ _ _).mono ?_; rintro e w' ⟨rfl, t, rfl⟩) | (go_at_call 79; refine (iPclListOk_c _ _ _ _ _ _ _ (Re.of (Hid.out (by assumption)) zq0) (by omega)).mono ?_; rintro e w' ⟨rfl, t, rfl⟩) | (go_at_call 77; refine (in_c _ _ _ _).mono ?_; rintro e w' ⟨rfl, rfl⟩) | (go_at_call 78; refine (iPlcCell_c _ _ _).mono ?_; rintro e w' ⟨rfl, t, rfl⟩) | skip)); (show K _ _); refine hK _ _ (show Ext _ _ from zq0) ?_; clear hK K; (try simp only [Act.put, List.setIfInBounds_toArray, List.set_cons_zero, List.set_cons_succ])))
                                  refine mix_nil ?_)
                                | (
                                  with_reducible refine wp_region_ext (by kernel_rfl) (by kernel_rfl) ?_
                                  repeat (first | go_big_quiet_skip | (go_big_quiet_want; go_big_quiet_op; first | go_big_quiet_on | (apply Exists.intro; refine ⟨fun _ => ?_, ?_⟩; ((first | (go_at_call 53; first | exact quiet_call (iPlcSide_c _ _ _ _) | exact quiet_call2 (iPlcSide_c _ _ _ _)) | (go_at_call 79; first | exact quiet_call (iPclListOk_c _ _ _ _ _ _ _ (Re.of (Hid.out (by assumption)) zq0) (by omega)) | exact quiet_call2 (iPclListOk_c _ _ _ _ _ _ _ (Re.of (Hid.out (by assumption)) zq0) (by omega))) | (go_at_call 77; first | exact quiet_same (in_c _ _ _ _) | exact quiet_same2 (in_c _ _ _ _)) | (go_at_call 78; first | exact quiet_call (iPlcCell_c _ _ _) | exact quiet_call2 (iPlcCell_c _ _ _)))); (try rw [h1]); (try rw [h2]); (try rw [h3]); (try rw [h4]); (try rw [p1]); (try rw [p2]); (try rw [p3]); (try rw [p4]); (try rw [r1]); (try rw [r2]); (try rw [r3]); (try rw [r4]); (try rw [r5]); (try rw [r6]); (try rw [q3]); (try rw [q4]); (try rw [hp]); (try rw [hq]); go_big_quiet_on)))
                                  refine wpQuiet_nil ?_
                                  rintro _ ⟨tq, rfl⟩))
                            go_ret
                            exact ⟨ret_bool (by rw [E.out]), zq0⟩
                          | true =>
                            cases p3 : (plcSide m c.cell (k2 : Int) == -1) with
                            | true =>
                              have P3 := hid (show plcSide m c.cell (k2 : Int) = -1 by simpa using p3)
                              cases p4 : (nx != 0) with
                              | true =>
                                have E := hid (cllOk_fail_side (m := m) (c := c) hlt2 (by rw [HSE.out]; simp only [bne, Bool.not_eq_true'] at p4; simp only [sideOk, P3.out, p4, if_true, Bool.false_and, Bool.and_false]))
                                try go_wp2_with (first
                                    | (go_at_call 53; refine (iPlcSide_c _ _ _ _).mono ?_; rintro e w' ⟨rfl, t, rfl⟩) | (go_at_call 79; refine (iPclListOk_c _ _ _ _ _ _ _ (Re.of (Hid.out (by assumption)) zq0) (by omega)).mono ?_; rintro e w' ⟨rfl, t, rfl⟩) | (go_at_call 77; refine (in_c _ _ _ _).mono ?_; rintro e w' ⟨rfl, rfl⟩) | (go_at_call 78; refine (iPlcCell_c _ _ _).mono ?_; rintro e w' ⟨rfl, t, rfl⟩)
                                    | (
                                      with_reducible refine wp_region_mix (by kernel_rfl) (by decide +kernel) ?_
                                      repeat (first
                                        | (refine mix_pure rfl ?_; (first | go_big_quiet_skip | (go_big_quiet_want; go_big_quiet_op; go_big_quiet_on)); refine wpQuiet_nil ?_)
                                        | (refine mix_skip (by rfl) ?_; (try simp only [Act.put, List.setIfInBounds_toArray, List.set_cons_zero, List.set_cons_succ]))
                                        | (refine mix_mk rfl (by rfl) (fun K hK => ?_); (first | (go_simp; first | (go_at_call 53; refine (iPlcSide_c _ _ _ _).mono ?_; rintro e w' ⟨rfl, t, rfl⟩) | (go_at_call 79; refine (iPclListOk_c _ _ _ _ _ _ _ (Re.of (Hid.out (by assumption)) zq0) (by omega)).mono ?_; rintro e w' ⟨rfl, t, rfl⟩) | (go_at_call 77; refine (in_c _ _ _ _).mono ?_; rintro e w' ⟨rfl, rfl⟩) | (go_at_call 78; refine (iPlcCell_c _ _ _).mono ?_; rintro e w' ⟨rfl, t, rfl⟩) | skip)); (show K _ _); refine hK _ _ (show Ext _ _ from zq0) ?_; clear hK K; (try simp only [Act.put, List.setIfInBounds_toArray, List.set_cons_zero, List.set_cons_succ])))
                                      refine mix_nil ?_)
                                    | (
                                      with_reducible refine wp_region_ext (by kernel_rfl) (by kernel_rfl) ?_
                                      repeat (first | go_big_quiet_skip | (go_big_quiet_want; go_big_quiet_op; first | go_big_quiet_on | (apply Exists.intro; refine ⟨fun _ => ?_, ?_⟩; ((first | (go_at_call 53; first | exact quiet_call (iPlcSide_c _ _ _ _) | exact quiet_call2 (iPlcSide_c _ _ _ _)) | (go_at_call 79; first | exact quiet_call (iPclListOk_c _ _ _ _ _ _ _ (Re.of (Hid.out (by assumption)) zq0) (by omega)) | exact quiet_call2 (iPclListOk_c _ _ _ _ _ _ _ (Re.of (Hid.out (by assumption)) zq0) (by omega))) | (go_at_call 77; first | exact quiet_same (in_c _ _ _ _) | exact quiet_same2 (in_c _ _ _ _)) | (go_at_call 78; first | exact quiet_call (iPlcCell_c _ _ _) | exact quiet_call2 (iPlcCell_c _ _ _)))); (try rw [h1]); (try rw [h2]); (try rw [h3]); (try rw [h4]); (try rw [p1]); (try rw [p2]); (try rw [p3]); (try rw [p4]); (try rw [r1]); (try rw [r2]); (try rw [r3]); (try rw [r4]); (try rw [r5]); (try rw [r6]); (try rw [q3]); (try rw [q4]); (try rw [hp]); (try rw [hq]); go_big_quiet_on)))
                                      refine wpQuiet_nil ?_
                                      rintro _ ⟨tq, rfl⟩))
                                go_ret
                                exact ⟨ret_bool (by rw [E.out]), zq0⟩
                              | false =>
                                cases p5 : (ix != 0) with
                                | true =>
                                  have E := hid (cllOk_fail_side (m := m) (c := c) hlt2 (by rw [HSE.out]; simp only [bne, Bool.not_eq_true'] at p5; simp only [sideOk, P3.out, p5, if_true, Bool.false_and, Bool.and_false]))
                                  try go_wp2_with (first
                                      | (go_at_call 53; refine (iPlcSide_c _ _ _ _).mono ?_; rintro e w' ⟨rfl, t, rfl⟩) | (go_at_call 79; refine (iPclListOk_c _ _ _ _ _ _ _ (Re.of (Hid.out (by assumption)) zq0) (by omega)).mono ?_; rintro e w' ⟨rfl, t, rfl⟩) | (go_at_call 77; refine (in_c _ _ _ _).mono ?_; rintro e w' ⟨rfl, rfl⟩) | (go_at_call 78; refine (iPlcCell_c _ _ _).mono ?_; rintro e w' ⟨rfl, t, rfl⟩)
                                      | (
                                        with_reducible refine wp_region_mix (by kernel_rfl) (by decide +kernel) ?_
                                        repeat (first
                                          | (refine mix_pure rfl ?_; (first | go_big_quiet_skip | (go_big_quiet_want; go_big_quiet_op; go_big_quiet_on)); refine wpQuiet_nil ?_)
                                          | (refine mix_skip (by rfl) ?_; (try simp only [Act.put, List.setIfInBounds_toArray, List.set_cons_zero, List.set_cons_succ]))
                                          | (refine mix_mk rfl (by rfl) (fun K hK => ?_); (first | (go_simp; first | (go_at_call 53; refine (iPlcSide_c _ _ _ _).mono ?_; rintro e w' ⟨rfl, t, rfl⟩) | (go_at_call 79; refine (iPclListOk_c _ _ _ _ _ _ _ (Re.of (Hid.out (by assumption)) zq0) (by omega)).mono ?_; rintro e w' ⟨rfl, t, rfl⟩) | (go_at_call 77; refine (in_c _ _ _ _).mono ?_; rintro e w' ⟨rfl, rfl⟩) | (go_at_call 78; refine (iPlcCell_c _ _ _).mono ?_; rintro e w' ⟨rfl, t, rfl⟩) | skip)); (show K _ _); refine hK _ _ (show Ext _ _ from zq0) ?_; clear hK K; (try simp only [Act.put, List.setIfInBounds_toArray, List.set_cons_zero, List.set_cons_succ])))
                                        refine mix_nil ?_)
                                      | (
                                        with_reducible refine wp_region_ext (by kernel_rfl) (by kernel_rfl) ?_
                                        repeat (first | go_big_quiet_skip | (go_big_quiet_want; go_big_quiet_op; first | go_big_quiet_on | (apply Exists.intro; refine ⟨fun _ => ?_, ?_⟩; ((first | (go_at_call 53; first | exact quiet_call (iPlcSide_c _ _ _ _) | exact quiet_call2 (iPlcSide_c _ _ _ _)) | (go_at_call 79; first | exact quiet_call (iPclListOk_c _ _ _ _ _ _ _ (Re.of (Hid.out (by assumption)) zq0) (by omega)) | exact quiet_call2 (iPclListOk_c _ _ _ _ _ _ _ (Re.of (Hid.out (by assumption)) zq0) (by omega))) | (go_at_call 77; first | exact quiet_same (in_c _ _ _ _) | exact quiet_same2 (in_c _ _ _ _)) | (go_at_call 78; first | exact quiet_call (iPlcCell_c _ _ _) | exact quiet_call2 (iPlcCell_c _ _ _)))); (try rw [h1]); (try rw [h2]); (try rw [h3]); (try rw [h4]); (try rw [p1]); (try rw [p2]); (try rw [p3]); (try rw [p4]); (try rw [r1]); (try rw [r2]); (try rw [r3]); (try rw [r4]); (try rw [r5]); (try rw [r6]); (try rw [q3]); (try rw [q4]); (try rw [hp]); (try rw [hq]); go_big_quiet_on)))
                                        refine wpQuiet_nil ?_
                                        rintro _ ⟨tq, rfl⟩))
                                  go_ret
                                  exact ⟨ret_bool (by rw [E.out]), zq0⟩
                                | false =>
                                  have HNIL := hid (pcl_nil p1 (by simpa [bne] using p4))
                                  have HTRUE := hid (show sideOk m c.cell (k2 : Int) xs nx ix = true by simp only [bne, Bool.not_eq_false'] at p4 p5; simp only [sideOk, p1, p2, P3.out, p4, p5, if_true, Bool.and_self])
                                  try go_wp2_with (first
                                      | (go_at_call 53; refine (iPlcSide_c _ _ _ _).mono ?_; rintro e w' ⟨rfl, t, rfl⟩) | (go_at_call 79; refine (iPclListOk_c _ _ _ _ _ _ _ (Re.of (Hid.out (by assumption)) zq0) (by omega)).mono ?_; rintro e w' ⟨rfl, t, rfl⟩) | (go_at_call 77; refine (in_c _ _ _ _).mono ?_; rintro e w' ⟨rfl, rfl⟩)
                                      | (
                                        with_reducible refine wp_region_mix (by kernel_rfl) (by decide +kernel) ?_
                                        repeat (first
                                          | (refine mix_pure rfl ?_; (first | go_big_quiet_skip | (go_big_quiet_want; go_big_quiet_op; go_big_quiet_on)); refine wpQuiet_nil ?_)
                                          | (refine mix_skip (by rfl) ?_; (try simp only [Act.put, List.setIfInBounds_toArray, List.set_cons_zero, List.set_cons_succ]))
                                          | (refine mix_mk rfl (by rfl) (fun K hK => ?_); (first | (go_simp; first | (go_at_call 53; refine (iPlcSide_c _ _ _ _).mono ?_; rintro e w' ⟨rfl, t, rfl⟩) | (go_at_call 79; refine (iPclListOk_c _ _ _ _ _ _ _ (Re.of (Hid.out (by assumption)) zq0) (by omega)).mono ?_; rintro e w' ⟨rfl, t, rfl⟩) | (go_at_call 77; refine (in_c _ _ _ _).mono ?_; rintro e w' ⟨rfl, rfl⟩) | skip)); (show K _ _); refine hK _ _ (show Ext _ _ from zq0) ?_; clear hK K; (try simp only [Act.put, List.setIfInBounds_toArray, List.set_cons_zero, List.set_cons_succ])))
                                        refine mix_nil ?_)
                                      | (
                                        with_reducible refine wp_region_ext (by kernel_rfl) (by kernel_rfl) ?_
                                        repeat (first | go_big_quiet_skip | (go_big_quiet_want; go_big_quiet_op; first | go_big_quiet_on | (apply Exists.intro; refine ⟨fun _ => ?_, ?_⟩; ((first | (go_at_call 53; first | exact quiet_call (iPlcSide_c _ _ _ _) | exact quiet_call2 (iPlcSide_c _ _ _ _)) | (go_at_call 79; first | exact quiet_call (iPclListOk_c _ _ _ _ _ _ _ (Re.of (Hid.out (by assumption)) zq0) (by omega)) | exact quiet_call2 (iPclListOk_c _ _ _ _ _ _ _ (Re.of (Hid.out (by assumption)) zq0) (by omega))) | (go_at_call 77; first | exact quiet_same (in_c _ _ _ _) | exact quiet_same2 (in_c _ _ _ _)))); (try rw [h1]); (try rw [h2]); (try rw [h3]); (try rw [h4]); (try rw [p1]); (try rw [p2]); (try rw [p3]); (try rw [p4]); (try rw [r1]); (try rw [r2]); (try rw [r3]); (try rw [r4]); (try rw [r5]); (try rw [r6]); (try rw [q3]); (try rw [q4]); (try rw [hp]); (try rw [hq]); go_big_quiet_on)))
                                        refine wpQuiet_nil ?_
                                        rintro _ ⟨tq, rfl⟩))
                                  go_loopw [118] (fun i wr => ∃ j : Nat, j ≤ xs.length ∧ i = .int .i64 j ∧ allI (goesTo m (plcSide m c.cell (k2 : Int))) 0 (xs.take j) = true ∧ Ext ((w.alloc (Obj.cells #[.int .i64 m.c, .int .i64 m.w] 40)).alloc (Obj.cells #[.int .i64 c.cell, .slice a1 c.wk.length c1, .int .i64 c.ground, .slice (some ⟨b3, o3, none⟩) c.outs.length c3, .slice (some ⟨b4, o4, none⟩) c.next.length c4, .slice (some ⟨b5, o5, none⟩) c.ins.length c5] 37)) wr) (fun i _ => xs.length - (intOf i).toNat)
                                  case atStart => exact ⟨0, Nat.zero_le _, rfl, rfl, zq0⟩
                                  case round =>
                                    obtain ⟨j, hj, rfl, hal, t3, rfl⟩ := hrel
                                    have HA := hid hal
                                    clear hal
                                    by_cases hlt3 : j < xs.length
                                    · exfalso
                                      rw [HNIL.out] at hlt3
                                      exact absurd hlt3 (Nat.not_lt_zero _)
                                    · have HALL := hid (allI_all (p := goesTo m (plcSide m c.cell (k2 : Int))) (xs := xs) (k := j) (by omega) HA.out)
                                      have HS := hid (show sideAt m c k2 = true by rw [HSE.out]; exact HTRUE.out)
                                      try go_wp2_with (first
                                          | fail
                                          | (
                                            with_reducible refine wp_region_mix (by kernel_rfl) (by decide +kernel) ?_
                                            repeat (first
                                              | (refine mix_pure rfl ?_; (first | go_big_quiet_skip | (go_big_quiet_want; go_big_quiet_op; go_big_quiet_on)); refine wpQuiet_nil ?_)
                                              | (refine mix_skip (by rfl) ?_; (try simp only [Act.put, List.setIfInBounds_toArray, List.set_cons_zero, List.set_cons_succ]))
                                              | (refine mix_mk rfl (by rfl) (fun K hK => ?_); (first | (go_simp; first | skip)); (show K _ _); refine hK _ _ (show Ext _ _ from zq0) ?_; clear hK K; (try simp only [Act.put, List.setIfInBounds_toArray, List.set_cons_zero, List.set_cons_succ])))
                                            refine mix_nil ?_)
                                          | (
                                            with_reducible refine wp_region_ext (by kernel_rfl) (by kernel_rfl) ?_
                                            repeat (first | go_big_quiet_skip | (go_big_quiet_want; go_big_quiet_op; first | go_big_quiet_on | (apply Exists.intro; refine ⟨fun _ => ?_, ?_⟩; (fail); (try rw [h1]); (try rw [h2]); (try rw [h3]); (try rw [h4]); (try rw [p1]); (try rw [p2]); (try rw [p3]); (try rw [p4]); (try rw [r1]); (try rw [r2]); (try rw [r3]); (try rw [r4]); (try rw [r5]); (try rw [r6]); (try rw [q3]); (try rw [q4]); (try rw [hp]); (try rw [hq]); go_big_quiet_on)))
                                            refine wpQuiet_nil ?_
                                            rintro _ ⟨tq, rfl⟩))
                                      go_roundw
                                      case rel => exact ⟨k2 + 1, by omega, by go_num, fun j hj => by
                                        rcases Nat.lt_or_ge j k2 with h9 | h9
                                        · exact HSD.out j h9
                                        · obtain rfl : j = k2 := by omega
                                          exact HS.out, zq0⟩
                                      case measure => simp [intOf]; omega
                            | false =>
                              have P3 := hid (show ¬ plcSide m c.cell (k2 : Int) = -1 by simpa using p3)
                              try go_wp2_with (first
                                  | (go_at_call 53; refine (iPlcSide_c _ _ _ _).mono ?_; rintro e w' ⟨rfl, t, rfl⟩) | (go_at_call 79; refine (iPclListOk_c _ _ _ _ _ _ _ (Re.of (Hid.out (by assumption)) zq0) (by omega)).mono ?_; rintro e w' ⟨rfl, t, rfl⟩) | (go_at_call 77; refine (in_c _ _ _ _).mono ?_; rintro e w' ⟨rfl, rfl⟩)
                                  | (
                                    with_reducible refine wp_region_mix (by kernel_rfl) (by decide +kernel) ?_
                                    repeat (first
                                      | (refine mix_pure rfl ?_; (first | go_big_quiet_skip | (go_big_quiet_want; go_big_quiet_op; go_big_quiet_on)); refine wpQuiet_nil ?_)
                                      | (refine mix_skip (by rfl) ?_; (try simp only [Act.put, List.setIfInBounds_toArray, List.set_cons_zero, List.set_cons_succ]))
                                      | (refine mix_mk rfl (by rfl) (fun K hK => ?_); (first | (go_simp; first | (go_at_call 53; refine (iPlcSide_c _ _ _ _).mono ?_; rintro e w' ⟨rfl, t, rfl⟩) | (go_at_call 79; refine (iPclListOk_c _ _ _ _ _ _ _ (Re.of (Hid.out (by assumption)) zq0) (by omega)).mono ?_; rintro e w' ⟨rfl, t, rfl⟩) | (go_at_call 77; refine (in_c _ _ _ _).mono ?_; rintro e w' ⟨rfl, rfl⟩) | skip)); (show K _ _); refine hK _ _ (show Ext _ _ from zq0) ?_; clear hK K; (try simp only [Act.put, List.setIfInBounds_toArray, List.set_cons_zero, List.set_cons_succ])))
                                    refine mix_nil ?_)
                                  | (
                                    with_reducible refine wp_region_ext (by kernel_rfl) (by kernel_rfl) ?_
                                    repeat (first | go_big_quiet_skip | (go_big_quiet_want; go_big_quiet_op; first | go_big_quiet_on | (apply Exists.intro; refine ⟨fun _ => ?_, ?_⟩; ((first | (go_at_call 53; first | exact quiet_call (iPlcSide_c _ _ _ _) | exact quiet_call2 (iPlcSide_c _ _ _ _)) | (go_at_call 79; first | exact quiet_call (iPclListOk_c _ _ _ _ _ _ _ (Re.of (Hid.out (by assumption)) zq0) (by omega)) | exact quiet_call2 (iPclListOk_c _ _ _ _ _ _ _ (Re.of (Hid.out (by assumption)) zq0) (by omega))) | (go_at_call 77; first | exact quiet_same (in_c _ _ _ _) | exact quiet_same2 (in_c _ _ _ _)))); (try rw [h1]); (try rw [h2]); (try rw [h3]); (try rw [h4]); (try rw [p1]); (try rw [p2]); (try rw [p3]); (try rw [p4]); (try rw [r1]); (try rw [r2]); (try rw [r3]); (try rw [r4]); (try rw [r5]); (try rw [r6]); (try rw [q3]); (try rw [q4]); (try rw [hp]); (try rw [hq]); go_big_quiet_on)))
                                    refine wpQuiet_nil ?_
                                    rintro _ ⟨tq, rfl⟩))
                              go_loopw [118] (fun i wr => ∃ j : Nat, j ≤ xs.length ∧ i = .int .i64 j ∧ allI (goesTo m (plcSide m c.cell (k2 : Int))) 0 (xs.take j) = true ∧ Ext ((w.alloc (Obj.cells #[.int .i64 m.c, .int .i64 m.w] 40)).alloc (Obj.cells #[.int .i64 c.cell, .slice a1 c.wk.length c1, .int .i64 c.ground, .slice (some ⟨b3, o3, none⟩) c.outs.length c3, .slice (some ⟨b4, o4, none⟩) c.next.length c4, .slice (some ⟨b5, o5, none⟩) c.ins.length c5] 37)) wr) (fun i _ => xs.length - (intOf i).toNat)
                              case atStart => exact ⟨0, Nat.zero_le _, rfl, rfl, zq0⟩
                              case round =>
                                obtain ⟨j, hj, rfl, hal, t3, rfl⟩ := hrel
                                have HA := hid hal
                                clear hal
                                by_cases hlt3 : j < xs.length
                                · obtain ⟨x, b, o, hxk, rfl, hb, g0, g1, g2, g3, g4, g5, g6, g7⟩ := at_Pcl HR3.out hlt3
                                  have HK := hid hxk
                                  have hb1 : b ≤ w.heap.size := Nat.le_of_lt hb
                                  clear hxk
                                  cases q1 : (x.kind == 1) with
                                  | false =>
                                    have HB := hid (allI_step (p := goesTo m (plcSide m c.cell (k2 : Int))) HK.out HA.out (by simp [goesTo, q1]))
                                    try go_wp2_with (first
                                        | (go_at_call 78; refine (iPlcCell_c _ _ _).mono ?_; rintro e w' ⟨rfl, t, rfl⟩)
                                        | (
                                          with_reducible refine wp_region_mix (by kernel_rfl) (by decide +kernel) ?_
                                          repeat (first
                                            | (refine mix_pure rfl ?_; (first | go_big_quiet_skip | (go_big_quiet_want; go_big_quiet_op; go_big_quiet_on)); refine wpQuiet_nil ?_)
                                            | (refine mix_skip (by rfl) ?_; (try simp only [Act.put, List.setIfInBounds_toArray, List.set_cons_zero, List.set_cons_succ]))
                                            | (refine mix_mk rfl (by rfl) (fun K hK => ?_); (first | (go_simp; first | (go_at_call 78; refine (iPlcCell_c _ _ _).mono ?_; rintro e w' ⟨rfl, t, rfl⟩) | skip)); (show K _ _); refine hK _ _ (show Ext _ _ from zq0) ?_; clear hK K; (try simp only [Act.put, List.setIfInBounds_toArray, List.set_cons_zero, List.set_cons_succ])))
                                          refine mix_nil ?_)
                                        | (
                                          with_reducible refine wp_region_ext (by kernel_rfl) (by kernel_rfl) ?_
                                          repeat (first | go_big_quiet_skip | (go_big_quiet_want; go_big_quiet_op; first | go_big_quiet_on | (apply Exists.intro; refine ⟨fun _ => ?_, ?_⟩; ((first | (go_at_call 78; first | exact quiet_call (iPlcCell_c _ _ _) | exact quiet_call2 (iPlcCell_c _ _ _)))); (try rw [h1]); (try rw [h2]); (try rw [h3]); (try rw [h4]); (try rw [p1]); (try rw [p2]); (try rw [p3]); (try rw [p4]); (try rw [r1]); (try rw [r2]); (try rw [r3]); (try rw [r4]); (try rw [r5]); (try rw [r6]); (try rw [q3]); (try rw [q4]); (try rw [hp]); (try rw [hq]); go_big_quiet_on)))
                                          refine wpQuiet_nil ?_
                                          rintro _ ⟨tq, rfl⟩))
                                    go_roundw
                                    case rel => exact ⟨j + 1, by omega, by go_num, HB.out, zq0⟩
                                    case measure => simp [intOf]; omega
                                  | true =>
                                    cases q2 : (plcCell m x.wk.at_ != plcSide m c.cell (k2 : Int)) with
                                    | true =>
                                      have E := hid (cllOk_fail_side (m := m) (c := c) hlt2 (by
                                        have h9 := allI_fail (p := goesTo m (plcSide m c.cell (k2 : Int))) HK.out (by simp only [bne, Bool.not_eq_true'] at q2; simp only [goesTo, q1, q2, Bool.not_true, Bool.or_self])
                                        rw [HSE.out]
                                        simp only [sideOk, h9, P3.out, if_false, Bool.and_false]))
                                      try go_wp2_with (first
                                          | (go_at_call 78; refine (iPlcCell_c _ _ _).mono ?_; rintro e w' ⟨rfl, t, rfl⟩)
                                          | (
                                            with_reducible refine wp_region_mix (by kernel_rfl) (by decide +kernel) ?_
                                            repeat (first
                                              | (refine mix_pure rfl ?_; (first | go_big_quiet_skip | (go_big_quiet_want; go_big_quiet_op; go_big_quiet_on)); refine wpQuiet_nil ?_)
                                              | (refine mix_skip (by rfl) ?_; (try simp only [Act.put, List.setIfInBounds_toArray, List.set_cons_zero, List.set_cons_succ]))
                                              | (refine mix_mk rfl (by rfl) (fun K hK => ?_); (first | (go_simp; first | (go_at_call 78; refine (iPlcCell_c _ _ _).mono ?_; rintro e w' ⟨rfl, t, rfl⟩) | skip)); (show K _ _); refine hK _ _ (show Ext _ _ from zq0) ?_; clear hK K; (try simp only [Act.put, List.setIfInBounds_toArray, List.set_cons_zero, List.set_cons_succ])))
                                            refine mix_nil ?_)
                                          | (
                                            with_reducible refine wp_region_ext (by kernel_rfl) (by kernel_rfl) ?_
                                            repeat (first | go_big_quiet_skip | (go_big_quiet_want; go_big_quiet_op; first | go_big_quiet_on | (apply Exists.intro; refine ⟨fun _ => ?_, ?_⟩; ((first | (go_at_call 78; first | exact quiet_call (iPlcCell_c _ _ _) | exact quiet_call2 (iPlcCell_c _ _ _)))); (try rw [h1]); (try rw [h2]); (try rw [h3]); (try rw [h4]); (try rw [p1]); (try rw [p2]); (try rw [p3]); (try rw [p4]); (try rw [r1]); (try rw [r2]); (try rw [r3]); (try rw [r4]); (try rw [r5]); (try rw [r6]); (try rw [q3]); (try rw [q4]); (try rw [hp]); (try rw [hq]); go_big_quiet_on)))
                                            refine wpQuiet_nil ?_
                                            rintro _ ⟨tq, rfl⟩))
                                      go_ret
                                      exact ⟨ret_bool (by rw [E.out]), zq0⟩
                                    | false =>
                                      have HB := hid (allI_step (p := goesTo m (plcSide m c.cell (k2 : Int))) HK.out HA.out (by simp only [bne, Bool.not_eq_false'] at q2; simp only [goesTo, q1, q2, Bool.or_true]))
                                      try go_wp2_with (first
                                          | (go_at_call 78; refine (iPlcCell_c _ _ _).mono ?_; rintro e w' ⟨rfl, t, rfl⟩)
                                          | (
                                            with_reducible refine wp_region_mix (by kernel_rfl) (by decide +kernel) ?_
                                            repeat (first
                                              | (refine mix_pure rfl ?_; (first | go_big_quiet_skip | (go_big_quiet_want; go_big_quiet_op; go_big_quiet_on)); refine wpQuiet_nil ?_)
                                              | (refine mix_skip (by rfl) ?_; (try simp only [Act.put, List.setIfInBounds_toArray, List.set_cons_zero, List.set_cons_succ]))
                                              | (refine mix_mk rfl (by rfl) (fun K hK => ?_); (first | (go_simp; first | (go_at_call 78; refine (iPlcCell_c _ _ _).mono ?_; rintro e w' ⟨rfl, t, rfl⟩) | skip)); (show K _ _); refine hK _ _ (show Ext _ _ from zq0) ?_; clear hK K; (try simp only [Act.put, List.setIfInBounds_toArray, List.set_cons_zero, List.set_cons_succ])))
                                            refine mix_nil ?_)
                                          | (
                                            with_reducible refine wp_region_ext (by kernel_rfl) (by kernel_rfl) ?_
                                            repeat (first | go_big_quiet_skip | (go_big_quiet_want; go_big_quiet_op; first | go_big_quiet_on | (apply Exists.intro; refine ⟨fun _ => ?_, ?_⟩; ((first | (go_at_call 78; first | exact quiet_call (iPlcCell_c _ _ _) | exact quiet_call2 (iPlcCell_c _ _ _)))); (try rw [h1]); (try rw [h2]); (try rw [h3]); (try rw [h4]); (try rw [p1]); (try rw [p2]); (try rw [p3]); (try rw [p4]); (try rw [r1]); (try rw [r2]); (try rw [r3]); (try rw [r4]); (try rw [r5]); (try rw [r6]); (try rw [q3]); (try rw [q4]); (try rw [hp]); (try rw [hq]); go_big_quiet_on)))
                                            refine wpQuiet_nil ?_
                                            rintro _ ⟨tq, rfl⟩))
                                      go_roundw
                                      case rel => exact ⟨j + 1, by omega, by go_num, HB.out, zq0⟩
                                      case measure => simp [intOf]; omega
                                · have HALL := hid (allI_all (p := goesTo m (plcSide m c.cell (k2 : Int))) (xs := xs) (k := j) (by omega) HA.out)
                                  have HS := hid (show sideAt m c k2 = true by rw [HSE.out]; simp only [sideOk, p1, p2, P3.out, HALL.out, if_false, Bool.and_self])
                                  try go_wp2_with (first
                                      | fail
                                      | (
                                        with_reducible refine wp_region_mix (by kernel_rfl) (by decide +kernel) ?_
                                        repeat (first
                                          | (refine mix_pure rfl ?_; (first | go_big_quiet_skip | (go_big_quiet_want; go_big_quiet_op; go_big_quiet_on)); refine wpQuiet_nil ?_)
                                          | (refine mix_skip (by rfl) ?_; (try simp only [Act.put, List.setIfInBounds_toArray, List.set_cons_zero, List.set_cons_succ]))
                                          | (refine mix_mk rfl (by rfl) (fun K hK => ?_); (first | (go_simp; first | skip)); (show K _ _); refine hK _ _ (show Ext _ _ from zq0) ?_; clear hK K; (try simp only [Act.put, List.setIfInBounds_toArray, List.set_cons_zero, List.set_cons_succ])))
                                        refine mix_nil ?_)
                                      | (
                                        with_reducible refine wp_region_ext (by kernel_rfl) (by kernel_rfl) ?_
                                        repeat (first | go_big_quiet_skip | (go_big_quiet_want; go_big_quiet_op; first | go_big_quiet_on | (apply Exists.intro; refine ⟨fun _ => ?_, ?_⟩; (fail); (try rw [h1]); (try rw [h2]); (try rw [h3]); (try rw [h4]); (try rw [p1]); (try rw [p2]); (try rw [p3]); (try rw [p4]); (try rw [r1]); (try rw [r2]); (try rw [r3]); (try rw [r4]); (try rw [r5]); (try rw [r6]); (try rw [q3]); (try rw [q4]); (try rw [hp]); (try rw [hq]); go_big_quiet_on)))
                                        refine wpQuiet_nil ?_
                                        rintro _ ⟨tq, rfl⟩))
                                  go_roundw
                                  case rel => exact ⟨k2 + 1, by omega, by go_num, fun j hj => by
                                    rcases Nat.lt_or_ge j k2 with h9 | h9
                                    · exact HSD.out j h9
                                    · obtain rfl : j = k2 := by omega
                                      exact HS.out, zq0⟩
                                  case measure => simp [intOf]; omega
                      · have E := hid (show cllOk m c = true from cllOk_true HHD.out HW.out (fun j hj => HSD.out j (by omega)))
                        try go_wp2_with (first
                            | fail
                            | (
                              with_reducible refine wp_region_mix (by kernel_rfl) (by decide +kernel) ?_
                              repeat (first
                                | (refine mix_pure rfl ?_; (first | go_big_quiet_skip | (go_big_quiet_want; go_big_quiet_op; go_big_quiet_on)); refine wpQuiet_nil ?_)
                                | (refine mix_skip (by rfl) ?_; (try simp only [Act.put, List.setIfInBounds_toArray, List.set_cons_zero, List.set_cons_succ]))
                                | (refine mix_mk rfl (by rfl) (fun K hK => ?_); (first | (go_simp; first | skip)); (show K _ _); refine hK _ _ (show Ext _ _ from zq0) ?_; clear hK K; (try simp only [Act.put, List.setIfInBounds_toArray, List.set_cons_zero, List.set_cons_succ])))
                              refine mix_nil ?_)
                            | (
                              with_reducible refine wp_region_ext (by kernel_rfl) (by kernel_rfl) ?_
                              repeat (first | go_big_quiet_skip | (go_big_quiet_want; go_big_quiet_op; first | go_big_quiet_on | (apply Exists.intro; refine ⟨fun _ => ?_, ?_⟩; (fail); (try rw [h1]); (try rw [h2]); (try rw [h3]); (try rw [h4]); (try rw [p1]); (try rw [p2]); (try rw [p3]); (try rw [p4]); (try rw [r1]); (try rw [r2]); (try rw [r3]); (try rw [r4]); (try rw [r5]); (try rw [r6]); (try rw [q3]); (try rw [q4]); (try rw [hp]); (try rw [hq]); go_big_quiet_on)))
                              refine wpQuiet_nil ?_
                              rintro _ ⟨tq, rfl⟩))
                        go_ret
                        exact ⟨ret_bool (by rw [E.out]), zq0⟩
end Go.Proofs.Ytablgohncilmfaa

namespace Go.Proofs.Ytablgohncilmfaa
open Go.RowKit
set_option linter.unusedSimpArgs false
set_option linter.unusedVariables false

theorem nodup4 {B1 B2 B3 B4 : List Nat} (m1 m2 m3 : Nat) (n1 : B1.Nodup) (n2 : B2.Nodup) (n3 : B3.Nodup) (n4 : B4.Nodup) (h1 : ∀ b ∈ B1, b < m1) (h2 : ∀ b ∈ B2, m1 ≤ b ∧ b < m2) (h3 : ∀ b ∈ B3, m2 ≤ b ∧ b < m3) (h4 : ∀ b ∈ B4, m3 ≤ b) (l1 : m1 ≤ m2) (l2 : m2 ≤ m3) : (B1 ++ (B2 ++ (B3 ++ B4))).Nodup := by
  refine List.nodup_append.2 ⟨n1, List.nodup_append.2 ⟨n2, List.nodup_append.2 ⟨n3, n4, fun a ha b hb e => ?_⟩, fun a ha b hb e => ?_⟩, fun a ha b hb e => ?_⟩
  · have := h3 a ha; have := h4 b hb; omega
  · have := h2 a ha
    rcases List.mem_append.1 hb with hb | hb
    · have := h3 b hb; omega
    · have := h4 b hb; omega
  · have := h1 a ha
    rcases List.mem_append.1 hb with hb | hb
    · have := h2 b hb; omega
    · rcases List.mem_append.1 hb with hb | hb
      · have := h3 b hb; omega
      · have := h4 b hb; omega
theorem fin_blk {X X' w' : World} {t : Xt} {b : Nat} (hb : X.heap.size ≤ b) (hlt : b < (ext X t).heap.size) (hE : Ext (ext X' t) w') (hs : X'.heap.size = X.heap.size) : w'.heap[b]? = (ext X t).heap[b]? := by
  rw [hE.block (by rw [ext_size] at hlt ⊢; omega), ext_heap, ext_heap, Array.getElem?_append, Array.getElem?_append, if_neg (by omega), if_neg (by omega), hs]
section
variable {α : Type} {cells : α → List Value} {k : Nat} {T TS : TypeId}
/-- Blocks made before were stored into. -/
theorem RowX.fin {X X' w' : World} {t : Xt} {v : Value} {xs : List α} {B : List Nat} (h : RowX (ext X t) T k cells v xs B) (hB : ∀ b ∈ B, X.heap.size ≤ b) (hE : Ext (ext X' t) w') (hs : X'.heap.size = X.heap.size) : RowX w' T k cells v xs B :=
  h.same fun b hb => fin_blk (hB b hb) (h.lt b hb) hE hs
theorem RowSS.fin {X X' w' : World} {t : Xt} {v : Value} {xss : List (List α)} {B : List Nat} (h : RowSS (ext X t) TS T k cells v xss B) (hB : ∀ b ∈ B, X.heap.size ≤ b) (hE : Ext (ext X' t) w') (hs : X'.heap.size = X.heap.size) : RowSS w' TS T k cells v xss B :=
  h.same fun b hb => fin_blk (hB b hb) (h.lt b hb) hE hs
theorem RowSS.nil {w : World} {v : Value} (h : RowX w TS 1 SlV.cells v [] []) : RowSS w TS T k cells v ([] : List (List α)) [] :=
  ⟨[], [], [], h, rfl, rfl, rfl, by simp, fun i e xs h => by simp at h⟩
/-- One more slice of one's own. -/
theorem rowss_snoc {w w1 w2 : World} {v v' : Value} {xss : List (List α)} {es : List SlV} {R R' B1 : List Nat} {Bs : List (List Nat)} {e : SlV} {xs : List α} {lo : Nat} (h1 : RowX w TS 1 SlV.cells v es R) (h2 : es.length = xss.length) (h3 : Bs.length = es.length) (h5 : (R ++ Bs.flatten).Nodup)
    (h6 : ∀ (i : Nat) (e : SlV) (xs : List α), es[i]? = some e → xss[i]? = some xs → ∃ Bi, Bs[i]? = some Bi ∧ RowX w T k cells (.slice e.a e.n e.c) xs Bi) (hlo : ∀ b ∈ R ++ Bs.flatten, lo ≤ b) (hE : Ext w w1) (hx : RowX w1 T k cells (.slice e.a e.n e.c) xs B1) (hB1 : ∀ b ∈ B1, w.heap.size ≤ b) (hlw : lo ≤ w.heap.size)
    (hr : RowX w2 TS 1 SlV.cells v' (es ++ [e]) R') (hc : Chg R w1 w2) (hR : R' = R ∨ R' = [w1.heap.size]) :
    ∃ B, RowSS w2 TS T k cells v' (xss ++ [xs]) B ∧ (∀ b ∈ B, lo ≤ b) := by
  have hlt : ∀ b ∈ R ++ Bs.flatten, b < w.heap.size := (show RowSS w TS T k cells v xss _ from ⟨es, R, Bs, h1, h2, h3, rfl, h5, h6⟩).lt
  have hs := hE.size
  have hx1 := hx.lt
  have hR' : ∀ b ∈ R', b ∉ (Bs ++ [B1]).flatten ∧ lo ≤ b := fun b hb => by
    rw [List.flatten_append, List.flatten_singleton]
    rcases hR with rfl | rfl
    · have hw := hlt b (List.mem_append_left _ hb)
      refine ⟨fun hm => ?_, hlo b (List.mem_append_left _ hb)⟩
      rcases List.mem_append.1 hm with hm | hm
      · exact nodup_r h5 b hb hm
      · have := hB1 b hm; omega
    · obtain rfl : b = w1.heap.size := by simpa using hb
      refine ⟨fun hm => ?_, by omega⟩
      rcases List.mem_append.1 hm with hm | hm
      · have := hlt _ (List.mem_append_right _ hm); omega
      · have := hx1 _ hm; omega
  refine ⟨R' ++ (Bs ++ [B1]).flatten, ⟨es ++ [e], R', Bs ++ [B1], hr, by simp [h2], by simp [h3], rfl, ?_, fun i e9 xs9 he hx9 => ?_⟩, fun b hb => ?_⟩
  · refine List.nodup_append.2 ⟨hr.nodup, ?_, fun a ha b hb e => (hR' a ha).1 (e ▸ hb)⟩
    rw [List.flatten_append, List.flatten_singleton]
    refine List.nodup_append.2 ⟨nodup_t h5, hx.nodup, fun a ha b hb e => ?_⟩
    have h7 := hlt a (List.mem_append_right _ ha); have h8 := hB1 b hb; omega
  · rcases Nat.lt_or_ge i es.length with hi | hi
    · rw [List.getElem?_append_left hi] at he
      rw [List.getElem?_append_left (by omega)] at hx9
      obtain ⟨Bi, g1, g2⟩ := h6 i e9 xs9 he hx9
      refine ⟨Bi, by rw [List.getElem?_append_left (by omega)]; exact g1, (g2.of hE).chg hc fun b hb hm => ?_⟩
      exact nodup_r h5 b hm (List.mem_flatten.2 ⟨Bi, List.mem_of_getElem? g1, hb⟩)
    · have hi2 : i = es.length := by
        have := (List.getElem?_eq_some_iff.1 he).1
        simp at this; omega
      subst hi2
      rw [List.getElem?_append_right (by omega), Nat.sub_self] at he
      rw [List.getElem?_append_right (by omega), h2, Nat.sub_self] at hx9
      simp only [List.getElem?_cons_zero, Option.some.injEq] at he hx9
      subst he hx9
      refine ⟨B1, by rw [List.getElem?_append_right (by omega), h3, Nat.sub_self]; rfl, hx.chg hc fun b hb hm => ?_⟩
      have h7 := hlt b (List.mem_append_left _ hm); have h8 := hB1 b hb; omega
  · rcases List.mem_append.1 hb with hb | hb
    · exact (hR' b hb).2
    · rw [List.flatten_append, List.flatten_singleton] at hb
      rcases List.mem_append.1 hb with hb | hb
      · exact hlo b (List.mem_append_right _ hb)
      · exact Nat.le_trans hlw (hB1 b hb)
/-- append(v, xs): one more slice of one's own. -/
theorem wp_appSS {TSS : TypeId} (hT : Try.prog.underlying TSS = some (.slice TS)) (hI : (Try.prog.info? TS).map (fun i => (i.zero, i.size, i.bytes)) = some (some (.slice none 0 0), 1, 24))
    {o : Oper} {a : Act} {K : Act → World → Prop} {Q : Exit → Act → World → Prop} {w wr : World} (lo : Nat) (s x : Operand) (ho : o.op = .call { callee := .builtin .append, args := #[s, x], argTypes := #[TSS, TSS] })
    {v : Value} {xss : List (List α)} {B B1 : List Nat} {ea : Option Addr} {en ec : Nat} {xs : List α} (hs : a.eval s = v) (h : RowSS wr TS T k cells v xss B) (hB : ∀ b ∈ B, lo ≤ b) (hE : Ext wr w) (hx : RowX w T k cells (.slice ea en ec) xs B1) (hB1 : ∀ b ∈ B1, wr.heap.size ≤ b) (hlo : lo ≤ wr.heap.size)
    {b c : Nat} {T' : TypeId} (hv : a.eval x = .slice (some ⟨b, 0, none⟩) 1 c) (hy : w.heap[b]? = some (.cells #[.slice ea en ec] T' (0, 0))) (hn : xss.length ≤ 4194304)
    (hK : ∀ v' w2 B', RowSS w2 TS T k cells v' (xss ++ [xs]) B' → Chg B w w2 → (∀ b ∈ B', lo ≤ b) → K (a.put o.dst v') w2) : o.wp Try.prog a w K Q := by
  obtain ⟨es, R, Bs, h1, h2, h3, rfl, h5, h6⟩ := h
  refine wp_appX (cells := SlV.cells) (k := 1) (bytes := 24) (z := .slice none 0 0) hT hI rfl (by decide) (by decide) (fun _ => rfl) slv_one s x ho hs (h1.of hE) ⟨ea, en, ec⟩ hv hy (by omega) fun v' w2 R' g1 g2 g3 => ?_
  obtain ⟨B', g4, g5⟩ := rowss_snoc h1 h2 h3 h5 h6 hB hE hx hB1 hlo g1 g2 g3
  exact hK v' w2 B' g4 (g2.mono fun b hb => List.mem_append_left _ hb) g5
theorem wpList_appSS {TSS : TypeId} (hT : Try.prog.underlying TSS = some (.slice TS)) (hI : (Try.prog.info? TS).map (fun i => (i.zero, i.size, i.bytes)) = some (some (.slice none 0 0), 1, 24))
    {ops : Array Oper} {rest : List Oper} {o : Oper} {a : Act} {Q : Exit → Act → World → Prop} {w wr : World} (hgd : o.guard = none) (w0 : World) (s x : Operand) (ho : o.op = .call { callee := .builtin .append, args := #[s, x], argTypes := #[TSS, TSS] })
    {v : Value} {xss : List (List α)} {B B1 : List Nat} {ea : Option Addr} {en ec : Nat} {xs : List α} (hs : a.eval s = v) (h : RowSS wr TS T k cells v xss B) (hB : ∀ b ∈ B, w0.heap.size ≤ b) (hE0 : Ext w0 wr) (hE : Ext wr w) (hx : RowX w T k cells (.slice ea en ec) xs B1) (hB1 : ∀ b ∈ B1, wr.heap.size ≤ b)
    {b c : Nat} {T' : TypeId} (hv : a.eval x = .slice (some ⟨b, 0, none⟩) 1 c) (hy : w.heap[b]? = some (.cells #[.slice ea en ec] T' (0, 0))) (hn : xss.length ≤ 4194304)
    (hK : ∀ v' t' B', RowSS (ext w0 t') TS T k cells v' (xss ++ [xs]) B' → (∀ b ∈ B', w0.heap.size ≤ b) → wpList Try.prog ops Q rest (a.put o.dst v') (ext w0 t')) : wpList Try.prog ops Q (o :: rest) a w :=
  wpList_plain hgd fun _ hk => wp_appSS hT hI w0.heap.size s x ho hs h hB hE hx hB1 hE0.size hv hy hn fun v' w2 B' g1 g2 g3 => by
    obtain ⟨t', rfl⟩ : Ext w0 w2 := Ext.of_below (Below.chg (hE0.trans hE).below g2 hB)
    exact hk _ _ (hK v' t' B' g1 g3)
end
set_option maxHeartbeats 1000000 in
theorem sCloneWlk_x (xs : List Wlk) (a : Option Addr) (n c : Nat) (w : World) (hx : Re w (.sl sWlk) [.slice a n c] (.l (xs.map Wlk.dat))) (hn : n ≤ 1048576) :
    Calls Try.prog 125 #[.slice a n c] w (MadeX w 43 5 Wlk.cells xs) := by
  have HX := hid hx
  have hl := hx.len
  clear hx
  go_enter Try.func125, Try.ntmps125
  go_wp2_with (refine wpList_cloneX (cells := Wlk.cells) (k := 5) (bytes := 40) (z := .agg #[.int .i64 0, .int .i64 0, .int .i64 0, .int .i64 0, .int .i64 0]) Try.underlying34 (by kernel_rfl) rfl (by decide) (by decide) rfl (fun _ => rfl) (fun _ _ _ _ h => rd_Wlk h) (fun _ _ h => Wlk.dat_inj h) (fun x u hu => by simp only [Wlk.cells, List.mem_cons, List.not_mem_nil, or_false] at hu; rcases hu with rfl | rfl | rfl | rfl | rfl <;> rfl) (fun w x => own_Wlk_mk w x) rfl _ _ rfl rfl (.inr ⟨_, rfl⟩) xs rfl (HX.out.of zq0) (by omega) ?_; intro a' c' t' B' hr hB; have HR := hid hr; have HB := hid hB; clear hr hB)
  go_ret
  subst hl
  exact ⟨a', c', B', rfl, zq0, HR.out.of zq0, fun b hb => Nat.le_trans zq1 (HB.out b hb)⟩
set_option maxRecDepth 100000 in
set_option maxHeartbeats 8000000 in
theorem sCllCopy_x (c : Cll) (h : CllH) (w : World) (hx : ReC w c h) (hb : BdC c) :
    Calls Try.prog 94 #[.agg #[.int .i64 c.cell, .slice h.a1 c.wk.length h.c1, .int .i64 c.ground, .slice h.a3 c.outs.length h.c3, .slice h.a4 c.next.length h.c4, .slice h.a5 c.ins.length h.c5]] w (MadeCX w c) := by
  obtain ⟨a1, c1, a3, c3, a4, c4, a5, c5⟩ := h
  obtain ⟨r1, r3, r4, r5⟩ := hx
  obtain ⟨b1, b3, bo, b4, b5⟩ := hb
  dsimp only at r1 r3 r4 r5 ⊢
  have H1 := hid r1
  have H3 := hid r3
  have H4 := hid r4
  have H5 := hid r5
  have BO := hid bo
  clear r1 r3 r4 r5 bo
  go_enter Try.func94, Try.ntmps94
  go_wp2_with (go_at_call 125; (with_reducible refine (sCloneWlk_x c.wk _ _ _ _ (H1.out.of zq0) (by omega)).mono ?_); rintro e w' ⟨p1, q1, B1, rfl, ⟨t, rfl⟩, hr1, hB1⟩; have X1 := hid hr1; have Y1 := hid hB1; clear hr1 hB1)
  refine wp_gen fun B0 hB0 => ?_
  have EB : Ext w B0 := by rw [hB0]; ((try simp only [ext_drew]); (try simp only [ext_ext]); repeat (first | exact Ext.refl _ | with_reducible apply Ext.add | with_reducible apply Ext.dr | apply Ext.alloc | apply Ext.ext | apply Ext.drew | refine Ext.trans ?_ (by assumption)))
  have X1b := hid (show RowX B0 43 5 Wlk.cells (.slice p1 c.wk.length q1) c.wk B1 by rw [hB0]; exact X1.out.fin Y1.out zq0 (by simp))
  have Y1b := hid (show ∀ b ∈ B1, w.heap.size + 2 ≤ b from fun b hb => Nat.le_trans zq1 (Y1.out b hb))
  have hM : B0.heap[w.heap.size]? = some (.cells #[.int .i64 c.cell, .slice p1 c.wk.length q1, .int .i64 c.ground, .slice a3 c.outs.length c3, .slice a4 c.next.length c4, .slice a5 c.ins.length c5] 37 (0, 0)) := by rw [hB0]; exact blk_alloc (blk_ext (blk_alloc (alloc_last rfl)))
  have hR : B0.heap[w.heap.size + 1]? = some (.cells #[.int .i64 0, .slice none 0 0, .int .i64 0, .slice none 0 0, .slice none 0 0, .slice none 0 0] 37 (0, 0)) := by rw [hB0]; exact blk_alloc (blk_ext (alloc_last (by simp)))
  have HG0 := hid (show RowX B0 62 1 SlV.cells (.slice (some ⟨w.heap.size + 1 + 1 + t.bs.size, 0, none⟩) 0 0) [] [] from .inl ⟨rfl, rfl, _, rfl, .inr ⟨_, rfl⟩⟩)
  clear hB0 X1 Y1
  have cM0 : B0.cell? ⟨w.heap.size, 0, none⟩ = some (.int .i64 c.cell) := (cell_blk hM 0).trans rfl
  have zM0 := frozen_blk hM 0
  have cM1 : B0.cell? ⟨w.heap.size, 1, none⟩ = some (.slice p1 c.wk.length q1) := (cell_blk hM 1).trans rfl
  have zM1 := frozen_blk hM 1
  have cM2 : B0.cell? ⟨w.heap.size, 2, none⟩ = some (.int .i64 c.ground) := (cell_blk hM 2).trans rfl
  have zM2 := frozen_blk hM 2
  have cM3 : B0.cell? ⟨w.heap.size, 3, none⟩ = some (.slice a3 c.outs.length c3) := (cell_blk hM 3).trans rfl
  have zM3 := frozen_blk hM 3
  have cM4 : B0.cell? ⟨w.heap.size, 4, none⟩ = some (.slice a4 c.next.length c4) := (cell_blk hM 4).trans rfl
  have zM4 := frozen_blk hM 4
  have cM5 : B0.cell? ⟨w.heap.size, 5, none⟩ = some (.slice a5 c.ins.length c5) := (cell_blk hM 5).trans rfl
  have zM5 := frozen_blk hM 5
  have cR0 : B0.cell? ⟨w.heap.size + 1, 0, none⟩ = some (.int .i64 0) := (cell_blk hR 0).trans rfl
  have zR0 := frozen_blk hR 0
  have cR1 : B0.cell? ⟨w.heap.size + 1, 1, none⟩ = some (.slice none 0 0) := (cell_blk hR 1).trans rfl
  have zR1 := frozen_blk hR 1
  have cR2 : B0.cell? ⟨w.heap.size + 1, 2, none⟩ = some (.int .i64 0) := (cell_blk hR 2).trans rfl
  have zR2 := frozen_blk hR 2
  have cR3 : B0.cell? ⟨w.heap.size + 1, 3, none⟩ = some (.slice none 0 0) := (cell_blk hR 3).trans rfl
  have zR3 := frozen_blk hR 3
  have cR4 : B0.cell? ⟨w.heap.size + 1, 4, none⟩ = some (.slice none 0 0) := (cell_blk hR 4).trans rfl
  have zR4 := frozen_blk hR 4
  have cR5 : B0.cell? ⟨w.heap.size + 1, 5, none⟩ = some (.slice none 0 0) := (cell_blk hR 5).trans rfl
  have zR5 := frozen_blk hR 5
  have lM : w.heap.size < B0.heap.size := lt_blk hM
  have lR : w.heap.size + 1 < B0.heap.size := lt_blk hR
  have HM := hid hM
  have HR := hid hR
  clear hM hR
  go_loopw [3, 4] (fun v i wr => ∃ (k : Nat) (B : List Nat), k ≤ c.outs.length ∧ i = .int .i64 k ∧ RowSS wr 62 45 8 Pcl.cells v (c.outs.take k) B ∧ (∀ b ∈ B, B0.heap.size ≤ b) ∧ Ext B0 wr) (fun _ i _ => c.outs.length - (intOf i).toNat)
  case atStart => exact ⟨0, [], Nat.zero_le _, rfl, RowSS.nil HG0.out, by simp, zq0⟩
  case round =>
    obtain ⟨k, B, hk, rfl, hg, hgb, t2, rfl⟩ := hrel
    have HG := hid hg
    have HGb := hid hgb
    clear hg hgb
    by_cases hlt : k < c.outs.length
    · obtain ⟨xs, b, o, a', c', hxk, rfl, hb, f0, hre⟩ := at_SS H3.out hlt
      have f1 : B0.cell? ⟨b, o + k, none⟩ = some (.slice a' xs.length c') := (World.cell?_of_block (a := ⟨b, o + k, none⟩) (Ext.block EB hb)).trans f0
      have hb0 : b < B0.heap.size := Nat.lt_of_lt_of_le hb EB.size
      have hxm : xs.length ≤ 1048576 := BO.out xs (List.mem_of_getElem? hxk)
      have HRe := hid (hre.of EB)
      have HEk := hid (show c.outs.take (k + 1) = c.outs.take k ++ [xs] by rw [List.take_add_one, hxk]; rfl)
      have hlen : (c.outs.take k).length ≤ 4194304 := by rw [List.length_take]; omega
      clear hxk f0 hre
      go_wp2_with (first
        | (refine wpList_cloneX (cells := Pcl.cells) (k := 8) (bytes := 64) (z := .agg #[.int .i64 0, .int .i64 0, .int .i64 0, .int .i64 0, .int .i64 0, .int .i64 0, .int .i64 0, .int .i64 0]) Try.underlying62 (by kernel_rfl) rfl (by decide) (by decide) rfl (fun _ => rfl) (fun _ _ _ _ h => rd_Pcl h) (fun _ _ h => Pcl.dat_inj h) (fun x u hu => by simp only [Pcl.cells, List.mem_cons, List.not_mem_nil, or_false] at hu; rcases hu with rfl | rfl | rfl | rfl | rfl | rfl | rfl | rfl <;> rfl) (fun w x => own_Pcl_mk w x) rfl _ _ rfl rfl (.inr ⟨_, rfl⟩) xs rfl (HRe.out.of zq0) (by omega) ?_; intro a5 c5 t5 B5 hr hB; have X5 := hid hr; have Y5 := hid hB; clear hr hB)
        | (refine wpList_appSS (wr := ext B0 t2) Try.underlying35 (by kernel_rfl) rfl B0 _ _ rfl rfl HG.out HGb.out zq0 zq0 (X5.out.of zq0) (fun b hb => Nat.le_trans zq1 (Y5.out b hb)) rfl (alloc_last zq1) hlen ?_; intro v6 t6 B6 hr hB; have X6 := hid hr; have Y6 := hid hB; clear hr hB))
      go_roundw
      case rel => exact ⟨k + 1, B6, by omega, by go_num, by rw [HEk.out]; exact X6.out, Y6.out, zq0⟩
      case measure => simp [intOf]; omega
    · have hke : k = c.outs.length := by omega
      subst hke
      rw [List.take_length] at HG
      obtain ⟨p3, q3, rfl⟩ := HG.out.slice
      go_wp2_with (first
        | (refine wpList_cloneX (cells := icells) (k := 1) (bytes := 8) (z := .int .i64 0) Try.underlying26 (by kernel_rfl) rfl (by decide) (by decide) rfl (fun _ => rfl) (fun _ _ _ _ h => rd_Int h) (fun _ _ h => idat_inj h) ione (fun w x => own_Int_mk w x) rfl _ _ rfl rfl (.inr ⟨_, rfl⟩) c.next rfl (Re.below H4.out (Below.chg (w0 := w) (Ext.below EB) (B := [w.heap.size, w.heap.size + 1]) zq2 (by simp))) (by omega) ?_; intro p4 q4 t4 B4 hr hB; have X4 := hid hr; have Y4 := hid hB; clear hr hB)
        | (refine wpList_cloneX (cells := icells) (k := 1) (bytes := 8) (z := .int .i64 0) Try.underlying26 (by kernel_rfl) rfl (by decide) (by decide) rfl (fun _ => rfl) (fun _ _ _ _ h => rd_Int h) (fun _ _ h => idat_inj h) ione (fun w x => own_Int_mk w x) rfl _ _ rfl rfl (.inr ⟨_, rfl⟩) c.ins rfl (Re.below H5.out (Below.chg (w0 := w) (Ext.below EB) (B := [w.heap.size, w.heap.size + 1]) zq2 (by simp))) (by omega) ?_; intro p5 q5 t5 B5 hr hB; have X5 := hid hr; have Y5 := hid hB; clear hr hB))
      refine bodyPost_ret (v := .agg #[.int .i64 c.cell, .slice p1 c.wk.length q1, .int .i64 c.ground, .slice p3 c.outs.length q3, .slice p4 c.next.length q4, .slice p5 c.ins.length q5]) (by simp [results, Try.results94, go_sem, cM0, cR0, cM1, cR1, cM2, cR2, cM3, cR3, cM4, cR4, cM5, cR5, lM, lR]) rfl ?_
      have l1 := X1b.out.lt
      have l3 := HG.out.lt
      have l4 := X4.out.lt
      have y4 := Y4.out
      have y5 := Y5.out
      simp only [ext_size, World.size_alloc, World.size_setCell] at l3 l4 y4 y5
      refine ⟨⟨p1, q1, p3, q3, p4, q4, p5, q5⟩, B1, B, B4, B5, rfl, Ext.of_below (Below.chg (w0 := w) (Ext.below EB) (B := [w.heap.size, w.heap.size + 1]) zq2 (by simp)), ⟨X1b.out.chg (B' := [w.heap.size, w.heap.size + 1]) zq2 (fun b hb => by have := Y1b.out b hb; simp; omega), HG.out.fin HGb.out zq0 (by simp), X4.out.fin Y4.out zq0 (by simp [go_sem]), X5.out.fin Y5.out zq0 (by simp [go_sem]), ?_⟩, ?_⟩
      · exact nodup4 B0.heap.size (B0.heap.size + t2.bs.size + 1) (B0.heap.size + t2.bs.size + 1 + t4.bs.size) X1b.out.nodup HG.out.nodup X4.out.nodup X5.out.nodup l1 (fun b hb => ⟨HGb.out b hb, by have := l3 b hb; omega⟩) (fun b hb => ⟨y4 b hb, l4 b hb⟩) (fun b hb => by have := y5 b hb; omega) (by omega) (by omega)
      · intro b hb
        rcases List.mem_append.1 hb with hb | hb
        · have := Y1b.out b hb; omega
        · rcases List.mem_append.1 hb with hb | hb
          · have := HGb.out b hb; omega
          · rcases List.mem_append.1 hb with hb | hb
            · have := y4 b hb; omega
            · have := y5 b hb; omega
end Go.Proofs.Ytablgohncilmfaa

namespace Go.Proofs.Ytablgohncilmfaa
open Go.RowKit
set_option linter.unusedSimpArgs false
set_option linter.unusedVariables false

def MkA (arr : Array Value) (T : TypeId) (v : Value) (lo hi : Nat) (w : World) : Prop := ∃ b, v = .pointer (some ⟨b, 0, none⟩) ∧ lo ≤ b ∧ b < hi ∧ w.heap[b]? = some (.cells arr T (0, 0))
theorem MkA.ext {arr : Array Value} {T : TypeId} {v : Value} {lo hi : Nat} {w w' : World} (h : MkA arr T v lo hi w) (hE : Ext w w') : MkA arr T v lo hi w' := by
  obtain ⟨b, h1, h2, h3, h4⟩ := h; exact ⟨b, h1, h2, h3, (hE.block (lt_blk h4)).trans h4⟩
theorem heap_new {X : World} {o : Obj} {b : Nat} (h : b = X.heap.size) : (X.alloc o).heap[b]? = some o := by subst h; exact heap_alloc_new _ _
theorem chg_left {B : List Nat} {Y X : World} (h : Chg B Y X) : ∃ Y', Y' = Y ∧ Chg B Y' X := ⟨Y, rfl, h⟩
theorem flow_K {P : Program} {o : Oper} {a : Act} {w : World} {Post : Act → World → Prop} {Q : Exit → Act → World → Prop} (h : ∀ K : Act → World → Prop, (∀ a' w', Post a' w' → K a' w') → o.wp P a w K Q) : o.wp P a w Post Q := h Post fun _ _ h => h

def MkX {α : Type} (T : TypeId) (k : Nat) (cells : α → List Value) (xs : List α) (v : Value) (lo hi : Nat) (w : World) : Prop := ∃ a c B, v = .slice a xs.length c ∧ RowX w T k cells (.slice a xs.length c) xs B ∧ ∀ b ∈ B, lo ≤ b ∧ b < hi
theorem MkX.ext {α : Type} {T : TypeId} {k : Nat} {cells : α → List Value} {xs : List α} {v : Value} {lo hi : Nat} {w w' : World} (h : MkX T k cells xs v lo hi w) (hE : Ext w w') : MkX T k cells xs v lo hi w' := by
  obtain ⟨a, c, B, h1, h2, h3⟩ := h; exact ⟨a, c, B, h1, h2.of hE, h3⟩
end Go.Proofs.Ytablgohncilmfaa

namespace Go.Proofs.Ytablgohncilmfaa
open Go.RowKit
set_option linter.unusedSimpArgs false
set_option linter.unusedVariables false

/-- The pairwise conditions; z: the block that is made at any time; N: the store that waits for all ahead, and for which all behind wait. -/
def gapOk (ops : Array Oper) (z N : Nat) : Bool :=
  Region.noSelect ops && decide (z < N) && decide (N < ops.size) &&
  ((ops[z]?).map fun oz => oz.after.all fun e => !Region.binds .any e).getD false &&
  ((ops[N]?).map fun oN => isMk oN.op && waits oN z && (List.range N).all fun j => waits oN j || ((ops[j]?).map fun oj => !isMk oj.op).getD false).getD false &&
  (List.range ops.size).all fun j => match ops[j]? with
    | none => false
    | some oj => (oj.after.all fun e => !Region.binds .any e || decide (e.on < j)) &&
      (bif decide (N < j) then waits oj N else true) &&
      (bif decide (j < N) && j != z then ((ops[z]?).map fun oz => oz.apart ops oj && oj.apart ops oz && !waits oj z).getD false else true) &&
      (List.range j).all fun i => match ops[i]? with
        | none => false
        | some oi => bif i == z || j == z then true else segPair ops oi oj i
section
variable {P : Program} {ops : Array Oper} {Q : Exit → Act → World → Prop} {base : World} {z N : Nat} {oz oN : Oper}

theorem gapOk_spec (h : gapOk ops z N = true) : Region.noSelect ops = true ∧ z < N ∧ N < ops.size ∧ (∀ oz, ops[z]? = some oz → ∀ e ∈ oz.after, Region.binds .any e = false) ∧
    (∀ oN, ops[N]? = some oN → isMk oN.op = true ∧ waits oN z = true ∧ ∀ j oj, j < N → ops[j]? = some oj → isMk oj.op = true → waits oN j = true) ∧
    (∀ j oj, ops[j]? = some oj → (∀ e ∈ oj.after, Region.binds .any e = true → e.on < j) ∧ (N < j → waits oj N = true) ∧
      (j < N → j ≠ z → ∀ oz, ops[z]? = some oz → oz.apart ops oj = true ∧ oj.apart ops oz = true ∧ waits oj z = false) ∧
      ∀ i oi, i < j → ops[i]? = some oi → i ≠ z → j ≠ z → segPair ops oi oj i = true) := by
  simp only [gapOk, Bool.and_eq_true, decide_eq_true_eq, List.all_eq_true, List.mem_range] at h
  obtain ⟨⟨⟨⟨⟨h1, h2⟩, h3⟩, h4⟩, h5⟩, h6⟩ := h
  refine ⟨h1, h2, h3, fun oz hz e he => ?_, fun oN hN => ?_, fun j oj hj => ?_⟩
  · rw [hz] at h4
    simp only [Option.map_some, Option.getD_some, Array.all_eq_true_iff_forall_mem, Bool.not_eq_true'] at h4
    exact h4 e he
  · rw [hN] at h5
    simp only [Option.map_some, Option.getD_some, Bool.and_eq_true, List.all_eq_true, List.mem_range] at h5
    refine ⟨h5.1.1, h5.1.2, fun j oj hj hoj hm => ?_⟩
    have := h5.2 j hj
    rw [hoj] at this
    simpa [hm] using this
  · have hlt : j < ops.size := (Array.getElem?_eq_some_iff.1 hj).1
    have h7 := h6 j hlt
    simp only [hj, Bool.and_eq_true, Array.all_eq_true_iff_forall_mem, List.all_eq_true, List.mem_range] at h7
    obtain ⟨⟨⟨q1, q2⟩, q3⟩, q4⟩ := h7
    refine ⟨fun e he hb => ?_, fun hN => ?_, fun hjN hjz oz hz => ?_, fun i oi hi hoi hiz hjz => ?_⟩
    · have := q1 e he
      rw [hb] at this
      simpa using this
    · simpa [hN] using q2
    · have hne : (j != z) = true := by simpa using hjz
      simp only [hjN, decide_true, hne, Bool.and_self, cond_true, hz, Option.map_some, Option.getD_some, Bool.and_eq_true, Bool.not_eq_true'] at q3
      exact ⟨q3.1.1, q3.1.2, q3.2⟩
    · have := q4 i hi
      simp only [hoi] at this
      have e1 : (i == z) = false := by simpa using hiz
      have e2 : (j == z) = false := by simpa using hjz
      simpa [e1, e2] using this

/-- What an operation of the walk does behind the gap. -/
def wpGap (P : Program) (ops : Array Oper) (base : World) (K : List (Nat × Nat) → Act → World → Prop) : List Nat → List (Nat × Nat) → Act → World → Prop
  | [], iv, a, w => K iv a w
  | i :: r, iv, a, w => match ops[i]? with
    | none => False
    | some o => if isMk o.op then (if Region.wanted o (yielded ops a.tmps) then ∀ W, Ext w W → o.wp P a W (fun a' w' => Ext W w' ∧ wpGap P ops base K r ((W.heap.size, w'.heap.size) :: iv) a' w') Qn else wpGap P ops base K r iv (a.put o.dst undef) w)
      else ∃ v, YieldsIf P ops (fun w' => Ext base w') o v a ∧ wpGap P ops base K r iv (a.put o.dst v) w

theorem wp_Qn' {o : Oper} {a : Act} {w : World} {K K' : Act → World → Prop} (h : ∀ a w, K a w → K' a w) (hh : o.wp P a w K Qn) : o.wp P a w K' Qn := wp_Qn h hh

variable {K : List (Nat × Nat) → Act → World → Prop}
theorem gap_mono (hK : ∀ iv a w W, K iv a w → Ext w W → K iv a W) : ∀ (l : List Nat) (iv : List (Nat × Nat)) (a : Act) (w W : World), wpGap P ops base K l iv a w → Ext w W → wpGap P ops base K l iv a W
  | [], iv, a, w, W, h, hE => hK iv a w W h hE
  | i :: r, iv, a, w, W, h, hE => by
    simp only [wpGap] at h ⊢
    split
    · rename_i hn; rw [hn] at h; exact h
    · rename_i o ho
      rw [ho] at h
      simp only at h
      split
      · rename_i hm
        rw [if_pos hm] at h
        split
        · rename_i hw
          rw [if_pos hw] at h
          exact fun W' hE' => h W' (hE.trans hE')
        · rename_i hw
          rw [if_neg hw] at h
          exact gap_mono hK r iv _ w W h hE
      · rename_i hm
        rw [if_neg hm] at h
        obtain ⟨v, hy, h⟩ := h
        exact ⟨v, hy, gap_mono hK r iv _ w W h hE⟩

theorem gap_hoist (hs : Region.noSelect ops = true) {i : Nat} {oi : Oper} (hi : ops[i]? = some oi) (hp : isMk oi.op = false) : ∀ (pre post : List Nat) (iv : List (Nat × Nat)) (a : Act) (w : World), Ext base w →
    (∀ k ∈ pre, ∃ ok, ops[k]? = some ok ∧ oi.apart ops ok = true) → wpGap P ops base K (pre ++ i :: post) iv a w →
    ∃ v, YieldsIf P ops (fun w' => Ext base w') oi v a ∧ wpGap P ops base K (pre ++ post) iv (a.put oi.dst v) w
  | [], post, iv, a, w, _, _, h => by
    simp only [List.nil_append, wpGap, hi, hp, Bool.false_eq_true, if_false] at h
    exact h
  | k :: pre, post, iv, a, w, hw, hap, h => by
    obtain ⟨ok, hok, hapk⟩ := hap k (by simp)
    have hap' : ∀ k ∈ pre, ∃ ok, ops[k]? = some ok ∧ oi.apart ops ok = true := fun k hk => hap k (by simp [hk])
    obtain ⟨h1, h2, h3⟩ := Oper.apart_spec hapk
    have hsi := fun cs b => Region.noSelect_spec hs i oi cs b hi
    have hsk := fun cs b => Region.noSelect_spec hs k ok cs b hok
    have back : ∀ (a : Act) (u v : Value), YieldsIf P ops (fun w' => Ext base w') oi v (a.put ok.dst u) → YieldsIf P ops (fun w' => Ext base w') oi v a := fun a u v hy =>
      hy.of_same (execOp_put oi hsi a ok.dst u h3).symm (wanted_put oi a ok.dst u h3).symm
    have backD : ∀ (a : Act) (d : Deferred) (v : Value), YieldsIf P ops (fun w' => Ext base w') oi v { a with defers := d :: a.defers } → YieldsIf P ops (fun w' => Ext base w') oi v a := fun a d v hy => hy.of_same rfl rfl
    simp only [List.cons_append, wpGap, hok] at h ⊢
    by_cases hm : isMk ok.op = true
    · simp only [hm, if_true] at h ⊢
      by_cases hwt : Region.wanted ok (yielded ops a.tmps) = true
      · simp only [hwt, if_true] at h
        have hwt' : ∀ v, Region.wanted ok (yielded ops (a.put oi.dst v).tmps) = true := fun v => (wanted_put ok a oi.dst v h1).trans hwt
        have hex : ∀ v, execOp (a.put oi.dst v).eval ok = execOp a.eval ok := fun v => execOp_put ok hsk a oi.dst v h1
        -- one world
        have one : ∀ W, Ext w W → ∃ v, YieldsIf P ops (fun w' => Ext base w') oi v a ∧ ok.wp P (a.put oi.dst v) W (fun a' w' => Ext W w' ∧ wpGap P ops base K (pre ++ post) ((W.heap.size, w'.heap.size) :: iv) a' w') Qn := by
          intro W hE
          have hW : Ext base W := hw.trans hE
          have h := h W hE
          have step : ∀ (a' : Act) (w' : World), Ext W w' → wpGap P ops base K (pre ++ i :: post) ((W.heap.size, w'.heap.size) :: iv) a' w' → ∃ v, YieldsIf P ops (fun w' => Ext base w') oi v a' ∧ wpGap P ops base K (pre ++ post) ((W.heap.size, w'.heap.size) :: iv) (a'.put oi.dst v) w' := fun a' w' hs' hh => gap_hoist hs hi hp pre post _ a' w' (hW.trans hs') hap' hh
          have move : ∀ (u v : Value) (w' : World), YieldsIf P ops (fun w' => Ext base w') oi v a → Ext W w' ∧ wpGap P ops base K (pre ++ i :: post) ((W.heap.size, w'.heap.size) :: iv) (a.put ok.dst u) w' → Ext W w' ∧ wpGap P ops base K (pre ++ post) ((W.heap.size, w'.heap.size) :: iv) ((a.put oi.dst v).put ok.dst u) w' := fun u v w' hv ⟨hs', hh⟩ => by
            obtain ⟨v', hy', hh'⟩ := step _ _ hs' hh
            obtain rfl := yields_unique (S := fun w' => Ext base w') hW hv (back a u v' hy')
            exact ⟨hs', by rw [Act.put_comm a v u h2]; exact hh'⟩
          unfold Oper.wp at h ⊢
          simp only [hex]
          generalize (execOp a.eval ok).run P W = r at *
          cases r with
          | halt x w' => cases x <;> simp only [Oper.upon] at h; exact False.elim h
          | ok n w' =>
            cases n <;> simp only [Oper.upon] at h ⊢
            case value u =>
              obtain ⟨v, hy, _⟩ := step _ _ h.1 h.2
              exact ⟨v, back a u v hy, move u v w' (back a u v hy) h⟩
            case skip =>
              obtain ⟨v, hy, _⟩ := step _ _ h.1 h.2
              exact ⟨v, back a _ v hy, move _ v w' (back a _ v hy) h⟩
            case defer d =>
              obtain ⟨v, hy, hh⟩ := step _ _ h.1 h.2
              have hy' := backD a d v (back _ _ v hy)
              refine ⟨v, hy', h.1, ?_⟩
              rw [Act.put_defers, Act.put_comm _ v undef h2]
              exact hh
            case enter f args =>
              obtain ⟨e, w'', fr, hR, _⟩ := id h []
              cases e with
              | panicked c => exact False.elim hR
              | outgrown => exact False.elim (no_out hR)
              | returned u =>
                obtain ⟨v, hy, _⟩ := step _ _ hR.1 hR.2
                have hv := back a u v hy
                refine ⟨v, hv, Calls.mono h fun e w3 he => ?_⟩
                cases e with
                | panicked c => exact he
                | outgrown => exact he
                | returned u' => exact move u' v w3 hv he
            case row row args =>
              obtain ⟨u, w'', hR, _⟩ := id h default []
              obtain ⟨v, hy, _⟩ := step _ _ hR.1 hR.2
              have hv := back a u v hy
              exact ⟨v, hv, Rows.mono h fun u' w3 he => move u' v w3 hv he⟩
        obtain ⟨v, hv, _⟩ := one w (Ext.refl w)
        refine ⟨v, hv, ?_⟩
        rw [if_pos (hwt' v)]
        intro W hE
        obtain ⟨v', hv', hh⟩ := one W hE
        obtain rfl := yields_unique (S := fun w' => Ext base w') hw hv hv'
        exact hh
      · simp only [hwt] at h
        obtain ⟨v, hy, hh⟩ := gap_hoist hs hi hp pre post iv _ w hw hap' h
        have hv := back a _ v hy
        refine ⟨v, hv, ?_⟩
        rw [wanted_put ok a oi.dst v h1, if_neg hwt, Act.put_comm a v undef h2]
        exact hh
    · simp only [hm] at h ⊢
      obtain ⟨u, hu, h⟩ := h
      obtain ⟨v, hy, hh⟩ := gap_hoist hs hi hp pre post iv _ w hw hap' h
      have hv := back a u v hy
      refine ⟨v, hv, u, hu.of_same (execOp_put ok hsk a oi.dst v h1) (wanted_put ok a oi.dst v h1), ?_⟩
      rw [Act.put_comm a v u h2]
      exact hh

/-- Behind the store: what is left comes in one order. -/
theorem tail_sound (hB : gapOk ops z N = true) (S : World → Prop) (hQ : ∀ c a d (v : Value) w, Q (.panic c) (Act.put a d v) w → Q (.panic c) a w) : ∀ (rem : List Nat) (listed : Array Bool) (a : Act) (w : World), listed.size = ops.size →
    rem.Pairwise (· < ·) → (∀ j ∈ rem, N < j) → (∀ j, j ∈ rem ↔ j < ops.size ∧ listed.getD j true = false) → S w → wpMix P ops S Q rem a w → wpAnyH P .any ops Q S rem.length listed a w := by
  obtain ⟨hs, hzN, hNs, _, _, hall⟩ := gapOk_spec hB
  intro rem
  generalize hn : rem.length = n
  induction n generalizing rem with
  | zero =>
    intro listed a w hsz hpw _ hmem hS h
    obtain rfl := List.eq_nil_of_length_eq_zero hn
    refine ⟨?_, h⟩
    rw [List.eq_nil_iff_forall_not_mem]
    intro j hj
    obtain ⟨h0, o, ho, _⟩ := mem_ready.1 hj
    exact absurd ((hmem j).2 ⟨(Array.getElem?_eq_some_iff.1 ho).1, h0⟩) (by simp)
  | succ n ih =>
    intro listed a w hsz hpw hgt hmem hS h
    have inrem : ∀ j, j ∈ Region.ready .any ops listed → j ∈ rem := fun j hj => by
      obtain ⟨h0, o, ho, _⟩ := mem_ready.1 hj
      exact (hmem j).2 ⟨(Array.getElem?_eq_some_iff.1 ho).1, h0⟩
    have nz : ∀ j ∈ rem, j ≠ z := fun j hj => by have := hgt j hj; omega
    have nowait : ∀ i j oi, ops[i]? = some oi → i ∈ Region.ready .any ops listed → listed.getD j true = false → waits oi j = false := fun i j oi hi hr hj => by
      obtain ⟨_, o, ho, hall⟩ := mem_ready.1 hr
      rw [hi] at ho; obtain rfl := Option.some.inj ho
      cases hwt : waits oi j with
      | false => rfl
      | true =>
        simp only [waits, Array.any_eq_true, Bool.and_eq_true, beq_iff_eq] at hwt
        obtain ⟨q, hq, hb, he⟩ := hwt
        have := hall _ (Array.getElem_mem hq) hb
        rw [he] at this
        rcases Nat.lt_or_ge j listed.size with h' | h'
        · simp [h'] at hj this; rw [hj] at this; cases this
        · simp [Array.getElem?_eq_none h'] at this
    have after : ∀ (i : Nat), i ∈ rem → ∀ (pre post : List Nat), rem = pre ++ i :: post → (∀ j, j ∈ pre ++ post ↔ j < ops.size ∧ (listed.setIfInBounds i true).getD j true = false) ∧ (pre ++ post).Pairwise (· < ·) ∧ (pre ++ post).length = n := fun i hi pre post he => by
      subst he
      have hpp := List.pairwise_append.1 hpw
      obtain ⟨hp1, hp2, hp3⟩ := hpp
      obtain ⟨hp4, hp5⟩ := List.pairwise_cons.1 hp2
      refine ⟨fun j => ?_, ?_, by simp at hn ⊢; omega⟩
      · have hij : i < listed.size := by have := ((hmem i).1 hi).1; omega
        by_cases e : i = j
        · subst e
          constructor
          · intro hj
            rcases List.mem_append.1 hj with hj | hj
            · have := hp3 _ hj i (by simp); omega
            · have := hp4 _ hj; omega
          · rintro ⟨_, hj⟩
            simp [hij] at hj
        · rw [getD_set_ne true e, ← hmem j]
          simp only [List.mem_append, List.mem_cons]
          constructor
          · rintro (hj | hj)
            · exact .inl hj
            · exact .inr (.inr hj)
          · rintro (hj | hj | hj)
            · exact .inl hj
            · exact absurd hj.symm e
            · exact .inr hj
      · exact List.pairwise_append.2 ⟨hp1, hp5, fun x hx y hy => hp3 x hx y (by simp [hy])⟩
    by_cases hp : ∃ i oi, i ∈ Region.ready .any ops listed ∧ ops[i]? = some oi ∧ isMk oi.op = false
    · obtain ⟨i, oi, hr, hi, hpure⟩ := hp
      have him := inrem i hr
      obtain ⟨pre, post, he⟩ := List.append_of_mem him
      obtain ⟨q1, q2, q3⟩ := after i him pre post he
      have hlt : ∀ k ∈ pre, k < i := fun k hk => by
        rw [he] at hpw
        exact (List.pairwise_append.1 hpw).2.2 k hk i (by simp)
      have hfree : ∀ j oj, ops[j]? = some oj → j ≠ i → listed.getD j true = false → waits oj i = false → oi.apart ops oj = true := fun j oj hj hne hun hno => by
        have hjr := (hmem j).2 ⟨(Array.getElem?_eq_some_iff.1 hj).1, hun⟩
        rcases Nat.lt_or_ge j i with hji | hji
        · exact segPair_r ((hall i oi hi).2.2.2 j oj hji hj (nz j hjr) (nz i him)) hpure (nowait i j oi hi hr hun)
        · exact segPair_l ((hall j oj hj).2.2.2 i oi (by omega) hi (nz i him) (nz j hjr)) hpure hno
      rw [he] at h
      obtain ⟨v, hy, hh⟩ := mix_hoist hs hi hpure pre post a w hS (fun k hk => by
        have hkm : k ∈ rem := by rw [he]; simp [hk]
        obtain ⟨k1, k2⟩ := (hmem k).1 hkm
        obtain ⟨ok, hok⟩ : ∃ ok, ops[k]? = some ok := ⟨_, Array.getElem?_eq_getElem k1⟩
        have hki := hlt k hk
        refine ⟨ok, hok, hfree k ok hok (by omega) k2 ?_⟩
        cases hwt : waits ok i with
        | false => rfl
        | true =>
          simp only [waits, Array.any_eq_true, Bool.and_eq_true, beq_iff_eq] at hwt
          obtain ⟨q, hq, hb, he'⟩ := hwt
          have := (hall k ok hok).1 _ (Array.getElem_mem hq) hb
          omega) h
      refine wpAnyH_first hi (Region.noSelect_spec hs) (fun c a w => hQ c a _ _ w) n listed a w (fun j oj hj hne hun hno => hfree j oj hj hne hun ?_) hr hy hS ?_
      · cases hwt : waits oj i with
        | false => rfl
        | true =>
          simp only [waits, Array.any_eq_true, Bool.and_eq_true, beq_iff_eq] at hwt
          obtain ⟨q, hq, hb, he'⟩ := hwt
          exact absurd he' (hno _ (Array.getElem_mem hq) hb)
      · exact ih (pre ++ post) q3 _ _ _ (by simp [hsz]) q2 (fun j hj => hgt j (by rw [he]; rcases List.mem_append.1 hj with h' | h' <;> simp [h'])) q1 hS hh
    · cases rem with
      | nil => simp at hn
      | cons k rest =>
        obtain ⟨k1, k2⟩ := (hmem k).1 (by simp)
        obtain ⟨ok, hok⟩ : ∃ ok, ops[k]? = some ok := ⟨_, Array.getElem?_eq_getElem k1⟩
        obtain ⟨hpk, hpr⟩ := List.pairwise_cons.1 hpw
        have hkr : k ∈ Region.ready .any ops listed := by
          refine mem_ready.2 ⟨k2, ok, hok, fun e he hb => ?_⟩
          have hlt := (hall k ok hok).1 e he hb
          cases hl : listed.getD e.on true with
          | true =>
            have : e.on < listed.size := by omega
            simp [this] at hl ⊢; exact hl
          | false =>
            have := (hmem e.on).2 ⟨by omega, hl⟩
            rcases List.mem_cons.1 this with h' | h'
            · omega
            · have := hpk _ h'; omega
        have hmk : isMk ok.op = true := by
          cases hm : isMk ok.op with
          | true => rfl
          | false => exact absurd ⟨k, ok, hkr, hok, hm⟩ hp
        have only : ∀ j, j ∈ Region.ready .any ops listed → j = k := fun j hj => by
          rcases List.mem_cons.1 (inrem j hj) with h' | h'
          · exact h'
          · exfalso
            have hkj := hpk j h'
            obtain ⟨_, oj, hoj, _⟩ := mem_ready.1 hj
            have hmj : isMk oj.op = true := by
              cases hm : isMk oj.op with
              | true => rfl
              | false => exact absurd ⟨j, oj, hj, hoj, hm⟩ hp
            have := segPair_mk ((hall j oj hoj).2.2.2 k ok hkj hok (nz k (by simp)) (nz j (by simp [h']))) hmk hmj
            rw [nowait j k oj hoj hj k2] at this
            cases this
        obtain ⟨q1, q2, q3⟩ := after k (by simp) [] rest rfl
        simp only [List.nil_append] at q1 q2 q3
        refine ⟨fun h0 => (by rw [h0] at hkr; cases hkr), fun j hj => ?_⟩
        obtain rfl := only j hj
        simp only [wpMix, hok, hmk, if_true] at h
        unfold wpOp
        simp only [hok]
        split
        · rename_i hw
          simp only [hw, if_true] at h
          exact .inl (wp_Qn (fun a' w' ⟨h1, h2⟩ => ⟨h1, ih rest q3 _ _ _ (by simp [hsz]) q2 (fun j hj => hgt j (by simp [hj])) q1 h1 h2⟩) h)
        · rename_i hw
          simp only [hw] at h
          exact ⟨hS, ih rest q3 _ _ _ (by simp [hsz]) q2 (fun j hj => hgt j (by simp [hj])) q1 hS h⟩

theorem wp_put_other {o : Oper} {d : Option Tmp} {v : Value} {a : Act} {w : World} {R : Act → World → Prop} (hsel : ∀ cs b, o.op ≠ .select cs b) (h1 : ∀ t, d = some t → t ∉ o.looksAt ops) (h2 : ∀ t, d = some t → o.dst ≠ some t)
    (h : o.wp P a w (fun a' w' => R (a'.put d v) w') Qn) : o.wp P (a.put d v) w R Qn := by
  unfold Oper.wp at h ⊢
  rw [execOp_put o hsel a d v h1]
  generalize (execOp a.eval o).run P w = r at *
  cases r with
  | halt x w' => cases x <;> simp only [Oper.upon] at h ⊢; exact False.elim h
  | ok n w' =>
    cases n <;> simp only [Oper.upon] at h ⊢
    case value u => rw [Act.put_comm a v u h2]; exact h
    case skip => rw [Act.put_comm a v undef h2]; exact h
    case defer x =>
      rw [Act.put_defers, Act.put_comm _ v undef h2]
      exact h
    case enter f args =>
      refine Calls.mono h fun e w3 he => ?_
      cases e with
      | panicked c => exact he
      | outgrown => exact he
      | returned u => simp only at he ⊢; rw [Act.put_comm a v u h2]; exact he
    case row row args => exact Rows.mono h fun u w3 he => by rw [Act.put_comm a v u h2]; exact he

def ptrTo (p : Nat) : Value := .pointer (some ⟨p, 0, none⟩)
def azPut (d : Option Tmp) (az : Option Nat) (a : Act) : Act := match az with
  | none => a
  | some p => a.put d (ptrTo p)
/-- The store, with the block that was made at any time handed out. -/
def gapK (P : Program) (ops : Array Oper) (Q : Exit → Act → World → Prop) (base : World) (N : Nat) (oz oN : Oper) (zobj : Obj) (iv : List (Nat × Nat)) (a : Act) (w : World) : Prop :=
  ∀ W p, Ext w W → Ext base W → base.heap.size ≤ p → W.heap[p]? = some zobj → (∀ q ∈ iv, p < q.1 ∨ q.2 ≤ p) →
    oN.wp P (a.put oz.dst (ptrTo p)) W (fun a' w' => Ext base w' ∧ wpMix P ops (fun w' => Ext base w') Q (List.range' (N + 1) (ops.size - (N + 1))) a' w') Qn
theorem gapK_mono {zobj : Obj} (iv : List (Nat × Nat)) (a : Act) (w W : World) (h : gapK P ops Q base N oz oN zobj iv a w) (hE : Ext w W) : gapK P ops Q base N oz oN zobj iv a W :=
  fun W' p hE' => h W' p (hE.trans hE')

theorem gap_sound {zobj : Obj} (hB : gapOk ops z N = true) (hz : ops[z]? = some oz) (hN : ops[N]? = some oN) (hgz : oz.guard = none) (hgN : oN.guard = none) (hmz : isMk oz.op = true)
    (hrun : ∀ (a : Act) (w : World), (execOp a.eval oz).run P w = .ok (.value (ptrTo w.heap.size)) (w.alloc zobj)) (hQ : ∀ c a d (v : Value) w, Q (.panic c) (Act.put a d v) w → Q (.panic c) a w) :
    ∀ (n : Nat) (rem : List Nat) (listed : Array Bool) (a : Act) (az : Option Nat) (iv : List (Nat × Nat)) (w : World), listed.size = ops.size → rem.Pairwise (· < ·) → n = rem.length + (if az.isNone then 1 else 0) →
      (∀ j, j ∈ rem ↔ j < N ∧ j ≠ z ∧ listed.getD j true = false) → listed.getD z true = az.isSome → (∀ j, N ≤ j → j < ops.size → listed.getD j true = false) → Ext base w → (∀ q ∈ iv, q.2 ≤ w.heap.size) →
      (∀ p, az = some p → base.heap.size ≤ p ∧ w.heap[p]? = some zobj ∧ ∀ q ∈ iv, p < q.1 ∨ q.2 ≤ p) → wpGap P ops base (gapK P ops Q base N oz oN zobj) rem iv a w →
      wpAnyH P .any ops Q (fun w' => Ext base w') (n + (ops.size - N)) listed (azPut oz.dst az a) w := by
  obtain ⟨hs, hzN, hNs, hzf, hNw, hall⟩ := gapOk_spec hB
  have wantz : ∀ y, Region.wanted oz y = true := fun y => by simp [Region.wanted, hgz]
  have wantN : ∀ y, Region.wanted oN y = true := fun y => by simp [Region.wanted, hgN]
  intro n
  induction n with
  | zero =>
    intro rem listed a az iv w hsz hpw hn hmem hlz hge hE hiv haz h
    obtain rfl : rem = [] := List.eq_nil_of_length_eq_zero (by omega)
    cases az with
    | none => simp at hn
    | some p =>
      have nowait : ∀ i j oi, ops[i]? = some oi → i ∈ Region.ready .any ops listed → listed.getD j true = false → waits oi j = false := fun i j oi hi hr hj => by
        obtain ⟨_, o, ho, hall⟩ := mem_ready.1 hr
        rw [hi] at ho; obtain rfl := Option.some.inj ho
        cases hwt : waits oi j with
        | false => rfl
        | true =>
          simp only [waits, Array.any_eq_true, Bool.and_eq_true, beq_iff_eq] at hwt
          obtain ⟨q, hq, hb, he⟩ := hwt
          have := hall _ (Array.getElem_mem hq) hb
          rw [he] at this
          rcases Nat.lt_or_ge j listed.size with h' | h'
          · simp [h'] at hj this; rw [hj] at this; cases this
          · simp [Array.getElem?_eq_none h'] at this
      have lst : ∀ j, j < N → listed.getD j true = true := fun j hj => by
        by_cases e : j = z
        · subst e; rw [hlz]; rfl
        · cases hl : listed.getD j true with
          | true => rfl
          | false => exact absurd ((hmem j).2 ⟨hj, e, hl⟩) (by simp)
      have hNr : N ∈ Region.ready .any ops listed := by
        refine mem_ready.2 ⟨hge N (Nat.le_refl _) hNs, oN, hN, fun e he hb => ?_⟩
        have hlt := (hall N oN hN).1 e he hb
        have h1 := lst e.on hlt
        have : e.on < listed.size := by omega
        simp [this] at h1 ⊢; exact h1
      have only : ∀ j, j ∈ Region.ready .any ops listed → j = N := fun j hj => by
        obtain ⟨h0, oj, hoj, _⟩ := mem_ready.1 hj
        have hjs := (Array.getElem?_eq_some_iff.1 hoj).1
        rcases Nat.lt_trichotomy j N with h' | h' | h'
        · rw [lst j h'] at h0; cases h0
        · exact h'
        · have h1 := (hall j oj hoj).2.1 h'
          rw [nowait j N oj hoj hj (hge N (Nat.le_refl _) hNs)] at h1
          cases h1
      rw [show 0 + (ops.size - N) = (ops.size - (N + 1)) + 1 by omega]
      refine ⟨fun h0 => (by rw [h0] at hNr; cases hNr), fun j hj => ?_⟩
      obtain rfl := only j hj
      obtain ⟨hp1, hp2, hp3⟩ := haz p rfl
      have h1 := h w p (Ext.refl w) hE hp1 hp2 hp3
      unfold wpOp
      simp only [hN, wantN, if_true]
      refine .inl (wp_Qn (fun a' w' ⟨q1, q2⟩ => ⟨q1, ?_⟩) h1)
      have h2 := tail_sound hB (fun w' => Ext base w') hQ (List.range' (j + 1) (ops.size - (j + 1))) (listed.setIfInBounds j true) a' w' (by simp [hsz]) List.pairwise_lt_range' (fun k hk => by simp only [List.mem_range'_1] at hk; omega) (fun k => by
        simp only [List.mem_range'_1]
        constructor
        · intro hk
          refine ⟨by omega, ?_⟩
          rw [getD_set_ne true (by omega)]
          exact hge k (by omega) (by omega)
        · rintro ⟨k1, k2⟩
          refine ⟨?_, by omega⟩
          rcases Nat.lt_trichotomy k j with h' | h' | h'
          · rw [getD_set_ne true (by omega), lst k h'] at k2; cases k2
          · subst h'
            have : k < listed.size := by omega
            simp [this] at k2
          · omega) q1 q2
      simpa using h2
  | succ n ih =>
    intro rem listed a az iv w hsz hpw hn hmem hlz hge hE hiv haz h
    have nowait : ∀ i j oi, ops[i]? = some oi → i ∈ Region.ready .any ops listed → listed.getD j true = false → waits oi j = false := fun i j oi hi hr hj => by
      obtain ⟨_, o, ho, hall⟩ := mem_ready.1 hr
      rw [hi] at ho; obtain rfl := Option.some.inj ho
      cases hwt : waits oi j with
      | false => rfl
      | true =>
        simp only [waits, Array.any_eq_true, Bool.and_eq_true, beq_iff_eq] at hwt
        obtain ⟨q, hq, hb, he⟩ := hwt
        have := hall _ (Array.getElem_mem hq) hb
        rw [he] at this
        rcases Nat.lt_or_ge j listed.size with h' | h'
        · simp [h'] at hj this; rw [hj] at this; cases this
        · simp [Array.getElem?_eq_none h'] at this
    have low : ∀ j, j ∈ Region.ready .any ops listed → j = z ∨ j ∈ rem ∨ j = N := fun j hj => by
      obtain ⟨h0, oj, hoj, _⟩ := mem_ready.1 hj
      rcases Nat.lt_trichotomy j N with h' | h' | h'
      · by_cases e : j = z
        · exact .inl e
        · exact .inr (.inl ((hmem j).2 ⟨h', e, h0⟩))
      · exact .inr (.inr h')
      · have h1 := (hall j oj hoj).2.1 h'
        rw [nowait j N oj hoj hj (hge N (Nat.le_refl _) hNs)] at h1
        cases h1
    have headmk : (¬ ∃ i oi, i ∈ Region.ready .any ops listed ∧ ops[i]? = some oi ∧ isMk oi.op = false) → ∀ p k rest, az = some p → rem = k :: rest → ∃ ok, ops[k]? = some ok ∧ isMk ok.op = true := fun hp p k rest haz1 hrem => by
      obtain ⟨k1, k0, k2⟩ := (hmem k).1 (by rw [hrem]; simp)
      obtain ⟨ok, hok⟩ : ∃ ok, ops[k]? = some ok := ⟨_, Array.getElem?_eq_getElem (by omega)⟩
      refine ⟨ok, hok, ?_⟩
      cases hm : isMk ok.op with
      | true => rfl
      | false =>
        exfalso
        refine hp ⟨k, ok, mem_ready.2 ⟨k2, ok, hok, fun e he hb => ?_⟩, hok, hm⟩
        have hlt := (hall k ok hok).1 e he hb
        rw [hrem] at hpw
        obtain ⟨hpk, _⟩ := List.pairwise_cons.1 hpw
        cases hl : listed.getD e.on true with
        | true =>
          have : e.on < listed.size := by omega
          simp [this] at hl ⊢; exact hl
        | false =>
          by_cases ez : e.on = z
          · rw [ez, hlz, haz1] at hl; cases hl
          · have := (hmem e.on).2 ⟨by omega, ez, hl⟩
            rw [hrem] at this
            rcases List.mem_cons.1 this with h' | h'
            · omega
            · have := hpk _ h'; omega
    have after : ∀ (i : Nat), i ∈ rem → ∀ (pre post : List Nat), rem = pre ++ i :: post → (∀ j, j ∈ pre ++ post ↔ j < N ∧ j ≠ z ∧ (listed.setIfInBounds i true).getD j true = false) ∧ (pre ++ post).Pairwise (· < ·) ∧ (pre ++ post).length + 1 = rem.length ∧ (listed.setIfInBounds i true).getD z true = az.isSome ∧ (∀ j, N ≤ j → j < ops.size → (listed.setIfInBounds i true).getD j true = false) := fun i hi pre post he => by
      have hi1 := (hmem i).1 hi
      subst he
      have hpp := List.pairwise_append.1 hpw
      obtain ⟨hp1, hp2, hp3⟩ := hpp
      obtain ⟨hp4, hp5⟩ := List.pairwise_cons.1 hp2
      refine ⟨fun j => ?_, ?_, by simp; omega, ?_, fun j h1 h2 => ?_⟩
      · have hij : i < listed.size := by omega
        by_cases e : i = j
        · subst e
          constructor
          · intro hj
            rcases List.mem_append.1 hj with hj | hj
            · have := hp3 _ hj i (by simp); omega
            · have := hp4 _ hj; omega
          · rintro ⟨_, _, hj⟩
            simp [hij] at hj
        · rw [getD_set_ne true e, ← hmem j]
          simp only [List.mem_append, List.mem_cons]
          constructor
          · rintro (hj | hj)
            · exact .inl hj
            · exact .inr (.inr hj)
          · rintro (hj | hj | hj)
            · exact .inl hj
            · exact absurd hj.symm e
            · exact .inr hj
      · exact List.pairwise_append.2 ⟨hp1, hp5, fun x hx y hy => hp3 x hx y (by simp [hy])⟩
      · rw [getD_set_ne true (by omega)]; exact hlz
      · rw [getD_set_ne true (by omega)]; exact hge j h1 h2
    rw [show n + 1 + (ops.size - N) = (n + (ops.size - N)) + 1 by omega]
    by_cases hp : ∃ i oi, i ∈ Region.ready .any ops listed ∧ ops[i]? = some oi ∧ isMk oi.op = false
    · obtain ⟨i, oi, hr, hi, hpure⟩ := hp
      have him : i ∈ rem := by
        rcases low i hr with e | e | e
        · subst e; rw [hz] at hi; obtain rfl := Option.some.inj hi; rw [hmz] at hpure; cases hpure
        · exact e
        · subst e; rw [hN] at hi; obtain rfl := Option.some.inj hi; rw [(hNw oN hN).1] at hpure; cases hpure
      have hi1 := (hmem i).1 him
      obtain ⟨pre, post, he⟩ := List.append_of_mem him
      obtain ⟨q1, q2, q3, q4, q5⟩ := after i him pre post he
      have hlt : ∀ k ∈ pre, k < i := fun k hk => by
        rw [he] at hpw
        exact (List.pairwise_append.1 hpw).2.2 k hk i (by simp)
      obtain ⟨apz1, apz2, _⟩ := (hall i oi hi).2.2.1 hi1.1 hi1.2.1 oz hz
      have hfree : ∀ j oj, ops[j]? = some oj → j ≠ i → listed.getD j true = false → waits oj i = false → oi.apart ops oj = true := fun j oj hj hne hun hno => by
        by_cases ez : j = z
        · subst ez; rw [hz] at hj; obtain rfl := Option.some.inj hj; exact apz2
        · rcases Nat.lt_or_ge j i with hji | hji
          · exact segPair_r ((hall i oi hi).2.2.2 j oj hji hj ez hi1.2.1) hpure (nowait i j oi hi hr hun)
          · exact segPair_l ((hall j oj hj).2.2.2 i oi (by omega) hi hi1.2.1 ez) hpure hno
      rw [he] at h
      obtain ⟨v, hy, hh⟩ := gap_hoist hs hi hpure pre post iv a w hE (fun k hk => by
        have hkm : k ∈ rem := by rw [he]; simp [hk]
        obtain ⟨k1, k0, k2⟩ := (hmem k).1 hkm
        obtain ⟨ok, hok⟩ : ∃ ok, ops[k]? = some ok := ⟨_, Array.getElem?_eq_getElem (by omega)⟩
        have hki := hlt k hk
        refine ⟨ok, hok, hfree k ok hok (by omega) k2 ?_⟩
        cases hwt : waits ok i with
        | false => rfl
        | true =>
          simp only [waits, Array.any_eq_true, Bool.and_eq_true, beq_iff_eq] at hwt
          obtain ⟨q, hq, hb, he'⟩ := hwt
          have := (hall k ok hok).1 _ (Array.getElem_mem hq) hb
          omega) h
      obtain ⟨z1, z2, z3⟩ := Oper.apart_spec apz1
      have hy' : YieldsIf P ops (fun w' => Ext base w') oi v (azPut oz.dst az a) := by
        cases az with
        | none => exact hy
        | some p => exact hy.of_same (execOp_put oi (fun cs b => Region.noSelect_spec hs i oi cs b hi) a oz.dst _ z1) (wanted_put oi a oz.dst _ z1)
      have h2 := ih (pre ++ post) (listed.setIfInBounds i true) (a.put oi.dst v) az iv w (by simp [hsz]) q2 (by omega) q1 q4 q5 hE hiv haz hh
      have e2 : (azPut oz.dst az (a.put oi.dst v)) = (azPut oz.dst az a).put oi.dst v := by
        cases az with
        | none => rfl
        | some p => exact (Act.put_comm a (ptrTo p) v z2).symm
      rw [e2] at h2
      refine wpAnyH_first hi (Region.noSelect_spec hs) (fun c a w => hQ c a _ _ w) _ listed _ w (fun j oj hj hne hun hno => hfree j oj hj hne hun ?_) hr hy' hE h2
      cases hwt : waits oj i with
      | false => rfl
      | true =>
        simp only [waits, Array.any_eq_true, Bool.and_eq_true, beq_iff_eq] at hwt
        obtain ⟨q, hq, hb, he'⟩ := hwt
        exact absurd he' (hno _ (Array.getElem_mem hq) hb)
    · have nonempty : Region.ready .any ops listed ≠ [] := by
        intro h0
        have key : ∃ j, j ∈ Region.ready .any ops listed := by
          cases az with
          | none => exact ⟨z, mem_ready.2 ⟨by rw [hlz]; rfl, oz, hz, fun e he hb => by rw [hzf oz hz e he] at hb; cases hb⟩⟩
          | some p =>
            cases rem with
            | nil => simp at hn
            | cons k rest =>
              obtain ⟨k1, k0, k2⟩ := (hmem k).1 (by simp)
              obtain ⟨ok, hok⟩ : ∃ ok, ops[k]? = some ok := ⟨_, Array.getElem?_eq_getElem (by omega)⟩
              obtain ⟨hpk, _⟩ := List.pairwise_cons.1 hpw
              refine ⟨k, mem_ready.2 ⟨k2, ok, hok, fun e he hb => ?_⟩⟩
              have hlt := (hall k ok hok).1 e he hb
              cases hl : listed.getD e.on true with
              | true =>
                have : e.on < listed.size := by omega
                simp [this] at hl ⊢; exact hl
              | false =>
                by_cases ez : e.on = z
                · rw [ez, hlz] at hl; cases hl
                · have := (hmem e.on).2 ⟨by omega, ez, hl⟩
                  rcases List.mem_cons.1 this with h' | h'
                  · omega
                  · have := hpk _ h'; omega
        obtain ⟨j, hj⟩ := key
        rw [h0] at hj; cases hj
      refine ⟨fun h0 => absurd h0 nonempty, fun j hj => ?_⟩
      have notN : j ≠ N := fun ejN => by
        subst ejN
        cases haz1 : az with
        | none =>
          have h1 := (hNw oN hN).2.1
          rw [nowait j z oN hN hj (by rw [hlz, haz1]; rfl)] at h1
          cases h1
        | some p =>
          cases hrem : rem with
          | nil => rw [haz1, hrem] at hn; simp at hn
          | cons k rest =>
            obtain ⟨ok, hok, hmk⟩ := headmk hp p k rest haz1 hrem
            have hk := (hmem k).1 (by rw [hrem]; simp)
            have h1 := (hNw oN hN).2.2 k ok hk.1 hok hmk
            rw [nowait j k oN hN hj hk.2.2] at h1
            cases h1
      rcases low j hj with ez | hjm | ejN
      rotate_left 2
      · exact absurd ejN notN
      · subst ez
        have haz0 : az = none := by
          have h0 := (mem_ready.1 hj).1
          rw [hlz] at h0
          cases az with
          | none => rfl
          | some p => cases h0
        subst haz0
        unfold wpOp
        simp only [hz, wantz, if_true]
        refine .inl ?_
        unfold Oper.wp
        rw [hrun]
        simp only [Oper.upon]
        have hE' : Ext w (w.alloc zobj) := (Ext.refl w).alloc zobj
        refine ⟨hE.trans hE', ?_⟩
        exact ih rem (listed.setIfInBounds j true) a (some w.heap.size) iv (w.alloc zobj) (by simp [hsz]) hpw (by simpa using hn) (fun k => by
          by_cases e : j = k
          · subst e
            constructor
            · intro hk; exact absurd rfl ((hmem j).1 hk).2.1
            · rintro ⟨_, h', _⟩; exact absurd rfl h'
          · rw [getD_set_ne true e, hmem k]) (by
          have : j < listed.size := by omega
          simp [this]) (fun k h1 h2 => by rw [getD_set_ne true (by omega)]; exact hge k h1 h2) (hE.trans hE') (fun q hq => Nat.le_trans (hiv q hq) hE'.size) (fun p hp' => by
          obtain rfl := Option.some.inj hp'
          exact ⟨hE.size, heap_alloc_new w zobj, fun q hq => .inr (hiv q hq)⟩) (gap_mono (gapK_mono (zobj := zobj)) rem iv a w _ h hE')
      · obtain ⟨_, oj, hoj, _⟩ := mem_ready.1 hj
        have hmj : isMk oj.op = true := by
          cases hm : isMk oj.op with
          | true => rfl
          | false => exact absurd ⟨j, oj, hj, hoj, hm⟩ hp
        cases rem with
        | nil => simp at hjm
        | cons k rest =>
          obtain ⟨k1, k0, k2⟩ := (hmem k).1 (by simp)
          obtain ⟨ok, hok⟩ : ∃ ok, ops[k]? = some ok := ⟨_, Array.getElem?_eq_getElem (by omega)⟩
          obtain ⟨hpk, _⟩ := List.pairwise_cons.1 hpw
          have ejk : j = k := by
            rcases List.mem_cons.1 hjm with h' | h'
            · exact h'
            · exfalso
              have hkj := hpk j h'
              have hj1 := (hmem j).1 hjm
              have hmk : isMk ok.op = true := by
                cases hm : isMk ok.op with
                | true => rfl
                | false =>
                  -- it would be ready, or waits
                  have hsp := (hall j oj hoj).2.2.2 k ok hkj hok k0 hj1.2.1
                  exfalso
                  refine hp ⟨k, ok, ?_, hok, hm⟩
                  refine mem_ready.2 ⟨k2, ok, hok, fun e he hb => ?_⟩
                  have hlt := (hall k ok hok).1 e he hb
                  cases hl : listed.getD e.on true with
                  | true =>
                    have : e.on < listed.size := by omega
                    simp [this] at hl ⊢; exact hl
                  | false =>
                    by_cases ez : e.on = z
                    · obtain ⟨_, _, hwz⟩ := (hall k ok hok).2.2.1 k1 k0 oz hz
                      have : waits ok z = true := by
                        simp only [waits, Array.any_eq_true, Bool.and_eq_true, beq_iff_eq]
                        obtain ⟨x, hx, hxe⟩ := Array.mem_iff_getElem.1 he
                        exact ⟨x, hx, by rw [hxe]; exact hb, by rw [hxe]; exact ez⟩
                      rw [this] at hwz; cases hwz
                    · have := (hmem e.on).2 ⟨by omega, ez, hl⟩
                      rcases List.mem_cons.1 this with h'' | h''
                      · omega
                      · have := hpk _ h''; omega
              have := segPair_mk ((hall j oj hoj).2.2.2 k ok hkj hok k0 hj1.2.1) hmk hmj
              rw [nowait j k oj hoj hj k2] at this
              cases this
          subst ejk
          rw [hok] at hoj; obtain rfl := Option.some.inj hoj
          obtain ⟨q1, q2, q3, q4, q5⟩ := after j (by simp) [] rest rfl
          simp only [List.nil_append] at q1 q2 q3
          obtain ⟨apz1, apz2, _⟩ := (hall j ok hok).2.2.1 k1 k0 oz hz
          obtain ⟨z1, z2, z3⟩ := Oper.apart_spec apz1
          have hsel := fun cs b => Region.noSelect_spec hs j ok cs b hok
          simp only [wpGap, hok, hmj, if_true] at h
          simp only [List.length_cons] at hn q3
          have nx : ∀ (a' : Act) (w' : World), Ext w w' → wpGap P ops base (gapK P ops Q base N oz oN zobj) rest ((w.heap.size, w'.heap.size) :: iv) a' w' →
              wpAnyH P .any ops Q (fun w' => Ext base w') (n + (ops.size - N)) (listed.setIfInBounds j true) (azPut oz.dst az a') w' := fun a' w' hE' hh =>
            ih rest (listed.setIfInBounds j true) a' az ((w.heap.size, w'.heap.size) :: iv) w' (by simp [hsz]) q2 (by omega) q1 q4 q5 (hE.trans hE') (fun q hq => by
              rcases List.mem_cons.1 hq with rfl | hq
              · exact Nat.le_refl _
              · exact Nat.le_trans (hiv q hq) hE'.size) (fun p hp' => by
              obtain ⟨p1, p2, p3⟩ := haz p hp'
              have hlt : p < w.heap.size := (Array.getElem?_eq_some_iff.1 p2).1
              refine ⟨p1, (hE'.block hlt).trans p2, fun q hq => ?_⟩
              rcases List.mem_cons.1 hq with rfl | hq
              · exact .inl hlt
              · exact p3 q hq) hh
          unfold wpOp
          simp only [hok]
          cases az with
          | none =>
            by_cases hw : Region.wanted ok (yielded ops a.tmps) = true
            · simp only [hw, if_true] at h
              rw [if_pos (show Region.wanted ok (yielded ops (azPut oz.dst none a).tmps) = true from hw)]
              exact .inl (wp_Qn (fun a' w' ⟨h1, h2⟩ => ⟨hE.trans h1, nx a' w' h1 h2⟩) (h w (Ext.refl w)))
            · simp only [hw] at h
              rw [if_neg (show ¬ Region.wanted ok (yielded ops (azPut oz.dst none a).tmps) = true from hw)]
              refine ⟨hE, ?_⟩
              exact ih rest (listed.setIfInBounds j true) (a.put ok.dst undef) none iv w (by simp [hsz]) q2 (by simp at hn ⊢; omega) q1 q4 q5 hE hiv haz h
          | some p =>
            have ew := wanted_put ok a oz.dst (ptrTo p) z1
            by_cases hw : Region.wanted ok (yielded ops a.tmps) = true
            · simp only [hw, if_true] at h
              rw [if_pos (show Region.wanted ok (yielded ops (azPut oz.dst (some p) a).tmps) = true from ew.trans hw)]
              refine .inl (wp_Qn (K := fun a' w' => Ext base w' ∧ wpAnyH P .any ops Q (fun w' => Ext base w') (n + (ops.size - N)) (listed.setIfInBounds j true) a' w') (fun _ _ h => h) ?_)
              refine wp_put_other (ops := ops) (a := a) (d := oz.dst) (v := ptrTo p) hsel z1 z2 ?_
              exact wp_Qn' (fun a' w' ⟨h1, h2⟩ => ⟨hE.trans h1, nx a' w' h1 h2⟩) (h w (Ext.refl w))
            · simp only [hw] at h
              rw [if_neg (show ¬ Region.wanted ok (yielded ops (azPut oz.dst (some p) a).tmps) = true from fun h' => hw (ew.symm.trans h'))]
              refine ⟨hE, ?_⟩
              show wpAnyH P .any ops Q (fun w' => Ext base w') (n + (ops.size - N)) (listed.setIfInBounds j true) ((a.put oz.dst (ptrTo p)).put ok.dst undef) w
              rw [Act.put_comm a (ptrTo p) undef z2]
              exact ih rest (listed.setIfInBounds j true) (a.put ok.dst undef) (some p) iv w (by simp [hsz]) q2 (by simp at hn ⊢; omega) q1 q4 q5 hE hiv haz h
end
end Go.Proofs.Ytablgohncilmfaa

namespace Go.Proofs.Ytablgohncilmfaa
open Go.RowKit
set_option linter.unusedSimpArgs false
set_option linter.unusedVariables false

@[go_sem] theorem drew_size' (w : World) : w.drew.heap.size = w.heap.size := rfl
@[go_sem] theorem drew_cell'' (w : World) (a : Addr) : w.drew.cell? a = w.cell? a := rfl
@[go_sem] theorem drew_frozen'' (w : World) (a : Addr) : w.drew.frozen? a = w.frozen? a := rfl
section
variable {P : Program} {ops : Array Oper} {Q : Exit → Act → World → Prop} {base : World} {K : List (Nat × Nat) → Act → World → Prop}
def wpGapL (P : Program) (ops : Array Oper) (base : World) (K : List (Nat × Nat) → Act → World → Prop) : List Oper → List (Nat × Nat) → Act → World → Prop
  | [], iv, a, w => K iv a w
  | o :: r, iv, a, w => if isMk o.op then (if Region.wanted o (yielded ops a.tmps) then ∀ W, Ext w W → o.wp P a W (fun a' w' => Ext W w' ∧ wpGapL P ops base K r ((W.heap.size, w'.heap.size) :: iv) a' w') Qn else wpGapL P ops base K r iv (a.put o.dst undef) w)
      else ∃ v, YieldsIf P ops (fun w' => ∃ t, w' = ext base t) o v a ∧ wpGapL P ops base K r iv (a.put o.dst v) w
theorem gap_of_list {K' : List (Nat × Nat) → Act → World → Prop} (hK : ∀ iv a w, K iv a w → K' iv a w) : ∀ (l : List Oper) (rem : List Nat) (iv : List (Nat × Nat)) (a : Act) (w : World), rem.map (fun i => ops[i]?) = l.map some → wpGapL P ops base K l iv a w → wpGap P ops base K' rem iv a w
  | [], rem, iv, a, w, hl, h => by
    obtain rfl : rem = [] := by simpa using hl
    exact hK iv a w h
  | o :: l, rem, iv, a, w, hl, h => by
    cases rem with
    | nil => simp at hl
    | cons i rem =>
      simp only [List.map_cons, List.cons.injEq] at hl
      simp only [wpGap, hl.1]
      simp only [wpGapL] at h
      split
      · rename_i hm
        rw [if_pos hm] at h
        split
        · rename_i hw
          rw [if_pos hw] at h
          exact fun W hE => wp_Qn' (fun a' w' ⟨h1, h2⟩ => ⟨h1, gap_of_list hK l rem _ a' w' hl.2 h2⟩) (h W hE)
        · rename_i hw
          rw [if_neg hw] at h
          exact gap_of_list hK l rem iv _ w hl.2 h
      · rename_i hm
        rw [if_neg hm] at h
        obtain ⟨v, hy, h⟩ := h
        exact ⟨v, hy, gap_of_list hK l rem iv _ w hl.2 h⟩

theorem gap_pure {o : Oper} {r : List Oper} {iv : List (Nat × Nat)} {a : Act} {w : World} (hk : isMk o.op = false) (h : wpQuiet P ops (fun w' => ∃ t, w' = ext base t) (fun a' => wpGapL P ops base K r iv a' w) [o] a) : wpGapL P ops base K (o :: r) iv a w := by
  unfold wpGapL
  rw [if_neg (by rw [hk]; decide)]
  unfold wpQuiet at h
  split at h
  · rename_i hw
    obtain ⟨v, h1, h2⟩ := h
    exact ⟨v, .inl ⟨hw, fun w hS => value_of_quiet hk (h1 w hS)⟩, h2⟩
  · rename_i hw
    exact ⟨undef, .inr ⟨by simpa using hw, rfl⟩, h⟩
theorem gap_skip {o : Oper} {r : List Oper} {iv : List (Nat × Nat)} {a : Act} {w : World} (hw : Region.wanted o (yielded ops a.tmps) = false) (h : wpGapL P ops base K r iv (a.put o.dst undef) w) : wpGapL P ops base K (o :: r) iv a w := by
  unfold wpGapL
  split
  · rw [if_neg (by rw [hw]; decide)]; exact h
  · exact ⟨_, .inr ⟨hw, rfl⟩, h⟩
theorem gap_mk {o : Oper} {r : List Oper} {iv : List (Nat × Nat)} {a : Act} {w : World} (hk : isMk o.op = true) (hw : Region.wanted o (yielded ops a.tmps) = true) (h : ∀ W, Ext w W → ∀ R : Act → World → Prop, (∀ a' w', Ext W w' → wpGapL P ops base K r ((W.heap.size, w'.heap.size) :: iv) a' w' → R a' w') → o.wp P a W R Qn) : wpGapL P ops base K (o :: r) iv a w := by
  unfold wpGapL
  rw [if_pos hk, if_pos hw]
  exact fun W hE => h W hE _ fun a' w' h1 h2 => ⟨h1, h2⟩

theorem st_blk {b : Nat} {T : TypeId} : ∀ (vs : List Value) (arr : Array Value) (w : World) (o i : Nat), w.heap[b]? = some (.cells arr T (0, 0)) → o + i + vs.length ≤ arr.size → (∀ v ∈ vs, v.oneCell' = true) →
    (storeCells ⟨b, o, none⟩ vs i).run P w = .ok () (setRow w b (o + i) vs)
  | [], arr, w, o, i, _, _, _ => by simp [storeCells, setRow]
  | v :: vs, arr, w, o, i, hb, h, hv => by
    simp only [List.length_cons] at h
    have hc : w.cell? ⟨b, o + i, none⟩ = some (arr[o + i]'(by omega)) := by rw [cell_blk hb]; exact Array.getElem?_eq_getElem _
    have hf := frozen_blk hb (o + i)
    have h1 := run_store P w ⟨b, o + i, none⟩ v .plain (hv v (by simp))
    have h2 := st_blk vs (arr.setIfInBounds (o + i) v) (w.setCell ⟨b, o + i, none⟩ v) o (i + 1) (blk_set hb) (by simp; omega) (fun u hu => hv u (by simp [hu]))
    simp only [hc, hf] at h1
    simp only [storeCells, ld_add, Sem.run_bind, h1, Result.andThen_ok, h2, Bool.false_eq_true, if_false, setRow]
    rfl
theorem putRow_all (vs : List Value) (arr : Array Value) (h : vs.length = arr.size) : putRow arr 0 vs = vs.toArray := by
  apply Array.ext_getElem?
  intro i
  rw [putRow_get vs arr 0 i (by omega)]
  split
  · simp
  · rw [Array.getElem?_eq_none (by omega), Array.getElem?_eq_none (by simp; omega)]

end
section
variable {Q : Exit → Act → World → Prop}
/-- The region: all ahead of the store in the order of the text, but for the block made at any time; then that block p, holding what was stored, in a world that is new. -/
theorem wp_region_gap (z N : Nat) (zarr : Array Value) (T : TypeId) {id : Nat} {a : Act} {w : World} {l : List Oper} {oz oN : Oper} {l1 l2 : List Oper} {zd : Nat} {y : Operand} (hm : Try.prog.follows .mixedOrders = true) (hB : gapOk l.toArray z N = true)
    (hz : l.toArray[z]? = some oz) (hN : l.toArray[N]? = some oN) (hgz : oz.guard = none) (hgN : oN.guard = none) (hmz : isMk oz.op = true) (hzd : oz.dst = some zd)
    (hrun : ∀ (a : Act) (w : World), (execOp a.eval oz).run Try.prog w = .ok (.value (.pointer (some ⟨w.heap.size, 0, none⟩))) (w.alloc (.cells zarr T)))
    (h1 : ((List.range N).filter (fun i => i != z)).map (fun i => l.toArray[i]?) = l1.map some) (hlen : ((List.range N).filter (fun i => i != z)).length + 1 = N) (h2 : l.drop (N + 1) = l2)
    (hop : oN.op = .store T (.tmp zd) y) (hdN : oN.dst = none) (hsz : (Try.prog.info? T).map (·.size) = some zarr.size)
    (h : wpGapL Try.prog l.toArray w (fun iv a w2 => ∀ W p, Ext w2 W → w.heap.size ≤ p → p < W.heap.size → (∀ q ∈ iv, p < q.1 ∨ q.2 ≤ p) → ∃ vs : List Value, (a.put (some zd) (.pointer (some ⟨p, 0, none⟩))).eval y = .agg vs.toArray ∧ vs.length = zarr.size ∧ (∀ v ∈ vs, v.oneCell' = true) ∧
      ((a.put (some zd) (.pointer (some ⟨p, 0, none⟩))).eval (.tmp zd) = .pointer (some ⟨p, 0, none⟩)) ∧
      ∀ W', Ext w W' → Chg [p] W W' → W'.heap[p]? = some (.cells vs.toArray T (0, 0)) → wpMixL Try.prog l.toArray (fun w' => ∃ t, w' = ext w t) (Qt Q) l2 (a.put (some zd) (.pointer (some ⟨p, 0, none⟩))) W') l1 [] a w.drew) : (Code.region id l.toArray true).wp Try.prog Q a w := by
  refine Code.wp_mono (Q := Qt Q) (fun e a w h => by cases e <;> first | exact h | exact False.elim h) (wp_region_held (S := fun w' => Ext w w') hm ?_)
  have hs := gapOk_spec hB
  have hNs := hs.2.2.1
  have hrep : ∀ j, j < l.toArray.size → (Array.replicate l.toArray.size false).getD j true = false := fun j hj => by
    have h' : j < l.length := by simpa using hj
    simp [h']
  have kk : ∀ iv a w2, (fun iv a w2 => ∀ W p, Ext w2 W → w.heap.size ≤ p → p < W.heap.size → (∀ q ∈ iv, p < q.1 ∨ q.2 ≤ p) → ∃ vs : List Value, (a.put (some zd) (.pointer (some ⟨p, 0, none⟩))).eval y = .agg vs.toArray ∧ vs.length = zarr.size ∧ (∀ v ∈ vs, v.oneCell' = true) ∧
      ((a.put (some zd) (.pointer (some ⟨p, 0, none⟩))).eval (.tmp zd) = .pointer (some ⟨p, 0, none⟩)) ∧
      ∀ W', Ext w W' → Chg [p] W W' → W'.heap[p]? = some (.cells vs.toArray T (0, 0)) → wpMixL Try.prog l.toArray (fun w' => ∃ t, w' = ext w t) (Qt Q) l2 (a.put (some zd) (.pointer (some ⟨p, 0, none⟩))) W') iv a w2 → gapK Try.prog l.toArray (Qt Q) w N oz oN (.cells zarr T) iv a w2 := by
    intro iv a w2 hK W p hE hB0 hp hb hiv
    have hlt := lt_blk hb
    obtain ⟨vs, q1, q2, q3, q5, q4⟩ := hK W p hE (by simpa using hp) hlt hiv
    have hst := st_blk (P := Try.prog) (b := p) (T := T) vs zarr W 0 0 hb (by omega) q3
    have hsize := sizeOf_run hsz W
    have hch : Chg [p] W (setRow W p 0 vs) := Chg.setRow (by simp) vs (Chg.refl _ _)
    have hbl : (setRow W p 0 vs).heap[p]? = some (.cells vs.toArray T (0, 0)) := by
      have := blk_setRow vs (o := 0) hb
      rwa [putRow_all vs zarr q2] at this
    have hEW : Ext w (setRow W p 0 vs) := Ext.of_below (Below.chg (w0 := w) hB0.below hch fun k hk => (by
      obtain rfl : k = p := by simpa using hk
      exact hp))
    have h4 := q4 _ hEW hch hbl
    have h5 := mix_of_list (P := Try.prog) (S := fun w' => ∃ t, w' = ext w t) (Q := Qt Q) l2 (N + 1) _ _ (fun j => by rw [← h2]; simp [List.getElem?_drop]) h4
    have el : l2.length = l.toArray.size - (N + 1) := by rw [← h2]; simp
    rw [el] at h5
    unfold Oper.wp execOp
    have hrun2 : (Instr.storeAt T (.pointer (some ⟨p, 0, none⟩)) (.agg vs.toArray)).run Try.prog W = .ok () (setRow W p 0 vs) := by
      have hst' : (storeCells ⟨p, 0, none⟩ vs 0).run Try.prog W = .ok () (setRow W p 0 vs) := by simpa using hst
      simp [Instr.storeAt, Instr.sureAddr, storeVar, Sem.run_bind, hsize, Value.cells, hst', q2]
    rw [hzd]
    simp only [hop, ptrTo, q1, q5, Sem.run_bind, hrun2, Result.andThen_ok]
    refine ⟨hEW, ?_⟩
    rw [hdN]
    exact h5
  have g := gap_sound (P := Try.prog) (Q := Qt Q) (base := w) (zobj := .cells zarr T) hB hz hN hgz hgN hmz hrun (fun c a d v w h => h) (((List.range N).filter (fun i => i != z)).length + 1) ((List.range N).filter (fun i => i != z)) (Array.replicate l.toArray.size false) a none [] w.drew (by simp) (List.Pairwise.filter _ List.pairwise_lt_range) (by simp)
    (fun j => by
      simp only [List.mem_filter, List.mem_range, bne_iff_ne]
      constructor
      · rintro ⟨h1, h2⟩; exact ⟨h1, h2, hrep j (by omega)⟩
      · rintro ⟨h1, h2, _⟩; exact ⟨h1, h2⟩) (by rw [hrep z (by have := hs.2.1; omega)]; rfl) (fun j h1 h2 => hrep j h2) ((Ext.refl w).drew) (by simp) (fun p hp => by cases hp)
    (gap_of_list kk l1 _ [] a w.drew h1 h)
  have e : N + (l.toArray.size - N) = l.toArray.size := by omega
  rw [hlen, e] at g
  exact g
theorem wp_region_gap' (z N : Nat) (zarr : Array Value) (T : TypeId) {id : Nat} {a : Act} {w : World} {l : List Oper} {oz oN : Oper} {zd : Nat} {y : Operand} (hm : Try.prog.follows .mixedOrders = true) (hB : gapOk l.toArray z N = true)
    (h1 : ((List.range N).filter (fun i => i != z)).map (fun i => l.toArray[i]?) = ((l.take N).eraseIdx z).map some) (hlen : ((List.range N).filter (fun i => i != z)).length + 1 = N) (hsz : (Try.prog.info? T).map (·.size) = some zarr.size)
    (hz : l.toArray[z]? = some oz) (hN : l.toArray[N]? = some oN) (hgz : oz.guard = none) (hgN : oN.guard = none) (hmz : isMk oz.op = true) (hzd : oz.dst = some zd)
    (hop : oN.op = .store T (.tmp zd) y) (hdN : oN.dst = none)
    (hrun : ∀ (a : Act) (w : World), (execOp a.eval oz).run Try.prog w = .ok (.value (.pointer (some ⟨w.heap.size, 0, none⟩))) (w.alloc (.cells zarr T)))
    (h : wpGapL Try.prog l.toArray w (fun iv a w2 => ∀ W p, Ext w2 W → w.heap.size ≤ p → p < W.heap.size → (∀ q ∈ iv, p < q.1 ∨ q.2 ≤ p) → ∃ vs : List Value, (a.put (some zd) (.pointer (some ⟨p, 0, none⟩))).eval y = .agg vs.toArray ∧ vs.length = zarr.size ∧ (∀ v ∈ vs, v.oneCell' = true) ∧
      ((a.put (some zd) (.pointer (some ⟨p, 0, none⟩))).eval (.tmp zd) = .pointer (some ⟨p, 0, none⟩)) ∧
      ∀ W', Ext w W' → Chg [p] W W' → W'.heap[p]? = some (.cells vs.toArray T (0, 0)) → wpMixL Try.prog l.toArray (fun w' => ∃ t, w' = ext w t) (Qt Q) (l.drop (N + 1)) (a.put (some zd) (.pointer (some ⟨p, 0, none⟩))) W') ((l.take N).eraseIdx z) [] a w.drew) : (Code.region id l.toArray true).wp Try.prog Q a w :=
  wp_region_gap z N zarr T hm hB hz hN hgz hgN hmz hzd hrun h1 hlen rfl hop hdN hsz h
theorem gap_nil {P : Program} {ops : Array Oper} {base : World} {K : List (Nat × Nat) → Act → World → Prop} {iv : List (Nat × Nat)} {a : Act} {w : World} (h : K iv a w) : wpGapL P ops base K [] iv a w := h
theorem Ext.cell {a b : World} (h : Ext a b) {k : Nat} (hk : k < a.heap.size) (o : Nat) : b.cell? ⟨k, o, none⟩ = a.cell? ⟨k, o, none⟩ := World.cell?_of_block (a := ⟨k, o, none⟩) (h.block hk)
theorem gap_own {V1 V W' : World} {lo hi p b0 : Nat} {s : Sch} {vs : List Value} {d : Dat} (hO : OwnR lo hi V1 s vs d) (hE1 : Ext V1 V) (hc : Chg [p] V W') (hd : p < lo ∨ hi ≤ p) (hl : b0 ≤ lo) : ∃ lo' hi', b0 ≤ lo' ∧ hi' ≤ W'.heap.size ∧ OwnR lo' hi' W' s vs d := by
  have h1 := OwnR.of hO hE1
  have h2 : ChgR p (p + 1) V W' := hc.toR fun k hk => by
    obtain rfl : k = p := by simpa using hk
    omega
  have h3 := OwnR.chg h1 h2 (by omega)
  exact ⟨lo, hi, hl, h3.1, h3⟩
theorem gap_own2 {V1 V W' : World} {lo hi p b0 : Nat} {s : Sch} {vs : List Value} {d : Dat} (hO : OwnR lo hi V1 s vs d) (hE1 : Ext V1 V) (hc : Chg [p] V W') (hd : p < lo ∨ hi ≤ p) (hl : b0 ≤ lo) : ∃ lo' hi', b0 ≤ lo' ∧ hi' ≤ W'.heap.size ∧ (p < lo' ∨ hi' ≤ p) ∧ OwnR lo' hi' W' s vs d := by
  have h1 := OwnR.of hO hE1
  have h2 : ChgR p (p + 1) V W' := hc.toR fun k hk => by
    obtain rfl : k = p := by simpa using hk
    omega
  have h3 := OwnR.chg h1 h2 (by omega)
  exact ⟨lo, hi, hl, h3.1, hd, h3⟩
end
end Go.Proofs.Ytablgohncilmfaa

