/- The laws' helpers at CllCell. -/
import Derived.Test.YtdogknbkcididaaSS
import Derived.Test.YtdogknbkcididaaTWlk
namespace Go.Proofs.Ytdogknbkcididaa
open Go.RowKit
set_option linter.unusedSimpArgs false
set_option linter.unusedVariables false

structure Cll where
  cell : Int
  wk : List Wlk
  ground : Int
  outs : List (List Pcl)
  next : List Int
  ins : List Int
/-- Where a cell's slices lie. -/
structure CllH where
  a1 : Option Addr
  c1 : Nat
  a3 : Option Addr
  c3 : Nat
  a4 : Option Addr
  c4 : Nat
  a5 : Option Addr
  c5 : Nat
def sCll : Sch := .st [.int, .sl sWlk, .int, .sl (.sl sPcl), .sl .int, .sl .int]
def cllDat (c : Cll) : Dat := .s [.i c.cell, .l (c.wk.map Wlk.dat), .i c.ground, .l (c.outs.map (ldat Pcl.dat)), .l (c.next.map Dat.i), .l (c.ins.map Dat.i)]
def cllCells (c : Cll) (h : CllH) : List Value := [.int .i64 c.cell, .slice h.a1 c.wk.length h.c1, .int .i64 c.ground, .slice h.a3 c.outs.length h.c3, .slice h.a4 c.next.length h.c4, .slice h.a5 c.ins.length h.c5]
structure ReC (w : World) (c : Cll) (h : CllH) : Prop where
  r1 : Re w (.sl sWlk) [.slice h.a1 c.wk.length h.c1] (.l (c.wk.map Wlk.dat))
  r3 : Re w (.sl (.sl sPcl)) [.slice h.a3 c.outs.length h.c3] (.l (c.outs.map (ldat Pcl.dat)))
  r4 : Re w (.sl .int) [.slice h.a4 c.next.length h.c4] (.l (c.next.map Dat.i))
  r5 : Re w (.sl .int) [.slice h.a5 c.ins.length h.c5] (.l (c.ins.map Dat.i))
theorem ReC.of {w w' : World} {c : Cll} {h : CllH} (r : ReC w c h) (hE : Ext w w') : ReC w' c h := ⟨r.r1.of hE, r.r3.of hE, r.r4.of hE, r.r5.of hE⟩
structure BdC (c : Cll) : Prop where
  b1 : c.wk.length ≤ 1048576
  b3 : c.outs.length ≤ 1048576
  bo : ∀ xs ∈ c.outs, xs.length ≤ 1048576
  b4 : c.next.length ≤ 1048576
  b5 : c.ins.length ≤ 1048576
def cllLens (c : Cll) : List Nat := c.wk.length :: ((c.outs.length :: c.outs.map List.length) ++ [c.next.length, c.ins.length])
theorem BdC.mk' {c : Cll} (h : ∀ n ∈ cllLens c, (n : Int) ≤ 1048576) : BdC c := by
  have h' : ∀ n ∈ cllLens c, n ≤ 1048576 := fun n hn => by have := h n hn; omega
  unfold cllLens at h'
  refine ⟨h' _ (by simp), h' _ (by simp), fun xs hx => h' _ ?_, h' _ (by simp), h' _ (by simp)⟩
  refine List.mem_cons_of_mem _ (List.mem_append_left _ (List.mem_cons_of_mem _ (List.mem_map.2 ⟨xs, hx, rfl⟩)))

theorem OwnRL.int {lo hi : Nat} {w : World} {n : Int} {vs : List Value} {fs : List Sch} {ds : List Dat} (k : OwnRL lo hi w fs vs ds) : OwnRL lo hi w (.int :: fs) (.int .i64 n :: vs) (.i n :: ds) :=
  OwnRL.one (s := .int) (v1 := [.int .i64 n]) (d := .i n) (by unfold Own; exact ⟨⟨_, rfl, rfl⟩, rfl⟩) k
theorem OwnRL.bool {lo hi : Nat} {w : World} {n : Bool} {vs : List Value} {fs : List Sch} {ds : List Dat} (k : OwnRL lo hi w fs vs ds) : OwnRL lo hi w (.bool :: fs) (.bool n :: vs) (.b n :: ds) :=
  OwnRL.one (s := .bool) (v1 := [.bool n]) (d := .b n) (by unfold Own; exact ⟨⟨_, rfl, rfl⟩, rfl⟩) k
theorem re_slm {α : Type} {hi : Nat} {w : World} {e : Sch} {vs : List Value} {f : α → Dat} {xs : List α} (h : Rd hi w (.sl e) vs (.l (xs.map f))) : ∃ a c, vs = [.slice a xs.length c] ∧ Rd hi w (.sl e) [.slice a xs.length c] (.l (xs.map f)) := by
  have h0 := h
  unfold Rd at h
  obtain ⟨a, n, c, ds', h1, h2, h3, h4, h5⟩ := h
  simp only [Dat.l.injEq] at h2
  subst h2
  rw [List.length_map] at h3
  subst h3
  exact ⟨a, c, h1, by rw [h1] at h0; exact h0⟩
theorem dmap_of {hi : Nat} {w : World} {α : Type} {e : Sch} {f : α → Dat} (hrd : ∀ vs d, Rd hi w e vs d → ∃ x : α, d = f x) {vs : List Value} {d : Dat} (h : Rd hi w (.sl e) vs d) : ∃ xs : List α, d = .l (xs.map f) := by
  unfold Rd at h
  obtain ⟨a, n, c, ds, h1, h2, h3, h4, h5⟩ := h
  have key : ∃ xs : List α, ds = xs.map f := list_of_all fun i x hx => by
    obtain ⟨b, o, es, _, _, _, hr⟩ := h5 i x hx
    exact hrd _ _ hr
  obtain ⟨xs, rfl⟩ := key
  exact ⟨xs, h2⟩
theorem rdL_cons {hi : Nat} {w : World} {f : Sch} {fs : List Sch} {vs : List Value} {ds : List Dat} (h : RdL hi w (f :: fs) vs ds) : ∃ v1 v2 d1 d2, vs = v1 ++ v2 ∧ ds = d1 :: d2 ∧ Rd hi w f v1 d1 ∧ RdL hi w fs v2 d2 := by
  unfold RdL at h; exact h
theorem rdL_nil {hi : Nat} {w : World} {vs : List Value} {ds : List Dat} (h : RdL hi w [] vs ds) : vs = [] ∧ ds = [] := by unfold RdL at h; exact h
theorem rd_st {hi : Nat} {w : World} {fs : List Sch} {vs : List Value} {d : Dat} (h : Rd hi w (.st fs) vs d) : ∃ ds, d = .s ds ∧ RdL hi w fs vs ds := by unfold Rd at h; exact h
theorem rd_Cll {w : World} {vs : List Value} {c : Cll} (h : Re w sCll vs (cllDat c)) : ∃ h, vs = cllCells c h ∧ ReC w c h := by
  obtain ⟨ds, hd, k0⟩ := rd_st h
  clear h
  unfold cllDat at hd
  simp only [Dat.s.injEq] at hd
  subst hd
  obtain ⟨v1, v2, d1, d2, rfl, e, g0, k1⟩ := rdL_cons k0
  simp only [List.cons.injEq] at e; obtain ⟨rfl, rfl⟩ := e
  obtain ⟨x, rfl, e⟩ := rd_int g0
  simp only [Dat.i.injEq] at e; subst e
  obtain ⟨v1, v2, d1, d2, rfl, e, g1, k2⟩ := rdL_cons k1
  simp only [List.cons.injEq] at e; obtain ⟨rfl, rfl⟩ := e
  obtain ⟨a1, c1, rfl, g1⟩ := re_slm g1
  obtain ⟨v1, v2, d1, d2, rfl, e, g0, k3⟩ := rdL_cons k2
  simp only [List.cons.injEq] at e; obtain ⟨rfl, rfl⟩ := e
  obtain ⟨x, rfl, e⟩ := rd_int g0
  simp only [Dat.i.injEq] at e; subst e
  obtain ⟨v1, v2, d1, d2, rfl, e, g3, k4⟩ := rdL_cons k3
  simp only [List.cons.injEq] at e; obtain ⟨rfl, rfl⟩ := e
  obtain ⟨a3, c3, rfl, g3⟩ := re_slm g3
  obtain ⟨v1, v2, d1, d2, rfl, e, g4, k5⟩ := rdL_cons k4
  simp only [List.cons.injEq] at e; obtain ⟨rfl, rfl⟩ := e
  obtain ⟨a4, c4, rfl, g4⟩ := re_slm g4
  obtain ⟨v1, v2, d1, d2, rfl, e, g5, k6⟩ := rdL_cons k5
  simp only [List.cons.injEq] at e; obtain ⟨rfl, rfl⟩ := e
  obtain ⟨a5, c5, rfl, g5⟩ := re_slm g5
  obtain ⟨rfl, _⟩ := rdL_nil k6
  exact ⟨⟨a1, c1, a3, c3, a4, c4, a5, c5⟩, rfl, g1, g3, g4, g5⟩
theorem cll_of {hi : Nat} {w : World} {vs : List Value} {d : Dat} (h : Rd hi w sCll vs d) : ∃ c, d = cllDat c := by
  obtain ⟨ds, hd, k0⟩ := rd_st h
  clear h
  subst hd
  obtain ⟨v1, v2, d1, d2, rfl, rfl, g0, k1⟩ := rdL_cons k0
  obtain ⟨x0, _, rfl⟩ := rd_int g0
  obtain ⟨v1, v2, d1, d2, rfl, rfl, g0, k2⟩ := rdL_cons k1
  obtain ⟨x1, rfl⟩ := dmap_of (fun vs d h => by obtain ⟨x, _, rfl⟩ := rd_Wlk h; exact ⟨x, rfl⟩) g0
  obtain ⟨v1, v2, d1, d2, rfl, rfl, g0, k3⟩ := rdL_cons k2
  obtain ⟨x2, _, rfl⟩ := rd_int g0
  obtain ⟨v1, v2, d1, d2, rfl, rfl, g0, k4⟩ := rdL_cons k3
  obtain ⟨x3, rfl⟩ := dmap_of (f := ldat Pcl.dat) (fun vs d h => by obtain ⟨x, rfl⟩ := dmap_of (fun vs d h => by obtain ⟨x, _, rfl⟩ := rd_Pcl h; exact ⟨x, rfl⟩) h; exact ⟨x, rfl⟩) g0
  obtain ⟨v1, v2, d1, d2, rfl, rfl, g0, k5⟩ := rdL_cons k4
  obtain ⟨x4, rfl⟩ := dmap_of (f := Dat.i) (fun vs d h => by obtain ⟨x, _, rfl⟩ := rd_int h; exact ⟨x, rfl⟩) g0
  obtain ⟨v1, v2, d1, d2, rfl, rfl, g0, k6⟩ := rdL_cons k5
  obtain ⟨x5, rfl⟩ := dmap_of (f := Dat.i) (fun vs d h => by obtain ⟨x, _, rfl⟩ := rd_int h; exact ⟨x, rfl⟩) g0
  obtain ⟨rfl, rfl⟩ := rdL_nil k6
  exact ⟨⟨x0, x1, x2, x3, x4, x5⟩, rfl⟩
theorem open_Cll {w : World} {vs : List Value} {d : Dat} (h : Rd w.heap.size w sCll vs d) : ∃ c h, vs = cllCells c h ∧ ReC w c h := by
  obtain ⟨c, rfl⟩ := cll_of h
  obtain ⟨h', e, r⟩ := rd_Cll h
  exact ⟨c, h', e, r⟩

def MadeC (w : World) (c : Cll) (e : Ending) (w' : World) : Prop :=
  ∃ h : CllH, e = .returned (.agg #[.int .i64 c.cell, .slice h.a1 c.wk.length h.c1, .int .i64 c.ground, .slice h.a3 c.outs.length h.c3, .slice h.a4 c.next.length h.c4, .slice h.a5 c.ins.length h.c5]) ∧ Ext w w' ∧ OwnR w.heap.size w'.heap.size w' sCll (cllCells c h) (cllDat c)
theorem OwnR.cll {lo hi : Nat} {w : World} {c : Cll} {h : CllH} (o : OwnR lo hi w sCll (cllCells c h) (cllDat c)) : ReC w c h := by
  obtain ⟨h', e, r⟩ := rd_Cll o.re
  unfold cllCells at e
  simp only [List.cons.injEq, Value.slice.injEq, true_and, and_true] at e
  obtain ⟨⟨e1, e2⟩, ⟨e3, e4⟩, ⟨e5, e6⟩, e7, e8⟩ := e
  obtain ⟨a1, c1, a3, c3, a4, c4, a5, c5⟩ := h
  obtain ⟨b1, d1, b3, d3, b4, d4, b5, d5⟩ := h'
  simp only at e1 e2 e3 e4 e5 e6 e7 e8
  subst e1 e2 e3 e4 e5 e6 e7 e8
  exact r

theorem szCll_c (c : Cll) (h : CllH) (left q : Int) (w : World) (hx : ReC w c h) (hq : szRun left (cllLens c) = q) (h0 : 0 ≤ left) (h1 : left ≤ 1048576) :
    Calls Try.prog 22 #[.agg #[.int .i64 c.cell, .slice h.a1 c.wk.length h.c1, .int .i64 c.ground, .slice h.a3 c.outs.length h.c3, .slice h.a4 c.next.length h.c4, .slice h.a5 c.ins.length h.c5], .int .i64 left] w fun e w' => e = .returned (.int .i64 q) ∧ Ext w w' := by
  subst hq
  have m1 := hx.r1.max
  have m4 := hx.r4.max
  have m5 := hx.r5.max
  have H3 := hid hx.r3
  clear hx
  by_cases t1 : left < (c.wk.length : Int)
  · have E := hid (show szRun left (cllLens c) = -1 from szRun_fail _ _ _ t1)
    go_enter Try.func22, Try.ntmps22
    try go_wp2_with (first
        | (go_at_call 41; refine (szWlkS_c _ _ _ _ _ (by omega) (by omega) (by assumption)).mono ?_; rintro e w' ⟨rfl, rfl⟩)
        | (
          with_reducible refine wp_region_mix (by kernel_rfl) (by decide +kernel) ?_
          repeat (first
            | (refine mix_pure rfl ?_; (first | go_big_quiet_skip | (go_big_quiet_want; go_big_quiet_op; go_big_quiet_on)); refine wpQuiet_nil ?_)
            | (refine mix_skip (by rfl) ?_; (try simp only [Act.put, List.setIfInBounds_toArray, List.set_cons_zero, List.set_cons_succ]))
            | (refine mix_mk rfl (by rfl) (fun K hK => ?_); (first | (go_simp; first | (go_at_call 41; refine (szWlkS_c _ _ _ _ _ (by omega) (by omega) (by assumption)).mono ?_; rintro e w' ⟨rfl, rfl⟩) | skip)); (show K _ _); refine hK _ _ (show Ext _ _ from (by ((try simp only [ext_drew]); (try simp only [ext_ext]); repeat (first | exact Ext.refl _ | with_reducible apply Ext.add | with_reducible apply Ext.dr | apply Ext.alloc | apply Ext.ext | apply Ext.drew | refine Ext.trans ?_ (by assumption))))) ?_; clear hK K; (try simp only [Act.put, List.setIfInBounds_toArray, List.set_cons_zero, List.set_cons_succ])))
          refine mix_nil ?_)
        | (
          with_reducible refine wp_region_ext (by kernel_rfl) (by kernel_rfl) ?_
          repeat (first | go_big_quiet_skip | (go_big_quiet_want; go_big_quiet_op; first | go_big_quiet_on | (apply Exists.intro; refine ⟨fun _ => ?_, ?_⟩; ((first | (go_at_call 41; first | exact quiet_same (szWlkS_c _ _ _ _ _ (by omega) (by omega) (by assumption)) | exact quiet_same2 (szWlkS_c _ _ _ _ _ (by omega) (by omega) (by assumption))))); (try rw [h1]); (try rw [h2]); (try rw [h3]); (try rw [h4]); (try rw [p1]); (try rw [p2]); (try rw [p3]); (try rw [p4]); (try rw [r1]); (try rw [r2]); (try rw [r3]); (try rw [r4]); (try rw [r5]); (try rw [r6]); (try rw [q3]); (try rw [q4]); (try rw [hp]); (try rw [hq]); go_big_quiet_on)))
          refine wpQuiet_nil ?_
          rintro _ ⟨tq, rfl⟩))
    go_ret
    exact ⟨ret_int (by rw [E.out]), (by ((try simp only [ext_drew]); (try simp only [ext_ext]); repeat (first | exact Ext.refl _ | with_reducible apply Ext.add | with_reducible apply Ext.dr | apply Ext.alloc | apply Ext.ext | apply Ext.drew | refine Ext.trans ?_ (by assumption))))⟩
  · have E := hid (show szRun left (cllLens c) = _ from szRun_step _ _ _ t1)
    obtain ⟨q, hq⟩ : ∃ q, szRun (left - (c.wk.length : Int)) (c.outs.length :: c.outs.map List.length) = q := ⟨_, rfl⟩
    have hb := szRun_le (c.outs.length :: c.outs.map List.length) (left - (c.wk.length : Int)) (by omega)
    rw [hq] at hb
    have hb1 := hb.1
    have hb2 := hb.2
    have HQ := hid hq
    clear hb hq
    by_cases t2 : q < 0
    · have E2 := hid (szRun_fail_app (c.outs.length :: c.outs.map List.length) [c.next.length, c.ins.length] (left - (c.wk.length : Int)) (by omega) (by rw [HQ.out]; exact t2))
      go_enter Try.func22, Try.ntmps22
      try go_wp2_with (first
          | (go_at_call 41; refine (szWlkS_c _ _ _ _ _ (by omega) (by omega) (by assumption)).mono ?_; rintro e w' ⟨rfl, rfl⟩) | (go_at_call 42; refine (szPclSS_c _ _ _ _ _ _ _ (Re.of (Hid.out (by assumption)) (by ((try simp only [ext_drew]); (try simp only [ext_ext]); repeat (first | exact Ext.refl _ | with_reducible apply Ext.add | with_reducible apply Ext.dr | apply Ext.alloc | apply Ext.ext | apply Ext.drew | refine Ext.trans ?_ (by assumption))))) (Hid.out (by assumption)) (by omega) (by omega)).mono ?_; rintro e w' ⟨rfl, t, rfl⟩)
          | (
            with_reducible refine wp_region_mix (by kernel_rfl) (by decide +kernel) ?_
            repeat (first
              | (refine mix_pure rfl ?_; (first | go_big_quiet_skip | (go_big_quiet_want; go_big_quiet_op; go_big_quiet_on)); refine wpQuiet_nil ?_)
              | (refine mix_skip (by rfl) ?_; (try simp only [Act.put, List.setIfInBounds_toArray, List.set_cons_zero, List.set_cons_succ]))
              | (refine mix_mk rfl (by rfl) (fun K hK => ?_); (first | (go_simp; first | (go_at_call 41; refine (szWlkS_c _ _ _ _ _ (by omega) (by omega) (by assumption)).mono ?_; rintro e w' ⟨rfl, rfl⟩) | (go_at_call 42; refine (szPclSS_c _ _ _ _ _ _ _ (Re.of (Hid.out (by assumption)) (by ((try simp only [ext_drew]); (try simp only [ext_ext]); repeat (first | exact Ext.refl _ | with_reducible apply Ext.add | with_reducible apply Ext.dr | apply Ext.alloc | apply Ext.ext | apply Ext.drew | refine Ext.trans ?_ (by assumption))))) (Hid.out (by assumption)) (by omega) (by omega)).mono ?_; rintro e w' ⟨rfl, t, rfl⟩) | skip)); (show K _ _); refine hK _ _ (show Ext _ _ from (by ((try simp only [ext_drew]); (try simp only [ext_ext]); repeat (first | exact Ext.refl _ | with_reducible apply Ext.add | with_reducible apply Ext.dr | apply Ext.alloc | apply Ext.ext | apply Ext.drew | refine Ext.trans ?_ (by assumption))))) ?_; clear hK K; (try simp only [Act.put, List.setIfInBounds_toArray, List.set_cons_zero, List.set_cons_succ])))
            refine mix_nil ?_)
          | (
            with_reducible refine wp_region_ext (by kernel_rfl) (by kernel_rfl) ?_
            repeat (first | go_big_quiet_skip | (go_big_quiet_want; go_big_quiet_op; first | go_big_quiet_on | (apply Exists.intro; refine ⟨fun _ => ?_, ?_⟩; ((first | (go_at_call 41; first | exact quiet_same (szWlkS_c _ _ _ _ _ (by omega) (by omega) (by assumption)) | exact quiet_same2 (szWlkS_c _ _ _ _ _ (by omega) (by omega) (by assumption))) | (go_at_call 42; first | exact quiet_call (szPclSS_c _ _ _ _ _ _ _ (Re.of (Hid.out (by assumption)) (by ((try simp only [ext_drew]); (try simp only [ext_ext]); repeat (first | exact Ext.refl _ | with_reducible apply Ext.add | with_reducible apply Ext.dr | apply Ext.alloc | apply Ext.ext | apply Ext.drew | refine Ext.trans ?_ (by assumption))))) (Hid.out (by assumption)) (by omega) (by omega)) | exact quiet_call2 (szPclSS_c _ _ _ _ _ _ _ (Re.of (Hid.out (by assumption)) (by ((try simp only [ext_drew]); (try simp only [ext_ext]); repeat (first | exact Ext.refl _ | with_reducible apply Ext.add | with_reducible apply Ext.dr | apply Ext.alloc | apply Ext.ext | apply Ext.drew | refine Ext.trans ?_ (by assumption))))) (Hid.out (by assumption)) (by omega) (by omega))))); (try rw [h1]); (try rw [h2]); (try rw [h3]); (try rw [h4]); (try rw [p1]); (try rw [p2]); (try rw [p3]); (try rw [p4]); (try rw [r1]); (try rw [r2]); (try rw [r3]); (try rw [r4]); (try rw [r5]); (try rw [r6]); (try rw [q3]); (try rw [q4]); (try rw [hp]); (try rw [hq]); go_big_quiet_on)))
            refine wpQuiet_nil ?_
            rintro _ ⟨tq, rfl⟩))
      go_ret
      exact ⟨ret_int (by rw [E.out, E2.out]), (by ((try simp only [ext_drew]); (try simp only [ext_ext]); repeat (first | exact Ext.refl _ | with_reducible apply Ext.add | with_reducible apply Ext.dr | apply Ext.alloc | apply Ext.ext | apply Ext.drew | refine Ext.trans ?_ (by assumption))))⟩
    · have E2 := hid (show szRun (left - (c.wk.length : Int)) ((c.outs.length :: c.outs.map List.length) ++ [c.next.length, c.ins.length]) = szRun q [c.next.length, c.ins.length] by rw [szRun_app _ _ _ (by omega), HQ.out, if_neg t2])
      by_cases t3 : q < (c.next.length : Int)
      · go_enter Try.func22, Try.ntmps22
        try go_wp2_with (first
            | (go_at_call 41; refine (szWlkS_c _ _ _ _ _ (by omega) (by omega) (by assumption)).mono ?_; rintro e w' ⟨rfl, rfl⟩) | (go_at_call 42; refine (szPclSS_c _ _ _ _ _ _ _ (Re.of (Hid.out (by assumption)) (by ((try simp only [ext_drew]); (try simp only [ext_ext]); repeat (first | exact Ext.refl _ | with_reducible apply Ext.add | with_reducible apply Ext.dr | apply Ext.alloc | apply Ext.ext | apply Ext.drew | refine Ext.trans ?_ (by assumption))))) (Hid.out (by assumption)) (by omega) (by omega)).mono ?_; rintro e w' ⟨rfl, t, rfl⟩) | (go_at_call 43; refine (szIntS_c _ _ _ _ _ (by omega) (by omega) (by assumption)).mono ?_; rintro e w' ⟨rfl, rfl⟩)
            | (
              with_reducible refine wp_region_mix (by kernel_rfl) (by decide +kernel) ?_
              repeat (first
                | (refine mix_pure rfl ?_; (first | go_big_quiet_skip | (go_big_quiet_want; go_big_quiet_op; go_big_quiet_on)); refine wpQuiet_nil ?_)
                | (refine mix_skip (by rfl) ?_; (try simp only [Act.put, List.setIfInBounds_toArray, List.set_cons_zero, List.set_cons_succ]))
                | (refine mix_mk rfl (by rfl) (fun K hK => ?_); (first | (go_simp; first | (go_at_call 41; refine (szWlkS_c _ _ _ _ _ (by omega) (by omega) (by assumption)).mono ?_; rintro e w' ⟨rfl, rfl⟩) | (go_at_call 42; refine (szPclSS_c _ _ _ _ _ _ _ (Re.of (Hid.out (by assumption)) (by ((try simp only [ext_drew]); (try simp only [ext_ext]); repeat (first | exact Ext.refl _ | with_reducible apply Ext.add | with_reducible apply Ext.dr | apply Ext.alloc | apply Ext.ext | apply Ext.drew | refine Ext.trans ?_ (by assumption))))) (Hid.out (by assumption)) (by omega) (by omega)).mono ?_; rintro e w' ⟨rfl, t, rfl⟩) | (go_at_call 43; refine (szIntS_c _ _ _ _ _ (by omega) (by omega) (by assumption)).mono ?_; rintro e w' ⟨rfl, rfl⟩) | skip)); (show K _ _); refine hK _ _ (show Ext _ _ from (by ((try simp only [ext_drew]); (try simp only [ext_ext]); repeat (first | exact Ext.refl _ | with_reducible apply Ext.add | with_reducible apply Ext.dr | apply Ext.alloc | apply Ext.ext | apply Ext.drew | refine Ext.trans ?_ (by assumption))))) ?_; clear hK K; (try simp only [Act.put, List.setIfInBounds_toArray, List.set_cons_zero, List.set_cons_succ])))
              refine mix_nil ?_)
            | (
              with_reducible refine wp_region_ext (by kernel_rfl) (by kernel_rfl) ?_
              repeat (first | go_big_quiet_skip | (go_big_quiet_want; go_big_quiet_op; first | go_big_quiet_on | (apply Exists.intro; refine ⟨fun _ => ?_, ?_⟩; ((first | (go_at_call 41; first | exact quiet_same (szWlkS_c _ _ _ _ _ (by omega) (by omega) (by assumption)) | exact quiet_same2 (szWlkS_c _ _ _ _ _ (by omega) (by omega) (by assumption))) | (go_at_call 42; first | exact quiet_call (szPclSS_c _ _ _ _ _ _ _ (Re.of (Hid.out (by assumption)) (by ((try simp only [ext_drew]); (try simp only [ext_ext]); repeat (first | exact Ext.refl _ | with_reducible apply Ext.add | with_reducible apply Ext.dr | apply Ext.alloc | apply Ext.ext | apply Ext.drew | refine Ext.trans ?_ (by assumption))))) (Hid.out (by assumption)) (by omega) (by omega)) | exact quiet_call2 (szPclSS_c _ _ _ _ _ _ _ (Re.of (Hid.out (by assumption)) (by ((try simp only [ext_drew]); (try simp only [ext_ext]); repeat (first | exact Ext.refl _ | with_reducible apply Ext.add | with_reducible apply Ext.dr | apply Ext.alloc | apply Ext.ext | apply Ext.drew | refine Ext.trans ?_ (by assumption))))) (Hid.out (by assumption)) (by omega) (by omega))) | (go_at_call 43; first | exact quiet_same (szIntS_c _ _ _ _ _ (by omega) (by omega) (by assumption)) | exact quiet_same2 (szIntS_c _ _ _ _ _ (by omega) (by omega) (by assumption))))); (try rw [h1]); (try rw [h2]); (try rw [h3]); (try rw [h4]); (try rw [p1]); (try rw [p2]); (try rw [p3]); (try rw [p4]); (try rw [r1]); (try rw [r2]); (try rw [r3]); (try rw [r4]); (try rw [r5]); (try rw [r6]); (try rw [q3]); (try rw [q4]); (try rw [hp]); (try rw [hq]); go_big_quiet_on)))
              refine wpQuiet_nil ?_
              rintro _ ⟨tq, rfl⟩))
        go_ret
        exact ⟨ret_int (by rw [E.out, E2.out, szRun_fail _ _ _ t3]), (by ((try simp only [ext_drew]); (try simp only [ext_ext]); repeat (first | exact Ext.refl _ | with_reducible apply Ext.add | with_reducible apply Ext.dr | apply Ext.alloc | apply Ext.ext | apply Ext.drew | refine Ext.trans ?_ (by assumption))))⟩
      · by_cases t4 : q - (c.next.length : Int) < (c.ins.length : Int)
        · go_enter Try.func22, Try.ntmps22
          try go_wp2_with (first
              | (go_at_call 41; refine (szWlkS_c _ _ _ _ _ (by omega) (by omega) (by assumption)).mono ?_; rintro e w' ⟨rfl, rfl⟩) | (go_at_call 42; refine (szPclSS_c _ _ _ _ _ _ _ (Re.of (Hid.out (by assumption)) (by ((try simp only [ext_drew]); (try simp only [ext_ext]); repeat (first | exact Ext.refl _ | with_reducible apply Ext.add | with_reducible apply Ext.dr | apply Ext.alloc | apply Ext.ext | apply Ext.drew | refine Ext.trans ?_ (by assumption))))) (Hid.out (by assumption)) (by omega) (by omega)).mono ?_; rintro e w' ⟨rfl, t, rfl⟩) | (go_at_call 43; refine (szIntS_c _ _ _ _ _ (by omega) (by omega) (by assumption)).mono ?_; rintro e w' ⟨rfl, rfl⟩)
              | (
                with_reducible refine wp_region_mix (by kernel_rfl) (by decide +kernel) ?_
                repeat (first
                  | (refine mix_pure rfl ?_; (first | go_big_quiet_skip | (go_big_quiet_want; go_big_quiet_op; go_big_quiet_on)); refine wpQuiet_nil ?_)
                  | (refine mix_skip (by rfl) ?_; (try simp only [Act.put, List.setIfInBounds_toArray, List.set_cons_zero, List.set_cons_succ]))
                  | (refine mix_mk rfl (by rfl) (fun K hK => ?_); (first | (go_simp; first | (go_at_call 41; refine (szWlkS_c _ _ _ _ _ (by omega) (by omega) (by assumption)).mono ?_; rintro e w' ⟨rfl, rfl⟩) | (go_at_call 42; refine (szPclSS_c _ _ _ _ _ _ _ (Re.of (Hid.out (by assumption)) (by ((try simp only [ext_drew]); (try simp only [ext_ext]); repeat (first | exact Ext.refl _ | with_reducible apply Ext.add | with_reducible apply Ext.dr | apply Ext.alloc | apply Ext.ext | apply Ext.drew | refine Ext.trans ?_ (by assumption))))) (Hid.out (by assumption)) (by omega) (by omega)).mono ?_; rintro e w' ⟨rfl, t, rfl⟩) | (go_at_call 43; refine (szIntS_c _ _ _ _ _ (by omega) (by omega) (by assumption)).mono ?_; rintro e w' ⟨rfl, rfl⟩) | skip)); (show K _ _); refine hK _ _ (show Ext _ _ from (by ((try simp only [ext_drew]); (try simp only [ext_ext]); repeat (first | exact Ext.refl _ | with_reducible apply Ext.add | with_reducible apply Ext.dr | apply Ext.alloc | apply Ext.ext | apply Ext.drew | refine Ext.trans ?_ (by assumption))))) ?_; clear hK K; (try simp only [Act.put, List.setIfInBounds_toArray, List.set_cons_zero, List.set_cons_succ])))
                refine mix_nil ?_)
              | (
                with_reducible refine wp_region_ext (by kernel_rfl) (by kernel_rfl) ?_
                repeat (first | go_big_quiet_skip | (go_big_quiet_want; go_big_quiet_op; first | go_big_quiet_on | (apply Exists.intro; refine ⟨fun _ => ?_, ?_⟩; ((first | (go_at_call 41; first | exact quiet_same (szWlkS_c _ _ _ _ _ (by omega) (by omega) (by assumption)) | exact quiet_same2 (szWlkS_c _ _ _ _ _ (by omega) (by omega) (by assumption))) | (go_at_call 42; first | exact quiet_call (szPclSS_c _ _ _ _ _ _ _ (Re.of (Hid.out (by assumption)) (by ((try simp only [ext_drew]); (try simp only [ext_ext]); repeat (first | exact Ext.refl _ | with_reducible apply Ext.add | with_reducible apply Ext.dr | apply Ext.alloc | apply Ext.ext | apply Ext.drew | refine Ext.trans ?_ (by assumption))))) (Hid.out (by assumption)) (by omega) (by omega)) | exact quiet_call2 (szPclSS_c _ _ _ _ _ _ _ (Re.of (Hid.out (by assumption)) (by ((try simp only [ext_drew]); (try simp only [ext_ext]); repeat (first | exact Ext.refl _ | with_reducible apply Ext.add | with_reducible apply Ext.dr | apply Ext.alloc | apply Ext.ext | apply Ext.drew | refine Ext.trans ?_ (by assumption))))) (Hid.out (by assumption)) (by omega) (by omega))) | (go_at_call 43; first | exact quiet_same (szIntS_c _ _ _ _ _ (by omega) (by omega) (by assumption)) | exact quiet_same2 (szIntS_c _ _ _ _ _ (by omega) (by omega) (by assumption))))); (try rw [h1]); (try rw [h2]); (try rw [h3]); (try rw [h4]); (try rw [p1]); (try rw [p2]); (try rw [p3]); (try rw [p4]); (try rw [r1]); (try rw [r2]); (try rw [r3]); (try rw [r4]); (try rw [r5]); (try rw [r6]); (try rw [q3]); (try rw [q4]); (try rw [hp]); (try rw [hq]); go_big_quiet_on)))
                refine wpQuiet_nil ?_
                rintro _ ⟨tq, rfl⟩))
          go_ret
          exact ⟨ret_int (by rw [E.out, E2.out, szRun_step _ _ _ (show ¬ q < (c.next.length : Int) by omega), szRun_fail _ _ _ (show q - (c.next.length : Int) < (c.ins.length : Int) by omega)]), (by ((try simp only [ext_drew]); (try simp only [ext_ext]); repeat (first | exact Ext.refl _ | with_reducible apply Ext.add | with_reducible apply Ext.dr | apply Ext.alloc | apply Ext.ext | apply Ext.drew | refine Ext.trans ?_ (by assumption))))⟩
        · go_enter Try.func22, Try.ntmps22
          try go_wp2_with (first
              | (go_at_call 41; refine (szWlkS_c _ _ _ _ _ (by omega) (by omega) (by assumption)).mono ?_; rintro e w' ⟨rfl, rfl⟩) | (go_at_call 42; refine (szPclSS_c _ _ _ _ _ _ _ (Re.of (Hid.out (by assumption)) (by ((try simp only [ext_drew]); (try simp only [ext_ext]); repeat (first | exact Ext.refl _ | with_reducible apply Ext.add | with_reducible apply Ext.dr | apply Ext.alloc | apply Ext.ext | apply Ext.drew | refine Ext.trans ?_ (by assumption))))) (Hid.out (by assumption)) (by omega) (by omega)).mono ?_; rintro e w' ⟨rfl, t, rfl⟩) | (go_at_call 43; refine (szIntS_c _ _ _ _ _ (by omega) (by omega) (by assumption)).mono ?_; rintro e w' ⟨rfl, rfl⟩)
              | (
                with_reducible refine wp_region_mix (by kernel_rfl) (by decide +kernel) ?_
                repeat (first
                  | (refine mix_pure rfl ?_; (first | go_big_quiet_skip | (go_big_quiet_want; go_big_quiet_op; go_big_quiet_on)); refine wpQuiet_nil ?_)
                  | (refine mix_skip (by rfl) ?_; (try simp only [Act.put, List.setIfInBounds_toArray, List.set_cons_zero, List.set_cons_succ]))
                  | (refine mix_mk rfl (by rfl) (fun K hK => ?_); (first | (go_simp; first | (go_at_call 41; refine (szWlkS_c _ _ _ _ _ (by omega) (by omega) (by assumption)).mono ?_; rintro e w' ⟨rfl, rfl⟩) | (go_at_call 42; refine (szPclSS_c _ _ _ _ _ _ _ (Re.of (Hid.out (by assumption)) (by ((try simp only [ext_drew]); (try simp only [ext_ext]); repeat (first | exact Ext.refl _ | with_reducible apply Ext.add | with_reducible apply Ext.dr | apply Ext.alloc | apply Ext.ext | apply Ext.drew | refine Ext.trans ?_ (by assumption))))) (Hid.out (by assumption)) (by omega) (by omega)).mono ?_; rintro e w' ⟨rfl, t, rfl⟩) | (go_at_call 43; refine (szIntS_c _ _ _ _ _ (by omega) (by omega) (by assumption)).mono ?_; rintro e w' ⟨rfl, rfl⟩) | skip)); (show K _ _); refine hK _ _ (show Ext _ _ from (by ((try simp only [ext_drew]); (try simp only [ext_ext]); repeat (first | exact Ext.refl _ | with_reducible apply Ext.add | with_reducible apply Ext.dr | apply Ext.alloc | apply Ext.ext | apply Ext.drew | refine Ext.trans ?_ (by assumption))))) ?_; clear hK K; (try simp only [Act.put, List.setIfInBounds_toArray, List.set_cons_zero, List.set_cons_succ])))
                refine mix_nil ?_)
              | (
                with_reducible refine wp_region_ext (by kernel_rfl) (by kernel_rfl) ?_
                repeat (first | go_big_quiet_skip | (go_big_quiet_want; go_big_quiet_op; first | go_big_quiet_on | (apply Exists.intro; refine ⟨fun _ => ?_, ?_⟩; ((first | (go_at_call 41; first | exact quiet_same (szWlkS_c _ _ _ _ _ (by omega) (by omega) (by assumption)) | exact quiet_same2 (szWlkS_c _ _ _ _ _ (by omega) (by omega) (by assumption))) | (go_at_call 42; first | exact quiet_call (szPclSS_c _ _ _ _ _ _ _ (Re.of (Hid.out (by assumption)) (by ((try simp only [ext_drew]); (try simp only [ext_ext]); repeat (first | exact Ext.refl _ | with_reducible apply Ext.add | with_reducible apply Ext.dr | apply Ext.alloc | apply Ext.ext | apply Ext.drew | refine Ext.trans ?_ (by assumption))))) (Hid.out (by assumption)) (by omega) (by omega)) | exact quiet_call2 (szPclSS_c _ _ _ _ _ _ _ (Re.of (Hid.out (by assumption)) (by ((try simp only [ext_drew]); (try simp only [ext_ext]); repeat (first | exact Ext.refl _ | with_reducible apply Ext.add | with_reducible apply Ext.dr | apply Ext.alloc | apply Ext.ext | apply Ext.drew | refine Ext.trans ?_ (by assumption))))) (Hid.out (by assumption)) (by omega) (by omega))) | (go_at_call 43; first | exact quiet_same (szIntS_c _ _ _ _ _ (by omega) (by omega) (by assumption)) | exact quiet_same2 (szIntS_c _ _ _ _ _ (by omega) (by omega) (by assumption))))); (try rw [h1]); (try rw [h2]); (try rw [h3]); (try rw [h4]); (try rw [p1]); (try rw [p2]); (try rw [p3]); (try rw [p4]); (try rw [r1]); (try rw [r2]); (try rw [r3]); (try rw [r4]); (try rw [r5]); (try rw [r6]); (try rw [q3]); (try rw [q4]); (try rw [hp]); (try rw [hq]); go_big_quiet_on)))
                refine wpQuiet_nil ?_
                rintro _ ⟨tq, rfl⟩))
          go_ret
          exact ⟨ret_int (by rw [E.out, E2.out, szRun_step _ _ _ (show ¬ q < (c.next.length : Int) by omega), szRun_step _ _ _ (show ¬ q - (c.next.length : Int) < (c.ins.length : Int) by omega)]; rfl), (by ((try simp only [ext_drew]); (try simp only [ext_ext]); repeat (first | exact Ext.refl _ | with_reducible apply Ext.add | with_reducible apply Ext.dr | apply Ext.alloc | apply Ext.ext | apply Ext.drew | refine Ext.trans ?_ (by assumption))))⟩

set_option maxRecDepth 100000 in
set_option maxHeartbeats 2000000 in
theorem toCll_c (c : Cll) (h : CllH) (w : World) (hx : ReC w c h) (hb : BdC c) :
    Calls Try.prog 25 #[.agg #[.int .i64 c.cell, .slice h.a1 c.wk.length h.c1, .int .i64 c.ground, .slice h.a3 c.outs.length h.c3, .slice h.a4 c.next.length h.c4, .slice h.a5 c.ins.length h.c5]] w (MadeC w c) := by
  have H1 := hid hx.r1
  have H3 := hid hx.r3
  have H4 := hid hx.r4
  have H5 := hid hx.r5
  have B1 := hb.b1
  have B3 := hb.b3
  have BO := hid hb.bo
  have B4 := hb.b4
  have B5 := hb.b5
  clear hx hb
  go_enter Try.func25, Try.ntmps25
  try go_wp2_with (first
      | (go_at_call 48; (with_reducible refine (toWlkS_c c.wk h.a1 c.wk.length h.c1 _ (H1.out.of (by ((try simp only [ext_drew]); (try simp only [ext_ext]); repeat (first | exact Ext.refl _ | with_reducible apply Ext.add | with_reducible apply Ext.dr | apply Ext.alloc | apply Ext.ext | apply Ext.drew | refine Ext.trans ?_ (by assumption))))) B1).mono ?_); rintro e w' ⟨p1, q1, rfl, ⟨t1, rfl⟩, ho⟩; have O1 := hid ho; clear ho) | (go_at_call 49; (with_reducible refine (toPclSS_c c.outs h.a3 c.outs.length h.c3 _ (H3.out.of (by ((try simp only [ext_drew]); (try simp only [ext_ext]); repeat (first | exact Ext.refl _ | with_reducible apply Ext.add | with_reducible apply Ext.dr | apply Ext.alloc | apply Ext.ext | apply Ext.drew | refine Ext.trans ?_ (by assumption))))) B3 BO.out).mono ?_); rintro e w' ⟨p3, q3, rfl, ⟨t3, rfl⟩, ho⟩; have O3 := hid ho; clear ho) | (go_at_call 50; (with_reducible refine (toIntS_c c.next h.a4 c.next.length h.c4 _ (H4.out.of (by ((try simp only [ext_drew]); (try simp only [ext_ext]); repeat (first | exact Ext.refl _ | with_reducible apply Ext.add | with_reducible apply Ext.dr | apply Ext.alloc | apply Ext.ext | apply Ext.drew | refine Ext.trans ?_ (by assumption))))) B4).mono ?_); rintro e w' ⟨p4, q4, rfl, ⟨t4, rfl⟩, ho⟩; have O4 := hid ho; clear ho) | (go_at_call 50; (with_reducible refine (toIntS_c c.ins h.a5 c.ins.length h.c5 _ (H5.out.of (by ((try simp only [ext_drew]); (try simp only [ext_ext]); repeat (first | exact Ext.refl _ | with_reducible apply Ext.add | with_reducible apply Ext.dr | apply Ext.alloc | apply Ext.ext | apply Ext.drew | refine Ext.trans ?_ (by assumption))))) B5).mono ?_); rintro e w' ⟨p5, q5, rfl, ⟨t5, rfl⟩, ho⟩; have O5 := hid ho; clear ho)
      | (
        with_reducible refine wp_region_mix (by kernel_rfl) (by decide +kernel) ?_
        repeat (first
          | (refine mix_pure rfl ?_; (first | go_big_quiet_skip | (go_big_quiet_want; go_big_quiet_op; go_big_quiet_on)); refine wpQuiet_nil ?_)
          | (refine mix_skip (by rfl) ?_; (try simp only [Act.put, List.setIfInBounds_toArray, List.set_cons_zero, List.set_cons_succ]))
          | (refine mix_mk rfl (by rfl) (fun K hK => ?_); (first | (go_simp; first | (go_at_call 48; (with_reducible refine (toWlkS_c c.wk h.a1 c.wk.length h.c1 _ (H1.out.of (by ((try simp only [ext_drew]); (try simp only [ext_ext]); repeat (first | exact Ext.refl _ | with_reducible apply Ext.add | with_reducible apply Ext.dr | apply Ext.alloc | apply Ext.ext | apply Ext.drew | refine Ext.trans ?_ (by assumption))))) B1).mono ?_); rintro e w' ⟨p1, q1, rfl, ⟨t1, rfl⟩, ho⟩; have O1 := hid ho; clear ho) | (go_at_call 49; (with_reducible refine (toPclSS_c c.outs h.a3 c.outs.length h.c3 _ (H3.out.of (by ((try simp only [ext_drew]); (try simp only [ext_ext]); repeat (first | exact Ext.refl _ | with_reducible apply Ext.add | with_reducible apply Ext.dr | apply Ext.alloc | apply Ext.ext | apply Ext.drew | refine Ext.trans ?_ (by assumption))))) B3 BO.out).mono ?_); rintro e w' ⟨p3, q3, rfl, ⟨t3, rfl⟩, ho⟩; have O3 := hid ho; clear ho) | (go_at_call 50; (with_reducible refine (toIntS_c c.next h.a4 c.next.length h.c4 _ (H4.out.of (by ((try simp only [ext_drew]); (try simp only [ext_ext]); repeat (first | exact Ext.refl _ | with_reducible apply Ext.add | with_reducible apply Ext.dr | apply Ext.alloc | apply Ext.ext | apply Ext.drew | refine Ext.trans ?_ (by assumption))))) B4).mono ?_); rintro e w' ⟨p4, q4, rfl, ⟨t4, rfl⟩, ho⟩; have O4 := hid ho; clear ho) | (go_at_call 50; (with_reducible refine (toIntS_c c.ins h.a5 c.ins.length h.c5 _ (H5.out.of (by ((try simp only [ext_drew]); (try simp only [ext_ext]); repeat (first | exact Ext.refl _ | with_reducible apply Ext.add | with_reducible apply Ext.dr | apply Ext.alloc | apply Ext.ext | apply Ext.drew | refine Ext.trans ?_ (by assumption))))) B5).mono ?_); rintro e w' ⟨p5, q5, rfl, ⟨t5, rfl⟩, ho⟩; have O5 := hid ho; clear ho) | skip)); (show K _ _); refine hK _ _ (show Ext _ _ from (by ((try simp only [ext_drew]); (try simp only [ext_ext]); repeat (first | exact Ext.refl _ | with_reducible apply Ext.add | with_reducible apply Ext.dr | apply Ext.alloc | apply Ext.ext | apply Ext.drew | refine Ext.trans ?_ (by assumption))))) ?_; clear hK K; (try simp only [Act.put, List.setIfInBounds_toArray, List.set_cons_zero, List.set_cons_succ])))
        refine mix_nil ?_)
      | (
        with_reducible refine wp_region_ext (by kernel_rfl) (by kernel_rfl) ?_
        repeat (first | go_big_quiet_skip | (go_big_quiet_want; go_big_quiet_op; first | go_big_quiet_on | (apply Exists.intro; refine ⟨fun _ => ?_, ?_⟩; (fail); (try rw [h1]); (try rw [h2]); (try rw [h3]); (try rw [h4]); (try rw [p1]); (try rw [p2]); (try rw [p3]); (try rw [p4]); (try rw [r1]); (try rw [r2]); (try rw [r3]); (try rw [r4]); (try rw [r5]); (try rw [r6]); (try rw [q3]); (try rw [q4]); (try rw [hp]); (try rw [hq]); go_big_quiet_on)))
        refine wpQuiet_nil ?_
        rintro _ ⟨tq, rfl⟩))
  refine bodyPost_ret (v := .agg #[.int .i64 c.cell, .slice p1 c.wk.length q1, .int .i64 c.ground, .slice p3 c.outs.length q3, .slice p4 c.next.length q4, .slice p5 c.ins.length q5]) (by simp [results, Try.results25, go_sem]) rfl ?_
  refine ⟨⟨p1, q1, p3, q3, p4, q4, p5, q5⟩, rfl, (by ((try simp only [ext_drew]); (try simp only [ext_ext]); repeat (first | exact Ext.refl _ | with_reducible apply Ext.add | with_reducible apply Ext.dr | apply Ext.alloc | apply Ext.ext | apply Ext.drew | refine Ext.trans ?_ (by assumption)))), ?_⟩
  have Q1 := O1.out
  (try rw [ext_ext] at Q1)
  have Q3 := O3.out
  (try rw [ext_ext] at Q3)
  have Q4 := O4.out
  (try rw [ext_ext] at Q4)
  have Q5 := O5.out
  (try rw [ext_ext] at Q5)
  exact OwnRL.st (OwnRL.lo (OwnRL.int (OwnRL.cons' (OwnR.fin Q1 (by ((try simp only [ext_drew]); (try simp only [ext_ext]); repeat (first | exact Ext.refl _ | with_reducible apply Ext.add | with_reducible apply Ext.dr | apply Ext.alloc | apply Ext.ext | apply Ext.drew | refine Ext.trans ?_ (by assumption)))) (by simp) (by simp [go_sem])) (OwnRL.int (OwnRL.cons' (OwnR.fin Q3 (by ((try simp only [ext_drew]); (try simp only [ext_ext]); repeat (first | exact Ext.refl _ | with_reducible apply Ext.add | with_reducible apply Ext.dr | apply Ext.alloc | apply Ext.ext | apply Ext.drew | refine Ext.trans ?_ (by assumption)))) (by simp) (by simp [go_sem])) (OwnRL.cons' (OwnR.fin Q4 (by ((try simp only [ext_drew]); (try simp only [ext_ext]); repeat (first | exact Ext.refl _ | with_reducible apply Ext.add | with_reducible apply Ext.dr | apply Ext.alloc | apply Ext.ext | apply Ext.drew | refine Ext.trans ?_ (by assumption)))) (by simp) (by simp [go_sem])) (OwnRL.cons' (OwnR.fin Q5 (by ((try simp only [ext_drew]); (try simp only [ext_ext]); repeat (first | exact Ext.refl _ | with_reducible apply Ext.add | with_reducible apply Ext.dr | apply Ext.alloc | apply Ext.ext | apply Ext.drew | refine Ext.trans ?_ (by assumption)))) (by simp) (by simp [go_sem])) (OwnRL.nil' (Nat.le_refl _)) (by (try simp [go_sem]) <;> (try simp [Xt.add]) <;> omega) (by (try simp [go_sem]) <;> (try simp [Xt.add]) <;> omega) (by (try simp [go_sem]) <;> (try simp [Xt.add]) <;> omega)) (by (try simp [go_sem]) <;> (try simp [Xt.add]) <;> omega) (by (try simp [go_sem]) <;> (try simp [Xt.add]) <;> omega) (by (try simp [go_sem]) <;> (try simp [Xt.add]) <;> omega)) (by (try simp [go_sem]) <;> (try simp [Xt.add]) <;> omega) (by (try simp [go_sem]) <;> (try simp [Xt.add]) <;> omega) (by (try simp [go_sem]) <;> (try simp [Xt.add]) <;> omega))) (by (try simp [go_sem]) <;> (try simp [Xt.add]) <;> omega) (by (try simp [go_sem]) <;> (try simp [Xt.add]) <;> omega) (by (try simp [go_sem]) <;> (try simp [Xt.add]) <;> omega))) (by (try simp [go_sem]) <;> (try simp [Xt.add]) <;> omega))

theorem eqCll_c (c : Cll) (h h' : CllH) (w : World) (hx : ReC w c h) (hx' : ReC w c h') (hb : BdC c) :
    Calls Try.prog 29 #[.agg #[.int .i64 c.cell, .slice h.a1 c.wk.length h.c1, .int .i64 c.ground, .slice h.a3 c.outs.length h.c3, .slice h.a4 c.next.length h.c4, .slice h.a5 c.ins.length h.c5], .agg #[.int .i64 c.cell, .slice h'.a1 c.wk.length h'.c1, .int .i64 c.ground, .slice h'.a3 c.outs.length h'.c3, .slice h'.a4 c.next.length h'.c4, .slice h'.a5 c.ins.length h'.c5]] w fun e w' => e = .returned (.bool true) ∧ Ext w w' := by
  have H1 := hid hx.r1
  have H3 := hid hx.r3
  have H4 := hid hx.r4
  have H5 := hid hx.r5
  have H1' := hid hx'.r1
  have H3' := hid hx'.r3
  have H4' := hid hx'.r4
  have H5' := hid hx'.r5
  have B1 := hb.b1
  have B3 := hb.b3
  have BO := hid hb.bo
  have B4 := hb.b4
  have B5 := hb.b5
  clear hx hx' hb
  go_enter Try.func29, Try.ntmps29
  try go_wp2_with (first
      | (go_at_call 55; refine (eqWlkS_c _ _ _ _ _ _ _ (Re.of (Hid.out (by assumption)) (by ((try simp only [ext_drew]); (try simp only [ext_ext]); repeat (first | exact Ext.refl _ | with_reducible apply Ext.add | with_reducible apply Ext.dr | apply Ext.alloc | apply Ext.ext | apply Ext.drew | refine Ext.trans ?_ (by assumption))))) (Re.of (Hid.out (by assumption)) (by ((try simp only [ext_drew]); (try simp only [ext_ext]); repeat (first | exact Ext.refl _ | with_reducible apply Ext.add | with_reducible apply Ext.dr | apply Ext.alloc | apply Ext.ext | apply Ext.drew | refine Ext.trans ?_ (by assumption))))) (by omega)).mono ?_; rintro e w' ⟨rfl, t, rfl⟩) | (go_at_call 56; refine (eqPclSS_c _ _ _ _ _ _ _ (Re.of (Hid.out (by assumption)) (by ((try simp only [ext_drew]); (try simp only [ext_ext]); repeat (first | exact Ext.refl _ | with_reducible apply Ext.add | with_reducible apply Ext.dr | apply Ext.alloc | apply Ext.ext | apply Ext.drew | refine Ext.trans ?_ (by assumption))))) (Re.of (Hid.out (by assumption)) (by ((try simp only [ext_drew]); (try simp only [ext_ext]); repeat (first | exact Ext.refl _ | with_reducible apply Ext.add | with_reducible apply Ext.dr | apply Ext.alloc | apply Ext.ext | apply Ext.drew | refine Ext.trans ?_ (by assumption))))) (by omega) (Hid.out (by assumption))).mono ?_; rintro e w' ⟨rfl, t, rfl⟩) | (go_at_call 57; refine (eqIntS_c _ _ _ _ _ _ _ (Re.of (Hid.out (by assumption)) (by ((try simp only [ext_drew]); (try simp only [ext_ext]); repeat (first | exact Ext.refl _ | with_reducible apply Ext.add | with_reducible apply Ext.dr | apply Ext.alloc | apply Ext.ext | apply Ext.drew | refine Ext.trans ?_ (by assumption))))) (Re.of (Hid.out (by assumption)) (by ((try simp only [ext_drew]); (try simp only [ext_ext]); repeat (first | exact Ext.refl _ | with_reducible apply Ext.add | with_reducible apply Ext.dr | apply Ext.alloc | apply Ext.ext | apply Ext.drew | refine Ext.trans ?_ (by assumption))))) (by omega)).mono ?_; rintro e w' ⟨rfl, t, rfl⟩)
      | (
        with_reducible refine wp_region_mix (by kernel_rfl) (by decide +kernel) ?_
        repeat (first
          | (refine mix_pure rfl ?_; (first | go_big_quiet_skip | (go_big_quiet_want; go_big_quiet_op; go_big_quiet_on)); refine wpQuiet_nil ?_)
          | (refine mix_skip (by rfl) ?_; (try simp only [Act.put, List.setIfInBounds_toArray, List.set_cons_zero, List.set_cons_succ]))
          | (refine mix_mk rfl (by rfl) (fun K hK => ?_); (first | (go_simp; first | (go_at_call 55; refine (eqWlkS_c _ _ _ _ _ _ _ (Re.of (Hid.out (by assumption)) (by ((try simp only [ext_drew]); (try simp only [ext_ext]); repeat (first | exact Ext.refl _ | with_reducible apply Ext.add | with_reducible apply Ext.dr | apply Ext.alloc | apply Ext.ext | apply Ext.drew | refine Ext.trans ?_ (by assumption))))) (Re.of (Hid.out (by assumption)) (by ((try simp only [ext_drew]); (try simp only [ext_ext]); repeat (first | exact Ext.refl _ | with_reducible apply Ext.add | with_reducible apply Ext.dr | apply Ext.alloc | apply Ext.ext | apply Ext.drew | refine Ext.trans ?_ (by assumption))))) (by omega)).mono ?_; rintro e w' ⟨rfl, t, rfl⟩) | (go_at_call 56; refine (eqPclSS_c _ _ _ _ _ _ _ (Re.of (Hid.out (by assumption)) (by ((try simp only [ext_drew]); (try simp only [ext_ext]); repeat (first | exact Ext.refl _ | with_reducible apply Ext.add | with_reducible apply Ext.dr | apply Ext.alloc | apply Ext.ext | apply Ext.drew | refine Ext.trans ?_ (by assumption))))) (Re.of (Hid.out (by assumption)) (by ((try simp only [ext_drew]); (try simp only [ext_ext]); repeat (first | exact Ext.refl _ | with_reducible apply Ext.add | with_reducible apply Ext.dr | apply Ext.alloc | apply Ext.ext | apply Ext.drew | refine Ext.trans ?_ (by assumption))))) (by omega) (Hid.out (by assumption))).mono ?_; rintro e w' ⟨rfl, t, rfl⟩) | (go_at_call 57; refine (eqIntS_c _ _ _ _ _ _ _ (Re.of (Hid.out (by assumption)) (by ((try simp only [ext_drew]); (try simp only [ext_ext]); repeat (first | exact Ext.refl _ | with_reducible apply Ext.add | with_reducible apply Ext.dr | apply Ext.alloc | apply Ext.ext | apply Ext.drew | refine Ext.trans ?_ (by assumption))))) (Re.of (Hid.out (by assumption)) (by ((try simp only [ext_drew]); (try simp only [ext_ext]); repeat (first | exact Ext.refl _ | with_reducible apply Ext.add | with_reducible apply Ext.dr | apply Ext.alloc | apply Ext.ext | apply Ext.drew | refine Ext.trans ?_ (by assumption))))) (by omega)).mono ?_; rintro e w' ⟨rfl, t, rfl⟩) | skip)); (show K _ _); refine hK _ _ (show Ext _ _ from (by ((try simp only [ext_drew]); (try simp only [ext_ext]); repeat (first | exact Ext.refl _ | with_reducible apply Ext.add | with_reducible apply Ext.dr | apply Ext.alloc | apply Ext.ext | apply Ext.drew | refine Ext.trans ?_ (by assumption))))) ?_; clear hK K; (try simp only [Act.put, List.setIfInBounds_toArray, List.set_cons_zero, List.set_cons_succ])))
        refine mix_nil ?_)
      | (
        with_reducible refine wp_region_ext (by kernel_rfl) (by kernel_rfl) ?_
        repeat (first | go_big_quiet_skip | (go_big_quiet_want; go_big_quiet_op; first | go_big_quiet_on | (apply Exists.intro; refine ⟨fun _ => ?_, ?_⟩; ((first | (go_at_call 55; first | exact quiet_call (eqWlkS_c _ _ _ _ _ _ _ (Re.of (Hid.out (by assumption)) (by ((try simp only [ext_drew]); (try simp only [ext_ext]); repeat (first | exact Ext.refl _ | with_reducible apply Ext.add | with_reducible apply Ext.dr | apply Ext.alloc | apply Ext.ext | apply Ext.drew | refine Ext.trans ?_ (by assumption))))) (Re.of (Hid.out (by assumption)) (by ((try simp only [ext_drew]); (try simp only [ext_ext]); repeat (first | exact Ext.refl _ | with_reducible apply Ext.add | with_reducible apply Ext.dr | apply Ext.alloc | apply Ext.ext | apply Ext.drew | refine Ext.trans ?_ (by assumption))))) (by omega)) | exact quiet_call2 (eqWlkS_c _ _ _ _ _ _ _ (Re.of (Hid.out (by assumption)) (by ((try simp only [ext_drew]); (try simp only [ext_ext]); repeat (first | exact Ext.refl _ | with_reducible apply Ext.add | with_reducible apply Ext.dr | apply Ext.alloc | apply Ext.ext | apply Ext.drew | refine Ext.trans ?_ (by assumption))))) (Re.of (Hid.out (by assumption)) (by ((try simp only [ext_drew]); (try simp only [ext_ext]); repeat (first | exact Ext.refl _ | with_reducible apply Ext.add | with_reducible apply Ext.dr | apply Ext.alloc | apply Ext.ext | apply Ext.drew | refine Ext.trans ?_ (by assumption))))) (by omega))) | (go_at_call 56; first | exact quiet_call (eqPclSS_c _ _ _ _ _ _ _ (Re.of (Hid.out (by assumption)) (by ((try simp only [ext_drew]); (try simp only [ext_ext]); repeat (first | exact Ext.refl _ | with_reducible apply Ext.add | with_reducible apply Ext.dr | apply Ext.alloc | apply Ext.ext | apply Ext.drew | refine Ext.trans ?_ (by assumption))))) (Re.of (Hid.out (by assumption)) (by ((try simp only [ext_drew]); (try simp only [ext_ext]); repeat (first | exact Ext.refl _ | with_reducible apply Ext.add | with_reducible apply Ext.dr | apply Ext.alloc | apply Ext.ext | apply Ext.drew | refine Ext.trans ?_ (by assumption))))) (by omega) (Hid.out (by assumption))) | exact quiet_call2 (eqPclSS_c _ _ _ _ _ _ _ (Re.of (Hid.out (by assumption)) (by ((try simp only [ext_drew]); (try simp only [ext_ext]); repeat (first | exact Ext.refl _ | with_reducible apply Ext.add | with_reducible apply Ext.dr | apply Ext.alloc | apply Ext.ext | apply Ext.drew | refine Ext.trans ?_ (by assumption))))) (Re.of (Hid.out (by assumption)) (by ((try simp only [ext_drew]); (try simp only [ext_ext]); repeat (first | exact Ext.refl _ | with_reducible apply Ext.add | with_reducible apply Ext.dr | apply Ext.alloc | apply Ext.ext | apply Ext.drew | refine Ext.trans ?_ (by assumption))))) (by omega) (Hid.out (by assumption)))) | (go_at_call 57; first | exact quiet_call (eqIntS_c _ _ _ _ _ _ _ (Re.of (Hid.out (by assumption)) (by ((try simp only [ext_drew]); (try simp only [ext_ext]); repeat (first | exact Ext.refl _ | with_reducible apply Ext.add | with_reducible apply Ext.dr | apply Ext.alloc | apply Ext.ext | apply Ext.drew | refine Ext.trans ?_ (by assumption))))) (Re.of (Hid.out (by assumption)) (by ((try simp only [ext_drew]); (try simp only [ext_ext]); repeat (first | exact Ext.refl _ | with_reducible apply Ext.add | with_reducible apply Ext.dr | apply Ext.alloc | apply Ext.ext | apply Ext.drew | refine Ext.trans ?_ (by assumption))))) (by omega)) | exact quiet_call2 (eqIntS_c _ _ _ _ _ _ _ (Re.of (Hid.out (by assumption)) (by ((try simp only [ext_drew]); (try simp only [ext_ext]); repeat (first | exact Ext.refl _ | with_reducible apply Ext.add | with_reducible apply Ext.dr | apply Ext.alloc | apply Ext.ext | apply Ext.drew | refine Ext.trans ?_ (by assumption))))) (Re.of (Hid.out (by assumption)) (by ((try simp only [ext_drew]); (try simp only [ext_ext]); repeat (first | exact Ext.refl _ | with_reducible apply Ext.add | with_reducible apply Ext.dr | apply Ext.alloc | apply Ext.ext | apply Ext.drew | refine Ext.trans ?_ (by assumption))))) (by omega))))); (try rw [h1]); (try rw [h2]); (try rw [h3]); (try rw [h4]); (try rw [p1]); (try rw [p2]); (try rw [p3]); (try rw [p4]); (try rw [r1]); (try rw [r2]); (try rw [r3]); (try rw [r4]); (try rw [r5]); (try rw [r6]); (try rw [q3]); (try rw [q4]); (try rw [hp]); (try rw [hq]); go_big_quiet_on)))
        refine wpQuiet_nil ?_
        rintro _ ⟨tq, rfl⟩))
  go_ret
  exact ⟨rfl, (by ((try simp only [ext_drew]); (try simp only [ext_ext]); repeat (first | exact Ext.refl _ | with_reducible apply Ext.add | with_reducible apply Ext.dr | apply Ext.alloc | apply Ext.ext | apply Ext.drew | refine Ext.trans ?_ (by assumption))))⟩
end Go.Proofs.Ytdogknbkcididaa
