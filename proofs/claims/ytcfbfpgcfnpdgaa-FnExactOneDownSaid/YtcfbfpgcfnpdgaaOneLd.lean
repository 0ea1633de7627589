/- OneLand: a walker is there again. -/
import Derived.Test.YtcfbfpgcfnpdgaaOneF
namespace Go.Proofs.Ytcfbfpgcfnpdgaa
open Go.RowKit
set_option linter.unusedSimpArgs false
set_option linter.unusedVariables false

theorem wlkAll_lt {m : Mp} {xs : List Wlk} (h : wlkAll m xs = true) : ∀ (d i : Nat) (x y : Wlk), xs[i]? = some x → xs[i + d + 1]? = some y → x.id < y.id := by
  have h1 : ∀ i y, xs[i]? = some y → wlkAt m xs i y = true := fun i y hy => by have := allI_iff.1 h i y hy; rwa [Nat.zero_add] at this
  intro d
  induction d with
  | zero =>
    intro i x y hx hy
    have := h1 (i + 1) y hy
    simp only [wlkAt, Bool.and_eq_true] at this
    rw [ordAt_succ hx] at this
    simpa using this.2
  | succ d ih =>
    intro i x y hx hy
    have hl : i + d + 1 < xs.length := by have := (List.getElem?_eq_some_iff.1 hy).1; omega
    have h2 := ih i x xs[i + d + 1] hx (List.getElem?_eq_getElem hl)
    have := h1 (i + (d + 1) + 1) y hy
    simp only [wlkAt, Bool.and_eq_true] at this
    rw [show i + (d + 1) + 1 = (i + d + 1) + 1 by omega, ordAt_succ (List.getElem?_eq_getElem hl)] at this
    have h3 := this.2
    simp only [decide_eq_true_eq] at h3
    omega
def landW (xs : List Onw) (id : Int) : List Onw := xs.map fun x => if idOn id x then hereOn x else x
theorem landW_len (xs : List Onw) (id : Int) : (landW xs id).length = xs.length := by simp [landW]
theorem landW_none {xs : List Onw} {id : Int} (h : ∀ y ∈ xs, idOn id y = false) : landW xs id = xs := by
  unfold landW
  conv => rhs; rw [← List.map_id xs]
  exact List.map_congr_left fun y hy => by simp [h y hy]
theorem landW_one {xs : List Onw} {m : Mp} {id : Int} {k : Nat} {x : Onw} (h : wlkAll m (xs.map Onw.wk) = true) (hx : xs[k]? = some x) (hp : idOn id x = true) : landW xs id = xs.set k (hereOn x) := by
  apply List.ext_getElem?
  intro i
  unfold landW
  rw [List.getElem?_map, List.getElem?_set]
  have hk := (List.getElem?_eq_some_iff.1 hx).1
  by_cases e : k = i
  · subst e
    rw [hx]
    simp [hp, hk]
  · rw [if_neg e]
    cases hy : xs[i]? with
    | none => rfl
    | some y =>
      have gx : (xs.map Onw.wk)[k]? = some x.wk := by rw [List.getElem?_map, hx]; rfl
      have gy : (xs.map Onw.wk)[i]? = some y.wk := by rw [List.getElem?_map, hy]; rfl
      have hne : x.wk.id ≠ y.wk.id := by
        rcases Nat.lt_or_gt_of_ne e with h1 | h1
        · have := wlkAll_lt h (i - k - 1) k _ _ gx (by rw [show k + (i - k - 1) + 1 = i by omega]; exact gy)
          omega
        · have := wlkAll_lt h (k - i - 1) i _ _ gy (by rw [show i + (k - i - 1) + 1 = k by omega]; exact gx)
          omega
      have hp' : x.wk.id = id := by simpa [idOn] using hp
      have : idOn id y = false := by
        simp only [idOn, beq_eq_false_iff_ne]; rw [← hp']; exact Ne.symm hne
      simp [this]
def oneZ : One := ⟨⟨0, 0⟩, [], [], []⟩
def olV (o : One) (id : Int) : One := if oneOk o then ⟨o.map, landW o.wk id, o.ground, o.air⟩ else oneZ
theorem own_oneZ (w : World) : Own w sOne (oneCells oneZ ⟨none, 0, none, 0, none, 0⟩) (oneDat oneZ) [] := by
  have n1 : ∀ {e : Sch}, Own w (.sl e) [.slice none 0 0] (.l []) [] := fun {e} => by
    unfold Own
    exact ⟨[], rfl, Nat.zero_le _, .inl ⟨rfl, rfl, none, 0, rfl⟩⟩
  exact own_one_join (m := ⟨0, 0⟩) (wk := []) (gr := []) (air := []) n1 n1 n1
theorem made_oneZ {w w' : World} (hE : Ext w w') : MadeO w oneZ (.returned (.agg #[.int .i64 0, .int .i64 0, .slice none 0 0, .slice none 0 0, .slice none 0 0])) w' :=
  ⟨⟨none, 0, none, 0, none, 0⟩, rfl, hE, Nat.le_refl _, [], by simp, by simp, own_oneZ w'⟩
theorem oneOk_wk {o : One} (h : oneOk o = true) : wlkAll o.map (o.wk.map Onw.wk) = true := by
  simp only [oneOk, Bool.and_eq_true] at h
  exact h.2.2

def landK (xs : List Onw) (id : Int) (k : Nat) : List Onw := xs.mapIdx fun i x => if decide (i < k) && idOn id x then hereOn x else x
theorem landK_zero (xs : List Onw) (id : Int) : landK xs id 0 = xs := by
  apply List.ext_getElem?
  intro i
  unfold landK
  rw [List.getElem?_mapIdx]
  cases xs[i]? <;> simp
theorem landK_all (xs : List Onw) (id : Int) {k : Nat} (hk : xs.length ≤ k) : landK xs id k = landW xs id := by
  apply List.ext_getElem?
  intro i
  unfold landK landW
  rw [List.getElem?_mapIdx, List.getElem?_map]
  cases hx : xs[i]? with
  | none => rfl
  | some x =>
    have : i < k := Nat.lt_of_lt_of_le (List.getElem?_eq_some_iff.1 hx).1 hk
    simp [this]
theorem landK_get (xs : List Onw) (id : Int) (k : Nat) : (landK xs id k)[k]? = xs[k]? := by
  unfold landK
  rw [List.getElem?_mapIdx]
  cases xs[k]? <;> simp
theorem landK_len (xs : List Onw) (id : Int) (k : Nat) : (landK xs id k).length = xs.length := by simp [landK]
theorem landK_miss {xs : List Onw} {id : Int} {k : Nat} {x : Onw} (hx : xs[k]? = some x) (hp : idOn id x = false) : landK xs id (k + 1) = landK xs id k := by
  apply List.ext_getElem?
  intro i
  unfold landK
  rw [List.getElem?_mapIdx, List.getElem?_mapIdx]
  by_cases e : i = k
  · subst e; rw [hx]; simp [hp]
  · have : (decide (i < k + 1)) = decide (i < k) := by congr 1; apply propext; omega
    rw [this]
theorem landK_hit {xs : List Onw} {id : Int} {k : Nat} {x : Onw} (hx : xs[k]? = some x) (hp : idOn id x = true) : landK xs id (k + 1) = (landK xs id k).set k (hereOn x) := by
  have hk := (List.getElem?_eq_some_iff.1 hx).1
  apply List.ext_getElem?
  intro i
  rw [List.getElem?_set]
  by_cases e : k = i
  · subst e
    rw [if_pos rfl, landK_len, if_pos hk]
    unfold landK
    rw [List.getElem?_mapIdx, hx]; simp [hp]
  · rw [if_neg e]
    unfold landK
    rw [List.getElem?_mapIdx, List.getElem?_mapIdx]
    have : (decide (i < k + 1)) = decide (i < k) := by congr 1; apply propext; omega
    rw [this]
/-- What is owned behind changes, in a world that only adds to the first one. -/
theorem one_fin {w X W : World} {B C : List Nat} {lo : Nat} {vs : List Value} {d : Dat} (hE : Ext w X) (hc : Chg C X W) (hC : ∀ b ∈ C, w.heap.size ≤ b) (ho : Own W sOne vs d B) (hn : B.Nodup) (hr : ∀ b ∈ B, lo ≤ b ∧ b < X.heap.size) (hl : w.heap.size ≤ lo) :
    Ext w W ∧ OwnR w.heap.size W.heap.size W sOne vs d :=
  ⟨Ext.of_below (Below.chg (w0 := w) hE.below hc hC), Nat.le_refl _, B, hn, fun b hb => by have := hr b hb; have := hc.size; omega, ho⟩

theorem made_one {w X W : World} {m : Mp} {wk : List Onw} {gr : List Int} {air : List (List Int)} {p1 p2 p3 : Option Addr} {q1 q2 q3 n1 n2 n3 : Nat} {B2 B3 B4 C : List Nat} (hE : Ext w X) (hc : Chg C X W) (hC : ∀ b ∈ C, w.heap.size ≤ b) (e1 : wk.length = n1) (e2 : gr.length = n2) (e3 : air.length = n3)
    (O2 : Own W (.sl sOnw) [.slice p1 n1 q1] (.l (wk.map Onw.dat)) B2) (O3 : Own W (.sl .int) [.slice p2 n2 q2] (.l (gr.map Dat.i)) B3) (O4 : Own W (.sl (.sl .int)) [.slice p3 n3 q3] (.l (air.map (ldat Dat.i))) B4) (hn : (B2 ++ (B3 ++ B4)).Nodup) (hr : ∀ b ∈ B2 ++ (B3 ++ B4), w.heap.size ≤ b ∧ b < X.heap.size) :
    MadeO w ⟨m, wk, gr, air⟩ (.returned (.agg #[.int .i64 m.c, .int .i64 m.w, .slice p1 n1 q1, .slice p2 n2 q2, .slice p3 n3 q3])) W := by
  subst e1 e2 e3
  exact ⟨⟨p1, q1, p2, q2, p3, q3⟩, rfl, one_fin hE hc hC (own_one_join (m := m) O2 O3 O4) hn hr (Nat.le_refl _)⟩
/-- Who is owned stays where others change. -/
theorem own_keep {X W : World} {s : Sch} {vs : List Value} {d : Dat} {B C : List Nat} (O : Own X s vs d B) (hc : Chg C X W) (hr : ∀ b ∈ B, b < X.heap.size ∧ b ∉ C) : Own W s vs d B := O.chg hc (fun b hb => (hr b hb).1) (fun b hb => (hr b hb).2)
set_option maxRecDepth 100000 in
set_option maxHeartbeats 4000000 in
theorem iOneLand_c (o : One) (h : OneH) (id : Int) (w : World) (hx : ReO w o h) (hb : BdO o) :
    Calls Try.prog 18 #[.agg #[.int .i64 o.map.c, .int .i64 o.map.w, .slice h.a1 o.wk.length h.c1, .slice h.a2 o.ground.length h.c2, .slice h.a3 o.air.length h.c3], .int .i64 id] w (MadeO w (olV o id)) := by
  have HX := hid hx
  have HBD := hid hb
  have B1 := hb.b1
  clear hx hb
  cases hok : oneOk o with
  | false =>
    have E := hid hok
    go_enter Try.func18, Try.ntmps18
    try go_wp2_with (first
        | (go_at_call 43; refine (iOneOk_c _ _ _ (ReO.of (Hid.out (by assumption)) (by ((try simp only [ext_drew]); (try simp only [ext_ext]); repeat (first | exact Ext.refl _ | with_reducible apply Ext.add | with_reducible apply Ext.dr | apply Ext.alloc | apply Ext.ext | apply Ext.drew | refine Ext.trans ?_ (by assumption))))) (Hid.out (by assumption))).mono ?_; rintro e w' ⟨rfl, t, rfl⟩)
        | (
          with_reducible refine wp_region_mix (by kernel_rfl) (by decide +kernel) ?_
          repeat (first
            | (refine mix_pure rfl ?_; (first | go_big_quiet_skip | (go_big_quiet_want; go_big_quiet_op; go_big_quiet_on)); refine wpQuiet_nil ?_)
            | (refine mix_skip (by rfl) ?_; (try simp only [Act.put, List.setIfInBounds_toArray, List.set_cons_zero, List.set_cons_succ]))
            | (refine mix_mk rfl (by rfl) (fun K hK => ?_); (first | (go_simp; first | (go_at_call 43; refine (iOneOk_c _ _ _ (ReO.of (Hid.out (by assumption)) (by ((try simp only [ext_drew]); (try simp only [ext_ext]); repeat (first | exact Ext.refl _ | with_reducible apply Ext.add | with_reducible apply Ext.dr | apply Ext.alloc | apply Ext.ext | apply Ext.drew | refine Ext.trans ?_ (by assumption))))) (Hid.out (by assumption))).mono ?_; rintro e w' ⟨rfl, t, rfl⟩) | skip)); (show K _ _); refine hK _ _ (show Ext _ _ from (by ((try simp only [ext_drew]); (try simp only [ext_ext]); repeat (first | exact Ext.refl _ | with_reducible apply Ext.add | with_reducible apply Ext.dr | apply Ext.alloc | apply Ext.ext | apply Ext.drew | refine Ext.trans ?_ (by assumption))))) ?_; clear hK K; (try simp only [Act.put, List.setIfInBounds_toArray, List.set_cons_zero, List.set_cons_succ])))
          refine mix_nil ?_)
        | (
          with_reducible refine wp_region_ext (by kernel_rfl) (by kernel_rfl) ?_
          repeat (first | go_big_quiet_skip | (go_big_quiet_want; go_big_quiet_op; first | go_big_quiet_on | (apply Exists.intro; refine ⟨fun _ => ?_, ?_⟩; ((first | (go_at_call 43; first | exact quiet_call (iOneOk_c _ _ _ (ReO.of (Hid.out (by assumption)) (by ((try simp only [ext_drew]); (try simp only [ext_ext]); repeat (first | exact Ext.refl _ | with_reducible apply Ext.add | with_reducible apply Ext.dr | apply Ext.alloc | apply Ext.ext | apply Ext.drew | refine Ext.trans ?_ (by assumption))))) (Hid.out (by assumption))) | exact quiet_call2 (iOneOk_c _ _ _ (ReO.of (Hid.out (by assumption)) (by ((try simp only [ext_drew]); (try simp only [ext_ext]); repeat (first | exact Ext.refl _ | with_reducible apply Ext.add | with_reducible apply Ext.dr | apply Ext.alloc | apply Ext.ext | apply Ext.drew | refine Ext.trans ?_ (by assumption))))) (Hid.out (by assumption)))))); (try rw [h1]); (try rw [h2]); (try rw [h3]); (try rw [h4]); (try rw [p1]); (try rw [p2]); (try rw [p3]); (try rw [p4]); (try rw [r1]); (try rw [r2]); (try rw [r3]); (try rw [r4]); (try rw [r5]); (try rw [r6]); (try rw [q3]); (try rw [q4]); (try rw [hp]); (try rw [hq]); go_big_quiet_on)))
          refine wpQuiet_nil ?_
          rintro _ ⟨tq, rfl⟩))
    refine bodyPost_ret (v := .agg #[.int .i64 0, .int .i64 0, .slice none 0 0, .slice none 0 0, .slice none 0 0]) (by simp [results, Try.results18, go_sem]) rfl ?_
    rw [show olV o id = oneZ by rw [olV, E.out]; rfl]
    exact made_oneZ (by ((try simp only [ext_drew]); (try simp only [ext_ext]); repeat (first | exact Ext.refl _ | with_reducible apply Ext.add | with_reducible apply Ext.dr | apply Ext.alloc | apply Ext.ext | apply Ext.drew | refine Ext.trans ?_ (by assumption))))
  | true =>
    have E := hid (show olV o id = ⟨o.map, landW o.wk id, o.ground, o.air⟩ by rw [olV, hok]; rfl)
    have HWA := hid (oneOk_wk hok)
    rw [E.out]
    go_enter Try.func18, Try.ntmps18
    try go_wp2_with (first
        | (go_at_call 43; refine (iOneOk_c _ _ _ (ReO.of (Hid.out (by assumption)) (by ((try simp only [ext_drew]); (try simp only [ext_ext]); repeat (first | exact Ext.refl _ | with_reducible apply Ext.add | with_reducible apply Ext.dr | apply Ext.alloc | apply Ext.ext | apply Ext.drew | refine Ext.trans ?_ (by assumption))))) (Hid.out (by assumption))).mono ?_; rintro e w' ⟨rfl, t, rfl⟩) | (go_at_call 44; (with_reducible refine (iOneCopy_c o h _ (ReO.of HX.out (by ((try simp only [ext_drew]); (try simp only [ext_ext]); repeat (first | exact Ext.refl _ | with_reducible apply Ext.add | with_reducible apply Ext.dr | apply Ext.alloc | apply Ext.ext | apply Ext.drew | refine Ext.trans ?_ (by assumption))))) HBD.out).mono ?_); rintro e w' ⟨⟨p1, q1, p2, q2, p3, q3⟩, rfl, ⟨t0, rfl⟩, ho⟩; have O := hid ho; clear ho)
        | (
          with_reducible refine wp_region_mix (by kernel_rfl) (by decide +kernel) ?_
          repeat (first
            | (refine mix_pure rfl ?_; (first | go_big_quiet_skip | (go_big_quiet_want; go_big_quiet_op; go_big_quiet_on)); refine wpQuiet_nil ?_)
            | (refine mix_skip (by rfl) ?_; (try simp only [Act.put, List.setIfInBounds_toArray, List.set_cons_zero, List.set_cons_succ]))
            | (refine mix_mk rfl (by rfl) (fun K hK => ?_); (first | (go_simp; first | (go_at_call 43; refine (iOneOk_c _ _ _ (ReO.of (Hid.out (by assumption)) (by ((try simp only [ext_drew]); (try simp only [ext_ext]); repeat (first | exact Ext.refl _ | with_reducible apply Ext.add | with_reducible apply Ext.dr | apply Ext.alloc | apply Ext.ext | apply Ext.drew | refine Ext.trans ?_ (by assumption))))) (Hid.out (by assumption))).mono ?_; rintro e w' ⟨rfl, t, rfl⟩) | (go_at_call 44; (with_reducible refine (iOneCopy_c o h _ (ReO.of HX.out (by ((try simp only [ext_drew]); (try simp only [ext_ext]); repeat (first | exact Ext.refl _ | with_reducible apply Ext.add | with_reducible apply Ext.dr | apply Ext.alloc | apply Ext.ext | apply Ext.drew | refine Ext.trans ?_ (by assumption))))) HBD.out).mono ?_); rintro e w' ⟨⟨p1, q1, p2, q2, p3, q3⟩, rfl, ⟨t0, rfl⟩, ho⟩; have O := hid ho; clear ho) | skip)); (show K _ _); refine hK _ _ (show Ext _ _ from (by ((try simp only [ext_drew]); (try simp only [ext_ext]); repeat (first | exact Ext.refl _ | with_reducible apply Ext.add | with_reducible apply Ext.dr | apply Ext.alloc | apply Ext.ext | apply Ext.drew | refine Ext.trans ?_ (by assumption))))) ?_; clear hK K; (try simp only [Act.put, List.setIfInBounds_toArray, List.set_cons_zero, List.set_cons_succ])))
          refine mix_nil ?_)
        | (
          with_reducible refine wp_region_ext (by kernel_rfl) (by kernel_rfl) ?_
          repeat (first | go_big_quiet_skip | (go_big_quiet_want; go_big_quiet_op; first | go_big_quiet_on | (apply Exists.intro; refine ⟨fun _ => ?_, ?_⟩; ((first | (go_at_call 43; first | exact quiet_call (iOneOk_c _ _ _ (ReO.of (Hid.out (by assumption)) (by ((try simp only [ext_drew]); (try simp only [ext_ext]); repeat (first | exact Ext.refl _ | with_reducible apply Ext.add | with_reducible apply Ext.dr | apply Ext.alloc | apply Ext.ext | apply Ext.drew | refine Ext.trans ?_ (by assumption))))) (Hid.out (by assumption))) | exact quiet_call2 (iOneOk_c _ _ _ (ReO.of (Hid.out (by assumption)) (by ((try simp only [ext_drew]); (try simp only [ext_ext]); repeat (first | exact Ext.refl _ | with_reducible apply Ext.add | with_reducible apply Ext.dr | apply Ext.alloc | apply Ext.ext | apply Ext.drew | refine Ext.trans ?_ (by assumption))))) (Hid.out (by assumption)))))); (try rw [h1]); (try rw [h2]); (try rw [h3]); (try rw [h4]); (try rw [p1]); (try rw [p2]); (try rw [p3]); (try rw [p4]); (try rw [r1]); (try rw [r2]); (try rw [r3]); (try rw [r4]); (try rw [r5]); (try rw [r6]); (try rw [q3]); (try rw [q4]); (try rw [hp]); (try rw [hq]); go_big_quiet_on)))
          refine wpQuiet_nil ?_
          rintro _ ⟨tq, rfl⟩))
    refine calls_gen fun X hX => ?_
    generalize hn1 : o.wk.length = n1 at *
    have HN1 := hid hn1
    generalize hT : w.heap.size + 1 + 1 + (t.add t0).bs.size = T
    have EX : Ext w X := by rw [hX]; ((try simp only [ext_drew]); (try simp only [ext_ext]); repeat (first | exact Ext.refl _ | with_reducible apply Ext.add | with_reducible apply Ext.dr | apply Ext.alloc | apply Ext.ext | apply Ext.drew | refine Ext.trans ?_ (by assumption)))
    have AW := OwnR.of O.out (w' := X) (by rw [hX]; ((try simp only [ext_drew]); (try simp only [ext_ext]); repeat (first | exact Ext.refl _ | with_reducible apply Ext.add | with_reducible apply Ext.dr | apply Ext.alloc | apply Ext.ext | apply Ext.drew | refine Ext.trans ?_ (by assumption))))
    have hlo : w.heap.size + 2 ≤ (ext ((w.alloc (Obj.cells #[.int .i64 o.map.c, .int .i64 o.map.w, .slice h.a1 n1 h.c1, .slice h.a2 o.ground.length h.c2, .slice h.a3 o.air.length h.c3] 44)).alloc (Obj.cells #[.int .i64 0, .int .i64 0, .slice none 0 0, .slice none 0 0, .slice none 0 0] 44)) t).heap.size := (by (try simp [go_sem]) <;> (try simp [Xt.add]) <;> omega)
    have hhi : (ext (ext ((w.alloc (Obj.cells #[.int .i64 o.map.c, .int .i64 o.map.w, .slice h.a1 n1 h.c1, .slice h.a2 o.ground.length h.c2, .slice h.a3 o.air.length h.c3] 44)).alloc (Obj.cells #[.int .i64 0, .int .i64 0, .slice none 0 0, .slice none 0 0, .slice none 0 0] 44)) t) t0).heap.size ≤ T := by rw [← hT]; ((try simp [go_sem]) <;> (try simp [Xt.add]) <;> omega)
    obtain ⟨_, B, hnd, hr, ho⟩ := AW
    have hr' : ∀ b ∈ B, w.heap.size + 2 ≤ b ∧ b < T := fun b hb => by have := hr b hb; omega
    obtain ⟨B2, B3, B4, rfl, O2, O3, O4⟩ := own_one_split ho
    dsimp only at O2 O3 O4
    rw [HN1.out] at O2
    have bT : X.heap[T]? = some (.cells #[.int .i64 o.map.c, .int .i64 o.map.w, .slice p1 n1 q1, .slice p2 o.ground.length q2, .slice p3 o.air.length q3] 44 (0, 0)) := by rw [hX]; exact alloc_last (by rw [← hT]; simp [go_sem])
    have bR : X.heap[w.heap.size + 1]? = some (.cells #[.int .i64 0, .int .i64 0, .slice none 0 0, .slice none 0 0, .slice none 0 0] 44 (0, 0)) := by rw [hX]; exact blk_alloc (blk_ext (alloc_last (by simp)))
    have hTR : w.heap.size + 2 ≤ T := by omega
    have HEX := hid EX
    have HND := hid hnd
    have HRR := hid hr'
    have HO2 := hid O2
    have HO3 := hid O3
    have HO4 := hid O4
    have BT := hid bT
    have BR := hid bR
    have lT := lt_blk bT
    have lR := lt_blk bR
    clear hX hr hr' ho O2 O3 O4 O hlo hhi EX hnd hn1 bT bR hT
    have cT0 : X.cell? ⟨T, 0, none⟩ = some (.int .i64 o.map.c) := (cell_blk BT.out 0).trans rfl
    have cT1 : X.cell? ⟨T, 1, none⟩ = some (.int .i64 o.map.w) := (cell_blk BT.out 1).trans rfl
    have cT2 : X.cell? ⟨T, 2, none⟩ = some (.slice p1 n1 q1) := (cell_blk BT.out 2).trans rfl
    have cT3 : X.cell? ⟨T, 3, none⟩ = some (.slice p2 o.ground.length q2) := (cell_blk BT.out 3).trans rfl
    have cT4 : X.cell? ⟨T, 4, none⟩ = some (.slice p3 o.air.length q3) := (cell_blk BT.out 4).trans rfl
    have cR0 : X.cell? ⟨w.heap.size + 1, 0, none⟩ = some (.int .i64 0) := (cell_blk BR.out 0).trans rfl
    have cR1 : X.cell? ⟨w.heap.size + 1, 1, none⟩ = some (.int .i64 0) := (cell_blk BR.out 1).trans rfl
    have cR2 : X.cell? ⟨w.heap.size + 1, 2, none⟩ = some (.slice none 0 0) := (cell_blk BR.out 2).trans rfl
    have cR3 : X.cell? ⟨w.heap.size + 1, 3, none⟩ = some (.slice none 0 0) := (cell_blk BR.out 3).trans rfl
    have cR4 : X.cell? ⟨w.heap.size + 1, 4, none⟩ = some (.slice none 0 0) := (cell_blk BR.out 4).trans rfl
    have zR0 := frozen_blk BR.out 0
    have zR1 := frozen_blk BR.out 1
    have zR2 := frozen_blk BR.out 2
    have zR3 := frozen_blk BR.out 3
    have zR4 := frozen_blk BR.out 4
    have HRe := hid (OwnR.one' (w := X) (lo := w.heap.size + 2) (hi := T) (o := o) (h := ⟨p1, q1, p2, q2, p3, q3⟩) ⟨by omega, _, HND.out, HRR.out, (by have := own_one_join (m := o.map) HO2.out HO3.out HO4.out; rw [← HN1.out] at this; exact this)⟩)
    rcases place_lt (p := idOn id) (xs := o.wk) (i := 0) with ⟨h1, h2⟩ | ⟨k, x, h1, h2, h3, h4⟩
    · have HL := hid (landW_none h2)
      have H1 : onePlace o.wk id = -1 := h1
      clear h1 h2
      have HF := (findOne_c o ⟨p1, q1, p2, q2, p3, q3⟩ id X HRe.out (by rw [HN1.out]; exact B1)).mono (fun e w' h => h)
      dsimp only at HF
      rw [HN1.out, H1] at HF
      refine HF.mono ?_
      rintro e w' ⟨rfl, t, rfl⟩
      try go_wp2_with (first
          | fail
          | (
            with_reducible refine wp_region_mix (by kernel_rfl) (by decide +kernel) ?_
            repeat (first
              | (refine mix_pure rfl ?_; (first | go_big_quiet_skip | (go_big_quiet_want; go_big_quiet_op; go_big_quiet_on)); refine wpQuiet_nil ?_)
              | (refine mix_skip (by rfl) ?_; (try simp only [Act.put, List.setIfInBounds_toArray, List.set_cons_zero, List.set_cons_succ]))
              | (refine mix_mk rfl (by rfl) (fun K hK => ?_); (first | (go_simp; first | skip)); (show K _ _); refine hK _ _ (show Ext _ _ from (by ((try simp only [ext_drew]); (try simp only [ext_ext]); repeat (first | exact Ext.refl _ | with_reducible apply Ext.add | with_reducible apply Ext.dr | apply Ext.alloc | apply Ext.ext | apply Ext.drew | refine Ext.trans ?_ (by assumption))))) ?_; clear hK K; (try simp only [Act.put, List.setIfInBounds_toArray, List.set_cons_zero, List.set_cons_succ])))
            refine mix_nil ?_)
          | (
            with_reducible refine wp_region_ext (by kernel_rfl) (by kernel_rfl) ?_
            repeat (first | go_big_quiet_skip | (go_big_quiet_want; go_big_quiet_op; first | go_big_quiet_on | (apply Exists.intro; refine ⟨fun _ => ?_, ?_⟩; (fail); (try rw [h1]); (try rw [h2]); (try rw [h3]); (try rw [h4]); (try rw [p1]); (try rw [p2]); (try rw [p3]); (try rw [p4]); (try rw [r1]); (try rw [r2]); (try rw [r3]); (try rw [r4]); (try rw [r5]); (try rw [r6]); (try rw [q3]); (try rw [q4]); (try rw [hp]); (try rw [hq]); go_big_quiet_on)))
            refine wpQuiet_nil ?_
            rintro _ ⟨tq, rfl⟩))
      refine bodyPost_ret (v := .agg #[.int .i64 o.map.c, .int .i64 o.map.w, .slice p1 n1 q1, .slice p2 o.ground.length q2, .slice p3 o.air.length q3]) (by simp [results, Try.results18, go_sem, cT0, cT1, cT2, cT3, cT4, cR0, cR1, cR2, cR3, cR4, lT, lR]) rfl ?_
      rw [HL.out]
      have hC : ∀ c ∈ [w.heap.size + 1], w.heap.size ≤ c := by simp
      have hk : ∀ b, b ∈ B2 ++ (B3 ++ B4) → b < X.heap.size ∧ b ∉ [w.heap.size + 1] := fun b hb => ⟨by have := HRR.out b hb; omega, by have := HRR.out b hb; simp; omega⟩
      refine made_one HEX.out (C := [w.heap.size + 1]) (by repeat (first | with_reducible exact Chg.refl _ _ | with_reducible apply Chg.drew | with_reducible apply Chg.drewl | with_reducible refine Chg.turn (by simp) | with_reducible refine Chg.both ?_ (by simp) | (with_reducible refine Chg.set ?_ (by simp) _) | with_reducible apply Chg.alloc | with_reducible apply Chg.ext)) hC HN1.out rfl rfl ?_ ?_ ?_ HND.out (fun b hb => by have := HRR.out b hb; omega)
      · exact own_keep HO2.out (C := [w.heap.size + 1]) (by repeat (first | with_reducible exact Chg.refl _ _ | with_reducible apply Chg.drew | with_reducible apply Chg.drewl | with_reducible refine Chg.turn (by simp) | with_reducible refine Chg.both ?_ (by simp) | (with_reducible refine Chg.set ?_ (by simp) _) | with_reducible apply Chg.alloc | with_reducible apply Chg.ext)) (fun b hb => hk b (by simp [hb]))
      · exact own_keep HO3.out (C := [w.heap.size + 1]) (by repeat (first | with_reducible exact Chg.refl _ _ | with_reducible apply Chg.drew | with_reducible apply Chg.drewl | with_reducible refine Chg.turn (by simp) | with_reducible refine Chg.both ?_ (by simp) | (with_reducible refine Chg.set ?_ (by simp) _) | with_reducible apply Chg.alloc | with_reducible apply Chg.ext)) (fun b hb => hk b (by simp [hb]))
      · exact own_keep HO4.out (C := [w.heap.size + 1]) (by repeat (first | with_reducible exact Chg.refl _ _ | with_reducible apply Chg.drew | with_reducible apply Chg.drewl | with_reducible refine Chg.turn (by simp) | with_reducible refine Chg.both ?_ (by simp) | (with_reducible refine Chg.set ?_ (by simp) _) | with_reducible apply Chg.alloc | with_reducible apply Chg.ext)) (fun b hb => hk b (by simp [hb]))
    · have H1 : onePlace o.wk id = (k : Int) := by rw [onePlace, h1]; simp
      have HL := hid (landW_one HWA.out h2 h4)
      have hk : k < n1 := by rw [← HN1.out]; exact (List.getElem?_eq_some_iff.1 h2).1
      obtain ⟨b, arr, TT, y, rfl, rfl, hl, hy, hbb, g0, g5, z5, upd⟩ := own_here HO2.out hk
      obtain rfl : x = y := Option.some.inj (h2.symm.trans hy)
      have hr1 := HRR.out b (by simp)
      have nT : b ≠ T := by omega
      have nT' : T ≠ b := by omega
      have nR : b ≠ w.heap.size + 1 := by omega
      have nR' : w.heap.size + 1 ≠ b := by omega
      have lb := lt_blk hbb
      have HBB := hid hbb
      have HUP := hid upd
      have HF := (findOne_c o ⟨some ⟨b, 0, none⟩, q1, p2, q2, p3, q3⟩ id X HRe.out (by rw [HN1.out]; exact B1)).mono (fun e w' h => h)
      dsimp only at HF
      rw [HN1.out, H1] at HF
      clear hbb upd hy h1 h2 h3 h4 hl H1
      refine HF.mono ?_
      rintro e w' ⟨rfl, t, rfl⟩
      try go_wp2_with (first
          | fail
          | (
            with_reducible refine wp_region_mix (by kernel_rfl) (by decide +kernel) ?_
            repeat (first
              | (refine mix_pure rfl ?_; (first | go_big_quiet_skip | (go_big_quiet_want; go_big_quiet_op; go_big_quiet_on)); refine wpQuiet_nil ?_)
              | (refine mix_skip (by rfl) ?_; (try simp only [Act.put, List.setIfInBounds_toArray, List.set_cons_zero, List.set_cons_succ]))
              | (refine mix_mk rfl (by rfl) (fun K hK => ?_); (first | (go_simp; first | skip)); (show K _ _); refine hK _ _ (show Ext _ _ from (by ((try simp only [ext_drew]); (try simp only [ext_ext]); repeat (first | exact Ext.refl _ | with_reducible apply Ext.add | with_reducible apply Ext.dr | apply Ext.alloc | apply Ext.ext | apply Ext.drew | refine Ext.trans ?_ (by assumption))))) ?_; clear hK K; (try simp only [Act.put, List.setIfInBounds_toArray, List.set_cons_zero, List.set_cons_succ])))
            refine mix_nil ?_)
          | (
            with_reducible refine wp_region_ext (by kernel_rfl) (by kernel_rfl) ?_
            repeat (first | go_big_quiet_skip | (go_big_quiet_want; go_big_quiet_op; first | go_big_quiet_on | (apply Exists.intro; refine ⟨fun _ => ?_, ?_⟩; (fail); (try rw [h1]); (try rw [h2]); (try rw [h3]); (try rw [h4]); (try rw [p1]); (try rw [p2]); (try rw [p3]); (try rw [p4]); (try rw [r1]); (try rw [r2]); (try rw [r3]); (try rw [r4]); (try rw [r5]); (try rw [r6]); (try rw [q3]); (try rw [q4]); (try rw [hp]); (try rw [hq]); go_big_quiet_on)))
            refine wpQuiet_nil ?_
            rintro _ ⟨tq, rfl⟩))
      refine bodyPost_ret (v := .agg #[.int .i64 o.map.c, .int .i64 o.map.w, .slice (some ⟨b, 0, none⟩) n1 q1, .slice p2 o.ground.length q2, .slice p3 o.air.length q3]) (by simp [results, Try.results18, go_sem, cT0, cT1, cT2, cT3, cT4, cR0, cR1, cR2, cR3, cR4, lT, lR, nT, nT', nR, nR']) rfl ?_
      rw [HL.out]
      have HND1 := HND.out
      have hC : ∀ c ∈ [b, w.heap.size + 1], w.heap.size ≤ c := fun c hc => by simp only [List.mem_cons, List.not_mem_nil, or_false] at hc; omega
      have hk : ∀ c, c ∈ B3 ++ B4 → c < X.heap.size ∧ c ∉ [b, w.heap.size + 1] := fun c hc => by
        have h1 := HRR.out c (by simpa using .inr (by simpa using hc))
        have h2 := (List.nodup_append.1 HND1).2.2 b (by simp) c hc
        refine ⟨by omega, ?_⟩
        simp only [List.mem_cons, List.not_mem_nil, or_false, not_or]
        omega
      refine made_one HEX.out (C := [b, w.heap.size + 1]) (by repeat (first | with_reducible exact Chg.refl _ _ | with_reducible apply Chg.drew | with_reducible apply Chg.drewl | with_reducible refine Chg.turn (by simp) | with_reducible refine Chg.both ?_ (by simp) | (with_reducible refine Chg.set ?_ (by simp) _) | with_reducible apply Chg.alloc | with_reducible apply Chg.ext)) hC (by rw [List.length_set]; exact HN1.out) rfl rfl (HUP.out _ (by repeat (first | with_reducible exact HBB.out | with_reducible apply blk_drew | with_reducible refine blk_set ?_ | (with_reducible refine blk_other ?_ (by first | assumption | omega)) | with_reducible refine blk_ext ?_ | with_reducible refine blk_alloc ?_))) ?_ ?_ HND1 (fun c hc => by have := HRR.out c hc; omega)
      · exact own_keep HO3.out (C := [b, w.heap.size + 1]) (by repeat (first | with_reducible exact Chg.refl _ _ | with_reducible apply Chg.drew | with_reducible apply Chg.drewl | with_reducible refine Chg.turn (by simp) | with_reducible refine Chg.both ?_ (by simp) | (with_reducible refine Chg.set ?_ (by simp) _) | with_reducible apply Chg.alloc | with_reducible apply Chg.ext)) (fun c hc => hk c (by simp [hc]))
      · exact own_keep HO4.out (C := [b, w.heap.size + 1]) (by repeat (first | with_reducible exact Chg.refl _ _ | with_reducible apply Chg.drew | with_reducible apply Chg.drewl | with_reducible refine Chg.turn (by simp) | with_reducible refine Chg.both ?_ (by simp) | (with_reducible refine Chg.set ?_ (by simp) _) | with_reducible apply Chg.alloc | with_reducible apply Chg.ext)) (fun c hc => hk c (by simp [hc]))
set_option maxRecDepth 100000 in
set_option maxHeartbeats 4000000 in
theorem sOneLand_c (o : One) (h : OneH) (id : Int) (w : World) (hx : ReO w o h) (hb : BdO o) :
    Calls Try.prog 16 #[.agg #[.int .i64 o.map.c, .int .i64 o.map.w, .slice h.a1 o.wk.length h.c1, .slice h.a2 o.ground.length h.c2, .slice h.a3 o.air.length h.c3], .int .i64 id] w (MadeO w (olV o id)) := by
  have HX := hid hx
  have HBD := hid hb
  have B1 := hb.b1
  clear hx hb
  cases hok : oneOk o with
  | false =>
    have E := hid hok
    go_enter Try.func16, Try.ntmps16
    try go_wp2_with (first
        | (go_at_call 39; refine (sOneOk_c _ _ _ (ReO.of (Hid.out (by assumption)) (by ((try simp only [ext_drew]); (try simp only [ext_ext]); repeat (first | exact Ext.refl _ | with_reducible apply Ext.add | with_reducible apply Ext.dr | apply Ext.alloc | apply Ext.ext | apply Ext.drew | refine Ext.trans ?_ (by assumption))))) (Hid.out (by assumption))).mono ?_; rintro e w' ⟨rfl, t, rfl⟩)
        | (
          with_reducible refine wp_region_mix (by kernel_rfl) (by decide +kernel) ?_
          repeat (first
            | (refine mix_pure rfl ?_; (first | go_big_quiet_skip | (go_big_quiet_want; go_big_quiet_op; go_big_quiet_on)); refine wpQuiet_nil ?_)
            | (refine mix_skip (by rfl) ?_; (try simp only [Act.put, List.setIfInBounds_toArray, List.set_cons_zero, List.set_cons_succ]))
            | (refine mix_mk rfl (by rfl) (fun K hK => ?_); (first | (go_simp; first | (go_at_call 39; refine (sOneOk_c _ _ _ (ReO.of (Hid.out (by assumption)) (by ((try simp only [ext_drew]); (try simp only [ext_ext]); repeat (first | exact Ext.refl _ | with_reducible apply Ext.add | with_reducible apply Ext.dr | apply Ext.alloc | apply Ext.ext | apply Ext.drew | refine Ext.trans ?_ (by assumption))))) (Hid.out (by assumption))).mono ?_; rintro e w' ⟨rfl, t, rfl⟩) | skip)); (show K _ _); refine hK _ _ (show Ext _ _ from (by ((try simp only [ext_drew]); (try simp only [ext_ext]); repeat (first | exact Ext.refl _ | with_reducible apply Ext.add | with_reducible apply Ext.dr | apply Ext.alloc | apply Ext.ext | apply Ext.drew | refine Ext.trans ?_ (by assumption))))) ?_; clear hK K; (try simp only [Act.put, List.setIfInBounds_toArray, List.set_cons_zero, List.set_cons_succ])))
          refine mix_nil ?_)
        | (
          with_reducible refine wp_region_ext (by kernel_rfl) (by kernel_rfl) ?_
          repeat (first | go_big_quiet_skip | (go_big_quiet_want; go_big_quiet_op; first | go_big_quiet_on | (apply Exists.intro; refine ⟨fun _ => ?_, ?_⟩; ((first | (go_at_call 39; first | exact quiet_call (sOneOk_c _ _ _ (ReO.of (Hid.out (by assumption)) (by ((try simp only [ext_drew]); (try simp only [ext_ext]); repeat (first | exact Ext.refl _ | with_reducible apply Ext.add | with_reducible apply Ext.dr | apply Ext.alloc | apply Ext.ext | apply Ext.drew | refine Ext.trans ?_ (by assumption))))) (Hid.out (by assumption))) | exact quiet_call2 (sOneOk_c _ _ _ (ReO.of (Hid.out (by assumption)) (by ((try simp only [ext_drew]); (try simp only [ext_ext]); repeat (first | exact Ext.refl _ | with_reducible apply Ext.add | with_reducible apply Ext.dr | apply Ext.alloc | apply Ext.ext | apply Ext.drew | refine Ext.trans ?_ (by assumption))))) (Hid.out (by assumption)))))); (try rw [h1]); (try rw [h2]); (try rw [h3]); (try rw [h4]); (try rw [p1]); (try rw [p2]); (try rw [p3]); (try rw [p4]); (try rw [r1]); (try rw [r2]); (try rw [r3]); (try rw [r4]); (try rw [r5]); (try rw [r6]); (try rw [q3]); (try rw [q4]); (try rw [hp]); (try rw [hq]); go_big_quiet_on)))
          refine wpQuiet_nil ?_
          rintro _ ⟨tq, rfl⟩))
    refine bodyPost_ret (v := .agg #[.int .i64 0, .int .i64 0, .slice none 0 0, .slice none 0 0, .slice none 0 0]) (by simp [results, Try.results16, go_sem]) rfl ?_
    rw [show olV o id = oneZ by rw [olV, E.out]; rfl]
    exact made_oneZ (by ((try simp only [ext_drew]); (try simp only [ext_ext]); repeat (first | exact Ext.refl _ | with_reducible apply Ext.add | with_reducible apply Ext.dr | apply Ext.alloc | apply Ext.ext | apply Ext.drew | refine Ext.trans ?_ (by assumption))))
  | true =>
    have E := hid (show olV o id = ⟨o.map, landW o.wk id, o.ground, o.air⟩ by rw [olV, hok]; rfl)
    rw [E.out]
    go_enter Try.func16, Try.ntmps16
    try go_wp2_with (first
        | (go_at_call 39; refine (sOneOk_c _ _ _ (ReO.of (Hid.out (by assumption)) (by ((try simp only [ext_drew]); (try simp only [ext_ext]); repeat (first | exact Ext.refl _ | with_reducible apply Ext.add | with_reducible apply Ext.dr | apply Ext.alloc | apply Ext.ext | apply Ext.drew | refine Ext.trans ?_ (by assumption))))) (Hid.out (by assumption))).mono ?_; rintro e w' ⟨rfl, t, rfl⟩) | (go_at_call 40; (with_reducible refine (sOneCopy_c o h _ (ReO.of HX.out (by ((try simp only [ext_drew]); (try simp only [ext_ext]); repeat (first | exact Ext.refl _ | with_reducible apply Ext.add | with_reducible apply Ext.dr | apply Ext.alloc | apply Ext.ext | apply Ext.drew | refine Ext.trans ?_ (by assumption))))) HBD.out).mono ?_); rintro e w' ⟨⟨p1, q1, p2, q2, p3, q3⟩, rfl, ⟨t0, rfl⟩, ho⟩; have O := hid ho; clear ho)
        | (
          with_reducible refine wp_region_mix (by kernel_rfl) (by decide +kernel) ?_
          repeat (first
            | (refine mix_pure rfl ?_; (first | go_big_quiet_skip | (go_big_quiet_want; go_big_quiet_op; go_big_quiet_on)); refine wpQuiet_nil ?_)
            | (refine mix_skip (by rfl) ?_; (try simp only [Act.put, List.setIfInBounds_toArray, List.set_cons_zero, List.set_cons_succ]))
            | (refine mix_mk rfl (by rfl) (fun K hK => ?_); (first | (go_simp; first | (go_at_call 39; refine (sOneOk_c _ _ _ (ReO.of (Hid.out (by assumption)) (by ((try simp only [ext_drew]); (try simp only [ext_ext]); repeat (first | exact Ext.refl _ | with_reducible apply Ext.add | with_reducible apply Ext.dr | apply Ext.alloc | apply Ext.ext | apply Ext.drew | refine Ext.trans ?_ (by assumption))))) (Hid.out (by assumption))).mono ?_; rintro e w' ⟨rfl, t, rfl⟩) | (go_at_call 40; (with_reducible refine (sOneCopy_c o h _ (ReO.of HX.out (by ((try simp only [ext_drew]); (try simp only [ext_ext]); repeat (first | exact Ext.refl _ | with_reducible apply Ext.add | with_reducible apply Ext.dr | apply Ext.alloc | apply Ext.ext | apply Ext.drew | refine Ext.trans ?_ (by assumption))))) HBD.out).mono ?_); rintro e w' ⟨⟨p1, q1, p2, q2, p3, q3⟩, rfl, ⟨t0, rfl⟩, ho⟩; have O := hid ho; clear ho) | skip)); (show K _ _); refine hK _ _ (show Ext _ _ from (by ((try simp only [ext_drew]); (try simp only [ext_ext]); repeat (first | exact Ext.refl _ | with_reducible apply Ext.add | with_reducible apply Ext.dr | apply Ext.alloc | apply Ext.ext | apply Ext.drew | refine Ext.trans ?_ (by assumption))))) ?_; clear hK K; (try simp only [Act.put, List.setIfInBounds_toArray, List.set_cons_zero, List.set_cons_succ])))
          refine mix_nil ?_)
        | (
          with_reducible refine wp_region_ext (by kernel_rfl) (by kernel_rfl) ?_
          repeat (first | go_big_quiet_skip | (go_big_quiet_want; go_big_quiet_op; first | go_big_quiet_on | (apply Exists.intro; refine ⟨fun _ => ?_, ?_⟩; ((first | (go_at_call 39; first | exact quiet_call (sOneOk_c _ _ _ (ReO.of (Hid.out (by assumption)) (by ((try simp only [ext_drew]); (try simp only [ext_ext]); repeat (first | exact Ext.refl _ | with_reducible apply Ext.add | with_reducible apply Ext.dr | apply Ext.alloc | apply Ext.ext | apply Ext.drew | refine Ext.trans ?_ (by assumption))))) (Hid.out (by assumption))) | exact quiet_call2 (sOneOk_c _ _ _ (ReO.of (Hid.out (by assumption)) (by ((try simp only [ext_drew]); (try simp only [ext_ext]); repeat (first | exact Ext.refl _ | with_reducible apply Ext.add | with_reducible apply Ext.dr | apply Ext.alloc | apply Ext.ext | apply Ext.drew | refine Ext.trans ?_ (by assumption))))) (Hid.out (by assumption)))))); (try rw [h1]); (try rw [h2]); (try rw [h3]); (try rw [h4]); (try rw [p1]); (try rw [p2]); (try rw [p3]); (try rw [p4]); (try rw [r1]); (try rw [r2]); (try rw [r3]); (try rw [r4]); (try rw [r5]); (try rw [r6]); (try rw [q3]); (try rw [q4]); (try rw [hp]); (try rw [hq]); go_big_quiet_on)))
          refine wpQuiet_nil ?_
          rintro _ ⟨tq, rfl⟩))
    refine wp_gen fun X hX => ?_
    generalize hn1 : o.wk.length = n1 at *
    have HN1 := hid hn1
    generalize hT : w.heap.size + 1 + 1 + (t.add t0).bs.size = T
    have EX : Ext w X := by rw [hX]; ((try simp only [ext_drew]); (try simp only [ext_ext]); repeat (first | exact Ext.refl _ | with_reducible apply Ext.add | with_reducible apply Ext.dr | apply Ext.alloc | apply Ext.ext | apply Ext.drew | refine Ext.trans ?_ (by assumption)))
    have AW := OwnR.of O.out (w' := X) (by rw [hX]; ((try simp only [ext_drew]); (try simp only [ext_ext]); repeat (first | exact Ext.refl _ | with_reducible apply Ext.add | with_reducible apply Ext.dr | apply Ext.alloc | apply Ext.ext | apply Ext.drew | refine Ext.trans ?_ (by assumption))))
    have hlo : w.heap.size + 2 ≤ (ext ((w.alloc (Obj.cells #[.int .i64 o.map.c, .int .i64 o.map.w, .slice h.a1 n1 h.c1, .slice h.a2 o.ground.length h.c2, .slice h.a3 o.air.length h.c3] 44)).alloc (Obj.cells #[.int .i64 0, .int .i64 0, .slice none 0 0, .slice none 0 0, .slice none 0 0] 44)) t).heap.size := (by (try simp [go_sem]) <;> (try simp [Xt.add]) <;> omega)
    have hhi : (ext (ext ((w.alloc (Obj.cells #[.int .i64 o.map.c, .int .i64 o.map.w, .slice h.a1 n1 h.c1, .slice h.a2 o.ground.length h.c2, .slice h.a3 o.air.length h.c3] 44)).alloc (Obj.cells #[.int .i64 0, .int .i64 0, .slice none 0 0, .slice none 0 0, .slice none 0 0] 44)) t) t0).heap.size ≤ T := by rw [← hT]; ((try simp [go_sem]) <;> (try simp [Xt.add]) <;> omega)
    obtain ⟨_, B, hnd, hr, ho⟩ := AW
    have hr' : ∀ b ∈ B, w.heap.size + 2 ≤ b ∧ b < T := fun b hb => by have := hr b hb; omega
    obtain ⟨B2, B3, B4, rfl, O2, O3, O4⟩ := own_one_split ho
    dsimp only at O2 O3 O4
    rw [HN1.out] at O2
    have bT : X.heap[T]? = some (.cells #[.int .i64 o.map.c, .int .i64 o.map.w, .slice p1 n1 q1, .slice p2 o.ground.length q2, .slice p3 o.air.length q3] 44 (0, 0)) := by rw [hX]; exact alloc_last (by rw [← hT]; simp [go_sem])
    have bR : X.heap[w.heap.size + 1]? = some (.cells #[.int .i64 0, .int .i64 0, .slice none 0 0, .slice none 0 0, .slice none 0 0] 44 (0, 0)) := by rw [hX]; exact blk_alloc (blk_ext (alloc_last (by simp)))
    have hTR : w.heap.size + 2 ≤ T := by omega
    have HEX := hid EX
    have HND := hid hnd
    have HRR := hid hr'
    have HO2 := hid O2
    have HO3 := hid O3
    have HO4 := hid O4
    have BT := hid bT
    have BR := hid bR
    have lT := lt_blk bT
    have lR := lt_blk bR
    clear hX hr hr' ho O2 O3 O4 O hlo hhi EX hnd hn1 bT bR hT
    have HZ := hid (landK_zero o.wk id)
    go_loopw [6] (fun i wr => ∃ (k : Nat), k ≤ n1 ∧ i = .int .i64 k ∧ Own wr (.sl sOnw) [.slice p1 n1 q1] (.l ((landK o.wk id k).map Onw.dat)) B2 ∧ Chg B2 X wr) (fun i _ => n1 - (intOf i).toNat)
    case atStart => exact ⟨0, Nat.zero_le _, rfl, by rw [HZ.out]; exact HO2.out, Chg.refl _ _⟩
    case round =>
      obtain ⟨k, hk, rfl, how, hch⟩ := hrel
      have hC2 : ∀ c, c ∈ B2 → w.heap.size + 2 ≤ c ∧ c < T := fun c hc => HRR.out c (by simp [hc])
      have nTB : T ∉ B2 := fun hm => by have := hC2 T hm; omega
      have nRB : w.heap.size + 1 ∉ B2 := fun hm => by have := hC2 _ hm; omega
      have bT := (hch.block T lT nTB).trans BT.out
      have bR := (hch.block (w.heap.size + 1) lR nRB).trans BR.out
      have hsz := hch.size
      have lT' : T < wr.heap.size := by omega
      have lR' : w.heap.size + 1 < wr.heap.size := by omega
      have cT0 : wr.cell? ⟨T, 0, none⟩ = some (.int .i64 o.map.c) := (cell_blk bT 0).trans rfl
      have cT1 : wr.cell? ⟨T, 1, none⟩ = some (.int .i64 o.map.w) := (cell_blk bT 1).trans rfl
      have cT2 : wr.cell? ⟨T, 2, none⟩ = some (.slice p1 n1 q1) := (cell_blk bT 2).trans rfl
      have cT3 : wr.cell? ⟨T, 3, none⟩ = some (.slice p2 o.ground.length q2) := (cell_blk bT 3).trans rfl
      have cT4 : wr.cell? ⟨T, 4, none⟩ = some (.slice p3 o.air.length q3) := (cell_blk bT 4).trans rfl
      have cR0 : wr.cell? ⟨w.heap.size + 1, 0, none⟩ = some (.int .i64 0) := (cell_blk bR 0).trans rfl
      have cR1 : wr.cell? ⟨w.heap.size + 1, 1, none⟩ = some (.int .i64 0) := (cell_blk bR 1).trans rfl
      have cR2 : wr.cell? ⟨w.heap.size + 1, 2, none⟩ = some (.slice none 0 0) := (cell_blk bR 2).trans rfl
      have cR3 : wr.cell? ⟨w.heap.size + 1, 3, none⟩ = some (.slice none 0 0) := (cell_blk bR 3).trans rfl
      have cR4 : wr.cell? ⟨w.heap.size + 1, 4, none⟩ = some (.slice none 0 0) := (cell_blk bR 4).trans rfl
      have zR0 := frozen_blk bR 0
      have zR1 := frozen_blk bR 1
      have zR2 := frozen_blk bR 2
      have zR3 := frozen_blk bR 3
      have zR4 := frozen_blk bR 4
      have BTr := hid bT
      have BRr := hid bR
      have HOW := hid how
      have HCH := hid hch
      have HC2 := hid hC2
      clear how hch hC2 nTB nRB bT bR
      by_cases hlt : k < n1
      · obtain ⟨b, arr, TT, x, rfl, rfl, hl, hy, hbb, g0, g5, z5, upd⟩ := own_here HOW.out hlt
        rw [landK_get] at hy
        have hr1 := HC2.out b (by simp)
        have nT : b ≠ T := by omega
        have nT' : T ≠ b := by omega
        have nR : b ≠ w.heap.size + 1 := by omega
        have nR' : w.heap.size + 1 ≠ b := by omega
        have lb := lt_blk hbb
        have HBB := hid hbb
        have HUP := hid upd
        cases hp : idOn id x with
        | false =>
          have HLK := hid (landK_miss hy hp)
          have ht : (x.wk.id == id) = false := hp
          clear hbb upd hy hl
          try go_wp2_with (first
              | fail
              | (
                with_reducible refine wp_region_mix (by kernel_rfl) (by decide +kernel) ?_
                repeat (first
                  | (refine mix_pure rfl ?_; (first | go_big_quiet_skip | (go_big_quiet_want; go_big_quiet_op; go_big_quiet_on)); refine wpQuiet_nil ?_)
                  | (refine mix_skip (by rfl) ?_; (try simp only [Act.put, List.setIfInBounds_toArray, List.set_cons_zero, List.set_cons_succ]))
                  | (refine mix_mk rfl (by rfl) (fun K hK => ?_); (first | (go_simp; first | skip)); (show K _ _); refine hK _ _ (show Ext _ _ from (by ((try simp only [ext_drew]); (try simp only [ext_ext]); repeat (first | exact Ext.refl _ | with_reducible apply Ext.add | with_reducible apply Ext.dr | apply Ext.alloc | apply Ext.ext | apply Ext.drew | refine Ext.trans ?_ (by assumption))))) ?_; clear hK K; (try simp only [Act.put, List.setIfInBounds_toArray, List.set_cons_zero, List.set_cons_succ])))
                refine mix_nil ?_)
              | (
                with_reducible refine wp_region_ext (by kernel_rfl) (by kernel_rfl) ?_
                repeat (first | go_big_quiet_skip | (go_big_quiet_want; go_big_quiet_op; first | go_big_quiet_on | (apply Exists.intro; refine ⟨fun _ => ?_, ?_⟩; (fail); (try rw [h1]); (try rw [h2]); (try rw [h3]); (try rw [h4]); (try rw [p1]); (try rw [p2]); (try rw [p3]); (try rw [p4]); (try rw [r1]); (try rw [r2]); (try rw [r3]); (try rw [r4]); (try rw [r5]); (try rw [r6]); (try rw [q3]); (try rw [q4]); (try rw [hp]); (try rw [hq]); go_big_quiet_on)))
                refine wpQuiet_nil ?_
                rintro _ ⟨tq, rfl⟩))
          go_roundw
          case rel => exact ⟨k + 1, by omega, by go_num, by rw [HLK.out]; exact HOW.out, HCH.out⟩
          case measure => simp [intOf]; omega
        | true =>
          have HLK := hid (landK_hit hy hp)
          have ht : (x.wk.id == id) = true := hp
          clear hbb upd hy hl
          try go_wp2_with (first
              | fail
              | (
                with_reducible refine wp_region_mix (by kernel_rfl) (by decide +kernel) ?_
                repeat (first
                  | (refine mix_pure rfl ?_; (first | go_big_quiet_skip | (go_big_quiet_want; go_big_quiet_op; go_big_quiet_on)); refine wpQuiet_nil ?_)
                  | (refine mix_skip (by rfl) ?_; (try simp only [Act.put, List.setIfInBounds_toArray, List.set_cons_zero, List.set_cons_succ]))
                  | (refine mix_mk rfl (by rfl) (fun K hK => ?_); (first | (go_simp; first | skip)); (show K _ _); refine hK _ _ (show Ext _ _ from (by ((try simp only [ext_drew]); (try simp only [ext_ext]); repeat (first | exact Ext.refl _ | with_reducible apply Ext.add | with_reducible apply Ext.dr | apply Ext.alloc | apply Ext.ext | apply Ext.drew | refine Ext.trans ?_ (by assumption))))) ?_; clear hK K; (try simp only [Act.put, List.setIfInBounds_toArray, List.set_cons_zero, List.set_cons_succ])))
                refine mix_nil ?_)
              | (
                with_reducible refine wp_region_ext (by kernel_rfl) (by kernel_rfl) ?_
                repeat (first | go_big_quiet_skip | (go_big_quiet_want; go_big_quiet_op; first | go_big_quiet_on | (apply Exists.intro; refine ⟨fun _ => ?_, ?_⟩; (fail); (try rw [h1]); (try rw [h2]); (try rw [h3]); (try rw [h4]); (try rw [p1]); (try rw [p2]); (try rw [p3]); (try rw [p4]); (try rw [r1]); (try rw [r2]); (try rw [r3]); (try rw [r4]); (try rw [r5]); (try rw [r6]); (try rw [q3]); (try rw [q4]); (try rw [hp]); (try rw [hq]); go_big_quiet_on)))
                refine wpQuiet_nil ?_
                rintro _ ⟨tq, rfl⟩))
          go_roundw
          case rel => exact ⟨k + 1, by omega, by go_num, by rw [HLK.out]; exact HUP.out _ (by exact blk_set HBB.out), Chg.set HCH.out (by simp) _⟩
          case measure => simp [intOf]; omega
      · have HL := hid (landK_all o.wk id (show o.wk.length ≤ k by rw [HN1.out]; omega))
        rw [HL.out] at HOW
        try go_wp2_with (first
            | fail
            | (
              with_reducible refine wp_region_mix (by kernel_rfl) (by decide +kernel) ?_
              repeat (first
                | (refine mix_pure rfl ?_; (first | go_big_quiet_skip | (go_big_quiet_want; go_big_quiet_op; go_big_quiet_on)); refine wpQuiet_nil ?_)
                | (refine mix_skip (by rfl) ?_; (try simp only [Act.put, List.setIfInBounds_toArray, List.set_cons_zero, List.set_cons_succ]))
                | (refine mix_mk rfl (by rfl) (fun K hK => ?_); (first | (go_simp; first | skip)); (show K _ _); refine hK _ _ (show Ext _ _ from (by ((try simp only [ext_drew]); (try simp only [ext_ext]); repeat (first | exact Ext.refl _ | with_reducible apply Ext.add | with_reducible apply Ext.dr | apply Ext.alloc | apply Ext.ext | apply Ext.drew | refine Ext.trans ?_ (by assumption))))) ?_; clear hK K; (try simp only [Act.put, List.setIfInBounds_toArray, List.set_cons_zero, List.set_cons_succ])))
              refine mix_nil ?_)
            | (
              with_reducible refine wp_region_ext (by kernel_rfl) (by kernel_rfl) ?_
              repeat (first | go_big_quiet_skip | (go_big_quiet_want; go_big_quiet_op; first | go_big_quiet_on | (apply Exists.intro; refine ⟨fun _ => ?_, ?_⟩; (fail); (try rw [h1]); (try rw [h2]); (try rw [h3]); (try rw [h4]); (try rw [p1]); (try rw [p2]); (try rw [p3]); (try rw [p4]); (try rw [r1]); (try rw [r2]); (try rw [r3]); (try rw [r4]); (try rw [r5]); (try rw [r6]); (try rw [q3]); (try rw [q4]); (try rw [hp]); (try rw [hq]); go_big_quiet_on)))
              refine wpQuiet_nil ?_
              rintro _ ⟨tq, rfl⟩))
        refine bodyPost_ret (v := .agg #[.int .i64 o.map.c, .int .i64 o.map.w, .slice p1 n1 q1, .slice p2 o.ground.length q2, .slice p3 o.air.length q3]) (by simp [results, Try.results16, go_sem, cT0, cT1, cT2, cT3, cT4, cR0, cR1, cR2, cR3, cR4, lT', lR']) rfl ?_
        have HND1 := HND.out
        have hC : ∀ c ∈ B2 ++ [w.heap.size + 1], w.heap.size ≤ c := fun c hc => by
          rcases List.mem_append.1 hc with hc | hc
          · have := HC2.out c hc; omega
          · simp at hc; omega
        have hk2 : ∀ b, b ∈ B2 → b < wr.heap.size ∧ b ∉ [w.heap.size + 1] := fun b hb => ⟨by have := HC2.out b hb; omega, by have := HC2.out b hb; simp; omega⟩
        have hk3 : ∀ c, c ∈ B3 ++ B4 → c < X.heap.size ∧ c ∉ B2 ++ [w.heap.size + 1] := fun c hc => by
          have h1 := HRR.out c (by simpa using .inr (by simpa using hc))
          refine ⟨by omega, fun hm => ?_⟩
          rcases List.mem_append.1 hm with hm | hm
          · exact (List.nodup_append.1 HND1).2.2 c hm c hc rfl
          · simp at hm; omega
        have hch2 : ∀ {W : World}, Chg [w.heap.size + 1] wr W → Chg (B2 ++ [w.heap.size + 1]) X W := fun h => Chg.trans (HCH.out.left) (h.right)
        refine made_one HEX.out (C := B2 ++ [w.heap.size + 1]) (hch2 (by repeat (first | with_reducible exact Chg.refl _ _ | with_reducible apply Chg.drew | with_reducible apply Chg.drewl | with_reducible refine Chg.turn (by simp) | with_reducible refine Chg.both ?_ (by simp) | (with_reducible refine Chg.set ?_ (by simp) _) | with_reducible apply Chg.alloc | with_reducible apply Chg.ext))) hC (by rw [landW_len]; exact HN1.out) rfl rfl ?_ ?_ ?_ HND1 (fun c hc => by have := HRR.out c hc; omega)
        · exact own_keep HOW.out (C := [w.heap.size + 1]) (by repeat (first | with_reducible exact Chg.refl _ _ | with_reducible apply Chg.drew | with_reducible apply Chg.drewl | with_reducible refine Chg.turn (by simp) | with_reducible refine Chg.both ?_ (by simp) | (with_reducible refine Chg.set ?_ (by simp) _) | with_reducible apply Chg.alloc | with_reducible apply Chg.ext)) hk2
        · exact own_keep HO3.out (hch2 (by repeat (first | with_reducible exact Chg.refl _ _ | with_reducible apply Chg.drew | with_reducible apply Chg.drewl | with_reducible refine Chg.turn (by simp) | with_reducible refine Chg.both ?_ (by simp) | (with_reducible refine Chg.set ?_ (by simp) _) | with_reducible apply Chg.alloc | with_reducible apply Chg.ext))) (fun c hc => hk3 c (by simp [hc]))
        · exact own_keep HO4.out (hch2 (by repeat (first | with_reducible exact Chg.refl _ _ | with_reducible apply Chg.drew | with_reducible apply Chg.drewl | with_reducible refine Chg.turn (by simp) | with_reducible refine Chg.both ?_ (by simp) | (with_reducible refine Chg.set ?_ (by simp) _) | with_reducible apply Chg.alloc | with_reducible apply Chg.ext))) (fun c hc => hk3 c (by simp [hc]))
end Go.Proofs.Ytcfbfpgcfnpdgaa
