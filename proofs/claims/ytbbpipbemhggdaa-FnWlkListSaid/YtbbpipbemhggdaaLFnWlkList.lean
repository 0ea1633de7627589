/- FnWlkList: who is put among others is found, and nobody else is touched; for all codes. -/
import Derived.Test.YtbbpipbemhggdaaDp
import Derived.Test.YtbbpipbemhggdaaMas
import Derived.Test.YtbbpipbemhggdaaTo
namespace Go.Proofs.Ytbbpipbemhggdaa
open Go.ChangeShapes Go.WideShapes Go.ChangeAt Go.RowKit
set_option linter.unusedSimpArgs false
set_option linter.unusedVariables false

theorem find_ins {α : Type} {p : α → Bool} {xs : List α} {i : Nat} {y : α} (hy : p y = false) : (insAt xs i y).find? p = xs.find? p := by
  conv => rhs; rw [← List.take_append_drop i xs]
  rw [insAt, List.find?_append, List.find?_append, List.find?_cons_of_neg (by simp [hy])]
theorem find_filt {α : Type} {p q : α → Bool} (h : ∀ x, p x = true → q x = true) : ∀ xs : List α, (xs.filter q).find? p = xs.find? p
  | [] => rfl
  | x :: r => by
    rw [List.filter_cons]
    cases hp : p x with
    | true =>
      rw [h x hp, if_pos rfl, List.find?_cons_of_pos (by simpa using hp), List.find?_cons_of_pos (by simpa using hp)]
    | false =>
      split
      · rw [List.find?_cons_of_neg (by simp [hp]), List.find?_cons_of_neg (by simp [hp]), find_filt h r]
      · rw [List.find?_cons_of_neg (by simp [hp]), find_filt h r]
theorem put_other {xs : List Wlk} {y : Wlk} {id : Int} (h : id ≠ y.id) : (wlkPut xs y).find? (idIs id) = xs.find? (idIs id) := by
  rw [wlkPut, find_ins (by simp [idIs]; omega), wlkOut, find_filt]
  intro x hx
  simp [idIs, notId] at hx ⊢; omega
theorem put_self {xs : List Wlk} {y : Wlk} : (wlkPut xs y).find? (idIs y.id) = some y := by
  have h0 : ∀ x ∈ wlkOut xs y.id, idIs y.id x = false := fun x hx => by
    have := (List.mem_filter.1 hx).2
    simpa [notId, idIs] using this
  rw [wlkPut, insAt, List.find?_append, List.find?_eq_none.2 (fun x hx => by simp [h0 x (List.mem_of_mem_take hx)]), List.find?_cons_of_pos (by simp [idIs])]
  rfl
theorem put_out {xs : List Wlk} {y : Wlk} : wlkOut (wlkPut xs y) y.id = wlkOut xs y.id := by
  have e : wlkOut (wlkOut xs y.id) y.id = wlkOut xs y.id := by simp [wlkOut, List.filter_filter]
  rw [wlkPut, insAt]
  conv => lhs; unfold wlkOut
  rw [List.filter_append, List.filter_cons, if_neg (by simp [notId]), ← List.filter_append, List.take_append_drop]
  exact e
theorem iWlkFind_h (xs : List Wlk) (a : Option Addr) (n c : Nat) (id : Int) (w : World) (g : Wlk) (b : Bool) (hx : Re w (.sl sWlk) [.slice a n c] (.l (xs.map Wlk.dat))) (hn : n ≤ 1048576) (h1 : Hid (wlkGet xs id = g)) (h2 : Hid (wlkHas xs id = b)) :
    Calls Try.prog 39 #[.slice a n c, .int .i64 id] w fun e w' => e = .returned (.tuple #[.agg #[.int .i64 g.id, .int .i64 g.at_, .int .i64 g.coins, .int .i64 g.seq, .int .i64 g.last], .bool b]) ∧ Ext w w' := by
  have h := iWlkFind_c xs a n c id w hx hn
  rw [h1.out, h2.out] at h
  exact h
theorem iWlkOut_h (xs ys : List Wlk) (a : Option Addr) (n c : Nat) (id : Int) (w : World) (hx : Re w (.sl sWlk) [.slice a n c] (.l (xs.map Wlk.dat))) (hn : n ≤ 1048576) (h1 : Hid (wlkOut xs id = ys)) :
    Calls Try.prog 40 #[.slice a n c, .int .i64 id] w (MadeL w sWlk ys.length (ys.map Wlk.dat)) := h1.out ▸ iWlkOut_c xs a n c id w hx hn
set_option maxRecDepth 100000 in
set_option maxHeartbeats 4000000 in
theorem fnWlkList_walk (W : World) (a : Option Addr) (n c : Nat) (hc : n ≤ c) (hB : Bytes W.heap.size W a n) :
    Calls Try.prog 7 #[.slice a n c] W fun e W' => e = .returned (.bool true) ∧ Below W.heap.size W W' := by
  by_cases hn : (1048576 : Int) < n
  · clear hB
    go_enter Try.func7, Try.ntmps7
    try go_wp2_with (first
        | fail
        | (
          with_reducible refine wp_region_mix (by kernel_rfl) (by decide +kernel) ?_
          repeat (first
            | (refine mix_pure rfl ?_; (first | go_big_quiet_skip | (go_big_quiet_want; go_big_quiet_op; go_big_quiet_on)); refine wpQuiet_nil ?_)
            | (refine mix_skip (by rfl) ?_; (try simp only [Act.put, List.setIfInBounds_toArray, List.set_cons_zero, List.set_cons_succ]))
            | (refine mix_mk rfl (by rfl) (fun K hK => ?_); (first | (go_simp; first | skip)); (show K _ _); refine hK _ _ (show Ext _ _ from (by ((try simp only [ext_drew]); (try simp only [ext_ext]); repeat (first | exact Ext.refl _ | with_reducible apply Ext.add | with_reducible apply Ext.dr | apply Ext.alloc | apply Ext.ext | apply Ext.drew | refine Ext.trans ?_ (by assumption))))) ?_; clear hK K; (try simp only [Act.put, List.setIfInBounds_toArray, List.set_cons_zero, List.set_cons_succ])))
          refine mix_nil ?_)
        | (
          with_reducible refine wp_region_ext (by kernel_rfl) (by kernel_rfl) ?_
          repeat (first | go_big_quiet_skip | (go_big_quiet_want; go_big_quiet_op; first | go_big_quiet_on | (apply Exists.intro; refine ⟨fun _ => ?_, ?_⟩; (fail); (try rw [h1]); (try rw [h2]); (try rw [h3]); (try rw [h4]); (try rw [p1]); (try rw [p2]); (try rw [p3]); (try rw [p4]); (try rw [r1]); (try rw [r2]); (try rw [r3]); (try rw [r4]); (try rw [r5]); (try rw [r6]); (try rw [q3]); (try rw [q4]); (try rw [hp]); (try rw [hq]); go_big_quiet_on)))
          refine wpQuiet_nil ?_
          rintro _ ⟨tq, rfl⟩))
    go_ret
    exact ⟨rfl, Ext.below (by ((try simp only [ext_drew]); (try simp only [ext_ext]); repeat (first | exact Ext.refl _ | with_reducible apply Ext.add | with_reducible apply Ext.dr | apply Ext.alloc | apply Ext.ext | apply Ext.drew | refine Ext.trans ?_ (by assumption))))⟩
  · have HB := hid hB
    clear hB
    go_enter Try.func7, Try.ntmps7
    try go_wp2_with (first
        | (go_at_call 35; (with_reducible refine (DrawWlkPut_c _ _ _ _ HB.out hc).mono ?_); rintro e w' ⟨v, xs, y, rfl, ⟨B, hrow, _, _⟩, hlen, hy, td, rfl⟩; obtain ⟨sa, sc, rfl⟩ := hrow.slice; have HXS := hid (rowW_re hrow); clear hrow hy)
        | (
          with_reducible refine wp_region_mix (by kernel_rfl) (by decide +kernel) ?_
          repeat (first
            | (refine mix_pure rfl ?_; (first | go_big_quiet_skip | (go_big_quiet_want; go_big_quiet_op; go_big_quiet_on)); refine wpQuiet_nil ?_)
            | (refine mix_skip (by rfl) ?_; (try simp only [Act.put, List.setIfInBounds_toArray, List.set_cons_zero, List.set_cons_succ]))
            | (refine mix_mk rfl (by rfl) (fun K hK => ?_); (first | (go_simp; first | (go_at_call 35; (with_reducible refine (DrawWlkPut_c _ _ _ _ HB.out hc).mono ?_); rintro e w' ⟨v, xs, y, rfl, ⟨B, hrow, _, _⟩, hlen, hy, td, rfl⟩; obtain ⟨sa, sc, rfl⟩ := hrow.slice; have HXS := hid (rowW_re hrow); clear hrow hy) | skip)); (show K _ _); refine hK _ _ (show Ext _ _ from (by ((try simp only [ext_drew]); (try simp only [ext_ext]); repeat (first | exact Ext.refl _ | with_reducible apply Ext.add | with_reducible apply Ext.dr | apply Ext.alloc | apply Ext.ext | apply Ext.drew | refine Ext.trans ?_ (by assumption))))) ?_; clear hK K; (try simp only [Act.put, List.setIfInBounds_toArray, List.set_cons_zero, List.set_cons_succ])))
          refine mix_nil ?_)
        | (
          with_reducible refine wp_region_ext (by kernel_rfl) (by kernel_rfl) ?_
          repeat (first | go_big_quiet_skip | (go_big_quiet_want; go_big_quiet_op; first | go_big_quiet_on | (apply Exists.intro; refine ⟨fun _ => ?_, ?_⟩; (fail); (try rw [h1]); (try rw [h2]); (try rw [h3]); (try rw [h4]); (try rw [p1]); (try rw [p2]); (try rw [p3]); (try rw [p4]); (try rw [r1]); (try rw [r2]); (try rw [r3]); (try rw [r4]); (try rw [r5]); (try rw [r6]); (try rw [q3]); (try rw [q4]); (try rw [hp]); (try rw [hq]); go_big_quiet_on)))
          refine wpQuiet_nil ?_
          rintro _ ⟨tq, rfl⟩))
    obtain ⟨zs, hzs⟩ : ∃ zs, wlkPut xs y = zs := ⟨_, rfl⟩
    have hz1 : zs.length ≤ 7 := by have := wlkPut_len xs y; rw [hzs] at this; omega
    obtain ⟨us, hus⟩ : ∃ us, wlkOut xs y.id = us := ⟨_, rfl⟩
    have hu1 : us.length ≤ 6 := by have := wlkOut_len xs y.id; rw [hus] at this; omega
    have HG := hid (show wlkGet zs y.id = y by rw [← hzs, wlkGet, put_self]; rfl)
    have HH := hid (show wlkHas zs y.id = true by rw [← hzs, wlkHas, put_self]; rfl)
    have HO := hid (show wlkOut zs y.id = us by rw [← hzs, put_out, hus])
    have HU := hid hus
    have HN1 := hid (fun (id : Int) (h : id ≠ y.id) => (show wlkGet zs id = wlkGet xs id ∧ wlkHas zs id = wlkHas xs id by rw [← hzs, wlkGet, wlkHas, put_other h]; exact ⟨rfl, rfl⟩))
    have HS := hid (fun (a : Option Addr) (n c : Nat) (w : World) (hr : Re w (.sl sWlk) [.slice a n c] (.l (xs.map Wlk.dat))) (hn : n ≤ 1048576) => (show Calls Try.prog 38 #[.slice a n c, .agg #[.int .i64 y.id, .int .i64 y.at_, .int .i64 y.coins, .int .i64 y.seq, .int .i64 y.last]] w (MadeL w sWlk zs.length (zs.map Wlk.dat)) from hzs ▸ sWlkPut_m xs y a n c w hr hn))
    have HI := hid (fun (a : Option Addr) (n c : Nat) (w : World) (hr : Re w (.sl sWlk) [.slice a n c] (.l (xs.map Wlk.dat))) (hn : n ≤ 1048576) => (show Calls Try.prog 36 #[.slice a n c, .agg #[.int .i64 y.id, .int .i64 y.at_, .int .i64 y.coins, .int .i64 y.seq, .int .i64 y.last]] w (MadeL w sWlk zs.length (zs.map Wlk.dat)) from hzs ▸ iWlkPut_m xs y a n c w hr hn))
    clear hzs hus
    try go_wp2_with (first
        | (go_at_call 37; refine (maList_c _ _ _ _ _ _ _ _ (Re.of (Hid.out (by assumption)) (by ((try simp only [ext_drew]); (try simp only [ext_ext]); repeat (first | exact Ext.refl _ | with_reducible apply Ext.add | with_reducible apply Ext.dr | apply Ext.alloc | apply Ext.ext | apply Ext.drew | refine Ext.trans ?_ (by assumption))))) (Re.of (Hid.out (by assumption)) (by ((try simp only [ext_drew]); (try simp only [ext_ext]); repeat (first | exact Ext.refl _ | with_reducible apply Ext.add | with_reducible apply Ext.dr | apply Ext.alloc | apply Ext.ext | apply Ext.drew | refine Ext.trans ?_ (by assumption))))) (by omega)).mono ?_; rintro e w' ⟨rfl, t, rfl⟩) | (go_at_call 39; refine (iWlkFind_h _ _ _ _ _ _ _ _ (Re.of (Hid.out (by assumption)) (by ((try simp only [ext_drew]); (try simp only [ext_ext]); repeat (first | exact Ext.refl _ | with_reducible apply Ext.add | with_reducible apply Ext.dr | apply Ext.alloc | apply Ext.ext | apply Ext.drew | refine Ext.trans ?_ (by assumption))))) (by omega) (by assumption) (by assumption)).mono ?_; rintro e w' ⟨rfl, t, rfl⟩) | (go_at_call 40; refine (iWlkOut_h _ _ _ _ _ _ _ (Re.of (Hid.out (by assumption)) (by ((try simp only [ext_drew]); (try simp only [ext_ext]); repeat (first | exact Ext.refl _ | with_reducible apply Ext.add | with_reducible apply Ext.dr | apply Ext.alloc | apply Ext.ext | apply Ext.drew | refine Ext.trans ?_ (by assumption))))) (by omega) (by assumption)).mono ?_; rintro e w' ⟨a, c, rfl, ⟨t, rfl⟩, ho⟩; have hR := hid ho.re; have HOi := hid ho; clear ho) | (go_at_call 38; (with_reducible refine (HS.out _ _ _ _ (Re.of (Hid.out (by assumption)) (by ((try simp only [ext_drew]); (try simp only [ext_ext]); repeat (first | exact Ext.refl _ | with_reducible apply Ext.add | with_reducible apply Ext.dr | apply Ext.alloc | apply Ext.ext | apply Ext.drew | refine Ext.trans ?_ (by assumption))))) (by omega)).mono ?_); rintro e w' ⟨a, c, rfl, ⟨t, rfl⟩, ho⟩; have hR := hid ho.re; clear ho) | (go_at_call 36; (with_reducible refine (HI.out _ _ _ _ (Re.of (Hid.out (by assumption)) (by ((try simp only [ext_drew]); (try simp only [ext_ext]); repeat (first | exact Ext.refl _ | with_reducible apply Ext.add | with_reducible apply Ext.dr | apply Ext.alloc | apply Ext.ext | apply Ext.drew | refine Ext.trans ?_ (by assumption))))) (by omega)).mono ?_); rintro e w' ⟨ai, ci, rfl, ⟨ti, rfl⟩, ho⟩; have HZ := hid ho.re; clear ho)
        | (
          with_reducible refine wp_region_mix (by kernel_rfl) (by decide +kernel) ?_
          repeat (first
            | (refine mix_pure rfl ?_; (first | go_big_quiet_skip | (go_big_quiet_want; go_big_quiet_op; go_big_quiet_on)); refine wpQuiet_nil ?_)
            | (refine mix_skip (by rfl) ?_; (try simp only [Act.put, List.setIfInBounds_toArray, List.set_cons_zero, List.set_cons_succ]))
            | (refine mix_mk rfl (by rfl) (fun K hK => ?_); (first | (go_simp; first | (go_at_call 37; refine (maList_c _ _ _ _ _ _ _ _ (Re.of (Hid.out (by assumption)) (by ((try simp only [ext_drew]); (try simp only [ext_ext]); repeat (first | exact Ext.refl _ | with_reducible apply Ext.add | with_reducible apply Ext.dr | apply Ext.alloc | apply Ext.ext | apply Ext.drew | refine Ext.trans ?_ (by assumption))))) (Re.of (Hid.out (by assumption)) (by ((try simp only [ext_drew]); (try simp only [ext_ext]); repeat (first | exact Ext.refl _ | with_reducible apply Ext.add | with_reducible apply Ext.dr | apply Ext.alloc | apply Ext.ext | apply Ext.drew | refine Ext.trans ?_ (by assumption))))) (by omega)).mono ?_; rintro e w' ⟨rfl, t, rfl⟩) | (go_at_call 39; refine (iWlkFind_h _ _ _ _ _ _ _ _ (Re.of (Hid.out (by assumption)) (by ((try simp only [ext_drew]); (try simp only [ext_ext]); repeat (first | exact Ext.refl _ | with_reducible apply Ext.add | with_reducible apply Ext.dr | apply Ext.alloc | apply Ext.ext | apply Ext.drew | refine Ext.trans ?_ (by assumption))))) (by omega) (by assumption) (by assumption)).mono ?_; rintro e w' ⟨rfl, t, rfl⟩) | (go_at_call 40; refine (iWlkOut_h _ _ _ _ _ _ _ (Re.of (Hid.out (by assumption)) (by ((try simp only [ext_drew]); (try simp only [ext_ext]); repeat (first | exact Ext.refl _ | with_reducible apply Ext.add | with_reducible apply Ext.dr | apply Ext.alloc | apply Ext.ext | apply Ext.drew | refine Ext.trans ?_ (by assumption))))) (by omega) (by assumption)).mono ?_; rintro e w' ⟨a, c, rfl, ⟨t, rfl⟩, ho⟩; have hR := hid ho.re; have HOi := hid ho; clear ho) | (go_at_call 38; (with_reducible refine (HS.out _ _ _ _ (Re.of (Hid.out (by assumption)) (by ((try simp only [ext_drew]); (try simp only [ext_ext]); repeat (first | exact Ext.refl _ | with_reducible apply Ext.add | with_reducible apply Ext.dr | apply Ext.alloc | apply Ext.ext | apply Ext.drew | refine Ext.trans ?_ (by assumption))))) (by omega)).mono ?_); rintro e w' ⟨a, c, rfl, ⟨t, rfl⟩, ho⟩; have hR := hid ho.re; clear ho) | (go_at_call 36; (with_reducible refine (HI.out _ _ _ _ (Re.of (Hid.out (by assumption)) (by ((try simp only [ext_drew]); (try simp only [ext_ext]); repeat (first | exact Ext.refl _ | with_reducible apply Ext.add | with_reducible apply Ext.dr | apply Ext.alloc | apply Ext.ext | apply Ext.drew | refine Ext.trans ?_ (by assumption))))) (by omega)).mono ?_); rintro e w' ⟨ai, ci, rfl, ⟨ti, rfl⟩, ho⟩; have HZ := hid ho.re; clear ho) | skip)); (show K _ _); refine hK _ _ (show Ext _ _ from (by ((try simp only [ext_drew]); (try simp only [ext_ext]); repeat (first | exact Ext.refl _ | with_reducible apply Ext.add | with_reducible apply Ext.dr | apply Ext.alloc | apply Ext.ext | apply Ext.drew | refine Ext.trans ?_ (by assumption))))) ?_; clear hK K; (try simp only [Act.put, List.setIfInBounds_toArray, List.set_cons_zero, List.set_cons_succ])))
          refine mix_nil ?_)
        | (
          with_reducible refine wp_region_ext (by kernel_rfl) (by kernel_rfl) ?_
          repeat (first | go_big_quiet_skip | (go_big_quiet_want; go_big_quiet_op; first | go_big_quiet_on | (apply Exists.intro; refine ⟨fun _ => ?_, ?_⟩; ((first | (go_at_call 37; first | exact quiet_call (maList_c _ _ _ _ _ _ _ _ (Re.of (Hid.out (by assumption)) (by ((try simp only [ext_drew]); (try simp only [ext_ext]); repeat (first | exact Ext.refl _ | with_reducible apply Ext.add | with_reducible apply Ext.dr | apply Ext.alloc | apply Ext.ext | apply Ext.drew | refine Ext.trans ?_ (by assumption))))) (Re.of (Hid.out (by assumption)) (by ((try simp only [ext_drew]); (try simp only [ext_ext]); repeat (first | exact Ext.refl _ | with_reducible apply Ext.add | with_reducible apply Ext.dr | apply Ext.alloc | apply Ext.ext | apply Ext.drew | refine Ext.trans ?_ (by assumption))))) (by omega)) | exact quiet_call2 (maList_c _ _ _ _ _ _ _ _ (Re.of (Hid.out (by assumption)) (by ((try simp only [ext_drew]); (try simp only [ext_ext]); repeat (first | exact Ext.refl _ | with_reducible apply Ext.add | with_reducible apply Ext.dr | apply Ext.alloc | apply Ext.ext | apply Ext.drew | refine Ext.trans ?_ (by assumption))))) (Re.of (Hid.out (by assumption)) (by ((try simp only [ext_drew]); (try simp only [ext_ext]); repeat (first | exact Ext.refl _ | with_reducible apply Ext.add | with_reducible apply Ext.dr | apply Ext.alloc | apply Ext.ext | apply Ext.drew | refine Ext.trans ?_ (by assumption))))) (by omega))) | (go_at_call 39; first | exact quiet_call (iWlkFind_h _ _ _ _ _ _ _ _ (Re.of (Hid.out (by assumption)) (by ((try simp only [ext_drew]); (try simp only [ext_ext]); repeat (first | exact Ext.refl _ | with_reducible apply Ext.add | with_reducible apply Ext.dr | apply Ext.alloc | apply Ext.ext | apply Ext.drew | refine Ext.trans ?_ (by assumption))))) (by omega) (by assumption) (by assumption)) | exact quiet_call2 (iWlkFind_h _ _ _ _ _ _ _ _ (Re.of (Hid.out (by assumption)) (by ((try simp only [ext_drew]); (try simp only [ext_ext]); repeat (first | exact Ext.refl _ | with_reducible apply Ext.add | with_reducible apply Ext.dr | apply Ext.alloc | apply Ext.ext | apply Ext.drew | refine Ext.trans ?_ (by assumption))))) (by omega) (by assumption) (by assumption))) | (go_at_call 40; first | exact quiet_call (iWlkOut_h _ _ _ _ _ _ _ (Re.of (Hid.out (by assumption)) (by ((try simp only [ext_drew]); (try simp only [ext_ext]); repeat (first | exact Ext.refl _ | with_reducible apply Ext.add | with_reducible apply Ext.dr | apply Ext.alloc | apply Ext.ext | apply Ext.drew | refine Ext.trans ?_ (by assumption))))) (by omega) (by assumption)) | exact quiet_call2 (iWlkOut_h _ _ _ _ _ _ _ (Re.of (Hid.out (by assumption)) (by ((try simp only [ext_drew]); (try simp only [ext_ext]); repeat (first | exact Ext.refl _ | with_reducible apply Ext.add | with_reducible apply Ext.dr | apply Ext.alloc | apply Ext.ext | apply Ext.drew | refine Ext.trans ?_ (by assumption))))) (by omega) (by assumption))))); (try rw [h1]); (try rw [h2]); (try rw [h3]); (try rw [h4]); (try rw [p1]); (try rw [p2]); (try rw [p3]); (try rw [p4]); (try rw [r1]); (try rw [r2]); (try rw [r3]); (try rw [r4]); (try rw [r5]); (try rw [r6]); (try rw [q3]); (try rw [q4]); (try rw [hp]); (try rw [hq]); go_big_quiet_on)))
          refine wpQuiet_nil ?_
          rintro _ ⟨tq, rfl⟩))
    refine wp_gen fun V hV => ?_
    obtain ⟨M, hM⟩ : ∃ M, W.heap.size + td.bs.size = M := ⟨_, rfl⟩
    have EV : Ext W V := by rw [hV]; ((try simp only [ext_drew]); (try simp only [ext_ext]); repeat (first | exact Ext.refl _ | with_reducible apply Ext.add | with_reducible apply Ext.dr | apply Ext.alloc | apply Ext.ext | apply Ext.drew | refine Ext.trans ?_ (by assumption)))
    have HX2 := hid (show Re V (.sl sWlk) [.slice sa xs.length sc] (.l (xs.map Wlk.dat)) by rw [hV]; exact HXS.out.of (by ((try simp only [ext_drew]); (try simp only [ext_ext]); repeat (first | exact Ext.refl _ | with_reducible apply Ext.add | with_reducible apply Ext.dr | apply Ext.alloc | apply Ext.ext | apply Ext.drew | refine Ext.trans ?_ (by assumption)))))
    have HZ2 := hid (show Re V (.sl sWlk) [.slice ai zs.length ci] (.l (zs.map Wlk.dat)) by rw [hV]; exact HZ.out.of (by ((try simp only [ext_drew]); (try simp only [ext_ext]); repeat (first | exact Ext.refl _ | with_reducible apply Ext.add | with_reducible apply Ext.dr | apply Ext.alloc | apply Ext.ext | apply Ext.drew | refine Ext.trans ?_ (by assumption)))))
    have cM0 : V.cell? ⟨M, 0, none⟩ = some (.int .i64 y.id) := by rw [hV, ← hM]; simp [go_sem]
    have lM : M < V.heap.size := by rw [hV, ← hM]; ((try simp [go_sem]) <;> (try simp [Xt.add]) <;> omega)
    rw [hM]
    clear hV hM HXS HZ HS HI
    go_loopw [8, 9, 10, 11, 12] (fun i _ _ _ _ wr => ∃ k : Nat, k ≤ 12 ∧ i = .int .i64 k ∧ Ext V wr) (fun i _ _ _ _ _ => 12 - (intOf i).toNat)
    case atStart => exact ⟨0, by omega, rfl, (by ((try simp only [ext_drew]); (try simp only [ext_ext]); repeat (first | exact Ext.refl _ | with_reducible apply Ext.add | with_reducible apply Ext.dr | apply Ext.alloc | apply Ext.ext | apply Ext.drew | refine Ext.trans ?_ (by assumption))))⟩
    case round =>
      obtain ⟨k, hk, rfl, t9, rfl⟩ := hrel
      by_cases hlt : k < 12
      · obtain ⟨g1, hg1⟩ : ∃ g, wlkGet xs k = g := ⟨_, rfl⟩
        obtain ⟨b1, hb1⟩ : ∃ b, wlkHas xs k = b := ⟨_, rfl⟩
        obtain ⟨g2, hg2⟩ : ∃ g, wlkGet zs k = g := ⟨_, rfl⟩
        obtain ⟨b2, hb2⟩ : ∃ b, wlkHas zs k = b := ⟨_, rfl⟩
        have HG1 := hid hg1
        have HG2 := hid hg2
        have HB1 := hid hb1
        have HB2 := hid hb2
        by_cases hq : (k : Int) = y.id
        · have q := bne_f hq
          clear hg1 hg2 hb1 hb2 hq
          try go_wp2_with (first
              | (go_at_call 39; refine (iWlkFind_h _ _ _ _ _ _ _ _ (Re.of (Hid.out (by assumption)) (by ((try simp only [ext_drew]); (try simp only [ext_ext]); repeat (first | exact Ext.refl _ | with_reducible apply Ext.add | with_reducible apply Ext.dr | apply Ext.alloc | apply Ext.ext | apply Ext.drew | refine Ext.trans ?_ (by assumption))))) (by omega) (by assumption) (by assumption)).mono ?_; rintro e w' ⟨rfl, t, rfl⟩)
              | (
                with_reducible refine wp_region_mix (by kernel_rfl) (by decide +kernel) ?_
                repeat (first
                  | (refine mix_pure rfl ?_; (first | go_big_quiet_skip | (go_big_quiet_want; go_big_quiet_op; go_big_quiet_on)); refine wpQuiet_nil ?_)
                  | (refine mix_skip (by rfl) ?_; (try simp only [Act.put, List.setIfInBounds_toArray, List.set_cons_zero, List.set_cons_succ]))
                  | (refine mix_mk rfl (by rfl) (fun K hK => ?_); (first | (go_simp; first | (go_at_call 39; refine (iWlkFind_h _ _ _ _ _ _ _ _ (Re.of (Hid.out (by assumption)) (by ((try simp only [ext_drew]); (try simp only [ext_ext]); repeat (first | exact Ext.refl _ | with_reducible apply Ext.add | with_reducible apply Ext.dr | apply Ext.alloc | apply Ext.ext | apply Ext.drew | refine Ext.trans ?_ (by assumption))))) (by omega) (by assumption) (by assumption)).mono ?_; rintro e w' ⟨rfl, t, rfl⟩) | skip)); (show K _ _); refine hK _ _ (show Ext _ _ from (by ((try simp only [ext_drew]); (try simp only [ext_ext]); repeat (first | exact Ext.refl _ | with_reducible apply Ext.add | with_reducible apply Ext.dr | apply Ext.alloc | apply Ext.ext | apply Ext.drew | refine Ext.trans ?_ (by assumption))))) ?_; clear hK K; (try simp only [Act.put, List.setIfInBounds_toArray, List.set_cons_zero, List.set_cons_succ])))
                refine mix_nil ?_)
              | (
                with_reducible refine wp_region_ext (by kernel_rfl) (by kernel_rfl) ?_
                repeat (first | go_big_quiet_skip | (go_big_quiet_want; go_big_quiet_op; first | go_big_quiet_on | (apply Exists.intro; refine ⟨fun _ => ?_, ?_⟩; ((first | (go_at_call 39; first | exact quiet_call (iWlkFind_h _ _ _ _ _ _ _ _ (Re.of (Hid.out (by assumption)) (by ((try simp only [ext_drew]); (try simp only [ext_ext]); repeat (first | exact Ext.refl _ | with_reducible apply Ext.add | with_reducible apply Ext.dr | apply Ext.alloc | apply Ext.ext | apply Ext.drew | refine Ext.trans ?_ (by assumption))))) (by omega) (by assumption) (by assumption)) | exact quiet_call2 (iWlkFind_h _ _ _ _ _ _ _ _ (Re.of (Hid.out (by assumption)) (by ((try simp only [ext_drew]); (try simp only [ext_ext]); repeat (first | exact Ext.refl _ | with_reducible apply Ext.add | with_reducible apply Ext.dr | apply Ext.alloc | apply Ext.ext | apply Ext.drew | refine Ext.trans ?_ (by assumption))))) (by omega) (by assumption) (by assumption))))); (try rw [h1]); (try rw [h2]); (try rw [h3]); (try rw [h4]); (try rw [p1]); (try rw [p2]); (try rw [p3]); (try rw [p4]); (try rw [r1]); (try rw [r2]); (try rw [r3]); (try rw [r4]); (try rw [r5]); (try rw [r6]); (try rw [q3]); (try rw [q4]); (try rw [hp]); (try rw [hq]); go_big_quiet_on)))
                refine wpQuiet_nil ?_
                rintro _ ⟨tq, rfl⟩))
          go_roundw
          case rel => exact ⟨k + 1, by omega, by go_num, (by ((try simp only [ext_drew]); (try simp only [ext_ext]); repeat (first | exact Ext.refl _ | with_reducible apply Ext.add | with_reducible apply Ext.dr | apply Ext.alloc | apply Ext.ext | apply Ext.drew | refine Ext.trans ?_ (by assumption))))⟩
          case measure => simp [intOf]; omega
        · have q := bne_t hq
          obtain ⟨e1, e2⟩ := HN1.out k hq
          obtain rfl : g1 = g2 := by rw [← hg1, ← hg2, e1]
          obtain rfl : b1 = b2 := by rw [← hb1, ← hb2, e2]
          clear hg1 hg2 hb1 hb2 hq e1 e2
          try go_wp2_with (first
              | (go_at_call 39; refine (iWlkFind_h _ _ _ _ _ _ _ _ (Re.of (Hid.out (by assumption)) (by ((try simp only [ext_drew]); (try simp only [ext_ext]); repeat (first | exact Ext.refl _ | with_reducible apply Ext.add | with_reducible apply Ext.dr | apply Ext.alloc | apply Ext.ext | apply Ext.drew | refine Ext.trans ?_ (by assumption))))) (by omega) (by assumption) (by assumption)).mono ?_; rintro e w' ⟨rfl, t, rfl⟩)
              | (
                with_reducible refine wp_region_mix (by kernel_rfl) (by decide +kernel) ?_
                repeat (first
                  | (refine mix_pure rfl ?_; (first | go_big_quiet_skip | (go_big_quiet_want; go_big_quiet_op; go_big_quiet_on)); refine wpQuiet_nil ?_)
                  | (refine mix_skip (by rfl) ?_; (try simp only [Act.put, List.setIfInBounds_toArray, List.set_cons_zero, List.set_cons_succ]))
                  | (refine mix_mk rfl (by rfl) (fun K hK => ?_); (first | (go_simp; first | (go_at_call 39; refine (iWlkFind_h _ _ _ _ _ _ _ _ (Re.of (Hid.out (by assumption)) (by ((try simp only [ext_drew]); (try simp only [ext_ext]); repeat (first | exact Ext.refl _ | with_reducible apply Ext.add | with_reducible apply Ext.dr | apply Ext.alloc | apply Ext.ext | apply Ext.drew | refine Ext.trans ?_ (by assumption))))) (by omega) (by assumption) (by assumption)).mono ?_; rintro e w' ⟨rfl, t, rfl⟩) | skip)); (show K _ _); refine hK _ _ (show Ext _ _ from (by ((try simp only [ext_drew]); (try simp only [ext_ext]); repeat (first | exact Ext.refl _ | with_reducible apply Ext.add | with_reducible apply Ext.dr | apply Ext.alloc | apply Ext.ext | apply Ext.drew | refine Ext.trans ?_ (by assumption))))) ?_; clear hK K; (try simp only [Act.put, List.setIfInBounds_toArray, List.set_cons_zero, List.set_cons_succ])))
                refine mix_nil ?_)
              | (
                with_reducible refine wp_region_ext (by kernel_rfl) (by kernel_rfl) ?_
                repeat (first | go_big_quiet_skip | (go_big_quiet_want; go_big_quiet_op; first | go_big_quiet_on | (apply Exists.intro; refine ⟨fun _ => ?_, ?_⟩; ((first | (go_at_call 39; first | exact quiet_call (iWlkFind_h _ _ _ _ _ _ _ _ (Re.of (Hid.out (by assumption)) (by ((try simp only [ext_drew]); (try simp only [ext_ext]); repeat (first | exact Ext.refl _ | with_reducible apply Ext.add | with_reducible apply Ext.dr | apply Ext.alloc | apply Ext.ext | apply Ext.drew | refine Ext.trans ?_ (by assumption))))) (by omega) (by assumption) (by assumption)) | exact quiet_call2 (iWlkFind_h _ _ _ _ _ _ _ _ (Re.of (Hid.out (by assumption)) (by ((try simp only [ext_drew]); (try simp only [ext_ext]); repeat (first | exact Ext.refl _ | with_reducible apply Ext.add | with_reducible apply Ext.dr | apply Ext.alloc | apply Ext.ext | apply Ext.drew | refine Ext.trans ?_ (by assumption))))) (by omega) (by assumption) (by assumption))))); (try rw [h1]); (try rw [h2]); (try rw [h3]); (try rw [h4]); (try rw [p1]); (try rw [p2]); (try rw [p3]); (try rw [p4]); (try rw [r1]); (try rw [r2]); (try rw [r3]); (try rw [r4]); (try rw [r5]); (try rw [r6]); (try rw [q3]); (try rw [q4]); (try rw [hp]); (try rw [hq]); go_big_quiet_on)))
                refine wpQuiet_nil ?_
                rintro _ ⟨tq, rfl⟩))
          go_roundw
          case rel => exact ⟨k + 1, by omega, by go_num, (by ((try simp only [ext_drew]); (try simp only [ext_ext]); repeat (first | exact Ext.refl _ | with_reducible apply Ext.add | with_reducible apply Ext.dr | apply Ext.alloc | apply Ext.ext | apply Ext.drew | refine Ext.trans ?_ (by assumption))))⟩
          case measure => simp [intOf]; omega
      · try go_wp2_with (first
            | fail
            | (
              with_reducible refine wp_region_mix (by kernel_rfl) (by decide +kernel) ?_
              repeat (first
                | (refine mix_pure rfl ?_; (first | go_big_quiet_skip | (go_big_quiet_want; go_big_quiet_op; go_big_quiet_on)); refine wpQuiet_nil ?_)
                | (refine mix_skip (by rfl) ?_; (try simp only [Act.put, List.setIfInBounds_toArray, List.set_cons_zero, List.set_cons_succ]))
                | (refine mix_mk rfl (by rfl) (fun K hK => ?_); (first | (go_simp; first | skip)); (show K _ _); refine hK _ _ (show Ext _ _ from (by ((try simp only [ext_drew]); (try simp only [ext_ext]); repeat (first | exact Ext.refl _ | with_reducible apply Ext.add | with_reducible apply Ext.dr | apply Ext.alloc | apply Ext.ext | apply Ext.drew | refine Ext.trans ?_ (by assumption))))) ?_; clear hK K; (try simp only [Act.put, List.setIfInBounds_toArray, List.set_cons_zero, List.set_cons_succ])))
              refine mix_nil ?_)
            | (
              with_reducible refine wp_region_ext (by kernel_rfl) (by kernel_rfl) ?_
              repeat (first | go_big_quiet_skip | (go_big_quiet_want; go_big_quiet_op; first | go_big_quiet_on | (apply Exists.intro; refine ⟨fun _ => ?_, ?_⟩; (fail); (try rw [h1]); (try rw [h2]); (try rw [h3]); (try rw [h4]); (try rw [p1]); (try rw [p2]); (try rw [p3]); (try rw [p4]); (try rw [r1]); (try rw [r2]); (try rw [r3]); (try rw [r4]); (try rw [r5]); (try rw [r6]); (try rw [q3]); (try rw [q4]); (try rw [hp]); (try rw [hq]); go_big_quiet_on)))
              refine wpQuiet_nil ?_
              rintro _ ⟨tq, rfl⟩))
        go_ret
        exact ⟨rfl, Ext.below (EV.trans (by ((try simp only [ext_drew]); (try simp only [ext_ext]); repeat (first | exact Ext.refl _ | with_reducible apply Ext.add | with_reducible apply Ext.dr | apply Ext.alloc | apply Ext.ext | apply Ext.drew | refine Ext.trans ?_ (by assumption)))))⟩

set_option maxRecDepth 100000 in
theorem fnWlkList_lifted (os : Os) (started : os.Started) (H : Type) (enc : TypeId × Value → H) :
    ReturnsInHanded {} Try.checked os 7 .any (Rows.fnWlkListSpec.pre6 enc Try.prog Try.f7 Rows.fnWlkListRow.domain false) (Rows.fnWlkListSpec.post enc Try.prog Try.f7 false true false false) := by
  refine returnsInHanded_of_change (C := Try.checked) own_knob started (by kernel_rfl) Try.func7
    (ChangeSpec.witness6 (enc := enc) (C := Try.checked) false ⟨#[], #[.slice none 0 0], []⟩ 8 (by kernel_rfl) (by kernel_rfl) (by kernel_rfl) (by kernel_rfl)) ?_
  intro W base args ds gs before hval0 hW _ _
  have hval : ∀ (j : Nat) t v, Try.f7.params[j]? = some t → args[j]? = some v → Value.okWide Try.prog W .any base t v := hval0
  have hfin : ∀ W', Below W.heap.size W W' → Rows.fnWlkListSpec.post enc Try.prog Try.f7 false true false false W args (.bool true) W' := fun W' hb =>
    law_post laid_out rfl bool_ty rfl (by kernel_rfl) hW (fun ds h => by match ds, h with | [_], _ => rfl) hb
  suffices hwalk : Calls Try.prog 7 args W fun e W' => e = .returned (.bool true) ∧ Below W.heap.size W W' by
    refine hwalk.mono fun e W' ⟨he, hb⟩ => ?_
    subst he
    exact ⟨_, rfl, hfin W' hb⟩
  clear hfin
  obtain ⟨p, q, hA0, hV, _, hfz, hnd⟩ := hW
  have hA : DataW.TrodAll enc Try.prog W 0 (fun _ => true) true Try.f7.params.toList args.toList ds p := hA0
  clear hA0 hval0 hV hfz hnd
  rw [Try.params7] at hA hval
  obtain ⟨v0, vs0, d0, ds0, p0, q0, hargs0, _, _, h0, r0⟩ := trodAll_cons hA
  obtain ⟨hnil, _, _⟩ := trodAll_nil r0
  obtain rfl : args = #[v0] := by cases args; simp_all
  clear hargs0 hnil
  obtain ⟨code_a, code_n, code_c, rfl⟩ := okWide_slice Try.underlying22 (hval 0 22 v0 rfl rfl)
  obtain ⟨hb0, hd0⟩ := open_bytes h0
  exact fnWlkList_walk W code_a code_n code_c hb0 hd0

theorem fnWlkList_holds : Rows.FnWlkListSaid :=
  OpenClaim.holds_of_wide 7 Try.f7 rfl rfl rfl rfl rfl rfl rfl ⟨rfl, rfl, rfl, rfl, rfl⟩ rfl rfl rfl rfl rfl (by kernel_rfl) Try.func7 (by kernel_rfl)
    (of_decide_eq_true (by kernel_rfl)) (by unfold Func.isWrapper; rw [if_neg (by decide +kernel)]; exact ⟨rfl, rfl⟩)
    (fun os started H enc _ => fnWlkList_lifted os started H enc)


end Go.Proofs.Ytbbpipbemhggdaa
