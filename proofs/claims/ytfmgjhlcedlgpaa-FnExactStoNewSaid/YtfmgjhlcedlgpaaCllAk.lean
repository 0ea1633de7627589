/- Parcels that a cell lets go of. -/
import Derived.Test.YtfmgjhlcedlgpaaCllCpI
import Derived.Test.YtfmgjhlcedlgpaaPclX
import Derived.Test.YtfmgjhlcedlgpaaCllOkS
namespace Go.Proofs.Ytfmgjhlcedlgpaa
open Go.RowKit
set_option linter.unusedSimpArgs false
set_option linter.unusedVariables false

def ackB (nx : Int) (xs : List Pcl) (n : Int) : Bool := decide (n ≤ nx) && decide (nx - (xs.length : Int) < n)
def ackC (c : Cll) (s : Nat) (xs : List Pcl) : Cll := { c with outs := c.outs.set s xs }
theorem nod_app {A B : List Nat} (h : (A ++ B).Nodup) {x : Nat} (hx : x ∈ A) : x ∉ B := fun hb => (List.nodup_append.1 h).2.2 x hx x hb rfl
/-- The parcels of a cell in memory replaced. -/
theorem CX.setOuts {w w' : World} {c : Cll} {h : CllH} {B1 B2 B3 B4 B5 : List Nat} {outs' : List (List Pcl)} (x : CX w c h B1 B3 B4 B5) (hc : Chg B3 w w') (hss : RowSS w' 69 95 8 Pcl.cells (.slice h.a3 outs'.length h.c3) outs' B2) (hb : ∀ b ∈ B2, b ∈ B3 ∨ w.heap.size ≤ b) :
    CX w' { c with outs := outs' } h B1 B2 B4 B5 := by
  have nd := x.nd
  have n1 : ∀ b ∈ B1, b ∉ B3 := fun b hb h3 => nod_app nd hb (by simp [h3])
  have nd2 := (List.nodup_append.1 nd).2.1
  have n4 : ∀ b ∈ B4 ++ B5, b ∉ B3 := fun b hb h3 => nod_app nd2 h3 hb
  have l1 := x.x1.lt
  have l4 := x.x4.lt
  have l5 := x.x5.lt
  refine ⟨x.x1.chg hc n1, hss, x.x4.chg hc fun b hb => n4 b (by simp [hb]), x.x5.chg hc fun b hb => n4 b (by simp [hb]), ?_⟩
  refine List.nodup_append.2 ⟨x.x1.nodup, List.nodup_append.2 ⟨hss.nodup, (List.nodup_append.1 nd2).2.1, fun a ha b hb' e => ?_⟩, fun a ha b hb' e => ?_⟩
  · subst e
    rcases hb a ha with h9 | h9
    · exact n4 a hb' h9
    · rcases List.mem_append.1 hb' with h8 | h8
      · have := l4 a h8; omega
      · have := l5 a h8; omega
  · subst e
    rcases List.mem_append.1 hb' with h8 | h8
    · rcases hb a h8 with h9 | h9
      · exact n1 a ha h9
      · have := l1 a ha; omega
    · exact nod_app nd ha (List.mem_append_right _ h8)
set_option maxRecDepth 100000 in
set_option maxHeartbeats 8000000 in
theorem release_c (c : Cll) (h : CllH) (T s : Nat) (n nx : Int) (xs : List Pcl) (B1 B3 B4 B5 : List Nat) (w : World) (hT : w.heap[T]? = some (.cells #[.int .i64 c.cell, .slice h.a1 c.wk.length h.c1, .int .i64 c.ground, .slice h.a3 c.outs.length h.c3, .slice h.a4 c.next.length h.c4, .slice h.a5 c.ins.length h.c5] 39 (0, 0))) (hx : CX w c h B1 B3 B4 B5) (hTB : T ∉ B3)
    (hxs : c.outs[s]? = some xs) (hnx : c.next[s]? = some nx) (hf : ∀ x, xs[0]? = some x → x.n = nx - xs.length) (hn : xs.length ≤ 1048576) :
    Calls Try.prog 63 #[.pointer (some ⟨T, 0, none⟩), .int .i64 s, .int .i64 n] w fun e w' => ∃ B3', e = .returned (.bool (ackB nx xs n)) ∧ CX w' (bif ackB nx xs n then ackC c s (pclFrom xs n) else c) h B1 B3' B4 B5 ∧ Chg B3 w w' ∧ (∀ b ∈ B3', b ∈ B3 ∨ w.heap.size ≤ b) := by
  obtain ⟨a1, c1, a3, c3, a4, c4, a5, c5⟩ := h
  have HX := hid hx
  have hs3 : s < c.outs.length := (List.getElem?_eq_some_iff.1 hxs).1
  have hs4 : s < c.next.length := (List.getElem?_eq_some_iff.1 hnx).1
  obtain ⟨g4, cur4, y4, e4, hB4, hl4, hc4, hy4, hb4, hz4, hv4, hu4⟩ := hx.x4.at Nat.one_pos (fun _ => rfl) hs4
  rw [hnx] at hy4
  obtain rfl := Option.some.inj hy4
  obtain ⟨g3, cur3, e, ys, Bj, e3, hg3, hl3, hc3, hys, hb3, hz3, hv3, hre, hBj, hu3⟩ := hx.x3.at hs3
  rw [hxs] at hys
  obtain rfl := Option.some.inj hys
  dsimp only at e3 e4
  subst e3 e4
  have hen := hre.len
  obtain ⟨ea, en, ec⟩ := e
  dsimp only at hen hv3 hre
  subst hen
  have f4 : w.cell? ⟨g4, s, none⟩ = some (.int .i64 nx) := (cell_blk hb4 s).trans (by have := hv4 0 _ rfl; simpa using this)
  have f3 : w.cell? ⟨g3, s, none⟩ = some (.slice ea xs.length ec) := (cell_blk hb3 s).trans hv3
  have z3 := frozen_blk hb3 s
  have l4 := lt_blk hb4
  have l3 := lt_blk hb3
  have lT := lt_blk hT
  have hRe : Re w (.sl sPcl) [.slice ea xs.length ec] (.l (xs.map Pcl.dat)) := (hre.own (k := 8) rfl (fun w x => own_Pcl_mk w x)).re hre.lt
  have cT3 : w.cell? ⟨T, 3, none⟩ = some (.slice (some ⟨g3, 0, none⟩) c.outs.length c3) := (cell_blk hT 3).trans rfl
  have cT4 : w.cell? ⟨T, 4, none⟩ = some (.slice (some ⟨g4, 0, none⟩) c.next.length c4) := (cell_blk hT 4).trans rfl
  have HRe := hid hRe
  have HU3 := hid hu3
  have HB3 := hid hb3
  have hg3T : g3 ≠ T := fun e => hTB (e ▸ hg3)
  have HG := hid (show g3 ∈ B3 ∧ (∀ b ∈ Bj, b ∈ B3 ∧ b ≠ g3) from ⟨hg3, hBj⟩)
  have HF := hid hf
  have hm := hx.x3.max
  have hm4 := hx.x4.max
  simp only [maxLen] at hm hm4
  have HMX := hid hn
  clear hT hx hxs hnx hu3 hu4 hb3 hb4 hv3 hv4 hRe hre hBj hg3 hf hB4 hTB hn
  generalize hnl : xs.length = nl at *
  have HNL := hid hnl
  clear hnl
  by_cases t1 : nx < n
  · have E := hid (show ackB nx xs n = false by have := HNL.out; simp [ackB]; omega)
    go_enter Try.func63, Try.ntmps63
    try go_wp2_with (first
        | fail
        | (
          with_reducible refine wp_region_mix (by kernel_rfl) (by decide +kernel) ?_
          repeat (first
            | (refine mix_pure rfl ?_; (first | go_big_quiet_skip | (go_big_quiet_want; go_big_quiet_op; go_big_quiet_on)); refine wpQuiet_nil ?_)
            | (refine mix_skip (by rfl) ?_; (try simp only [Act.put, List.setIfInBounds_toArray, List.set_cons_zero, List.set_cons_succ]))
            | (refine mix_mk rfl (by rfl) (fun K hK => ?_); (first | (go_simp; first | skip)); (show K _ _); refine hK _ _ (show Ext _ _ from (by ((try simp only [ext_drew]); (try simp only [ext_ext]); repeat (first | exact Ext.refl _ | with_reducible apply Ext.add | with_reducible apply Ext.dr | apply Ext.alloc | apply Ext.ext | apply Ext.drew | refine Ext.trans ?_ (by assumption))))) ?_; clear hK K; (try simp only [Act.put, List.setIfInBounds_toArray, List.set_cons_zero, List.set_cons_succ])))
          refine mix_nil ?_)
        | (
          with_reducible refine wp_region_ext (by kernel_rfl) (by kernel_rfl) ?_
          repeat (first | go_big_quiet_skip | (go_big_quiet_want; go_big_quiet_op; first | go_big_quiet_on | (apply Exists.intro; refine ⟨fun _ => ?_, ?_⟩; (fail); (try rw [h1]); (try rw [h2]); (try rw [h3]); (try rw [h4]); (try rw [p1]); (try rw [p2]); (try rw [p3]); (try rw [p4]); (try rw [r1]); (try rw [r2]); (try rw [r3]); (try rw [r4]); (try rw [r5]); (try rw [r6]); (try rw [q3]); (try rw [q4]); (try rw [hp]); (try rw [hq]); go_big_quiet_on)))
          refine wpQuiet_nil ?_
          rintro _ ⟨tq, rfl⟩))
    go_ret
    exact ⟨ret_bool (by rw [E.out]), B3, by rw [E.out]; exact HX.out.of (by ((try simp only [ext_drew]); (try simp only [ext_ext]); repeat (first | exact Ext.refl _ | with_reducible apply Ext.add | with_reducible apply Ext.dr | apply Ext.alloc | apply Ext.ext | apply Ext.drew | refine Ext.trans ?_ (by assumption)))), Chg.of_ext (by ((try simp only [ext_drew]); (try simp only [ext_ext]); repeat (first | exact Ext.refl _ | with_reducible apply Ext.add | with_reducible apply Ext.dr | apply Ext.alloc | apply Ext.ext | apply Ext.drew | refine Ext.trans ?_ (by assumption)))) _, fun b hb => .inl hb⟩
  · by_cases t0 : nl = 0
    · have E := hid (show ackB nx xs n = false by have := HNL.out; simp [ackB]; omega)
      go_enter Try.func63, Try.ntmps63
      try go_wp2_with (first
          | fail
          | (
            with_reducible refine wp_region_mix (by kernel_rfl) (by decide +kernel) ?_
            repeat (first
              | (refine mix_pure rfl ?_; (first | go_big_quiet_skip | (go_big_quiet_want; go_big_quiet_op; go_big_quiet_on)); refine wpQuiet_nil ?_)
              | (refine mix_skip (by rfl) ?_; (try simp only [Act.put, List.setIfInBounds_toArray, List.set_cons_zero, List.set_cons_succ]))
              | (refine mix_mk rfl (by rfl) (fun K hK => ?_); (first | (go_simp; first | skip)); (show K _ _); refine hK _ _ (show Ext _ _ from (by ((try simp only [ext_drew]); (try simp only [ext_ext]); repeat (first | exact Ext.refl _ | with_reducible apply Ext.add | with_reducible apply Ext.dr | apply Ext.alloc | apply Ext.ext | apply Ext.drew | refine Ext.trans ?_ (by assumption))))) ?_; clear hK K; (try simp only [Act.put, List.setIfInBounds_toArray, List.set_cons_zero, List.set_cons_succ])))
            refine mix_nil ?_)
          | (
            with_reducible refine wp_region_ext (by kernel_rfl) (by kernel_rfl) ?_
            repeat (first | go_big_quiet_skip | (go_big_quiet_want; go_big_quiet_op; first | go_big_quiet_on | (apply Exists.intro; refine ⟨fun _ => ?_, ?_⟩; (fail); (try rw [h1]); (try rw [h2]); (try rw [h3]); (try rw [h4]); (try rw [p1]); (try rw [p2]); (try rw [p3]); (try rw [p4]); (try rw [r1]); (try rw [r2]); (try rw [r3]); (try rw [r4]); (try rw [r5]); (try rw [r6]); (try rw [q3]); (try rw [q4]); (try rw [hp]); (try rw [hq]); go_big_quiet_on)))
            refine wpQuiet_nil ?_
            rintro _ ⟨tq, rfl⟩))
      go_ret
      exact ⟨ret_bool (by rw [E.out]), B3, by rw [E.out]; exact HX.out.of (by ((try simp only [ext_drew]); (try simp only [ext_ext]); repeat (first | exact Ext.refl _ | with_reducible apply Ext.add | with_reducible apply Ext.dr | apply Ext.alloc | apply Ext.ext | apply Ext.drew | refine Ext.trans ?_ (by assumption)))), Chg.of_ext (by ((try simp only [ext_drew]); (try simp only [ext_ext]); repeat (first | exact Ext.refl _ | with_reducible apply Ext.add | with_reducible apply Ext.dr | apply Ext.alloc | apply Ext.ext | apply Ext.drew | refine Ext.trans ?_ (by assumption)))) _, fun b hb => .inl hb⟩
    · have hlen0 : 0 < nl := by omega
      obtain ⟨x0, b, o, hxk, rfl, hb, f0, f1, f2, f3', f4', f5, f6, f7⟩ := at_Pcl HRe.out hlen0
      have hx0 := HF.out x0 hxk
      have HX0 := hid hx0
      rw [Nat.zero_mul, Nat.add_zero] at f0
      clear hxk hx0 f1 f2 f3' f4' f5 f6 f7
      by_cases t2 : n ≤ x0.n
      · have E := hid (show ackB nx xs n = false by have := HNL.out; have := HX0.out; simp [ackB]; omega)
        go_enter Try.func63, Try.ntmps63
        try go_wp2_with (first
            | fail
            | (
              with_reducible refine wp_region_mix (by kernel_rfl) (by decide +kernel) ?_
              repeat (first
                | (refine mix_pure rfl ?_; (first | go_big_quiet_skip | (go_big_quiet_want; go_big_quiet_op; go_big_quiet_on)); refine wpQuiet_nil ?_)
                | (refine mix_skip (by rfl) ?_; (try simp only [Act.put, List.setIfInBounds_toArray, List.set_cons_zero, List.set_cons_succ]))
                | (refine mix_mk rfl (by rfl) (fun K hK => ?_); (first | (go_simp; first | skip)); (show K _ _); refine hK _ _ (show Ext _ _ from (by ((try simp only [ext_drew]); (try simp only [ext_ext]); repeat (first | exact Ext.refl _ | with_reducible apply Ext.add | with_reducible apply Ext.dr | apply Ext.alloc | apply Ext.ext | apply Ext.drew | refine Ext.trans ?_ (by assumption))))) ?_; clear hK K; (try simp only [Act.put, List.setIfInBounds_toArray, List.set_cons_zero, List.set_cons_succ])))
              refine mix_nil ?_)
            | (
              with_reducible refine wp_region_ext (by kernel_rfl) (by kernel_rfl) ?_
              repeat (first | go_big_quiet_skip | (go_big_quiet_want; go_big_quiet_op; first | go_big_quiet_on | (apply Exists.intro; refine ⟨fun _ => ?_, ?_⟩; (fail); (try rw [h1]); (try rw [h2]); (try rw [h3]); (try rw [h4]); (try rw [p1]); (try rw [p2]); (try rw [p3]); (try rw [p4]); (try rw [r1]); (try rw [r2]); (try rw [r3]); (try rw [r4]); (try rw [r5]); (try rw [r6]); (try rw [q3]); (try rw [q4]); (try rw [hp]); (try rw [hq]); go_big_quiet_on)))
              refine wpQuiet_nil ?_
              rintro _ ⟨tq, rfl⟩))
        go_ret
        exact ⟨ret_bool (by rw [E.out]), B3, by rw [E.out]; exact HX.out.of (by ((try simp only [ext_drew]); (try simp only [ext_ext]); repeat (first | exact Ext.refl _ | with_reducible apply Ext.add | with_reducible apply Ext.dr | apply Ext.alloc | apply Ext.ext | apply Ext.drew | refine Ext.trans ?_ (by assumption)))), Chg.of_ext (by ((try simp only [ext_drew]); (try simp only [ext_ext]); repeat (first | exact Ext.refl _ | with_reducible apply Ext.add | with_reducible apply Ext.dr | apply Ext.alloc | apply Ext.ext | apply Ext.drew | refine Ext.trans ?_ (by assumption)))) _, fun b hb => .inl hb⟩
      · have E := hid (show ackB nx xs n = true by have := HNL.out; have := HX0.out; simp [ackB]; omega)
        go_enter Try.func63, Try.ntmps63
        try go_wp2_with (first
            | fail
            | (
              with_reducible refine wp_region_mix (by kernel_rfl) (by decide +kernel) ?_
              repeat (first
                | (refine mix_pure rfl ?_; (first | go_big_quiet_skip | (go_big_quiet_want; go_big_quiet_op; go_big_quiet_on)); refine wpQuiet_nil ?_)
                | (refine mix_skip (by rfl) ?_; (try simp only [Act.put, List.setIfInBounds_toArray, List.set_cons_zero, List.set_cons_succ]))
                | (refine mix_mk rfl (by rfl) (fun K hK => ?_); (first | (go_simp; first | skip)); (show K _ _); refine hK _ _ (show Ext _ _ from (by ((try simp only [ext_drew]); (try simp only [ext_ext]); repeat (first | exact Ext.refl _ | with_reducible apply Ext.add | with_reducible apply Ext.dr | apply Ext.alloc | apply Ext.ext | apply Ext.drew | refine Ext.trans ?_ (by assumption))))) ?_; clear hK K; (try simp only [Act.put, List.setIfInBounds_toArray, List.set_cons_zero, List.set_cons_succ])))
              refine mix_nil ?_)
            | (
              with_reducible refine wp_region_ext (by kernel_rfl) (by kernel_rfl) ?_
              repeat (first | go_big_quiet_skip | (go_big_quiet_want; go_big_quiet_op; first | go_big_quiet_on | (apply Exists.intro; refine ⟨fun _ => ?_, ?_⟩; (fail); (try rw [h1]); (try rw [h2]); (try rw [h3]); (try rw [h4]); (try rw [p1]); (try rw [p2]); (try rw [p3]); (try rw [p4]); (try rw [r1]); (try rw [r2]); (try rw [r3]); (try rw [r4]); (try rw [r5]); (try rw [r6]); (try rw [q3]); (try rw [q4]); (try rw [hp]); (try rw [hq]); go_big_quiet_on)))
              refine wpQuiet_nil ?_
              rintro _ ⟨tq, rfl⟩))
        obtain ⟨R, hR⟩ : ∃ R, w.heap.size + 1 = R := ⟨_, rfl⟩
        have hTR : T ≠ R := by omega
        have hgR : g3 ≠ R := by omega
        have hRT : R ≠ T := by omega
        have hRg : R ≠ g3 := by omega
        have HR := hid hR
        clear hR
        have dG : ∀ t, (ext w.drew t).cell? ⟨g3, s, none⟩ = some (.slice (some ⟨b, o, none⟩) nl ec) := fun t => (ext_cell' _ _ _ _ l3).trans f3
        have dZ : ∀ t, (ext w.drew t).frozen? ⟨g3, s, none⟩ = false := fun t => (ext_frozen' _ _ _ _ l3).trans z3
        try go_wp2_with (first
            | (go_at_call 83; (with_reducible refine (iPclFrom_x xs _ _ _ _ _ (HRe.out.of (by ((try simp only [ext_drew]); (try simp only [ext_ext]); repeat (first | exact Ext.refl _ | with_reducible apply Ext.add | with_reducible apply Ext.dr | apply Ext.alloc | apply Ext.ext | apply Ext.drew | refine Ext.trans ?_ (by assumption))))) (by have := HMX.out; omega)).mono ?_); rintro e w' ⟨p5, q5, B5', rfl, ⟨t5, rfl⟩, hr5, hb5⟩; have X5 := hid hr5; have Y5 := hid hb5; clear hr5 hb5)
            | (
              with_reducible refine wp_region_NR (R) (by kernel_rfl) (by decide +kernel) (by decide +kernel) rfl rfl ?_
              simp only [List.dropLast_cons_cons, List.dropLast_singleton]
              repeat (first
                | (refine mix_pure rfl ?_; (first | go_big_quiet_skip | (go_big_quiet_want; go_big_quiet_op; go_big_quiet_on)); refine wpQuiet_nil ?_)
                | (refine mix_skip (by rfl) ?_; (try simp only [Act.put, List.setIfInBounds_toArray, List.set_cons_zero, List.set_cons_succ]))
                | (refine mix_mk rfl (by rfl) (fun K hK => ?_); (first | (go_simp; first | (go_at_call 83; (with_reducible refine (iPclFrom_x xs _ _ _ _ _ (HRe.out.of (by ((try simp only [ext_drew]); (try simp only [ext_ext]); repeat (first | exact Ext.refl _ | with_reducible apply Ext.add | with_reducible apply Ext.dr | apply Ext.alloc | apply Ext.ext | apply Ext.drew | refine Ext.trans ?_ (by assumption))))) (by have := HMX.out; omega)).mono ?_); rintro e w' ⟨p5, q5, B5', rfl, ⟨t5, rfl⟩, hr5, hb5⟩; have X5 := hid hr5; have Y5 := hid hb5; clear hr5 hb5) | skip)); (show K _ _); refine hK _ _ (extR_of (by repeat (first | with_reducible exact Chg.refl _ _ | with_reducible apply Chg.drew | with_reducible apply Chg.drewl | with_reducible refine Chg.turn (by simp) | with_reducible refine Chg.both ?_ (by simp) | (with_reducible refine Chg.set ?_ (by simp) _) | with_reducible apply Chg.alloc | with_reducible apply Chg.ext | with_reducible refine Chg.trans ?_ (Hid.out (by assumption))))) ?_; clear hK K; (try simp only [Act.put, List.setIfInBounds_toArray, List.set_cons_zero, List.set_cons_succ])))
              refine mixN_nil (fun K hK => ?_)
              go_simp
              (show K _ _)
              refine hK _ _ ?_
              clear hK K
              (try simp only [Act.put, List.setIfInBounds_toArray, List.set_cons_zero, List.set_cons_succ])))
        try go_wp2_with (first
            | fail
            | (
              with_reducible refine wp_region_mix (by kernel_rfl) (by decide +kernel) ?_
              repeat (first
                | (refine mix_pure rfl ?_; (first | go_big_quiet_skip | (go_big_quiet_want; go_big_quiet_op; go_big_quiet_on)); refine wpQuiet_nil ?_)
                | (refine mix_skip (by rfl) ?_; (try simp only [Act.put, List.setIfInBounds_toArray, List.set_cons_zero, List.set_cons_succ]))
                | (refine mix_mk rfl (by rfl) (fun K hK => ?_); (first | (go_simp; first | skip)); (show K _ _); refine hK _ _ (show Ext _ _ from (by ((try simp only [ext_drew]); (try simp only [ext_ext]); repeat (first | exact Ext.refl _ | with_reducible apply Ext.add | with_reducible apply Ext.dr | apply Ext.alloc | apply Ext.ext | apply Ext.drew | refine Ext.trans ?_ (by assumption))))) ?_; clear hK K; (try simp only [Act.put, List.setIfInBounds_toArray, List.set_cons_zero, List.set_cons_succ])))
              refine mix_nil ?_)
            | (
              with_reducible refine wp_region_ext (by kernel_rfl) (by kernel_rfl) ?_
              repeat (first | go_big_quiet_skip | (go_big_quiet_want; go_big_quiet_op; first | go_big_quiet_on | (apply Exists.intro; refine ⟨fun _ => ?_, ?_⟩; (fail); (try rw [h1]); (try rw [h2]); (try rw [h3]); (try rw [h4]); (try rw [p1]); (try rw [p2]); (try rw [p3]); (try rw [p4]); (try rw [r1]); (try rw [r2]); (try rw [r3]); (try rw [r4]); (try rw [r5]); (try rw [r6]); (try rw [q3]); (try rw [q4]); (try rw [hp]); (try rw [hq]); go_big_quiet_on)))
              refine wpQuiet_nil ?_
              rintro _ ⟨tq, rfl⟩))
        go_ret
        obtain ⟨B2, hss, hb2⟩ := HU3.out ((ext w.drew t5).setCell ⟨g3, s, none⟩ (.slice p5 (pclFrom xs n).length q5)) B5' ⟨p5, (pclFrom xs n).length, q5⟩ (pclFrom xs n) (by repeat (first | with_reducible exact Chg.refl _ _ | with_reducible apply Chg.drew | with_reducible apply Chg.drewl | with_reducible refine Chg.turn (by simp) | with_reducible refine Chg.both ?_ (by simp) | (with_reducible refine Chg.set ?_ (by simp) _) | with_reducible apply Chg.alloc | with_reducible apply Chg.ext)) (by exact blk_set (blk_ext HB3.out)) (X5.out.chg (B' := [g3]) (by repeat (first | with_reducible exact Chg.refl _ _ | with_reducible apply Chg.drew | with_reducible apply Chg.drewl | with_reducible refine Chg.turn (by simp) | with_reducible refine Chg.both ?_ (by simp) | (with_reducible refine Chg.set ?_ (by simp) _) | with_reducible apply Chg.alloc | with_reducible apply Chg.ext)) (fun b9 hb9 => by have := Y5.out b9 hb9; simp; have h8 : w.drew.heap.size = w.heap.size := rfl; omega)) (.inr fun b9 hb9 => Y5.out b9 hb9)
        have hb3 : ∀ b9 ∈ B2, b9 ∈ B3 ∨ w.heap.size ≤ b9 := fun b9 hb9 => (hb2 b9 hb9).imp id (fun h9 => Y5.out b9 h9)
        refine ⟨B2, ret_bool (by rw [E.out]), ?_, Chg.mono (B := [g3]) (by repeat (first | with_reducible exact Chg.refl _ _ | with_reducible apply Chg.drew | with_reducible apply Chg.drewl | with_reducible refine Chg.turn (by simp) | with_reducible refine Chg.both ?_ (by simp) | (with_reducible refine Chg.set ?_ (by simp) _) | with_reducible apply Chg.alloc | with_reducible apply Chg.ext)) (by simpa using HG.out.1), hb3⟩
        rw [E.out]
        exact HX.out.setOuts (Chg.mono (B := [g3]) (by repeat (first | with_reducible exact Chg.refl _ _ | with_reducible apply Chg.drew | with_reducible apply Chg.drewl | with_reducible refine Chg.turn (by simp) | with_reducible refine Chg.both ?_ (by simp) | (with_reducible refine Chg.set ?_ (by simp) _) | with_reducible apply Chg.alloc | with_reducible apply Chg.ext)) (by simpa using HG.out.1)) (by rw [List.length_set]; exact hss) hb3
end Go.Proofs.Ytfmgjhlcedlgpaa
