/- The law's marks in the one world: put, and looked for. -/
import Derived.Test.YtcfbfpgcfnpdgaaTOne
import Derived.Test.YtcfbfpgcfnpdgaaTCllM
namespace Go.Proofs.Ytcfbfpgcfnpdgaa
open Go.RowKit
set_option linter.unusedSimpArgs false
set_option linter.unusedVariables false

theorem ownL_mp {w : World} {m : Mp} {fs : List Sch} {vs : List Value} {ds : List Dat} {B : List Nat} (h : OwnL w (sMp :: fs) (.int .i64 m.c :: .int .i64 m.w :: vs) (m.dat :: ds) B) : OwnL w fs vs ds B := by
  obtain ⟨v1, v2, d1, d2, B1, B2, e1, e2, e3, h4, h5⟩ := ownL_cons h
  simp only [List.cons.injEq] at e2
  obtain ⟨rfl, rfl⟩ := e2
  obtain rfl := own_plain sMp v1 m.dat B1 rfl h4
  obtain ⟨x, rfl, hx⟩ := rd_Mp (Own.rd (hi := w.heap.size) sMp v1 m.dat [] (fun b hb => by simp at hb) h4)
  simp only [Mp.cells, List.cons_append, List.nil_append, List.cons.injEq] at e1
  obtain ⟨_, _, rfl⟩ := e1
  rw [e3]; exact h5
theorem ownL_mp_mk {w : World} {m : Mp} {fs : List Sch} {vs : List Value} {ds : List Dat} {B : List Nat} (h : OwnL w fs vs ds B) : OwnL w (sMp :: fs) (.int .i64 m.c :: .int .i64 m.w :: vs) (m.dat :: ds) B :=
  ownL_mk (s := sMp) (v1 := m.cells) (d1 := m.dat) (B1 := []) (own_Mp_mk w m) h
def oneMarks (o : One) (q : Int) : One where
  map := o.map
  wk := marksOf Onw.mk' 6 q o.wk.length
  ground := marksOf imk 1 (q + 6 * (o.wk.length : Int)) o.ground.length
  air := marks2 imk 1 (q + 6 * (o.wk.length : Int) + (o.ground.length : Int)) (o.air.map List.length)
theorem oneMarks_cells (o : One) (h : OneH) (q : Int) : oneCells (oneMarks o q) h = oneCells o h := by
  simp [oneCells, oneMarks, marksOf_length, marks2_length]

set_option maxRecDepth 100000 in
set_option maxHeartbeats 4000000 in
theorem markOne_c (o : One) (h : OneH) (lo hi : Nat) (q S : Int) (w : World) (hS : ((1 * (o.air.map List.length).sum : Nat) : Int) = S) (ho : OwnR lo hi w sOne (oneCells o h) (oneDat o)) (h0 : 0 ≤ q) (h1 : q ≤ 800000000) (hb : BdO o) (hs : (o.air.map List.length).sum ≤ 4194304) :
    Calls Try.prog 20 #[.agg #[.int .i64 o.map.c, .int .i64 o.map.w, .slice h.a1 o.wk.length h.c1, .slice h.a2 o.ground.length h.c2, .slice h.a3 o.air.length h.c3], .int .i64 q] w fun e w' => e = .returned (.int .i64 (q + 6 * (o.wk.length : Int) + (o.ground.length : Int) + S)) ∧ OwnR lo hi w' sOne (oneCells (oneMarks o q) h) (oneDat (oneMarks o q)) ∧ ChgR lo hi w w' := by
  rw [oneMarks_cells]
  obtain ⟨hh, B, hn, hr, ho⟩ := ho
  have L := own_st (show Own w (.st [sMp, .sl sOnw, .sl .int, .sl (.sl .int)]) [.int .i64 o.map.c, .int .i64 o.map.w, .slice h.a1 o.wk.length h.c1, .slice h.a2 o.ground.length h.c2, .slice h.a3 o.air.length h.c3] (.s [o.map.dat, .l (o.wk.map Onw.dat), .l (o.ground.map Dat.i), .l (o.air.map (ldat Dat.i))]) B from ho)
  clear ho
  replace L := ownL_mp L
  obtain ⟨B2, R2, rfl, O2, L⟩ := ownL_sl L
  obtain ⟨B3, R3, rfl, O3, L⟩ := ownL_sl L
  obtain ⟨B4, R4, rfl, O4, L⟩ := ownL_sl L
  obtain rfl : R4 = [] := by unfold OwnL at L; exact L.2.2
  clear L
  have D2 : ∀ b ∈ B2, b < w.heap.size := fun b hb => Nat.lt_of_lt_of_le (hr b (by simp [hb])).2 hh
  have D3 : ∀ b ∈ B3, b < w.heap.size := fun b hb => Nat.lt_of_lt_of_le (hr b (by simp [hb])).2 hh
  have D4 : ∀ b ∈ B4, b < w.heap.size := fun b hb => Nat.lt_of_lt_of_le (hr b (by simp [hb])).2 hh
  have N2_3 : ∀ b ∈ B2, b ∉ B3 := fun b hb h2 => nodup_r hn b hb (by simp [h2])
  have N3_2 : ∀ b ∈ B3, b ∉ B2 := fun b hb h2 => N2_3 b h2 hb
  have N2_4 : ∀ b ∈ B2, b ∉ B4 := fun b hb h2 => nodup_r hn b hb (by simp [h2])
  have N4_2 : ∀ b ∈ B4, b ∉ B2 := fun b hb h2 => N2_4 b h2 hb
  have N3_4 : ∀ b ∈ B3, b ∉ B4 := fun b hb h2 => nodup_r (nodup_t hn) b hb (by simp [h2])
  have N4_3 : ∀ b ∈ B4, b ∉ B3 := fun b hb h2 => N3_4 b h2 hb
  have NDB : B4.Nodup := (List.nodup_append.1 (nodup_t (nodup_t hn))).1
  have HO2 := hid O2
  have HD2 := hid D2
  have HO3 := hid O3
  have HD3 := hid D3
  have HO4 := hid O4
  have HD4 := hid D4
  have HN2_3 := hid N2_3
  have HN2_4 := hid N2_4
  have HN3_2 := hid N3_2
  have HN3_4 := hid N3_4
  have HN4_2 := hid N4_2
  have HN4_3 := hid N4_3
  have HNB := hid NDB
  have HND := hid hn
  have HRR := hid hr
  have b2 := hb.b1
  have b3 := hb.b2
  have b4 := hb.b3
  have BO := hid hb.ba
  have HSS := hid hs
  have s0 : S ≤ 33554432 := by omega
  have s1 : 0 ≤ S := by omega
  have HSE := hid hS
  clear hS
  clear hb hs hn hr NDB O2 D2 O3 D3 O4 D4 N2_3 N2_4 N3_2 N3_4 N4_2 N4_3
  go_enter Try.func20, Try.ntmps20
  go_wp2_with (fail)
  refine (markOnwS_b o.wk h.a1 o.wk.length h.c1 B2 q _ (HO2.out.of (by ((try simp only [ext_drew]); (try simp only [ext_ext]); repeat (first | exact Ext.refl _ | with_reducible apply Ext.add | with_reducible apply Ext.dr | apply Ext.alloc | apply Ext.ext | apply Ext.drew | refine Ext.trans ?_ (by assumption)))) HD2.out) (by omega) (by omega) b2).mono ?_
  rintro e w2 ⟨rfl, m2, C2⟩
  have Z2 : w.heap.size ≤ w2.heap.size := Nat.le_trans (Ext.size (by ((try simp only [ext_drew]); (try simp only [ext_ext]); repeat (first | exact Ext.refl _ | with_reducible apply Ext.add | with_reducible apply Ext.dr | apply Ext.alloc | apply Ext.ext | apply Ext.drew | refine Ext.trans ?_ (by assumption))))) C2.size
  have P3_0 := hid (Own.chg (HO3.out.of (by ((try simp only [ext_drew]); (try simp only [ext_ext]); repeat (first | exact Ext.refl _ | with_reducible apply Ext.add | with_reducible apply Ext.dr | apply Ext.alloc | apply Ext.ext | apply Ext.drew | refine Ext.trans ?_ (by assumption)))) HD3.out) C2 (fun b hb => Nat.lt_of_lt_of_le (HD3.out b hb) (Ext.size (by ((try simp only [ext_drew]); (try simp only [ext_ext]); repeat (first | exact Ext.refl _ | with_reducible apply Ext.add | with_reducible apply Ext.dr | apply Ext.alloc | apply Ext.ext | apply Ext.drew | refine Ext.trans ?_ (by assumption)))))) HN3_2.out)
  have P4_0 := hid (Own.chg (HO4.out.of (by ((try simp only [ext_drew]); (try simp only [ext_ext]); repeat (first | exact Ext.refl _ | with_reducible apply Ext.add | with_reducible apply Ext.dr | apply Ext.alloc | apply Ext.ext | apply Ext.drew | refine Ext.trans ?_ (by assumption)))) HD4.out) C2 (fun b hb => Nat.lt_of_lt_of_le (HD4.out b hb) (Ext.size (by ((try simp only [ext_drew]); (try simp only [ext_ext]); repeat (first | exact Ext.refl _ | with_reducible apply Ext.add | with_reducible apply Ext.dr | apply Ext.alloc | apply Ext.ext | apply Ext.drew | refine Ext.trans ?_ (by assumption)))))) HN4_2.out)
  have P2_0 := hid m2
  have g0_3 : w2.cell? ⟨w.heap.size, 3, none⟩ = some (.slice h.a2 o.ground.length h.c2) := (C2.cell (by simp [go_sem]) (fun h => Nat.lt_irrefl _ (HD2.out _ h)) 3).trans (by simp [go_sem])
  have g0_4 : w2.cell? ⟨w.heap.size, 4, none⟩ = some (.slice h.a3 o.air.length h.c3) := (C2.cell (by simp [go_sem]) (fun h => Nat.lt_irrefl _ (HD2.out _ h)) 4).trans (by simp [go_sem])
  have Y2 : w.heap.size + 1 ≤ w2.heap.size := Nat.le_trans (by simp [go_sem]) C2.size
  have HC2 := hid C2
  clear m2 C2
  go_wp2_with (fail)
  refine (markIntS_b o.ground h.a2 o.ground.length h.c2 B3 (q + 6 * (o.wk.length : Int)) _ P3_0.out (by omega) (by omega) b3).mono ?_
  rintro e w3 ⟨rfl, m3, C3⟩
  have Z3 : w.heap.size ≤ w3.heap.size := Nat.le_trans Z2 C3.size
  have P2_1 := hid (Own.chg P2_0.out C3 (fun b hb => Nat.lt_of_lt_of_le (HD2.out b hb) Z2) HN2_3.out)
  have P4_1 := hid (Own.chg P4_0.out C3 (fun b hb => Nat.lt_of_lt_of_le (HD4.out b hb) Z2) HN4_3.out)
  have P3_1 := hid m3
  have g1_3 : w3.cell? ⟨w.heap.size, 3, none⟩ = some (.slice h.a2 o.ground.length h.c2) := (C3.cell (Nat.lt_of_succ_le Y2) (fun h => Nat.lt_irrefl _ (HD3.out _ h)) 3).trans (by simp [go_sem, g0_3])
  have g1_4 : w3.cell? ⟨w.heap.size, 4, none⟩ = some (.slice h.a3 o.air.length h.c3) := (C3.cell (Nat.lt_of_succ_le Y2) (fun h => Nat.lt_irrefl _ (HD3.out _ h)) 4).trans (by simp [go_sem, g0_4])
  have Y3 : w.heap.size + 1 ≤ w3.heap.size := Nat.le_trans Y2 C3.size
  have HC3 := hid C3
  clear m3 C3 Y2 g0_3 g0_4
  go_wp2_with (fail)
  refine (markIntSS_s o.air h.a3 o.air.length h.c3 B4 (q + 6 * (o.wk.length : Int) + (o.ground.length : Int)) S _ HSE.out P4_1.out rfl HNB.out (fun b hb => Nat.lt_of_lt_of_le (HD4.out b hb) Z3) (by omega) (by omega) b4 BO.out HSS.out).mono ?_
  rintro e w4 ⟨rfl, m4, C4⟩
  have Z4 : w.heap.size ≤ w4.heap.size := Nat.le_trans Z3 C4.size
  have P2_2 := hid (Own.chg P2_1.out C4 (fun b hb => Nat.lt_of_lt_of_le (HD2.out b hb) Z3) HN2_4.out)
  have P3_2 := hid (Own.chg P3_1.out C4 (fun b hb => Nat.lt_of_lt_of_le (HD3.out b hb) Z3) HN3_4.out)
  have P4_2 := hid m4
  have g2_3 : w4.cell? ⟨w.heap.size, 3, none⟩ = some (.slice h.a2 o.ground.length h.c2) := (C4.cell (Nat.lt_of_succ_le Y3) (fun h => Nat.lt_irrefl _ (HD4.out _ h)) 3).trans (by simp [go_sem, g1_3])
  have g2_4 : w4.cell? ⟨w.heap.size, 4, none⟩ = some (.slice h.a3 o.air.length h.c3) := (C4.cell (Nat.lt_of_succ_le Y3) (fun h => Nat.lt_irrefl _ (HD4.out _ h)) 4).trans (by simp [go_sem, g1_4])
  have Y4 : w.heap.size + 1 ≤ w4.heap.size := Nat.le_trans Y3 C4.size
  have HC4 := hid C4
  clear m4 C4 Y3 g1_3 g1_4
  try go_wp2_with (first
      | fail
      | (
        with_reducible refine wp_region_mix (by kernel_rfl) (by decide +kernel) ?_
        repeat (first
          | (refine mix_pure rfl ?_; (first | go_big_quiet_skip | (go_big_quiet_want; go_big_quiet_op; go_big_quiet_on)); refine wpQuiet_nil ?_)
          | (refine mix_skip (by rfl) ?_; (try simp only [Act.put, List.setIfInBounds_toArray, List.set_cons_zero, List.set_cons_succ]))
          | (refine mix_mk rfl (by rfl) (fun K hK => ?_); (first | (go_simp; first | skip)); (show K _ _); refine hK _ _ (show Ext _ _ from (by ((try simp only [ext_drew]); (try simp only [ext_ext]); repeat (first | exact Ext.refl _ | with_reducible apply Ext.add | with_reducible apply Ext.dr | apply Ext.alloc | apply Ext.ext | apply Ext.drew | refine Ext.trans ?_ (by assumption))))) ?_; clear hK K; (try simp only [Act.put, List.setIfInBounds_toArray, List.set_cons_zero, List.set_cons_succ])))
        refine mix_nil ?_)
      | (
        with_reducible refine wp_region_ext (by kernel_rfl) (by kernel_rfl) ?_
        repeat (first | go_big_quiet_skip | (go_big_quiet_want; go_big_quiet_op; first | go_big_quiet_on | (apply Exists.intro; refine ⟨fun _ => ?_, ?_⟩; (fail); (try rw [h1]); (try rw [h2]); (try rw [h3]); (try rw [h4]); (try rw [p1]); (try rw [p2]); (try rw [p3]); (try rw [p4]); (try rw [r1]); (try rw [r2]); (try rw [r3]); (try rw [r4]); (try rw [r5]); (try rw [r6]); (try rw [q3]); (try rw [q4]); (try rw [hp]); (try rw [hq]); go_big_quiet_on)))
        refine wpQuiet_nil ?_
        rintro _ ⟨tq, rfl⟩))
  go_ret
  refine ⟨ret_int (by omega), ?_, ?_⟩
  · exact ⟨Nat.le_trans hh Z4, _, HND.out, HRR.out, own_st_mk (ownL_mp_mk (ownL_sl_mk P2_2.out (ownL_sl_mk P3_2.out (ownL_sl_mk P4_2.out ownL_nil))))⟩
  · exact Chg.toR (Chg.trans (Chg.trans (Chg.trans (Chg.of_ext (show Ext w _ from (by ((try simp only [ext_drew]); (try simp only [ext_ext]); repeat (first | exact Ext.refl _ | with_reducible apply Ext.add | with_reducible apply Ext.dr | apply Ext.alloc | apply Ext.ext | apply Ext.drew | refine Ext.trans ?_ (by assumption))))) _) (Chg.mono HC2.out (fun b hb => by simp [hb]))) (Chg.mono HC3.out (fun b hb => by simp [hb]))) (Chg.mono HC4.out (fun b hb => by simp [hb]))) HRR.out

set_option maxRecDepth 100000 in
set_option maxHeartbeats 2000000 in
theorem heldOne_c (o : One) (h : OneH) (q S : Int) (w : World) (hS : ((1 * (o.air.map List.length).sum : Nat) : Int) = S) (hx : ReO w (oneMarks o q) h) (h0 : 0 ≤ q) (h1 : q ≤ 800000000) (hb : BdO o) (hs : (o.air.map List.length).sum ≤ 4194304) :
    Calls Try.prog 21 #[.agg #[.int .i64 o.map.c, .int .i64 o.map.w, .slice h.a1 o.wk.length h.c1, .slice h.a2 o.ground.length h.c2, .slice h.a3 o.air.length h.c3], .int .i64 q] w fun e w' => e = .returned (.int .i64 (q + 6 * (o.wk.length : Int) + (o.ground.length : Int) + S)) ∧ Ext w w' := by
  have x1 := hx.r1
  have x2 := hx.r2
  have x3 := hx.r3
  simp only [oneMarks, marksOf_length, marks2_length, List.length_map] at x1 x2 x3
  have H1 := hid x1
  have H2 := hid x2
  have H3 := hid x3
  have b1 := hb.b1
  have b2 := hb.b2
  have b3 := hb.b3
  have BO := hid (show ∀ k ∈ o.air.map List.length, k ≤ 1048576 from fun k hk => by
    obtain ⟨xs, hxs, rfl⟩ := List.mem_map.1 hk
    exact hb.ba xs hxs)
  have HSS := hid hs
  have s0 : S ≤ 33554432 := by omega
  have s1 : 0 ≤ S := by omega
  have HSE := hid hS
  clear hS hx x1 x2 x3 hb hs
  go_enter Try.func21, Try.ntmps21
  try go_wp2_with (first
      | (go_at_call 51; (with_reducible refine (heldOnwS_c h.a1 o.wk.length h.c1 q _ (H1.out.of (by ((try simp only [ext_drew]); (try simp only [ext_ext]); repeat (first | exact Ext.refl _ | with_reducible apply Ext.add | with_reducible apply Ext.dr | apply Ext.alloc | apply Ext.ext | apply Ext.drew | refine Ext.trans ?_ (by assumption))))) h0 (by omega) b1).mono ?_); rintro e w' ⟨rfl, t, rfl⟩) | (go_at_call 36; (with_reducible refine (heldIntS_c h.a2 o.ground.length h.c2 (q + 6 * (o.wk.length : Int)) _ (H2.out.of (by ((try simp only [ext_drew]); (try simp only [ext_ext]); repeat (first | exact Ext.refl _ | with_reducible apply Ext.add | with_reducible apply Ext.dr | apply Ext.alloc | apply Ext.ext | apply Ext.drew | refine Ext.trans ?_ (by assumption))))) (by omega) (by omega) b2).mono ?_); rintro e w' ⟨rfl, t, rfl⟩) | (go_at_call 52; (with_reducible refine (heldIntSS_s (o.air.map List.length) h.a3 o.air.length h.c3 (q + 6 * (o.wk.length : Int) + (o.ground.length : Int)) S _ HSE.out (H3.out.of (by ((try simp only [ext_drew]); (try simp only [ext_ext]); repeat (first | exact Ext.refl _ | with_reducible apply Ext.add | with_reducible apply Ext.dr | apply Ext.alloc | apply Ext.ext | apply Ext.drew | refine Ext.trans ?_ (by assumption))))) (by omega) (by omega) b3 BO.out HSS.out).mono ?_); rintro e w' ⟨rfl, t, rfl⟩)
      | (
        with_reducible refine wp_region_mix (by kernel_rfl) (by decide +kernel) ?_
        repeat (first
          | (refine mix_pure rfl ?_; (first | go_big_quiet_skip | (go_big_quiet_want; go_big_quiet_op; go_big_quiet_on)); refine wpQuiet_nil ?_)
          | (refine mix_skip (by rfl) ?_; (try simp only [Act.put, List.setIfInBounds_toArray, List.set_cons_zero, List.set_cons_succ]))
          | (refine mix_mk rfl (by rfl) (fun K hK => ?_); (first | (go_simp; first | (go_at_call 51; (with_reducible refine (heldOnwS_c h.a1 o.wk.length h.c1 q _ (H1.out.of (by ((try simp only [ext_drew]); (try simp only [ext_ext]); repeat (first | exact Ext.refl _ | with_reducible apply Ext.add | with_reducible apply Ext.dr | apply Ext.alloc | apply Ext.ext | apply Ext.drew | refine Ext.trans ?_ (by assumption))))) h0 (by omega) b1).mono ?_); rintro e w' ⟨rfl, t, rfl⟩) | (go_at_call 36; (with_reducible refine (heldIntS_c h.a2 o.ground.length h.c2 (q + 6 * (o.wk.length : Int)) _ (H2.out.of (by ((try simp only [ext_drew]); (try simp only [ext_ext]); repeat (first | exact Ext.refl _ | with_reducible apply Ext.add | with_reducible apply Ext.dr | apply Ext.alloc | apply Ext.ext | apply Ext.drew | refine Ext.trans ?_ (by assumption))))) (by omega) (by omega) b2).mono ?_); rintro e w' ⟨rfl, t, rfl⟩) | (go_at_call 52; (with_reducible refine (heldIntSS_s (o.air.map List.length) h.a3 o.air.length h.c3 (q + 6 * (o.wk.length : Int) + (o.ground.length : Int)) S _ HSE.out (H3.out.of (by ((try simp only [ext_drew]); (try simp only [ext_ext]); repeat (first | exact Ext.refl _ | with_reducible apply Ext.add | with_reducible apply Ext.dr | apply Ext.alloc | apply Ext.ext | apply Ext.drew | refine Ext.trans ?_ (by assumption))))) (by omega) (by omega) b3 BO.out HSS.out).mono ?_); rintro e w' ⟨rfl, t, rfl⟩) | skip)); (show K _ _); refine hK _ _ (show Ext _ _ from (by ((try simp only [ext_drew]); (try simp only [ext_ext]); repeat (first | exact Ext.refl _ | with_reducible apply Ext.add | with_reducible apply Ext.dr | apply Ext.alloc | apply Ext.ext | apply Ext.drew | refine Ext.trans ?_ (by assumption))))) ?_; clear hK K; (try simp only [Act.put, List.setIfInBounds_toArray, List.set_cons_zero, List.set_cons_succ])))
        refine mix_nil ?_)
      | (
        with_reducible refine wp_region_ext (by kernel_rfl) (by kernel_rfl) ?_
        repeat (first | go_big_quiet_skip | (go_big_quiet_want; go_big_quiet_op; first | go_big_quiet_on | (apply Exists.intro; refine ⟨fun _ => ?_, ?_⟩; (fail); (try rw [h1]); (try rw [h2]); (try rw [h3]); (try rw [h4]); (try rw [p1]); (try rw [p2]); (try rw [p3]); (try rw [p4]); (try rw [r1]); (try rw [r2]); (try rw [r3]); (try rw [r4]); (try rw [r5]); (try rw [r6]); (try rw [q3]); (try rw [q4]); (try rw [hp]); (try rw [hq]); go_big_quiet_on)))
        refine wpQuiet_nil ?_
        rintro _ ⟨tq, rfl⟩))
  go_ret
  exact ⟨ret_int (by omega), (by ((try simp only [ext_drew]); (try simp only [ext_ext]); repeat (first | exact Ext.refl _ | with_reducible apply Ext.add | with_reducible apply Ext.dr | apply Ext.alloc | apply Ext.ext | apply Ext.drew | refine Ext.trans ?_ (by assumption))))⟩
end Go.Proofs.Ytcfbfpgcfnpdgaa
