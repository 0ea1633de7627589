/- The law's marks in a cell: put, and looked for. -/
import Derived.Test.YtdogknbkcididaaTCll
import Derived.Test.YtdogknbkcididaaSSm
namespace Go.Proofs.Ytdogknbkcididaa
open Go.RowKit
set_option linter.unusedSimpArgs false
set_option linter.unusedVariables false

theorem ownL_int_mk {w : World} {fs : List Sch} {vs : List Value} {ds : List Dat} {B : List Nat} {n : Int} (h : OwnL w fs vs ds B) : OwnL w (.int :: fs) (.int .i64 n :: vs) (.i n :: ds) B :=
  ownL_mk (s := .int) (v1 := [.int .i64 n]) (d1 := .i n) (B1 := []) (by unfold Own; exact ⟨⟨n, rfl, rfl⟩, rfl⟩) h
theorem ownL_sl_mk {w : World} {e : Sch} {fs : List Sch} {v : Value} {vs : List Value} {d : Dat} {ds : List Dat} {B1 B2 : List Nat} (h1 : Own w (.sl e) [v] d B1) (h2 : OwnL w fs vs ds B2) : OwnL w (.sl e :: fs) (v :: vs) (d :: ds) (B1 ++ B2) := ownL_mk h1 h2
def cllMarks (c : Cll) (q S : Int) : Cll where
  cell := c.cell
  wk := marksOf Wlk.mk' 5 q c.wk.length
  ground := c.ground
  outs := marks2 Pcl.mk' 8 (q + 5 * (c.wk.length : Int)) (c.outs.map List.length)
  next := marksOf imk 1 (q + 5 * (c.wk.length : Int) + S) c.next.length
  ins := marksOf imk 1 (q + 5 * (c.wk.length : Int) + S + (c.next.length : Int)) c.ins.length
theorem cllMarks_cells (c : Cll) (h : CllH) (q S : Int) : cllCells (cllMarks c q S) h = cllCells c h := by
  simp [cllCells, cllMarks, marksOf_length, marks2_length]

set_option maxRecDepth 100000 in
set_option maxHeartbeats 12000000 in
theorem markCll_c (c : Cll) (h : CllH) (lo hi : Nat) (q S : Int) (w : World) (hS : ((8 * (c.outs.map List.length).sum : Nat) : Int) = S) (ho : OwnR lo hi w sCll (cllCells c h) (cllDat c)) (h0 : 0 ≤ q) (h1 : q ≤ 800000000) (hb : BdC c) (hs : (c.outs.map List.length).sum ≤ 4194304) :
    Calls Try.prog 30 #[.agg #[.int .i64 c.cell, .slice h.a1 c.wk.length h.c1, .int .i64 c.ground, .slice h.a3 c.outs.length h.c3, .slice h.a4 c.next.length h.c4, .slice h.a5 c.ins.length h.c5], .int .i64 q] w fun e w' => e = .returned (.int .i64 (q + 5 * (c.wk.length : Int) + S + (c.next.length : Int) + (c.ins.length : Int))) ∧ OwnR lo hi w' sCll (cllCells (cllMarks c q S) h) (cllDat (cllMarks c q S)) ∧ ChgR lo hi w w' := by
  rw [cllMarks_cells]
  obtain ⟨hh, B, hn, hr, ho⟩ := ho
  have L := own_st (show Own w (.st [.int, .sl sWlk, .int, .sl (.sl sPcl), .sl .int, .sl .int]) [.int .i64 c.cell, .slice h.a1 c.wk.length h.c1, .int .i64 c.ground, .slice h.a3 c.outs.length h.c3, .slice h.a4 c.next.length h.c4, .slice h.a5 c.ins.length h.c5] (.s [.i c.cell, .l (c.wk.map Wlk.dat), .i c.ground, .l (c.outs.map (ldat Pcl.dat)), .l (c.next.map Dat.i), .l (c.ins.map Dat.i)]) B from ho)
  clear ho
  replace L := ownL_int L
  obtain ⟨B1, R1, rfl, O1, L⟩ := ownL_sl L
  replace L := ownL_int L
  obtain ⟨B3, R3, rfl, O3, L⟩ := ownL_sl L
  obtain ⟨B4, R4, rfl, O4, L⟩ := ownL_sl L
  obtain ⟨B5, R5, rfl, O5, L⟩ := ownL_sl L
  obtain rfl : R5 = [] := by unfold OwnL at L; exact L.2.2
  clear L
  have D1 : ∀ b ∈ B1, b < w.heap.size := fun b hb => Nat.lt_of_lt_of_le (hr b (by simp [hb])).2 hh
  have D3 : ∀ b ∈ B3, b < w.heap.size := fun b hb => Nat.lt_of_lt_of_le (hr b (by simp [hb])).2 hh
  have D4 : ∀ b ∈ B4, b < w.heap.size := fun b hb => Nat.lt_of_lt_of_le (hr b (by simp [hb])).2 hh
  have D5 : ∀ b ∈ B5, b < w.heap.size := fun b hb => Nat.lt_of_lt_of_le (hr b (by simp [hb])).2 hh
  have N1_3 : ∀ b ∈ B1, b ∉ B3 := fun b hb h2 => nodup_r hn b hb (by simp [h2])
  have N3_1 : ∀ b ∈ B3, b ∉ B1 := fun b hb h2 => N1_3 b h2 hb
  have N1_4 : ∀ b ∈ B1, b ∉ B4 := fun b hb h2 => nodup_r hn b hb (by simp [h2])
  have N4_1 : ∀ b ∈ B4, b ∉ B1 := fun b hb h2 => N1_4 b h2 hb
  have N1_5 : ∀ b ∈ B1, b ∉ B5 := fun b hb h2 => nodup_r hn b hb (by simp [h2])
  have N5_1 : ∀ b ∈ B5, b ∉ B1 := fun b hb h2 => N1_5 b h2 hb
  have N3_4 : ∀ b ∈ B3, b ∉ B4 := fun b hb h2 => nodup_r (nodup_t hn) b hb (by simp [h2])
  have N4_3 : ∀ b ∈ B4, b ∉ B3 := fun b hb h2 => N3_4 b h2 hb
  have N3_5 : ∀ b ∈ B3, b ∉ B5 := fun b hb h2 => nodup_r (nodup_t hn) b hb (by simp [h2])
  have N5_3 : ∀ b ∈ B5, b ∉ B3 := fun b hb h2 => N3_5 b h2 hb
  have N4_5 : ∀ b ∈ B4, b ∉ B5 := fun b hb h2 => nodup_r (nodup_t (nodup_t hn)) b hb (by simp [h2])
  have N5_4 : ∀ b ∈ B5, b ∉ B4 := fun b hb h2 => N4_5 b h2 hb
  have NDB : B3.Nodup := (List.nodup_append.1 (nodup_t hn)).1
  have HO1 := hid O1
  have HD1 := hid D1
  have HO3 := hid O3
  have HD3 := hid D3
  have HO4 := hid O4
  have HD4 := hid D4
  have HO5 := hid O5
  have HD5 := hid D5
  have HN1_3 := hid N1_3
  have HN1_4 := hid N1_4
  have HN1_5 := hid N1_5
  have HN3_1 := hid N3_1
  have HN3_4 := hid N3_4
  have HN3_5 := hid N3_5
  have HN4_1 := hid N4_1
  have HN4_3 := hid N4_3
  have HN4_5 := hid N4_5
  have HN5_1 := hid N5_1
  have HN5_3 := hid N5_3
  have HN5_4 := hid N5_4
  have HNB := hid NDB
  have HND := hid hn
  have HRR := hid hr
  have b1 := hb.b1
  have b3 := hb.b3
  have b4 := hb.b4
  have b5 := hb.b5
  have BO := hid hb.bo
  have HSS := hid hs
  have s0 : S ≤ 33554432 := by omega
  have s1 : 0 ≤ S := by omega
  have HSE := hid hS
  clear hS
  clear hb hs hn hr NDB O1 D1 O3 D3 O4 D4 O5 D5 N1_3 N1_4 N1_5 N3_1 N3_4 N3_5 N4_1 N4_3 N4_5 N5_1 N5_3 N5_4
  go_enter Try.func30, Try.ntmps30
  go_wp2_with (fail)
  refine (markWlkS_b c.wk h.a1 c.wk.length h.c1 B1 q _ (HO1.out.of (by ((try simp only [ext_drew]); (try simp only [ext_ext]); repeat (first | exact Ext.refl _ | with_reducible apply Ext.add | with_reducible apply Ext.dr | apply Ext.alloc | apply Ext.ext | apply Ext.drew | refine Ext.trans ?_ (by assumption)))) HD1.out) (by omega) (by omega) b1).mono ?_
  rintro e w1 ⟨rfl, m1, C1⟩
  have Z1 : w.heap.size ≤ w1.heap.size := Nat.le_trans (Ext.size (by ((try simp only [ext_drew]); (try simp only [ext_ext]); repeat (first | exact Ext.refl _ | with_reducible apply Ext.add | with_reducible apply Ext.dr | apply Ext.alloc | apply Ext.ext | apply Ext.drew | refine Ext.trans ?_ (by assumption))))) C1.size
  have P3_0 := hid (Own.chg (HO3.out.of (by ((try simp only [ext_drew]); (try simp only [ext_ext]); repeat (first | exact Ext.refl _ | with_reducible apply Ext.add | with_reducible apply Ext.dr | apply Ext.alloc | apply Ext.ext | apply Ext.drew | refine Ext.trans ?_ (by assumption)))) HD3.out) C1 (fun b hb => Nat.lt_of_lt_of_le (HD3.out b hb) (Ext.size (by ((try simp only [ext_drew]); (try simp only [ext_ext]); repeat (first | exact Ext.refl _ | with_reducible apply Ext.add | with_reducible apply Ext.dr | apply Ext.alloc | apply Ext.ext | apply Ext.drew | refine Ext.trans ?_ (by assumption)))))) HN3_1.out)
  have P4_0 := hid (Own.chg (HO4.out.of (by ((try simp only [ext_drew]); (try simp only [ext_ext]); repeat (first | exact Ext.refl _ | with_reducible apply Ext.add | with_reducible apply Ext.dr | apply Ext.alloc | apply Ext.ext | apply Ext.drew | refine Ext.trans ?_ (by assumption)))) HD4.out) C1 (fun b hb => Nat.lt_of_lt_of_le (HD4.out b hb) (Ext.size (by ((try simp only [ext_drew]); (try simp only [ext_ext]); repeat (first | exact Ext.refl _ | with_reducible apply Ext.add | with_reducible apply Ext.dr | apply Ext.alloc | apply Ext.ext | apply Ext.drew | refine Ext.trans ?_ (by assumption)))))) HN4_1.out)
  have P5_0 := hid (Own.chg (HO5.out.of (by ((try simp only [ext_drew]); (try simp only [ext_ext]); repeat (first | exact Ext.refl _ | with_reducible apply Ext.add | with_reducible apply Ext.dr | apply Ext.alloc | apply Ext.ext | apply Ext.drew | refine Ext.trans ?_ (by assumption)))) HD5.out) C1 (fun b hb => Nat.lt_of_lt_of_le (HD5.out b hb) (Ext.size (by ((try simp only [ext_drew]); (try simp only [ext_ext]); repeat (first | exact Ext.refl _ | with_reducible apply Ext.add | with_reducible apply Ext.dr | apply Ext.alloc | apply Ext.ext | apply Ext.drew | refine Ext.trans ?_ (by assumption)))))) HN5_1.out)
  have P1_0 := hid m1
  have g0_3 : w1.cell? ⟨w.heap.size, 3, none⟩ = some (.slice h.a3 c.outs.length h.c3) := (C1.cell (by simp [go_sem]) (fun h => Nat.lt_irrefl _ (HD1.out _ h)) 3).trans (by simp [go_sem])
  have g0_4 : w1.cell? ⟨w.heap.size, 4, none⟩ = some (.slice h.a4 c.next.length h.c4) := (C1.cell (by simp [go_sem]) (fun h => Nat.lt_irrefl _ (HD1.out _ h)) 4).trans (by simp [go_sem])
  have g0_5 : w1.cell? ⟨w.heap.size, 5, none⟩ = some (.slice h.a5 c.ins.length h.c5) := (C1.cell (by simp [go_sem]) (fun h => Nat.lt_irrefl _ (HD1.out _ h)) 5).trans (by simp [go_sem])
  have Y1 : w.heap.size + 1 ≤ w1.heap.size := Nat.le_trans (by simp [go_sem]) C1.size
  have HC1 := hid C1
  clear m1 C1
  go_wp2_with (fail)
  refine (markPclSS_s c.outs h.a3 c.outs.length h.c3 B3 (q + 5 * (c.wk.length : Int)) S _ HSE.out P3_0.out rfl HNB.out (fun b hb => Nat.lt_of_lt_of_le (HD3.out b hb) Z1) (by omega) (by omega) b3 BO.out HSS.out).mono ?_
  rintro e w3 ⟨rfl, m3, C3⟩
  have Z3 : w.heap.size ≤ w3.heap.size := Nat.le_trans Z1 C3.size
  have P1_1 := hid (Own.chg P1_0.out C3 (fun b hb => Nat.lt_of_lt_of_le (HD1.out b hb) Z1) HN1_3.out)
  have P4_1 := hid (Own.chg P4_0.out C3 (fun b hb => Nat.lt_of_lt_of_le (HD4.out b hb) Z1) HN4_3.out)
  have P5_1 := hid (Own.chg P5_0.out C3 (fun b hb => Nat.lt_of_lt_of_le (HD5.out b hb) Z1) HN5_3.out)
  have P3_1 := hid m3
  have g1_3 : w3.cell? ⟨w.heap.size, 3, none⟩ = some (.slice h.a3 c.outs.length h.c3) := (C3.cell (Nat.lt_of_succ_le Y1) (fun h => Nat.lt_irrefl _ (HD3.out _ h)) 3).trans (by simp [go_sem, g0_3])
  have g1_4 : w3.cell? ⟨w.heap.size, 4, none⟩ = some (.slice h.a4 c.next.length h.c4) := (C3.cell (Nat.lt_of_succ_le Y1) (fun h => Nat.lt_irrefl _ (HD3.out _ h)) 4).trans (by simp [go_sem, g0_4])
  have g1_5 : w3.cell? ⟨w.heap.size, 5, none⟩ = some (.slice h.a5 c.ins.length h.c5) := (C3.cell (Nat.lt_of_succ_le Y1) (fun h => Nat.lt_irrefl _ (HD3.out _ h)) 5).trans (by simp [go_sem, g0_5])
  have Y3 : w.heap.size + 1 ≤ w3.heap.size := Nat.le_trans Y1 C3.size
  have HC3 := hid C3
  clear m3 C3 Y1 g0_3 g0_4 g0_5
  go_wp2_with (fail)
  refine (markIntS_b c.next h.a4 c.next.length h.c4 B4 (q + 5 * (c.wk.length : Int) + S) _ P4_1.out (by omega) (by omega) b4).mono ?_
  rintro e w4 ⟨rfl, m4, C4⟩
  have Z4 : w.heap.size ≤ w4.heap.size := Nat.le_trans Z3 C4.size
  have P1_2 := hid (Own.chg P1_1.out C4 (fun b hb => Nat.lt_of_lt_of_le (HD1.out b hb) Z3) HN1_4.out)
  have P3_2 := hid (Own.chg P3_1.out C4 (fun b hb => Nat.lt_of_lt_of_le (HD3.out b hb) Z3) HN3_4.out)
  have P5_2 := hid (Own.chg P5_1.out C4 (fun b hb => Nat.lt_of_lt_of_le (HD5.out b hb) Z3) HN5_4.out)
  have P4_2 := hid m4
  have g2_3 : w4.cell? ⟨w.heap.size, 3, none⟩ = some (.slice h.a3 c.outs.length h.c3) := (C4.cell (Nat.lt_of_succ_le Y3) (fun h => Nat.lt_irrefl _ (HD4.out _ h)) 3).trans (by simp [go_sem, g1_3])
  have g2_4 : w4.cell? ⟨w.heap.size, 4, none⟩ = some (.slice h.a4 c.next.length h.c4) := (C4.cell (Nat.lt_of_succ_le Y3) (fun h => Nat.lt_irrefl _ (HD4.out _ h)) 4).trans (by simp [go_sem, g1_4])
  have g2_5 : w4.cell? ⟨w.heap.size, 5, none⟩ = some (.slice h.a5 c.ins.length h.c5) := (C4.cell (Nat.lt_of_succ_le Y3) (fun h => Nat.lt_irrefl _ (HD4.out _ h)) 5).trans (by simp [go_sem, g1_5])
  have Y4 : w.heap.size + 1 ≤ w4.heap.size := Nat.le_trans Y3 C4.size
  have HC4 := hid C4
  clear m4 C4 Y3 g1_3 g1_4 g1_5
  go_wp2_with (fail)
  refine (markIntS_b c.ins h.a5 c.ins.length h.c5 B5 (q + 5 * (c.wk.length : Int) + S + (c.next.length : Int)) _ P5_2.out (by omega) (by omega) b5).mono ?_
  rintro e w5 ⟨rfl, m5, C5⟩
  have Z5 : w.heap.size ≤ w5.heap.size := Nat.le_trans Z4 C5.size
  have P1_3 := hid (Own.chg P1_2.out C5 (fun b hb => Nat.lt_of_lt_of_le (HD1.out b hb) Z4) HN1_5.out)
  have P3_3 := hid (Own.chg P3_2.out C5 (fun b hb => Nat.lt_of_lt_of_le (HD3.out b hb) Z4) HN3_5.out)
  have P4_3 := hid (Own.chg P4_2.out C5 (fun b hb => Nat.lt_of_lt_of_le (HD4.out b hb) Z4) HN4_5.out)
  have P5_3 := hid m5
  have g3_3 : w5.cell? ⟨w.heap.size, 3, none⟩ = some (.slice h.a3 c.outs.length h.c3) := (C5.cell (Nat.lt_of_succ_le Y4) (fun h => Nat.lt_irrefl _ (HD5.out _ h)) 3).trans (by simp [go_sem, g2_3])
  have g3_4 : w5.cell? ⟨w.heap.size, 4, none⟩ = some (.slice h.a4 c.next.length h.c4) := (C5.cell (Nat.lt_of_succ_le Y4) (fun h => Nat.lt_irrefl _ (HD5.out _ h)) 4).trans (by simp [go_sem, g2_4])
  have g3_5 : w5.cell? ⟨w.heap.size, 5, none⟩ = some (.slice h.a5 c.ins.length h.c5) := (C5.cell (Nat.lt_of_succ_le Y4) (fun h => Nat.lt_irrefl _ (HD5.out _ h)) 5).trans (by simp [go_sem, g2_5])
  have Y5 : w.heap.size + 1 ≤ w5.heap.size := Nat.le_trans Y4 C5.size
  have HC5 := hid C5
  clear m5 C5 Y4 g2_3 g2_4 g2_5
  try go_wp2_with (first
      | fail
      | (
        with_reducible refine wp_region_mix (by kernel_rfl) (by decide +kernel) ?_
        repeat (first
          | (refine mix_pure rfl ?_; (first | go_big_quiet_skip | (go_big_quiet_want; go_big_quiet_op; go_big_quiet_on)); refine wpQuiet_nil ?_)
          | (refine mix_skip (by rfl) ?_; (try simp only [Act.put, List.setIfInBounds_toArray, List.set_cons_zero, List.set_cons_succ]))
          | (refine mix_mk rfl (by rfl) (fun K hK => ?_); (first | (go_simp; first | skip)); (show K _ _); refine hK _ _ (show Ext _ _ from (by ((try simp only [ext_drew]); (try simp only [ext_ext]); repeat (first | exact Ext.refl _ | with_reducible apply Ext.add | with_reducible apply Ext.dr | apply Ext.alloc | apply Ext.ext | apply Ext.drew | refine Ext.trans ?_ (by assumption))))) ?_; clear hK K; (try simp only [Act.put, List.setIfInBounds_toArray, List.set_cons_zero, List.set_cons_succ])))
        refine mix_nil ?_)
      | (
        with_reducible refine wp_region_ext (by kernel_rfl) (by kernel_rfl) ?_
        repeat (first | go_big_quiet_skip | (go_big_quiet_want; go_big_quiet_op; first | go_big_quiet_on | (apply Exists.intro; refine ⟨fun _ => ?_, ?_⟩; (fail); (try rw [h1]); (try rw [h2]); (try rw [h3]); (try rw [h4]); (try rw [p1]); (try rw [p2]); (try rw [p3]); (try rw [p4]); (try rw [r1]); (try rw [r2]); (try rw [r3]); (try rw [r4]); (try rw [r5]); (try rw [r6]); (try rw [q3]); (try rw [q4]); (try rw [hp]); (try rw [hq]); go_big_quiet_on)))
        refine wpQuiet_nil ?_
        rintro _ ⟨tq, rfl⟩))
  go_ret
  refine ⟨ret_int (by omega), ?_, ?_⟩
  · exact ⟨Nat.le_trans hh Z5, _, HND.out, HRR.out, own_st_mk (ownL_int_mk (ownL_sl_mk P1_3.out (ownL_int_mk (ownL_sl_mk P3_3.out (ownL_sl_mk P4_3.out (ownL_sl_mk P5_3.out ownL_nil))))))⟩
  · exact Chg.toR (Chg.trans (Chg.trans (Chg.trans (Chg.trans (Chg.of_ext (show Ext w _ from (by ((try simp only [ext_drew]); (try simp only [ext_ext]); repeat (first | exact Ext.refl _ | with_reducible apply Ext.add | with_reducible apply Ext.dr | apply Ext.alloc | apply Ext.ext | apply Ext.drew | refine Ext.trans ?_ (by assumption))))) _) (Chg.mono HC1.out (fun b hb => by simp [hb]))) (Chg.mono HC3.out (fun b hb => by simp [hb]))) (Chg.mono HC4.out (fun b hb => by simp [hb]))) (Chg.mono HC5.out (fun b hb => by simp [hb]))) HRR.out

set_option maxRecDepth 100000 in
set_option maxHeartbeats 2000000 in
theorem heldCll_c (c : Cll) (h : CllH) (q S : Int) (w : World) (hS : ((8 * (c.outs.map List.length).sum : Nat) : Int) = S) (hx : ReC w (cllMarks c q S) h) (h0 : 0 ≤ q) (h1 : q ≤ 800000000) (hb : BdC c) (hs : (c.outs.map List.length).sum ≤ 4194304) :
    Calls Try.prog 40 #[.agg #[.int .i64 c.cell, .slice h.a1 c.wk.length h.c1, .int .i64 c.ground, .slice h.a3 c.outs.length h.c3, .slice h.a4 c.next.length h.c4, .slice h.a5 c.ins.length h.c5], .int .i64 q] w fun e w' => e = .returned (.int .i64 (q + 5 * (c.wk.length : Int) + S + (c.next.length : Int) + (c.ins.length : Int))) ∧ Ext w w' := by
  have x1 := hx.r1
  have x3 := hx.r3
  have x4 := hx.r4
  have x5 := hx.r5
  simp only [cllMarks, marksOf_length, marks2_length, List.length_map] at x1 x3 x4 x5
  have H1 := hid x1
  have H3 := hid x3
  have H4 := hid x4
  have H5 := hid x5
  have b1 := hb.b1
  have b3 := hb.b3
  have b4 := hb.b4
  have b5 := hb.b5
  have BO := hid (show ∀ k ∈ c.outs.map List.length, k ≤ 1048576 from fun k hk => by
    obtain ⟨xs, hxs, rfl⟩ := List.mem_map.1 hk
    exact hb.bo xs hxs)
  have HSS := hid hs
  have s0 : S ≤ 33554432 := by omega
  have s1 : 0 ≤ S := by omega
  have HSE := hid hS
  clear hS
  clear hx x1 x3 x4 x5 hb hs
  go_enter Try.func40, Try.ntmps40
  try go_wp2_with (first
      | (go_at_call 66; (with_reducible refine (heldWlkS_c h.a1 c.wk.length h.c1 q _ (H1.out.of (by ((try simp only [ext_drew]); (try simp only [ext_ext]); repeat (first | exact Ext.refl _ | with_reducible apply Ext.add | with_reducible apply Ext.dr | apply Ext.alloc | apply Ext.ext | apply Ext.drew | refine Ext.trans ?_ (by assumption))))) h0 (by omega) b1).mono ?_); rintro e w' ⟨rfl, t, rfl⟩) | (go_at_call 67; (with_reducible refine (heldPclSS_s (c.outs.map List.length) h.a3 c.outs.length h.c3 (q + 5 * (c.wk.length : Int)) S _ HSE.out (H3.out.of (by ((try simp only [ext_drew]); (try simp only [ext_ext]); repeat (first | exact Ext.refl _ | with_reducible apply Ext.add | with_reducible apply Ext.dr | apply Ext.alloc | apply Ext.ext | apply Ext.drew | refine Ext.trans ?_ (by assumption))))) (by omega) (by omega) b3 BO.out HSS.out).mono ?_); rintro e w' ⟨rfl, t, rfl⟩) | (go_at_call 68; (with_reducible refine (heldIntS_c h.a4 c.next.length h.c4 (q + 5 * (c.wk.length : Int) + S) _ (H4.out.of (by ((try simp only [ext_drew]); (try simp only [ext_ext]); repeat (first | exact Ext.refl _ | with_reducible apply Ext.add | with_reducible apply Ext.dr | apply Ext.alloc | apply Ext.ext | apply Ext.drew | refine Ext.trans ?_ (by assumption))))) (by omega) (by omega) b4).mono ?_); rintro e w' ⟨rfl, t, rfl⟩) | (go_at_call 68; (with_reducible refine (heldIntS_c h.a5 c.ins.length h.c5 (q + 5 * (c.wk.length : Int) + S + (c.next.length : Int)) _ (H5.out.of (by ((try simp only [ext_drew]); (try simp only [ext_ext]); repeat (first | exact Ext.refl _ | with_reducible apply Ext.add | with_reducible apply Ext.dr | apply Ext.alloc | apply Ext.ext | apply Ext.drew | refine Ext.trans ?_ (by assumption))))) (by omega) (by omega) b5).mono ?_); rintro e w' ⟨rfl, t, rfl⟩)
      | (
        with_reducible refine wp_region_mix (by kernel_rfl) (by decide +kernel) ?_
        repeat (first
          | (refine mix_pure rfl ?_; (first | go_big_quiet_skip | (go_big_quiet_want; go_big_quiet_op; go_big_quiet_on)); refine wpQuiet_nil ?_)
          | (refine mix_skip (by rfl) ?_; (try simp only [Act.put, List.setIfInBounds_toArray, List.set_cons_zero, List.set_cons_succ]))
          | (refine mix_mk rfl (by rfl) (fun K hK => ?_); (first | (go_simp; first | (go_at_call 66; (with_reducible refine (heldWlkS_c h.a1 c.wk.length h.c1 q _ (H1.out.of (by ((try simp only [ext_drew]); (try simp only [ext_ext]); repeat (first | exact Ext.refl _ | with_reducible apply Ext.add | with_reducible apply Ext.dr | apply Ext.alloc | apply Ext.ext | apply Ext.drew | refine Ext.trans ?_ (by assumption))))) h0 (by omega) b1).mono ?_); rintro e w' ⟨rfl, t, rfl⟩) | (go_at_call 67; (with_reducible refine (heldPclSS_s (c.outs.map List.length) h.a3 c.outs.length h.c3 (q + 5 * (c.wk.length : Int)) S _ HSE.out (H3.out.of (by ((try simp only [ext_drew]); (try simp only [ext_ext]); repeat (first | exact Ext.refl _ | with_reducible apply Ext.add | with_reducible apply Ext.dr | apply Ext.alloc | apply Ext.ext | apply Ext.drew | refine Ext.trans ?_ (by assumption))))) (by omega) (by omega) b3 BO.out HSS.out).mono ?_); rintro e w' ⟨rfl, t, rfl⟩) | (go_at_call 68; (with_reducible refine (heldIntS_c h.a4 c.next.length h.c4 (q + 5 * (c.wk.length : Int) + S) _ (H4.out.of (by ((try simp only [ext_drew]); (try simp only [ext_ext]); repeat (first | exact Ext.refl _ | with_reducible apply Ext.add | with_reducible apply Ext.dr | apply Ext.alloc | apply Ext.ext | apply Ext.drew | refine Ext.trans ?_ (by assumption))))) (by omega) (by omega) b4).mono ?_); rintro e w' ⟨rfl, t, rfl⟩) | (go_at_call 68; (with_reducible refine (heldIntS_c h.a5 c.ins.length h.c5 (q + 5 * (c.wk.length : Int) + S + (c.next.length : Int)) _ (H5.out.of (by ((try simp only [ext_drew]); (try simp only [ext_ext]); repeat (first | exact Ext.refl _ | with_reducible apply Ext.add | with_reducible apply Ext.dr | apply Ext.alloc | apply Ext.ext | apply Ext.drew | refine Ext.trans ?_ (by assumption))))) (by omega) (by omega) b5).mono ?_); rintro e w' ⟨rfl, t, rfl⟩) | skip)); (show K _ _); refine hK _ _ (show Ext _ _ from (by ((try simp only [ext_drew]); (try simp only [ext_ext]); repeat (first | exact Ext.refl _ | with_reducible apply Ext.add | with_reducible apply Ext.dr | apply Ext.alloc | apply Ext.ext | apply Ext.drew | refine Ext.trans ?_ (by assumption))))) ?_; clear hK K; (try simp only [Act.put, List.setIfInBounds_toArray, List.set_cons_zero, List.set_cons_succ])))
        refine mix_nil ?_)
      | (
        with_reducible refine wp_region_ext (by kernel_rfl) (by kernel_rfl) ?_
        repeat (first | go_big_quiet_skip | (go_big_quiet_want; go_big_quiet_op; first | go_big_quiet_on | (apply Exists.intro; refine ⟨fun _ => ?_, ?_⟩; (fail); (try rw [h1]); (try rw [h2]); (try rw [h3]); (try rw [h4]); (try rw [p1]); (try rw [p2]); (try rw [p3]); (try rw [p4]); (try rw [r1]); (try rw [r2]); (try rw [r3]); (try rw [r4]); (try rw [r5]); (try rw [r6]); (try rw [q3]); (try rw [q4]); (try rw [hp]); (try rw [hq]); go_big_quiet_on)))
        refine wpQuiet_nil ?_
        rintro _ ⟨tq, rfl⟩))
  go_ret
  exact ⟨ret_int (by omega), (by ((try simp only [ext_drew]); (try simp only [ext_ext]); repeat (first | exact Ext.refl _ | with_reducible apply Ext.add | with_reducible apply Ext.dr | apply Ext.alloc | apply Ext.ext | apply Ext.drew | refine Ext.trans ?_ (by assumption))))⟩
end Go.Proofs.Ytdogknbkcididaa
