/- Ghosts and records that are ok. -/
import Derived.Test.YtejplnlnfhcimaaTo
namespace Go.Proofs.Ytejplnlnfhcimaa
open Go.RowKit

def gstOk (m : Mp) (g : Gst) : Bool := inB g.count 0 250 && wlkOk m g.wk && (plcCell m g.wk.at_ == g.src) && (plcEdge m g.wk.at_ 0 || plcEdge m g.wk.at_ 1)
def ordZero (o : Ord) : Bool := (o.who == 0) && (o.seq == 0) && (o.kind == 0) && (o.to_ == 0) && (o.n == 0)
def pclZero (p : Pcl) : Bool := (p.n == 0) && (p.kind == 0) && wlkZero p.wk && (p.coins == 0)
def gstZero (g : Gst) : Bool := (g.src == 0) && (g.count == 0) && wlkZero g.wk
def recFormed (r : Rec) : Bool :=
  if r.kind = 1 then ordOk r.ord && (r.side == 0) && pclZero r.pcl && (r.n == 0)
  else if r.kind = 2 then inB r.side 0 1 && ordZero r.ord && (r.n == 0)
  else if r.kind = 3 then inB r.side 0 1 && inB r.n 1 5000 && ordZero r.ord && pclZero r.pcl
  else false
def logOk (m : Mp) (r : Rec) : Bool := plcOk m && recFormed r && ((r.kind != 2) || pclOk m r.pcl)

theorem iGstOk_c (m : Mp) (g : Gst) (w : World) : Calls Try.prog 35 #[.agg #[.int .i64 m.c, .int .i64 m.w], .agg #[.int .i64 g.src, .int .i64 g.count, .int .i64 g.wk.id, .int .i64 g.wk.at_, .int .i64 g.wk.coins, .int .i64 g.wk.seq, .int .i64 g.wk.last]] w fun e w' => e = .returned (.bool (gstOk m g)) ∧ Ext w w' := by
  cases h1 : inB g.count 0 250 with
  | false =>
    have E := hid (show gstOk m g = false by simp [gstOk, h1])
    go_enter Try.func35, Try.ntmps35
    go_wp2
    refine wp_region_ext (by kernel_rfl) (by kernel_rfl) ?_
    repeat (first | go_big_quiet_skip | (go_big_quiet_want; go_big_quiet_op; first | go_big_quiet_on | (apply Exists.intro; refine ⟨fun _ => ?_, ?_⟩; ((first | (go_at_call 48; first | exact quiet_same (in_c _ _ _ _) | exact quiet_same2 (in_c _ _ _ _)) | (go_at_call 24; first | exact quiet_call (iWlkOk_c _ _ _) | exact quiet_call2 (iWlkOk_c _ _ _)) | (go_at_call 19; first | exact quiet_call (iPlcCell_c _ _ _) | exact quiet_call2 (iPlcCell_c _ _ _)) | (go_at_call 29; first | exact quiet_call (iPlcEdge_c _ _ _ _) | exact quiet_call2 (iPlcEdge_c _ _ _ _)))); (try rw [h1]); go_big_quiet_on)))
    refine wpQuiet_nil ?_
    rintro _ ⟨tq, rfl⟩
    go_wp2
    go_ret
    exact ⟨ret_bool (by rw [E.out]), (by repeat (first | exact Ext.refl _ | apply Ext.alloc | apply Ext.ext | apply Ext.drew))⟩
  | true =>
    cases h2 : wlkOk m g.wk with
    | false =>
      have E := hid (show gstOk m g = false by simp [gstOk, h2])
      go_enter Try.func35, Try.ntmps35
      go_wp2
      refine wp_region_ext (by kernel_rfl) (by kernel_rfl) ?_
      repeat (first | go_big_quiet_skip | (go_big_quiet_want; go_big_quiet_op; first | go_big_quiet_on | (apply Exists.intro; refine ⟨fun _ => ?_, ?_⟩; ((first | (go_at_call 48; first | exact quiet_same (in_c _ _ _ _) | exact quiet_same2 (in_c _ _ _ _)) | (go_at_call 24; first | exact quiet_call (iWlkOk_c _ _ _) | exact quiet_call2 (iWlkOk_c _ _ _)) | (go_at_call 19; first | exact quiet_call (iPlcCell_c _ _ _) | exact quiet_call2 (iPlcCell_c _ _ _)) | (go_at_call 29; first | exact quiet_call (iPlcEdge_c _ _ _ _) | exact quiet_call2 (iPlcEdge_c _ _ _ _)))); (try rw [h1]); (try rw [h2]); go_big_quiet_on)))
      refine wpQuiet_nil ?_
      rintro _ ⟨tq, rfl⟩
      go_wp2
      go_ret
      exact ⟨ret_bool (by rw [E.out]), (by repeat (first | exact Ext.refl _ | apply Ext.alloc | apply Ext.ext | apply Ext.drew))⟩
    | true =>
      by_cases h3 : plcCell m g.wk.at_ = g.src
      · have q3 := beq_t h3
        cases h4 : plcEdge m g.wk.at_ 0 with
        | true =>
          have E := hid (show gstOk m g = true by simp [gstOk, h1, h2, h3, h4])
          clear h3
          go_enter Try.func35, Try.ntmps35
          go_wp2
          refine wp_region_ext (by kernel_rfl) (by kernel_rfl) ?_
          repeat (first | go_big_quiet_skip | (go_big_quiet_want; go_big_quiet_op; first | go_big_quiet_on | (apply Exists.intro; refine ⟨fun _ => ?_, ?_⟩; ((first | (go_at_call 48; first | exact quiet_same (in_c _ _ _ _) | exact quiet_same2 (in_c _ _ _ _)) | (go_at_call 24; first | exact quiet_call (iWlkOk_c _ _ _) | exact quiet_call2 (iWlkOk_c _ _ _)) | (go_at_call 19; first | exact quiet_call (iPlcCell_c _ _ _) | exact quiet_call2 (iPlcCell_c _ _ _)) | (go_at_call 29; first | exact quiet_call (iPlcEdge_c _ _ _ _) | exact quiet_call2 (iPlcEdge_c _ _ _ _)))); (try rw [h1]); (try rw [h2]); (try rw [h4]); go_big_quiet_on)))
          refine wpQuiet_nil ?_
          rintro _ ⟨tq, rfl⟩
          go_wp2
          go_ret
          exact ⟨ret_bool (by rw [E.out]), (by repeat (first | exact Ext.refl _ | apply Ext.alloc | apply Ext.ext | apply Ext.drew))⟩
        | false =>
          have E := hid (show gstOk m g = plcEdge m g.wk.at_ 1 by simp [gstOk, h1, h2, h3, h4])
          clear h3
          go_enter Try.func35, Try.ntmps35
          go_wp2
          refine wp_region_ext (by kernel_rfl) (by kernel_rfl) ?_
          repeat (first | go_big_quiet_skip | (go_big_quiet_want; go_big_quiet_op; first | go_big_quiet_on | (apply Exists.intro; refine ⟨fun _ => ?_, ?_⟩; ((first | (go_at_call 48; first | exact quiet_same (in_c _ _ _ _) | exact quiet_same2 (in_c _ _ _ _)) | (go_at_call 24; first | exact quiet_call (iWlkOk_c _ _ _) | exact quiet_call2 (iWlkOk_c _ _ _)) | (go_at_call 19; first | exact quiet_call (iPlcCell_c _ _ _) | exact quiet_call2 (iPlcCell_c _ _ _)) | (go_at_call 29; first | exact quiet_call (iPlcEdge_c _ _ _ _) | exact quiet_call2 (iPlcEdge_c _ _ _ _)))); (try rw [h1]); (try rw [h2]); (try rw [h4]); go_big_quiet_on)))
          refine wpQuiet_nil ?_
          rintro _ ⟨tq, rfl⟩
          go_wp2
          go_ret
          exact ⟨ret_bool (by rw [E.out]), (by repeat (first | exact Ext.refl _ | apply Ext.alloc | apply Ext.ext | apply Ext.drew))⟩
      · have q3 := beq_f h3
        have E := hid (show gstOk m g = false by simp [gstOk, h3])
        clear h3
        go_enter Try.func35, Try.ntmps35
        go_wp2
        refine wp_region_ext (by kernel_rfl) (by kernel_rfl) ?_
        repeat (first | go_big_quiet_skip | (go_big_quiet_want; go_big_quiet_op; first | go_big_quiet_on | (apply Exists.intro; refine ⟨fun _ => ?_, ?_⟩; ((first | (go_at_call 48; first | exact quiet_same (in_c _ _ _ _) | exact quiet_same2 (in_c _ _ _ _)) | (go_at_call 24; first | exact quiet_call (iWlkOk_c _ _ _) | exact quiet_call2 (iWlkOk_c _ _ _)) | (go_at_call 19; first | exact quiet_call (iPlcCell_c _ _ _) | exact quiet_call2 (iPlcCell_c _ _ _)) | (go_at_call 29; first | exact quiet_call (iPlcEdge_c _ _ _ _) | exact quiet_call2 (iPlcEdge_c _ _ _ _)))); (try rw [h1]); (try rw [h2]); go_big_quiet_on)))
        refine wpQuiet_nil ?_
        rintro _ ⟨tq, rfl⟩
        go_wp2
        go_ret
        exact ⟨ret_bool (by rw [E.out]), (by repeat (first | exact Ext.refl _ | apply Ext.alloc | apply Ext.ext | apply Ext.drew))⟩

theorem sGstOk_c (m : Mp) (g : Gst) (w : World) : Calls Try.prog 33 #[.agg #[.int .i64 m.c, .int .i64 m.w], .agg #[.int .i64 g.src, .int .i64 g.count, .int .i64 g.wk.id, .int .i64 g.wk.at_, .int .i64 g.wk.coins, .int .i64 g.wk.seq, .int .i64 g.wk.last]] w fun e w' => e = .returned (.bool (gstOk m g)) ∧ Ext w w' := by
  cases h1 : inB g.count 0 250 with
  | false =>
    have E := hid (show gstOk m g = false by simp [gstOk, h1])
    go_enter Try.func33, Try.ntmps33
    go_wp2
    refine wp_region_ext (by kernel_rfl) (by kernel_rfl) ?_
    repeat (first | go_big_quiet_skip | (go_big_quiet_want; go_big_quiet_op; first | go_big_quiet_on | (apply Exists.intro; refine ⟨fun _ => ?_, ?_⟩; ((first | (go_at_call 47; first | exact quiet_same (l1In_c _ _ _ _) | exact quiet_same2 (l1In_c _ _ _ _)) | (go_at_call 22; first | exact quiet_call (sWlkOk_c _ _ _) | exact quiet_call2 (sWlkOk_c _ _ _)) | (go_at_call 18; first | exact quiet_call (sPlcCell_c _ _ _) | exact quiet_call2 (sPlcCell_c _ _ _)) | (go_at_call 28; first | exact quiet_call (sPlcEdge_c _ _ _ _) | exact quiet_call2 (sPlcEdge_c _ _ _ _)))); (try rw [h1]); go_big_quiet_on)))
    refine wpQuiet_nil ?_
    rintro _ ⟨tq, rfl⟩
    go_wp2
    go_ret
    exact ⟨ret_bool (by rw [E.out]), (by repeat (first | exact Ext.refl _ | apply Ext.alloc | apply Ext.ext | apply Ext.drew))⟩
  | true =>
    cases h2 : wlkOk m g.wk with
    | false =>
      have E := hid (show gstOk m g = false by simp [gstOk, h2])
      go_enter Try.func33, Try.ntmps33
      go_wp2
      refine wp_region_ext (by kernel_rfl) (by kernel_rfl) ?_
      repeat (first | go_big_quiet_skip | (go_big_quiet_want; go_big_quiet_op; first | go_big_quiet_on | (apply Exists.intro; refine ⟨fun _ => ?_, ?_⟩; ((first | (go_at_call 47; first | exact quiet_same (l1In_c _ _ _ _) | exact quiet_same2 (l1In_c _ _ _ _)) | (go_at_call 22; first | exact quiet_call (sWlkOk_c _ _ _) | exact quiet_call2 (sWlkOk_c _ _ _)) | (go_at_call 18; first | exact quiet_call (sPlcCell_c _ _ _) | exact quiet_call2 (sPlcCell_c _ _ _)) | (go_at_call 28; first | exact quiet_call (sPlcEdge_c _ _ _ _) | exact quiet_call2 (sPlcEdge_c _ _ _ _)))); (try rw [h1]); (try rw [h2]); go_big_quiet_on)))
      refine wpQuiet_nil ?_
      rintro _ ⟨tq, rfl⟩
      go_wp2
      go_ret
      exact ⟨ret_bool (by rw [E.out]), (by repeat (first | exact Ext.refl _ | apply Ext.alloc | apply Ext.ext | apply Ext.drew))⟩
    | true =>
      by_cases h3 : plcCell m g.wk.at_ = g.src
      · have q3 := beq_t h3
        cases h4 : plcEdge m g.wk.at_ 0 with
        | true =>
          have E := hid (show gstOk m g = true by simp [gstOk, h1, h2, h3, h4])
          clear h3
          go_enter Try.func33, Try.ntmps33
          go_wp2
          refine wp_region_ext (by kernel_rfl) (by kernel_rfl) ?_
          repeat (first | go_big_quiet_skip | (go_big_quiet_want; go_big_quiet_op; first | go_big_quiet_on | (apply Exists.intro; refine ⟨fun _ => ?_, ?_⟩; ((first | (go_at_call 47; first | exact quiet_same (l1In_c _ _ _ _) | exact quiet_same2 (l1In_c _ _ _ _)) | (go_at_call 22; first | exact quiet_call (sWlkOk_c _ _ _) | exact quiet_call2 (sWlkOk_c _ _ _)) | (go_at_call 18; first | exact quiet_call (sPlcCell_c _ _ _) | exact quiet_call2 (sPlcCell_c _ _ _)) | (go_at_call 28; first | exact quiet_call (sPlcEdge_c _ _ _ _) | exact quiet_call2 (sPlcEdge_c _ _ _ _)))); (try rw [h1]); (try rw [h2]); (try rw [h4]); go_big_quiet_on)))
          refine wpQuiet_nil ?_
          rintro _ ⟨tq, rfl⟩
          go_wp2
          go_ret
          exact ⟨ret_bool (by rw [E.out]), (by repeat (first | exact Ext.refl _ | apply Ext.alloc | apply Ext.ext | apply Ext.drew))⟩
        | false =>
          have E := hid (show gstOk m g = plcEdge m g.wk.at_ 1 by simp [gstOk, h1, h2, h3, h4])
          clear h3
          go_enter Try.func33, Try.ntmps33
          go_wp2
          refine wp_region_ext (by kernel_rfl) (by kernel_rfl) ?_
          repeat (first | go_big_quiet_skip | (go_big_quiet_want; go_big_quiet_op; first | go_big_quiet_on | (apply Exists.intro; refine ⟨fun _ => ?_, ?_⟩; ((first | (go_at_call 47; first | exact quiet_same (l1In_c _ _ _ _) | exact quiet_same2 (l1In_c _ _ _ _)) | (go_at_call 22; first | exact quiet_call (sWlkOk_c _ _ _) | exact quiet_call2 (sWlkOk_c _ _ _)) | (go_at_call 18; first | exact quiet_call (sPlcCell_c _ _ _) | exact quiet_call2 (sPlcCell_c _ _ _)) | (go_at_call 28; first | exact quiet_call (sPlcEdge_c _ _ _ _) | exact quiet_call2 (sPlcEdge_c _ _ _ _)))); (try rw [h1]); (try rw [h2]); (try rw [h4]); go_big_quiet_on)))
          refine wpQuiet_nil ?_
          rintro _ ⟨tq, rfl⟩
          go_wp2
          go_ret
          exact ⟨ret_bool (by rw [E.out]), (by repeat (first | exact Ext.refl _ | apply Ext.alloc | apply Ext.ext | apply Ext.drew))⟩
      · have q3 := beq_f h3
        have E := hid (show gstOk m g = false by simp [gstOk, h3])
        clear h3
        go_enter Try.func33, Try.ntmps33
        go_wp2
        refine wp_region_ext (by kernel_rfl) (by kernel_rfl) ?_
        repeat (first | go_big_quiet_skip | (go_big_quiet_want; go_big_quiet_op; first | go_big_quiet_on | (apply Exists.intro; refine ⟨fun _ => ?_, ?_⟩; ((first | (go_at_call 47; first | exact quiet_same (l1In_c _ _ _ _) | exact quiet_same2 (l1In_c _ _ _ _)) | (go_at_call 22; first | exact quiet_call (sWlkOk_c _ _ _) | exact quiet_call2 (sWlkOk_c _ _ _)) | (go_at_call 18; first | exact quiet_call (sPlcCell_c _ _ _) | exact quiet_call2 (sPlcCell_c _ _ _)) | (go_at_call 28; first | exact quiet_call (sPlcEdge_c _ _ _ _) | exact quiet_call2 (sPlcEdge_c _ _ _ _)))); (try rw [h1]); (try rw [h2]); go_big_quiet_on)))
        refine wpQuiet_nil ?_
        rintro _ ⟨tq, rfl⟩
        go_wp2
        go_ret
        exact ⟨ret_bool (by rw [E.out]), (by repeat (first | exact Ext.refl _ | apply Ext.alloc | apply Ext.ext | apply Ext.drew))⟩

set_option maxHeartbeats 2000000 in
theorem recFormed_c (r : Rec) (w : World) : Calls Try.prog 55 #[.agg #[.int .i64 r.kind, .int .i64 r.ord.who, .int .i64 r.ord.seq, .int .i64 r.ord.kind, .int .i64 r.ord.to_, .int .i64 r.ord.n, .int .i64 r.side, .int .i64 r.pcl.n, .int .i64 r.pcl.kind, .int .i64 r.pcl.wk.id, .int .i64 r.pcl.wk.at_, .int .i64 r.pcl.wk.coins, .int .i64 r.pcl.wk.seq, .int .i64 r.pcl.wk.last, .int .i64 r.pcl.coins, .int .i64 r.n]] w fun e w' => e = .returned (.bool (recFormed r)) ∧ Ext w w' := by
  go_enter Try.func55, Try.ntmps55
  go_wp2_with (first | (go_at_call 27; refine (iOrdOk_c _ _).mono ?_; rintro e w' ⟨rfl, t, rfl⟩) | (go_at_call 50; refine (isSide_c _ _).mono ?_; rintro e w' ⟨rfl, rfl⟩) | (go_at_call 48; refine (in_c _ _ _ _).mono ?_; rintro e w' ⟨rfl, rfl⟩))
  all_goals go_ret
  all_goals refine ⟨ret_bool ?_, (by repeat (first | exact Ext.refl _ | apply Ext.alloc | apply Ext.ext | apply Ext.drew))⟩
  all_goals simp_all [recFormed, ordZero, pclZero, wlkZero, Bool.and_assoc]

theorem iLogOk_c (m : Mp) (r : Rec) (w : World) : Calls Try.prog 38 #[.agg #[.int .i64 m.c, .int .i64 m.w], .agg #[.int .i64 r.kind, .int .i64 r.ord.who, .int .i64 r.ord.seq, .int .i64 r.ord.kind, .int .i64 r.ord.to_, .int .i64 r.ord.n, .int .i64 r.side, .int .i64 r.pcl.n, .int .i64 r.pcl.kind, .int .i64 r.pcl.wk.id, .int .i64 r.pcl.wk.at_, .int .i64 r.pcl.wk.coins, .int .i64 r.pcl.wk.seq, .int .i64 r.pcl.wk.last, .int .i64 r.pcl.coins, .int .i64 r.n]] w fun e w' => e = .returned (.bool (logOk m r)) ∧ Ext w w' := by
  go_enter Try.func38, Try.ntmps38
  go_wp2_with (first | (go_at_call 17; refine (iPlcOk_c _ _).mono ?_; rintro e w' ⟨rfl, t, rfl⟩) | (go_at_call 55; refine (recFormed_c _ _).mono ?_; rintro e w' ⟨rfl, t, rfl⟩) | (go_at_call 32; refine (iPclOk_c _ _ _).mono ?_; rintro e w' ⟨rfl, t, rfl⟩))
  all_goals go_ret
  all_goals refine ⟨ret_bool ?_, (by repeat (first | exact Ext.refl _ | apply Ext.alloc | apply Ext.ext | apply Ext.drew))⟩
  all_goals simp_all [logOk]

set_option maxHeartbeats 2000000 in
theorem sLogOk_c (m : Mp) (r : Rec) (w : World) : Calls Try.prog 36 #[.agg #[.int .i64 m.c, .int .i64 m.w], .agg #[.int .i64 r.kind, .int .i64 r.ord.who, .int .i64 r.ord.seq, .int .i64 r.ord.kind, .int .i64 r.ord.to_, .int .i64 r.ord.n, .int .i64 r.side, .int .i64 r.pcl.n, .int .i64 r.pcl.kind, .int .i64 r.pcl.wk.id, .int .i64 r.pcl.wk.at_, .int .i64 r.pcl.wk.coins, .int .i64 r.pcl.wk.seq, .int .i64 r.pcl.wk.last, .int .i64 r.pcl.coins, .int .i64 r.n]] w fun e w' => e = .returned (.bool (logOk m r)) ∧ Ext w w' := by
  go_enter Try.func36, Try.ntmps36
  go_wp2_with (first | (go_at_call 15; refine (sPlcOk_c _ _).mono ?_; rintro e w' ⟨rfl, t, rfl⟩) | (go_at_call 25; refine (sOrdOk_c _ _).mono ?_; rintro e w' ⟨rfl, t, rfl⟩) | (go_at_call 47; refine (l1In_c _ _ _ _).mono ?_; rintro e w' ⟨rfl, rfl⟩) | (go_at_call 30; refine (sPclOk_c _ _ _).mono ?_; rintro e w' ⟨rfl, t, rfl⟩))
  all_goals go_ret
  all_goals refine ⟨ret_bool ?_, (by repeat (first | exact Ext.refl _ | apply Ext.alloc | apply Ext.ext | apply Ext.drew))⟩
  all_goals simp_all [logOk, recFormed, ordZero, pclZero, wlkZero, pclOk, Bool.and_assoc]
end Go.Proofs.Ytejplnlnfhcimaa
