/- MsgOk of both sides. -/
import Derived.Test.YtnfodkhfoegnaaaMsgP
import Derived.Test.YtnfodkhfoegnaaaMsgQ
import Derived.Test.YtnfodkhfoegnaaaMsgR
import Derived.Test.YtnfodkhfoegnaaaMsgS
import Derived.Test.YtnfodkhfoegnaaaMsgT
namespace Go.Proofs.Ytnfodkhfoegnaaa
open Go.RowKit
set_option linter.unusedSimpArgs false
set_option linter.unusedVariables false

set_option maxRecDepth 100000 in
set_option maxHeartbeats 4000000 in
theorem sMsgOk_bad (m : Mp) (s : Int) (x : Msg) (w : World) (h : plcOk m = false ∨ inB s 1 3 = false ∨ inB x.cell 0 (m.c - 1) = false) :
    Calls Try.prog 7 #[.agg #[.int .i64 m.c, .int .i64 m.w], .int .i64 s, .agg #[.int .i64 x.kind, .int .i64 x.to_, .int .i64 x.cell, .int .i64 x.side, .int .i64 x.n, .int .i64 x.ord.who, .int .i64 x.ord.seq, .int .i64 x.ord.kind, .int .i64 x.ord.to_, .int .i64 x.ord.n, .int .i64 x.pcl.n, .int .i64 x.pcl.kind, .int .i64 x.pcl.wk.id, .int .i64 x.pcl.wk.at_, .int .i64 x.pcl.wk.coins, .int .i64 x.pcl.wk.seq, .int .i64 x.pcl.wk.last, .int .i64 x.pcl.coins, .int .i64 x.gst.src, .int .i64 x.gst.count, .int .i64 x.gst.wk.id, .int .i64 x.gst.wk.at_, .int .i64 x.gst.wk.coins, .int .i64 x.gst.wk.seq, .int .i64 x.gst.wk.last]] w fun e w' => e = .returned (.bool (msgOk m s x)) ∧ Ext w w' := by
  have E := hid (show msgOk m s x = false by rcases h with h | h | h <;> simp [msgOk, h])
  cases h1 : plcOk m with
  | false =>
    clear h
    go_enter Try.func7, Try.ntmps7
    go_wp2_with (first | (go_at_call 32; refine (sPlcOk_c _ _).mono ?_; rintro e w' ⟨rfl, t, rfl⟩) | (go_at_call 33; refine (l1In_c _ _ _ _).mono ?_; rintro e w' ⟨rfl, rfl⟩))
    go_ret
    exact ⟨ret_bool (by rw [E.out]), (by ((try simp only [ext_drew]); (try simp only [ext_ext]); repeat (first | exact Ext.refl _ | with_reducible apply Ext.add | with_reducible apply Ext.dr | apply Ext.alloc | apply Ext.ext | apply Ext.drew | refine Ext.trans ?_ (by assumption))))⟩
  | true =>
    cases h2 : inB s 1 3 with
    | false =>
      clear h
      go_enter Try.func7, Try.ntmps7
      go_wp2_with (first | (go_at_call 32; refine (sPlcOk_c _ _).mono ?_; rintro e w' ⟨rfl, t, rfl⟩) | (go_at_call 33; refine (l1In_c _ _ _ _).mono ?_; rintro e w' ⟨rfl, rfl⟩))
      go_ret
      exact ⟨ret_bool (by rw [E.out]), (by ((try simp only [ext_drew]); (try simp only [ext_ext]); repeat (first | exact Ext.refl _ | with_reducible apply Ext.add | with_reducible apply Ext.dr | apply Ext.alloc | apply Ext.ext | apply Ext.drew | refine Ext.trans ?_ (by assumption))))⟩
    | true =>
      have h3 : inB x.cell 0 (m.c - 1) = false := by simp_all
      obtain ⟨⟨m1, m2⟩, _⟩ := plcOk_iff.1 h1
      clear h
      go_enter Try.func7, Try.ntmps7
      go_wp2_with (first | (go_at_call 32; refine (sPlcOk_c _ _).mono ?_; rintro e w' ⟨rfl, t, rfl⟩) | (go_at_call 33; refine (l1In_c _ _ _ _).mono ?_; rintro e w' ⟨rfl, rfl⟩))
      go_ret
      exact ⟨ret_bool (by rw [E.out]), (by ((try simp only [ext_drew]); (try simp only [ext_ext]); repeat (first | exact Ext.refl _ | with_reducible apply Ext.add | with_reducible apply Ext.dr | apply Ext.alloc | apply Ext.ext | apply Ext.drew | refine Ext.trans ?_ (by assumption))))⟩
theorem iMsgOk_c (m : Mp) (s : Int) (x : Msg) (w : World) :
    Calls Try.prog 10 #[.agg #[.int .i64 m.c, .int .i64 m.w], .int .i64 s, .agg #[.int .i64 x.kind, .int .i64 x.to_, .int .i64 x.cell, .int .i64 x.side, .int .i64 x.n, .int .i64 x.ord.who, .int .i64 x.ord.seq, .int .i64 x.ord.kind, .int .i64 x.ord.to_, .int .i64 x.ord.n, .int .i64 x.pcl.n, .int .i64 x.pcl.kind, .int .i64 x.pcl.wk.id, .int .i64 x.pcl.wk.at_, .int .i64 x.pcl.wk.coins, .int .i64 x.pcl.wk.seq, .int .i64 x.pcl.wk.last, .int .i64 x.pcl.coins, .int .i64 x.gst.src, .int .i64 x.gst.count, .int .i64 x.gst.wk.id, .int .i64 x.gst.wk.at_, .int .i64 x.gst.wk.coins, .int .i64 x.gst.wk.seq, .int .i64 x.gst.wk.last]] w fun e w' => e = .returned (.bool (msgOk m s x)) ∧ Ext w w' := by
  by_cases hb : plcOk m = false ∨ inB s 1 3 = false ∨ inB x.cell 0 (m.c - 1) = false
  · exact iMsgOk_bad m s x w hb
  · have h1 : plcOk m = true := by cases h : plcOk m with | true => rfl | false => exact absurd (.inl h) hb
    have h2 : inB s 1 3 = true := by cases h : inB s 1 3 with | true => rfl | false => exact absurd (.inr (.inl h)) hb
    have h3 : inB x.cell 0 (m.c - 1) = true := by cases h : inB x.cell 0 (m.c - 1) with | true => rfl | false => exact absurd (.inr (.inr h)) hb
    obtain ⟨s1, s2⟩ := inB_iff.1 h2
    obtain ⟨⟨m1, m2⟩, _⟩ := plcOk_iff.1 h1
    clear hb
    obtain ⟨kind, to_, cell, side, n, o, p, g⟩ := x
    by_cases k1 : kind = 1
    · subst k1; exact iMsgOk_k1 m s to_ cell side n o p g w h1 h2 h3 s1 s2 
    by_cases k2 : kind = 2
    · subst k2; exact iMsgOk_k2 m s to_ cell side n o p g w h1 h2 h3 s1 s2 
    by_cases k3 : kind = 3
    · subst k3; exact iMsgOk_k3 m s to_ cell side n o p g w h1 h2 h3 s1 s2 
    by_cases k4 : kind = 4
    · subst k4; exact iMsgOk_k4 m s to_ cell side n o p g w h1 h2 h3 s1 s2 
    by_cases k5 : kind = 5
    · subst k5; exact iMsgOk_k5 m s to_ cell side n o p g w h1 h2 h3 s1 s2 
    by_cases k6 : kind = 6
    · subst k6; exact iMsgOk_k6 m s to_ cell side n o p g w h1 h2 h3 s1 s2 
    by_cases k7 : kind = 7
    · subst k7; exact iMsgOk_k7 m s to_ cell side n o p g w h1 h2 h3 s1 s2 
    exact iMsgOk_k0 m s to_ cell side n o p g w kind (by simpa using k1) (by simpa using k2) (by simpa using k3) (by simpa using k4) (by simpa using k5) (by simpa using k6) (by simpa using k7) h1 h2 h3 s1 s2 
theorem sMsgOk_c (m : Mp) (s : Int) (x : Msg) (w : World) :
    Calls Try.prog 7 #[.agg #[.int .i64 m.c, .int .i64 m.w], .int .i64 s, .agg #[.int .i64 x.kind, .int .i64 x.to_, .int .i64 x.cell, .int .i64 x.side, .int .i64 x.n, .int .i64 x.ord.who, .int .i64 x.ord.seq, .int .i64 x.ord.kind, .int .i64 x.ord.to_, .int .i64 x.ord.n, .int .i64 x.pcl.n, .int .i64 x.pcl.kind, .int .i64 x.pcl.wk.id, .int .i64 x.pcl.wk.at_, .int .i64 x.pcl.wk.coins, .int .i64 x.pcl.wk.seq, .int .i64 x.pcl.wk.last, .int .i64 x.pcl.coins, .int .i64 x.gst.src, .int .i64 x.gst.count, .int .i64 x.gst.wk.id, .int .i64 x.gst.wk.at_, .int .i64 x.gst.wk.coins, .int .i64 x.gst.wk.seq, .int .i64 x.gst.wk.last]] w fun e w' => e = .returned (.bool (msgOk m s x)) ∧ Ext w w' := by
  by_cases hb : plcOk m = false ∨ inB s 1 3 = false ∨ inB x.cell 0 (m.c - 1) = false
  · exact sMsgOk_bad m s x w hb
  · have h1 : plcOk m = true := by cases h : plcOk m with | true => rfl | false => exact absurd (.inl h) hb
    have h2 : inB s 1 3 = true := by cases h : inB s 1 3 with | true => rfl | false => exact absurd (.inr (.inl h)) hb
    have h3 : inB x.cell 0 (m.c - 1) = true := by cases h : inB x.cell 0 (m.c - 1) with | true => rfl | false => exact absurd (.inr (.inr h)) hb
    obtain ⟨s1, s2⟩ := inB_iff.1 h2
    obtain ⟨⟨m1, m2⟩, _⟩ := plcOk_iff.1 h1
    clear hb
    obtain ⟨kind, to_, cell, side, n, o, p, g⟩ := x
    by_cases k1 : kind = 1
    · subst k1; exact sMsgOk_k1 m s to_ cell side n o p g w h1 h2 h3 s1 s2 m1 m2
    by_cases k2 : kind = 2
    · subst k2; exact sMsgOk_k2 m s to_ cell side n o p g w h1 h2 h3 s1 s2 m1 m2
    by_cases k3 : kind = 3
    · subst k3; exact sMsgOk_k3 m s to_ cell side n o p g w h1 h2 h3 s1 s2 m1 m2
    by_cases k4 : kind = 4
    · subst k4; exact sMsgOk_k4 m s to_ cell side n o p g w h1 h2 h3 s1 s2 m1 m2
    by_cases k5 : kind = 5
    · subst k5; exact sMsgOk_k5 m s to_ cell side n o p g w h1 h2 h3 s1 s2 m1 m2
    by_cases k6 : kind = 6
    · subst k6; exact sMsgOk_k6 m s to_ cell side n o p g w h1 h2 h3 s1 s2 m1 m2
    by_cases k7 : kind = 7
    · subst k7; exact sMsgOk_k7 m s to_ cell side n o p g w h1 h2 h3 s1 s2 m1 m2
    exact sMsgOk_k0 m s to_ cell side n o p g w kind (by simpa using k1) (by simpa using k2) (by simpa using k3) (by simpa using k4) (by simpa using k5) (by simpa using k6) (by simpa using k7) h1 h2 h3 s1 s2 m1 m2
end Go.Proofs.Ytnfodkhfoegnaaa
