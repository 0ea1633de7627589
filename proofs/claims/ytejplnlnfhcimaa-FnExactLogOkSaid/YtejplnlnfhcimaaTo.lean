/- The copies of plain structs that the laws make. -/
import Derived.Test.YtejplnlnfhcimaaOk2
namespace Go.Proofs.Ytejplnlnfhcimaa
open Go.RowKit

theorem toMp_c (m : Mp) (w : World) : Calls Try.prog 16 #[.agg #[.int .i64 m.c, .int .i64 m.w]] w fun e w' => e = .returned (.agg #[.int .i64 m.c, .int .i64 m.w]) ∧ Ext w w' := by
  go_enter Try.func16, Try.ntmps16
  go_wp2
  exact bodyPost_ret (v := .agg #[.int .i64 m.c, .int .i64 m.w]) (by simp [results, Try.results16, go_sem]) rfl ⟨rfl, (by repeat (first | exact Ext.refl _ | apply Ext.alloc | apply Ext.ext | apply Ext.drew))⟩

theorem toWlk_c (x : Wlk) (w : World) : Calls Try.prog 23 #[.agg #[.int .i64 x.id, .int .i64 x.at_, .int .i64 x.coins, .int .i64 x.seq, .int .i64 x.last]] w fun e w' => e = .returned (.agg #[.int .i64 x.id, .int .i64 x.at_, .int .i64 x.coins, .int .i64 x.seq, .int .i64 x.last]) ∧ Ext w w' := by
  go_enter Try.func23, Try.ntmps23
  go_wp2
  exact bodyPost_ret (v := .agg #[.int .i64 x.id, .int .i64 x.at_, .int .i64 x.coins, .int .i64 x.seq, .int .i64 x.last]) (by simp [results, Try.results23, go_sem]) rfl ⟨rfl, (by repeat (first | exact Ext.refl _ | apply Ext.alloc | apply Ext.ext | apply Ext.drew))⟩

theorem toOrd_c (x : Ord) (w : World) : Calls Try.prog 26 #[.agg #[.int .i64 x.who, .int .i64 x.seq, .int .i64 x.kind, .int .i64 x.to_, .int .i64 x.n]] w fun e w' => e = .returned (.agg #[.int .i64 x.who, .int .i64 x.seq, .int .i64 x.kind, .int .i64 x.to_, .int .i64 x.n]) ∧ Ext w w' := by
  go_enter Try.func26, Try.ntmps26
  go_wp2
  exact bodyPost_ret (v := .agg #[.int .i64 x.who, .int .i64 x.seq, .int .i64 x.kind, .int .i64 x.to_, .int .i64 x.n]) (by simp [results, Try.results26, go_sem]) rfl ⟨rfl, (by repeat (first | exact Ext.refl _ | apply Ext.alloc | apply Ext.ext | apply Ext.drew))⟩

theorem toPcl_c (x : Pcl) (w : World) : Calls Try.prog 31 #[.agg #[.int .i64 x.n, .int .i64 x.kind, .int .i64 x.wk.id, .int .i64 x.wk.at_, .int .i64 x.wk.coins, .int .i64 x.wk.seq, .int .i64 x.wk.last, .int .i64 x.coins]] w fun e w' => e = .returned (.agg #[.int .i64 x.n, .int .i64 x.kind, .int .i64 x.wk.id, .int .i64 x.wk.at_, .int .i64 x.wk.coins, .int .i64 x.wk.seq, .int .i64 x.wk.last, .int .i64 x.coins]) ∧ Ext w w' := by
  go_enter Try.func31, Try.ntmps31
  go_wp2_with (first | (go_at_call 23; refine (toWlk_c _ _).mono ?_; rintro e w' ⟨rfl, t, rfl⟩))
  exact bodyPost_ret (v := .agg #[.int .i64 x.n, .int .i64 x.kind, .int .i64 x.wk.id, .int .i64 x.wk.at_, .int .i64 x.wk.coins, .int .i64 x.wk.seq, .int .i64 x.wk.last, .int .i64 x.coins]) (by simp [results, Try.results31, go_sem]) rfl ⟨rfl, (by repeat (first | exact Ext.refl _ | apply Ext.alloc | apply Ext.ext | apply Ext.drew))⟩

theorem toGst_c (x : Gst) (w : World) : Calls Try.prog 34 #[.agg #[.int .i64 x.src, .int .i64 x.count, .int .i64 x.wk.id, .int .i64 x.wk.at_, .int .i64 x.wk.coins, .int .i64 x.wk.seq, .int .i64 x.wk.last]] w fun e w' => e = .returned (.agg #[.int .i64 x.src, .int .i64 x.count, .int .i64 x.wk.id, .int .i64 x.wk.at_, .int .i64 x.wk.coins, .int .i64 x.wk.seq, .int .i64 x.wk.last]) ∧ Ext w w' := by
  go_enter Try.func34, Try.ntmps34
  go_wp2_with (first | (go_at_call 23; refine (toWlk_c _ _).mono ?_; rintro e w' ⟨rfl, t, rfl⟩))
  exact bodyPost_ret (v := .agg #[.int .i64 x.src, .int .i64 x.count, .int .i64 x.wk.id, .int .i64 x.wk.at_, .int .i64 x.wk.coins, .int .i64 x.wk.seq, .int .i64 x.wk.last]) (by simp [results, Try.results34, go_sem]) rfl ⟨rfl, (by repeat (first | exact Ext.refl _ | apply Ext.alloc | apply Ext.ext | apply Ext.drew))⟩

theorem toRec_c (x : Rec) (w : World) : Calls Try.prog 37 #[.agg #[.int .i64 x.kind, .int .i64 x.ord.who, .int .i64 x.ord.seq, .int .i64 x.ord.kind, .int .i64 x.ord.to_, .int .i64 x.ord.n, .int .i64 x.side, .int .i64 x.pcl.n, .int .i64 x.pcl.kind, .int .i64 x.pcl.wk.id, .int .i64 x.pcl.wk.at_, .int .i64 x.pcl.wk.coins, .int .i64 x.pcl.wk.seq, .int .i64 x.pcl.wk.last, .int .i64 x.pcl.coins, .int .i64 x.n]] w fun e w' => e = .returned (.agg #[.int .i64 x.kind, .int .i64 x.ord.who, .int .i64 x.ord.seq, .int .i64 x.ord.kind, .int .i64 x.ord.to_, .int .i64 x.ord.n, .int .i64 x.side, .int .i64 x.pcl.n, .int .i64 x.pcl.kind, .int .i64 x.pcl.wk.id, .int .i64 x.pcl.wk.at_, .int .i64 x.pcl.wk.coins, .int .i64 x.pcl.wk.seq, .int .i64 x.pcl.wk.last, .int .i64 x.pcl.coins, .int .i64 x.n]) ∧ Ext w w' := by
  go_enter Try.func37, Try.ntmps37
  go_wp2_with (first | (go_at_call 26; refine (toOrd_c _ _).mono ?_; rintro e w' ⟨rfl, t, rfl⟩) | (go_at_call 31; refine (toPcl_c _ _).mono ?_; rintro e w' ⟨rfl, t, rfl⟩))
  exact bodyPost_ret (v := .agg #[.int .i64 x.kind, .int .i64 x.ord.who, .int .i64 x.ord.seq, .int .i64 x.ord.kind, .int .i64 x.ord.to_, .int .i64 x.ord.n, .int .i64 x.side, .int .i64 x.pcl.n, .int .i64 x.pcl.kind, .int .i64 x.pcl.wk.id, .int .i64 x.pcl.wk.at_, .int .i64 x.pcl.wk.coins, .int .i64 x.pcl.wk.seq, .int .i64 x.pcl.wk.last, .int .i64 x.pcl.coins, .int .i64 x.n]) (by simp [results, Try.results37, go_sem]) rfl ⟨rfl, (by repeat (first | exact Ext.refl _ | apply Ext.alloc | apply Ext.ext | apply Ext.drew))⟩
end Go.Proofs.Ytejplnlnfhcimaa
