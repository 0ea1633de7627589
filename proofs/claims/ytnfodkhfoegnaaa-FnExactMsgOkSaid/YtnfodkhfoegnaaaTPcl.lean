/- The laws' helpers at PclParcel, and at slices of it: copies, equality of equals, sizes, marks. -/
import Derived.Test.YtnfodkhfoegnaaaTWlk
namespace Go.Proofs.Ytnfodkhfoegnaaa
open Go.RowKit

theorem toPcl_c (x : Pcl) (w : World) : Calls Try.prog 40 #[.agg #[.int .i64 x.n, .int .i64 x.kind, .int .i64 x.wk.id, .int .i64 x.wk.at_, .int .i64 x.wk.coins, .int .i64 x.wk.seq, .int .i64 x.wk.last, .int .i64 x.coins]] w fun e w' => e = .returned (.agg #[.int .i64 x.n, .int .i64 x.kind, .int .i64 x.wk.id, .int .i64 x.wk.at_, .int .i64 x.wk.coins, .int .i64 x.wk.seq, .int .i64 x.wk.last, .int .i64 x.coins]) ∧ Ext w w' := by
  go_enter Try.func40, Try.ntmps40
  go_wp2_with (first | (go_at_call 71; refine (toWlk_c _ _).mono ?_; rintro e w' ⟨rfl, t, rfl⟩))
  exact bodyPost_ret (v := .agg #[.int .i64 x.n, .int .i64 x.kind, .int .i64 x.wk.id, .int .i64 x.wk.at_, .int .i64 x.wk.coins, .int .i64 x.wk.seq, .int .i64 x.wk.last, .int .i64 x.coins]) (by simp [results, Try.results40, go_sem]) rfl ⟨rfl, (by ((try simp only [ext_drew]); (try simp only [ext_ext]); repeat (first | exact Ext.refl _ | with_reducible apply Ext.add | with_reducible apply Ext.dr | apply Ext.alloc | apply Ext.ext | apply Ext.drew | refine Ext.trans ?_ (by assumption))))⟩

theorem eqPcl_c (x : Pcl) (w : World) : Calls Try.prog 60 #[.agg #[.int .i64 x.n, .int .i64 x.kind, .int .i64 x.wk.id, .int .i64 x.wk.at_, .int .i64 x.wk.coins, .int .i64 x.wk.seq, .int .i64 x.wk.last, .int .i64 x.coins], .agg #[.int .i64 x.n, .int .i64 x.kind, .int .i64 x.wk.id, .int .i64 x.wk.at_, .int .i64 x.wk.coins, .int .i64 x.wk.seq, .int .i64 x.wk.last, .int .i64 x.coins]] w fun e w' => e = .returned (.bool true) ∧ Ext w w' := by
  go_enter Try.func60, Try.ntmps60
  go_wp2_with (first | (go_at_call 88; refine (eqWlk_c _ _).mono ?_; rintro e w' ⟨rfl, t, rfl⟩))
  go_ret
  exact ⟨rfl, (by ((try simp only [ext_drew]); (try simp only [ext_ext]); repeat (first | exact Ext.refl _ | with_reducible apply Ext.add | with_reducible apply Ext.dr | apply Ext.alloc | apply Ext.ext | apply Ext.drew | refine Ext.trans ?_ (by assumption))))⟩

def Pcl.mk' (q : Int) : Pcl := ⟨q, q + 1, ⟨q + 1 + 1, q + 1 + 1 + 1, q + 1 + 1 + 1 + 1, q + 1 + 1 + 1 + 1 + 1, q + 1 + 1 + 1 + 1 + 1 + 1⟩, q + 1 + 1 + 1 + 1 + 1 + 1 + 1⟩
end Go.Proofs.Ytnfodkhfoegnaaa
