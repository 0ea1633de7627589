/- The laws' helpers at WlkWalker, and at slices of it: copies, equality of equals, sizes, marks. -/
import Derived.Test.YtnfodkhfoegnaaaMem
import Derived.Test.YtnfodkhfoegnaaaSeg
import Derived.Test.YtnfodkhfoegnaaaScal
namespace Go.Proofs.Ytnfodkhfoegnaaa
open Go.RowKit

theorem toWlk_c (x : Wlk) (w : World) : Calls Try.prog 71 #[.agg #[.int .i64 x.id, .int .i64 x.at_, .int .i64 x.coins, .int .i64 x.seq, .int .i64 x.last]] w fun e w' => e = .returned (.agg #[.int .i64 x.id, .int .i64 x.at_, .int .i64 x.coins, .int .i64 x.seq, .int .i64 x.last]) ∧ Ext w w' := by
  go_enter Try.func71, Try.ntmps71
  go_wp2_with (fail)
  exact bodyPost_ret (v := .agg #[.int .i64 x.id, .int .i64 x.at_, .int .i64 x.coins, .int .i64 x.seq, .int .i64 x.last]) (by simp [results, Try.results71, go_sem]) rfl ⟨rfl, (by ((try simp only [ext_drew]); (try simp only [ext_ext]); repeat (first | exact Ext.refl _ | with_reducible apply Ext.add | with_reducible apply Ext.dr | apply Ext.alloc | apply Ext.ext | apply Ext.drew | refine Ext.trans ?_ (by assumption))))⟩

theorem eqWlk_c (x : Wlk) (w : World) : Calls Try.prog 88 #[.agg #[.int .i64 x.id, .int .i64 x.at_, .int .i64 x.coins, .int .i64 x.seq, .int .i64 x.last], .agg #[.int .i64 x.id, .int .i64 x.at_, .int .i64 x.coins, .int .i64 x.seq, .int .i64 x.last]] w fun e w' => e = .returned (.bool true) ∧ Ext w w' := by
  go_enter Try.func88, Try.ntmps88
  go_wp2_with (fail)
  go_ret
  exact ⟨rfl, (by ((try simp only [ext_drew]); (try simp only [ext_ext]); repeat (first | exact Ext.refl _ | with_reducible apply Ext.add | with_reducible apply Ext.dr | apply Ext.alloc | apply Ext.ext | apply Ext.drew | refine Ext.trans ?_ (by assumption))))⟩

def Wlk.mk' (q : Int) : Wlk := ⟨q, q + 1, q + 1 + 1, q + 1 + 1 + 1, q + 1 + 1 + 1 + 1⟩
end Go.Proofs.Ytnfodkhfoegnaaa
