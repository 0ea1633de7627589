/- The laws' helpers at WlkWalker, and at slices of it: copies, equality of equals, sizes, marks. -/
import Derived.Test.YtejplnlnfhcimaaMem
import Derived.Test.YtejplnlnfhcimaaSeg
import Derived.Test.YtejplnlnfhcimaaScal
namespace Go.Proofs.Ytejplnlnfhcimaa
open Go.RowKit

theorem toWlk_c (x : Wlk) (w : World) : Calls Try.prog 23 #[.agg #[.int .i64 x.id, .int .i64 x.at_, .int .i64 x.coins, .int .i64 x.seq, .int .i64 x.last]] w fun e w' => e = .returned (.agg #[.int .i64 x.id, .int .i64 x.at_, .int .i64 x.coins, .int .i64 x.seq, .int .i64 x.last]) ∧ Ext w w' := by
  go_enter Try.func23, Try.ntmps23
  go_wp2_with (fail)
  exact bodyPost_ret (v := .agg #[.int .i64 x.id, .int .i64 x.at_, .int .i64 x.coins, .int .i64 x.seq, .int .i64 x.last]) (by simp [results, Try.results23, go_sem]) rfl ⟨rfl, (by (try simp only [ext_drew]); (try simp only [ext_ext]); repeat (first | exact Ext.refl _ | with_reducible apply Ext.add | with_reducible apply Ext.dr | apply Ext.alloc | apply Ext.ext | apply Ext.drew | refine Ext.trans ?_ (by assumption)))⟩

theorem eqWlk_c (x : Wlk) (w : World) : Calls Try.prog 58 #[.agg #[.int .i64 x.id, .int .i64 x.at_, .int .i64 x.coins, .int .i64 x.seq, .int .i64 x.last], .agg #[.int .i64 x.id, .int .i64 x.at_, .int .i64 x.coins, .int .i64 x.seq, .int .i64 x.last]] w fun e w' => e = .returned (.bool true) ∧ Ext w w' := by
  go_enter Try.func58, Try.ntmps58
  go_wp2_with (fail)
  go_ret
  exact ⟨rfl, (by (try simp only [ext_drew]); (try simp only [ext_ext]); repeat (first | exact Ext.refl _ | with_reducible apply Ext.add | with_reducible apply Ext.dr | apply Ext.alloc | apply Ext.ext | apply Ext.drew | refine Ext.trans ?_ (by assumption)))⟩







def Wlk.mk' (q : Int) : Wlk := ⟨q, q + 1, q + 1 + 1, q + 1 + 1 + 1, q + 1 + 1 + 1 + 1⟩


end Go.Proofs.Ytejplnlnfhcimaa
