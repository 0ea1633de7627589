/- The laws' helpers at OrdOrder, and at slices of it: copies, equality of equals, sizes, marks. -/
import Derived.Test.YtnfodkhfoegnaaaMem
import Derived.Test.YtnfodkhfoegnaaaSeg
import Derived.Test.YtnfodkhfoegnaaaScal
namespace Go.Proofs.Ytnfodkhfoegnaaa
open Go.RowKit

theorem toOrd_c (x : Ord) (w : World) : Calls Try.prog 39 #[.agg #[.int .i64 x.who, .int .i64 x.seq, .int .i64 x.kind, .int .i64 x.to_, .int .i64 x.n]] w fun e w' => e = .returned (.agg #[.int .i64 x.who, .int .i64 x.seq, .int .i64 x.kind, .int .i64 x.to_, .int .i64 x.n]) ∧ Ext w w' := by
  go_enter Try.func39, Try.ntmps39
  go_wp2_with (fail)
  exact bodyPost_ret (v := .agg #[.int .i64 x.who, .int .i64 x.seq, .int .i64 x.kind, .int .i64 x.to_, .int .i64 x.n]) (by simp [results, Try.results39, go_sem]) rfl ⟨rfl, (by ((try simp only [ext_drew]); (try simp only [ext_ext]); repeat (first | exact Ext.refl _ | with_reducible apply Ext.add | with_reducible apply Ext.dr | apply Ext.alloc | apply Ext.ext | apply Ext.drew | refine Ext.trans ?_ (by assumption))))⟩

theorem eqOrd_c (x : Ord) (w : World) : Calls Try.prog 59 #[.agg #[.int .i64 x.who, .int .i64 x.seq, .int .i64 x.kind, .int .i64 x.to_, .int .i64 x.n], .agg #[.int .i64 x.who, .int .i64 x.seq, .int .i64 x.kind, .int .i64 x.to_, .int .i64 x.n]] w fun e w' => e = .returned (.bool true) ∧ Ext w w' := by
  go_enter Try.func59, Try.ntmps59
  go_wp2_with (fail)
  go_ret
  exact ⟨rfl, (by ((try simp only [ext_drew]); (try simp only [ext_ext]); repeat (first | exact Ext.refl _ | with_reducible apply Ext.add | with_reducible apply Ext.dr | apply Ext.alloc | apply Ext.ext | apply Ext.drew | refine Ext.trans ?_ (by assumption))))⟩

end Go.Proofs.Ytnfodkhfoegnaaa
