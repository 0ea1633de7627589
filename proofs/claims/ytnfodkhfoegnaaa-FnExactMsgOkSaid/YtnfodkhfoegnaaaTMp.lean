/- The laws' helpers at PlcMap, and at slices of it: copies, equality of equals, sizes, marks. -/
import Derived.Test.YtnfodkhfoegnaaaMem
import Derived.Test.YtnfodkhfoegnaaaSeg
import Derived.Test.YtnfodkhfoegnaaaScal
namespace Go.Proofs.Ytnfodkhfoegnaaa
open Go.RowKit

theorem toMp_c (x : Mp) (w : World) : Calls Try.prog 8 #[.agg #[.int .i64 x.c, .int .i64 x.w]] w fun e w' => e = .returned (.agg #[.int .i64 x.c, .int .i64 x.w]) ∧ Ext w w' := by
  go_enter Try.func8, Try.ntmps8
  go_wp2_with (fail)
  exact bodyPost_ret (v := .agg #[.int .i64 x.c, .int .i64 x.w]) (by simp [results, Try.results8, go_sem]) rfl ⟨rfl, (by ((try simp only [ext_drew]); (try simp only [ext_ext]); repeat (first | exact Ext.refl _ | with_reducible apply Ext.add | with_reducible apply Ext.dr | apply Ext.alloc | apply Ext.ext | apply Ext.drew | refine Ext.trans ?_ (by assumption))))⟩

end Go.Proofs.Ytnfodkhfoegnaaa
