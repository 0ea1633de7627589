/- The laws' helpers at PlcMap, and at slices of it: copies, equality of equals, sizes, marks. -/
import Derived.Test.YtdogknbkcididaaMem
import Derived.Test.YtdogknbkcididaaSeg
import Derived.Test.YtdogknbkcididaaScal
namespace Go.Proofs.Ytdogknbkcididaa
open Go.RowKit

theorem toMp_c (x : Mp) (w : World) : Calls Try.prog 7 #[.agg #[.int .i64 x.c, .int .i64 x.w]] w fun e w' => e = .returned (.agg #[.int .i64 x.c, .int .i64 x.w]) ∧ Ext w w' := by
  go_enter Try.func7, Try.ntmps7
  go_wp2_with (fail)
  exact bodyPost_ret (v := .agg #[.int .i64 x.c, .int .i64 x.w]) (by simp [results, Try.results7, go_sem]) rfl ⟨rfl, (by ((try simp only [ext_drew]); (try simp only [ext_ext]); repeat (first | exact Ext.refl _ | with_reducible apply Ext.add | with_reducible apply Ext.dr | apply Ext.alloc | apply Ext.ext | apply Ext.drew | refine Ext.trans ?_ (by assumption))))⟩

end Go.Proofs.Ytdogknbkcididaa
