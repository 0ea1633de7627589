/- The laws' helpers at OrdOrder, and at slices of it: copies, equality of equals, sizes, marks. -/
import Derived.Test.YtfmgjhlcedlgpaaMem
import Derived.Test.YtfmgjhlcedlgpaaSeg
import Derived.Test.YtfmgjhlcedlgpaaScal
namespace Go.Proofs.Ytfmgjhlcedlgpaa
open Go.RowKit

theorem eqOrd_c (x : Ord) (w : World) : Calls Try.prog 88 #[.agg #[.int .i64 x.who, .int .i64 x.seq, .int .i64 x.kind, .int .i64 x.to_, .int .i64 x.n], .agg #[.int .i64 x.who, .int .i64 x.seq, .int .i64 x.kind, .int .i64 x.to_, .int .i64 x.n]] w fun e w' => e = .returned (.bool true) ∧ Ext w w' := by
  go_enter Try.func88, Try.ntmps88
  go_wp2_with (fail)
  go_ret
  exact ⟨rfl, (by ((try simp only [ext_drew]); (try simp only [ext_ext]); repeat (first | exact Ext.refl _ | with_reducible apply Ext.add | with_reducible apply Ext.dr | apply Ext.alloc | apply Ext.ext | apply Ext.drew | refine Ext.trans ?_ (by assumption))))⟩

end Go.Proofs.Ytfmgjhlcedlgpaa
