/- The contract of the list of walkers, its value named. -/
import Derived.Test.YtcfbfpgcfnpdgaaWlkL
namespace Go.Proofs.Ytcfbfpgcfnpdgaa
open Go.RowKit

theorem iWlkListOk_g (m : Mp) (xs : List Wlk) (a : Option Addr) (n c : Nat) (g : Bool) (w : World) (hx : Re w (.sl sWlk) [.slice a n c] (.l (xs.map Wlk.dat))) (hn : n ≤ 1048576) (hg : (wlkAll m xs && plcOk m) = g) :
    Calls Try.prog 68 #[.agg #[.int .i64 m.c, .int .i64 m.w], .slice a n c] w fun e w' => e = .returned (.bool g) ∧ Ext w w' := by
  subst hg; exact iWlkListOk_c m xs a n c w hx hn
end Go.Proofs.Ytcfbfpgcfnpdgaa
