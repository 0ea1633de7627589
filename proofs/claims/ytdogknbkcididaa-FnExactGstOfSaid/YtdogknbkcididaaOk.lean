/- Walkers, orders and parcels that are ok, and the copies of plain structs that the laws make. -/
import Derived.Test.YtdogknbkcididaaScal
namespace Go.Proofs.Ytdogknbkcididaa
open Go.RowKit

def ranged (x : Wlk) : Bool := inB x.id 1 9 && inB x.coins 0 99 && inB x.seq 0 900 && inB x.last 0 9
def wlkOk (m : Mp) (x : Wlk) : Bool := (plcCell m x.at_ != -1) && ranged x
def ordOk (o : Ord) : Bool :=
  inB o.who 1 9 && inB o.seq 1 900 &&
    (if o.kind = 1 then inB o.to_ 0 1 && (o.n == 0)
     else if o.kind = 2 then inB o.to_ 1 9 && (o.to_ != o.who) && inB o.n 1 9
     else if o.kind = 3 ∨ o.kind = 4 then (o.to_ == 0) && inB o.n 1 9
     else if o.kind = 5 then inB o.to_ 0 1 && inB o.n 1 9
     else if o.kind = 6 then (o.to_ == 0) && (o.n == 0)
     else false)

theorem isWalker_c (n : Int) (w : World) : Calls Try.prog 98 #[.int .i64 n] w fun e w' => e = .returned (.bool (inB n 1 9)) ∧ w = w' := by
  go_enter Try.func98, Try.ntmps98
  go_wp2_with (first | (go_at_call 51; refine (in_c _ _ _ _).mono ?_; rintro e w' ⟨rfl, rfl⟩))
  go_ret
  exact ⟨rfl, rfl⟩

theorem ranged_c (x : Wlk) (w : World) : Calls Try.prog 96 #[.agg #[.int .i64 x.id, .int .i64 x.at_, .int .i64 x.coins, .int .i64 x.seq, .int .i64 x.last]] w fun e w' => e = .returned (.bool (ranged x)) ∧ Ext w w' := by
  go_enter Try.func96, Try.ntmps96
  go_wp2_with (first | (go_at_call 51; refine (in_c _ _ _ _).mono ?_; rintro e w' ⟨rfl, rfl⟩) | (go_at_call 98; refine (isWalker_c _ _).mono ?_; rintro e w' ⟨rfl, rfl⟩))
  all_goals go_ret
  all_goals refine ⟨ret_bool ?_, (by ((try simp only [ext_drew]); (try simp only [ext_ext]); repeat (first | exact Ext.refl _ | with_reducible apply Ext.add | with_reducible apply Ext.dr | apply Ext.alloc | apply Ext.ext | apply Ext.drew | refine Ext.trans ?_ (by assumption))))⟩
  all_goals simp_all [ranged]

theorem iWlkOk_c (m : Mp) (x : Wlk) (w : World) : Calls Try.prog 90 #[.agg #[.int .i64 m.c, .int .i64 m.w], .agg #[.int .i64 x.id, .int .i64 x.at_, .int .i64 x.coins, .int .i64 x.seq, .int .i64 x.last]] w fun e w' => e = .returned (.bool (wlkOk m x)) ∧ Ext w w' := by
  go_enter Try.func90, Try.ntmps90
  go_wp2_with (first | (go_at_call 77; refine (iPlcCell_c _ _ _).mono ?_; rintro e w' ⟨rfl, t, rfl⟩) | (go_at_call 96; refine (ranged_c _ _).mono ?_; rintro e w' ⟨rfl, t, rfl⟩))
  all_goals go_ret
  all_goals refine ⟨ret_bool ?_, (by ((try simp only [ext_drew]); (try simp only [ext_ext]); repeat (first | exact Ext.refl _ | with_reducible apply Ext.add | with_reducible apply Ext.dr | apply Ext.alloc | apply Ext.ext | apply Ext.drew | refine Ext.trans ?_ (by assumption))))⟩
  all_goals simp_all [wlkOk]

theorem sWlkOk_c (m : Mp) (x : Wlk) (w : World) : Calls Try.prog 87 #[.agg #[.int .i64 m.c, .int .i64 m.w], .agg #[.int .i64 x.id, .int .i64 x.at_, .int .i64 x.coins, .int .i64 x.seq, .int .i64 x.last]] w fun e w' => e = .returned (.bool (wlkOk m x)) ∧ Ext w w' := by
  go_enter Try.func87, Try.ntmps87
  go_wp2_with (first | (go_at_call 44; refine (l1In_c _ _ _ _).mono ?_; rintro e w' ⟨rfl, rfl⟩) | (go_at_call 46; refine (sPlcCell_c _ _ _).mono ?_; rintro e w' ⟨rfl, t, rfl⟩))
  all_goals go_ret
  all_goals refine ⟨ret_bool ?_, (by ((try simp only [ext_drew]); (try simp only [ext_ext]); repeat (first | exact Ext.refl _ | with_reducible apply Ext.add | with_reducible apply Ext.dr | apply Ext.alloc | apply Ext.ext | apply Ext.drew | refine Ext.trans ?_ (by assumption))))⟩
  all_goals simp_all [wlkOk, ranged]

end Go.Proofs.Ytdogknbkcididaa
