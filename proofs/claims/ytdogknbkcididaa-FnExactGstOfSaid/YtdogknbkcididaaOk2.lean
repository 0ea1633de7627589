/- Parcels that are ok. -/
import Derived.Test.YtdogknbkcididaaOk
namespace Go.Proofs.Ytdogknbkcididaa
open Go.RowKit

def wlkZero (x : Wlk) : Bool := (x.id == 0) && (x.at_ == 0) && (x.coins == 0) && (x.seq == 0) && (x.last == 0)
def formed (p : Pcl) : Bool := inB p.n 0 4999 && ((p.kind == 1) && (p.coins == 0) || (p.kind == 2) && wlkZero p.wk && inB p.coins 1 9)
def pclOk (m : Mp) (p : Pcl) : Bool := plcOk m && formed p && ((p.kind == 2) || wlkOk m p.wk)

theorem formed_c (p : Pcl) (w : World) : Calls Try.prog 97 #[.agg #[.int .i64 p.n, .int .i64 p.kind, .int .i64 p.wk.id, .int .i64 p.wk.at_, .int .i64 p.wk.coins, .int .i64 p.wk.seq, .int .i64 p.wk.last, .int .i64 p.coins]] w fun e w' => e = .returned (.bool (formed p)) ∧ Ext w w' := by
  go_enter Try.func97, Try.ntmps97
  go_wp2_with (first | (go_at_call 51; refine (in_c _ _ _ _).mono ?_; rintro e w' ⟨rfl, rfl⟩))
  all_goals go_ret
  all_goals refine ⟨ret_bool ?_, (by ((try simp only [ext_drew]); (try simp only [ext_ext]); repeat (first | exact Ext.refl _ | with_reducible apply Ext.add | with_reducible apply Ext.dr | apply Ext.alloc | apply Ext.ext | apply Ext.drew | refine Ext.trans ?_ (by assumption))))⟩
  all_goals simp_all [formed, wlkZero]

theorem iPclOk_c (m : Mp) (p : Pcl) (w : World) : Calls Try.prog 93 #[.agg #[.int .i64 m.c, .int .i64 m.w], .agg #[.int .i64 p.n, .int .i64 p.kind, .int .i64 p.wk.id, .int .i64 p.wk.at_, .int .i64 p.wk.coins, .int .i64 p.wk.seq, .int .i64 p.wk.last, .int .i64 p.coins]] w fun e w' => e = .returned (.bool (pclOk m p)) ∧ Ext w w' := by
  go_enter Try.func93, Try.ntmps93
  go_wp2_with (first | (go_at_call 91; refine (iPlcOk_c _ _).mono ?_; rintro e w' ⟨rfl, t, rfl⟩) | (go_at_call 97; refine (formed_c _ _).mono ?_; rintro e w' ⟨rfl, t, rfl⟩) | (go_at_call 90; refine (iWlkOk_c _ _ _).mono ?_; rintro e w' ⟨rfl, t, rfl⟩))
  all_goals go_ret
  all_goals refine ⟨ret_bool ?_, (by ((try simp only [ext_drew]); (try simp only [ext_ext]); repeat (first | exact Ext.refl _ | with_reducible apply Ext.add | with_reducible apply Ext.dr | apply Ext.alloc | apply Ext.ext | apply Ext.drew | refine Ext.trans ?_ (by assumption))))⟩
  all_goals simp_all [pclOk]

theorem sPclOk_c (m : Mp) (p : Pcl) (w : World) : Calls Try.prog 95 #[.agg #[.int .i64 m.c, .int .i64 m.w], .agg #[.int .i64 p.n, .int .i64 p.kind, .int .i64 p.wk.id, .int .i64 p.wk.at_, .int .i64 p.wk.coins, .int .i64 p.wk.seq, .int .i64 p.wk.last, .int .i64 p.coins]] w fun e w' => e = .returned (.bool (pclOk m p)) ∧ Ext w w' := by
  go_enter Try.func95, Try.ntmps95
  go_wp2_with (first | (go_at_call 70; refine (sPlcOk_c _ _).mono ?_; rintro e w' ⟨rfl, t, rfl⟩) | (go_at_call 44; refine (l1In_c _ _ _ _).mono ?_; rintro e w' ⟨rfl, rfl⟩) | (go_at_call 87; refine (sWlkOk_c _ _ _).mono ?_; rintro e w' ⟨rfl, t, rfl⟩))
  all_goals go_ret
  all_goals refine ⟨ret_bool ?_, (by ((try simp only [ext_drew]); (try simp only [ext_ext]); repeat (first | exact Ext.refl _ | with_reducible apply Ext.add | with_reducible apply Ext.dr | apply Ext.alloc | apply Ext.ext | apply Ext.drew | refine Ext.trans ?_ (by assumption))))⟩
  all_goals simp_all [pclOk, formed, wlkZero]
end Go.Proofs.Ytdogknbkcididaa
