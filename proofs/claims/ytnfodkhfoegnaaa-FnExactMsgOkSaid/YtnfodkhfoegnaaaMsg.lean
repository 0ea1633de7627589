/- Messages that are ok. -/
import Derived.Test.YtnfodkhfoegnaaaOk3
namespace Go.Proofs.Ytnfodkhfoegnaaa
open Go.RowKit

def msgKind (m : Mp) (x : Msg) : Bool :=
  if x.kind = 1 then (x.side == 0) && inB x.n 1 900 && ordZero x.ord && pclZero x.pcl && gstZero x.gst
  else if x.kind = 2 ∨ x.kind = 4 then (x.side == 0) && (x.n == 0) && ordOk x.ord && pclZero x.pcl && gstZero x.gst
  else if x.kind = 3 then (x.side == 0) && inB x.n 1 9 && ordOk x.ord && pclZero x.pcl && gstZero x.gst
  else if x.kind = 5 then (plcSide m x.cell x.side != -1) && (x.n == 0) && pclOk m x.pcl && ordZero x.ord && gstZero x.gst
  else if x.kind = 6 then (plcSide m x.cell x.side != -1) && inB x.n 1 5000 && ordZero x.ord && pclZero x.pcl && gstZero x.gst
  else if x.kind = 7 then (plcSide m x.cell x.side != -1) && (x.n == 0) && gstOk m x.gst && (x.gst.src == plcSide m x.cell x.side) && ordZero x.ord && pclZero x.pcl
  else false
def msgOk (m : Mp) (s : Int) (x : Msg) : Bool :=
  plcOk m && inB s 1 3 && inB x.cell 0 (m.c - 1) && (if x.kind = 3 ∨ x.kind = 4 then (x.to_ == -1) else inB x.to_ 0 (s - 1)) && msgKind m x

theorem iMsgOk_bad (m : Mp) (s : Int) (x : Msg) (w : World) (h : plcOk m = false ∨ inB s 1 3 = false ∨ inB x.cell 0 (m.c - 1) = false) :
    Calls Try.prog 10 #[.agg #[.int .i64 m.c, .int .i64 m.w], .int .i64 s, .agg #[.int .i64 x.kind, .int .i64 x.to_, .int .i64 x.cell, .int .i64 x.side, .int .i64 x.n, .int .i64 x.ord.who, .int .i64 x.ord.seq, .int .i64 x.ord.kind, .int .i64 x.ord.to_, .int .i64 x.ord.n, .int .i64 x.pcl.n, .int .i64 x.pcl.kind, .int .i64 x.pcl.wk.id, .int .i64 x.pcl.wk.at_, .int .i64 x.pcl.wk.coins, .int .i64 x.pcl.wk.seq, .int .i64 x.pcl.wk.last, .int .i64 x.pcl.coins, .int .i64 x.gst.src, .int .i64 x.gst.count, .int .i64 x.gst.wk.id, .int .i64 x.gst.wk.at_, .int .i64 x.gst.wk.coins, .int .i64 x.gst.wk.seq, .int .i64 x.gst.wk.last]] w fun e w' => e = .returned (.bool (msgOk m s x)) ∧ Ext w w' := by
  have E := hid (show msgOk m s x = false by rcases h with h | h | h <;> simp [msgOk, h])
  cases h1 : plcOk m with
  | false =>
    clear h
    go_enter Try.func10, Try.ntmps10
    go_wp2_with (first | (go_at_call 41; refine (iPlcOk_c _ _).mono ?_; rintro e w' ⟨rfl, t, rfl⟩) | (go_at_call 42; refine (in_c _ _ _ _).mono ?_; rintro e w' ⟨rfl, rfl⟩) | (go_at_call 43; refine (hasCell_ok _ (by assumption) _ _).mono ?_; rintro e w' ⟨rfl, t, rfl⟩))
    go_ret
    exact ⟨ret_bool (by rw [E.out]), (by ((try simp only [ext_drew]); (try simp only [ext_ext]); repeat (first | exact Ext.refl _ | with_reducible apply Ext.add | with_reducible apply Ext.dr | apply Ext.alloc | apply Ext.ext | apply Ext.drew | refine Ext.trans ?_ (by assumption))))⟩
  | true =>
    cases h2 : inB s 1 3 with
    | false =>
      clear h
      go_enter Try.func10, Try.ntmps10
      go_wp2_with (first | (go_at_call 41; refine (iPlcOk_c _ _).mono ?_; rintro e w' ⟨rfl, t, rfl⟩) | (go_at_call 42; refine (in_c _ _ _ _).mono ?_; rintro e w' ⟨rfl, rfl⟩) | (go_at_call 43; refine (hasCell_ok _ (by assumption) _ _).mono ?_; rintro e w' ⟨rfl, t, rfl⟩))
      go_ret
      exact ⟨ret_bool (by rw [E.out]), (by ((try simp only [ext_drew]); (try simp only [ext_ext]); repeat (first | exact Ext.refl _ | with_reducible apply Ext.add | with_reducible apply Ext.dr | apply Ext.alloc | apply Ext.ext | apply Ext.drew | refine Ext.trans ?_ (by assumption))))⟩
    | true =>
      have h3 : inB x.cell 0 (m.c - 1) = false := by simp_all
      clear h
      go_enter Try.func10, Try.ntmps10
      go_wp2_with (first | (go_at_call 41; refine (iPlcOk_c _ _).mono ?_; rintro e w' ⟨rfl, t, rfl⟩) | (go_at_call 42; refine (in_c _ _ _ _).mono ?_; rintro e w' ⟨rfl, rfl⟩) | (go_at_call 43; refine (hasCell_ok _ (by assumption) _ _).mono ?_; rintro e w' ⟨rfl, t, rfl⟩))
      go_ret
      exact ⟨ret_bool (by rw [E.out]), (by ((try simp only [ext_drew]); (try simp only [ext_ext]); repeat (first | exact Ext.refl _ | with_reducible apply Ext.add | with_reducible apply Ext.dr | apply Ext.alloc | apply Ext.ext | apply Ext.drew | refine Ext.trans ?_ (by assumption))))⟩

end Go.Proofs.Ytnfodkhfoegnaaa
