/- FnExactMsgOk: the program's function returns what the reference's returns; for all arguments. -/
import Derived.Test.YtnfodkhfoegnaaaMsgI
import Derived.Test.YtnfodkhfoegnaaaTMs
import Derived.Test.YtnfodkhfoegnaaaTMp
namespace Go.Proofs.Ytnfodkhfoegnaaa
open Go.ChangeShapes Go.WideShapes Go.ChangeAt Go.RowKit
set_option linter.unusedSimpArgs false
set_option linter.unusedVariables false

set_option maxRecDepth 100000 in
set_option maxHeartbeats 4000000 in
theorem fnExactMsgOk_walk (m : Mp) (s : Int) (x : Msg) (W : World) : Calls Try.prog 3 #[.agg #[.int .i64 m.c, .int .i64 m.w], .int .i64 s, .agg #[.int .i64 x.kind, .int .i64 x.to_, .int .i64 x.cell, .int .i64 x.side, .int .i64 x.n, .int .i64 x.ord.who, .int .i64 x.ord.seq, .int .i64 x.ord.kind, .int .i64 x.ord.to_, .int .i64 x.ord.n, .int .i64 x.pcl.n, .int .i64 x.pcl.kind, .int .i64 x.pcl.wk.id, .int .i64 x.pcl.wk.at_, .int .i64 x.pcl.wk.coins, .int .i64 x.pcl.wk.seq, .int .i64 x.pcl.wk.last, .int .i64 x.pcl.coins, .int .i64 x.gst.src, .int .i64 x.gst.count, .int .i64 x.gst.wk.id, .int .i64 x.gst.wk.at_, .int .i64 x.gst.wk.coins, .int .i64 x.gst.wk.seq, .int .i64 x.gst.wk.last]] W fun e W' => e = .returned (.bool true) ∧ Below W.heap.size W W' := by
  obtain ⟨v, hv⟩ : ∃ v, msgOk m s x = v := ⟨_, rfl⟩
  have HS := hid (fun (w : World) => (show Calls Try.prog 7 #[.agg #[.int .i64 m.c, .int .i64 m.w], .int .i64 s, .agg #[.int .i64 x.kind, .int .i64 x.to_, .int .i64 x.cell, .int .i64 x.side, .int .i64 x.n, .int .i64 x.ord.who, .int .i64 x.ord.seq, .int .i64 x.ord.kind, .int .i64 x.ord.to_, .int .i64 x.ord.n, .int .i64 x.pcl.n, .int .i64 x.pcl.kind, .int .i64 x.pcl.wk.id, .int .i64 x.pcl.wk.at_, .int .i64 x.pcl.wk.coins, .int .i64 x.pcl.wk.seq, .int .i64 x.pcl.wk.last, .int .i64 x.pcl.coins, .int .i64 x.gst.src, .int .i64 x.gst.count, .int .i64 x.gst.wk.id, .int .i64 x.gst.wk.at_, .int .i64 x.gst.wk.coins, .int .i64 x.gst.wk.seq, .int .i64 x.gst.wk.last]] w fun e w' => e = .returned (.bool v) ∧ Ext w w' from hv ▸ sMsgOk_c m s x w))
  have HI := hid (fun (w : World) => (show Calls Try.prog 10 #[.agg #[.int .i64 m.c, .int .i64 m.w], .int .i64 s, .agg #[.int .i64 x.kind, .int .i64 x.to_, .int .i64 x.cell, .int .i64 x.side, .int .i64 x.n, .int .i64 x.ord.who, .int .i64 x.ord.seq, .int .i64 x.ord.kind, .int .i64 x.ord.to_, .int .i64 x.ord.n, .int .i64 x.pcl.n, .int .i64 x.pcl.kind, .int .i64 x.pcl.wk.id, .int .i64 x.pcl.wk.at_, .int .i64 x.pcl.wk.coins, .int .i64 x.pcl.wk.seq, .int .i64 x.pcl.wk.last, .int .i64 x.pcl.coins, .int .i64 x.gst.src, .int .i64 x.gst.count, .int .i64 x.gst.wk.id, .int .i64 x.gst.wk.at_, .int .i64 x.gst.wk.coins, .int .i64 x.gst.wk.seq, .int .i64 x.gst.wk.last]] w fun e w' => e = .returned (.bool v) ∧ Ext w w' from hv ▸ iMsgOk_c m s x w))
  clear hv
  go_enter Try.func3, Try.ntmps3
  go_wp2_with (fail)
  with_reducible refine wp_region_mixT (by kernel_rfl) (by decide +kernel) ?_
  repeat (first
    | (((with_reducible refine mixload_gate (T1 := 33) ?_); refine mix_loadW (by rfl) _ _ rfl (W.heap.size + 1) #[.int .i64 x.kind, .int .i64 x.to_, .int .i64 x.cell, .int .i64 x.side, .int .i64 x.n, .int .i64 x.ord.who, .int .i64 x.ord.seq, .int .i64 x.ord.kind, .int .i64 x.ord.to_, .int .i64 x.ord.n, .int .i64 x.pcl.n, .int .i64 x.pcl.kind, .int .i64 x.pcl.wk.id, .int .i64 x.pcl.wk.at_, .int .i64 x.pcl.wk.coins, .int .i64 x.pcl.wk.seq, .int .i64 x.pcl.wk.last, .int .i64 x.pcl.coins, .int .i64 x.gst.src, .int .i64 x.gst.count, .int .i64 x.gst.wk.id, .int .i64 x.gst.wk.at_, .int .i64 x.gst.wk.coins, .int .i64 x.gst.wk.seq, .int .i64 x.gst.wk.last] 33 _ rfl (by rintro w9 ⟨t9, rfl⟩; (repeat (first | with_reducible refine blk_ext ?_ | with_reducible apply blk_drew)); exact alloc_last (by (try simp [go_sem]) <;> (try simp [Xt.add]) <;> omega)) Try.underlying33 rfl (by kernel_rfl) ?_); (try simp only [Act.put, List.setIfInBounds_toArray, List.set_cons_zero, List.set_cons_succ]))
    | (refine mix_pure rfl ?_; (first | go_big_quiet_skip | (go_big_quiet_want; go_big_quiet_op; go_big_quiet_on)); refine wpQuiet_nil ?_)
    | (refine mix_skip (by rfl) ?_; (try simp only [Act.put, List.setIfInBounds_toArray, List.set_cons_zero, List.set_cons_succ]))
    | (refine mix_mk rfl (by rfl) (fun K hK => ?_); (first | (go_simp; first | (go_at_call 8; refine (toMp_c _ _).mono ?_; rintro e w' ⟨rfl, t, rfl⟩) | (go_at_call 9; refine (toMsgX_c _ _).mono ?_; rintro e w' ⟨rfl, t, rfl⟩) | (go_at_call 7; (with_reducible refine (HS.out _).mono ?_); rintro e w' ⟨rfl, t, rfl⟩) | skip)); (show K _ _); refine hK _ _ (show Ext _ _ from (by ((try simp only [ext_drew]); (try simp only [ext_ext]); repeat (first | exact Ext.refl _ | with_reducible apply Ext.add | with_reducible apply Ext.dr | apply Ext.alloc | apply Ext.ext | apply Ext.drew | refine Ext.trans ?_ (by assumption))))) ?_; clear hK K; (try simp only [Act.put, List.setIfInBounds_toArray, List.set_cons_zero, List.set_cons_succ])))
  refine mix_nil ?_
  go_wp2_with (fail)
  with_reducible refine wp_region_mixT (by kernel_rfl) (by decide +kernel) ?_
  repeat (first
    | (((with_reducible refine mixload_gate (T1 := 33) ?_); refine mix_loadW (by rfl) _ _ rfl (W.heap.size + 1) #[.int .i64 x.kind, .int .i64 x.to_, .int .i64 x.cell, .int .i64 x.side, .int .i64 x.n, .int .i64 x.ord.who, .int .i64 x.ord.seq, .int .i64 x.ord.kind, .int .i64 x.ord.to_, .int .i64 x.ord.n, .int .i64 x.pcl.n, .int .i64 x.pcl.kind, .int .i64 x.pcl.wk.id, .int .i64 x.pcl.wk.at_, .int .i64 x.pcl.wk.coins, .int .i64 x.pcl.wk.seq, .int .i64 x.pcl.wk.last, .int .i64 x.pcl.coins, .int .i64 x.gst.src, .int .i64 x.gst.count, .int .i64 x.gst.wk.id, .int .i64 x.gst.wk.at_, .int .i64 x.gst.wk.coins, .int .i64 x.gst.wk.seq, .int .i64 x.gst.wk.last] 33 _ rfl (by rintro w9 ⟨t9, rfl⟩; (repeat (first | with_reducible refine blk_ext ?_ | with_reducible apply blk_drew)); exact alloc_last (by (try simp [go_sem]) <;> (try simp [Xt.add]) <;> omega)) Try.underlying33 rfl (by kernel_rfl) ?_); (try simp only [Act.put, List.setIfInBounds_toArray, List.set_cons_zero, List.set_cons_succ]))
    | (refine mix_pure rfl ?_; (first | go_big_quiet_skip | (go_big_quiet_want; go_big_quiet_op; go_big_quiet_on)); refine wpQuiet_nil ?_)
    | (refine mix_skip (by rfl) ?_; (try simp only [Act.put, List.setIfInBounds_toArray, List.set_cons_zero, List.set_cons_succ]))
    | (refine mix_mk rfl (by rfl) (fun K hK => ?_); (first | (go_simp; first | (go_at_call 8; refine (toMp_c _ _).mono ?_; rintro e w' ⟨rfl, t, rfl⟩) | (go_at_call 9; refine (toMsgX_c _ _).mono ?_; rintro e w' ⟨rfl, t, rfl⟩) | (go_at_call 10; (with_reducible refine (HI.out _).mono ?_); rintro e w' ⟨rfl, t, rfl⟩) | skip)); (show K _ _); refine hK _ _ (show Ext _ _ from (by ((try simp only [ext_drew]); (try simp only [ext_ext]); repeat (first | exact Ext.refl _ | with_reducible apply Ext.add | with_reducible apply Ext.dr | apply Ext.alloc | apply Ext.ext | apply Ext.drew | refine Ext.trans ?_ (by assumption))))) ?_; clear hK K; (try simp only [Act.put, List.setIfInBounds_toArray, List.set_cons_zero, List.set_cons_succ])))
  refine mix_nil ?_
  go_wp2_with (fail)
  go_ret
  exact ⟨rfl, Ext.below (by ((try simp only [ext_drew]); (try simp only [ext_ext]); repeat (first | exact Ext.refl _ | with_reducible apply Ext.add | with_reducible apply Ext.dr | apply Ext.alloc | apply Ext.ext | apply Ext.drew | refine Ext.trans ?_ (by assumption))))⟩

set_option maxRecDepth 100000 in
theorem fnExactMsgOk_lifted (os : Os) (started : os.Started) (H : Type) (enc : TypeId × Value → H) :
    ReturnsInHanded {} Try.checked os 3 .any (Rows.fnExactMsgOkSpec.pre6 enc Try.prog Try.f3 Rows.fnExactMsgOkRow.domain false) (Rows.fnExactMsgOkSpec.post enc Try.prog Try.f3 false true false false) := by
  refine returnsInHanded_of_change (C := Try.checked) own_knob started (by kernel_rfl) Try.func3
    (ChangeSpec.witness6 (enc := enc) (C := Try.checked) false ⟨#[], #[.agg #[.int .i64 0, .int .i64 0], .int .i64 0, .agg #[.int .i64 0, .int .i64 0, .int .i64 0, .int .i64 0, .int .i64 0, .int .i64 0, .int .i64 0, .int .i64 0, .int .i64 0, .int .i64 0, .int .i64 0, .int .i64 0, .int .i64 0, .int .i64 0, .int .i64 0, .int .i64 0, .int .i64 0, .int .i64 0, .int .i64 0, .int .i64 0, .int .i64 0, .int .i64 0, .int .i64 0, .int .i64 0, .int .i64 0]], []⟩ 8 (by kernel_rfl) (by kernel_rfl) (by kernel_rfl) (by kernel_rfl)) ?_
  intro W base args ds gs before hval0 hW _ _
  have hval : ∀ (j : Nat) t v, Try.f3.params[j]? = some t → args[j]? = some v → Value.okWide Try.prog W .any base t v := hval0
  have hfin : ∀ W', Below W.heap.size W W' → Rows.fnExactMsgOkSpec.post enc Try.prog Try.f3 false true false false W args (.bool true) W' := fun W' hb =>
    law_post laid_out rfl bool_ty rfl (by kernel_rfl) hW (fun ds h => by match ds, h with | [_, _, _], _ => rfl) hb
  suffices hwalk : Calls Try.prog 3 args W fun e W' => e = .returned (.bool true) ∧ Below W.heap.size W W' by
    refine hwalk.mono fun e W' ⟨he, hb⟩ => ?_
    subst he
    exact ⟨_, rfl, hfin W' hb⟩
  clear hfin
  obtain ⟨p, q, hA0, hV, _, hfz, hnd⟩ := hW
  have hA : DataW.TrodAll enc Try.prog W 0 (fun _ => true) true Try.f3.params.toList args.toList ds p := hA0
  clear hA0 hval0 hV hfz hnd
  rw [Try.params3] at hA hval
  obtain ⟨v0, vs0, d0, ds0, p0, q0, hargs0, _, _, h0, r0⟩ := trodAll_cons hA
  obtain ⟨v1, vs1, d1, ds1, p1, q1, hargs1, _, _, h1, r1⟩ := trodAll_cons r0
  obtain ⟨v2, vs2, d2, ds2, p2, q2, hargs2, _, _, h2, r2⟩ := trodAll_cons r1
  obtain ⟨hnil, _, _⟩ := trodAll_nil r2
  obtain rfl : args = #[v0, v1, v2] := by cases args; simp_all
  clear hargs0 hargs1 hargs2 hnil
  obtain ⟨cs0, rfl, _⟩ := okWide_struct Try.underlying23 (hval 0 23 v0 rfl rfl)
  obtain ⟨e0, hd0⟩ := open_arg (s := sMp) (by kernel_rfl) h0
  obtain ⟨m, hm0, _⟩ := rd_Mp hd0
  obtain rfl : cs0 = m.cells.toArray := by rw [← hm0]; rfl
  obtain ⟨s, rfl, _, _, _⟩ := open_int Try.underlying3 (hval 1 3 v1 rfl rfl) h1
  obtain ⟨cs2, rfl, _⟩ := okWide_struct Try.underlying33 (hval 2 33 v2 rfl rfl)
  obtain ⟨e2, hd2⟩ := open_arg (s := sMsg) (by kernel_rfl) h2
  obtain ⟨x, hm2, _⟩ := rd_Msg hd2
  obtain rfl : cs2 = x.cells.toArray := by rw [← hm2]; rfl
  exact fnExactMsgOk_walk m s x W

theorem fnExactMsgOk_holds : Rows.FnExactMsgOkSaid :=
  OpenClaim.holds_of_wide 3 Try.f3 rfl rfl rfl rfl rfl rfl rfl ⟨rfl, rfl, rfl, rfl, rfl⟩ rfl rfl rfl rfl rfl (by kernel_rfl) Try.func3 (by kernel_rfl)
    (of_decide_eq_true (by kernel_rfl)) (by unfold Func.isWrapper; rw [if_neg (by decide +kernel)]; exact ⟨rfl, rfl⟩)
    (fun os started H enc _ => fnExactMsgOk_lifted os started H enc)


end Go.Proofs.Ytnfodkhfoegnaaa
