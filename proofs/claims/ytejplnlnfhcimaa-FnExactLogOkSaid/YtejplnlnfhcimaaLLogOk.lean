/- FnExactLogOk: the program's function returns what the reference's returns; for all arguments. -/
import Derived.Test.YtejplnlnfhcimaaOk3
namespace Go.Proofs.Ytejplnlnfhcimaa
open Go.ChangeShapes Go.WideShapes Go.ChangeAt Go.RowKit

theorem fnExactLogOk_walk (m : Mp) (r : Rec) (W : World) : Calls Try.prog 12 #[.agg #[.int .i64 m.c, .int .i64 m.w], .agg #[.int .i64 r.kind, .int .i64 r.ord.who, .int .i64 r.ord.seq, .int .i64 r.ord.kind, .int .i64 r.ord.to_, .int .i64 r.ord.n, .int .i64 r.side, .int .i64 r.pcl.n, .int .i64 r.pcl.kind, .int .i64 r.pcl.wk.id, .int .i64 r.pcl.wk.at_, .int .i64 r.pcl.wk.coins, .int .i64 r.pcl.wk.seq, .int .i64 r.pcl.wk.last, .int .i64 r.pcl.coins, .int .i64 r.n]] W fun e W' => e = .returned (.bool true) ∧ Below W.heap.size W W' := by
  go_enter Try.func12, Try.ntmps12
  go_wp2
  refine wp_region_ext (by kernel_rfl) (by kernel_rfl) ?_
  repeat (go_big_quiet_step ((first | (go_at_call 16; first | exact quiet_call (toMp_c _ _) | exact quiet_call2 (toMp_c _ _)) | (go_at_call 37; first | exact quiet_call (toRec_c _ _) | exact quiet_call2 (toRec_c _ _)) | (go_at_call 36; first | exact quiet_call (sLogOk_c _ _ _) | exact quiet_call2 (sLogOk_c _ _ _)))))
  refine wpQuiet_nil ?_
  rintro _ ⟨tq, rfl⟩
  go_wp2
  refine wp_region_ext (by kernel_rfl) (by kernel_rfl) ?_
  repeat (go_big_quiet_step ((first | (go_at_call 16; first | exact quiet_call (toMp_c _ _) | exact quiet_call2 (toMp_c _ _)) | (go_at_call 37; first | exact quiet_call (toRec_c _ _) | exact quiet_call2 (toRec_c _ _)) | (go_at_call 38; first | exact quiet_call (iLogOk_c _ _ _) | exact quiet_call2 (iLogOk_c _ _ _)))))
  refine wpQuiet_nil ?_
  rintro _ ⟨tq, rfl⟩
  go_wp2
  go_ret
  exact ⟨rfl, Ext.below (by repeat (first | exact Ext.refl _ | apply Ext.alloc | apply Ext.ext | apply Ext.drew))⟩

set_option maxRecDepth 100000 in
theorem fnExactLogOk_lifted (os : Os) (started : os.Started) (H : Type) (enc : TypeId × Value → H) :
    ReturnsInHanded {} Try.checked os 12 .any (Rows.fnExactLogOkSpec.pre6 enc Try.prog Try.f12 Rows.fnExactLogOkRow.domain false) (Rows.fnExactLogOkSpec.post enc Try.prog Try.f12 false true false false) := by
  refine returnsInHanded_of_change (C := Try.checked) own_knob started (by kernel_rfl) Try.func12
    (ChangeSpec.witness6 (enc := enc) (C := Try.checked) false ⟨#[], #[.agg #[.int .i64 0, .int .i64 0], .agg #[.int .i64 0, .int .i64 0, .int .i64 0, .int .i64 0, .int .i64 0, .int .i64 0, .int .i64 0, .int .i64 0, .int .i64 0, .int .i64 0, .int .i64 0, .int .i64 0, .int .i64 0, .int .i64 0, .int .i64 0, .int .i64 0]], []⟩ 8 (by kernel_rfl) (by kernel_rfl) (by kernel_rfl) (by kernel_rfl)) ?_
  intro W base args ds gs before hval0 hW _ _
  have hval : ∀ (j : Nat) t v, Try.f12.params[j]? = some t → args[j]? = some v → Value.okWide Try.prog W .any base t v := hval0
  have hfin : ∀ W', Below W.heap.size W W' → Rows.fnExactLogOkSpec.post enc Try.prog Try.f12 false true false false W args (.bool true) W' := fun W' hb =>
    law_post laid_out rfl bool_ty rfl (by kernel_rfl) hW (fun ds h => by match ds, h with | [_, _], _ => rfl) hb
  suffices hwalk : Calls Try.prog 12 args W fun e W' => e = .returned (.bool true) ∧ Below W.heap.size W W' by
    refine hwalk.mono fun e W' ⟨he, hb⟩ => ?_
    subst he
    exact ⟨_, rfl, hfin W' hb⟩
  clear hfin
  obtain ⟨p, q, hA0, hV, _, hfz, hnd⟩ := hW
  have hA : DataW.TrodAll enc Try.prog W 0 (fun _ => true) true Try.f12.params.toList args.toList ds p := hA0
  clear hA0 hval0 hV hfz hnd
  rw [Try.params12] at hA hval
  obtain ⟨v0, vs0, d0, ds0, p0, q0, hargs0, _, _, h0, r0⟩ := trodAll_cons hA
  obtain ⟨v1, vs1, d1, ds1, p1, q1, hargs1, _, _, h1, r1⟩ := trodAll_cons r0
  obtain ⟨hnil, _, _⟩ := trodAll_nil r1
  obtain rfl : args = #[v0, v1] := by cases args; simp_all
  clear hargs0 hargs1 hnil
  obtain ⟨cs0, rfl, _⟩ := okWide_struct Try.underlying24 (hval 0 24 v0 rfl rfl)
  obtain ⟨e0, hd0⟩ := open_arg (s := sMp) (by kernel_rfl) h0
  obtain ⟨m, hm0, _⟩ := rd_Mp hd0
  obtain rfl : cs0 = m.cells.toArray := by rw [← hm0]; rfl
  obtain ⟨cs1, rfl, _⟩ := okWide_struct Try.underlying61 (hval 1 61 v1 rfl rfl)
  obtain ⟨e1, hd1⟩ := open_arg (s := sRec) (by kernel_rfl) h1
  obtain ⟨r, hm1, _⟩ := rd_Rec hd1
  obtain rfl : cs1 = r.cells.toArray := by rw [← hm1]; rfl
  exact fnExactLogOk_walk m r W

theorem fnExactLogOk_holds : Rows.FnExactLogOkSaid :=
  OpenClaim.holds_of_wide 12 Try.f12 rfl rfl rfl rfl rfl rfl rfl ⟨rfl, rfl, rfl, rfl, rfl⟩ rfl rfl rfl rfl rfl (by kernel_rfl) Try.func12 (by kernel_rfl)
    (of_decide_eq_true (by kernel_rfl)) (by unfold Func.isWrapper; rw [if_neg (by decide +kernel)]; exact ⟨rfl, rfl⟩)
    (fun os started H enc _ => fnExactLogOk_lifted os started H enc)


end Go.Proofs.Ytejplnlnfhcimaa
