/- FnExactSrvNew: the program's function returns what the reference's returns. -/
import Derived.Test.YteepfcdjaakdfaaSrvN
namespace Go.Proofs.Yteepfcdjaakdfaa
open Go.ChangeShapes Go.WideShapes Go.ChangeAt Go.RowKit

set_option maxRecDepth 100000 in
set_option maxHeartbeats 4000000 in
theorem fnExactSrvNew_walk (W : World) :
    Calls Try.prog 7 #[] W fun e W' => e = .returned (.bool true) ∧ Below W.heap.size W W' := by
  go_enter Try.func7, Try.ntmps7
  try go_wp2_with (first
      | (go_at_call 31; refine (sSrvNew_c _).mono ?_; rintro e w' ⟨rfl, t, rfl⟩) | (go_at_call 32; refine (iSrvNew_c _).mono ?_; rintro e w' ⟨rfl, t, rfl⟩) | (go_at_call 33; refine (eqSrv0 _).mono ?_; rintro e w' ⟨rfl, t, rfl⟩) | (go_at_call 34; refine (markSrv0 _ (by omega) _).mono ?_; rintro e w' ⟨rfl, t, rfl⟩) | (go_at_call 35; refine (heldSrv0 _ (by omega) _).mono ?_; rintro e w' ⟨rfl, t, rfl⟩)
      | (
        with_reducible refine wp_region_mix (by kernel_rfl) (by decide +kernel) ?_
        repeat (first
          | (refine mix_pure rfl ?_; (first | go_big_quiet_skip | (go_big_quiet_want; go_big_quiet_op; go_big_quiet_on)); refine wpQuiet_nil ?_)
          | (refine mix_skip (by rfl) ?_; (try simp only [Act.put, List.setIfInBounds_toArray, List.set_cons_zero, List.set_cons_succ]))
          | (refine mix_mk rfl (by rfl) (fun K hK => ?_); (first | (go_simp; first | (go_at_call 31; refine (sSrvNew_c _).mono ?_; rintro e w' ⟨rfl, t, rfl⟩) | (go_at_call 32; refine (iSrvNew_c _).mono ?_; rintro e w' ⟨rfl, t, rfl⟩) | (go_at_call 33; refine (eqSrv0 _).mono ?_; rintro e w' ⟨rfl, t, rfl⟩) | (go_at_call 34; refine (markSrv0 _ (by omega) _).mono ?_; rintro e w' ⟨rfl, t, rfl⟩) | (go_at_call 35; refine (heldSrv0 _ (by omega) _).mono ?_; rintro e w' ⟨rfl, t, rfl⟩) | skip)); (show K _ _); refine hK _ _ (show Ext _ _ from (by ((try simp only [ext_drew]); (try simp only [ext_ext]); repeat (first | exact Ext.refl _ | with_reducible apply Ext.add | with_reducible apply Ext.dr | apply Ext.alloc | apply Ext.ext | apply Ext.drew | refine Ext.trans ?_ (by assumption))))) ?_; clear hK K; (try simp only [Act.put, List.setIfInBounds_toArray, List.set_cons_zero, List.set_cons_succ])))
        refine mix_nil ?_)
      | (
        with_reducible refine wp_region_ext (by kernel_rfl) (by kernel_rfl) ?_
        repeat (first | go_big_quiet_skip | (go_big_quiet_want; go_big_quiet_op; first | go_big_quiet_on | (apply Exists.intro; refine ⟨fun _ => ?_, ?_⟩; ((first | (go_at_call 31; first | exact quiet_call (sSrvNew_c _) | exact quiet_call2 (sSrvNew_c _)) | (go_at_call 32; first | exact quiet_call (iSrvNew_c _) | exact quiet_call2 (iSrvNew_c _)) | (go_at_call 33; first | exact quiet_call (eqSrv0 _) | exact quiet_call2 (eqSrv0 _)) | (go_at_call 34; first | exact quiet_call (markSrv0 _ (by omega) _) | exact quiet_call2 (markSrv0 _ (by omega) _)) | (go_at_call 35; first | exact quiet_call (heldSrv0 _ (by omega) _) | exact quiet_call2 (heldSrv0 _ (by omega) _)))); (try rw [h1]); (try rw [h2]); (try rw [h3]); (try rw [h4]); (try rw [p1]); (try rw [p2]); (try rw [p3]); (try rw [p4]); (try rw [r1]); (try rw [r2]); (try rw [r3]); (try rw [r4]); (try rw [r5]); (try rw [r6]); (try rw [q3]); (try rw [q4]); (try rw [hp]); (try rw [hq]); go_big_quiet_on)))
        refine wpQuiet_nil ?_
        rintro _ ⟨tq, rfl⟩))
  go_ret
  exact ⟨rfl, Ext.below (by ((try simp only [ext_drew]); (try simp only [ext_ext]); repeat (first | exact Ext.refl _ | with_reducible apply Ext.add | with_reducible apply Ext.dr | apply Ext.alloc | apply Ext.ext | apply Ext.drew | refine Ext.trans ?_ (by assumption))))⟩

set_option maxRecDepth 100000 in
theorem fnExactSrvNew_lifted (os : Os) (started : os.Started) (H : Type) (enc : TypeId × Value → H) :
    ReturnsInHanded {} Try.checked os 7 .any (Rows.fnExactSrvNewSpec.pre6 enc Try.prog Try.f7 Rows.fnExactSrvNewRow.domain false) (Rows.fnExactSrvNewSpec.post enc Try.prog Try.f7 false true false false) := by
  refine returnsInHanded_of_change (C := Try.checked) own_knob started (by kernel_rfl) Try.func7
    (ChangeSpec.witness6 (enc := enc) (C := Try.checked) false ⟨#[], #[], []⟩ 8 (by kernel_rfl) (by kernel_rfl) (by kernel_rfl) (by kernel_rfl)) ?_
  intro W base args ds gs before hval0 hW _ _
  have hval : ∀ (j : Nat) t v, Try.f7.params[j]? = some t → args[j]? = some v → Value.okWide Try.prog W .any base t v := hval0
  have hfin : ∀ W', Below W.heap.size W W' → Rows.fnExactSrvNewSpec.post enc Try.prog Try.f7 false true false false W args (.bool true) W' := fun W' hb =>
    law_post laid_out rfl bool_ty rfl (by kernel_rfl) hW (fun ds h => by match ds, h with | [], _ => rfl) hb
  suffices hwalk : Calls Try.prog 7 args W fun e W' => e = .returned (.bool true) ∧ Below W.heap.size W W' by
    refine hwalk.mono fun e W' ⟨he, hb⟩ => ?_
    subst he
    exact ⟨_, rfl, hfin W' hb⟩
  clear hfin
  obtain ⟨p, q, hA0, hV, _, hfz, hnd⟩ := hW
  have hA : DataW.TrodAll enc Try.prog W 0 (fun _ => true) true Try.f7.params.toList args.toList ds p := hA0
  clear hA0 hval0 hV hfz hnd
  rw [Try.params7] at hA hval
  obtain ⟨hnil, _, _⟩ := trodAll_nil hA
  obtain rfl : args = #[] := by cases args; simp_all
  exact fnExactSrvNew_walk W

theorem fnExactSrvNew_holds : Rows.FnExactSrvNewSaid :=
  OpenClaim.holds_of_wide 7 Try.f7 rfl rfl rfl rfl rfl rfl rfl ⟨rfl, rfl, rfl, rfl, rfl⟩ rfl rfl rfl rfl rfl (by kernel_rfl) Try.func7 (by kernel_rfl)
    (of_decide_eq_true (by kernel_rfl)) (by unfold Func.isWrapper; rw [if_neg (by decide +kernel)]; exact ⟨rfl, rfl⟩)
    (fun os started H enc _ => fnExactSrvNew_lifted os started H enc)


end Go.Proofs.Yteepfcdjaakdfaa
