/- FnExactOrdOk: the program's function returns what the reference's returns; for all arguments. -/
import Derived.Test.YtejplnlnfhcimaaTo
namespace Go.Proofs.Ytejplnlnfhcimaa
open Go.ChangeShapes Go.WideShapes Go.ChangeAt Go.RowKit

theorem fnExactOrdOk_walk (o : Ord) (W : World) : Calls Try.prog 8 #[.agg #[.int .i64 o.who, .int .i64 o.seq, .int .i64 o.kind, .int .i64 o.to_, .int .i64 o.n]] W fun e W' => e = .returned (.bool true) ∧ Below W.heap.size W W' := by
  go_enter Try.func8, Try.ntmps8
  go_wp2_with (first | (go_at_call 26; refine (toOrd_c _ _).mono ?_; rintro e w' ⟨rfl, t, rfl⟩) | (go_at_call 27; refine (iOrdOk_c _ _).mono ?_; rintro e w' ⟨rfl, t, rfl⟩) | (go_at_call 25; refine (sOrdOk_c _ _).mono ?_; rintro e w' ⟨rfl, t, rfl⟩))
  go_ret
  exact ⟨rfl, Ext.below (by repeat (first | exact Ext.refl _ | apply Ext.alloc | apply Ext.ext | apply Ext.drew))⟩

set_option maxRecDepth 100000 in
theorem fnExactOrdOk_lifted (os : Os) (started : os.Started) (H : Type) (enc : TypeId × Value → H) :
    ReturnsInHanded {} Try.checked os 8 .any (Rows.fnExactOrdOkSpec.pre6 enc Try.prog Try.f8 Rows.fnExactOrdOkRow.domain false) (Rows.fnExactOrdOkSpec.post enc Try.prog Try.f8 false true false false) := by
  refine returnsInHanded_of_change (C := Try.checked) own_knob started (by kernel_rfl) Try.func8
    (ChangeSpec.witness6 (enc := enc) (C := Try.checked) false ⟨#[], #[.agg #[.int .i64 0, .int .i64 0, .int .i64 0, .int .i64 0, .int .i64 0]], []⟩ 8 (by kernel_rfl) (by kernel_rfl) (by kernel_rfl) (by kernel_rfl)) ?_
  intro W base args ds gs before hval0 hW _ _
  have hval : ∀ (j : Nat) t v, Try.f8.params[j]? = some t → args[j]? = some v → Value.okWide Try.prog W .any base t v := hval0
  have hfin : ∀ W', Below W.heap.size W W' → Rows.fnExactOrdOkSpec.post enc Try.prog Try.f8 false true false false W args (.bool true) W' := fun W' hb =>
    law_post laid_out rfl bool_ty rfl (by kernel_rfl) hW (fun ds h => by match ds, h with | [_], _ => rfl) hb
  suffices hwalk : Calls Try.prog 8 args W fun e W' => e = .returned (.bool true) ∧ Below W.heap.size W W' by
    refine hwalk.mono fun e W' ⟨he, hb⟩ => ?_
    subst he
    exact ⟨_, rfl, hfin W' hb⟩
  clear hfin
  obtain ⟨p, q, hA0, hV, _, hfz, hnd⟩ := hW
  have hA : DataW.TrodAll enc Try.prog W 0 (fun _ => true) true Try.f8.params.toList args.toList ds p := hA0
  clear hA0 hval0 hV hfz hnd
  rw [Try.params8] at hA hval
  obtain ⟨v0, vs0, d0, ds0, p0, q0, hargs0, _, _, h0, r0⟩ := trodAll_cons hA
  obtain ⟨hnil, _, _⟩ := trodAll_nil r0
  obtain rfl : args = #[v0] := by cases args; simp_all
  clear hargs0 hnil
  obtain ⟨cs0, rfl, _⟩ := okWide_struct Try.underlying40 (hval 0 40 v0 rfl rfl)
  obtain ⟨e0, hd0⟩ := open_arg (s := sOrd) (by kernel_rfl) h0
  obtain ⟨o, hm0, _⟩ := rd_Ord hd0
  obtain rfl : cs0 = o.cells.toArray := by rw [← hm0]; rfl
  exact fnExactOrdOk_walk o W

theorem fnExactOrdOk_holds : Rows.FnExactOrdOkSaid :=
  OpenClaim.holds_of_wide 8 Try.f8 rfl rfl rfl rfl rfl rfl rfl ⟨rfl, rfl, rfl, rfl, rfl⟩ rfl rfl rfl rfl rfl (by kernel_rfl) Try.func8 (by kernel_rfl)
    (of_decide_eq_true (by kernel_rfl)) (by unfold Func.isWrapper; rw [if_neg (by decide +kernel)]; exact ⟨rfl, rfl⟩)
    (fun os started H enc _ => fnExactOrdOk_lifted os started H enc)


end Go.Proofs.Ytejplnlnfhcimaa
