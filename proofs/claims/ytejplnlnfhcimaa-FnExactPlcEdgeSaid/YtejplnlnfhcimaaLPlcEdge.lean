/- FnExactPlcEdge: the program's function returns what the reference's returns; for all arguments. -/
import Derived.Test.YtejplnlnfhcimaaTo
namespace Go.Proofs.Ytejplnlnfhcimaa
open Go.ChangeShapes Go.WideShapes Go.ChangeAt Go.RowKit

theorem fnExactPlcEdge_walk (m : Mp) (p : Int) (s : Int) (W : World) : Calls Try.prog 9 #[.agg #[.int .i64 m.c, .int .i64 m.w], .int .i64 p, .int .i64 s] W fun e W' => e = .returned (.bool true) ∧ Below W.heap.size W W' := by
  go_enter Try.func9, Try.ntmps9
  go_wp2_with (first | (go_at_call 16; refine (toMp_c _ _).mono ?_; rintro e w' ⟨rfl, t, rfl⟩) | (go_at_call 29; refine (iPlcEdge_c _ _ _ _).mono ?_; rintro e w' ⟨rfl, t, rfl⟩) | (go_at_call 28; refine (sPlcEdge_c _ _ _ _).mono ?_; rintro e w' ⟨rfl, t, rfl⟩))
  go_ret
  exact ⟨rfl, Ext.below (by repeat (first | exact Ext.refl _ | apply Ext.alloc | apply Ext.ext | apply Ext.drew))⟩

set_option maxRecDepth 100000 in
theorem fnExactPlcEdge_lifted (os : Os) (started : os.Started) (H : Type) (enc : TypeId × Value → H) :
    ReturnsInHanded {} Try.checked os 9 .any (Rows.fnExactPlcEdgeSpec.pre6 enc Try.prog Try.f9 Rows.fnExactPlcEdgeRow.domain false) (Rows.fnExactPlcEdgeSpec.post enc Try.prog Try.f9 false true false false) := by
  refine returnsInHanded_of_change (C := Try.checked) own_knob started (by kernel_rfl) Try.func9
    (ChangeSpec.witness6 (enc := enc) (C := Try.checked) false ⟨#[], #[.agg #[.int .i64 0, .int .i64 0], .int .i64 0, .int .i64 0], []⟩ 8 (by kernel_rfl) (by kernel_rfl) (by kernel_rfl) (by kernel_rfl)) ?_
  intro W base args ds gs before hval0 hW _ _
  have hval : ∀ (j : Nat) t v, Try.f9.params[j]? = some t → args[j]? = some v → Value.okWide Try.prog W .any base t v := hval0
  have hfin : ∀ W', Below W.heap.size W W' → Rows.fnExactPlcEdgeSpec.post enc Try.prog Try.f9 false true false false W args (.bool true) W' := fun W' hb =>
    law_post laid_out rfl bool_ty rfl (by kernel_rfl) hW (fun ds h => by match ds, h with | [_, _, _], _ => rfl) hb
  suffices hwalk : Calls Try.prog 9 args W fun e W' => e = .returned (.bool true) ∧ Below W.heap.size W W' by
    refine hwalk.mono fun e W' ⟨he, hb⟩ => ?_
    subst he
    exact ⟨_, rfl, hfin W' hb⟩
  clear hfin
  obtain ⟨p, q, hA0, hV, _, hfz, hnd⟩ := hW
  have hA : DataW.TrodAll enc Try.prog W 0 (fun _ => true) true Try.f9.params.toList args.toList ds p := hA0
  clear hA0 hval0 hV hfz hnd
  rw [Try.params9] at hA hval
  obtain ⟨v0, vs0, d0, ds0, p0, q0, hargs0, _, _, h0, r0⟩ := trodAll_cons hA
  obtain ⟨v1, vs1, d1, ds1, p1, q1, hargs1, _, _, h1, r1⟩ := trodAll_cons r0
  obtain ⟨v2, vs2, d2, ds2, p2, q2, hargs2, _, _, h2, r2⟩ := trodAll_cons r1
  obtain ⟨hnil, _, _⟩ := trodAll_nil r2
  obtain rfl : args = #[v0, v1, v2] := by cases args; simp_all
  clear hargs0 hargs1 hargs2 hnil
  obtain ⟨cs0, rfl, _⟩ := okWide_struct Try.underlying24 (hval 0 24 v0 rfl rfl)
  obtain ⟨e0, hd0⟩ := open_arg (s := sMp) (by kernel_rfl) h0
  obtain ⟨m, hm0, _⟩ := rd_Mp hd0
  obtain rfl : cs0 = m.cells.toArray := by rw [← hm0]; rfl
  obtain ⟨p, rfl, _, _, _⟩ := open_int Try.underlying3 (hval 1 3 v1 rfl rfl) h1
  obtain ⟨s, rfl, _, _, _⟩ := open_int Try.underlying3 (hval 2 3 v2 rfl rfl) h2
  exact fnExactPlcEdge_walk m p s W

theorem fnExactPlcEdge_holds : Rows.FnExactPlcEdgeSaid :=
  OpenClaim.holds_of_wide 9 Try.f9 rfl rfl rfl rfl rfl rfl rfl ⟨rfl, rfl, rfl, rfl, rfl⟩ rfl rfl rfl rfl rfl (by kernel_rfl) Try.func9 (by kernel_rfl)
    (of_decide_eq_true (by kernel_rfl)) (by unfold Func.isWrapper; rw [if_neg (by decide +kernel)]; exact ⟨rfl, rfl⟩)
    (fun os started H enc _ => fnExactPlcEdge_lifted os started H enc)


end Go.Proofs.Ytejplnlnfhcimaa
