/- FnExactGwyOk: the program's function returns what the reference's returns; for all arguments. -/
import Derived.Test.YtaepmhoedaogkaaGwyS
import Derived.Test.YtaepmhoedaogkaaGwyI
import Derived.Test.YtaepmhoedaogkaaTMp
namespace Go.Proofs.Ytaepmhoedaogkaa
open Go.ChangeShapes Go.WideShapes Go.ChangeAt Go.RowKit

set_option maxRecDepth 100000 in
set_option maxHeartbeats 4000000 in
theorem fnExactGwyOk_walk (W : World) (m : Mp) (b_a : Option Addr) (b_n b_c : Nat) (b : List Row) (h_b : Re W (.sl sRow) [.slice b_a b_n b_c] (.l (b.map Row.dat))) :
    Calls Try.prog 12 #[.agg #[.int .i64 m.c, .int .i64 m.w], .agg #[.slice b_a b_n b_c]] W fun e W' => e = .returned (.bool true) ∧ Below W.heap.size W W' := by
  have m_b_n := h_b.max
  have H_b := hid h_b
  clear h_b
  by_cases s_b_n : (1048576 : Int) < 0 + (b_n : Int)
  · go_enter Try.func12, Try.ntmps12
    try go_wp2_with (first
        | (go_at_call 54; refine (szGwy_c _ _ _ _ _ (by omega) (by omega) (by assumption)).mono ?_; rintro e w' ⟨rfl, t, rfl⟩)
        | (
          with_reducible refine wp_region_mix (by kernel_rfl) (by decide +kernel) ?_
          repeat (first
            | (refine mix_pure rfl ?_; (first | go_big_quiet_skip | (go_big_quiet_want; go_big_quiet_op; go_big_quiet_on)); refine wpQuiet_nil ?_)
            | (refine mix_skip (by rfl) ?_; (try simp only [Act.put, List.setIfInBounds_toArray, List.set_cons_zero, List.set_cons_succ]))
            | (refine mix_mk rfl (by rfl) (fun K hK => ?_); (first | (go_simp; first | (go_at_call 54; refine (szGwy_c _ _ _ _ _ (by omega) (by omega) (by assumption)).mono ?_; rintro e w' ⟨rfl, t, rfl⟩) | skip)); (show K _ _); refine hK _ _ (show Ext _ _ from (by ((try simp only [ext_drew]); (try simp only [ext_ext]); repeat (first | exact Ext.refl _ | with_reducible apply Ext.add | with_reducible apply Ext.dr | apply Ext.alloc | apply Ext.ext | apply Ext.drew | refine Ext.trans ?_ (by assumption))))) ?_; clear hK K; (try simp only [Act.put, List.setIfInBounds_toArray, List.set_cons_zero, List.set_cons_succ])))
          refine mix_nil ?_)
        | (
          with_reducible refine wp_region_ext (by kernel_rfl) (by kernel_rfl) ?_
          repeat (first | go_big_quiet_skip | (go_big_quiet_want; go_big_quiet_op; first | go_big_quiet_on | (apply Exists.intro; refine ⟨fun _ => ?_, ?_⟩; ((first | (go_at_call 54; first | exact quiet_call (szGwy_c _ _ _ _ _ (by omega) (by omega) (by assumption)) | exact quiet_call2 (szGwy_c _ _ _ _ _ (by omega) (by omega) (by assumption))))); (try rw [h1]); (try rw [h2]); (try rw [h3]); (try rw [h4]); (try rw [p1]); (try rw [p2]); (try rw [p3]); (try rw [p4]); (try rw [r1]); (try rw [r2]); (try rw [r3]); (try rw [r4]); (try rw [r5]); (try rw [r6]); (try rw [q3]); (try rw [q4]); (try rw [hp]); (try rw [hq]); go_big_quiet_on)))
          refine wpQuiet_nil ?_
          rintro _ ⟨tq, rfl⟩))
    go_ret
    exact ⟨rfl, Ext.below (by ((try simp only [ext_drew]); (try simp only [ext_ext]); repeat (first | exact Ext.refl _ | with_reducible apply Ext.add | with_reducible apply Ext.dr | apply Ext.alloc | apply Ext.ext | apply Ext.drew | refine Ext.trans ?_ (by assumption))))⟩
  · go_enter Try.func12, Try.ntmps12
    try go_wp2_with (first
        | (go_at_call 54; refine (szGwy_c _ _ _ _ _ (by omega) (by omega) (by assumption)).mono ?_; rintro e w' ⟨rfl, t, rfl⟩) | (go_at_call 46; refine (toMp_c _ _).mono ?_; rintro e w' ⟨rfl, t, rfl⟩) | (go_at_call 56; refine (toGwy_c _ _ _ _ _ (Re.of (Hid.out (by assumption)) (by ((try simp only [ext_drew]); (try simp only [ext_ext]); repeat (first | exact Ext.refl _ | with_reducible apply Ext.add | with_reducible apply Ext.dr | apply Ext.alloc | apply Ext.ext | apply Ext.drew | refine Ext.trans ?_ (by assumption))))) (by omega)).mono ?_; rintro e w' ⟨a0, c0, rfl, ⟨t, rfl⟩, ho⟩; have hR := re_Gwy ho.re; have hR0 := hid hR; clear hR; have hO := hid ho; clear ho) | (go_at_call 55; refine (sGwyOk_c _ _ _ _ _ _ (Re.of (Hid.out (by assumption)) (by ((try simp only [ext_drew]); (try simp only [ext_ext]); repeat (first | exact Ext.refl _ | with_reducible apply Ext.add | with_reducible apply Ext.dr | apply Ext.alloc | apply Ext.ext | apply Ext.drew | refine Ext.trans ?_ (by assumption))))) (by omega)).mono ?_; rintro e w' ⟨rfl, t, rfl⟩) | (go_at_call 57; refine (iGwyOk_c _ _ _ _ _ _ (Re.of (Hid.out (by assumption)) (by ((try simp only [ext_drew]); (try simp only [ext_ext]); repeat (first | exact Ext.refl _ | with_reducible apply Ext.add | with_reducible apply Ext.dr | apply Ext.alloc | apply Ext.ext | apply Ext.drew | refine Ext.trans ?_ (by assumption))))) (by omega)).mono ?_; rintro e w' ⟨rfl, t, rfl⟩) | (go_at_call 58; refine (eqGwy_c _ _ _ _ _ _ _ (Re.of (Hid.out (by assumption)) (by ((try simp only [ext_drew]); (try simp only [ext_ext]); repeat (first | exact Ext.refl _ | with_reducible apply Ext.add | with_reducible apply Ext.dr | apply Ext.alloc | apply Ext.ext | apply Ext.drew | refine Ext.trans ?_ (by assumption))))) (Re.of (Hid.out (by assumption)) (by ((try simp only [ext_drew]); (try simp only [ext_ext]); repeat (first | exact Ext.refl _ | with_reducible apply Ext.add | with_reducible apply Ext.dr | apply Ext.alloc | apply Ext.ext | apply Ext.drew | refine Ext.trans ?_ (by assumption))))) (by omega)).mono ?_; rintro e w' ⟨rfl, t, rfl⟩)
        | (
          with_reducible refine wp_region_mix (by kernel_rfl) (by decide +kernel) ?_
          repeat (first
            | (refine mix_pure rfl ?_; (first | go_big_quiet_skip | (go_big_quiet_want; go_big_quiet_op; go_big_quiet_on)); refine wpQuiet_nil ?_)
            | (refine mix_skip (by rfl) ?_; (try simp only [Act.put, List.setIfInBounds_toArray, List.set_cons_zero, List.set_cons_succ]))
            | (refine mix_mk rfl (by rfl) (fun K hK => ?_); (first | (go_simp; first | (go_at_call 54; refine (szGwy_c _ _ _ _ _ (by omega) (by omega) (by assumption)).mono ?_; rintro e w' ⟨rfl, t, rfl⟩) | (go_at_call 46; refine (toMp_c _ _).mono ?_; rintro e w' ⟨rfl, t, rfl⟩) | (go_at_call 56; refine (toGwy_c _ _ _ _ _ (Re.of (Hid.out (by assumption)) (by ((try simp only [ext_drew]); (try simp only [ext_ext]); repeat (first | exact Ext.refl _ | with_reducible apply Ext.add | with_reducible apply Ext.dr | apply Ext.alloc | apply Ext.ext | apply Ext.drew | refine Ext.trans ?_ (by assumption))))) (by omega)).mono ?_; rintro e w' ⟨a0, c0, rfl, ⟨t, rfl⟩, ho⟩; have hR := re_Gwy ho.re; have hR0 := hid hR; clear hR; have hO := hid ho; clear ho) | (go_at_call 55; refine (sGwyOk_c _ _ _ _ _ _ (Re.of (Hid.out (by assumption)) (by ((try simp only [ext_drew]); (try simp only [ext_ext]); repeat (first | exact Ext.refl _ | with_reducible apply Ext.add | with_reducible apply Ext.dr | apply Ext.alloc | apply Ext.ext | apply Ext.drew | refine Ext.trans ?_ (by assumption))))) (by omega)).mono ?_; rintro e w' ⟨rfl, t, rfl⟩) | (go_at_call 57; refine (iGwyOk_c _ _ _ _ _ _ (Re.of (Hid.out (by assumption)) (by ((try simp only [ext_drew]); (try simp only [ext_ext]); repeat (first | exact Ext.refl _ | with_reducible apply Ext.add | with_reducible apply Ext.dr | apply Ext.alloc | apply Ext.ext | apply Ext.drew | refine Ext.trans ?_ (by assumption))))) (by omega)).mono ?_; rintro e w' ⟨rfl, t, rfl⟩) | (go_at_call 58; refine (eqGwy_c _ _ _ _ _ _ _ (Re.of (Hid.out (by assumption)) (by ((try simp only [ext_drew]); (try simp only [ext_ext]); repeat (first | exact Ext.refl _ | with_reducible apply Ext.add | with_reducible apply Ext.dr | apply Ext.alloc | apply Ext.ext | apply Ext.drew | refine Ext.trans ?_ (by assumption))))) (Re.of (Hid.out (by assumption)) (by ((try simp only [ext_drew]); (try simp only [ext_ext]); repeat (first | exact Ext.refl _ | with_reducible apply Ext.add | with_reducible apply Ext.dr | apply Ext.alloc | apply Ext.ext | apply Ext.drew | refine Ext.trans ?_ (by assumption))))) (by omega)).mono ?_; rintro e w' ⟨rfl, t, rfl⟩) | skip)); (show K _ _); refine hK _ _ (show Ext _ _ from (by ((try simp only [ext_drew]); (try simp only [ext_ext]); repeat (first | exact Ext.refl _ | with_reducible apply Ext.add | with_reducible apply Ext.dr | apply Ext.alloc | apply Ext.ext | apply Ext.drew | refine Ext.trans ?_ (by assumption))))) ?_; clear hK K; (try simp only [Act.put, List.setIfInBounds_toArray, List.set_cons_zero, List.set_cons_succ])))
          refine mix_nil ?_)
        | (
          with_reducible refine wp_region_ext (by kernel_rfl) (by kernel_rfl) ?_
          repeat (first | go_big_quiet_skip | (go_big_quiet_want; go_big_quiet_op; first | go_big_quiet_on | (apply Exists.intro; refine ⟨fun _ => ?_, ?_⟩; ((first | (go_at_call 54; first | exact quiet_call (szGwy_c _ _ _ _ _ (by omega) (by omega) (by assumption)) | exact quiet_call2 (szGwy_c _ _ _ _ _ (by omega) (by omega) (by assumption))) | (go_at_call 46; first | exact quiet_call (toMp_c _ _) | exact quiet_call2 (toMp_c _ _)) | (go_at_call 56; first | exact quiet_call (toGwy_c _ _ _ _ _ (Re.of (Hid.out (by assumption)) (by ((try simp only [ext_drew]); (try simp only [ext_ext]); repeat (first | exact Ext.refl _ | with_reducible apply Ext.add | with_reducible apply Ext.dr | apply Ext.alloc | apply Ext.ext | apply Ext.drew | refine Ext.trans ?_ (by assumption))))) (by omega)) | exact quiet_call2 (toGwy_c _ _ _ _ _ (Re.of (Hid.out (by assumption)) (by ((try simp only [ext_drew]); (try simp only [ext_ext]); repeat (first | exact Ext.refl _ | with_reducible apply Ext.add | with_reducible apply Ext.dr | apply Ext.alloc | apply Ext.ext | apply Ext.drew | refine Ext.trans ?_ (by assumption))))) (by omega))) | (go_at_call 55; first | exact quiet_call (sGwyOk_c _ _ _ _ _ _ (Re.of (Hid.out (by assumption)) (by ((try simp only [ext_drew]); (try simp only [ext_ext]); repeat (first | exact Ext.refl _ | with_reducible apply Ext.add | with_reducible apply Ext.dr | apply Ext.alloc | apply Ext.ext | apply Ext.drew | refine Ext.trans ?_ (by assumption))))) (by omega)) | exact quiet_call2 (sGwyOk_c _ _ _ _ _ _ (Re.of (Hid.out (by assumption)) (by ((try simp only [ext_drew]); (try simp only [ext_ext]); repeat (first | exact Ext.refl _ | with_reducible apply Ext.add | with_reducible apply Ext.dr | apply Ext.alloc | apply Ext.ext | apply Ext.drew | refine Ext.trans ?_ (by assumption))))) (by omega))) | (go_at_call 57; first | exact quiet_call (iGwyOk_c _ _ _ _ _ _ (Re.of (Hid.out (by assumption)) (by ((try simp only [ext_drew]); (try simp only [ext_ext]); repeat (first | exact Ext.refl _ | with_reducible apply Ext.add | with_reducible apply Ext.dr | apply Ext.alloc | apply Ext.ext | apply Ext.drew | refine Ext.trans ?_ (by assumption))))) (by omega)) | exact quiet_call2 (iGwyOk_c _ _ _ _ _ _ (Re.of (Hid.out (by assumption)) (by ((try simp only [ext_drew]); (try simp only [ext_ext]); repeat (first | exact Ext.refl _ | with_reducible apply Ext.add | with_reducible apply Ext.dr | apply Ext.alloc | apply Ext.ext | apply Ext.drew | refine Ext.trans ?_ (by assumption))))) (by omega))) | (go_at_call 58; first | exact quiet_call (eqGwy_c _ _ _ _ _ _ _ (Re.of (Hid.out (by assumption)) (by ((try simp only [ext_drew]); (try simp only [ext_ext]); repeat (first | exact Ext.refl _ | with_reducible apply Ext.add | with_reducible apply Ext.dr | apply Ext.alloc | apply Ext.ext | apply Ext.drew | refine Ext.trans ?_ (by assumption))))) (Re.of (Hid.out (by assumption)) (by ((try simp only [ext_drew]); (try simp only [ext_ext]); repeat (first | exact Ext.refl _ | with_reducible apply Ext.add | with_reducible apply Ext.dr | apply Ext.alloc | apply Ext.ext | apply Ext.drew | refine Ext.trans ?_ (by assumption))))) (by omega)) | exact quiet_call2 (eqGwy_c _ _ _ _ _ _ _ (Re.of (Hid.out (by assumption)) (by ((try simp only [ext_drew]); (try simp only [ext_ext]); repeat (first | exact Ext.refl _ | with_reducible apply Ext.add | with_reducible apply Ext.dr | apply Ext.alloc | apply Ext.ext | apply Ext.drew | refine Ext.trans ?_ (by assumption))))) (Re.of (Hid.out (by assumption)) (by ((try simp only [ext_drew]); (try simp only [ext_ext]); repeat (first | exact Ext.refl _ | with_reducible apply Ext.add | with_reducible apply Ext.dr | apply Ext.alloc | apply Ext.ext | apply Ext.drew | refine Ext.trans ?_ (by assumption))))) (by omega))))); (try rw [h1]); (try rw [h2]); (try rw [h3]); (try rw [h4]); (try rw [p1]); (try rw [p2]); (try rw [p3]); (try rw [p4]); (try rw [r1]); (try rw [r2]); (try rw [r3]); (try rw [r4]); (try rw [r5]); (try rw [r6]); (try rw [q3]); (try rw [q4]); (try rw [hp]); (try rw [hq]); go_big_quiet_on)))
          refine wpQuiet_nil ?_
          rintro _ ⟨tq, rfl⟩))
    go_ret
    exact ⟨rfl, Ext.below (by ((try simp only [ext_drew]); (try simp only [ext_ext]); repeat (first | exact Ext.refl _ | with_reducible apply Ext.add | with_reducible apply Ext.dr | apply Ext.alloc | apply Ext.ext | apply Ext.drew | refine Ext.trans ?_ (by assumption))))⟩

set_option maxRecDepth 100000 in
theorem fnExactGwyOk_lifted (os : Os) (started : os.Started) (H : Type) (enc : TypeId × Value → H) :
    ReturnsInHanded {} Try.checked os 12 .any (Rows.fnExactGwyOkSpec.pre6 enc Try.prog Try.f12 Rows.fnExactGwyOkRow.domain false) (Rows.fnExactGwyOkSpec.post enc Try.prog Try.f12 false true false false) := by
  refine returnsInHanded_of_change (C := Try.checked) own_knob started (by kernel_rfl) Try.func12
    (ChangeSpec.witness6 (enc := enc) (C := Try.checked) false ⟨#[], #[.agg #[.int .i64 0, .int .i64 0], .agg #[.slice none 0 0]], []⟩ 8 (by kernel_rfl) (by kernel_rfl) (by kernel_rfl) (by kernel_rfl)) ?_
  intro W base args ds gs before hval0 hW _ _
  have hval : ∀ (j : Nat) t v, Try.f12.params[j]? = some t → args[j]? = some v → Value.okWide Try.prog W .any base t v := hval0
  have hfin : ∀ W', Below W.heap.size W W' → Rows.fnExactGwyOkSpec.post enc Try.prog Try.f12 false true false false W args (.bool true) W' := fun W' hb =>
    law_post laid_out rfl bool_ty rfl (by kernel_rfl) hW (fun ds h => by match ds, h with | [_, _], _ => rfl) hb
  suffices hwalk : Calls Try.prog 12 args W fun e W' => e = .returned (.bool true) ∧ Below W.heap.size W W' by
    refine hwalk.mono fun e W' ⟨he, hb⟩ => ?_
    subst he
    exact ⟨_, rfl, hfin W' hb⟩
  clear hfin
  obtain ⟨p, q, hA0, hV, _, hfz, hnd⟩ := hW
  have hA : DataW.TrodAll enc Try.prog W 0 (fun _ => true) true Try.f12.params.toList args.toList ds p := hA0
  clear hA0 hval0 hV hfz hnd
  rw [Try.params12] at hA hval
  obtain ⟨v0, vs0, d0, ds0, p0, q0, hargs0, _, _, h0, r0⟩ := trodAll_cons hA
  obtain ⟨v1, vs1, d1, ds1, p1, q1, hargs1, _, _, h1, r1⟩ := trodAll_cons r0
  obtain ⟨hnil, _, _⟩ := trodAll_nil r1
  obtain rfl : args = #[v0, v1] := by cases args; simp_all
  clear hargs0 hargs1 hnil
  obtain ⟨cs0, rfl, _⟩ := okWide_struct Try.underlying64 (hval 0 64 v0 rfl rfl)
  obtain ⟨e0, hd0⟩ := open_arg (s := sMp) (by kernel_rfl) h0
  obtain ⟨m, hm0, _⟩ := rd_Mp hd0
  obtain rfl : cs0 = m.cells.toArray := by rw [← hm0]; rfl
  obtain ⟨cs1, rfl, _⟩ := okWide_struct Try.underlying76 (hval 1 76 v1 rfl rfl)
  obtain ⟨e1, hd1⟩ := open_arg (s := sGwy) (by kernel_rfl) h1
  obtain ⟨b_a, b_n, b_c, b, hm1, h1_b0⟩ := open_Gwy hd1
  obtain rfl : cs1 = #[.slice b_a b_n b_c] := by apply Array.toList_inj.1; exact hm1
  exact fnExactGwyOk_walk W m b_a b_n b_c b h1_b0

theorem fnExactGwyOk_holds : Rows.FnExactGwyOkSaid :=
  OpenClaim.holds_of_wide 12 Try.f12 rfl rfl rfl rfl rfl rfl rfl ⟨rfl, rfl, rfl, rfl, rfl⟩ rfl rfl rfl rfl rfl (by kernel_rfl) Try.func12 (by kernel_rfl)
    (of_decide_eq_true (by kernel_rfl)) (by unfold Func.isWrapper; rw [if_neg (by decide +kernel)]; exact ⟨rfl, rfl⟩)
    (fun os started H enc _ => fnExactGwyOk_lifted os started H enc)


end Go.Proofs.Ytaepmhoedaogkaa
