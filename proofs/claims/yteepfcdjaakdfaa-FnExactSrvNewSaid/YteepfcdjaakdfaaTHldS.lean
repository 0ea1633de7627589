/- The laws' helpers at slices of HldHolder. -/
import Derived.Test.YteepfcdjaakdfaaTHld
namespace Go.Proofs.Yteepfcdjaakdfaa
open Go.RowKit
set_option linter.unusedSimpArgs false
set_option linter.unusedVariables false

theorem mk_HldS (n : Nat) (hn : n ≤ 1048576) (w : World) : (Instr.makeSlice 56 (.int .i64 (n : Int)) (.int .i64 (n : Int))).run Try.prog w = .ok (.slice (some ⟨w.heap.size, 0, none⟩) n n) (w.alloc (.cells (madeCells (Value.agg #[.int .i64 0, .int .i64 0, .int .i64 0, .slice none 0 0, .int .i64 0, .slice none 0 0, .slice none 0 0, .slice none 0 0]).cells (n * 8)) 52)) :=
  mk_gen (bytes := 128) Try.underlying56 (by kernel_rfl) n hn (by decide) w
theorem sat_Hld (w : World) (T : TypeId) (t : Xt) (arr : Array Value) (o : Nat) (v0 : Int) (v1 : Int) (v2 : Int) (v4 : Int) (a3 : Option Addr) (n3 c3 : Nat) (a5 : Option Addr) (n5 c5 : Nat) (a6 : Option Addr) (n6 c6 : Nat) (a7 : Option Addr) (n7 c7 : Nat) (h : o + 8 ≤ arr.size) :
    (Instr.storeAt 52 (.pointer (some ⟨w.heap.size, o, none⟩)) (.agg #[.int .i64 v0, .int .i64 v1, .int .i64 v2, .slice a3 n3 c3, .int .i64 v4, .slice a5 n5 c5, .slice a6 n6 c6, .slice a7 n7 c7])).run Try.prog (ext (w.alloc (.cells arr T)) t) = .ok () (ext (w.alloc (.cells (putRow arr o [.int .i64 v0, .int .i64 v1, .int .i64 v2, .slice a3 n3 c3, .int .i64 v4, .slice a5 n5 c5, .slice a6 n6 c6, .slice a7 n7 c7]) T)) t) := by
  have h1 := st_row (P := Try.prog) w T t [.int .i64 v0, .int .i64 v1, .int .i64 v2, .slice a3 n3 c3, .int .i64 v4, .slice a5 n5 c5, .slice a6 n6 c6, .slice a7 n7 c7] arr o 0 h (by simp [Value.oneCell'])
  have h2 := sizeOf_run (T := 52) (k := 8) (by kernel_rfl) (ext (w.alloc (.cells arr T)) t)
  rw [Nat.add_zero] at h1
  simp [Instr.storeAt, Instr.sureAddr, storeVar, Sem.run_bind, h2, Value.cells, h1]
theorem wpList_store_Hld {ops : Array Oper} {rest : List Oper} {o : Oper} {a : Act} {Q : Exit → Act → World → Prop} {w W : World} {T : TypeId} {t : Xt} {arr : Array Value} {off : Nat} {v0 : Int} {v1 : Int} {v2 : Int} {v4 : Int} {a3 : Option Addr} {n3 c3 : Nat} {a5 : Option Addr} {n5 c5 : Nat} {a6 : Option Addr} {n6 c6 : Nat} {a7 : Option Addr} {n7 c7 : Nat} (hgd : o.guard = none) (x y : Operand)
    (ho : o.op = .store 52 x y) (hx : a.eval x = .pointer (some ⟨w.heap.size, off, none⟩)) (hy : a.eval y = .agg #[.int .i64 v0, .int .i64 v1, .int .i64 v2, .slice a3 n3 c3, .int .i64 v4, .slice a5 n5 c5, .slice a6 n6 c6, .slice a7 n7 c7])
    (hW : W = ext (w.alloc (.cells arr T)) t) (hle : off + 8 ≤ arr.size)
    (h : wpList Try.prog ops Q rest (a.put o.dst undef) (ext (w.alloc (.cells (putRow arr off [.int .i64 v0, .int .i64 v1, .int .i64 v2, .slice a3 n3 c3, .int .i64 v4, .slice a5 n5 c5, .slice a6 n6 c6, .slice a7 n7 c7]) T)) t)) : wpList Try.prog ops Q (o :: rest) a W := by
  subst hW
  refine wpList_plain hgd fun K hK => ?_
  unfold Oper.wp execOp
  simp only [ho, hx, hy, Sem.run_bind, sat_Hld w T t arr off v0 v1 v2 v4 a3 n3 c3 a5 n5 c5 a6 n6 c6 a7 n7 c7 hle, Result.andThen_ok]
  exact hK _ _ h

def hldLens (xs : List Hld) : List Nat := xs.flatMap fun x => cllLens x.st
set_option maxHeartbeats 1000000 in
theorem szHldS_c (xs : List Hld) (a : Option Addr) (n c : Nat) (left q0 : Int) (w : World) (hx : Re w (.sl sHld) [.slice a n c] (.l (xs.map hldDat))) (hq0 : szRun left (n :: hldLens xs) = q0) (h0 : 0 ≤ left) (h1 : left ≤ 1048576) :
    Calls Try.prog 93 #[.slice a n c, .int .i64 left] w fun e w' => e = .returned (.int .i64 q0) ∧ Ext w w' := by
  subst hq0
  have hl := hx.len
  have hm := hx.max
  have HX := hid hx
  clear hx
  by_cases h : left < (n : Int)
  · go_enter Try.func93, Try.ntmps93
    go_wp2
    go_ret
    exact ⟨ret_int (szRun_fail _ _ _ h).symm, (by ((try simp only [ext_drew]); (try simp only [ext_ext]); repeat (first | exact Ext.refl _ | with_reducible apply Ext.add | with_reducible apply Ext.dr | apply Ext.alloc | apply Ext.ext | apply Ext.drew | refine Ext.trans ?_ (by assumption))))⟩
  · have HT := hid (szRun_step left n (hldLens xs) h)
    have HL := hid hl
    clear hl
    go_enter Try.func93, Try.ntmps93
    go_wp2
    go_loopw [1, 5] (fun l i wr => ∃ (k : Nat) (q : Int), k ≤ n ∧ i = .int .i64 k ∧ l = .int .i64 q ∧ 0 ≤ q ∧ q ≤ 1048576 ∧ szRun (left - n) (hldLens xs) = szRun q (hldLens (xs.drop k)) ∧ Ext w wr) (fun _ i _ => n - (intOf i).toNat)
    case atStart => exact ⟨0, left - n, Nat.zero_le _, rfl, rfl, by omega, by omega, by rw [List.drop_zero], (by ((try simp only [ext_drew]); (try simp only [ext_ext]); repeat (first | exact Ext.refl _ | with_reducible apply Ext.add | with_reducible apply Ext.dr | apply Ext.alloc | apply Ext.ext | apply Ext.drew | refine Ext.trans ?_ (by assumption))))⟩
    case round =>
      obtain ⟨k, q, hk, rfl, rfl, q0, q1, hq, t, rfl⟩ := hrel
      have HQ := hid hq
      clear hq
      by_cases hlt : k < n
      · obtain ⟨x, h', b, o, hxk, rfl, hb, f0, f1, f2, f3, f4, f5, f6, f7, hr⟩ := at_Hld HX.out hlt
        have HD := hid (show hldLens (xs.drop k) = cllLens x.st ++ hldLens (xs.drop (k + 1)) by
          rw [List.drop_eq_getElem_cons (by have := HL.out; omega), (List.getElem?_eq_some_iff.1 hxk).2]; simp [hldLens])
        have HR := hid hr
        obtain ⟨r, hr'⟩ : ∃ r, szRun q (cllLens x.st) = r := ⟨_, rfl⟩
        have hbb := szRun_le (cllLens x.st) q q0
        rw [hr'] at hbb
        have hb1 := hbb.1
        have hb2 := hbb.2
        have HRR := hid hr'
        clear hr hxk hr' hbb
        by_cases hf : r < 0
        · have HE := hid (szRun_fail_app (cllLens x.st) (hldLens (xs.drop (k + 1))) q q0 (by rw [HRR.out]; exact hf))
          try go_wp2_with (first
              | (go_at_call 26; (with_reducible refine (szHld_c x h' q r _ (ReC.of HR.out (by ((try simp only [ext_drew]); (try simp only [ext_ext]); repeat (first | exact Ext.refl _ | with_reducible apply Ext.add | with_reducible apply Ext.dr | apply Ext.alloc | apply Ext.ext | apply Ext.drew | refine Ext.trans ?_ (by assumption))))) HRR.out q0 q1).mono ?_); rintro e w' ⟨rfl, t, rfl⟩)
              | (
                with_reducible refine wp_region_mix (by kernel_rfl) (by decide +kernel) ?_
                repeat (first
                  | (refine mix_pure rfl ?_; (first | go_big_quiet_skip | (go_big_quiet_want; go_big_quiet_op; go_big_quiet_on)); refine wpQuiet_nil ?_)
                  | (refine mix_skip (by rfl) ?_; (try simp only [Act.put, List.setIfInBounds_toArray, List.set_cons_zero, List.set_cons_succ]))
                  | (refine mix_mk rfl (by rfl) (fun K hK => ?_); (first | (go_simp; first | (go_at_call 26; (with_reducible refine (szHld_c x h' q r _ (ReC.of HR.out (by ((try simp only [ext_drew]); (try simp only [ext_ext]); repeat (first | exact Ext.refl _ | with_reducible apply Ext.add | with_reducible apply Ext.dr | apply Ext.alloc | apply Ext.ext | apply Ext.drew | refine Ext.trans ?_ (by assumption))))) HRR.out q0 q1).mono ?_); rintro e w' ⟨rfl, t, rfl⟩) | skip)); (show K _ _); refine hK _ _ (show Ext _ _ from (by ((try simp only [ext_drew]); (try simp only [ext_ext]); repeat (first | exact Ext.refl _ | with_reducible apply Ext.add | with_reducible apply Ext.dr | apply Ext.alloc | apply Ext.ext | apply Ext.drew | refine Ext.trans ?_ (by assumption))))) ?_; clear hK K; (try simp only [Act.put, List.setIfInBounds_toArray, List.set_cons_zero, List.set_cons_succ])))
                refine mix_nil ?_)
              | (
                with_reducible refine wp_region_ext (by kernel_rfl) (by kernel_rfl) ?_
                repeat (first | go_big_quiet_skip | (go_big_quiet_want; go_big_quiet_op; first | go_big_quiet_on | (apply Exists.intro; refine ⟨fun _ => ?_, ?_⟩; (fail); (try rw [h1]); (try rw [h2]); (try rw [h3]); (try rw [h4]); (try rw [p1]); (try rw [p2]); (try rw [p3]); (try rw [p4]); (try rw [r1]); (try rw [r2]); (try rw [r3]); (try rw [r4]); (try rw [r5]); (try rw [r6]); (try rw [q3]); (try rw [q4]); (try rw [hp]); (try rw [hq]); go_big_quiet_on)))
                refine wpQuiet_nil ?_
                rintro _ ⟨tq, rfl⟩))
          go_ret
          exact ⟨ret_int (by rw [HT.out, HQ.out, HD.out, HE.out]), (by ((try simp only [ext_drew]); (try simp only [ext_ext]); repeat (first | exact Ext.refl _ | with_reducible apply Ext.add | with_reducible apply Ext.dr | apply Ext.alloc | apply Ext.ext | apply Ext.drew | refine Ext.trans ?_ (by assumption))))⟩
        · have HE := hid (show szRun q (cllLens x.st ++ hldLens (xs.drop (k + 1))) = szRun r (hldLens (xs.drop (k + 1))) by rw [szRun_app _ _ _ q0, HRR.out, if_neg hf])
          try go_wp2_with (first
              | (go_at_call 26; (with_reducible refine (szHld_c x h' q r _ (ReC.of HR.out (by ((try simp only [ext_drew]); (try simp only [ext_ext]); repeat (first | exact Ext.refl _ | with_reducible apply Ext.add | with_reducible apply Ext.dr | apply Ext.alloc | apply Ext.ext | apply Ext.drew | refine Ext.trans ?_ (by assumption))))) HRR.out q0 q1).mono ?_); rintro e w' ⟨rfl, t, rfl⟩)
              | (
                with_reducible refine wp_region_mix (by kernel_rfl) (by decide +kernel) ?_
                repeat (first
                  | (refine mix_pure rfl ?_; (first | go_big_quiet_skip | (go_big_quiet_want; go_big_quiet_op; go_big_quiet_on)); refine wpQuiet_nil ?_)
                  | (refine mix_skip (by rfl) ?_; (try simp only [Act.put, List.setIfInBounds_toArray, List.set_cons_zero, List.set_cons_succ]))
                  | (refine mix_mk rfl (by rfl) (fun K hK => ?_); (first | (go_simp; first | (go_at_call 26; (with_reducible refine (szHld_c x h' q r _ (ReC.of HR.out (by ((try simp only [ext_drew]); (try simp only [ext_ext]); repeat (first | exact Ext.refl _ | with_reducible apply Ext.add | with_reducible apply Ext.dr | apply Ext.alloc | apply Ext.ext | apply Ext.drew | refine Ext.trans ?_ (by assumption))))) HRR.out q0 q1).mono ?_); rintro e w' ⟨rfl, t, rfl⟩) | skip)); (show K _ _); refine hK _ _ (show Ext _ _ from (by ((try simp only [ext_drew]); (try simp only [ext_ext]); repeat (first | exact Ext.refl _ | with_reducible apply Ext.add | with_reducible apply Ext.dr | apply Ext.alloc | apply Ext.ext | apply Ext.drew | refine Ext.trans ?_ (by assumption))))) ?_; clear hK K; (try simp only [Act.put, List.setIfInBounds_toArray, List.set_cons_zero, List.set_cons_succ])))
                refine mix_nil ?_)
              | (
                with_reducible refine wp_region_ext (by kernel_rfl) (by kernel_rfl) ?_
                repeat (first | go_big_quiet_skip | (go_big_quiet_want; go_big_quiet_op; first | go_big_quiet_on | (apply Exists.intro; refine ⟨fun _ => ?_, ?_⟩; (fail); (try rw [h1]); (try rw [h2]); (try rw [h3]); (try rw [h4]); (try rw [p1]); (try rw [p2]); (try rw [p3]); (try rw [p4]); (try rw [r1]); (try rw [r2]); (try rw [r3]); (try rw [r4]); (try rw [r5]); (try rw [r6]); (try rw [q3]); (try rw [q4]); (try rw [hp]); (try rw [hq]); go_big_quiet_on)))
                refine wpQuiet_nil ?_
                rintro _ ⟨tq, rfl⟩))
          go_roundw
          case rel => exact ⟨k + 1, r, by omega, by go_num, rfl, by omega, by omega, by rw [HQ.out, HD.out, HE.out], (by ((try simp only [ext_drew]); (try simp only [ext_ext]); repeat (first | exact Ext.refl _ | with_reducible apply Ext.add | with_reducible apply Ext.dr | apply Ext.alloc | apply Ext.ext | apply Ext.drew | refine Ext.trans ?_ (by assumption))))⟩
          case measure => simp [intOf]; omega
      · have HD := hid (show hldLens (xs.drop k) = [] by rw [List.drop_eq_nil_of_le (by have := HL.out; omega)]; rfl)
        go_wp2
        go_ret
        exact ⟨ret_int (by rw [HT.out, HQ.out, HD.out]; rfl), (by ((try simp only [ext_drew]); (try simp only [ext_ext]); repeat (first | exact Ext.refl _ | with_reducible apply Ext.add | with_reducible apply Ext.dr | apply Ext.alloc | apply Ext.ext | apply Ext.drew | refine Ext.trans ?_ (by assumption))))⟩

set_option maxRecDepth 100000 in
set_option maxHeartbeats 4000000 in
theorem toHldS_c (xs : List Hld) (a : Option Addr) (n c : Nat) (w : World) (hx : Re w (.sl sHld) [.slice a n c] (.l (xs.map hldDat))) (hn : n ≤ 1048576) (hbd : ∀ x ∈ xs, BdC x.st) :
    Calls Try.prog 96 #[.slice a n c] w (MadeL w sHld n (xs.map hldDat)) := by
  have HX := hid hx
  have HB := hid hbd
  clear hx hbd
  have hm := mk_HldS n hn
  go_enter Try.func96, Try.ntmps96
  go_wp2
  clear hm
  go_loopw [4] (fun i wr => ∃ (k : Nat) (arr : Array Value) (t : Xt), k ≤ n ∧ i = .int .i64 k ∧ arr.size = n * 8 ∧ Fill2 (w.heap.size + 1) (ext (w.alloc (.cells arr 52)) t) sHld arr (xs.map hldDat) k ∧ wr = ext (w.alloc (.cells arr 52)) t) (fun i _ => n - (intOf i).toNat)
  case atStart => exact ⟨0, _, ⟨#[], _⟩, Nat.zero_le _, rfl, size_madeCells _ _, Fill2.zero _ _ _ _ _, (ext_refl _).symm⟩
  case round =>
    obtain ⟨k, arr, t, hk, rfl, hsz, hf, rfl⟩ := hrel
    have HS := hid hsz
    have HF := hid hf
    clear hsz hf
    by_cases hlt : k < n
    · obtain ⟨x, h', b, o, hxk, rfl, hb, f0, f1, f2, f3, f4, f5, f6, f7, hr⟩ := at_Hld HX.out hlt
      have hka : k * 8 + 8 ≤ arr.size := by have := HS.out; have : (k + 1) * 8 ≤ n * 8 := Nat.mul_le_mul_right _ hlt; omega
      have HR := hid hr
      have HBX := hid (HB.out x (List.mem_of_getElem? hxk))
      have HK := hid (show (xs.map hldDat)[k]? = some (hldDat x) by rw [List.getElem?_map, hxk]; rfl)
      clear hxk hr
      go_wp2_with (first | (go_at_call 28; (with_reducible refine (toHld_c x h' _ (ReC.of HR.out (by ((try simp only [ext_drew]); (try simp only [ext_ext]); repeat (first | exact Ext.refl _ | with_reducible apply Ext.add | with_reducible apply Ext.dr | apply Ext.alloc | apply Ext.ext | apply Ext.drew | refine Ext.trans ?_ (by assumption))))) HBX.out).mono ?_); rintro e w' ⟨p0, rfl, ⟨t0, rfl⟩, ho⟩; have O0 := hid ho; clear ho) | (refine wpList_store_Hld rfl _ _ rfl rfl rfl (by with_reducible rfl) hka ?_) | (refine wpList_store_Hld rfl _ _ rfl rfl rfl (by with_reducible exact ext_ext _ _ _) hka ?_))
      go_roundw
      case rel => exact ⟨k + 1, putRow arr (k * 8) (hldCells x p0), t.add t0, by omega, by go_num, by rw [putRow_size]; exact HS.out, HF.out.step HK.out O0.out rfl hka, rfl⟩
      case measure => simp [intOf]; omega
    · obtain rfl : k = n := by omega
      go_wp2
      go_ret
      exact HF.out.made (by rw [List.length_map]; exact HX.out.len) HX.out.max

set_option maxHeartbeats 1000000 in
theorem eqHldS_c (xs : List Hld) (a1 a2 : Option Addr) (n c1 c2 : Nat) (w : World) (h1 : Re w (.sl sHld) [.slice a1 n c1] (.l (xs.map hldDat))) (h2 : Re w (.sl sHld) [.slice a2 n c2] (.l (xs.map hldDat))) (hn : n ≤ 1048576) (hbd : ∀ x ∈ xs, BdC x.st) :
    Calls Try.prog 87 #[.slice a1 n c1, .slice a2 n c2] w fun e w' => e = .returned (.bool true) ∧ Ext w w' := by
  have H1 := hid h1
  have H2 := hid h2
  have HB := hid hbd
  clear h1 h2 hbd
  go_enter Try.func87, Try.ntmps87
  go_wp2
  go_loopw [5] (fun i wr => ∃ k : Nat, k ≤ n ∧ i = .int .i64 k ∧ Ext w wr) (fun i _ => n - (intOf i).toNat)
  case atStart => exact ⟨0, Nat.zero_le _, rfl, (by ((try simp only [ext_drew]); (try simp only [ext_ext]); repeat (first | exact Ext.refl _ | with_reducible apply Ext.add | with_reducible apply Ext.dr | apply Ext.alloc | apply Ext.ext | apply Ext.drew | refine Ext.trans ?_ (by assumption))))⟩
  case round =>
    obtain ⟨k, hk, rfl, t, rfl⟩ := hrel
    by_cases hlt : k < n
    · obtain ⟨x, h', b1, o1, hx, rfl, hb1, f0, f1, f2, f3, f4, f5, f6, f7, hr1⟩ := at_Hld H1.out hlt
      obtain ⟨y, h'', b2, o2, hy, rfl, hb2, g0, g1, g2, g3, g4, g5, g6, g7, hr2⟩ := at_Hld H2.out hlt
      have e : x = y := Option.some.inj (hx.symm.trans hy)
      subst e
      have HBX := hid (HB.out x (List.mem_of_getElem? hx))
      have HR1 := hid hr1
      have HR2 := hid hr2
      clear hx hy hr1 hr2
      go_wp2
      with_reducible refine wp_region_ext (by kernel_rfl) (by kernel_rfl) ?_
      repeat (go_big_quiet_step ((first | (go_at_call 30; first | exact quiet_call (eqHld_c _ _ _ _ (ReC.of (Hid.out (by assumption)) (by ((try simp only [ext_drew]); (try simp only [ext_ext]); repeat (first | exact Ext.refl _ | with_reducible apply Ext.add | with_reducible apply Ext.dr | apply Ext.alloc | apply Ext.ext | apply Ext.drew | refine Ext.trans ?_ (by assumption))))) (ReC.of (Hid.out (by assumption)) (by ((try simp only [ext_drew]); (try simp only [ext_ext]); repeat (first | exact Ext.refl _ | with_reducible apply Ext.add | with_reducible apply Ext.dr | apply Ext.alloc | apply Ext.ext | apply Ext.drew | refine Ext.trans ?_ (by assumption))))) (Hid.out (by assumption))) | exact quiet_call2 (eqHld_c _ _ _ _ (ReC.of (Hid.out (by assumption)) (by ((try simp only [ext_drew]); (try simp only [ext_ext]); repeat (first | exact Ext.refl _ | with_reducible apply Ext.add | with_reducible apply Ext.dr | apply Ext.alloc | apply Ext.ext | apply Ext.drew | refine Ext.trans ?_ (by assumption))))) (ReC.of (Hid.out (by assumption)) (by ((try simp only [ext_drew]); (try simp only [ext_ext]); repeat (first | exact Ext.refl _ | with_reducible apply Ext.add | with_reducible apply Ext.dr | apply Ext.alloc | apply Ext.ext | apply Ext.drew | refine Ext.trans ?_ (by assumption))))) (Hid.out (by assumption)))))))
      refine wpQuiet_nil ?_
      rintro _ ⟨tq, rfl⟩
      go_wp2
      go_roundw
      case rel => exact ⟨k + 1, by omega, by go_num, (by ((try simp only [ext_drew]); (try simp only [ext_ext]); repeat (first | exact Ext.refl _ | with_reducible apply Ext.add | with_reducible apply Ext.dr | apply Ext.alloc | apply Ext.ext | apply Ext.drew | refine Ext.trans ?_ (by assumption))))⟩
      case measure => simp [intOf]; omega
    · go_wp2
      go_ret
      exact ⟨rfl, (by ((try simp only [ext_drew]); (try simp only [ext_ext]); repeat (first | exact Ext.refl _ | with_reducible apply Ext.add | with_reducible apply Ext.dr | apply Ext.alloc | apply Ext.ext | apply Ext.drew | refine Ext.trans ?_ (by assumption))))⟩
end Go.Proofs.Yteepfcdjaakdfaa
