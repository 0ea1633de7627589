/- How many records have an order. -/
import Derived.Test.YtaepmhoedaogkaaTRec
namespace Go.Proofs.Ytaepmhoedaogkaa
open Go.RowKit

def isDo (who seq : Int) (x : Rec) : Bool := (x.kind == 1) && (x.ord.who == who) && (x.ord.seq == seq)
def logCount (xs : List Rec) (who seq : Int) : Int := (xs.filter (isDo who seq)).length
theorem cnt_yes {p : Rec → Bool} {xs : List Rec} {k : Nat} {x : Rec} (hx : xs[k]? = some x) (hp : p x = true) : (((xs.take (k + 1)).filter p).length : Int) = ((xs.take k).filter p).length + 1 := by
  rw [filt_yes hx hp]; simp
theorem cnt_no {p : Rec → Bool} {xs : List Rec} {k : Nat} {x : Rec} (hx : xs[k]? = some x) (hp : p x = false) : (((xs.take (k + 1)).filter p).length : Int) = ((xs.take k).filter p).length := by
  rw [filt_no hx hp]

set_option maxRecDepth 100000 in
set_option maxHeartbeats 2000000 in
theorem iLogCount_c (xs : List Rec) (a : Option Addr) (n c : Nat) (who seq : Int) (w : World) (hx : Re w (.sl sRec) [.slice a n c] (.l (xs.map Rec.dat))) (hn : n ≤ 1048576) :
    Calls Try.prog 38 #[.slice a n c, .int .i64 who, .int .i64 seq] w fun e w' => e = .returned (.int .i64 (logCount xs who seq)) ∧ Ext w w' := by
  have HX := hid hx
  clear hx
  go_enter Try.func38, Try.ntmps38
  go_wp2
  go_loopw [7, 12] (fun v i wr => ∃ (k m : Nat), k ≤ n ∧ m ≤ k ∧ i = .int .i64 k ∧ v = .int .i64 m ∧ m = ((xs.take k).filter (isDo who seq)).length ∧ Ext w wr) (fun _ i _ => n - (intOf i).toNat)
  case atStart => exact ⟨0, 0, Nat.zero_le _, Nat.le_refl _, rfl, rfl, by simp, (by ((try simp only [ext_drew]); (try simp only [ext_ext]); repeat (first | exact Ext.refl _ | with_reducible apply Ext.add | with_reducible apply Ext.dr | apply Ext.alloc | apply Ext.ext | apply Ext.drew | refine Ext.trans ?_ (by assumption))))⟩
  case round =>
    obtain ⟨k, m, hk, hmk, rfl, rfl, hm, t, rfl⟩ := hrel
    have HM := hid hm
    clear hm
    by_cases hlt : k < n
    · obtain ⟨x, b1, o1, hxk, rfl, hb1, f0, f1, f2, f3, f4, f5, f6, f7, f8, f9, f10, f11, f12, f13, f14, f15⟩ := at_Rec HX.out hlt
      have HK := hid hxk
      clear hxk
      have hb2 : b1 ≤ w.heap.size := Nat.le_of_lt hb1
      cases h1 : (x.kind == 1) with
      | false =>
        have HF := hid (cnt_no (p := isDo who seq) HK.out (by simp [isDo, h1]))
        try go_wp2_with (fail)
        repeat (
          refine wp_region_mix (by kernel_rfl) (by kernel_rfl) ?_
          repeat (first
            | (refine mix_pure rfl ?_; (first | go_big_quiet_skip | (go_big_quiet_want; go_big_quiet_op; go_big_quiet_on)); refine wpQuiet_nil ?_)
            | (refine mix_skip (by rfl) ?_; simp only [Act.put, List.setIfInBounds_toArray, List.set_cons_zero, List.set_cons_succ])
            | (refine mix_mk rfl (by rfl) (fun K hK => ?_); (first | (go_simp; first | fail)); (show K _ _); refine hK _ _ (show Ext _ _ from (by ((try simp only [ext_drew]); (try simp only [ext_ext]); repeat (first | exact Ext.refl _ | with_reducible apply Ext.add | with_reducible apply Ext.dr | apply Ext.alloc | apply Ext.ext | apply Ext.drew | refine Ext.trans ?_ (by assumption))))) ?_; clear hK K; simp only [Act.put, List.setIfInBounds_toArray, List.set_cons_zero, List.set_cons_succ]))
          refine mix_nil ?_
          try go_wp2_with (fail))
        go_roundw
        case rel => exact ⟨k + 1, m, by omega, by omega, by go_num, rfl, by have := HF.out; have := HM.out; omega, (by ((try simp only [ext_drew]); (try simp only [ext_ext]); repeat (first | exact Ext.refl _ | with_reducible apply Ext.add | with_reducible apply Ext.dr | apply Ext.alloc | apply Ext.ext | apply Ext.drew | refine Ext.trans ?_ (by assumption))))⟩
        case measure => simp [intOf]; omega
      | true =>
        cases h2 : (x.ord.who == who) with
        | false =>
          have HF := hid (cnt_no (p := isDo who seq) HK.out (by simp [isDo, h1, h2]))
          try go_wp2_with (fail)
          repeat (
            refine wp_region_mix (by kernel_rfl) (by kernel_rfl) ?_
            repeat (first
              | (refine mix_pure rfl ?_; (first | go_big_quiet_skip | (go_big_quiet_want; go_big_quiet_op; go_big_quiet_on)); refine wpQuiet_nil ?_)
              | (refine mix_skip (by rfl) ?_; simp only [Act.put, List.setIfInBounds_toArray, List.set_cons_zero, List.set_cons_succ])
              | (refine mix_mk rfl (by rfl) (fun K hK => ?_); (first | (go_simp; first | fail)); (show K _ _); refine hK _ _ (show Ext _ _ from (by ((try simp only [ext_drew]); (try simp only [ext_ext]); repeat (first | exact Ext.refl _ | with_reducible apply Ext.add | with_reducible apply Ext.dr | apply Ext.alloc | apply Ext.ext | apply Ext.drew | refine Ext.trans ?_ (by assumption))))) ?_; clear hK K; simp only [Act.put, List.setIfInBounds_toArray, List.set_cons_zero, List.set_cons_succ]))
            refine mix_nil ?_
            try go_wp2_with (fail))
          go_roundw
          case rel => exact ⟨k + 1, m, by omega, by omega, by go_num, rfl, by have := HF.out; have := HM.out; omega, (by ((try simp only [ext_drew]); (try simp only [ext_ext]); repeat (first | exact Ext.refl _ | with_reducible apply Ext.add | with_reducible apply Ext.dr | apply Ext.alloc | apply Ext.ext | apply Ext.drew | refine Ext.trans ?_ (by assumption))))⟩
          case measure => simp [intOf]; omega
        | true =>
          cases h3 : (x.ord.seq == seq) with
          | false =>
            have HF := hid (cnt_no (p := isDo who seq) HK.out (by simp [isDo, h1, h2, h3]))
            try go_wp2_with (fail)
            repeat (
              refine wp_region_mix (by kernel_rfl) (by kernel_rfl) ?_
              repeat (first
                | (refine mix_pure rfl ?_; (first | go_big_quiet_skip | (go_big_quiet_want; go_big_quiet_op; go_big_quiet_on)); refine wpQuiet_nil ?_)
                | (refine mix_skip (by rfl) ?_; simp only [Act.put, List.setIfInBounds_toArray, List.set_cons_zero, List.set_cons_succ])
                | (refine mix_mk rfl (by rfl) (fun K hK => ?_); (first | (go_simp; first | fail)); (show K _ _); refine hK _ _ (show Ext _ _ from (by ((try simp only [ext_drew]); (try simp only [ext_ext]); repeat (first | exact Ext.refl _ | with_reducible apply Ext.add | with_reducible apply Ext.dr | apply Ext.alloc | apply Ext.ext | apply Ext.drew | refine Ext.trans ?_ (by assumption))))) ?_; clear hK K; simp only [Act.put, List.setIfInBounds_toArray, List.set_cons_zero, List.set_cons_succ]))
              refine mix_nil ?_
              try go_wp2_with (fail))
            go_roundw
            case rel => exact ⟨k + 1, m, by omega, by omega, by go_num, rfl, by have := HF.out; have := HM.out; omega, (by ((try simp only [ext_drew]); (try simp only [ext_ext]); repeat (first | exact Ext.refl _ | with_reducible apply Ext.add | with_reducible apply Ext.dr | apply Ext.alloc | apply Ext.ext | apply Ext.drew | refine Ext.trans ?_ (by assumption))))⟩
            case measure => simp [intOf]; omega
          | true =>
            have HF := hid (cnt_yes (p := isDo who seq) HK.out (by simp [isDo, h1, h2, h3]))
            try go_wp2_with (fail)
            repeat (
              refine wp_region_mix (by kernel_rfl) (by kernel_rfl) ?_
              repeat (first
                | (refine mix_pure rfl ?_; (first | go_big_quiet_skip | (go_big_quiet_want; go_big_quiet_op; go_big_quiet_on)); refine wpQuiet_nil ?_)
                | (refine mix_skip (by rfl) ?_; simp only [Act.put, List.setIfInBounds_toArray, List.set_cons_zero, List.set_cons_succ])
                | (refine mix_mk rfl (by rfl) (fun K hK => ?_); (first | (go_simp; first | fail)); (show K _ _); refine hK _ _ (show Ext _ _ from (by ((try simp only [ext_drew]); (try simp only [ext_ext]); repeat (first | exact Ext.refl _ | with_reducible apply Ext.add | with_reducible apply Ext.dr | apply Ext.alloc | apply Ext.ext | apply Ext.drew | refine Ext.trans ?_ (by assumption))))) ?_; clear hK K; simp only [Act.put, List.setIfInBounds_toArray, List.set_cons_zero, List.set_cons_succ]))
              refine mix_nil ?_
              try go_wp2_with (fail))
            go_roundw
            case rel => exact ⟨k + 1, m + 1, by omega, by omega, by go_num, by go_num, by have := HF.out; have := HM.out; omega, (by ((try simp only [ext_drew]); (try simp only [ext_ext]); repeat (first | exact Ext.refl _ | with_reducible apply Ext.add | with_reducible apply Ext.dr | apply Ext.alloc | apply Ext.ext | apply Ext.drew | refine Ext.trans ?_ (by assumption))))⟩
            case measure => simp [intOf]; omega
    · have HE := hid (show xs.take k = xs from List.take_of_length_le (by rw [← HX.out.len]; omega))
      go_wp2
      go_ret
      exact ⟨ret_int (by rw [HM.out, HE.out]; rfl), (by ((try simp only [ext_drew]); (try simp only [ext_ext]); repeat (first | exact Ext.refl _ | with_reducible apply Ext.add | with_reducible apply Ext.dr | apply Ext.alloc | apply Ext.ext | apply Ext.drew | refine Ext.trans ?_ (by assumption))))⟩

set_option maxRecDepth 100000 in
set_option maxHeartbeats 2000000 in
theorem sLogCount_c (xs : List Rec) (a : Option Addr) (n c : Nat) (who seq : Int) (w : World) (hx : Re w (.sl sRec) [.slice a n c] (.l (xs.map Rec.dat))) (hn : n ≤ 1048576) :
    Calls Try.prog 36 #[.slice a n c, .int .i64 who, .int .i64 seq] w fun e w' => e = .returned (.int .i64 (logCount xs who seq)) ∧ Ext w w' := by
  have HX := hid hx
  clear hx
  go_enter Try.func36, Try.ntmps36
  go_wp2
  go_loopw [7, 8] (fun v i wr => ∃ (k m : Nat), k ≤ n ∧ m ≤ k ∧ i = .int .i64 k ∧ v = .int .i64 m ∧ m = ((xs.take k).filter (isDo who seq)).length ∧ Ext w wr) (fun _ i _ => n - (intOf i).toNat)
  case atStart => exact ⟨0, 0, Nat.zero_le _, Nat.le_refl _, rfl, rfl, by simp, (by ((try simp only [ext_drew]); (try simp only [ext_ext]); repeat (first | exact Ext.refl _ | with_reducible apply Ext.add | with_reducible apply Ext.dr | apply Ext.alloc | apply Ext.ext | apply Ext.drew | refine Ext.trans ?_ (by assumption))))⟩
  case round =>
    obtain ⟨k, m, hk, hmk, rfl, rfl, hm, t, rfl⟩ := hrel
    have HM := hid hm
    clear hm
    by_cases hlt : k < n
    · obtain ⟨x, b1, o1, hxk, rfl, hb1, f0, f1, f2, f3, f4, f5, f6, f7, f8, f9, f10, f11, f12, f13, f14, f15⟩ := at_Rec HX.out hlt
      have HK := hid hxk
      clear hxk
      have hb2 : b1 ≤ w.heap.size := Nat.le_of_lt hb1
      cases h1 : (x.kind == 1) with
      | false =>
        have HF := hid (cnt_no (p := isDo who seq) HK.out (by simp [isDo, h1]))
        try go_wp2_with (fail)
        repeat (
          refine wp_region_mix (by kernel_rfl) (by kernel_rfl) ?_
          repeat (first
            | (refine mix_pure rfl ?_; (first | go_big_quiet_skip | (go_big_quiet_want; go_big_quiet_op; go_big_quiet_on)); refine wpQuiet_nil ?_)
            | (refine mix_skip (by rfl) ?_; simp only [Act.put, List.setIfInBounds_toArray, List.set_cons_zero, List.set_cons_succ])
            | (refine mix_mk rfl (by rfl) (fun K hK => ?_); (first | (go_simp; first | fail)); (show K _ _); refine hK _ _ (show Ext _ _ from (by ((try simp only [ext_drew]); (try simp only [ext_ext]); repeat (first | exact Ext.refl _ | with_reducible apply Ext.add | with_reducible apply Ext.dr | apply Ext.alloc | apply Ext.ext | apply Ext.drew | refine Ext.trans ?_ (by assumption))))) ?_; clear hK K; simp only [Act.put, List.setIfInBounds_toArray, List.set_cons_zero, List.set_cons_succ]))
          refine mix_nil ?_
          try go_wp2_with (fail))
        go_roundw
        case rel => exact ⟨k + 1, m, by omega, by omega, by go_num, rfl, by have := HF.out; have := HM.out; omega, (by ((try simp only [ext_drew]); (try simp only [ext_ext]); repeat (first | exact Ext.refl _ | with_reducible apply Ext.add | with_reducible apply Ext.dr | apply Ext.alloc | apply Ext.ext | apply Ext.drew | refine Ext.trans ?_ (by assumption))))⟩
        case measure => simp [intOf]; omega
      | true =>
        cases h2 : (x.ord.who == who) with
        | false =>
          have HF := hid (cnt_no (p := isDo who seq) HK.out (by simp [isDo, h1, h2]))
          try go_wp2_with (fail)
          repeat (
            refine wp_region_mix (by kernel_rfl) (by kernel_rfl) ?_
            repeat (first
              | (refine mix_pure rfl ?_; (first | go_big_quiet_skip | (go_big_quiet_want; go_big_quiet_op; go_big_quiet_on)); refine wpQuiet_nil ?_)
              | (refine mix_skip (by rfl) ?_; simp only [Act.put, List.setIfInBounds_toArray, List.set_cons_zero, List.set_cons_succ])
              | (refine mix_mk rfl (by rfl) (fun K hK => ?_); (first | (go_simp; first | fail)); (show K _ _); refine hK _ _ (show Ext _ _ from (by ((try simp only [ext_drew]); (try simp only [ext_ext]); repeat (first | exact Ext.refl _ | with_reducible apply Ext.add | with_reducible apply Ext.dr | apply Ext.alloc | apply Ext.ext | apply Ext.drew | refine Ext.trans ?_ (by assumption))))) ?_; clear hK K; simp only [Act.put, List.setIfInBounds_toArray, List.set_cons_zero, List.set_cons_succ]))
            refine mix_nil ?_
            try go_wp2_with (fail))
          go_roundw
          case rel => exact ⟨k + 1, m, by omega, by omega, by go_num, rfl, by have := HF.out; have := HM.out; omega, (by ((try simp only [ext_drew]); (try simp only [ext_ext]); repeat (first | exact Ext.refl _ | with_reducible apply Ext.add | with_reducible apply Ext.dr | apply Ext.alloc | apply Ext.ext | apply Ext.drew | refine Ext.trans ?_ (by assumption))))⟩
          case measure => simp [intOf]; omega
        | true =>
          cases h3 : (x.ord.seq == seq) with
          | false =>
            have HF := hid (cnt_no (p := isDo who seq) HK.out (by simp [isDo, h1, h2, h3]))
            try go_wp2_with (fail)
            repeat (
              refine wp_region_mix (by kernel_rfl) (by kernel_rfl) ?_
              repeat (first
                | (refine mix_pure rfl ?_; (first | go_big_quiet_skip | (go_big_quiet_want; go_big_quiet_op; go_big_quiet_on)); refine wpQuiet_nil ?_)
                | (refine mix_skip (by rfl) ?_; simp only [Act.put, List.setIfInBounds_toArray, List.set_cons_zero, List.set_cons_succ])
                | (refine mix_mk rfl (by rfl) (fun K hK => ?_); (first | (go_simp; first | fail)); (show K _ _); refine hK _ _ (show Ext _ _ from (by ((try simp only [ext_drew]); (try simp only [ext_ext]); repeat (first | exact Ext.refl _ | with_reducible apply Ext.add | with_reducible apply Ext.dr | apply Ext.alloc | apply Ext.ext | apply Ext.drew | refine Ext.trans ?_ (by assumption))))) ?_; clear hK K; simp only [Act.put, List.setIfInBounds_toArray, List.set_cons_zero, List.set_cons_succ]))
              refine mix_nil ?_
              try go_wp2_with (fail))
            go_roundw
            case rel => exact ⟨k + 1, m, by omega, by omega, by go_num, rfl, by have := HF.out; have := HM.out; omega, (by ((try simp only [ext_drew]); (try simp only [ext_ext]); repeat (first | exact Ext.refl _ | with_reducible apply Ext.add | with_reducible apply Ext.dr | apply Ext.alloc | apply Ext.ext | apply Ext.drew | refine Ext.trans ?_ (by assumption))))⟩
            case measure => simp [intOf]; omega
          | true =>
            have HF := hid (cnt_yes (p := isDo who seq) HK.out (by simp [isDo, h1, h2, h3]))
            try go_wp2_with (fail)
            repeat (
              refine wp_region_mix (by kernel_rfl) (by kernel_rfl) ?_
              repeat (first
                | (refine mix_pure rfl ?_; (first | go_big_quiet_skip | (go_big_quiet_want; go_big_quiet_op; go_big_quiet_on)); refine wpQuiet_nil ?_)
                | (refine mix_skip (by rfl) ?_; simp only [Act.put, List.setIfInBounds_toArray, List.set_cons_zero, List.set_cons_succ])
                | (refine mix_mk rfl (by rfl) (fun K hK => ?_); (first | (go_simp; first | fail)); (show K _ _); refine hK _ _ (show Ext _ _ from (by ((try simp only [ext_drew]); (try simp only [ext_ext]); repeat (first | exact Ext.refl _ | with_reducible apply Ext.add | with_reducible apply Ext.dr | apply Ext.alloc | apply Ext.ext | apply Ext.drew | refine Ext.trans ?_ (by assumption))))) ?_; clear hK K; simp only [Act.put, List.setIfInBounds_toArray, List.set_cons_zero, List.set_cons_succ]))
              refine mix_nil ?_
              try go_wp2_with (fail))
            go_roundw
            case rel => exact ⟨k + 1, m + 1, by omega, by omega, by go_num, by go_num, by have := HF.out; have := HM.out; omega, (by ((try simp only [ext_drew]); (try simp only [ext_ext]); repeat (first | exact Ext.refl _ | with_reducible apply Ext.add | with_reducible apply Ext.dr | apply Ext.alloc | apply Ext.ext | apply Ext.drew | refine Ext.trans ?_ (by assumption))))⟩
            case measure => simp [intOf]; omega
    · have HE := hid (show xs.take k = xs from List.take_of_length_le (by rw [← HX.out.len]; omega))
      go_wp2
      go_ret
      exact ⟨ret_int (by rw [HM.out, HE.out]; rfl), (by ((try simp only [ext_drew]); (try simp only [ext_ext]); repeat (first | exact Ext.refl _ | with_reducible apply Ext.add | with_reducible apply Ext.dr | apply Ext.alloc | apply Ext.ext | apply Ext.drew | refine Ext.trans ?_ (by assumption))))⟩
end Go.Proofs.Ytaepmhoedaogkaa
