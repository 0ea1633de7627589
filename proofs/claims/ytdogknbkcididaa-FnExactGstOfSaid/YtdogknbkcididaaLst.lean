/- Lists of walkers and of parcels that are ok: loops that read. -/
import Derived.Test.YtdogknbkcididaaOk2
import Derived.Test.YtdogknbkcididaaTPcl
import Derived.Test.YtdogknbkcididaaTMp
import Derived.Test.YtdogknbkcididaaMem
import Derived.Test.YtdogknbkcididaaAll
namespace Go.Proofs.Ytdogknbkcididaa
open Go.RowKit

def pclAt (m : Mp) (b : Int) (i : Nat) (x : Pcl) : Bool := pclOk m x && (x.n == b + i)
def pclListOk (m : Mp) (xs : List Pcl) (next : Int) : Bool := plcOk m && inB next 0 5000 && decide ((xs.length : Int) ≤ next) && allI (pclAt m (next - xs.length)) 0 xs

set_option maxHeartbeats 1000000 in
theorem iPclListOk_c (m : Mp) (a : Option Addr) (n c : Nat) (xs : List Pcl) (next : Int) (w : World) (hx : Re w (.sl sPcl) [.slice a n c] (.l (xs.map Pcl.dat))) (hn : n ≤ 1048576) :
    Calls Try.prog 79 #[.agg #[.int .i64 m.c, .int .i64 m.w], .slice a n c, .int .i64 next] w fun e w' => e = .returned (.bool (pclListOk m xs next)) ∧ Ext w w' := by
  have HL := hid (sl_len hx).1
  have HX := hid hx
  clear hx
  cases h1 : plcOk m with
  | false =>
    have E := hid (show pclListOk m xs next = false by simp [pclListOk, h1])
    go_enter Try.func79, Try.ntmps79
    go_wp2_with (first | (go_at_call 91; refine (iPlcOk_c _ _).mono ?_; rintro e w' ⟨rfl, t, rfl⟩) | (go_at_call 51; refine (in_c _ _ _ _).mono ?_; rintro e w' ⟨rfl, rfl⟩))
    go_ret
    exact ⟨ret_bool (by rw [E.out]), (by ((try simp only [ext_drew]); (try simp only [ext_ext]); repeat (first | exact Ext.refl _ | with_reducible apply Ext.add | with_reducible apply Ext.dr | apply Ext.alloc | apply Ext.ext | apply Ext.drew | refine Ext.trans ?_ (by assumption))))⟩
  | true =>
    cases h2 : inB next 0 5000 with
    | false =>
      have E := hid (show pclListOk m xs next = false by simp [pclListOk, h2])
      go_enter Try.func79, Try.ntmps79
      go_wp2_with (first | (go_at_call 91; refine (iPlcOk_c _ _).mono ?_; rintro e w' ⟨rfl, t, rfl⟩) | (go_at_call 51; refine (in_c _ _ _ _).mono ?_; rintro e w' ⟨rfl, rfl⟩))
      go_ret
      exact ⟨ret_bool (by rw [E.out]), (by ((try simp only [ext_drew]); (try simp only [ext_ext]); repeat (first | exact Ext.refl _ | with_reducible apply Ext.add | with_reducible apply Ext.dr | apply Ext.alloc | apply Ext.ext | apply Ext.drew | refine Ext.trans ?_ (by assumption))))⟩
    | true =>
      obtain ⟨n1, n2⟩ := inB_iff.1 h2
      by_cases h3 : next < (n : Int)
      · have E := hid (show pclListOk m xs next = false by have := HL.out; simp at this; simp [pclListOk]; omega)
        go_enter Try.func79, Try.ntmps79
        go_wp2_with (first | (go_at_call 91; refine (iPlcOk_c _ _).mono ?_; rintro e w' ⟨rfl, t, rfl⟩) | (go_at_call 51; refine (in_c _ _ _ _).mono ?_; rintro e w' ⟨rfl, rfl⟩))
        go_ret
        exact ⟨ret_bool (by rw [E.out]), (by ((try simp only [ext_drew]); (try simp only [ext_ext]); repeat (first | exact Ext.refl _ | with_reducible apply Ext.add | with_reducible apply Ext.dr | apply Ext.alloc | apply Ext.ext | apply Ext.drew | refine Ext.trans ?_ (by assumption))))⟩
      · go_enter Try.func79, Try.ntmps79
        go_wp2_with (first | (go_at_call 91; refine (iPlcOk_c _ _).mono ?_; rintro e w' ⟨rfl, t, rfl⟩) | (go_at_call 51; refine (in_c _ _ _ _).mono ?_; rintro e w' ⟨rfl, rfl⟩))
        go_loopw [25] (fun i wr => ∃ k : Nat, k ≤ n ∧ i = .int .i64 k ∧ allI (pclAt m (next - n)) 0 (xs.take k) = true ∧ Ext (w.alloc (Obj.cells #[.int .i64 m.c, .int .i64 m.w] 34)) wr) (fun i _ => n - (intOf i).toNat)
        case atStart => exact ⟨0, Nat.zero_le _, rfl, rfl, (by ((try simp only [ext_drew]); (try simp only [ext_ext]); repeat (first | exact Ext.refl _ | with_reducible apply Ext.add | with_reducible apply Ext.dr | apply Ext.alloc | apply Ext.ext | apply Ext.drew | refine Ext.trans ?_ (by assumption))))⟩
        case round =>
          obtain ⟨k, hk, rfl, hal, t', rfl⟩ := hrel
          have HA := hid hal
          clear hal
          by_cases hlt : k < n
          · obtain ⟨x, b, o, hxk, rfl, hb, f0, f1, f2, f3, f4, f5, f6, f7⟩ := at_Pcl HX.out hlt
            have HK := hid hxk
            clear hxk
            have hb1 : b ≤ w.heap.size := Nat.le_of_lt hb
            have hm : (n : Int) ≤ 1048576 := by omega
            cases hp : pclOk m x with
            | false =>
              have E := hid (show pclListOk m xs next = false by
                have := allI_fail (p := pclAt m (next - n)) HK.out (by simp [pclAt, hp])
                have hl := HL.out; simp at hl
                simp [pclListOk, ← hl, this])
              go_wp2_with (first | (go_at_call 93; refine (iPclOk_c _ _ _).mono ?_; rintro e w' ⟨rfl, t, rfl⟩))
              go_ret
              exact ⟨ret_bool (by rw [E.out]), (by ((try simp only [ext_drew]); (try simp only [ext_ext]); repeat (first | exact Ext.refl _ | with_reducible apply Ext.add | with_reducible apply Ext.dr | apply Ext.alloc | apply Ext.ext | apply Ext.drew | refine Ext.trans ?_ (by assumption))))⟩
            | true =>
              by_cases hq : x.n = next - (n : Int) + (k : Int)
              · have HB := hid (allI_step (p := pclAt m (next - n)) HK.out HA.out (by simp [pclAt, hp, hq]))
                have hq' := bne_f hq
                clear hq
                go_wp2_with (first | (go_at_call 93; refine (iPclOk_c _ _ _).mono ?_; rintro e w' ⟨rfl, t, rfl⟩))
                go_roundw
                case rel => exact ⟨k + 1, by omega, by go_num, HB.out, (by ((try simp only [ext_drew]); (try simp only [ext_ext]); repeat (first | exact Ext.refl _ | with_reducible apply Ext.add | with_reducible apply Ext.dr | apply Ext.alloc | apply Ext.ext | apply Ext.drew | refine Ext.trans ?_ (by assumption))))⟩
                case measure => simp [intOf]; omega
              · have E := hid (show pclListOk m xs next = false by
                  have := allI_fail (p := pclAt m (next - n)) HK.out (by simp [pclAt, hq])
                  have hl := HL.out; simp at hl
                  simp [pclListOk, ← hl, this])
                have hq' := bne_t hq
                clear hq
                go_wp2_with (first | (go_at_call 93; refine (iPclOk_c _ _ _).mono ?_; rintro e w' ⟨rfl, t, rfl⟩))
                go_ret
                exact ⟨ret_bool (by rw [E.out]), (by ((try simp only [ext_drew]); (try simp only [ext_ext]); repeat (first | exact Ext.refl _ | with_reducible apply Ext.add | with_reducible apply Ext.dr | apply Ext.alloc | apply Ext.ext | apply Ext.drew | refine Ext.trans ?_ (by assumption))))⟩
          · have E := hid (show pclListOk m xs next = true by
              have hl := HL.out; simp at hl
              have := allI_all (p := pclAt m (next - n)) (xs := xs) (k := k) (by omega) HA.out
              simp [pclListOk, ← hl, this, h1, h2]; omega)
            go_wp2
            go_ret
            exact ⟨ret_bool (by rw [E.out]), (by ((try simp only [ext_drew]); (try simp only [ext_ext]); repeat (first | exact Ext.refl _ | with_reducible apply Ext.add | with_reducible apply Ext.dr | apply Ext.alloc | apply Ext.ext | apply Ext.drew | refine Ext.trans ?_ (by assumption))))⟩

set_option maxHeartbeats 1000000 in
theorem sPclListOk_c (m : Mp) (a : Option Addr) (n c : Nat) (xs : List Pcl) (next : Int) (w : World) (hx : Re w (.sl sPcl) [.slice a n c] (.l (xs.map Pcl.dat))) (hn : n ≤ 1048576) :
    Calls Try.prog 88 #[.agg #[.int .i64 m.c, .int .i64 m.w], .slice a n c, .int .i64 next] w fun e w' => e = .returned (.bool (pclListOk m xs next)) ∧ Ext w w' := by
  have HL := hid (sl_len hx).1
  have HX := hid hx
  clear hx
  cases h1 : plcOk m with
  | false =>
    have E := hid (show pclListOk m xs next = false by simp [pclListOk, h1])
    go_enter Try.func88, Try.ntmps88
    go_wp2_with (first | (go_at_call 70; refine (sPlcOk_c _ _).mono ?_; rintro e w' ⟨rfl, t, rfl⟩) | (go_at_call 44; refine (l1In_c _ _ _ _).mono ?_; rintro e w' ⟨rfl, rfl⟩))
    go_ret
    exact ⟨ret_bool (by rw [E.out]), (by ((try simp only [ext_drew]); (try simp only [ext_ext]); repeat (first | exact Ext.refl _ | with_reducible apply Ext.add | with_reducible apply Ext.dr | apply Ext.alloc | apply Ext.ext | apply Ext.drew | refine Ext.trans ?_ (by assumption))))⟩
  | true =>
    cases h2 : inB next 0 5000 with
    | false =>
      have E := hid (show pclListOk m xs next = false by simp [pclListOk, h2])
      go_enter Try.func88, Try.ntmps88
      go_wp2_with (first | (go_at_call 70; refine (sPlcOk_c _ _).mono ?_; rintro e w' ⟨rfl, t, rfl⟩) | (go_at_call 44; refine (l1In_c _ _ _ _).mono ?_; rintro e w' ⟨rfl, rfl⟩))
      go_ret
      exact ⟨ret_bool (by rw [E.out]), (by ((try simp only [ext_drew]); (try simp only [ext_ext]); repeat (first | exact Ext.refl _ | with_reducible apply Ext.add | with_reducible apply Ext.dr | apply Ext.alloc | apply Ext.ext | apply Ext.drew | refine Ext.trans ?_ (by assumption))))⟩
    | true =>
      obtain ⟨n1, n2⟩ := inB_iff.1 h2
      by_cases h3 : next < (n : Int)
      · have E := hid (show pclListOk m xs next = false by have := HL.out; simp at this; simp [pclListOk]; omega)
        go_enter Try.func88, Try.ntmps88
        go_wp2_with (first | (go_at_call 70; refine (sPlcOk_c _ _).mono ?_; rintro e w' ⟨rfl, t, rfl⟩) | (go_at_call 44; refine (l1In_c _ _ _ _).mono ?_; rintro e w' ⟨rfl, rfl⟩))
        go_ret
        exact ⟨ret_bool (by rw [E.out]), (by ((try simp only [ext_drew]); (try simp only [ext_ext]); repeat (first | exact Ext.refl _ | with_reducible apply Ext.add | with_reducible apply Ext.dr | apply Ext.alloc | apply Ext.ext | apply Ext.drew | refine Ext.trans ?_ (by assumption))))⟩
      · go_enter Try.func88, Try.ntmps88
        go_wp2_with (first | (go_at_call 70; refine (sPlcOk_c _ _).mono ?_; rintro e w' ⟨rfl, t, rfl⟩) | (go_at_call 44; refine (l1In_c _ _ _ _).mono ?_; rintro e w' ⟨rfl, rfl⟩))
        go_loopw [7] (fun i wr => ∃ k : Nat, k ≤ n ∧ i = .int .i64 k ∧ allI (pclAt m (next - n)) 0 (xs.take k) = true ∧ Ext (w.alloc (Obj.cells #[.int .i64 m.c, .int .i64 m.w] 34)) wr) (fun i _ => n - (intOf i).toNat)
        case atStart => exact ⟨0, Nat.zero_le _, rfl, rfl, (by ((try simp only [ext_drew]); (try simp only [ext_ext]); repeat (first | exact Ext.refl _ | with_reducible apply Ext.add | with_reducible apply Ext.dr | apply Ext.alloc | apply Ext.ext | apply Ext.drew | refine Ext.trans ?_ (by assumption))))⟩
        case round =>
          obtain ⟨k, hk, rfl, hal, t', rfl⟩ := hrel
          have HA := hid hal
          clear hal
          by_cases hlt : k < n
          · obtain ⟨x, b, o, hxk, rfl, hb, f0, f1, f2, f3, f4, f5, f6, f7⟩ := at_Pcl HX.out hlt
            have HK := hid hxk
            clear hxk
            have hb1 : b ≤ w.heap.size := Nat.le_of_lt hb
            have hm : (n : Int) ≤ 1048576 := by omega
            cases hp : pclOk m x with
            | false =>
              have E := hid (show pclListOk m xs next = false by
                have := allI_fail (p := pclAt m (next - n)) HK.out (by simp [pclAt, hp])
                have hl := HL.out; simp at hl
                simp [pclListOk, ← hl, this])
              go_wp2
              with_reducible refine wp_region_ext (by kernel_rfl) (by kernel_rfl) ?_
              repeat (go_big_quiet_step ((first | (go_at_call 95; first | exact quiet_call (sPclOk_c _ _ _) | exact quiet_call2 (sPclOk_c _ _ _)))))
              refine wpQuiet_nil ?_
              rintro _ ⟨tq, rfl⟩
              go_wp2
              go_ret
              exact ⟨ret_bool (by rw [E.out]), (by ((try simp only [ext_drew]); (try simp only [ext_ext]); repeat (first | exact Ext.refl _ | with_reducible apply Ext.add | with_reducible apply Ext.dr | apply Ext.alloc | apply Ext.ext | apply Ext.drew | refine Ext.trans ?_ (by assumption))))⟩
            | true =>
              by_cases hq : x.n = next - (n : Int) + (k : Int)
              · have HB := hid (allI_step (p := pclAt m (next - n)) HK.out HA.out (by simp [pclAt, hp, hq]))
                have hq' := bne_f hq
                clear hq
                go_wp2
                with_reducible refine wp_region_ext (by kernel_rfl) (by kernel_rfl) ?_
                repeat (go_big_quiet_step ((first | (go_at_call 95; first | exact quiet_call (sPclOk_c _ _ _) | exact quiet_call2 (sPclOk_c _ _ _)))))
                refine wpQuiet_nil ?_
                rintro _ ⟨tq, rfl⟩
                go_wp2
                go_roundw
                case rel => exact ⟨k + 1, by omega, by go_num, HB.out, (by ((try simp only [ext_drew]); (try simp only [ext_ext]); repeat (first | exact Ext.refl _ | with_reducible apply Ext.add | with_reducible apply Ext.dr | apply Ext.alloc | apply Ext.ext | apply Ext.drew | refine Ext.trans ?_ (by assumption))))⟩
                case measure => simp [intOf]; omega
              · have E := hid (show pclListOk m xs next = false by
                  have := allI_fail (p := pclAt m (next - n)) HK.out (by simp [pclAt, hq])
                  have hl := HL.out; simp at hl
                  simp [pclListOk, ← hl, this])
                have hq' := bne_t hq
                clear hq
                go_wp2
                with_reducible refine wp_region_ext (by kernel_rfl) (by kernel_rfl) ?_
                repeat (go_big_quiet_step ((first | (go_at_call 95; first | exact quiet_call (sPclOk_c _ _ _) | exact quiet_call2 (sPclOk_c _ _ _)))))
                refine wpQuiet_nil ?_
                rintro _ ⟨tq, rfl⟩
                go_wp2
                go_ret
                exact ⟨ret_bool (by rw [E.out]), (by ((try simp only [ext_drew]); (try simp only [ext_ext]); repeat (first | exact Ext.refl _ | with_reducible apply Ext.add | with_reducible apply Ext.dr | apply Ext.alloc | apply Ext.ext | apply Ext.drew | refine Ext.trans ?_ (by assumption))))⟩
          · have E := hid (show pclListOk m xs next = true by
              have hl := HL.out; simp at hl
              have := allI_all (p := pclAt m (next - n)) (xs := xs) (k := k) (by omega) HA.out
              simp [pclListOk, ← hl, this, h1, h2]; omega)
            go_wp2
            go_ret
            exact ⟨ret_bool (by rw [E.out]), (by ((try simp only [ext_drew]); (try simp only [ext_ext]); repeat (first | exact Ext.refl _ | with_reducible apply Ext.add | with_reducible apply Ext.dr | apply Ext.alloc | apply Ext.ext | apply Ext.drew | refine Ext.trans ?_ (by assumption))))⟩
end Go.Proofs.Ytdogknbkcididaa
