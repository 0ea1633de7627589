/- Parcels from a number on. -/
import Derived.Test.YtbbpipbemhggdaaTPcl
namespace Go.Proofs.Ytbbpipbemhggdaa
open Go.RowKit

def geN (id : Int) (x : Pcl) : Bool := decide (id ≤ x.n)
def pclFrom (xs : List Pcl) (id : Int) : List Pcl := xs.filter (geN id)
theorem pclFrom_len (xs : List Pcl) (id : Int) : (pclFrom xs id).length ≤ xs.length := List.length_filter_le _ _
set_option maxHeartbeats 1000000 in
theorem iPclFrom_c (xs : List Pcl) (a : Option Addr) (n c : Nat) (id : Int) (w : World) (hx : Re w (.sl sPcl) [.slice a n c] (.l (xs.map Pcl.dat))) (hn : n ≤ 1048576) :
    Calls Try.prog 32 #[.slice a n c, .int .i64 id] w (MadeL w sPcl (pclFrom xs id).length ((pclFrom xs id).map Pcl.dat)) := by
  have HX := hid hx
  clear hx
  go_enter Try.func32, Try.ntmps32
  go_wp2
  go_loopw [5, 10] (fun v i wr => ∃ (k : Nat), k ≤ n ∧ i = .int .i64 k ∧ wr.ownsRow w.heap.size 91 8 v ((xs.take k).filter (geN id)).length (((xs.take k).filter (geN id)).flatMap Pcl.cells) ∧ Ext w wr) (fun _ i _ => n - (intOf i).toNat)
  case atStart => exact ⟨0, Nat.zero_le _, rfl, by simpa using World.ownsRow_nil _ _ _ _, (by ((try simp only [ext_drew]); (try simp only [ext_ext]); repeat (first | exact Ext.refl _ | with_reducible apply Ext.add | with_reducible apply Ext.dr | apply Ext.alloc | apply Ext.ext | apply Ext.drew | refine Ext.trans ?_ (by assumption))))⟩
  case round =>
    obtain ⟨k, hk, rfl, hg, t, rfl⟩ := hrel
    have HG := hid hg
    clear hg
    by_cases hlt : k < n
    · obtain ⟨x, b1, o1, hxk, rfl, hb1, f0, f1, f2, f3, f4, f5, f6, f7⟩ := at_Pcl HX.out hlt
      have HK := hid hxk
      clear hxk
      have hb2 : b1 ≤ w.heap.size := Nat.le_of_lt hb1
      have hfl := filt_len (geN id) xs k
      by_cases hp : x.n < id
      ·
        have HF := hid (filt_no (p := geN id) HK.out (by simp [geN]; omega))
        try go_wp2_with (first
            | fail
            | (
              with_reducible refine wp_region_mix (by kernel_rfl) (by decide +kernel) ?_
              repeat (first
                | (refine mix_pure rfl ?_; (first | go_big_quiet_skip | (go_big_quiet_want; go_big_quiet_op; go_big_quiet_on)); refine wpQuiet_nil ?_)
                | (refine mix_skip (by rfl) ?_; (try simp only [Act.put, List.setIfInBounds_toArray, List.set_cons_zero, List.set_cons_succ]))
                | (refine mix_mk rfl (by rfl) (fun K hK => ?_); (first | (go_simp; first | skip)); (show K _ _); refine hK _ _ (show Ext _ _ from (by ((try simp only [ext_drew]); (try simp only [ext_ext]); repeat (first | exact Ext.refl _ | with_reducible apply Ext.add | with_reducible apply Ext.dr | apply Ext.alloc | apply Ext.ext | apply Ext.drew | refine Ext.trans ?_ (by assumption))))) ?_; clear hK K; (try simp only [Act.put, List.setIfInBounds_toArray, List.set_cons_zero, List.set_cons_succ])))
              refine mix_nil ?_)
            | (
              with_reducible refine wp_region_ext (by kernel_rfl) (by kernel_rfl) ?_
              repeat (first | go_big_quiet_skip | (go_big_quiet_want; go_big_quiet_op; first | go_big_quiet_on | (apply Exists.intro; refine ⟨fun _ => ?_, ?_⟩; (fail); (try rw [h1]); (try rw [h2]); (try rw [h3]); (try rw [h4]); (try rw [p1]); (try rw [p2]); (try rw [p3]); (try rw [p4]); (try rw [r1]); (try rw [r2]); (try rw [r3]); (try rw [r4]); (try rw [r5]); (try rw [r6]); (try rw [q3]); (try rw [q4]); (try rw [hp]); (try rw [hq]); go_big_quiet_on)))
              refine wpQuiet_nil ?_
              rintro _ ⟨tq, rfl⟩))
        go_roundw
        case rel => exact ⟨k + 1, by omega, by go_num, by rw [HF.out]; exact (by repeat (first | with_reducible apply ownsRow_alloc | exact HG.out | with_reducible apply ownsRow_drew | with_reducible apply ownsRow_ext)), (by ((try simp only [ext_drew]); (try simp only [ext_ext]); repeat (first | exact Ext.refl _ | with_reducible apply Ext.add | with_reducible apply Ext.dr | apply Ext.alloc | apply Ext.ext | apply Ext.drew | refine Ext.trans ?_ (by assumption))))⟩
        case measure => simp [intOf]; omega
      · have hp' : id ≤ x.n := by omega
        have HF := hid (filt_yes (p := geN id) HK.out (by simp [geN]; omega))
        go_wp2_with (first | ((refine wpList_app_Pcl (w0 := w) (xs := (xs.take k).filter (geN id)) rfl _ _ rfl rfl (by ((try simp only [ext_drew]); (try simp only [ext_ext]); repeat (first | exact Ext.refl _ | with_reducible apply Ext.add | with_reducible apply Ext.dr | apply Ext.alloc | apply Ext.ext | apply Ext.drew | refine Ext.trans ?_ (by assumption)))) (by repeat (first | with_reducible apply ownsRow_alloc | exact HG.out | with_reducible apply ownsRow_drew | with_reducible apply ownsRow_ext)) (x) rfl (alloc_last (by simp [go_sem])) (by omega) ?_); intro v' t' hg; have HG' := hid hg; clear hg))
        go_roundw
        case rel => exact ⟨k + 1, by omega, by go_num, by rw [HF.out]; exact HG'.out, (by ((try simp only [ext_drew]); (try simp only [ext_ext]); repeat (first | exact Ext.refl _ | with_reducible apply Ext.add | with_reducible apply Ext.dr | apply Ext.alloc | apply Ext.ext | apply Ext.drew | refine Ext.trans ?_ (by assumption))))⟩
        case measure => simp [intOf]; omega
    · have HE := hid (show xs.take k = xs from List.take_of_length_le (by rw [← HX.out.len]; omega))
      go_wp2
      go_ret
      rw [HE.out] at HG
      exact MadeL.mk_row (k := 8) rfl (fun w x => own_Pcl_mk w x) (fun _ => rfl) (by ((try simp only [ext_drew]); (try simp only [ext_ext]); repeat (first | exact Ext.refl _ | with_reducible apply Ext.add | with_reducible apply Ext.dr | apply Ext.alloc | apply Ext.ext | apply Ext.drew | refine Ext.trans ?_ (by assumption)))) (by have := pclFrom_len xs id; have := HX.out.len; omega) HG.out
set_option maxHeartbeats 1000000 in
theorem sPclFrom_c (xs : List Pcl) (a : Option Addr) (n c : Nat) (id : Int) (w : World) (hx : Re w (.sl sPcl) [.slice a n c] (.l (xs.map Pcl.dat))) (hn : n ≤ 1048576) :
    Calls Try.prog 34 #[.slice a n c, .int .i64 id] w (MadeL w sPcl (pclFrom xs id).length ((pclFrom xs id).map Pcl.dat)) := by
  have HX := hid hx
  clear hx
  go_enter Try.func34, Try.ntmps34
  go_wp2
  go_loopw [5, 6] (fun v i wr => ∃ (k : Nat), k ≤ n ∧ i = .int .i64 k ∧ wr.ownsRow w.heap.size 91 8 v ((xs.take k).filter (geN id)).length (((xs.take k).filter (geN id)).flatMap Pcl.cells) ∧ Ext w wr) (fun _ i _ => n - (intOf i).toNat)
  case atStart => exact ⟨0, Nat.zero_le _, rfl, by simpa using World.ownsRow_made _ #[] 0 (Nat.le_refl _) (Nat.zero_le _) rfl, (by ((try simp only [ext_drew]); (try simp only [ext_ext]); repeat (first | exact Ext.refl _ | with_reducible apply Ext.add | with_reducible apply Ext.dr | apply Ext.alloc | apply Ext.ext | apply Ext.drew | refine Ext.trans ?_ (by assumption))))⟩
  case round =>
    obtain ⟨k, hk, rfl, hg, t, rfl⟩ := hrel
    have HG := hid hg
    clear hg
    by_cases hlt : k < n
    · obtain ⟨x, b1, o1, hxk, rfl, hb1, f0, f1, f2, f3, f4, f5, f6, f7⟩ := at_Pcl HX.out hlt
      have HK := hid hxk
      clear hxk
      have hb2 : b1 ≤ w.heap.size := Nat.le_of_lt hb1
      have hfl := filt_len (geN id) xs k
      by_cases hp : x.n < id
      ·
        have HF := hid (filt_no (p := geN id) HK.out (by simp [geN]; omega))
        try go_wp2_with (first
            | fail
            | (
              with_reducible refine wp_region_mix (by kernel_rfl) (by decide +kernel) ?_
              repeat (first
                | (refine mix_pure rfl ?_; (first | go_big_quiet_skip | (go_big_quiet_want; go_big_quiet_op; go_big_quiet_on)); refine wpQuiet_nil ?_)
                | (refine mix_skip (by rfl) ?_; (try simp only [Act.put, List.setIfInBounds_toArray, List.set_cons_zero, List.set_cons_succ]))
                | (refine mix_mk rfl (by rfl) (fun K hK => ?_); (first | (go_simp; first | skip)); (show K _ _); refine hK _ _ (show Ext _ _ from (by ((try simp only [ext_drew]); (try simp only [ext_ext]); repeat (first | exact Ext.refl _ | with_reducible apply Ext.add | with_reducible apply Ext.dr | apply Ext.alloc | apply Ext.ext | apply Ext.drew | refine Ext.trans ?_ (by assumption))))) ?_; clear hK K; (try simp only [Act.put, List.setIfInBounds_toArray, List.set_cons_zero, List.set_cons_succ])))
              refine mix_nil ?_)
            | (
              with_reducible refine wp_region_ext (by kernel_rfl) (by kernel_rfl) ?_
              repeat (first | go_big_quiet_skip | (go_big_quiet_want; go_big_quiet_op; first | go_big_quiet_on | (apply Exists.intro; refine ⟨fun _ => ?_, ?_⟩; (fail); (try rw [h1]); (try rw [h2]); (try rw [h3]); (try rw [h4]); (try rw [p1]); (try rw [p2]); (try rw [p3]); (try rw [p4]); (try rw [r1]); (try rw [r2]); (try rw [r3]); (try rw [r4]); (try rw [r5]); (try rw [r6]); (try rw [q3]); (try rw [q4]); (try rw [hp]); (try rw [hq]); go_big_quiet_on)))
              refine wpQuiet_nil ?_
              rintro _ ⟨tq, rfl⟩))
        go_roundw
        case rel => exact ⟨k + 1, by omega, by go_num, by rw [HF.out]; exact (by repeat (first | with_reducible apply ownsRow_alloc | exact HG.out | with_reducible apply ownsRow_drew | with_reducible apply ownsRow_ext)), (by ((try simp only [ext_drew]); (try simp only [ext_ext]); repeat (first | exact Ext.refl _ | with_reducible apply Ext.add | with_reducible apply Ext.dr | apply Ext.alloc | apply Ext.ext | apply Ext.drew | refine Ext.trans ?_ (by assumption))))⟩
        case measure => simp [intOf]; omega
      · have hp' : id ≤ x.n := by omega
        have HF := hid (filt_yes (p := geN id) HK.out (by simp [geN]; omega))
        go_wp2_with (first | ((refine wpList_app_Pcl (w0 := w) (xs := (xs.take k).filter (geN id)) rfl _ _ rfl rfl (by ((try simp only [ext_drew]); (try simp only [ext_ext]); repeat (first | exact Ext.refl _ | with_reducible apply Ext.add | with_reducible apply Ext.dr | apply Ext.alloc | apply Ext.ext | apply Ext.drew | refine Ext.trans ?_ (by assumption)))) (by repeat (first | with_reducible apply ownsRow_alloc | exact HG.out | with_reducible apply ownsRow_drew | with_reducible apply ownsRow_ext)) (x) rfl (alloc_last (by simp [go_sem])) (by omega) ?_); intro v' t' hg; have HG' := hid hg; clear hg))
        go_roundw
        case rel => exact ⟨k + 1, by omega, by go_num, by rw [HF.out]; exact HG'.out, (by ((try simp only [ext_drew]); (try simp only [ext_ext]); repeat (first | exact Ext.refl _ | with_reducible apply Ext.add | with_reducible apply Ext.dr | apply Ext.alloc | apply Ext.ext | apply Ext.drew | refine Ext.trans ?_ (by assumption))))⟩
        case measure => simp [intOf]; omega
    · have HE := hid (show xs.take k = xs from List.take_of_length_le (by rw [← HX.out.len]; omega))
      go_wp2
      go_ret
      rw [HE.out] at HG
      exact MadeL.mk_row (k := 8) rfl (fun w x => own_Pcl_mk w x) (fun _ => rfl) (by ((try simp only [ext_drew]); (try simp only [ext_ext]); repeat (first | exact Ext.refl _ | with_reducible apply Ext.add | with_reducible apply Ext.dr | apply Ext.alloc | apply Ext.ext | apply Ext.drew | refine Ext.trans ?_ (by assumption)))) (by have := pclFrom_len xs id; have := HX.out.len; omega) HG.out
end Go.Proofs.Ytbbpipbemhggdaa
