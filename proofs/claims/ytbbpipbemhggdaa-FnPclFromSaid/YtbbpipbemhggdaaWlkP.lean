/- Walkers in lists: one put among others. -/
import Derived.Test.YtbbpipbemhggdaaWlkO
import Derived.Test.YtbbpipbemhggdaaIns
import Derived.Test.YtbbpipbemhggdaaClo
namespace Go.Proofs.Ytbbpipbemhggdaa
open Go.RowKit
set_option linter.unusedSimpArgs false
set_option linter.unusedVariables false

/-- The place of the first element that passes; the length for none. -/
def pos {α : Type} (p : α → Bool) : List α → Nat
  | [] => 0
  | x :: r => if p x then 0 else pos p r + 1
theorem pos_le {α : Type} (p : α → Bool) : ∀ xs : List α, pos p xs ≤ xs.length
  | [] => Nat.le_refl _
  | x :: r => by
    simp only [pos, List.length_cons]
    have := pos_le p r
    split <;> omega
theorem pos_hit {α : Type} {p : α → Bool} : ∀ {xs : List α} {k : Nat} {x : α}, xs[k]? = some x → (∀ y ∈ xs.take k, p y = false) → p x = true → pos p xs = k
  | [], _, _, h, _, _ => by simp at h
  | y :: ys, 0, x, h, _, hp => by
    obtain rfl : y = x := by simpa using h
    simp [pos, hp]
  | y :: ys, k + 1, x, h, ha, hp => by
    have h0 := ha y (by simp)
    simp only [pos, h0, Bool.false_eq_true, if_false]
    rw [pos_hit (k := k) (by simpa using h) (fun z hz => ha z (by simp [hz])) hp]
theorem pos_none {α : Type} {p : α → Bool} : ∀ {xs : List α}, (∀ y ∈ xs, p y = false) → pos p xs = xs.length
  | [], _ => rfl
  | y :: ys, h => by
    simp only [pos, h y (by simp), Bool.false_eq_true, if_false, List.length_cons]
    rw [pos_none fun z hz => h z (by simp [hz])]
def idGt (id : Int) (x : Wlk) : Bool := decide (id < x.id)
def putAt (xs : List Wlk) (y : Wlk) : Nat := pos (idGt y.id) (wlkOut xs y.id)
/-- A list with a walker. -/
def wlkPut (xs : List Wlk) (y : Wlk) : List Wlk := insAt (wlkOut xs y.id) (putAt xs y) y
theorem putAt_le (xs : List Wlk) (y : Wlk) : putAt xs y ≤ (wlkOut xs y.id).length := pos_le _ _
theorem wlkPut_len (xs : List Wlk) (y : Wlk) : (wlkPut xs y).length ≤ xs.length + 1 := by
  rw [wlkPut, insAt_len _ _ _ (putAt_le xs y)]
  have := wlkOut_len xs y.id; omega

set_option maxHeartbeats 1000000 in
theorem iWlkOut_r (xs : List Wlk) (a : Option Addr) (n c : Nat) (id : Int) (w : World) (hx : Re w (.sl sWlk) [.slice a n c] (.l (xs.map Wlk.dat))) (hn : n ≤ 1048576) :
    Calls Try.prog 40 #[.slice a n c, .int .i64 id] w fun e w' => ∃ v, e = .returned v ∧ Ext w w' ∧ w'.ownsRow w.heap.size 52 5 v (wlkOut xs id).length ((wlkOut xs id).flatMap Wlk.cells) := by
  have HX := hid hx
  clear hx
  go_enter Try.func40, Try.ntmps40
  go_wp2
  go_loopw [5, 10] (fun v i wr => ∃ (k : Nat), k ≤ n ∧ i = .int .i64 k ∧ wr.ownsRow w.heap.size 52 5 v ((xs.take k).filter (notId id)).length (((xs.take k).filter (notId id)).flatMap Wlk.cells) ∧ Ext w wr) (fun _ i _ => n - (intOf i).toNat)
  case atStart => exact ⟨0, Nat.zero_le _, rfl, by simpa using World.ownsRow_nil _ _ _ _, (by ((try simp only [ext_drew]); (try simp only [ext_ext]); repeat (first | exact Ext.refl _ | with_reducible apply Ext.add | with_reducible apply Ext.dr | apply Ext.alloc | apply Ext.ext | apply Ext.drew | refine Ext.trans ?_ (by assumption))))⟩
  case round =>
    obtain ⟨k, hk, rfl, hg, t, rfl⟩ := hrel
    have HG := hid hg
    clear hg
    by_cases hlt : k < n
    · obtain ⟨x, b1, o1, hxk, rfl, hb1, f0, f1, f2, f3, f4⟩ := at_Wlk HX.out hlt
      have HK := hid hxk
      clear hxk
      have hb2 : b1 ≤ w.heap.size := Nat.le_of_lt hb1
      have hfl := filt_len (notId id) xs k
      cases hp : (x.id == id) with
      | true =>
        have HF := hid (filt_no (p := notId id) HK.out (by simp [notId, hp]))
        try go_wp2_with (first
            | fail
            | (
              with_reducible refine wp_region_mix (by kernel_rfl) (by decide +kernel) ?_
              repeat (first
                | (refine mix_pure rfl ?_; (first | go_big_quiet_skip | (go_big_quiet_want; go_big_quiet_op; go_big_quiet_on)); refine wpQuiet_nil ?_)
                | (refine mix_skip (by rfl) ?_; (try simp only [Act.put, List.setIfInBounds_toArray, List.set_cons_zero, List.set_cons_succ]))
                | (refine mix_mk rfl (by rfl) (fun K hK => ?_); (first | (go_simp; first | skip)); (show K _ _); refine hK _ _ (show Ext _ _ from (by ((try simp only [ext_drew]); (try simp only [ext_ext]); repeat (first | exact Ext.refl _ | with_reducible apply Ext.add | with_reducible apply Ext.dr | apply Ext.alloc | apply Ext.ext | apply Ext.drew | refine Ext.trans ?_ (by assumption))))) ?_; clear hK K; (try simp only [Act.put, List.setIfInBounds_toArray, List.set_cons_zero, List.set_cons_succ])))
              refine mix_nil ?_)
            | (
              with_reducible refine wp_region_ext (by kernel_rfl) (by kernel_rfl) ?_
              repeat (first | go_big_quiet_skip | (go_big_quiet_want; go_big_quiet_op; first | go_big_quiet_on | (apply Exists.intro; refine ⟨fun _ => ?_, ?_⟩; (fail); (try rw [h1]); (try rw [h2]); (try rw [h3]); (try rw [h4]); (try rw [p1]); (try rw [p2]); (try rw [p3]); (try rw [p4]); (try rw [r1]); (try rw [r2]); (try rw [r3]); (try rw [r4]); (try rw [r5]); (try rw [r6]); (try rw [q3]); (try rw [q4]); (try rw [hp]); (try rw [hq]); go_big_quiet_on)))
              refine wpQuiet_nil ?_
              rintro _ ⟨tq, rfl⟩))
        go_roundw
        case rel => exact ⟨k + 1, by omega, by go_num, by rw [HF.out]; exact (by repeat (first | with_reducible apply ownsRow_alloc | exact HG.out | with_reducible apply ownsRow_drew | with_reducible apply ownsRow_ext)), (by ((try simp only [ext_drew]); (try simp only [ext_ext]); repeat (first | exact Ext.refl _ | with_reducible apply Ext.add | with_reducible apply Ext.dr | apply Ext.alloc | apply Ext.ext | apply Ext.drew | refine Ext.trans ?_ (by assumption))))⟩
        case measure => simp [intOf]; omega
      | false =>
        have HF := hid (filt_yes (p := notId id) HK.out (by simp [notId, hp]))
        go_wp2_with (first | ((refine wpList_app_Wlk (w0 := w) (xs := (xs.take k).filter (notId id)) rfl _ _ rfl rfl (by ((try simp only [ext_drew]); (try simp only [ext_ext]); repeat (first | exact Ext.refl _ | with_reducible apply Ext.add | with_reducible apply Ext.dr | apply Ext.alloc | apply Ext.ext | apply Ext.drew | refine Ext.trans ?_ (by assumption)))) (by repeat (first | with_reducible apply ownsRow_alloc | exact HG.out | with_reducible apply ownsRow_drew | with_reducible apply ownsRow_ext)) (x) rfl (alloc_last (by simp [go_sem])) (by omega) ?_); intro v' t' hg; have HG' := hid hg; clear hg))
        go_roundw
        case rel => exact ⟨k + 1, by omega, by go_num, by rw [HF.out]; exact HG'.out, (by ((try simp only [ext_drew]); (try simp only [ext_ext]); repeat (first | exact Ext.refl _ | with_reducible apply Ext.add | with_reducible apply Ext.dr | apply Ext.alloc | apply Ext.ext | apply Ext.drew | refine Ext.trans ?_ (by assumption))))⟩
        case measure => simp [intOf]; omega
    · have HE := hid (show xs.take k = xs from List.take_of_length_le (by rw [← HX.out.len]; omega))
      go_wp2
      go_ret
      rw [HE.out] at HG
      exact ⟨_, rfl, (by ((try simp only [ext_drew]); (try simp only [ext_ext]); repeat (first | exact Ext.refl _ | with_reducible apply Ext.add | with_reducible apply Ext.dr | apply Ext.alloc | apply Ext.ext | apply Ext.drew | refine Ext.trans ?_ (by assumption)))), HG.out⟩
set_option maxHeartbeats 1000000 in
theorem sWlkOut_r (xs : List Wlk) (a : Option Addr) (n c : Nat) (id : Int) (w : World) (hx : Re w (.sl sWlk) [.slice a n c] (.l (xs.map Wlk.dat))) (hn : n ≤ 1048576) :
    Calls Try.prog 74 #[.slice a n c, .int .i64 id] w fun e w' => ∃ v, e = .returned v ∧ Ext w w' ∧ w'.ownsRow w.heap.size 52 5 v (wlkOut xs id).length ((wlkOut xs id).flatMap Wlk.cells) := by
  have HX := hid hx
  clear hx
  go_enter Try.func74, Try.ntmps74
  go_wp2
  go_loopw [5, 6] (fun v i wr => ∃ (k : Nat), k ≤ n ∧ i = .int .i64 k ∧ wr.ownsRow w.heap.size 52 5 v ((xs.take k).filter (notId id)).length (((xs.take k).filter (notId id)).flatMap Wlk.cells) ∧ Ext w wr) (fun _ i _ => n - (intOf i).toNat)
  case atStart => exact ⟨0, Nat.zero_le _, rfl, by simpa using World.ownsRow_made _ #[] 0 (Nat.le_refl _) (Nat.zero_le _) rfl, (by ((try simp only [ext_drew]); (try simp only [ext_ext]); repeat (first | exact Ext.refl _ | with_reducible apply Ext.add | with_reducible apply Ext.dr | apply Ext.alloc | apply Ext.ext | apply Ext.drew | refine Ext.trans ?_ (by assumption))))⟩
  case round =>
    obtain ⟨k, hk, rfl, hg, t, rfl⟩ := hrel
    have HG := hid hg
    clear hg
    by_cases hlt : k < n
    · obtain ⟨x, b1, o1, hxk, rfl, hb1, f0, f1, f2, f3, f4⟩ := at_Wlk HX.out hlt
      have HK := hid hxk
      clear hxk
      have hb2 : b1 ≤ w.heap.size := Nat.le_of_lt hb1
      have hfl := filt_len (notId id) xs k
      cases hp : (x.id == id) with
      | true =>
        have HF := hid (filt_no (p := notId id) HK.out (by simp [notId, hp]))
        try go_wp2_with (first
            | fail
            | (
              with_reducible refine wp_region_mix (by kernel_rfl) (by decide +kernel) ?_
              repeat (first
                | (refine mix_pure rfl ?_; (first | go_big_quiet_skip | (go_big_quiet_want; go_big_quiet_op; go_big_quiet_on)); refine wpQuiet_nil ?_)
                | (refine mix_skip (by rfl) ?_; (try simp only [Act.put, List.setIfInBounds_toArray, List.set_cons_zero, List.set_cons_succ]))
                | (refine mix_mk rfl (by rfl) (fun K hK => ?_); (first | (go_simp; first | skip)); (show K _ _); refine hK _ _ (show Ext _ _ from (by ((try simp only [ext_drew]); (try simp only [ext_ext]); repeat (first | exact Ext.refl _ | with_reducible apply Ext.add | with_reducible apply Ext.dr | apply Ext.alloc | apply Ext.ext | apply Ext.drew | refine Ext.trans ?_ (by assumption))))) ?_; clear hK K; (try simp only [Act.put, List.setIfInBounds_toArray, List.set_cons_zero, List.set_cons_succ])))
              refine mix_nil ?_)
            | (
              with_reducible refine wp_region_ext (by kernel_rfl) (by kernel_rfl) ?_
              repeat (first | go_big_quiet_skip | (go_big_quiet_want; go_big_quiet_op; first | go_big_quiet_on | (apply Exists.intro; refine ⟨fun _ => ?_, ?_⟩; (fail); (try rw [h1]); (try rw [h2]); (try rw [h3]); (try rw [h4]); (try rw [p1]); (try rw [p2]); (try rw [p3]); (try rw [p4]); (try rw [r1]); (try rw [r2]); (try rw [r3]); (try rw [r4]); (try rw [r5]); (try rw [r6]); (try rw [q3]); (try rw [q4]); (try rw [hp]); (try rw [hq]); go_big_quiet_on)))
              refine wpQuiet_nil ?_
              rintro _ ⟨tq, rfl⟩))
        go_roundw
        case rel => exact ⟨k + 1, by omega, by go_num, by rw [HF.out]; exact (by repeat (first | with_reducible apply ownsRow_alloc | exact HG.out | with_reducible apply ownsRow_drew | with_reducible apply ownsRow_ext)), (by ((try simp only [ext_drew]); (try simp only [ext_ext]); repeat (first | exact Ext.refl _ | with_reducible apply Ext.add | with_reducible apply Ext.dr | apply Ext.alloc | apply Ext.ext | apply Ext.drew | refine Ext.trans ?_ (by assumption))))⟩
        case measure => simp [intOf]; omega
      | false =>
        have HF := hid (filt_yes (p := notId id) HK.out (by simp [notId, hp]))
        go_wp2_with (first | ((refine wpList_app_Wlk (w0 := w) (xs := (xs.take k).filter (notId id)) rfl _ _ rfl rfl (by ((try simp only [ext_drew]); (try simp only [ext_ext]); repeat (first | exact Ext.refl _ | with_reducible apply Ext.add | with_reducible apply Ext.dr | apply Ext.alloc | apply Ext.ext | apply Ext.drew | refine Ext.trans ?_ (by assumption)))) (by repeat (first | with_reducible apply ownsRow_alloc | exact HG.out | with_reducible apply ownsRow_drew | with_reducible apply ownsRow_ext)) (x) rfl (alloc_last (by simp [go_sem])) (by omega) ?_); intro v' t' hg; have HG' := hid hg; clear hg))
        go_roundw
        case rel => exact ⟨k + 1, by omega, by go_num, by rw [HF.out]; exact HG'.out, (by ((try simp only [ext_drew]); (try simp only [ext_ext]); repeat (first | exact Ext.refl _ | with_reducible apply Ext.add | with_reducible apply Ext.dr | apply Ext.alloc | apply Ext.ext | apply Ext.drew | refine Ext.trans ?_ (by assumption))))⟩
        case measure => simp [intOf]; omega
    · have HE := hid (show xs.take k = xs from List.take_of_length_le (by rw [← HX.out.len]; omega))
      go_wp2
      go_ret
      rw [HE.out] at HG
      exact ⟨_, rfl, (by ((try simp only [ext_drew]); (try simp only [ext_ext]); repeat (first | exact Ext.refl _ | with_reducible apply Ext.add | with_reducible apply Ext.dr | apply Ext.alloc | apply Ext.ext | apply Ext.drew | refine Ext.trans ?_ (by assumption)))), HG.out⟩

theorem put1_c (x : Wlk) (b : Nat) (id : Int) (w : World) (hb : b < w.heap.size) (hc : w.cell? ⟨b, 0, none⟩ = some (.int .i64 id)) :
    Calls Try.prog 71 #[.agg #[.int .i64 x.id, .int .i64 x.at_, .int .i64 x.coins, .int .i64 x.seq, .int .i64 x.last], .pointer (some ⟨b, 0, none⟩)] w fun e w' => e = .returned (.bool (idGt id x)) ∧ Ext w w' := by
  go_enter Try.func71, Try.ntmps71
  try go_wp2_with (first
      | fail
      | (
        with_reducible refine wp_region_mix (by kernel_rfl) (by decide +kernel) ?_
        repeat (first
          | (refine mix_pure rfl ?_; (first | go_big_quiet_skip | (go_big_quiet_want; go_big_quiet_op; go_big_quiet_on)); refine wpQuiet_nil ?_)
          | (refine mix_skip (by rfl) ?_; (try simp only [Act.put, List.setIfInBounds_toArray, List.set_cons_zero, List.set_cons_succ]))
          | (refine mix_mk rfl (by rfl) (fun K hK => ?_); (first | (go_simp; first | skip)); (show K _ _); refine hK _ _ (show Ext _ _ from (by ((try simp only [ext_drew]); (try simp only [ext_ext]); repeat (first | exact Ext.refl _ | with_reducible apply Ext.add | with_reducible apply Ext.dr | apply Ext.alloc | apply Ext.ext | apply Ext.drew | refine Ext.trans ?_ (by assumption))))) ?_; clear hK K; (try simp only [Act.put, List.setIfInBounds_toArray, List.set_cons_zero, List.set_cons_succ])))
        refine mix_nil ?_)
      | (
        with_reducible refine wp_region_ext (by kernel_rfl) (by kernel_rfl) ?_
        repeat (first | go_big_quiet_skip | (go_big_quiet_want; go_big_quiet_op; first | go_big_quiet_on | (apply Exists.intro; refine ⟨fun _ => ?_, ?_⟩; (fail); (try rw [h1]); (try rw [h2]); (try rw [h3]); (try rw [h4]); (try rw [p1]); (try rw [p2]); (try rw [p3]); (try rw [p4]); (try rw [r1]); (try rw [r2]); (try rw [r3]); (try rw [r4]); (try rw [r5]); (try rw [r6]); (try rw [q3]); (try rw [q4]); (try rw [hp]); (try rw [hq]); go_big_quiet_on)))
        refine wpQuiet_nil ?_
        rintro _ ⟨tq, rfl⟩))
  go_ret
  exact ⟨rfl, (by ((try simp only [ext_drew]); (try simp only [ext_ext]); repeat (first | exact Ext.refl _ | with_reducible apply Ext.add | with_reducible apply Ext.dr | apply Ext.alloc | apply Ext.ext | apply Ext.drew | refine Ext.trans ?_ (by assumption))))⟩

set_option maxHeartbeats 1000000 in
theorem idxP_c (xs : List Wlk) (a : Option Addr) (n c b : Nat) (id q : Int) (w : World) (hx : Re w (.sl sWlk) [.slice a n c] (.l (xs.map Wlk.dat))) (hn : n ≤ 1048576) (hb : b < w.heap.size) (hc : w.cell? ⟨b, 0, none⟩ = some (.int .i64 id)) (hq : (if pos (idGt id) xs < xs.length then ((pos (idGt id) xs : Nat) : Int) else -1) = q) :
    Calls Try.prog 70 #[.slice a n c, .func (.func 71) #[] #[.pointer (some ⟨b, 0, none⟩)]] w fun e w' => e = .returned (.int .i64 q) ∧ Ext w w' := by
  have HX := hid hx
  have HQ := hid hq
  clear hx hq
  go_enter Try.func70, Try.ntmps70
  go_wp2
  go_loopw [8] (fun i wr => ∃ k : Nat, k ≤ n ∧ i = .int .i64 k ∧ (∀ y ∈ xs.take k, idGt id y = false) ∧ Ext w wr) (fun i _ => n - (intOf i).toNat)
  case atStart => exact ⟨0, Nat.zero_le _, rfl, by simp, Ext.refl _⟩
  case round =>
    obtain ⟨k, hk, rfl, hal, t, rfl⟩ := hrel
    have HA := hid hal
    clear hal
    by_cases hlt : k < n
    · obtain ⟨x, b1, o1, hxk, rfl, hb1, f0, f1, f2, f3, f4⟩ := at_Wlk HX.out hlt
      have HK := hid hxk
      clear hxk
      cases hp : idGt id x with
      | true =>
        have E := hid (show q = (k : Int) by rw [← HQ.out, pos_hit HK.out HA.out hp, if_pos (by have := HX.out.len; omega)])
        try go_wp2_with (first
            | (go_at_call 71; (with_reducible refine (put1_c x b id _ (by simp [ext_size]; omega) (by rw [ext_cell' _ _ _ _ hb]; exact hc)).mono ?_); rintro e w' ⟨rfl, t, rfl⟩)
            | (
              with_reducible refine wp_region_mix (by kernel_rfl) (by decide +kernel) ?_
              repeat (first
                | (refine mix_pure rfl ?_; (first | go_big_quiet_skip | (go_big_quiet_want; go_big_quiet_op; go_big_quiet_on)); refine wpQuiet_nil ?_)
                | (refine mix_skip (by rfl) ?_; (try simp only [Act.put, List.setIfInBounds_toArray, List.set_cons_zero, List.set_cons_succ]))
                | (refine mix_mk rfl (by rfl) (fun K hK => ?_); (first | (go_simp; first | (go_at_call 71; (with_reducible refine (put1_c x b id _ (by simp [ext_size]; omega) (by rw [ext_cell' _ _ _ _ hb]; exact hc)).mono ?_); rintro e w' ⟨rfl, t, rfl⟩) | skip)); (show K _ _); refine hK _ _ (show Ext _ _ from (by ((try simp only [ext_drew]); (try simp only [ext_ext]); repeat (first | exact Ext.refl _ | with_reducible apply Ext.add | with_reducible apply Ext.dr | apply Ext.alloc | apply Ext.ext | apply Ext.drew | refine Ext.trans ?_ (by assumption))))) ?_; clear hK K; (try simp only [Act.put, List.setIfInBounds_toArray, List.set_cons_zero, List.set_cons_succ])))
              refine mix_nil ?_)
            | (
              with_reducible refine wp_region_ext (by kernel_rfl) (by kernel_rfl) ?_
              repeat (first | go_big_quiet_skip | (go_big_quiet_want; go_big_quiet_op; first | go_big_quiet_on | (apply Exists.intro; refine ⟨fun _ => ?_, ?_⟩; (fail); (try rw [h1]); (try rw [h2]); (try rw [h3]); (try rw [h4]); (try rw [p1]); (try rw [p2]); (try rw [p3]); (try rw [p4]); (try rw [r1]); (try rw [r2]); (try rw [r3]); (try rw [r4]); (try rw [r5]); (try rw [r6]); (try rw [q3]); (try rw [q4]); (try rw [hp]); (try rw [hq]); go_big_quiet_on)))
              refine wpQuiet_nil ?_
              rintro _ ⟨tq, rfl⟩))
        go_ret
        exact ⟨ret_int E.out.symm, (by ((try simp only [ext_drew]); (try simp only [ext_ext]); repeat (first | exact Ext.refl _ | with_reducible apply Ext.add | with_reducible apply Ext.dr | apply Ext.alloc | apply Ext.ext | apply Ext.drew | refine Ext.trans ?_ (by assumption))))⟩
      | false =>
        try go_wp2_with (first
            | (go_at_call 71; (with_reducible refine (put1_c x b id _ (by simp [ext_size]; omega) (by rw [ext_cell' _ _ _ _ hb]; exact hc)).mono ?_); rintro e w' ⟨rfl, t, rfl⟩)
            | (
              with_reducible refine wp_region_mix (by kernel_rfl) (by decide +kernel) ?_
              repeat (first
                | (refine mix_pure rfl ?_; (first | go_big_quiet_skip | (go_big_quiet_want; go_big_quiet_op; go_big_quiet_on)); refine wpQuiet_nil ?_)
                | (refine mix_skip (by rfl) ?_; (try simp only [Act.put, List.setIfInBounds_toArray, List.set_cons_zero, List.set_cons_succ]))
                | (refine mix_mk rfl (by rfl) (fun K hK => ?_); (first | (go_simp; first | (go_at_call 71; (with_reducible refine (put1_c x b id _ (by simp [ext_size]; omega) (by rw [ext_cell' _ _ _ _ hb]; exact hc)).mono ?_); rintro e w' ⟨rfl, t, rfl⟩) | skip)); (show K _ _); refine hK _ _ (show Ext _ _ from (by ((try simp only [ext_drew]); (try simp only [ext_ext]); repeat (first | exact Ext.refl _ | with_reducible apply Ext.add | with_reducible apply Ext.dr | apply Ext.alloc | apply Ext.ext | apply Ext.drew | refine Ext.trans ?_ (by assumption))))) ?_; clear hK K; (try simp only [Act.put, List.setIfInBounds_toArray, List.set_cons_zero, List.set_cons_succ])))
              refine mix_nil ?_)
            | (
              with_reducible refine wp_region_ext (by kernel_rfl) (by kernel_rfl) ?_
              repeat (first | go_big_quiet_skip | (go_big_quiet_want; go_big_quiet_op; first | go_big_quiet_on | (apply Exists.intro; refine ⟨fun _ => ?_, ?_⟩; (fail); (try rw [h1]); (try rw [h2]); (try rw [h3]); (try rw [h4]); (try rw [p1]); (try rw [p2]); (try rw [p3]); (try rw [p4]); (try rw [r1]); (try rw [r2]); (try rw [r3]); (try rw [r4]); (try rw [r5]); (try rw [r6]); (try rw [q3]); (try rw [q4]); (try rw [hp]); (try rw [hq]); go_big_quiet_on)))
              refine wpQuiet_nil ?_
              rintro _ ⟨tq, rfl⟩))
        go_roundw
        case rel => exact ⟨k + 1, by omega, by go_num, take_step HA.out HK.out hp, (by ((try simp only [ext_drew]); (try simp only [ext_ext]); repeat (first | exact Ext.refl _ | with_reducible apply Ext.add | with_reducible apply Ext.dr | apply Ext.alloc | apply Ext.ext | apply Ext.drew | refine Ext.trans ?_ (by assumption))))⟩
        case measure => simp [intOf]; omega
    · have HE := hid (show q = -1 by rw [← HQ.out, pos_none (take_end HA.out (by have := HX.out.len; omega)), if_neg (by omega)])
      go_wp2
      go_ret
      exact ⟨ret_int HE.out.symm, (by ((try simp only [ext_drew]); (try simp only [ext_ext]); repeat (first | exact Ext.refl _ | with_reducible apply Ext.add | with_reducible apply Ext.dr | apply Ext.alloc | apply Ext.ext | apply Ext.drew | refine Ext.trans ?_ (by assumption))))⟩
theorem row_reW {w : World} {base : Nat} {a : Option Addr} {n c : Nat} {xs : List Wlk} (hm : xs.length ≤ 9223372036854775807) (h : w.ownsRow base 52 5 (.slice a n c) xs.length (xs.flatMap Wlk.cells)) : n = xs.length ∧ Re w (.sl sWlk) [.slice a n c] (.l (xs.map Wlk.dat)) := by
  obtain ⟨a9, c9, e9, h9⟩ := own_row (dat := Wlk.dat) (sch := sWlk) (k := 5) rfl (fun w x => own_Wlk_mk w x) (fun _ => rfl) hm h
  obtain ⟨rfl, rfl, rfl⟩ := Value.slice.inj e9
  exact ⟨rfl, h9.re⟩
set_option maxRecDepth 100000 in
set_option maxHeartbeats 4000000 in
theorem iWlkPut_c (xs : List Wlk) (y : Wlk) (a : Option Addr) (n c : Nat) (w : World) (hx : Re w (.sl sWlk) [.slice a n c] (.l (xs.map Wlk.dat))) (hn : n ≤ 1048576) :
    Calls Try.prog 36 #[.slice a n c, .agg #[.int .i64 y.id, .int .i64 y.at_, .int .i64 y.coins, .int .i64 y.seq, .int .i64 y.last]] w (MadeX w 52 5 Wlk.cells (wlkPut xs y)) := by
  have HX := hid hx
  have HL := hid hx.len
  clear hx
  have hol : (wlkOut xs y.id).length ≤ 1048576 := by have := wlkOut_len xs y.id; have := HL.out; omega
  obtain ⟨p, hp⟩ : ∃ p, putAt xs y = p := ⟨_, rfl⟩
  have HP := hid hp
  have hple : p ≤ (wlkOut xs y.id).length := hp ▸ putAt_le xs y
  clear hp
  by_cases hlt : p < (wlkOut xs y.id).length
  · have HQ := hid (show (if pos (idGt y.id) (wlkOut xs y.id) < (wlkOut xs y.id).length then ((pos (idGt y.id) (wlkOut xs y.id) : Nat) : Int) else -1) = (p : Int) by rw [show pos (idGt y.id) (wlkOut xs y.id) = p from HP.out, if_pos hlt])
    go_enter Try.func36, Try.ntmps36
    go_wp2_with (first
      | (go_at_call 40; ((with_reducible refine (iWlkOut_r xs _ _ _ _ _ (HX.out.of (by ((try simp only [ext_drew]); (try simp only [ext_ext]); repeat (first | exact Ext.refl _ | with_reducible apply Ext.add | with_reducible apply Ext.dr | apply Ext.alloc | apply Ext.ext | apply Ext.drew | refine Ext.trans ?_ (by assumption))))) (by omega)).mono ?_); rintro e w' ⟨v, rfl, ⟨t, rfl⟩, hrow⟩; obtain ⟨sa, sn, sc, rfl⟩ := row_slice hrow; obtain ⟨hsn, hre⟩ := row_reW (by omega) hrow; have HG := hid (ownsRow_le (base' := w.heap.size) hrow (by simp)); have HRo := hid hre; have hsm : sn ≤ 1048576 := (by omega); have HSN := hid hsn; clear hrow hre hsn))
      | (go_at_call 70; (with_reducible refine (idxP_c (wlkOut xs y.id) _ _ _ _ y.id (p : Int) _ (HRo.out.of (by ((try simp only [ext_drew]); (try simp only [ext_ext]); repeat (first | exact Ext.refl _ | with_reducible apply Ext.add | with_reducible apply Ext.dr | apply Ext.alloc | apply Ext.ext | apply Ext.drew | refine Ext.trans ?_ (by assumption))))) hsm (by (try simp [go_sem]) <;> (try simp [Xt.add]) <;> omega) (by simp [go_sem]) HQ.out).mono ?_); rintro e w' ⟨rfl, t2, rfl⟩)
      | (go_at_call 73; ((refine (insWlk_c (wlkOut xs y.id) y _ p _ _ w.heap.size _ (ownsRow_of HG.out (by ((try simp only [ext_drew]); (try simp only [ext_ext]); repeat (first | exact Ext.refl _ | with_reducible apply Ext.add | with_reducible apply Ext.dr | apply Ext.alloc | apply Ext.ext | apply Ext.drew | refine Ext.trans ?_ (by assumption))))) (by (try simp [go_sem]) <;> (try simp [Xt.add]) <;> omega) hple (by exact alloc_last (by (try simp [go_sem]) <;> (try simp [Xt.add]) <;> omega)) (fun g hg => Nat.ne_of_gt (Nat.lt_of_lt_of_le (HG.out.lt g hg).2 (by (try simp [go_sem]) <;> (try simp [Xt.add]) <;> omega))) (by omega)).mono ?_); rintro e w' ⟨v2, rfl, hrow2, hch⟩; obtain ⟨t3, rfl⟩ : Ext w w' := Ext.of_below (Below.chg (w0 := w) (Ext.below (by ((try simp only [ext_drew]); (try simp only [ext_ext]); repeat (first | exact Ext.refl _ | with_reducible apply Ext.add | with_reducible apply Ext.dr | apply Ext.alloc | apply Ext.ext | apply Ext.drew | refine Ext.trans ?_ (by assumption))))) hch (fun g hg => (HG.out.lt g (by simpa using hg)).1)); obtain ⟨ra, rn, rc, rfl⟩ := row_slice hrow2; obtain ⟨hrn, hre2⟩ := row_reW (by rw [insAt_len _ _ _ hple]; omega) hrow2; have HR2 := hid hre2; have hrm : rn ≤ 2097152 := (by rw [hrn, insAt_len _ _ _ hple]; omega); have HRN := hid hrn; clear hrow2 hch hre2 hrn))
      | (go_at_call 72; ((with_reducible refine (iCloneWlk_x (insAt (wlkOut xs y.id) p y) _ _ _ _ (HR2.out.of (by ((try simp only [ext_drew]); (try simp only [ext_ext]); repeat (first | exact Ext.refl _ | with_reducible apply Ext.add | with_reducible apply Ext.dr | apply Ext.alloc | apply Ext.ext | apply Ext.drew | refine Ext.trans ?_ (by assumption))))) hrm).mono ?_); rintro e w' ⟨a4, c4, B4, rfl, ⟨t4, rfl⟩, hx4, hb4⟩; have HX4 := hid hx4; have HB4 := hid hb4; clear hx4 hb4)))
    go_ret
    rw [show wlkPut xs y = insAt (wlkOut xs y.id) p y by have h9 := HSN.out; first | (rw [wlkPut, HP.out]; done) | (rw [wlkPut, HP.out]; congr 1; omega)]
    exact ⟨a4, c4, B4, rfl, (by ((try simp only [ext_drew]); (try simp only [ext_ext]); repeat (first | exact Ext.refl _ | with_reducible apply Ext.add | with_reducible apply Ext.dr | apply Ext.alloc | apply Ext.ext | apply Ext.drew | refine Ext.trans ?_ (by assumption)))), HX4.out.of (by ((try simp only [ext_drew]); (try simp only [ext_ext]); repeat (first | exact Ext.refl _ | with_reducible apply Ext.add | with_reducible apply Ext.dr | apply Ext.alloc | apply Ext.ext | apply Ext.drew | refine Ext.trans ?_ (by assumption)))), fun b hb => Nat.le_trans (by (try simp [go_sem]) <;> (try simp [Xt.add]) <;> omega) (HB4.out b hb)⟩
  · have hpe : p = (wlkOut xs y.id).length := by omega
    have HQ := hid (show (if pos (idGt y.id) (wlkOut xs y.id) < (wlkOut xs y.id).length then ((pos (idGt y.id) (wlkOut xs y.id) : Nat) : Int) else -1) = -1 by rw [show pos (idGt y.id) (wlkOut xs y.id) = p from HP.out, if_neg hlt])
    go_enter Try.func36, Try.ntmps36
    go_wp2_with (first
      | (go_at_call 40; ((with_reducible refine (iWlkOut_r xs _ _ _ _ _ (HX.out.of (by ((try simp only [ext_drew]); (try simp only [ext_ext]); repeat (first | exact Ext.refl _ | with_reducible apply Ext.add | with_reducible apply Ext.dr | apply Ext.alloc | apply Ext.ext | apply Ext.drew | refine Ext.trans ?_ (by assumption))))) (by omega)).mono ?_); rintro e w' ⟨v, rfl, ⟨t, rfl⟩, hrow⟩; obtain ⟨sa, sn, sc, rfl⟩ := row_slice hrow; obtain ⟨hsn, hre⟩ := row_reW (by omega) hrow; have HG := hid (ownsRow_le (base' := w.heap.size) hrow (by simp)); have HRo := hid hre; have hsm : sn ≤ 1048576 := (by omega); have HSN := hid hsn; clear hrow hre hsn))
      | (go_at_call 70; (with_reducible refine (idxP_c (wlkOut xs y.id) _ _ _ _ y.id (-1) _ (HRo.out.of (by ((try simp only [ext_drew]); (try simp only [ext_ext]); repeat (first | exact Ext.refl _ | with_reducible apply Ext.add | with_reducible apply Ext.dr | apply Ext.alloc | apply Ext.ext | apply Ext.drew | refine Ext.trans ?_ (by assumption))))) hsm (by (try simp [go_sem]) <;> (try simp [Xt.add]) <;> omega) (by simp [go_sem]) HQ.out).mono ?_); rintro e w' ⟨rfl, t2, rfl⟩)
      | (go_at_call 73; ((refine (insWlk_c (wlkOut xs y.id) y _ sn _ _ w.heap.size _ (ownsRow_of HG.out (by ((try simp only [ext_drew]); (try simp only [ext_ext]); repeat (first | exact Ext.refl _ | with_reducible apply Ext.add | with_reducible apply Ext.dr | apply Ext.alloc | apply Ext.ext | apply Ext.drew | refine Ext.trans ?_ (by assumption))))) (by (try simp [go_sem]) <;> (try simp [Xt.add]) <;> omega) (show sn ≤ (wlkOut xs y.id).length from Nat.le_of_eq HSN.out) (by exact alloc_last (by (try simp [go_sem]) <;> (try simp [Xt.add]) <;> omega)) (fun g hg => Nat.ne_of_gt (Nat.lt_of_lt_of_le (HG.out.lt g hg).2 (by (try simp [go_sem]) <;> (try simp [Xt.add]) <;> omega))) (by omega)).mono ?_); rintro e w' ⟨v2, rfl, hrow2, hch⟩; obtain ⟨t3, rfl⟩ : Ext w w' := Ext.of_below (Below.chg (w0 := w) (Ext.below (by ((try simp only [ext_drew]); (try simp only [ext_ext]); repeat (first | exact Ext.refl _ | with_reducible apply Ext.add | with_reducible apply Ext.dr | apply Ext.alloc | apply Ext.ext | apply Ext.drew | refine Ext.trans ?_ (by assumption))))) hch (fun g hg => (HG.out.lt g (by simpa using hg)).1)); obtain ⟨ra, rn, rc, rfl⟩ := row_slice hrow2; obtain ⟨hrn, hre2⟩ := row_reW (by rw [insAt_len _ _ _ (show sn ≤ (wlkOut xs y.id).length from Nat.le_of_eq HSN.out)]; omega) hrow2; have HR2 := hid hre2; have hrm : rn ≤ 2097152 := (by rw [hrn, insAt_len _ _ _ (show sn ≤ (wlkOut xs y.id).length from Nat.le_of_eq HSN.out)]; omega); have HRN := hid hrn; clear hrow2 hch hre2 hrn))
      | (go_at_call 72; ((with_reducible refine (iCloneWlk_x (insAt (wlkOut xs y.id) sn y) _ _ _ _ (HR2.out.of (by ((try simp only [ext_drew]); (try simp only [ext_ext]); repeat (first | exact Ext.refl _ | with_reducible apply Ext.add | with_reducible apply Ext.dr | apply Ext.alloc | apply Ext.ext | apply Ext.drew | refine Ext.trans ?_ (by assumption))))) hrm).mono ?_); rintro e w' ⟨a4, c4, B4, rfl, ⟨t4, rfl⟩, hx4, hb4⟩; have HX4 := hid hx4; have HB4 := hid hb4; clear hx4 hb4)))
    go_ret
    rw [show wlkPut xs y = insAt (wlkOut xs y.id) sn y by have h9 := HSN.out; first | (rw [wlkPut, HP.out]; done) | (rw [wlkPut, HP.out]; congr 1; omega)]
    exact ⟨a4, c4, B4, rfl, (by ((try simp only [ext_drew]); (try simp only [ext_ext]); repeat (first | exact Ext.refl _ | with_reducible apply Ext.add | with_reducible apply Ext.dr | apply Ext.alloc | apply Ext.ext | apply Ext.drew | refine Ext.trans ?_ (by assumption)))), HX4.out.of (by ((try simp only [ext_drew]); (try simp only [ext_ext]); repeat (first | exact Ext.refl _ | with_reducible apply Ext.add | with_reducible apply Ext.dr | apply Ext.alloc | apply Ext.ext | apply Ext.drew | refine Ext.trans ?_ (by assumption)))), fun b hb => Nat.le_trans (by (try simp [go_sem]) <;> (try simp [Xt.add]) <;> omega) (HB4.out b hb)⟩
/-- What the reference has built behind k elements. -/
def outK (r : List Wlk) (p : Nat) (y : Wlk) (k : Nat) : List Wlk := if p < k then insAt (r.take k) p y else r.take k
theorem outK_len (r : List Wlk) (p : Nat) (y : Wlk) (k : Nat) : (outK r p y k).length ≤ r.length + 1 := by
  unfold outK
  split
  · simp only [insAt, List.length_append, List.length_cons, List.length_take, List.length_drop]; omega
  · rw [List.length_take]; omega
theorem outK_done {r : List Wlk} {p : Nat} {y x : Wlk} {k : Nat} (h : p < k) (hx : r[k]? = some x) : outK r p y (k + 1) = outK r p y k ++ [x] := by
  have hk := (List.getElem?_eq_some_iff.1 hx).1
  unfold outK
  rw [if_pos (by omega), if_pos h, insAt, insAt, List.take_add_one, hx]
  simp only [Option.toList_some]
  rw [List.take_append_of_le_length (by simp; omega), List.drop_append_of_le_length (by simp; omega)]
  simp
theorem outK_at {r : List Wlk} {y x : Wlk} {k : Nat} (hx : r[k]? = some x) : outK r k y (k + 1) = (outK r k y k ++ [y]) ++ [x] := by
  have hk := (List.getElem?_eq_some_iff.1 hx).1
  unfold outK
  rw [if_pos (by omega), if_neg (by omega), insAt, List.take_add_one, hx]
  simp only [Option.toList_some]
  have e : (List.take k r).length = k := by simp; omega
  rw [List.take_append_of_le_length (by omega), List.drop_append_of_le_length (by omega), List.take_of_length_le (by omega), List.drop_of_length_le (by omega)]
  simp
theorem outK_lt {r : List Wlk} {p : Nat} {y x : Wlk} {k : Nat} (h : k < p) (hx : r[k]? = some x) : outK r p y (k + 1) = outK r p y k ++ [x] := by
  unfold outK
  rw [if_neg (by omega), if_neg (by omega), List.take_add_one, hx]; rfl
theorem pos_at {α : Type} {p : α → Bool} : ∀ {xs : List α} {k : Nat} {x : α}, xs[k]? = some x → (k < pos p xs → p x = false) ∧ (k = pos p xs → p x = true)
  | [], _, _, h => by simp at h
  | z :: zs, 0, x, h => by
    obtain rfl : z = x := by simpa using h
    simp only [pos]
    cases hz : p z <;> simp
  | z :: zs, k + 1, x, h => by
    have := pos_at (p := p) (k := k) (xs := zs) (x := x) (by simpa using h)
    simp only [pos]
    cases hz : p z with
    | true => simp
    | false =>
      simp only [Bool.false_eq_true, if_false]
      exact ⟨fun h1 => this.1 (by omega), fun h1 => this.2 (by omega)⟩
set_option maxRecDepth 100000 in
set_option maxHeartbeats 4000000 in
theorem sWlkPut_c (xs : List Wlk) (y : Wlk) (a : Option Addr) (n c : Nat) (w : World) (hx : Re w (.sl sWlk) [.slice a n c] (.l (xs.map Wlk.dat))) (hn : n ≤ 1048576) :
    Calls Try.prog 38 #[.slice a n c, .agg #[.int .i64 y.id, .int .i64 y.at_, .int .i64 y.coins, .int .i64 y.seq, .int .i64 y.last]] w (MadeX w 52 5 Wlk.cells (wlkPut xs y)) := by
  have HX := hid hx
  have HL := hid hx.len
  clear hx
  have hol : (wlkOut xs y.id).length ≤ 1048576 := by have := wlkOut_len xs y.id; have := HL.out; omega
  obtain ⟨p, hp⟩ : ∃ p, putAt xs y = p := ⟨_, rfl⟩
  have HP := hid hp
  have hple : p ≤ (wlkOut xs y.id).length := hp ▸ putAt_le xs y
  clear hp
  go_enter Try.func38, Try.ntmps38
  go_wp2_with (go_at_call 74; (with_reducible refine (sWlkOut_r xs _ _ _ _ _ (HX.out.of (by ((try simp only [ext_drew]); (try simp only [ext_ext]); repeat (first | exact Ext.refl _ | with_reducible apply Ext.add | with_reducible apply Ext.dr | apply Ext.alloc | apply Ext.ext | apply Ext.drew | refine Ext.trans ?_ (by assumption))))) (by omega)).mono ?_); rintro e w' ⟨v, rfl, ⟨t, rfl⟩, hrow⟩; obtain ⟨sa, sn, sc, rfl⟩ := row_slice hrow; obtain ⟨hsn, hre⟩ := row_reW (by omega) hrow; have HRo := hid hre; have hsm : sn ≤ 1048576 := (by omega); have HSN := hid hsn; clear hrow hre hsn)
  refine wp_gen fun B0 hB0 => ?_
  have EB : Ext w B0 := by rw [hB0]; ((try simp only [ext_drew]); (try simp only [ext_ext]); repeat (first | exact Ext.refl _ | with_reducible apply Ext.add | with_reducible apply Ext.dr | apply Ext.alloc | apply Ext.ext | apply Ext.drew | refine Ext.trans ?_ (by assumption)))
  have HRb := hid (show Re B0 (.sl sWlk) [.slice sa sn sc] (.l ((wlkOut xs y.id).map Wlk.dat)) by rw [hB0]; exact HRo.out.of (by ((try simp only [ext_drew]); (try simp only [ext_ext]); repeat (first | exact Ext.refl _ | with_reducible apply Ext.add | with_reducible apply Ext.dr | apply Ext.alloc | apply Ext.ext | apply Ext.drew | refine Ext.trans ?_ (by assumption)))))
  have lM : w.heap.size < B0.heap.size := by rw [hB0]; ((try simp [go_sem]) <;> (try simp [Xt.add]) <;> omega)
  have cM0 : B0.cell? ⟨w.heap.size, 0, none⟩ = some (.int .i64 y.id) := by rw [hB0]; simp [go_sem]
  have cM1 : B0.cell? ⟨w.heap.size, 1, none⟩ = some (.int .i64 y.at_) := by rw [hB0]; simp [go_sem]
  have cM2 : B0.cell? ⟨w.heap.size, 2, none⟩ = some (.int .i64 y.coins) := by rw [hB0]; simp [go_sem]
  have cM3 : B0.cell? ⟨w.heap.size, 3, none⟩ = some (.int .i64 y.seq) := by rw [hB0]; simp [go_sem]
  have cM4 : B0.cell? ⟨w.heap.size, 4, none⟩ = some (.int .i64 y.last) := by rw [hB0]; simp [go_sem]
  have HG0 := hid (show RowX B0 52 5 Wlk.cells (.slice (some ⟨w.heap.size + 1 + t.bs.size, 0, none⟩) 0 0) [] [] from .inl ⟨rfl, rfl, _, rfl, .inr ⟨_, rfl⟩⟩)
  clear hB0 HRo
  go_loopw [6, 7, 8] (fun v d i wr => ∃ (k : Nat) (B : List Nat), k ≤ sn ∧ i = .int .i64 k ∧ d = .bool (decide (p < k)) ∧ RowX wr 52 5 Wlk.cells v (outK (wlkOut xs y.id) p y k) B ∧ (∀ b ∈ B, B0.heap.size ≤ b) ∧ Ext B0 wr) (fun _ _ i _ => sn - (intOf i).toNat)
  case atStart => exact ⟨0, [], Nat.zero_le _, rfl, by simp, HG0.out, by simp, (by ((try simp only [ext_drew]); (try simp only [ext_ext]); repeat (first | exact Ext.refl _ | with_reducible apply Ext.add | with_reducible apply Ext.dr | apply Ext.alloc | apply Ext.ext | apply Ext.drew | refine Ext.trans ?_ (by assumption))))⟩
  case round =>
    obtain ⟨k, B, hk, rfl, rfl, hg, hgb, t2, rfl⟩ := hrel
    have HG := hid hg
    have HGb := hid hgb
    have hol2 := outK_len (wlkOut xs y.id) p y k
    clear hg hgb
    by_cases hlt : k < sn
    · obtain ⟨x, b1, o1, hxk, rfl, hb1, f0, f1, f2, f3, f4⟩ := at_Wlk HRb.out hlt
      have HK := hid hxk
      obtain ⟨g1, g2⟩ := pos_at (p := idGt y.id) hxk
      rw [show pos (idGt y.id) (wlkOut xs y.id) = p from HP.out] at g1 g2
      clear hxk
      rcases Nat.lt_trichotomy p k with hpk | hpk | hpk
      · have hd : decide (p < k) = true := by simp [hpk]
        have HD := hid (show decide (p < k + 1) = true by simp; omega)
        have HE := hid (outK_done (y := y) hpk HK.out)
        clear g1 g2
        go_wp2
        with_reducible refine wp_region_ext (by kernel_rfl) (by kernel_rfl) ?_
        repeat (go_big_quiet_step (fail))
        refine wpQuiet_nil ?_
        rintro _ ⟨tq, rfl⟩
        go_wp2_with (first | ((refine wpList_appXE (cells := Wlk.cells) (k := 5) (bytes := 40) (z := .agg #[.int .i64 0, .int .i64 0, .int .i64 0, .int .i64 0, .int .i64 0]) Try.underlying50 (by kernel_rfl) rfl (by decide) (by decide) (fun _ => rfl) (fun x u hu => by simp only [Wlk.cells, List.mem_cons, List.not_mem_nil, or_false] at hu; rcases hu with rfl | rfl | rfl | rfl | rfl <;> rfl) rfl (B0) _ _ rfl rfl (by ((try simp only [ext_drew]); (try simp only [ext_ext]); repeat (first | exact Ext.refl _ | with_reducible apply Ext.add | with_reducible apply Ext.dr | apply Ext.alloc | apply Ext.ext | apply Ext.drew | refine Ext.trans ?_ (by assumption)))) (xs := outK (wlkOut xs y.id) p y k) (HG.out.of (by ((try simp only [ext_drew]); (try simp only [ext_ext]); repeat (first | exact Ext.refl _ | with_reducible apply Ext.add | with_reducible apply Ext.dr | apply Ext.alloc | apply Ext.ext | apply Ext.drew | refine Ext.trans ?_ (by assumption))))) HGb.out (x) rfl (alloc_last (by (try simp [go_sem]) <;> (try simp [Xt.add]) <;> omega)) (by omega) ?_); intro v' t' B' hg hb; have HG' := hid hg; have HG'b := hid hb; clear hg hb))
        go_roundw
        case rel => exact ⟨k + 1, _, by omega, by go_num, by rw [HD.out], by rw [HE.out]; exact HG'.out, HG'b.out, (by ((try simp only [ext_drew]); (try simp only [ext_ext]); repeat (first | exact Ext.refl _ | with_reducible apply Ext.add | with_reducible apply Ext.dr | apply Ext.alloc | apply Ext.ext | apply Ext.drew | refine Ext.trans ?_ (by assumption))))⟩
        case measure => simp [intOf]; omega
      · subst hpk
        have hd : decide (p < p) = false := by simp
        have HD := hid (show decide (p < p + 1) = true by simp)
        have HE := hid (outK_at (y := y) HK.out)
        have hgt : decide (y.id < x.id) = true := g2 rfl
        have hol3 : (outK (wlkOut xs y.id) p y p ++ [y]).length ≤ 4194304 := by rw [List.length_append]; simp; omega
        clear g1 g2
        go_wp2
        with_reducible refine wp_region_ext (by kernel_rfl) (by kernel_rfl) ?_
        repeat (go_big_quiet_step (fail))
        refine wpQuiet_nil ?_
        rintro _ ⟨tq, rfl⟩
        go_wp2_with (first | ((refine wpList_appXE (cells := Wlk.cells) (k := 5) (bytes := 40) (z := .agg #[.int .i64 0, .int .i64 0, .int .i64 0, .int .i64 0, .int .i64 0]) Try.underlying50 (by kernel_rfl) rfl (by decide) (by decide) (fun _ => rfl) (fun x u hu => by simp only [Wlk.cells, List.mem_cons, List.not_mem_nil, or_false] at hu; rcases hu with rfl | rfl | rfl | rfl | rfl <;> rfl) rfl (B0) _ _ rfl rfl (by ((try simp only [ext_drew]); (try simp only [ext_ext]); repeat (first | exact Ext.refl _ | with_reducible apply Ext.add | with_reducible apply Ext.dr | apply Ext.alloc | apply Ext.ext | apply Ext.drew | refine Ext.trans ?_ (by assumption)))) (xs := outK (wlkOut xs y.id) p y p) (HG.out.of (by ((try simp only [ext_drew]); (try simp only [ext_ext]); repeat (first | exact Ext.refl _ | with_reducible apply Ext.add | with_reducible apply Ext.dr | apply Ext.alloc | apply Ext.ext | apply Ext.drew | refine Ext.trans ?_ (by assumption))))) HGb.out (y) rfl (alloc_last (by (try simp [go_sem]) <;> (try simp [Xt.add]) <;> omega)) (by omega) ?_); intro v' t' B' hg hb; have HG' := hid hg; have HG'b := hid hb; clear hg hb) | ((refine wpList_appXE (cells := Wlk.cells) (k := 5) (bytes := 40) (z := .agg #[.int .i64 0, .int .i64 0, .int .i64 0, .int .i64 0, .int .i64 0]) Try.underlying50 (by kernel_rfl) rfl (by decide) (by decide) (fun _ => rfl) (fun x u hu => by simp only [Wlk.cells, List.mem_cons, List.not_mem_nil, or_false] at hu; rcases hu with rfl | rfl | rfl | rfl | rfl <;> rfl) rfl (B0) _ _ rfl rfl (by ((try simp only [ext_drew]); (try simp only [ext_ext]); repeat (first | exact Ext.refl _ | with_reducible apply Ext.add | with_reducible apply Ext.dr | apply Ext.alloc | apply Ext.ext | apply Ext.drew | refine Ext.trans ?_ (by assumption)))) (xs := outK (wlkOut xs y.id) p y p ++ [y]) (HG'.out.of (by ((try simp only [ext_drew]); (try simp only [ext_ext]); repeat (first | exact Ext.refl _ | with_reducible apply Ext.add | with_reducible apply Ext.dr | apply Ext.alloc | apply Ext.ext | apply Ext.drew | refine Ext.trans ?_ (by assumption))))) HG'b.out (x) rfl (alloc_last (by (try simp [go_sem]) <;> (try simp [Xt.add]) <;> omega)) (by omega) ?_); intro v' t' B' hg hb; have HG'' := hid hg; have HG''b := hid hb; clear hg hb))
        go_roundw
        case rel => exact ⟨p + 1, _, by omega, by go_num, by rw [HD.out], by rw [HE.out]; exact HG''.out, HG''b.out, (by ((try simp only [ext_drew]); (try simp only [ext_ext]); repeat (first | exact Ext.refl _ | with_reducible apply Ext.add | with_reducible apply Ext.dr | apply Ext.alloc | apply Ext.ext | apply Ext.drew | refine Ext.trans ?_ (by assumption))))⟩
        case measure => simp [intOf]; omega
      · have hd : decide (p < k) = false := by simp; omega
        have HD := hid (show decide (p < k + 1) = false by simp; omega)
        have HE := hid (outK_lt (y := y) hpk HK.out)
        have hgt : decide (y.id < x.id) = false := g1 hpk
        clear g1 g2
        go_wp2
        with_reducible refine wp_region_ext (by kernel_rfl) (by kernel_rfl) ?_
        repeat (go_big_quiet_step (fail))
        refine wpQuiet_nil ?_
        rintro _ ⟨tq, rfl⟩
        go_wp2_with (first | ((refine wpList_appXE (cells := Wlk.cells) (k := 5) (bytes := 40) (z := .agg #[.int .i64 0, .int .i64 0, .int .i64 0, .int .i64 0, .int .i64 0]) Try.underlying50 (by kernel_rfl) rfl (by decide) (by decide) (fun _ => rfl) (fun x u hu => by simp only [Wlk.cells, List.mem_cons, List.not_mem_nil, or_false] at hu; rcases hu with rfl | rfl | rfl | rfl | rfl <;> rfl) rfl (B0) _ _ rfl rfl (by ((try simp only [ext_drew]); (try simp only [ext_ext]); repeat (first | exact Ext.refl _ | with_reducible apply Ext.add | with_reducible apply Ext.dr | apply Ext.alloc | apply Ext.ext | apply Ext.drew | refine Ext.trans ?_ (by assumption)))) (xs := outK (wlkOut xs y.id) p y k) (HG.out.of (by ((try simp only [ext_drew]); (try simp only [ext_ext]); repeat (first | exact Ext.refl _ | with_reducible apply Ext.add | with_reducible apply Ext.dr | apply Ext.alloc | apply Ext.ext | apply Ext.drew | refine Ext.trans ?_ (by assumption))))) HGb.out (x) rfl (alloc_last (by (try simp [go_sem]) <;> (try simp [Xt.add]) <;> omega)) (by omega) ?_); intro v' t' B' hg hb; have HG' := hid hg; have HG'b := hid hb; clear hg hb))
        go_roundw
        case rel => exact ⟨k + 1, _, by omega, by go_num, by rw [HD.out], by rw [HE.out]; exact HG'.out, HG'b.out, (by ((try simp only [ext_drew]); (try simp only [ext_ext]); repeat (first | exact Ext.refl _ | with_reducible apply Ext.add | with_reducible apply Ext.dr | apply Ext.alloc | apply Ext.ext | apply Ext.drew | refine Ext.trans ?_ (by assumption))))⟩
        case measure => simp [intOf]; omega
    · have hke : k = sn := by omega
      subst hke
      by_cases hpk : p < k
      · have hd : decide (p < k) = true := by simp [hpk]
        have HE := hid (show outK (wlkOut xs y.id) p y k = wlkPut xs y by rw [outK, if_pos hpk, List.take_of_length_le (Nat.le_of_eq HSN.out.symm), wlkPut, HP.out])
        obtain ⟨a5, c5, rfl⟩ := HG.out.slice
        rw [HE.out] at HG ⊢
        go_wp2
        go_ret
        exact ⟨a5, c5, B, rfl, (by ((try simp only [ext_drew]); (try simp only [ext_ext]); repeat (first | exact Ext.refl _ | with_reducible apply Ext.add | with_reducible apply Ext.dr | apply Ext.alloc | apply Ext.ext | apply Ext.drew | refine Ext.trans ?_ (by assumption)))), HG.out, fun b hb => Nat.le_trans (Nat.le_of_lt lM) (HGb.out b hb)⟩
      · have hd : decide (p < k) = false := by simp; omega
        have HE := hid (show outK (wlkOut xs y.id) p y k ++ [y] = wlkPut xs y by
          rw [outK, if_neg hpk, List.take_of_length_le (Nat.le_of_eq HSN.out.symm), wlkPut, HP.out, show p = (wlkOut xs y.id).length by have := HSN.out; omega, insAt_end])
        go_wp2_with (first | ((refine wpList_appXE (cells := Wlk.cells) (k := 5) (bytes := 40) (z := .agg #[.int .i64 0, .int .i64 0, .int .i64 0, .int .i64 0, .int .i64 0]) Try.underlying50 (by kernel_rfl) rfl (by decide) (by decide) (fun _ => rfl) (fun x u hu => by simp only [Wlk.cells, List.mem_cons, List.not_mem_nil, or_false] at hu; rcases hu with rfl | rfl | rfl | rfl | rfl <;> rfl) rfl (B0) _ _ rfl rfl (by ((try simp only [ext_drew]); (try simp only [ext_ext]); repeat (first | exact Ext.refl _ | with_reducible apply Ext.add | with_reducible apply Ext.dr | apply Ext.alloc | apply Ext.ext | apply Ext.drew | refine Ext.trans ?_ (by assumption)))) (xs := outK (wlkOut xs y.id) p y k) (HG.out.of (by ((try simp only [ext_drew]); (try simp only [ext_ext]); repeat (first | exact Ext.refl _ | with_reducible apply Ext.add | with_reducible apply Ext.dr | apply Ext.alloc | apply Ext.ext | apply Ext.drew | refine Ext.trans ?_ (by assumption))))) HGb.out (y) rfl (alloc_last (by (try simp [go_sem]) <;> (try simp [Xt.add]) <;> omega)) (by omega) ?_); intro v' t' B' hg hb; have HG' := hid hg; have HG'b := hid hb; clear hg hb))
        go_ret
        rw [HE.out] at HG'
        obtain ⟨a5, c5, rfl⟩ := HG'.out.slice
        exact ⟨a5, c5, _, rfl, (by ((try simp only [ext_drew]); (try simp only [ext_ext]); repeat (first | exact Ext.refl _ | with_reducible apply Ext.add | with_reducible apply Ext.dr | apply Ext.alloc | apply Ext.ext | apply Ext.drew | refine Ext.trans ?_ (by assumption)))), HG'.out, fun b hb => Nat.le_trans (Nat.le_of_lt lM) (HG'b.out b hb)⟩
theorem iWlkPut_m (xs : List Wlk) (y : Wlk) (a : Option Addr) (n c : Nat) (w : World) (hx : Re w (.sl sWlk) [.slice a n c] (.l (xs.map Wlk.dat))) (hn : n ≤ 1048576) :
    Calls Try.prog 36 #[.slice a n c, .agg #[.int .i64 y.id, .int .i64 y.at_, .int .i64 y.coins, .int .i64 y.seq, .int .i64 y.last]] w (MadeL w sWlk (wlkPut xs y).length ((wlkPut xs y).map Wlk.dat)) := (iWlkPut_c xs y a n c w hx hn).mono fun _ _ h => MadeX.made rfl (fun w x => own_Wlk_mk w x) h
theorem sWlkPut_m (xs : List Wlk) (y : Wlk) (a : Option Addr) (n c : Nat) (w : World) (hx : Re w (.sl sWlk) [.slice a n c] (.l (xs.map Wlk.dat))) (hn : n ≤ 1048576) :
    Calls Try.prog 38 #[.slice a n c, .agg #[.int .i64 y.id, .int .i64 y.at_, .int .i64 y.coins, .int .i64 y.seq, .int .i64 y.last]] w (MadeL w sWlk (wlkPut xs y).length ((wlkPut xs y).map Wlk.dat)) := (sWlkPut_c xs y a n c w hx hn).mono fun _ _ h => MadeX.made rfl (fun w x => own_Wlk_mk w x) h
end Go.Proofs.Ytbbpipbemhggdaa
