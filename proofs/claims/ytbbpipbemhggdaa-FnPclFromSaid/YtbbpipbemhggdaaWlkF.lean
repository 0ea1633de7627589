/- Walkers in lists: the first with a number; all but those of a number. -/
import Derived.Test.YtbbpipbemhggdaaTWlk
namespace Go.Proofs.Ytbbpipbemhggdaa
open Go.RowKit

/-- The place of the first element that passes; -1 for none. -/
def idxFrom {α : Type} (p : α → Bool) : Nat → List α → Int
  | _, [] => -1
  | i, x :: r => if p x then (i : Int) else idxFrom p (i + 1) r
theorem idxFrom_hit {α : Type} {p : α → Bool} : ∀ {xs : List α} {i k : Nat} {x : α}, xs[k]? = some x → (∀ y ∈ xs.take k, p y = false) → p x = true → idxFrom p i xs = ((i + k : Nat) : Int)
  | y :: ys, i, 0, x, h, _, hp => by
    obtain rfl : y = x := by simpa using h
    simp [idxFrom, hp]
  | y :: ys, i, k + 1, x, h, ha, hp => by
    have h0 := ha y (by simp)
    simp only [idxFrom, h0, Bool.false_eq_true, if_false]
    rw [idxFrom_hit (i := i + 1) (k := k) (by simpa using h) (fun z hz => ha z (by simp [hz])) hp, show i + 1 + k = i + (k + 1) by omega]
theorem idxFrom_none {α : Type} {p : α → Bool} : ∀ {xs : List α} {i : Nat}, (∀ y ∈ xs, p y = false) → idxFrom p i xs = -1
  | [], _, _ => rfl
  | y :: ys, i, h => by
    simp only [idxFrom, h y (by simp), Bool.false_eq_true, if_false]
    exact idxFrom_none fun z hz => h z (by simp [hz])
theorem take_step {α : Type} {p : α → Bool} {xs : List α} {k : Nat} {x : α} (h : ∀ y ∈ xs.take k, p y = false) (hx : xs[k]? = some x) (hp : p x = false) : ∀ y ∈ xs.take (k + 1), p y = false := by
  rw [List.take_add_one, hx]
  intro y hy
  rcases List.mem_append.1 hy with h' | h'
  · exact h y h'
  · obtain rfl : y = x := by simpa using h'
    exact hp
theorem take_end {α : Type} {p : α → Bool} {xs : List α} {k : Nat} (h : ∀ y ∈ xs.take k, p y = false) (hk : xs.length ≤ k) : ∀ y ∈ xs, p y = false := by
  rwa [List.take_of_length_le hk] at h

def idIs (id : Int) (x : Wlk) : Bool := x.id == id
def wlkPlace (xs : List Wlk) (id : Int) : Int := idxFrom (idIs id) 0 xs
def wlkZ : Wlk := ⟨0, 0, 0, 0, 0⟩
/-- The first walker with a number. -/
def wlkGet (xs : List Wlk) (id : Int) : Wlk := (xs.find? (idIs id)).getD wlkZ
def wlkHas (xs : List Wlk) (id : Int) : Bool := (xs.find? (idIs id)).isSome
theorem find_hit {α : Type} {p : α → Bool} {xs : List α} {k : Nat} {x : α} (h : xs[k]? = some x) (ha : ∀ y ∈ xs.take k, p y = false) (hp : p x = true) : xs.find? p = some x := by
  have hk := (List.getElem?_eq_some_iff.1 h).1
  have e : xs = xs.take k ++ x :: xs.drop (k + 1) := by
    have := List.take_append_drop k xs
    rw [← (List.getElem?_eq_some_iff.1 h).2, ← List.drop_eq_getElem_cons hk]
    exact this.symm
  rw [e, List.find?_append, List.find?_eq_none.2 (fun y hy => by simp [ha y hy])]
  simp [hp]
theorem find_miss {α : Type} {p : α → Bool} {xs : List α} (h : ∀ y ∈ xs, p y = false) : xs.find? p = none := List.find?_eq_none.2 fun y hy => by simp [h y hy]

theorem place1_c (x : Wlk) (b : Nat) (id : Int) (w : World) (hb : b < w.heap.size) (hc : w.cell? ⟨b, 0, none⟩ = some (.int .i64 id)) :
    Calls Try.prog 93 #[.agg #[.int .i64 x.id, .int .i64 x.at_, .int .i64 x.coins, .int .i64 x.seq, .int .i64 x.last], .pointer (some ⟨b, 0, none⟩)] w fun e w' => e = .returned (.bool (idIs id x)) ∧ Ext w w' := by
  go_enter Try.func93, Try.ntmps93
  try go_wp2_with (first
      | fail
      | (
        with_reducible refine wp_region_mix (by kernel_rfl) (by decide +kernel) ?_
        repeat (first
          | (refine mix_pure rfl ?_; (first | go_big_quiet_skip | (go_big_quiet_want; go_big_quiet_op; go_big_quiet_on)); refine wpQuiet_nil ?_)
          | (refine mix_skip (by rfl) ?_; (try simp only [Act.put, List.setIfInBounds_toArray, List.set_cons_zero, List.set_cons_succ]))
          | (refine mix_mk rfl (by rfl) (fun K hK => ?_); (first | (go_simp; first | skip)); (show K _ _); refine hK _ _ (show Ext _ _ from (by ((try simp only [ext_drew]); (try simp only [ext_ext]); repeat (first | exact Ext.refl _ | with_reducible apply Ext.add | with_reducible apply Ext.dr | apply Ext.alloc | apply Ext.ext | apply Ext.drew | refine Ext.trans ?_ (by assumption))))) ?_; clear hK K; (try simp only [Act.put, List.setIfInBounds_toArray, List.set_cons_zero, List.set_cons_succ])))
        refine mix_nil ?_)
      | (
        with_reducible refine wp_region_ext (by kernel_rfl) (by kernel_rfl) ?_
        repeat (first | go_big_quiet_skip | (go_big_quiet_want; go_big_quiet_op; first | go_big_quiet_on | (apply Exists.intro; refine ⟨fun _ => ?_, ?_⟩; (fail); (try rw [h1]); (try rw [h2]); (try rw [h3]); (try rw [h4]); (try rw [p1]); (try rw [p2]); (try rw [p3]); (try rw [p4]); (try rw [r1]); (try rw [r2]); (try rw [r3]); (try rw [r4]); (try rw [r5]); (try rw [r6]); (try rw [q3]); (try rw [q4]); (try rw [hp]); (try rw [hq]); go_big_quiet_on)))
        refine wpQuiet_nil ?_
        rintro _ ⟨tq, rfl⟩))
  go_ret
  exact ⟨rfl, (by ((try simp only [ext_drew]); (try simp only [ext_ext]); repeat (first | exact Ext.refl _ | with_reducible apply Ext.add | with_reducible apply Ext.dr | apply Ext.alloc | apply Ext.ext | apply Ext.drew | refine Ext.trans ?_ (by assumption))))⟩

set_option maxHeartbeats 1000000 in
theorem idxF_c (xs : List Wlk) (a : Option Addr) (n c b : Nat) (id : Int) (w : World) (hx : Re w (.sl sWlk) [.slice a n c] (.l (xs.map Wlk.dat))) (hn : n ≤ 1048576) (hb : b < w.heap.size) (hc : w.cell? ⟨b, 0, none⟩ = some (.int .i64 id)) :
    Calls Try.prog 70 #[.slice a n c, .func (.func 93) #[] #[.pointer (some ⟨b, 0, none⟩)]] w fun e w' => e = .returned (.int .i64 (wlkPlace xs id)) ∧ Ext w w' := by
  have HX := hid hx
  clear hx
  go_enter Try.func70, Try.ntmps70
  go_wp2
  go_loopw [8] (fun i wr => ∃ k : Nat, k ≤ n ∧ i = .int .i64 k ∧ (∀ y ∈ xs.take k, idIs id y = false) ∧ Ext w wr) (fun i _ => n - (intOf i).toNat)
  case atStart => exact ⟨0, Nat.zero_le _, rfl, by simp, Ext.refl _⟩
  case round =>
    obtain ⟨k, hk, rfl, hal, t, rfl⟩ := hrel
    have HA := hid hal
    clear hal
    by_cases hlt : k < n
    · obtain ⟨x, b1, o1, hxk, rfl, hb1, f0, f1, f2, f3, f4⟩ := at_Wlk HX.out hlt
      have HK := hid hxk
      clear hxk
      cases hp : idIs id x with
      | true =>
        have E := hid (show wlkPlace xs id = (k : Int) by rw [wlkPlace, idxFrom_hit HK.out HA.out hp]; simp)
        try go_wp2_with (first
            | (go_at_call 93; (with_reducible refine (place1_c x b id _ (by simp [ext_size]; omega) (by rw [ext_cell' _ _ _ _ hb]; exact hc)).mono ?_); rintro e w' ⟨rfl, t, rfl⟩)
            | (
              with_reducible refine wp_region_mix (by kernel_rfl) (by decide +kernel) ?_
              repeat (first
                | (refine mix_pure rfl ?_; (first | go_big_quiet_skip | (go_big_quiet_want; go_big_quiet_op; go_big_quiet_on)); refine wpQuiet_nil ?_)
                | (refine mix_skip (by rfl) ?_; (try simp only [Act.put, List.setIfInBounds_toArray, List.set_cons_zero, List.set_cons_succ]))
                | (refine mix_mk rfl (by rfl) (fun K hK => ?_); (first | (go_simp; first | (go_at_call 93; (with_reducible refine (place1_c x b id _ (by simp [ext_size]; omega) (by rw [ext_cell' _ _ _ _ hb]; exact hc)).mono ?_); rintro e w' ⟨rfl, t, rfl⟩) | skip)); (show K _ _); refine hK _ _ (show Ext _ _ from (by ((try simp only [ext_drew]); (try simp only [ext_ext]); repeat (first | exact Ext.refl _ | with_reducible apply Ext.add | with_reducible apply Ext.dr | apply Ext.alloc | apply Ext.ext | apply Ext.drew | refine Ext.trans ?_ (by assumption))))) ?_; clear hK K; (try simp only [Act.put, List.setIfInBounds_toArray, List.set_cons_zero, List.set_cons_succ])))
              refine mix_nil ?_)
            | (
              with_reducible refine wp_region_ext (by kernel_rfl) (by kernel_rfl) ?_
              repeat (first | go_big_quiet_skip | (go_big_quiet_want; go_big_quiet_op; first | go_big_quiet_on | (apply Exists.intro; refine ⟨fun _ => ?_, ?_⟩; (fail); (try rw [h1]); (try rw [h2]); (try rw [h3]); (try rw [h4]); (try rw [p1]); (try rw [p2]); (try rw [p3]); (try rw [p4]); (try rw [r1]); (try rw [r2]); (try rw [r3]); (try rw [r4]); (try rw [r5]); (try rw [r6]); (try rw [q3]); (try rw [q4]); (try rw [hp]); (try rw [hq]); go_big_quiet_on)))
              refine wpQuiet_nil ?_
              rintro _ ⟨tq, rfl⟩))
        go_ret
        exact ⟨ret_int E.out.symm, (by ((try simp only [ext_drew]); (try simp only [ext_ext]); repeat (first | exact Ext.refl _ | with_reducible apply Ext.add | with_reducible apply Ext.dr | apply Ext.alloc | apply Ext.ext | apply Ext.drew | refine Ext.trans ?_ (by assumption))))⟩
      | false =>
        have HB := hid (take_step HA.out HK.out hp)
        try go_wp2_with (first
            | (go_at_call 93; (with_reducible refine (place1_c x b id _ (by simp [ext_size]; omega) (by rw [ext_cell' _ _ _ _ hb]; exact hc)).mono ?_); rintro e w' ⟨rfl, t, rfl⟩)
            | (
              with_reducible refine wp_region_mix (by kernel_rfl) (by decide +kernel) ?_
              repeat (first
                | (refine mix_pure rfl ?_; (first | go_big_quiet_skip | (go_big_quiet_want; go_big_quiet_op; go_big_quiet_on)); refine wpQuiet_nil ?_)
                | (refine mix_skip (by rfl) ?_; (try simp only [Act.put, List.setIfInBounds_toArray, List.set_cons_zero, List.set_cons_succ]))
                | (refine mix_mk rfl (by rfl) (fun K hK => ?_); (first | (go_simp; first | (go_at_call 93; (with_reducible refine (place1_c x b id _ (by simp [ext_size]; omega) (by rw [ext_cell' _ _ _ _ hb]; exact hc)).mono ?_); rintro e w' ⟨rfl, t, rfl⟩) | skip)); (show K _ _); refine hK _ _ (show Ext _ _ from (by ((try simp only [ext_drew]); (try simp only [ext_ext]); repeat (first | exact Ext.refl _ | with_reducible apply Ext.add | with_reducible apply Ext.dr | apply Ext.alloc | apply Ext.ext | apply Ext.drew | refine Ext.trans ?_ (by assumption))))) ?_; clear hK K; (try simp only [Act.put, List.setIfInBounds_toArray, List.set_cons_zero, List.set_cons_succ])))
              refine mix_nil ?_)
            | (
              with_reducible refine wp_region_ext (by kernel_rfl) (by kernel_rfl) ?_
              repeat (first | go_big_quiet_skip | (go_big_quiet_want; go_big_quiet_op; first | go_big_quiet_on | (apply Exists.intro; refine ⟨fun _ => ?_, ?_⟩; (fail); (try rw [h1]); (try rw [h2]); (try rw [h3]); (try rw [h4]); (try rw [p1]); (try rw [p2]); (try rw [p3]); (try rw [p4]); (try rw [r1]); (try rw [r2]); (try rw [r3]); (try rw [r4]); (try rw [r5]); (try rw [r6]); (try rw [q3]); (try rw [q4]); (try rw [hp]); (try rw [hq]); go_big_quiet_on)))
              refine wpQuiet_nil ?_
              rintro _ ⟨tq, rfl⟩))
        go_roundw
        case rel => exact ⟨k + 1, by omega, by go_num, HB.out, (by ((try simp only [ext_drew]); (try simp only [ext_ext]); repeat (first | exact Ext.refl _ | with_reducible apply Ext.add | with_reducible apply Ext.dr | apply Ext.alloc | apply Ext.ext | apply Ext.drew | refine Ext.trans ?_ (by assumption))))⟩
        case measure => simp [intOf]; omega
    · have E := hid (show wlkPlace xs id = -1 from idxFrom_none (take_end HA.out (by rw [← HX.out.len]; omega)))
      go_wp2
      go_ret
      exact ⟨ret_int E.out.symm, (by ((try simp only [ext_drew]); (try simp only [ext_ext]); repeat (first | exact Ext.refl _ | with_reducible apply Ext.add | with_reducible apply Ext.dr | apply Ext.alloc | apply Ext.ext | apply Ext.drew | refine Ext.trans ?_ (by assumption))))⟩

theorem place_c (xs : List Wlk) (a : Option Addr) (n c : Nat) (id : Int) (w : World) (hx : Re w (.sl sWlk) [.slice a n c] (.l (xs.map Wlk.dat))) (hn : n ≤ 1048576) :
    Calls Try.prog 75 #[.slice a n c, .int .i64 id] w fun e w' => e = .returned (.int .i64 (wlkPlace xs id)) ∧ Ext w w' := by
  have HX := hid hx
  clear hx
  go_enter Try.func75, Try.ntmps75
  try go_wp2_with (first
      | (go_at_call 70; (with_reducible refine (idxF_c xs _ _ _ _ id _ (HX.out.of (by ((try simp only [ext_drew]); (try simp only [ext_ext]); repeat (first | exact Ext.refl _ | with_reducible apply Ext.add | with_reducible apply Ext.dr | apply Ext.alloc | apply Ext.ext | apply Ext.drew | refine Ext.trans ?_ (by assumption))))) hn (by simp) (by simp [go_sem])).mono ?_); rintro e w' ⟨rfl, t, rfl⟩)
      | (
        with_reducible refine wp_region_mix (by kernel_rfl) (by decide +kernel) ?_
        repeat (first
          | (refine mix_pure rfl ?_; (first | go_big_quiet_skip | (go_big_quiet_want; go_big_quiet_op; go_big_quiet_on)); refine wpQuiet_nil ?_)
          | (refine mix_skip (by rfl) ?_; (try simp only [Act.put, List.setIfInBounds_toArray, List.set_cons_zero, List.set_cons_succ]))
          | (refine mix_mk rfl (by rfl) (fun K hK => ?_); (first | (go_simp; first | (go_at_call 70; (with_reducible refine (idxF_c xs _ _ _ _ id _ (HX.out.of (by ((try simp only [ext_drew]); (try simp only [ext_ext]); repeat (first | exact Ext.refl _ | with_reducible apply Ext.add | with_reducible apply Ext.dr | apply Ext.alloc | apply Ext.ext | apply Ext.drew | refine Ext.trans ?_ (by assumption))))) hn (by simp) (by simp [go_sem])).mono ?_); rintro e w' ⟨rfl, t, rfl⟩) | skip)); (show K _ _); refine hK _ _ (show Ext _ _ from (by ((try simp only [ext_drew]); (try simp only [ext_ext]); repeat (first | exact Ext.refl _ | with_reducible apply Ext.add | with_reducible apply Ext.dr | apply Ext.alloc | apply Ext.ext | apply Ext.drew | refine Ext.trans ?_ (by assumption))))) ?_; clear hK K; (try simp only [Act.put, List.setIfInBounds_toArray, List.set_cons_zero, List.set_cons_succ])))
        refine mix_nil ?_)
      | (
        with_reducible refine wp_region_ext (by kernel_rfl) (by kernel_rfl) ?_
        repeat (first | go_big_quiet_skip | (go_big_quiet_want; go_big_quiet_op; first | go_big_quiet_on | (apply Exists.intro; refine ⟨fun _ => ?_, ?_⟩; (fail); (try rw [h1]); (try rw [h2]); (try rw [h3]); (try rw [h4]); (try rw [p1]); (try rw [p2]); (try rw [p3]); (try rw [p4]); (try rw [r1]); (try rw [r2]); (try rw [r3]); (try rw [r4]); (try rw [r5]); (try rw [r6]); (try rw [q3]); (try rw [q4]); (try rw [hp]); (try rw [hq]); go_big_quiet_on)))
        refine wpQuiet_nil ?_
        rintro _ ⟨tq, rfl⟩))
  go_ret
  exact ⟨rfl, (by ((try simp only [ext_drew]); (try simp only [ext_ext]); repeat (first | exact Ext.refl _ | with_reducible apply Ext.add | with_reducible apply Ext.dr | apply Ext.alloc | apply Ext.ext | apply Ext.drew | refine Ext.trans ?_ (by assumption))))⟩

theorem place_lt {α : Type} {p : α → Bool} : ∀ {xs : List α} {i : Nat}, idxFrom p i xs = -1 ∧ (∀ y ∈ xs, p y = false) ∨ ∃ k x, idxFrom p i xs = ((i + k : Nat) : Int) ∧ xs[k]? = some x ∧ (∀ y ∈ xs.take k, p y = false) ∧ p x = true
  | [], _ => .inl ⟨rfl, by simp⟩
  | y :: ys, i => by
    cases hp : p y with
    | true => exact .inr ⟨0, y, by simp [idxFrom, hp], rfl, by simp, hp⟩
    | false =>
      rcases place_lt (p := p) (xs := ys) (i := i + 1) with ⟨h1, h2⟩ | ⟨k, x, h1, h2, h3, h4⟩
      · exact .inl ⟨by simp [idxFrom, hp, h1], by simp [hp]; simpa using h2⟩
      · refine .inr ⟨k + 1, x, by simp only [idxFrom, hp, Bool.false_eq_true, if_false, h1]; rw [show i + 1 + k = i + (k + 1) by omega], by simpa using h2, ?_, h4⟩
        intro z hz
        simp only [List.take_succ_cons, List.mem_cons] at hz
        rcases hz with rfl | hz
        · exact hp
        · exact h3 z hz

set_option maxHeartbeats 1000000 in
theorem iWlkFind_c (xs : List Wlk) (a : Option Addr) (n c : Nat) (id : Int) (w : World) (hx : Re w (.sl sWlk) [.slice a n c] (.l (xs.map Wlk.dat))) (hn : n ≤ 1048576) :
    Calls Try.prog 39 #[.slice a n c, .int .i64 id] w fun e w' => e = .returned (.tuple #[.agg #[.int .i64 (wlkGet xs id).id, .int .i64 (wlkGet xs id).at_, .int .i64 (wlkGet xs id).coins, .int .i64 (wlkGet xs id).seq, .int .i64 (wlkGet xs id).last], .bool (wlkHas xs id)]) ∧ Ext w w' := by
  have HX := hid hx
  clear hx
  rcases place_lt (p := idIs id) (xs := xs) (i := 0) with ⟨h1, h2⟩ | ⟨k, x, h1, h2, h3, h4⟩
  · have E1 := hid (show wlkGet xs id = wlkZ by rw [wlkGet, find_miss h2]; rfl)
    have E2 := hid (show wlkHas xs id = false by rw [wlkHas, find_miss h2]; rfl)
    have H1 : wlkPlace xs id = -1 := h1
    clear h1 h2
    rw [E1.out, E2.out]
    go_enter Try.func39, Try.ntmps39
    try go_wp2_with (first
        | (go_at_call 75; (with_reducible refine (place_c xs _ _ _ id _ (HX.out.of (by ((try simp only [ext_drew]); (try simp only [ext_ext]); repeat (first | exact Ext.refl _ | with_reducible apply Ext.add | with_reducible apply Ext.dr | apply Ext.alloc | apply Ext.ext | apply Ext.drew | refine Ext.trans ?_ (by assumption))))) hn).mono ?_); rintro e w' ⟨rfl, t, rfl⟩)
        | (
          with_reducible refine wp_region_mix (by kernel_rfl) (by decide +kernel) ?_
          repeat (first
            | (refine mix_pure rfl ?_; (first | go_big_quiet_skip | (go_big_quiet_want; go_big_quiet_op; go_big_quiet_on)); refine wpQuiet_nil ?_)
            | (refine mix_skip (by rfl) ?_; (try simp only [Act.put, List.setIfInBounds_toArray, List.set_cons_zero, List.set_cons_succ]))
            | (refine mix_mk rfl (by rfl) (fun K hK => ?_); (first | (go_simp; first | (go_at_call 75; (with_reducible refine (place_c xs _ _ _ id _ (HX.out.of (by ((try simp only [ext_drew]); (try simp only [ext_ext]); repeat (first | exact Ext.refl _ | with_reducible apply Ext.add | with_reducible apply Ext.dr | apply Ext.alloc | apply Ext.ext | apply Ext.drew | refine Ext.trans ?_ (by assumption))))) hn).mono ?_); rintro e w' ⟨rfl, t, rfl⟩) | skip)); (show K _ _); refine hK _ _ (show Ext _ _ from (by ((try simp only [ext_drew]); (try simp only [ext_ext]); repeat (first | exact Ext.refl _ | with_reducible apply Ext.add | with_reducible apply Ext.dr | apply Ext.alloc | apply Ext.ext | apply Ext.drew | refine Ext.trans ?_ (by assumption))))) ?_; clear hK K; (try simp only [Act.put, List.setIfInBounds_toArray, List.set_cons_zero, List.set_cons_succ])))
          refine mix_nil ?_)
        | (
          with_reducible refine wp_region_ext (by kernel_rfl) (by kernel_rfl) ?_
          repeat (first | go_big_quiet_skip | (go_big_quiet_want; go_big_quiet_op; first | go_big_quiet_on | (apply Exists.intro; refine ⟨fun _ => ?_, ?_⟩; (fail); (try rw [h1]); (try rw [h2]); (try rw [h3]); (try rw [h4]); (try rw [p1]); (try rw [p2]); (try rw [p3]); (try rw [p4]); (try rw [r1]); (try rw [r2]); (try rw [r3]); (try rw [r4]); (try rw [r5]); (try rw [r6]); (try rw [q3]); (try rw [q4]); (try rw [hp]); (try rw [hq]); go_big_quiet_on)))
          refine wpQuiet_nil ?_
          rintro _ ⟨tq, rfl⟩))
    exact bodyPost_ret (v := .tuple #[.agg #[.int .i64 wlkZ.id, .int .i64 wlkZ.at_, .int .i64 wlkZ.coins, .int .i64 wlkZ.seq, .int .i64 wlkZ.last], .bool false]) (by simp [results, Try.results39, go_sem, wlkZ]) rfl ⟨rfl, (by ((try simp only [ext_drew]); (try simp only [ext_ext]); repeat (first | exact Ext.refl _ | with_reducible apply Ext.add | with_reducible apply Ext.dr | apply Ext.alloc | apply Ext.ext | apply Ext.drew | refine Ext.trans ?_ (by assumption))))⟩
  · have E1 := hid (show wlkGet xs id = x by rw [wlkGet, find_hit h2 h3 h4]; rfl)
    have E2 := hid (show wlkHas xs id = true by rw [wlkHas, find_hit h2 h3 h4]; rfl)
    have H1 : wlkPlace xs id = (k : Int) := by rw [wlkPlace, h1]; simp
    have hk : k < n := by rw [HX.out.len]; exact (List.getElem?_eq_some_iff.1 h2).1
    obtain ⟨y, b1, o1, hxk, rfl, hb1, f0, f1, f2, f3, f4⟩ := at_Wlk HX.out hk
    obtain rfl : x = y := Option.some.inj (h2.symm.trans hxk)
    clear h1 h2 h3 h4 hxk
    rw [E1.out, E2.out]
    go_enter Try.func39, Try.ntmps39
    try go_wp2_with (first
        | (go_at_call 75; (with_reducible refine (place_c xs _ _ _ id _ (HX.out.of (by ((try simp only [ext_drew]); (try simp only [ext_ext]); repeat (first | exact Ext.refl _ | with_reducible apply Ext.add | with_reducible apply Ext.dr | apply Ext.alloc | apply Ext.ext | apply Ext.drew | refine Ext.trans ?_ (by assumption))))) hn).mono ?_); rintro e w' ⟨rfl, t, rfl⟩)
        | (
          with_reducible refine wp_region_mix (by kernel_rfl) (by decide +kernel) ?_
          repeat (first
            | (refine mix_pure rfl ?_; (first | go_big_quiet_skip | (go_big_quiet_want; go_big_quiet_op; go_big_quiet_on)); refine wpQuiet_nil ?_)
            | (refine mix_skip (by rfl) ?_; (try simp only [Act.put, List.setIfInBounds_toArray, List.set_cons_zero, List.set_cons_succ]))
            | (refine mix_mk rfl (by rfl) (fun K hK => ?_); (first | (go_simp; first | (go_at_call 75; (with_reducible refine (place_c xs _ _ _ id _ (HX.out.of (by ((try simp only [ext_drew]); (try simp only [ext_ext]); repeat (first | exact Ext.refl _ | with_reducible apply Ext.add | with_reducible apply Ext.dr | apply Ext.alloc | apply Ext.ext | apply Ext.drew | refine Ext.trans ?_ (by assumption))))) hn).mono ?_); rintro e w' ⟨rfl, t, rfl⟩) | skip)); (show K _ _); refine hK _ _ (show Ext _ _ from (by ((try simp only [ext_drew]); (try simp only [ext_ext]); repeat (first | exact Ext.refl _ | with_reducible apply Ext.add | with_reducible apply Ext.dr | apply Ext.alloc | apply Ext.ext | apply Ext.drew | refine Ext.trans ?_ (by assumption))))) ?_; clear hK K; (try simp only [Act.put, List.setIfInBounds_toArray, List.set_cons_zero, List.set_cons_succ])))
          refine mix_nil ?_)
        | (
          with_reducible refine wp_region_ext (by kernel_rfl) (by kernel_rfl) ?_
          repeat (first | go_big_quiet_skip | (go_big_quiet_want; go_big_quiet_op; first | go_big_quiet_on | (apply Exists.intro; refine ⟨fun _ => ?_, ?_⟩; (fail); (try rw [h1]); (try rw [h2]); (try rw [h3]); (try rw [h4]); (try rw [p1]); (try rw [p2]); (try rw [p3]); (try rw [p4]); (try rw [r1]); (try rw [r2]); (try rw [r3]); (try rw [r4]); (try rw [r5]); (try rw [r6]); (try rw [q3]); (try rw [q4]); (try rw [hp]); (try rw [hq]); go_big_quiet_on)))
          refine wpQuiet_nil ?_
          rintro _ ⟨tq, rfl⟩))
    exact bodyPost_ret (v := .tuple #[.agg #[.int .i64 x.id, .int .i64 x.at_, .int .i64 x.coins, .int .i64 x.seq, .int .i64 x.last], .bool true]) (by simp [results, Try.results39, go_sem]) rfl ⟨rfl, (by ((try simp only [ext_drew]); (try simp only [ext_ext]); repeat (first | exact Ext.refl _ | with_reducible apply Ext.add | with_reducible apply Ext.dr | apply Ext.alloc | apply Ext.ext | apply Ext.drew | refine Ext.trans ?_ (by assumption))))⟩

end Go.Proofs.Ytbbpipbemhggdaa
