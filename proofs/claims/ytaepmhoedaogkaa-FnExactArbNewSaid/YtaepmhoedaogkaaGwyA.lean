/- An order that a book takes. -/
import Derived.Test.YtaepmhoedaogkaaGwyF
import Derived.Test.YtaepmhoedaogkaaGwyR
namespace Go.Proofs.Ytaepmhoedaogkaa
open Go.RowKit
set_option linter.unusedSimpArgs false
set_option linter.unusedVariables false

@[go_sem high] theorem ne_add_l0 (a b : Nat) (h : a < b) : (b = a) = False := by simp only [eq_iff_iff, iff_false]; omega
@[go_sem high] theorem ne_add_l1 (a b k : Nat) (h : a < b) : (b + k = a) = False := by simp only [eq_iff_iff, iff_false]; omega
@[go_sem high] theorem ne_add_l2 (a b k0 k1 : Nat) (h : a < b) : (b + k0 + k1 = a) = False := by simp only [eq_iff_iff, iff_false]; omega
theorem arr_ne {arr : Array Value} {i j : Nat} {v : Value} (h : i ≠ j) : (arr.setIfInBounds i v)[j]? = arr[j]? := by
  rw [Array.getElem?_setIfInBounds, if_neg h]
theorem arr_eq {arr : Array Value} {i : Nat} {v : Value} (h : i < arr.size) : (arr.setIfInBounds i v)[i]? = some v := by
  rw [Array.getElem?_setIfInBounds, if_pos rfl, if_pos h]

theorem arr_out {arr : Array Value} {i j : Nat} {v : Value} {x : Option Value} (h : i ≠ j) (k : arr[j]? = x) : (arr.setIfInBounds i v)[j]? = x := (arr_ne h).trans k
theorem arr_at {arr : Array Value} {i j : Nat} {v : Value} (e : i = j) (h : i < arr.size) : (arr.setIfInBounds i v)[j]? = some v := by subst e; exact arr_eq h
def askOrd (x : Row) (who kind to_ n : Int) : Ord := ⟨who, x.seq + 1, kind, to_, n⟩
def askRow (x : Row) (who kind to_ n : Int) : Row := { x with busy := true, ord := askOrd x who kind to_ n }
def rowGet (xs : List Row) (who : Int) : Option Row := xs.find? (isWho who)
def askB (xs : List Row) (who kind to_ n : Int) : Bool := match rowGet xs who with
  | none => false
  | some x => !x.busy && ordOk (askOrd x who kind to_ n)
def askL (xs : List Row) (who kind to_ n : Int) : List Row := match rowGet xs who with
  | none => xs
  | some x => if !x.busy && ordOk (askOrd x who kind to_ n) then xs.set (rowPlace xs who).toNat (askRow x who kind to_ n) else xs
theorem askL_len (xs : List Row) (who kind to_ n : Int) : (askL xs who kind to_ n).length = xs.length := by
  unfold askL
  split
  · rfl
  · split <;> simp
theorem ask_none {xs : List Row} {who : Int} (h : ∀ y ∈ xs, isWho who y = false) (kind to_ n : Int) : askB xs who kind to_ n = false ∧ askL xs who kind to_ n = xs := by
  have : rowGet xs who = none := find_miss h
  simp [askB, askL, this]
theorem ask_some {xs : List Row} {who : Int} {k : Nat} {x : Row} (h : xs[k]? = some x) (ha : ∀ y ∈ xs.take k, isWho who y = false) (hp : isWho who x = true) (hk : rowPlace xs who = (k : Int)) (kind to_ n : Int) :
    askB xs who kind to_ n = (!x.busy && ordOk (askOrd x who kind to_ n)) ∧ askL xs who kind to_ n = if !x.busy && ordOk (askOrd x who kind to_ n) then xs.set k (askRow x who kind to_ n) else xs := by
  have : rowGet xs who = some x := find_hit h ha hp
  simp [askB, askL, this, hk]

theorem own_at_Row {w : World} {a : Option Addr} {n c : Nat} {xs : List Row} {B : List Nat} (h : Own w (.sl sRow) [.slice a n c] (.l (xs.map Row.dat)) B) {j : Nat} (hj : j < n) :
    ∃ (b : Nat) (arr : Array Value) (T : TypeId) (x : Row), a = some ⟨b, 0, none⟩ ∧ B = [b] ∧ n = xs.length ∧ xs[j]? = some x ∧ w.heap[b]? = some (.cells arr T (0, 0)) ∧ j * 10 + 10 ≤ arr.size ∧ (∀ i v, x.cells[i]? = some v → arr[j * 10 + i]? = some v) ∧
      ∀ (w' : World) (arr' : Array Value) (y : Row), w'.heap[b]? = some (.cells arr' T (0, 0)) → arr'.size = arr.size → (∀ i, ¬ (j * 10 ≤ i ∧ i < j * 10 + 10) → arr'[i]? = arr[i]?) → (∀ i v, y.cells[i]? = some v → arr'[j * 10 + i]? = some v) →
        Own w' (.sl sRow) [.slice (some ⟨b, 0, none⟩) n c] (.l ((xs.set j y).map Row.dat)) [b] := by
  obtain ⟨b, arr, T, x, h1, h2, h3, h4, h5, h6, h7, h8, h9⟩ := own_at (cells := Row.cells) (dat := Row.dat) (sch := sRow) (k := 10) rfl (by decide) (by decide) (fun _ => rfl) (fun _ _ _ _ h => rd_Row h) (fun _ _ h => Row.dat_inj h) (fun w x => own_Row_mk w x) h hj
  exact ⟨b, arr, T, x, h1, h2, h3, h4, h5, h6, fun i v hv => by rw [← cell_blk h5]; exact h7 i v hv, h9⟩
theorem own_Gwy_one {w : World} {a0 : Option Addr} {n0 c0 : Nat} {xs0 : List Row} {B : List Nat} (h : Own w sGwy [.slice a0 n0 c0] (gwyDat xs0) B) : Own w (.sl sRow) [.slice a0 n0 c0] (.l (xs0.map Row.dat)) B := by
  have L := own_st (show Own w (.st [.sl sRow]) [.slice a0 n0 c0] (.s [.l (xs0.map Row.dat)]) B from h)
  obtain ⟨B0, R0, rfl, O0, L⟩ := ownL_sl L
  obtain rfl : R0 = [] := by unfold OwnL at L; exact L.2.2
  simpa using O0
theorem own_Gwy_of {w : World} {a0 : Option Addr} {n0 c0 : Nat} {xs0 : List Row} {B0 : List Nat} (h0 : Own w (.sl sRow) [.slice a0 n0 c0] (.l (xs0.map Row.dat)) B0) : Own w sGwy [.slice a0 n0 c0] (gwyDat xs0) B0 := by
  have := own_st_mk (ownL_mk h0 ownL_nil)
  simpa [sGwy, gwyDat] using this
theorem own_Gwy_nil (w : World) : Own w sGwy [.slice none 0 0] (gwyDat []) [] :=
  own_Gwy_of (own_flat_mk (xs := []) (k := 10) rfl (fun w x => own_Row_mk w x) (Nat.zero_le _) (.inl ⟨rfl, rfl⟩))

set_option maxRecDepth 100000 in
set_option maxHeartbeats 4000000 in
theorem ask_c (xs : List Row) (a : Option Addr) (n c p lo hi : Nat) (who kind to_ m : Int) (w : World) (ho : OwnR lo hi w sGwy [.slice a n c] (gwyDat xs)) (hp : hi ≤ p) (hpw : p < w.heap.size)
    (f0 : w.cell? ⟨p, 0, none⟩ = some (.slice a n c)) (hseq : ∀ y ∈ xs, 0 ≤ y.seq ∧ y.seq ≤ 900) (b0 : n ≤ 1048576) :
    Calls Try.prog 102 #[.pointer (some ⟨p, 0, none⟩), .int .i64 who, .int .i64 kind, .int .i64 to_, .int .i64 m] w fun e w' => e = .returned (.bool (askB xs who kind to_ m)) ∧
      OwnR lo hi w' sGwy [.slice a n c] (gwyDat (askL xs who kind to_ m)) ∧ ChgR lo hi w w' := by
  obtain ⟨hh, B, hn, hr, ho⟩ := ho
  have O0 := own_Gwy_one ho
  clear ho
  have HO0 := hid O0
  have HH := hid hh
  have HND := hid hn
  have HR := hid hr
  have HS := hid hseq
  have HX := hid (O0.re (fun b hb => Nat.lt_of_lt_of_le (hr b hb).2 hh))
  clear hh hn hr hseq O0
  rcases place_lt (p := isWho who) (xs := xs) (i := 0) with ⟨h1, h2⟩ | ⟨k, x, h1, h2, h3, h4⟩
  · have E := hid (ask_none h2 kind to_ m).1
    have E0 := hid (ask_none h2 kind to_ m).2
    have H1 : rowPlace xs who = -1 := h1
    clear h1 h2
    go_enter Try.func102, Try.ntmps102
    try go_wp2_with (first
        | (go_at_call 113; refine (row_c _ _ _ _ _ _ (Re.of (Hid.out (by assumption)) (by ((try simp only [ext_drew]); (try simp only [ext_ext]); repeat (first | exact Ext.refl _ | with_reducible apply Ext.add | with_reducible apply Ext.dr | apply Ext.alloc | apply Ext.ext | apply Ext.drew | refine Ext.trans ?_ (by assumption))))) (by omega)).mono ?_; rintro e w' ⟨rfl, t, rfl⟩)
        | (
          with_reducible refine wp_region_mix (by kernel_rfl) (by decide +kernel) ?_
          repeat (first
            | (refine mix_pure rfl ?_; (first | go_big_quiet_skip | (go_big_quiet_want; go_big_quiet_op; go_big_quiet_on)); refine wpQuiet_nil ?_)
            | (refine mix_skip (by rfl) ?_; (try simp only [Act.put, List.setIfInBounds_toArray, List.set_cons_zero, List.set_cons_succ]))
            | (refine mix_mk rfl (by rfl) (fun K hK => ?_); (first | (go_simp; first | (go_at_call 113; refine (row_c _ _ _ _ _ _ (Re.of (Hid.out (by assumption)) (by ((try simp only [ext_drew]); (try simp only [ext_ext]); repeat (first | exact Ext.refl _ | with_reducible apply Ext.add | with_reducible apply Ext.dr | apply Ext.alloc | apply Ext.ext | apply Ext.drew | refine Ext.trans ?_ (by assumption))))) (by omega)).mono ?_; rintro e w' ⟨rfl, t, rfl⟩) | skip)); (show K _ _); refine hK _ _ (show Ext _ _ from (by ((try simp only [ext_drew]); (try simp only [ext_ext]); repeat (first | exact Ext.refl _ | with_reducible apply Ext.add | with_reducible apply Ext.dr | apply Ext.alloc | apply Ext.ext | apply Ext.drew | refine Ext.trans ?_ (by assumption))))) ?_; clear hK K; (try simp only [Act.put, List.setIfInBounds_toArray, List.set_cons_zero, List.set_cons_succ])))
          refine mix_nil ?_)
        | (
          with_reducible refine wp_region_ext (by kernel_rfl) (by kernel_rfl) ?_
          repeat (first | go_big_quiet_skip | (go_big_quiet_want; go_big_quiet_op; first | go_big_quiet_on | (apply Exists.intro; refine ⟨fun _ => ?_, ?_⟩; ((first | (go_at_call 113; first | exact quiet_call (row_c _ _ _ _ _ _ (Re.of (Hid.out (by assumption)) (by ((try simp only [ext_drew]); (try simp only [ext_ext]); repeat (first | exact Ext.refl _ | with_reducible apply Ext.add | with_reducible apply Ext.dr | apply Ext.alloc | apply Ext.ext | apply Ext.drew | refine Ext.trans ?_ (by assumption))))) (by omega)) | exact quiet_call2 (row_c _ _ _ _ _ _ (Re.of (Hid.out (by assumption)) (by ((try simp only [ext_drew]); (try simp only [ext_ext]); repeat (first | exact Ext.refl _ | with_reducible apply Ext.add | with_reducible apply Ext.dr | apply Ext.alloc | apply Ext.ext | apply Ext.drew | refine Ext.trans ?_ (by assumption))))) (by omega))))); (try rw [h1]); (try rw [h2]); (try rw [h3]); (try rw [h4]); (try rw [p1]); (try rw [p2]); (try rw [p3]); (try rw [p4]); (try rw [r1]); (try rw [r2]); (try rw [r3]); (try rw [r4]); (try rw [r5]); (try rw [r6]); (try rw [q3]); (try rw [q4]); (try rw [hp]); (try rw [hq]); go_big_quiet_on)))
          refine wpQuiet_nil ?_
          rintro _ ⟨tq, rfl⟩))
    go_ret
    refine ⟨ret_bool (by rw [E.out]), ?_, Chg.toR (by repeat (first | with_reducible exact Chg.refl _ _ | with_reducible apply Chg.drew | with_reducible apply Chg.drewl | with_reducible refine Chg.turn (by simp) | with_reducible refine Chg.both ?_ (by simp) | (with_reducible refine Chg.set ?_ (by simp) _) | with_reducible apply Chg.alloc | with_reducible apply Chg.ext)) HR.out⟩
    rw [E0.out]
    exact ⟨by have := HH.out; (try simp [go_sem]) <;> omega, _, HND.out, HR.out, own_Gwy_of (Own.chg HO0.out (B' := []) (by repeat (first | with_reducible exact Chg.refl _ _ | with_reducible apply Chg.drew | with_reducible apply Chg.drewl | with_reducible refine Chg.turn (by simp) | with_reducible refine Chg.both ?_ (by simp) | (with_reducible refine Chg.set ?_ (by simp) _) | with_reducible apply Chg.alloc | with_reducible apply Chg.ext)) (fun b hb => Nat.lt_of_lt_of_le (HR.out b hb).2 HH.out) (by simp))⟩
  · have H1 : rowPlace xs who = (k : Int) := by rw [rowPlace, h1]; simp
    have hk : k < n := by rw [HX.out.len]; exact (List.getElem?_eq_some_iff.1 h2).1
    have A := ask_some h2 h3 h4 H1 kind to_ m
    have HA := hid A
    have hs := HS.out x (List.mem_of_getElem? h2)
    have s1 := hs.1
    have s2 := hs.2
    obtain ⟨u, arr, T, y, rfl, rfl, hl, hy, hb, hsz, hcell, hput⟩ := own_at_Row HO0.out hk
    obtain rfl : x = y := Option.some.inj (h2.symm.trans hy)
    have hr0 := HR.out u (by simp)
    have hpu : p ≠ u := by omega
    have hup : u ≠ p := by omega
    have g0 : w.cell? ⟨u, k * 10, none⟩ = some (.int .i64 x.who) := (cell_blk hb _).trans (hcell 0 _ rfl)
    have g1 : w.cell? ⟨u, k * 10 + 1, none⟩ = some (.int .i64 x.cell) := (cell_blk hb _).trans (hcell 1 _ rfl)
    have g2 : w.cell? ⟨u, k * 10 + 2, none⟩ = some (.bool x.busy) := (cell_blk hb _).trans (hcell 2 _ rfl)
    have g3 : w.cell? ⟨u, k * 10 + 3, none⟩ = some (.int .i64 x.ord.who) := (cell_blk hb _).trans (hcell 3 _ rfl)
    have g4 : w.cell? ⟨u, k * 10 + 4, none⟩ = some (.int .i64 x.ord.seq) := (cell_blk hb _).trans (hcell 4 _ rfl)
    have g5 : w.cell? ⟨u, k * 10 + 5, none⟩ = some (.int .i64 x.ord.kind) := (cell_blk hb _).trans (hcell 5 _ rfl)
    have g6 : w.cell? ⟨u, k * 10 + 6, none⟩ = some (.int .i64 x.ord.to_) := (cell_blk hb _).trans (hcell 6 _ rfl)
    have g7 : w.cell? ⟨u, k * 10 + 7, none⟩ = some (.int .i64 x.ord.n) := (cell_blk hb _).trans (hcell 7 _ rfl)
    have g8 : w.cell? ⟨u, k * 10 + 8, none⟩ = some (.int .i64 x.seq) := (cell_blk hb _).trans (hcell 8 _ rfl)
    have z2 := frozen_blk hb (k * 10 + 2)
    have z3 := frozen_blk hb (k * 10 + 3)
    have z4 := frozen_blk hb (k * 10 + 4)
    have z5 := frozen_blk hb (k * 10 + 5)
    have z6 := frozen_blk hb (k * 10 + 6)
    have z7 := frozen_blk hb (k * 10 + 7)
    have hu := lt_blk hb
    have HB := hid hb
    have HZ := hid hsz
    have HC := hid hcell
    have HP := hid hput
    clear hb hsz hcell hput hy h1 h2 h3 h4 A hs hl
    rcases (show x.busy = true ∨ x.busy = false by cases x.busy <;> simp) with r5 | r5
    · have E := hid (show askB xs who kind to_ m = false by rw [HA.out.1, r5]; rfl)
      have E0 := hid (show askL xs who kind to_ m = xs by rw [HA.out.2, r5]; rfl)
      go_enter Try.func102, Try.ntmps102
      try go_wp2_with (first
          | (go_at_call 113; refine (row_c _ _ _ _ _ _ (Re.of (Hid.out (by assumption)) (by ((try simp only [ext_drew]); (try simp only [ext_ext]); repeat (first | exact Ext.refl _ | with_reducible apply Ext.add | with_reducible apply Ext.dr | apply Ext.alloc | apply Ext.ext | apply Ext.drew | refine Ext.trans ?_ (by assumption))))) (by omega)).mono ?_; rintro e w' ⟨rfl, t, rfl⟩)
          | (
            with_reducible refine wp_region_mix (by kernel_rfl) (by decide +kernel) ?_
            repeat (first
              | (refine mix_pure rfl ?_; (first | go_big_quiet_skip | (go_big_quiet_want; go_big_quiet_op; go_big_quiet_on)); refine wpQuiet_nil ?_)
              | (refine mix_skip (by rfl) ?_; (try simp only [Act.put, List.setIfInBounds_toArray, List.set_cons_zero, List.set_cons_succ]))
              | (refine mix_mk rfl (by rfl) (fun K hK => ?_); (first | (go_simp; first | (go_at_call 113; refine (row_c _ _ _ _ _ _ (Re.of (Hid.out (by assumption)) (by ((try simp only [ext_drew]); (try simp only [ext_ext]); repeat (first | exact Ext.refl _ | with_reducible apply Ext.add | with_reducible apply Ext.dr | apply Ext.alloc | apply Ext.ext | apply Ext.drew | refine Ext.trans ?_ (by assumption))))) (by omega)).mono ?_; rintro e w' ⟨rfl, t, rfl⟩) | skip)); (show K _ _); refine hK _ _ (show Ext _ _ from (by ((try simp only [ext_drew]); (try simp only [ext_ext]); repeat (first | exact Ext.refl _ | with_reducible apply Ext.add | with_reducible apply Ext.dr | apply Ext.alloc | apply Ext.ext | apply Ext.drew | refine Ext.trans ?_ (by assumption))))) ?_; clear hK K; (try simp only [Act.put, List.setIfInBounds_toArray, List.set_cons_zero, List.set_cons_succ])))
            refine mix_nil ?_)
          | (
            with_reducible refine wp_region_ext (by kernel_rfl) (by kernel_rfl) ?_
            repeat (first | go_big_quiet_skip | (go_big_quiet_want; go_big_quiet_op; first | go_big_quiet_on | (apply Exists.intro; refine ⟨fun _ => ?_, ?_⟩; ((first | (go_at_call 113; first | exact quiet_call (row_c _ _ _ _ _ _ (Re.of (Hid.out (by assumption)) (by ((try simp only [ext_drew]); (try simp only [ext_ext]); repeat (first | exact Ext.refl _ | with_reducible apply Ext.add | with_reducible apply Ext.dr | apply Ext.alloc | apply Ext.ext | apply Ext.drew | refine Ext.trans ?_ (by assumption))))) (by omega)) | exact quiet_call2 (row_c _ _ _ _ _ _ (Re.of (Hid.out (by assumption)) (by ((try simp only [ext_drew]); (try simp only [ext_ext]); repeat (first | exact Ext.refl _ | with_reducible apply Ext.add | with_reducible apply Ext.dr | apply Ext.alloc | apply Ext.ext | apply Ext.drew | refine Ext.trans ?_ (by assumption))))) (by omega))))); (try rw [h1]); (try rw [h2]); (try rw [h3]); (try rw [h4]); (try rw [p1]); (try rw [p2]); (try rw [p3]); (try rw [p4]); (try rw [r1]); (try rw [r2]); (try rw [r3]); (try rw [r4]); (try rw [r5]); (try rw [r6]); (try rw [q3]); (try rw [q4]); (try rw [hp]); (try rw [hq]); go_big_quiet_on)))
            refine wpQuiet_nil ?_
            rintro _ ⟨tq, rfl⟩))
      go_ret
      refine ⟨ret_bool (by rw [E.out]), ?_, Chg.toR (by repeat (first | with_reducible exact Chg.refl _ _ | with_reducible apply Chg.drew | with_reducible apply Chg.drewl | with_reducible refine Chg.turn (by simp) | with_reducible refine Chg.both ?_ (by simp) | (with_reducible refine Chg.set ?_ (by simp) _) | with_reducible apply Chg.alloc | with_reducible apply Chg.ext)) HR.out⟩
      rw [E0.out]
      exact ⟨by have := HH.out; (try simp [go_sem]) <;> omega, _, HND.out, HR.out, own_Gwy_of (Own.chg HO0.out (B' := []) (by repeat (first | with_reducible exact Chg.refl _ _ | with_reducible apply Chg.drew | with_reducible apply Chg.drewl | with_reducible refine Chg.turn (by simp) | with_reducible refine Chg.both ?_ (by simp) | (with_reducible refine Chg.set ?_ (by simp) _) | with_reducible apply Chg.alloc | with_reducible apply Chg.ext)) (fun b hb => Nat.lt_of_lt_of_le (HR.out b hb).2 HH.out) (by simp))⟩
    · cases r6 : ordOk ⟨who, x.seq + 1, kind, to_, m⟩ with
      | false =>
        have E := hid (show askB xs who kind to_ m = false by rw [HA.out.1, r5, askOrd, r6]; rfl)
        have E0 := hid (show askL xs who kind to_ m = xs by rw [HA.out.2, r5, askOrd, r6]; rfl)
        go_enter Try.func102, Try.ntmps102
        try go_wp2_with (first
            | (go_at_call 113; refine (row_c _ _ _ _ _ _ (Re.of (Hid.out (by assumption)) (by ((try simp only [ext_drew]); (try simp only [ext_ext]); repeat (first | exact Ext.refl _ | with_reducible apply Ext.add | with_reducible apply Ext.dr | apply Ext.alloc | apply Ext.ext | apply Ext.drew | refine Ext.trans ?_ (by assumption))))) (by omega)).mono ?_; rintro e w' ⟨rfl, t, rfl⟩) | (go_at_call 90; (with_reducible refine (iOrdOk_c ⟨who, x.seq + 1, kind, to_, m⟩ _).mono ?_); rintro e w' ⟨rfl, t, rfl⟩)
            | (
              with_reducible refine wp_region_mix (by kernel_rfl) (by decide +kernel) ?_
              repeat (first
                | (refine mix_pure rfl ?_; (first | go_big_quiet_skip | (go_big_quiet_want; go_big_quiet_op; go_big_quiet_on)); refine wpQuiet_nil ?_)
                | (refine mix_skip (by rfl) ?_; (try simp only [Act.put, List.setIfInBounds_toArray, List.set_cons_zero, List.set_cons_succ]))
                | (refine mix_mk rfl (by rfl) (fun K hK => ?_); (first | (go_simp; first | (go_at_call 113; refine (row_c _ _ _ _ _ _ (Re.of (Hid.out (by assumption)) (by ((try simp only [ext_drew]); (try simp only [ext_ext]); repeat (first | exact Ext.refl _ | with_reducible apply Ext.add | with_reducible apply Ext.dr | apply Ext.alloc | apply Ext.ext | apply Ext.drew | refine Ext.trans ?_ (by assumption))))) (by omega)).mono ?_; rintro e w' ⟨rfl, t, rfl⟩) | (go_at_call 90; (with_reducible refine (iOrdOk_c ⟨who, x.seq + 1, kind, to_, m⟩ _).mono ?_); rintro e w' ⟨rfl, t, rfl⟩) | skip)); (show K _ _); refine hK _ _ (show Ext _ _ from (by ((try simp only [ext_drew]); (try simp only [ext_ext]); repeat (first | exact Ext.refl _ | with_reducible apply Ext.add | with_reducible apply Ext.dr | apply Ext.alloc | apply Ext.ext | apply Ext.drew | refine Ext.trans ?_ (by assumption))))) ?_; clear hK K; (try simp only [Act.put, List.setIfInBounds_toArray, List.set_cons_zero, List.set_cons_succ])))
              refine mix_nil ?_)
            | (
              with_reducible refine wp_region_ext (by kernel_rfl) (by kernel_rfl) ?_
              repeat (first | go_big_quiet_skip | (go_big_quiet_want; go_big_quiet_op; first | go_big_quiet_on | (apply Exists.intro; refine ⟨fun _ => ?_, ?_⟩; ((first | (go_at_call 113; first | exact quiet_call (row_c _ _ _ _ _ _ (Re.of (Hid.out (by assumption)) (by ((try simp only [ext_drew]); (try simp only [ext_ext]); repeat (first | exact Ext.refl _ | with_reducible apply Ext.add | with_reducible apply Ext.dr | apply Ext.alloc | apply Ext.ext | apply Ext.drew | refine Ext.trans ?_ (by assumption))))) (by omega)) | exact quiet_call2 (row_c _ _ _ _ _ _ (Re.of (Hid.out (by assumption)) (by ((try simp only [ext_drew]); (try simp only [ext_ext]); repeat (first | exact Ext.refl _ | with_reducible apply Ext.add | with_reducible apply Ext.dr | apply Ext.alloc | apply Ext.ext | apply Ext.drew | refine Ext.trans ?_ (by assumption))))) (by omega))))); (try rw [h1]); (try rw [h2]); (try rw [h3]); (try rw [h4]); (try rw [p1]); (try rw [p2]); (try rw [p3]); (try rw [p4]); (try rw [r1]); (try rw [r2]); (try rw [r3]); (try rw [r4]); (try rw [r5]); (try rw [r6]); (try rw [q3]); (try rw [q4]); (try rw [hp]); (try rw [hq]); go_big_quiet_on)))
              refine wpQuiet_nil ?_
              rintro _ ⟨tq, rfl⟩))
        go_ret
        refine ⟨ret_bool (by rw [E.out]), ?_, Chg.toR (by repeat (first | with_reducible exact Chg.refl _ _ | with_reducible apply Chg.drew | with_reducible apply Chg.drewl | with_reducible refine Chg.turn (by simp) | with_reducible refine Chg.both ?_ (by simp) | (with_reducible refine Chg.set ?_ (by simp) _) | with_reducible apply Chg.alloc | with_reducible apply Chg.ext)) HR.out⟩
        rw [E0.out]
        exact ⟨by have := HH.out; (try simp [go_sem]) <;> omega, _, HND.out, HR.out, own_Gwy_of (Own.chg HO0.out (B' := []) (by repeat (first | with_reducible exact Chg.refl _ _ | with_reducible apply Chg.drew | with_reducible apply Chg.drewl | with_reducible refine Chg.turn (by simp) | with_reducible refine Chg.both ?_ (by simp) | (with_reducible refine Chg.set ?_ (by simp) _) | with_reducible apply Chg.alloc | with_reducible apply Chg.ext)) (fun b hb => Nat.lt_of_lt_of_le (HR.out b hb).2 HH.out) (by simp))⟩
      | true =>
        have E := hid (show askB xs who kind to_ m = true by rw [HA.out.1, r5, askOrd, r6]; rfl)
        have E0 := hid (show askL xs who kind to_ m = xs.set k (askRow x who kind to_ m) by rw [HA.out.2, r5, askOrd, r6]; rfl)
        go_enter Try.func102, Try.ntmps102
        try go_wp2_with (first
            | (go_at_call 113; refine (row_c _ _ _ _ _ _ (Re.of (Hid.out (by assumption)) (by ((try simp only [ext_drew]); (try simp only [ext_ext]); repeat (first | exact Ext.refl _ | with_reducible apply Ext.add | with_reducible apply Ext.dr | apply Ext.alloc | apply Ext.ext | apply Ext.drew | refine Ext.trans ?_ (by assumption))))) (by omega)).mono ?_; rintro e w' ⟨rfl, t, rfl⟩) | (go_at_call 90; (with_reducible refine (iOrdOk_c ⟨who, x.seq + 1, kind, to_, m⟩ _).mono ?_); rintro e w' ⟨rfl, t, rfl⟩)
            | (
              with_reducible refine wp_region_mix (by kernel_rfl) (by decide +kernel) ?_
              repeat (first
                | (refine mix_pure rfl ?_; (first | go_big_quiet_skip | (go_big_quiet_want; go_big_quiet_op; go_big_quiet_on)); refine wpQuiet_nil ?_)
                | (refine mix_skip (by rfl) ?_; (try simp only [Act.put, List.setIfInBounds_toArray, List.set_cons_zero, List.set_cons_succ]))
                | (refine mix_mk rfl (by rfl) (fun K hK => ?_); (first | (go_simp; first | (go_at_call 113; refine (row_c _ _ _ _ _ _ (Re.of (Hid.out (by assumption)) (by ((try simp only [ext_drew]); (try simp only [ext_ext]); repeat (first | exact Ext.refl _ | with_reducible apply Ext.add | with_reducible apply Ext.dr | apply Ext.alloc | apply Ext.ext | apply Ext.drew | refine Ext.trans ?_ (by assumption))))) (by omega)).mono ?_; rintro e w' ⟨rfl, t, rfl⟩) | (go_at_call 90; (with_reducible refine (iOrdOk_c ⟨who, x.seq + 1, kind, to_, m⟩ _).mono ?_); rintro e w' ⟨rfl, t, rfl⟩) | skip)); (show K _ _); refine hK _ _ (show Ext _ _ from (by ((try simp only [ext_drew]); (try simp only [ext_ext]); repeat (first | exact Ext.refl _ | with_reducible apply Ext.add | with_reducible apply Ext.dr | apply Ext.alloc | apply Ext.ext | apply Ext.drew | refine Ext.trans ?_ (by assumption))))) ?_; clear hK K; (try simp only [Act.put, List.setIfInBounds_toArray, List.set_cons_zero, List.set_cons_succ])))
              refine mix_nil ?_)
            | (
              with_reducible refine wp_region_ext (by kernel_rfl) (by kernel_rfl) ?_
              repeat (first | go_big_quiet_skip | (go_big_quiet_want; go_big_quiet_op; first | go_big_quiet_on | (apply Exists.intro; refine ⟨fun _ => ?_, ?_⟩; ((first | (go_at_call 113; first | exact quiet_call (row_c _ _ _ _ _ _ (Re.of (Hid.out (by assumption)) (by ((try simp only [ext_drew]); (try simp only [ext_ext]); repeat (first | exact Ext.refl _ | with_reducible apply Ext.add | with_reducible apply Ext.dr | apply Ext.alloc | apply Ext.ext | apply Ext.drew | refine Ext.trans ?_ (by assumption))))) (by omega)) | exact quiet_call2 (row_c _ _ _ _ _ _ (Re.of (Hid.out (by assumption)) (by ((try simp only [ext_drew]); (try simp only [ext_ext]); repeat (first | exact Ext.refl _ | with_reducible apply Ext.add | with_reducible apply Ext.dr | apply Ext.alloc | apply Ext.ext | apply Ext.drew | refine Ext.trans ?_ (by assumption))))) (by omega))))); (try rw [h1]); (try rw [h2]); (try rw [h3]); (try rw [h4]); (try rw [p1]); (try rw [p2]); (try rw [p3]); (try rw [p4]); (try rw [r1]); (try rw [r2]); (try rw [r3]); (try rw [r4]); (try rw [r5]); (try rw [r6]); (try rw [q3]); (try rw [q4]); (try rw [hp]); (try rw [hq]); go_big_quiet_on)))
              refine wpQuiet_nil ?_
              rintro _ ⟨tq, rfl⟩))
        go_region
        try go_wp2_with (first
            | fail
            | (
              with_reducible refine wp_region_mix (by kernel_rfl) (by decide +kernel) ?_
              repeat (first
                | (refine mix_pure rfl ?_; (first | go_big_quiet_skip | (go_big_quiet_want; go_big_quiet_op; go_big_quiet_on)); refine wpQuiet_nil ?_)
                | (refine mix_skip (by rfl) ?_; (try simp only [Act.put, List.setIfInBounds_toArray, List.set_cons_zero, List.set_cons_succ]))
                | (refine mix_mk rfl (by rfl) (fun K hK => ?_); (first | (go_simp; first | skip)); (show K _ _); refine hK _ _ (show Ext _ _ from (by ((try simp only [ext_drew]); (try simp only [ext_ext]); repeat (first | exact Ext.refl _ | with_reducible apply Ext.add | with_reducible apply Ext.dr | apply Ext.alloc | apply Ext.ext | apply Ext.drew | refine Ext.trans ?_ (by assumption))))) ?_; clear hK K; (try simp only [Act.put, List.setIfInBounds_toArray, List.set_cons_zero, List.set_cons_succ])))
              refine mix_nil ?_)
            | (
              with_reducible refine wp_region_ext (by kernel_rfl) (by kernel_rfl) ?_
              repeat (first | go_big_quiet_skip | (go_big_quiet_want; go_big_quiet_op; first | go_big_quiet_on | (apply Exists.intro; refine ⟨fun _ => ?_, ?_⟩; (fail); (try rw [h1]); (try rw [h2]); (try rw [h3]); (try rw [h4]); (try rw [p1]); (try rw [p2]); (try rw [p3]); (try rw [p4]); (try rw [r1]); (try rw [r2]); (try rw [r3]); (try rw [r4]); (try rw [r5]); (try rw [r6]); (try rw [q3]); (try rw [q4]); (try rw [hp]); (try rw [hq]); go_big_quiet_on)))
              refine wpQuiet_nil ?_
              rintro _ ⟨tq, rfl⟩))
        go_ret
        refine ⟨ret_bool (by rw [E.out]), ?_, Chg.toR (by repeat (first | with_reducible exact Chg.refl _ _ | with_reducible apply Chg.drew | with_reducible apply Chg.drewl | with_reducible refine Chg.turn (by simp) | with_reducible refine Chg.both ?_ (by simp) | (with_reducible refine Chg.set ?_ (by simp) _) | with_reducible apply Chg.alloc | with_reducible apply Chg.ext)) HR.out⟩
        rw [E0.out]
        refine ⟨by have := HH.out; (try simp [go_sem]) <;> omega, _, HND.out, HR.out, own_Gwy_of (HP.out _ ((((((arr.setIfInBounds (k * 10 + 2) (.bool true)).setIfInBounds (k * 10 + 3) (.int .i64 who)).setIfInBounds (k * 10 + 3 + 1) (.int .i64 (x.seq + 1))).setIfInBounds (k * 10 + 3 + 2) (.int .i64 kind)).setIfInBounds (k * 10 + 3 + 3) (.int .i64 to_)).setIfInBounds (k * 10 + 3 + 4) (.int .i64 m)) (askRow x who kind to_ m) (by repeat (first | with_reducible exact HB.out | with_reducible apply blk_drew | with_reducible refine blk_set ?_ | (with_reducible refine blk_other ?_ (by first | assumption | omega)) | with_reducible refine blk_ext ?_ | with_reducible refine blk_alloc ?_)) (by simp) (fun i hi => ?ho) (fun i v hv => ?hv))⟩
        case ho =>
          have hsz := HZ.out
          repeat (with_reducible refine arr_out (by omega) ?_)
          rfl
        case hv =>
          have hsz := HZ.out
          match i, hv with
          | 0, hv =>
            repeat (with_reducible refine arr_out (by omega) ?_)
            exact HC.out 0 v hv
          | 1, hv =>
            repeat (with_reducible refine arr_out (by omega) ?_)
            exact HC.out 1 v hv
          | 2, hv =>
            repeat (with_reducible refine arr_out (by omega) ?_)
            exact (arr_at (by omega) (by (try simp only [Array.size_setIfInBounds]); omega)).trans hv
          | 3, hv =>
            repeat (with_reducible refine arr_out (by omega) ?_)
            exact (arr_at (by omega) (by (try simp only [Array.size_setIfInBounds]); omega)).trans hv
          | 4, hv =>
            repeat (with_reducible refine arr_out (by omega) ?_)
            exact (arr_at (by omega) (by (try simp only [Array.size_setIfInBounds]); omega)).trans hv
          | 5, hv =>
            repeat (with_reducible refine arr_out (by omega) ?_)
            exact (arr_at (by omega) (by (try simp only [Array.size_setIfInBounds]); omega)).trans hv
          | 6, hv =>
            repeat (with_reducible refine arr_out (by omega) ?_)
            exact (arr_at (by omega) (by (try simp only [Array.size_setIfInBounds]); omega)).trans hv
          | 7, hv =>
            repeat (with_reducible refine arr_out (by omega) ?_)
            exact (arr_at (by omega) (by (try simp only [Array.size_setIfInBounds]); omega)).trans hv
          | 8, hv =>
            repeat (with_reducible refine arr_out (by omega) ?_)
            exact HC.out 8 v hv
          | 9, hv =>
            repeat (with_reducible refine arr_out (by omega) ?_)
            exact HC.out 9 v hv
end Go.Proofs.Ytaepmhoedaogkaa
