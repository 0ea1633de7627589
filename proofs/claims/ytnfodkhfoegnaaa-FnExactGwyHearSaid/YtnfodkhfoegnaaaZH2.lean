/- Packed texts: GwyR, GwyA, GwyS, GwyI, GwyB, SegT, App, AppZ, TPcl, Row, TGst, Ins, Gap, GapL, Big, GwyHr, Ok2, TMp, TRec, GstO, Ok3, Msg -/
import Derived.Test.YtnfodkhfoegnaaaZH1
import Derived.Lib.Overlaps
import Derived.Lib.AppendZerosOnto
import Derived.Laws.IdiomCopy
import Derived.Laws.NewBlocks
import Derived.Deep.MidRow
namespace Go.Proofs.Ytnfodkhfoegnaaa
open Go.RowKit
set_option linter.unusedSimpArgs false
set_option linter.unusedVariables false

def ordZ (o : Ord) : Bool := (o.who == 0) && ((o.seq == 0) && ((o.kind == 0) && ((o.to_ == 0) && (o.n == 0))))
theorem bne_of_f {a b : Int} (h : (a == b) = false) : (a != b) = true := by simp [bne, h]
theorem bne_of_t {a b : Int} (h : (a == b) = true) : (a != b) = false := by simp [bne, h]
def rowNum (m : Mp) (x : Row) : Bool := inB x.who 1 9 && inB x.cell 0 (wrap64 (m.c - 1)) && inB x.seq 0 900 && inB x.code 0 9
def rowOrd (x : Row) : Bool := if x.busy then ordOk x.ord && (x.ord.who == x.who) && (x.ord.seq == x.seq + 1) else ordZ x.ord
def gwyRow (m : Mp) (x : Row) : Bool := rowNum m x && rowOrd x
def gwyAt (m : Mp) (xs : List Row) (i : Nat) (x : Row) : Bool := gwyRow m x && ordAt Row.who xs i x
def gwyAll (m : Mp) (xs : List Row) : Bool := allI (gwyAt m xs) 0 xs
def gwyOk (m : Mp) (xs : List Row) : Bool := gwyAll m xs && plcOk m

set_option maxRecDepth 100000 in
set_option maxHeartbeats 4000000 in
theorem l12Row_c (m : Mp) (x : Row) (w : World) : Calls Try.prog 84 #[.agg #[.int .i64 m.c, .int .i64 m.w], .agg #[.int .i64 x.who, .int .i64 x.cell, .bool x.busy, .int .i64 x.ord.who, .int .i64 x.ord.seq, .int .i64 x.ord.kind, .int .i64 x.ord.to_, .int .i64 x.ord.n, .int .i64 x.seq, .int .i64 x.code]] w fun e w' => e = .returned (.bool (gwyRow m x)) ∧ Ext w w' := by
  cases r1 : inB x.who 1 9 with
  | false =>
    have E := hid (show gwyRow m x = false by simp [gwyRow, rowNum, r1])
    go_enter Try.func84, Try.ntmps84
    try go_wp2_with (first
        | (go_at_call 33; refine (l1In_c _ _ _ _).mono ?_; rintro e w' ⟨rfl, rfl⟩)
        | (
          with_reducible refine wp_region_mix (by kernel_rfl) (by decide +kernel) ?_
          repeat (first
            | (refine mix_pure rfl ?_; (first | go_big_quiet_skip | (go_big_quiet_want; go_big_quiet_op; go_big_quiet_on)); refine wpQuiet_nil ?_)
            | (refine mix_skip (by rfl) ?_; (try simp only [Act.put, List.setIfInBounds_toArray, List.set_cons_zero, List.set_cons_succ]))
            | (refine mix_mk rfl (by rfl) (fun K hK => ?_); (first | (go_simp; first | (go_at_call 33; refine (l1In_c _ _ _ _).mono ?_; rintro e w' ⟨rfl, rfl⟩) | skip)); (show K _ _); refine hK _ _ (show Ext _ _ from (by ((try simp only [ext_drew]); (try simp only [ext_ext]); repeat (first | exact Ext.refl _ | with_reducible apply Ext.add | with_reducible apply Ext.dr | apply Ext.alloc | apply Ext.ext | apply Ext.drew | refine Ext.trans ?_ (by assumption))))) ?_; clear hK K; (try simp only [Act.put, List.setIfInBounds_toArray, List.set_cons_zero, List.set_cons_succ])))
          refine mix_nil ?_)
        | (
          with_reducible refine wp_region_ext (by kernel_rfl) (by kernel_rfl) ?_
          repeat (first | go_big_quiet_skip | (go_big_quiet_want; go_big_quiet_op; first | go_big_quiet_on | (apply Exists.intro; refine ⟨fun _ => ?_, ?_⟩; ((first | (go_at_call 33; first | exact quiet_same (l1In_c _ _ _ _) | exact quiet_same2 (l1In_c _ _ _ _)))); (try rw [h1]); (try rw [h2]); (try rw [h3]); (try rw [h4]); (try rw [p1]); (try rw [p2]); (try rw [p3]); (try rw [p4]); (try rw [r1]); (try rw [r2]); (try rw [r3]); (try rw [r4]); (try rw [r5]); (try rw [r6]); (try rw [q3]); (try rw [q4]); (try rw [hp]); (try rw [hq]); go_big_quiet_on)))
          refine wpQuiet_nil ?_
          rintro _ ⟨tq, rfl⟩))
    go_ret
    exact ⟨ret_bool (by rw [E.out]), (by ((try simp only [ext_drew]); (try simp only [ext_ext]); repeat (first | exact Ext.refl _ | with_reducible apply Ext.add | with_reducible apply Ext.dr | apply Ext.alloc | apply Ext.ext | apply Ext.drew | refine Ext.trans ?_ (by assumption))))⟩
  | true =>
    cases r2 : inB x.cell 0 (wrap64 (m.c - 1)) with
    | false =>
      have E := hid (show gwyRow m x = false by simp [gwyRow, rowNum, r2])
      go_enter Try.func84, Try.ntmps84
      try go_wp2_with (first
          | (go_at_call 33; refine (l1In_c _ _ _ _).mono ?_; rintro e w' ⟨rfl, rfl⟩)
          | (
            with_reducible refine wp_region_mix (by kernel_rfl) (by decide +kernel) ?_
            repeat (first
              | (refine mix_pure rfl ?_; (first | go_big_quiet_skip | (go_big_quiet_want; go_big_quiet_op; go_big_quiet_on)); refine wpQuiet_nil ?_)
              | (refine mix_skip (by rfl) ?_; (try simp only [Act.put, List.setIfInBounds_toArray, List.set_cons_zero, List.set_cons_succ]))
              | (refine mix_mk rfl (by rfl) (fun K hK => ?_); (first | (go_simp; first | (go_at_call 33; refine (l1In_c _ _ _ _).mono ?_; rintro e w' ⟨rfl, rfl⟩) | skip)); (show K _ _); refine hK _ _ (show Ext _ _ from (by ((try simp only [ext_drew]); (try simp only [ext_ext]); repeat (first | exact Ext.refl _ | with_reducible apply Ext.add | with_reducible apply Ext.dr | apply Ext.alloc | apply Ext.ext | apply Ext.drew | refine Ext.trans ?_ (by assumption))))) ?_; clear hK K; (try simp only [Act.put, List.setIfInBounds_toArray, List.set_cons_zero, List.set_cons_succ])))
            refine mix_nil ?_)
          | (
            with_reducible refine wp_region_ext (by kernel_rfl) (by kernel_rfl) ?_
            repeat (first | go_big_quiet_skip | (go_big_quiet_want; go_big_quiet_op; first | go_big_quiet_on | (apply Exists.intro; refine ⟨fun _ => ?_, ?_⟩; ((first | (go_at_call 33; first | exact quiet_same (l1In_c _ _ _ _) | exact quiet_same2 (l1In_c _ _ _ _)))); (try rw [h1]); (try rw [h2]); (try rw [h3]); (try rw [h4]); (try rw [p1]); (try rw [p2]); (try rw [p3]); (try rw [p4]); (try rw [r1]); (try rw [r2]); (try rw [r3]); (try rw [r4]); (try rw [r5]); (try rw [r6]); (try rw [q3]); (try rw [q4]); (try rw [hp]); (try rw [hq]); go_big_quiet_on)))
            refine wpQuiet_nil ?_
            rintro _ ⟨tq, rfl⟩))
      go_ret
      exact ⟨ret_bool (by rw [E.out]), (by ((try simp only [ext_drew]); (try simp only [ext_ext]); repeat (first | exact Ext.refl _ | with_reducible apply Ext.add | with_reducible apply Ext.dr | apply Ext.alloc | apply Ext.ext | apply Ext.drew | refine Ext.trans ?_ (by assumption))))⟩
    | true =>
      cases r3 : inB x.seq 0 900 with
      | false =>
        have E := hid (show gwyRow m x = false by simp [gwyRow, rowNum, r3])
        go_enter Try.func84, Try.ntmps84
        try go_wp2_with (first
            | (go_at_call 33; refine (l1In_c _ _ _ _).mono ?_; rintro e w' ⟨rfl, rfl⟩)
            | (
              with_reducible refine wp_region_mix (by kernel_rfl) (by decide +kernel) ?_
              repeat (first
                | (refine mix_pure rfl ?_; (first | go_big_quiet_skip | (go_big_quiet_want; go_big_quiet_op; go_big_quiet_on)); refine wpQuiet_nil ?_)
                | (refine mix_skip (by rfl) ?_; (try simp only [Act.put, List.setIfInBounds_toArray, List.set_cons_zero, List.set_cons_succ]))
                | (refine mix_mk rfl (by rfl) (fun K hK => ?_); (first | (go_simp; first | (go_at_call 33; refine (l1In_c _ _ _ _).mono ?_; rintro e w' ⟨rfl, rfl⟩) | skip)); (show K _ _); refine hK _ _ (show Ext _ _ from (by ((try simp only [ext_drew]); (try simp only [ext_ext]); repeat (first | exact Ext.refl _ | with_reducible apply Ext.add | with_reducible apply Ext.dr | apply Ext.alloc | apply Ext.ext | apply Ext.drew | refine Ext.trans ?_ (by assumption))))) ?_; clear hK K; (try simp only [Act.put, List.setIfInBounds_toArray, List.set_cons_zero, List.set_cons_succ])))
              refine mix_nil ?_)
            | (
              with_reducible refine wp_region_ext (by kernel_rfl) (by kernel_rfl) ?_
              repeat (first | go_big_quiet_skip | (go_big_quiet_want; go_big_quiet_op; first | go_big_quiet_on | (apply Exists.intro; refine ⟨fun _ => ?_, ?_⟩; ((first | (go_at_call 33; first | exact quiet_same (l1In_c _ _ _ _) | exact quiet_same2 (l1In_c _ _ _ _)))); (try rw [h1]); (try rw [h2]); (try rw [h3]); (try rw [h4]); (try rw [p1]); (try rw [p2]); (try rw [p3]); (try rw [p4]); (try rw [r1]); (try rw [r2]); (try rw [r3]); (try rw [r4]); (try rw [r5]); (try rw [r6]); (try rw [q3]); (try rw [q4]); (try rw [hp]); (try rw [hq]); go_big_quiet_on)))
              refine wpQuiet_nil ?_
              rintro _ ⟨tq, rfl⟩))
        go_ret
        exact ⟨ret_bool (by rw [E.out]), (by ((try simp only [ext_drew]); (try simp only [ext_ext]); repeat (first | exact Ext.refl _ | with_reducible apply Ext.add | with_reducible apply Ext.dr | apply Ext.alloc | apply Ext.ext | apply Ext.drew | refine Ext.trans ?_ (by assumption))))⟩
      | true =>
        obtain ⟨s1, s2⟩ := inB_iff.1 r3
        cases r4 : inB x.code 0 9 with
        | false =>
          have E := hid (show gwyRow m x = false by simp [gwyRow, rowNum, r4])
          go_enter Try.func84, Try.ntmps84
          try go_wp2_with (first
              | (go_at_call 33; refine (l1In_c _ _ _ _).mono ?_; rintro e w' ⟨rfl, rfl⟩)
              | (
                with_reducible refine wp_region_mix (by kernel_rfl) (by decide +kernel) ?_
                repeat (first
                  | (refine mix_pure rfl ?_; (first | go_big_quiet_skip | (go_big_quiet_want; go_big_quiet_op; go_big_quiet_on)); refine wpQuiet_nil ?_)
                  | (refine mix_skip (by rfl) ?_; (try simp only [Act.put, List.setIfInBounds_toArray, List.set_cons_zero, List.set_cons_succ]))
                  | (refine mix_mk rfl (by rfl) (fun K hK => ?_); (first | (go_simp; first | (go_at_call 33; refine (l1In_c _ _ _ _).mono ?_; rintro e w' ⟨rfl, rfl⟩) | skip)); (show K _ _); refine hK _ _ (show Ext _ _ from (by ((try simp only [ext_drew]); (try simp only [ext_ext]); repeat (first | exact Ext.refl _ | with_reducible apply Ext.add | with_reducible apply Ext.dr | apply Ext.alloc | apply Ext.ext | apply Ext.drew | refine Ext.trans ?_ (by assumption))))) ?_; clear hK K; (try simp only [Act.put, List.setIfInBounds_toArray, List.set_cons_zero, List.set_cons_succ])))
                refine mix_nil ?_)
              | (
                with_reducible refine wp_region_ext (by kernel_rfl) (by kernel_rfl) ?_
                repeat (first | go_big_quiet_skip | (go_big_quiet_want; go_big_quiet_op; first | go_big_quiet_on | (apply Exists.intro; refine ⟨fun _ => ?_, ?_⟩; ((first | (go_at_call 33; first | exact quiet_same (l1In_c _ _ _ _) | exact quiet_same2 (l1In_c _ _ _ _)))); (try rw [h1]); (try rw [h2]); (try rw [h3]); (try rw [h4]); (try rw [p1]); (try rw [p2]); (try rw [p3]); (try rw [p4]); (try rw [r1]); (try rw [r2]); (try rw [r3]); (try rw [r4]); (try rw [r5]); (try rw [r6]); (try rw [q3]); (try rw [q4]); (try rw [hp]); (try rw [hq]); go_big_quiet_on)))
                refine wpQuiet_nil ?_
                rintro _ ⟨tq, rfl⟩))
          go_ret
          exact ⟨ret_bool (by rw [E.out]), (by ((try simp only [ext_drew]); (try simp only [ext_ext]); repeat (first | exact Ext.refl _ | with_reducible apply Ext.add | with_reducible apply Ext.dr | apply Ext.alloc | apply Ext.ext | apply Ext.drew | refine Ext.trans ?_ (by assumption))))⟩
        | true =>
          have E := hid (show gwyRow m x = rowOrd x by simp [gwyRow, rowNum, r1, r2, r3, r4])
          have hb := hid (show x.busy = true ∨ x.busy = false by cases x.busy <;> simp)
          rcases hb.out with r5 | r5
          · have E2 := hid (show rowOrd x = (ordOk x.ord && (x.ord.who == x.who) && (x.ord.seq == x.seq + 1)) by simp [rowOrd, r5])
            cases r6 : ordOk x.ord <;> cases h1 : (x.ord.who == x.who)
            all_goals
              go_enter Try.func84, Try.ntmps84
              try go_wp2_with (first
                  | (go_at_call 33; refine (l1In_c _ _ _ _).mono ?_; rintro e w' ⟨rfl, rfl⟩) | (go_at_call 36; refine (sOrdOk_c _ _).mono ?_; rintro e w' ⟨rfl, t, rfl⟩)
                  | (
                    with_reducible refine wp_region_mix (by kernel_rfl) (by decide +kernel) ?_
                    repeat (first
                      | (refine mix_pure rfl ?_; (first | go_big_quiet_skip | (go_big_quiet_want; go_big_quiet_op; go_big_quiet_on)); refine wpQuiet_nil ?_)
                      | (refine mix_skip (by rfl) ?_; (try simp only [Act.put, List.setIfInBounds_toArray, List.set_cons_zero, List.set_cons_succ]))
                      | (refine mix_mk rfl (by rfl) (fun K hK => ?_); (first | (go_simp; first | (go_at_call 33; refine (l1In_c _ _ _ _).mono ?_; rintro e w' ⟨rfl, rfl⟩) | (go_at_call 36; refine (sOrdOk_c _ _).mono ?_; rintro e w' ⟨rfl, t, rfl⟩) | skip)); (show K _ _); refine hK _ _ (show Ext _ _ from (by ((try simp only [ext_drew]); (try simp only [ext_ext]); repeat (first | exact Ext.refl _ | with_reducible apply Ext.add | with_reducible apply Ext.dr | apply Ext.alloc | apply Ext.ext | apply Ext.drew | refine Ext.trans ?_ (by assumption))))) ?_; clear hK K; (try simp only [Act.put, List.setIfInBounds_toArray, List.set_cons_zero, List.set_cons_succ])))
                    refine mix_nil ?_)
                  | (
                    with_reducible refine wp_region_ext (by kernel_rfl) (by kernel_rfl) ?_
                    repeat (first | go_big_quiet_skip | (go_big_quiet_want; go_big_quiet_op; first | go_big_quiet_on | (apply Exists.intro; refine ⟨fun _ => ?_, ?_⟩; ((first | (go_at_call 33; first | exact quiet_same (l1In_c _ _ _ _) | exact quiet_same2 (l1In_c _ _ _ _)) | (go_at_call 36; first | exact quiet_call (sOrdOk_c _ _) | exact quiet_call2 (sOrdOk_c _ _)))); (try rw [h1]); (try rw [h2]); (try rw [h3]); (try rw [h4]); (try rw [p1]); (try rw [p2]); (try rw [p3]); (try rw [p4]); (try rw [r1]); (try rw [r2]); (try rw [r3]); (try rw [r4]); (try rw [r5]); (try rw [r6]); (try rw [q3]); (try rw [q4]); (try rw [hp]); (try rw [hq]); go_big_quiet_on)))
                    refine wpQuiet_nil ?_
                    rintro _ ⟨tq, rfl⟩))
              go_ret
              exact ⟨ret_bool (by rw [E.out, E2.out]; simp [r6, h1]), (by ((try simp only [ext_drew]); (try simp only [ext_ext]); repeat (first | exact Ext.refl _ | with_reducible apply Ext.add | with_reducible apply Ext.dr | apply Ext.alloc | apply Ext.ext | apply Ext.drew | refine Ext.trans ?_ (by assumption))))⟩
          · have E2 := hid (show rowOrd x = ordZ x.ord by simp [rowOrd, r5])
            go_enter Try.func84, Try.ntmps84
            try go_wp2_with (first
                | (go_at_call 33; refine (l1In_c _ _ _ _).mono ?_; rintro e w' ⟨rfl, rfl⟩) | (go_at_call 36; refine (sOrdOk_c _ _).mono ?_; rintro e w' ⟨rfl, t, rfl⟩)
                | (
                  with_reducible refine wp_region_mix (by kernel_rfl) (by decide +kernel) ?_
                  repeat (first
                    | (refine mix_pure rfl ?_; (first | go_big_quiet_skip | (go_big_quiet_want; go_big_quiet_op; go_big_quiet_on)); refine wpQuiet_nil ?_)
                    | (refine mix_skip (by rfl) ?_; (try simp only [Act.put, List.setIfInBounds_toArray, List.set_cons_zero, List.set_cons_succ]))
                    | (refine mix_mk rfl (by rfl) (fun K hK => ?_); (first | (go_simp; first | (go_at_call 33; refine (l1In_c _ _ _ _).mono ?_; rintro e w' ⟨rfl, rfl⟩) | (go_at_call 36; refine (sOrdOk_c _ _).mono ?_; rintro e w' ⟨rfl, t, rfl⟩) | skip)); (show K _ _); refine hK _ _ (show Ext _ _ from (by ((try simp only [ext_drew]); (try simp only [ext_ext]); repeat (first | exact Ext.refl _ | with_reducible apply Ext.add | with_reducible apply Ext.dr | apply Ext.alloc | apply Ext.ext | apply Ext.drew | refine Ext.trans ?_ (by assumption))))) ?_; clear hK K; (try simp only [Act.put, List.setIfInBounds_toArray, List.set_cons_zero, List.set_cons_succ])))
                  refine mix_nil ?_)
                | (
                  with_reducible refine wp_region_ext (by kernel_rfl) (by kernel_rfl) ?_
                  repeat (first | go_big_quiet_skip | (go_big_quiet_want; go_big_quiet_op; first | go_big_quiet_on | (apply Exists.intro; refine ⟨fun _ => ?_, ?_⟩; ((first | (go_at_call 33; first | exact quiet_same (l1In_c _ _ _ _) | exact quiet_same2 (l1In_c _ _ _ _)) | (go_at_call 36; first | exact quiet_call (sOrdOk_c _ _) | exact quiet_call2 (sOrdOk_c _ _)))); (try rw [h1]); (try rw [h2]); (try rw [h3]); (try rw [h4]); (try rw [p1]); (try rw [p2]); (try rw [p3]); (try rw [p4]); (try rw [r1]); (try rw [r2]); (try rw [r3]); (try rw [r4]); (try rw [r5]); (try rw [r6]); (try rw [q3]); (try rw [q4]); (try rw [hp]); (try rw [hq]); go_big_quiet_on)))
                  refine wpQuiet_nil ?_
                  rintro _ ⟨tq, rfl⟩))
            go_ret
            exact ⟨ret_bool (by rw [E.out, E2.out]; simp [ordZ]), (by ((try simp only [ext_drew]); (try simp only [ext_ext]); repeat (first | exact Ext.refl _ | with_reducible apply Ext.add | with_reducible apply Ext.dr | apply Ext.alloc | apply Ext.ext | apply Ext.drew | refine Ext.trans ?_ (by assumption))))⟩
end Go.Proofs.Ytnfodkhfoegnaaa

namespace Go.Proofs.Ytnfodkhfoegnaaa
open Go.RowKit
set_option linter.unusedSimpArgs false
set_option linter.unusedVariables false

@[go_sem high] theorem ne_add_l0 (a b : Nat) (h : a < b) : (b = a) = False := by simp only [eq_iff_iff, iff_false]; omega
@[go_sem high] theorem ne_add_l1 (a b k : Nat) (h : a < b) : (b + k = a) = False := by simp only [eq_iff_iff, iff_false]; omega
@[go_sem high] theorem ne_add_l2 (a b k0 k1 : Nat) (h : a < b) : (b + k0 + k1 = a) = False := by simp only [eq_iff_iff, iff_false]; omega
theorem arr_ne {arr : Array Value} {i j : Nat} {v : Value} (h : i ≠ j) : (arr.setIfInBounds i v)[j]? = arr[j]? := by
  rw [Array.getElem?_setIfInBounds, if_neg h]
theorem arr_eq {arr : Array Value} {i : Nat} {v : Value} (h : i < arr.size) : (arr.setIfInBounds i v)[i]? = some v := by
  rw [Array.getElem?_setIfInBounds, if_pos rfl, if_pos h]

theorem arr_out {arr : Array Value} {i j : Nat} {v : Value} {x : Option Value} (h : i ≠ j) (k : arr[j]? = x) : (arr.setIfInBounds i v)[j]? = x := (arr_ne h).trans k
theorem arr_at {arr : Array Value} {i j : Nat} {v : Value} (e : i = j) (h : i < arr.size) : (arr.setIfInBounds i v)[j]? = some v := by subst e; exact arr_eq h
def rowGet (xs : List Row) (who : Int) : Option Row := xs.find? (isWho who)
theorem own_at_Row {w : World} {a : Option Addr} {n c : Nat} {xs : List Row} {B : List Nat} (h : Own w (.sl sRow) [.slice a n c] (.l (xs.map Row.dat)) B) {j : Nat} (hj : j < n) :
    ∃ (b : Nat) (arr : Array Value) (T : TypeId) (x : Row), a = some ⟨b, 0, none⟩ ∧ B = [b] ∧ n = xs.length ∧ xs[j]? = some x ∧ w.heap[b]? = some (.cells arr T (0, 0)) ∧ j * 10 + 10 ≤ arr.size ∧ (∀ i v, x.cells[i]? = some v → arr[j * 10 + i]? = some v) ∧
      ∀ (w' : World) (arr' : Array Value) (y : Row), w'.heap[b]? = some (.cells arr' T (0, 0)) → arr'.size = arr.size → (∀ i, ¬ (j * 10 ≤ i ∧ i < j * 10 + 10) → arr'[i]? = arr[i]?) → (∀ i v, y.cells[i]? = some v → arr'[j * 10 + i]? = some v) →
        Own w' (.sl sRow) [.slice (some ⟨b, 0, none⟩) n c] (.l ((xs.set j y).map Row.dat)) [b] := by
  obtain ⟨b, arr, T, x, h1, h2, h3, h4, h5, h6, h7, h8, h9⟩ := own_at (cells := Row.cells) (dat := Row.dat) (sch := sRow) (k := 10) rfl (by decide) (by decide) (fun _ => rfl) (fun _ _ _ _ h => rd_Row h) (fun _ _ h => Row.dat_inj h) (fun w x => own_Row_mk w x) h hj
  exact ⟨b, arr, T, x, h1, h2, h3, h4, h5, h6, fun i v hv => by rw [← cell_blk h5]; exact h7 i v hv, h9⟩
theorem own_Gwy_one {w : World} {a0 : Option Addr} {n0 c0 : Nat} {xs0 : List Row} {B : List Nat} (h : Own w sGwy [.slice a0 n0 c0] (gwyDat xs0) B) : Own w (.sl sRow) [.slice a0 n0 c0] (.l (xs0.map Row.dat)) B := by
  have L := own_st (show Own w (.st [.sl sRow]) [.slice a0 n0 c0] (.s [.l (xs0.map Row.dat)]) B from h)
  obtain ⟨B0, R0, rfl, O0, L⟩ := ownL_sl L
  obtain rfl : R0 = [] := by unfold OwnL at L; exact L.2.2
  simpa using O0
theorem own_Gwy_of {w : World} {a0 : Option Addr} {n0 c0 : Nat} {xs0 : List Row} {B0 : List Nat} (h0 : Own w (.sl sRow) [.slice a0 n0 c0] (.l (xs0.map Row.dat)) B0) : Own w sGwy [.slice a0 n0 c0] (gwyDat xs0) B0 := by
  have := own_st_mk (ownL_mk h0 ownL_nil)
  simpa [sGwy, gwyDat] using this
theorem own_Gwy_nil (w : World) : Own w sGwy [.slice none 0 0] (gwyDat []) [] :=
  own_Gwy_of (own_flat_mk (xs := []) (k := 10) rfl (fun w x => own_Row_mk w x) (Nat.zero_le _) (.inl ⟨rfl, rfl⟩))

end Go.Proofs.Ytnfodkhfoegnaaa

namespace Go.Proofs.Ytnfodkhfoegnaaa
open Go.RowKit
set_option linter.unusedSimpArgs false
set_option linter.unusedVariables false

set_option maxRecDepth 100000 in
set_option maxHeartbeats 4000000 in
theorem sGwyOk_c (m : Mp) (xs : List Row) (a : Option Addr) (n c : Nat) (w : World) (hx : Re w (.sl sRow) [.slice a n c] (.l (xs.map Row.dat))) (hn : n ≤ 1048576) :
    Calls Try.prog 50 #[.agg #[.int .i64 m.c, .int .i64 m.w], .agg #[.slice a n c]] w fun e w' => e = .returned (.bool (gwyOk m xs)) ∧ Ext w w' := by
  have HX := hid hx
  clear hx
  cases p1 : plcOk m with
  | false =>
    go_enter Try.func50, Try.ntmps50
    try go_wp2_with (first
        | (go_at_call 32; refine (sPlcOk_c _ _).mono ?_; rintro e w' ⟨rfl, t, rfl⟩)
        | (
          with_reducible refine wp_region_mix (by kernel_rfl) (by decide +kernel) ?_
          repeat (first
            | (refine mix_pure rfl ?_; (first | go_big_quiet_skip | (go_big_quiet_want; go_big_quiet_op; go_big_quiet_on)); refine wpQuiet_nil ?_)
            | (refine mix_skip (by rfl) ?_; (try simp only [Act.put, List.setIfInBounds_toArray, List.set_cons_zero, List.set_cons_succ]))
            | (refine mix_mk rfl (by rfl) (fun K hK => ?_); (first | (go_simp; first | (go_at_call 32; refine (sPlcOk_c _ _).mono ?_; rintro e w' ⟨rfl, t, rfl⟩) | skip)); (show K _ _); refine hK _ _ (show Ext _ _ from (by ((try simp only [ext_drew]); (try simp only [ext_ext]); repeat (first | exact Ext.refl _ | with_reducible apply Ext.add | with_reducible apply Ext.dr | apply Ext.alloc | apply Ext.ext | apply Ext.drew | refine Ext.trans ?_ (by assumption))))) ?_; clear hK K; (try simp only [Act.put, List.setIfInBounds_toArray, List.set_cons_zero, List.set_cons_succ])))
          refine mix_nil ?_)
        | (
          with_reducible refine wp_region_ext (by kernel_rfl) (by kernel_rfl) ?_
          repeat (first | go_big_quiet_skip | (go_big_quiet_want; go_big_quiet_op; first | go_big_quiet_on | (apply Exists.intro; refine ⟨fun _ => ?_, ?_⟩; ((first | (go_at_call 32; first | exact quiet_call (sPlcOk_c _ _) | exact quiet_call2 (sPlcOk_c _ _)))); (try rw [h1]); (try rw [h2]); (try rw [h3]); (try rw [h4]); (try rw [p1]); (try rw [p2]); (try rw [p3]); (try rw [p4]); (try rw [r1]); (try rw [r2]); (try rw [r3]); (try rw [r4]); (try rw [r5]); (try rw [r6]); (try rw [q3]); (try rw [q4]); (try rw [hp]); (try rw [hq]); go_big_quiet_on)))
          refine wpQuiet_nil ?_
          rintro _ ⟨tq, rfl⟩))
    go_ret
    exact ⟨ret_bool (by simp [gwyOk, p1]), (by ((try simp only [ext_drew]); (try simp only [ext_ext]); repeat (first | exact Ext.refl _ | with_reducible apply Ext.add | with_reducible apply Ext.dr | apply Ext.alloc | apply Ext.ext | apply Ext.drew | refine Ext.trans ?_ (by assumption))))⟩
  | true =>
    go_enter Try.func50, Try.ntmps50
    try go_wp2_with (first
        | (go_at_call 32; refine (sPlcOk_c _ _).mono ?_; rintro e w' ⟨rfl, t, rfl⟩)
        | (
          with_reducible refine wp_region_mix (by kernel_rfl) (by decide +kernel) ?_
          repeat (first
            | (refine mix_pure rfl ?_; (first | go_big_quiet_skip | (go_big_quiet_want; go_big_quiet_op; go_big_quiet_on)); refine wpQuiet_nil ?_)
            | (refine mix_skip (by rfl) ?_; (try simp only [Act.put, List.setIfInBounds_toArray, List.set_cons_zero, List.set_cons_succ]))
            | (refine mix_mk rfl (by rfl) (fun K hK => ?_); (first | (go_simp; first | (go_at_call 32; refine (sPlcOk_c _ _).mono ?_; rintro e w' ⟨rfl, t, rfl⟩) | skip)); (show K _ _); refine hK _ _ (show Ext _ _ from (by ((try simp only [ext_drew]); (try simp only [ext_ext]); repeat (first | exact Ext.refl _ | with_reducible apply Ext.add | with_reducible apply Ext.dr | apply Ext.alloc | apply Ext.ext | apply Ext.drew | refine Ext.trans ?_ (by assumption))))) ?_; clear hK K; (try simp only [Act.put, List.setIfInBounds_toArray, List.set_cons_zero, List.set_cons_succ])))
          refine mix_nil ?_)
        | (
          with_reducible refine wp_region_ext (by kernel_rfl) (by kernel_rfl) ?_
          repeat (first | go_big_quiet_skip | (go_big_quiet_want; go_big_quiet_op; first | go_big_quiet_on | (apply Exists.intro; refine ⟨fun _ => ?_, ?_⟩; ((first | (go_at_call 32; first | exact quiet_call (sPlcOk_c _ _) | exact quiet_call2 (sPlcOk_c _ _)))); (try rw [h1]); (try rw [h2]); (try rw [h3]); (try rw [h4]); (try rw [p1]); (try rw [p2]); (try rw [p3]); (try rw [p4]); (try rw [r1]); (try rw [r2]); (try rw [r3]); (try rw [r4]); (try rw [r5]); (try rw [r6]); (try rw [q3]); (try rw [q4]); (try rw [hp]); (try rw [hq]); go_big_quiet_on)))
          refine wpQuiet_nil ?_
          rintro _ ⟨tq, rfl⟩))
    go_loopw [5] (fun i wr => ∃ k : Nat, k ≤ n ∧ i = .int .i64 k ∧ allI (gwyAt m xs) 0 (xs.take k) = true ∧ Ext ((w.alloc (Obj.cells #[.int .i64 m.c, .int .i64 m.w] 35)).alloc (Obj.cells #[.slice a n c] 59)) wr) (fun i _ => n - (intOf i).toNat)
    case atStart => exact ⟨0, Nat.zero_le _, rfl, rfl, (by ((try simp only [ext_drew]); (try simp only [ext_ext]); repeat (first | exact Ext.refl _ | with_reducible apply Ext.add | with_reducible apply Ext.dr | apply Ext.alloc | apply Ext.ext | apply Ext.drew | refine Ext.trans ?_ (by assumption))))⟩
    case round =>
      obtain ⟨k, hk, rfl, hal, t', rfl⟩ := hrel
      have HA := hid hal
      clear hal
      by_cases hlt : k < n
      · obtain ⟨x, b, o, hxk, rfl, hb, f0, f1, f2, f3, f4, f5, f6, f7, f8, f9⟩ := at_Row HX.out hlt
        have HK := hid hxk
        clear hxk
        have hb1 : b ≤ w.heap.size := Nat.le_of_lt hb
        cases h1 : gwyRow m x with
        | false =>
          have E := hid (show gwyAll m xs = false from allI_fail (p := gwyAt m xs) HK.out (by simp [gwyAt, h1]))
          try go_wp2_with (first
              | (go_at_call 84; refine (l12Row_c _ _ _).mono ?_; rintro e w' ⟨rfl, t, rfl⟩)
              | (
                with_reducible refine wp_region_mix (by kernel_rfl) (by decide +kernel) ?_
                repeat (first
                  | (refine mix_pure rfl ?_; (first | go_big_quiet_skip | (go_big_quiet_want; go_big_quiet_op; go_big_quiet_on)); refine wpQuiet_nil ?_)
                  | (refine mix_skip (by rfl) ?_; (try simp only [Act.put, List.setIfInBounds_toArray, List.set_cons_zero, List.set_cons_succ]))
                  | (refine mix_mk rfl (by rfl) (fun K hK => ?_); (first | (go_simp; first | (go_at_call 84; refine (l12Row_c _ _ _).mono ?_; rintro e w' ⟨rfl, t, rfl⟩) | skip)); (show K _ _); refine hK _ _ (show Ext _ _ from (by ((try simp only [ext_drew]); (try simp only [ext_ext]); repeat (first | exact Ext.refl _ | with_reducible apply Ext.add | with_reducible apply Ext.dr | apply Ext.alloc | apply Ext.ext | apply Ext.drew | refine Ext.trans ?_ (by assumption))))) ?_; clear hK K; (try simp only [Act.put, List.setIfInBounds_toArray, List.set_cons_zero, List.set_cons_succ])))
                refine mix_nil ?_)
              | (
                with_reducible refine wp_region_ext (by kernel_rfl) (by kernel_rfl) ?_
                repeat (first | go_big_quiet_skip | (go_big_quiet_want; go_big_quiet_op; first | go_big_quiet_on | (apply Exists.intro; refine ⟨fun _ => ?_, ?_⟩; ((first | (go_at_call 84; first | exact quiet_call (l12Row_c _ _ _) | exact quiet_call2 (l12Row_c _ _ _)))); (try rw [h1]); (try rw [h2]); (try rw [h3]); (try rw [h4]); (try rw [p1]); (try rw [p2]); (try rw [p3]); (try rw [p4]); (try rw [r1]); (try rw [r2]); (try rw [r3]); (try rw [r4]); (try rw [r5]); (try rw [r6]); (try rw [q3]); (try rw [q4]); (try rw [hp]); (try rw [hq]); go_big_quiet_on)))
                refine wpQuiet_nil ?_
                rintro _ ⟨tq, rfl⟩))
          go_ret
          exact ⟨ret_bool (by rw [gwyOk, E.out]; rfl), (by ((try simp only [ext_drew]); (try simp only [ext_ext]); repeat (first | exact Ext.refl _ | with_reducible apply Ext.add | with_reducible apply Ext.dr | apply Ext.alloc | apply Ext.ext | apply Ext.drew | refine Ext.trans ?_ (by assumption))))⟩
        | true =>
          rcases Nat.eq_zero_or_pos k with hk0 | hk0
          · have HZ := hid hk0
            have hz : ¬ (0 : Int) < (k : Int) := by omega
            have hz1 : ¬ 0 < k := by omega
            clear hk0
            have HB := hid (allI_step (p := gwyAt m xs) HK.out HA.out (by simp [gwyAt, h1, ordAt_nul HZ.out]))
            try go_wp2_with (first
                | (go_at_call 84; refine (l12Row_c _ _ _).mono ?_; rintro e w' ⟨rfl, t, rfl⟩)
                | (
                  with_reducible refine wp_region_mix (by kernel_rfl) (by decide +kernel) ?_
                  repeat (first
                    | (refine mix_pure rfl ?_; (first | go_big_quiet_skip | (go_big_quiet_want; go_big_quiet_op; go_big_quiet_on)); refine wpQuiet_nil ?_)
                    | (refine mix_skip (by rfl) ?_; (try simp only [Act.put, List.setIfInBounds_toArray, List.set_cons_zero, List.set_cons_succ]))
                    | (refine mix_mk rfl (by rfl) (fun K hK => ?_); (first | (go_simp; first | (go_at_call 84; refine (l12Row_c _ _ _).mono ?_; rintro e w' ⟨rfl, t, rfl⟩) | skip)); (show K _ _); refine hK _ _ (show Ext _ _ from (by ((try simp only [ext_drew]); (try simp only [ext_ext]); repeat (first | exact Ext.refl _ | with_reducible apply Ext.add | with_reducible apply Ext.dr | apply Ext.alloc | apply Ext.ext | apply Ext.drew | refine Ext.trans ?_ (by assumption))))) ?_; clear hK K; (try simp only [Act.put, List.setIfInBounds_toArray, List.set_cons_zero, List.set_cons_succ])))
                  refine mix_nil ?_)
                | (
                  with_reducible refine wp_region_ext (by kernel_rfl) (by kernel_rfl) ?_
                  repeat (first | go_big_quiet_skip | (go_big_quiet_want; go_big_quiet_op; first | go_big_quiet_on | (apply Exists.intro; refine ⟨fun _ => ?_, ?_⟩; ((first | (go_at_call 84; first | exact quiet_call (l12Row_c _ _ _) | exact quiet_call2 (l12Row_c _ _ _)))); (try rw [h1]); (try rw [h2]); (try rw [h3]); (try rw [h4]); (try rw [p1]); (try rw [p2]); (try rw [p3]); (try rw [p4]); (try rw [r1]); (try rw [r2]); (try rw [r3]); (try rw [r4]); (try rw [r5]); (try rw [r6]); (try rw [q3]); (try rw [q4]); (try rw [hp]); (try rw [hq]); go_big_quiet_on)))
                  refine wpQuiet_nil ?_
                  rintro _ ⟨tq, rfl⟩))
            go_roundw
            case rel => exact ⟨k + 1, by omega, by go_num, HB.out, (by ((try simp only [ext_drew]); (try simp only [ext_ext]); repeat (first | exact Ext.refl _ | with_reducible apply Ext.add | with_reducible apply Ext.dr | apply Ext.alloc | apply Ext.ext | apply Ext.drew | refine Ext.trans ?_ (by assumption))))⟩
            case measure => simp [intOf]; omega
          · obtain ⟨j, hkj⟩ : ∃ j, k = j + 1 := ⟨k - 1, by omega⟩
            have HJ := hid hkj
            have hpos : (0 : Int) < (k : Int) := by omega
            have hpos1 : 0 < k := by omega
            have hpre : (k : Int) - 1 = (j : Int) := by omega
            clear hk0 hkj
            obtain ⟨y, b2, o2, hyk, hab, hb2, g0, g1, g2, g3, g4, g5, g6, g7, g8, g9⟩ := at_Row HX.out (show j < n by have := HJ.out; omega)
            simp only [Option.some.injEq, Addr.mk.injEq, and_true] at hab
            obtain ⟨rfl, rfl⟩ := hab
            have HY := hid hyk
            clear hyk
            by_cases hq : y.who < x.who
            ·
              have HB := hid (allI_step (p := gwyAt m xs) HK.out HA.out (by simp [gwyAt, h1, ordAt_pos HJ.out HY.out, hq]))
              try go_wp2_with (first
                  | (go_at_call 84; refine (l12Row_c _ _ _).mono ?_; rintro e w' ⟨rfl, t, rfl⟩)
                  | (
                    with_reducible refine wp_region_mix (by kernel_rfl) (by decide +kernel) ?_
                    repeat (first
                      | (refine mix_pure rfl ?_; (first | go_big_quiet_skip | (go_big_quiet_want; go_big_quiet_op; go_big_quiet_on)); refine wpQuiet_nil ?_)
                      | (refine mix_skip (by rfl) ?_; (try simp only [Act.put, List.setIfInBounds_toArray, List.set_cons_zero, List.set_cons_succ]))
                      | (refine mix_mk rfl (by rfl) (fun K hK => ?_); (first | (go_simp; first | (go_at_call 84; refine (l12Row_c _ _ _).mono ?_; rintro e w' ⟨rfl, t, rfl⟩) | skip)); (show K _ _); refine hK _ _ (show Ext _ _ from (by ((try simp only [ext_drew]); (try simp only [ext_ext]); repeat (first | exact Ext.refl _ | with_reducible apply Ext.add | with_reducible apply Ext.dr | apply Ext.alloc | apply Ext.ext | apply Ext.drew | refine Ext.trans ?_ (by assumption))))) ?_; clear hK K; (try simp only [Act.put, List.setIfInBounds_toArray, List.set_cons_zero, List.set_cons_succ])))
                    refine mix_nil ?_)
                  | (
                    with_reducible refine wp_region_ext (by kernel_rfl) (by kernel_rfl) ?_
                    repeat (first | go_big_quiet_skip | (go_big_quiet_want; go_big_quiet_op; first | go_big_quiet_on | (apply Exists.intro; refine ⟨fun _ => ?_, ?_⟩; ((first | (go_at_call 84; first | exact quiet_call (l12Row_c _ _ _) | exact quiet_call2 (l12Row_c _ _ _)))); (try rw [h1]); (try rw [h2]); (try rw [h3]); (try rw [h4]); (try rw [p1]); (try rw [p2]); (try rw [p3]); (try rw [p4]); (try rw [r1]); (try rw [r2]); (try rw [r3]); (try rw [r4]); (try rw [r5]); (try rw [r6]); (try rw [q3]); (try rw [q4]); (try rw [hp]); (try rw [hq]); go_big_quiet_on)))
                    refine wpQuiet_nil ?_
                    rintro _ ⟨tq, rfl⟩))
              go_roundw
              case rel => exact ⟨k + 1, by omega, by go_num, HB.out, (by ((try simp only [ext_drew]); (try simp only [ext_ext]); repeat (first | exact Ext.refl _ | with_reducible apply Ext.add | with_reducible apply Ext.dr | apply Ext.alloc | apply Ext.ext | apply Ext.drew | refine Ext.trans ?_ (by assumption))))⟩
              case measure => simp [intOf]; omega
            · have hq' : x.who ≤ y.who := by omega
              have E := hid (show gwyAll m xs = false from allI_fail (p := gwyAt m xs) HK.out (by simp [gwyAt, ordAt_pos HJ.out HY.out, hq']))
              try go_wp2_with (first
                  | (go_at_call 84; refine (l12Row_c _ _ _).mono ?_; rintro e w' ⟨rfl, t, rfl⟩)
                  | (
                    with_reducible refine wp_region_mix (by kernel_rfl) (by decide +kernel) ?_
                    repeat (first
                      | (refine mix_pure rfl ?_; (first | go_big_quiet_skip | (go_big_quiet_want; go_big_quiet_op; go_big_quiet_on)); refine wpQuiet_nil ?_)
                      | (refine mix_skip (by rfl) ?_; (try simp only [Act.put, List.setIfInBounds_toArray, List.set_cons_zero, List.set_cons_succ]))
                      | (refine mix_mk rfl (by rfl) (fun K hK => ?_); (first | (go_simp; first | (go_at_call 84; refine (l12Row_c _ _ _).mono ?_; rintro e w' ⟨rfl, t, rfl⟩) | skip)); (show K _ _); refine hK _ _ (show Ext _ _ from (by ((try simp only [ext_drew]); (try simp only [ext_ext]); repeat (first | exact Ext.refl _ | with_reducible apply Ext.add | with_reducible apply Ext.dr | apply Ext.alloc | apply Ext.ext | apply Ext.drew | refine Ext.trans ?_ (by assumption))))) ?_; clear hK K; (try simp only [Act.put, List.setIfInBounds_toArray, List.set_cons_zero, List.set_cons_succ])))
                    refine mix_nil ?_)
                  | (
                    with_reducible refine wp_region_ext (by kernel_rfl) (by kernel_rfl) ?_
                    repeat (first | go_big_quiet_skip | (go_big_quiet_want; go_big_quiet_op; first | go_big_quiet_on | (apply Exists.intro; refine ⟨fun _ => ?_, ?_⟩; ((first | (go_at_call 84; first | exact quiet_call (l12Row_c _ _ _) | exact quiet_call2 (l12Row_c _ _ _)))); (try rw [h1]); (try rw [h2]); (try rw [h3]); (try rw [h4]); (try rw [p1]); (try rw [p2]); (try rw [p3]); (try rw [p4]); (try rw [r1]); (try rw [r2]); (try rw [r3]); (try rw [r4]); (try rw [r5]); (try rw [r6]); (try rw [q3]); (try rw [q4]); (try rw [hp]); (try rw [hq]); go_big_quiet_on)))
                    refine wpQuiet_nil ?_
                    rintro _ ⟨tq, rfl⟩))
              go_ret
              exact ⟨ret_bool (by rw [gwyOk, E.out]; rfl), (by ((try simp only [ext_drew]); (try simp only [ext_ext]); repeat (first | exact Ext.refl _ | with_reducible apply Ext.add | with_reducible apply Ext.dr | apply Ext.alloc | apply Ext.ext | apply Ext.drew | refine Ext.trans ?_ (by assumption))))⟩
      · have E := hid (show gwyAll m xs = true from allI_all (p := gwyAt m xs) (xs := xs) (k := k) (by rw [← HX.out.len]; omega) HA.out)
        try go_wp2_with (first
            | fail
            | (
              with_reducible refine wp_region_mix (by kernel_rfl) (by decide +kernel) ?_
              repeat (first
                | (refine mix_pure rfl ?_; (first | go_big_quiet_skip | (go_big_quiet_want; go_big_quiet_op; go_big_quiet_on)); refine wpQuiet_nil ?_)
                | (refine mix_skip (by rfl) ?_; (try simp only [Act.put, List.setIfInBounds_toArray, List.set_cons_zero, List.set_cons_succ]))
                | (refine mix_mk rfl (by rfl) (fun K hK => ?_); (first | (go_simp; first | skip)); (show K _ _); refine hK _ _ (show Ext _ _ from (by ((try simp only [ext_drew]); (try simp only [ext_ext]); repeat (first | exact Ext.refl _ | with_reducible apply Ext.add | with_reducible apply Ext.dr | apply Ext.alloc | apply Ext.ext | apply Ext.drew | refine Ext.trans ?_ (by assumption))))) ?_; clear hK K; (try simp only [Act.put, List.setIfInBounds_toArray, List.set_cons_zero, List.set_cons_succ])))
              refine mix_nil ?_)
            | (
              with_reducible refine wp_region_ext (by kernel_rfl) (by kernel_rfl) ?_
              repeat (first | go_big_quiet_skip | (go_big_quiet_want; go_big_quiet_op; first | go_big_quiet_on | (apply Exists.intro; refine ⟨fun _ => ?_, ?_⟩; (fail); (try rw [h1]); (try rw [h2]); (try rw [h3]); (try rw [h4]); (try rw [p1]); (try rw [p2]); (try rw [p3]); (try rw [p4]); (try rw [r1]); (try rw [r2]); (try rw [r3]); (try rw [r4]); (try rw [r5]); (try rw [r6]); (try rw [q3]); (try rw [q4]); (try rw [hp]); (try rw [hq]); go_big_quiet_on)))
              refine wpQuiet_nil ?_
              rintro _ ⟨tq, rfl⟩))
        go_ret
        exact ⟨ret_bool (by rw [gwyOk, E.out, p1]; rfl), (by ((try simp only [ext_drew]); (try simp only [ext_ext]); repeat (first | exact Ext.refl _ | with_reducible apply Ext.add | with_reducible apply Ext.dr | apply Ext.alloc | apply Ext.ext | apply Ext.drew | refine Ext.trans ?_ (by assumption))))⟩
end Go.Proofs.Ytnfodkhfoegnaaa

namespace Go.Proofs.Ytnfodkhfoegnaaa
open Go.RowKit
set_option linter.unusedSimpArgs false
set_option linter.unusedVariables false

set_option maxRecDepth 100000 in
set_option maxHeartbeats 8000000 in
theorem iGwyOk_c (m : Mp) (xs : List Row) (a : Option Addr) (n c : Nat) (w : World) (hx : Re w (.sl sRow) [.slice a n c] (.l (xs.map Row.dat))) (hn : n ≤ 1048576) :
    Calls Try.prog 56 #[.agg #[.int .i64 m.c, .int .i64 m.w], .agg #[.slice a n c]] w fun e w' => e = .returned (.bool (gwyOk m xs)) ∧ Ext w w' := by
  have HX := hid hx
  clear hx
  go_enter Try.func56, Try.ntmps56
  try go_wp2_with (first
      | fail
      | (
        with_reducible refine wp_region_mix (by kernel_rfl) (by decide +kernel) ?_
        repeat (first
          | (refine mix_pure rfl ?_; (first | go_big_quiet_skip | (go_big_quiet_want; go_big_quiet_op; go_big_quiet_on)); refine wpQuiet_nil ?_)
          | (refine mix_skip (by rfl) ?_; (try simp only [Act.put, List.setIfInBounds_toArray, List.set_cons_zero, List.set_cons_succ]))
          | (refine mix_mk rfl (by rfl) (fun K hK => ?_); (first | (go_simp; first | skip)); (show K _ _); refine hK _ _ (show Ext _ _ from (by ((try simp only [ext_drew]); (try simp only [ext_ext]); repeat (first | exact Ext.refl _ | with_reducible apply Ext.add | with_reducible apply Ext.dr | apply Ext.alloc | apply Ext.ext | apply Ext.drew | refine Ext.trans ?_ (by assumption))))) ?_; clear hK K; (try simp only [Act.put, List.setIfInBounds_toArray, List.set_cons_zero, List.set_cons_succ])))
        refine mix_nil ?_)
      | (
        with_reducible refine wp_region_ext (by kernel_rfl) (by kernel_rfl) ?_
        repeat (first | go_big_quiet_skip | (go_big_quiet_want; go_big_quiet_op; first | go_big_quiet_on | (apply Exists.intro; refine ⟨fun _ => ?_, ?_⟩; (fail); (try rw [h1]); (try rw [h2]); (try rw [h3]); (try rw [h4]); (try rw [p1]); (try rw [p2]); (try rw [p3]); (try rw [p4]); (try rw [r1]); (try rw [r2]); (try rw [r3]); (try rw [r4]); (try rw [r5]); (try rw [r6]); (try rw [q3]); (try rw [q4]); (try rw [hp]); (try rw [hq]); go_big_quiet_on)))
        refine wpQuiet_nil ?_
        rintro _ ⟨tq, rfl⟩))
  go_loopw [10] (fun i wr => ∃ k : Nat, k ≤ n ∧ i = .int .i64 k ∧ allI (gwyAt m xs) 0 (xs.take k) = true ∧ Ext ((w.alloc (Obj.cells #[.int .i64 m.c, .int .i64 m.w] 35)).alloc (Obj.cells #[.slice a n c] 59)) wr) (fun i _ => n - (intOf i).toNat)
  case atStart => exact ⟨0, Nat.zero_le _, rfl, rfl, (by ((try simp only [ext_drew]); (try simp only [ext_ext]); repeat (first | exact Ext.refl _ | with_reducible apply Ext.add | with_reducible apply Ext.dr | apply Ext.alloc | apply Ext.ext | apply Ext.drew | refine Ext.trans ?_ (by assumption))))⟩
  case round =>
    obtain ⟨k, hk, rfl, hal, t', rfl⟩ := hrel
    have HA := hid hal
    clear hal
    by_cases hlt : k < n
    · obtain ⟨x, b, o, hxk, rfl, hb, f0, f1, f2, f3, f4, f5, f6, f7, f8, f9⟩ := at_Row HX.out hlt
      have HK := hid hxk
      clear hxk
      have hb1 : b ≤ w.heap.size := Nat.le_of_lt hb
      rcases Nat.eq_zero_or_pos k with hk0 | hk0
      · have HZ := hid hk0
        have hz : ¬ (0 : Int) < (k : Int) := by omega
        have hz1 : ¬ 0 < k := by omega
        clear hk0
        rcases (show x.busy = true ∨ x.busy = false by cases x.busy <;> simp) with hbz | hbz
        · have r5 : x.busy = true := hbz
          cases r1 : inB x.who 1 9 with
          | false =>
            have E := hid (show gwyAll m xs = false from allI_fail (p := gwyAt m xs) HK.out (by (unfold gwyAt gwyRow rowNum rowOrd ordZ; rw [ordAt_nul HZ.out]; (try simp only [decide_eq_true_eq, decide_eq_false_iff_not, Int.not_le] at hq); simp [*])))
            try go_wp2_with (first
                | (go_at_call 79; refine (isWalker_c _ _).mono ?_; rintro e w' ⟨rfl, rfl⟩) | (go_at_call 43; refine (hasCell_c _ _ _).mono ?_; rintro e w' ⟨rfl, t, rfl⟩) | (go_at_call 42; refine (in_c _ _ _ _).mono ?_; rintro e w' ⟨rfl, rfl⟩) | (go_at_call 45; refine (iOrdOk_c _ _).mono ?_; rintro e w' ⟨rfl, t, rfl⟩)
                | (
                  with_reducible refine wp_region_mix (by kernel_rfl) (by decide +kernel) ?_
                  repeat (first
                    | (refine mix_pure rfl ?_; (first | go_big_quiet_skip | (go_big_quiet_want; go_big_quiet_op; go_big_quiet_on)); refine wpQuiet_nil ?_)
                    | (refine mix_skip (by rfl) ?_; (try simp only [Act.put, List.setIfInBounds_toArray, List.set_cons_zero, List.set_cons_succ]))
                    | (refine mix_mk rfl (by rfl) (fun K hK => ?_); (first | (go_simp; first | (go_at_call 79; refine (isWalker_c _ _).mono ?_; rintro e w' ⟨rfl, rfl⟩) | (go_at_call 43; refine (hasCell_c _ _ _).mono ?_; rintro e w' ⟨rfl, t, rfl⟩) | (go_at_call 42; refine (in_c _ _ _ _).mono ?_; rintro e w' ⟨rfl, rfl⟩) | (go_at_call 45; refine (iOrdOk_c _ _).mono ?_; rintro e w' ⟨rfl, t, rfl⟩) | skip)); (show K _ _); refine hK _ _ (show Ext _ _ from (by ((try simp only [ext_drew]); (try simp only [ext_ext]); repeat (first | exact Ext.refl _ | with_reducible apply Ext.add | with_reducible apply Ext.dr | apply Ext.alloc | apply Ext.ext | apply Ext.drew | refine Ext.trans ?_ (by assumption))))) ?_; clear hK K; (try simp only [Act.put, List.setIfInBounds_toArray, List.set_cons_zero, List.set_cons_succ])))
                  refine mix_nil ?_)
                | (
                  with_reducible refine wp_region_ext (by kernel_rfl) (by kernel_rfl) ?_
                  repeat (first | go_big_quiet_skip | (go_big_quiet_want; go_big_quiet_op; first | go_big_quiet_on | (apply Exists.intro; refine ⟨fun _ => ?_, ?_⟩; ((first | (go_at_call 79; first | exact quiet_same (isWalker_c _ _) | exact quiet_same2 (isWalker_c _ _)) | (go_at_call 43; first | exact quiet_call (hasCell_c _ _ _) | exact quiet_call2 (hasCell_c _ _ _)) | (go_at_call 42; first | exact quiet_same (in_c _ _ _ _) | exact quiet_same2 (in_c _ _ _ _)) | (go_at_call 45; first | exact quiet_call (iOrdOk_c _ _) | exact quiet_call2 (iOrdOk_c _ _)))); (try rw [h1]); (try rw [h2]); (try rw [h3]); (try rw [h4]); (try rw [p1]); (try rw [p2]); (try rw [p3]); (try rw [p4]); (try rw [r1]); (try rw [r2]); (try rw [r3]); (try rw [r4]); (try rw [r5]); (try rw [r6]); (try rw [q3]); (try rw [q4]); (try rw [hp]); (try rw [hq]); go_big_quiet_on)))
                  refine wpQuiet_nil ?_
                  rintro _ ⟨tq, rfl⟩))
            go_ret
            exact ⟨ret_bool (by rw [gwyOk, E.out]; rfl), (by ((try simp only [ext_drew]); (try simp only [ext_ext]); repeat (first | exact Ext.refl _ | with_reducible apply Ext.add | with_reducible apply Ext.dr | apply Ext.alloc | apply Ext.ext | apply Ext.drew | refine Ext.trans ?_ (by assumption))))⟩
          | true =>
            cases r2 : inB x.cell 0 (wrap64 (m.c - 1)) with
            | false =>
              have E := hid (show gwyAll m xs = false from allI_fail (p := gwyAt m xs) HK.out (by (unfold gwyAt gwyRow rowNum rowOrd ordZ; rw [ordAt_nul HZ.out]; (try simp only [decide_eq_true_eq, decide_eq_false_iff_not, Int.not_le] at hq); simp [*])))
              try go_wp2_with (first
                  | (go_at_call 79; refine (isWalker_c _ _).mono ?_; rintro e w' ⟨rfl, rfl⟩) | (go_at_call 43; refine (hasCell_c _ _ _).mono ?_; rintro e w' ⟨rfl, t, rfl⟩) | (go_at_call 42; refine (in_c _ _ _ _).mono ?_; rintro e w' ⟨rfl, rfl⟩) | (go_at_call 45; refine (iOrdOk_c _ _).mono ?_; rintro e w' ⟨rfl, t, rfl⟩)
                  | (
                    with_reducible refine wp_region_mix (by kernel_rfl) (by decide +kernel) ?_
                    repeat (first
                      | (refine mix_pure rfl ?_; (first | go_big_quiet_skip | (go_big_quiet_want; go_big_quiet_op; go_big_quiet_on)); refine wpQuiet_nil ?_)
                      | (refine mix_skip (by rfl) ?_; (try simp only [Act.put, List.setIfInBounds_toArray, List.set_cons_zero, List.set_cons_succ]))
                      | (refine mix_mk rfl (by rfl) (fun K hK => ?_); (first | (go_simp; first | (go_at_call 79; refine (isWalker_c _ _).mono ?_; rintro e w' ⟨rfl, rfl⟩) | (go_at_call 43; refine (hasCell_c _ _ _).mono ?_; rintro e w' ⟨rfl, t, rfl⟩) | (go_at_call 42; refine (in_c _ _ _ _).mono ?_; rintro e w' ⟨rfl, rfl⟩) | (go_at_call 45; refine (iOrdOk_c _ _).mono ?_; rintro e w' ⟨rfl, t, rfl⟩) | skip)); (show K _ _); refine hK _ _ (show Ext _ _ from (by ((try simp only [ext_drew]); (try simp only [ext_ext]); repeat (first | exact Ext.refl _ | with_reducible apply Ext.add | with_reducible apply Ext.dr | apply Ext.alloc | apply Ext.ext | apply Ext.drew | refine Ext.trans ?_ (by assumption))))) ?_; clear hK K; (try simp only [Act.put, List.setIfInBounds_toArray, List.set_cons_zero, List.set_cons_succ])))
                    refine mix_nil ?_)
                  | (
                    with_reducible refine wp_region_ext (by kernel_rfl) (by kernel_rfl) ?_
                    repeat (first | go_big_quiet_skip | (go_big_quiet_want; go_big_quiet_op; first | go_big_quiet_on | (apply Exists.intro; refine ⟨fun _ => ?_, ?_⟩; ((first | (go_at_call 79; first | exact quiet_same (isWalker_c _ _) | exact quiet_same2 (isWalker_c _ _)) | (go_at_call 43; first | exact quiet_call (hasCell_c _ _ _) | exact quiet_call2 (hasCell_c _ _ _)) | (go_at_call 42; first | exact quiet_same (in_c _ _ _ _) | exact quiet_same2 (in_c _ _ _ _)) | (go_at_call 45; first | exact quiet_call (iOrdOk_c _ _) | exact quiet_call2 (iOrdOk_c _ _)))); (try rw [h1]); (try rw [h2]); (try rw [h3]); (try rw [h4]); (try rw [p1]); (try rw [p2]); (try rw [p3]); (try rw [p4]); (try rw [r1]); (try rw [r2]); (try rw [r3]); (try rw [r4]); (try rw [r5]); (try rw [r6]); (try rw [q3]); (try rw [q4]); (try rw [hp]); (try rw [hq]); go_big_quiet_on)))
                    refine wpQuiet_nil ?_
                    rintro _ ⟨tq, rfl⟩))
              go_ret
              exact ⟨ret_bool (by rw [gwyOk, E.out]; rfl), (by ((try simp only [ext_drew]); (try simp only [ext_ext]); repeat (first | exact Ext.refl _ | with_reducible apply Ext.add | with_reducible apply Ext.dr | apply Ext.alloc | apply Ext.ext | apply Ext.drew | refine Ext.trans ?_ (by assumption))))⟩
            | true =>
              cases r3 : inB x.seq 0 900 with
              | false =>
                have E := hid (show gwyAll m xs = false from allI_fail (p := gwyAt m xs) HK.out (by (unfold gwyAt gwyRow rowNum rowOrd ordZ; rw [ordAt_nul HZ.out]; (try simp only [decide_eq_true_eq, decide_eq_false_iff_not, Int.not_le] at hq); simp [*])))
                try go_wp2_with (first
                    | (go_at_call 79; refine (isWalker_c _ _).mono ?_; rintro e w' ⟨rfl, rfl⟩) | (go_at_call 43; refine (hasCell_c _ _ _).mono ?_; rintro e w' ⟨rfl, t, rfl⟩) | (go_at_call 42; refine (in_c _ _ _ _).mono ?_; rintro e w' ⟨rfl, rfl⟩) | (go_at_call 45; refine (iOrdOk_c _ _).mono ?_; rintro e w' ⟨rfl, t, rfl⟩)
                    | (
                      with_reducible refine wp_region_mix (by kernel_rfl) (by decide +kernel) ?_
                      repeat (first
                        | (refine mix_pure rfl ?_; (first | go_big_quiet_skip | (go_big_quiet_want; go_big_quiet_op; go_big_quiet_on)); refine wpQuiet_nil ?_)
                        | (refine mix_skip (by rfl) ?_; (try simp only [Act.put, List.setIfInBounds_toArray, List.set_cons_zero, List.set_cons_succ]))
                        | (refine mix_mk rfl (by rfl) (fun K hK => ?_); (first | (go_simp; first | (go_at_call 79; refine (isWalker_c _ _).mono ?_; rintro e w' ⟨rfl, rfl⟩) | (go_at_call 43; refine (hasCell_c _ _ _).mono ?_; rintro e w' ⟨rfl, t, rfl⟩) | (go_at_call 42; refine (in_c _ _ _ _).mono ?_; rintro e w' ⟨rfl, rfl⟩) | (go_at_call 45; refine (iOrdOk_c _ _).mono ?_; rintro e w' ⟨rfl, t, rfl⟩) | skip)); (show K _ _); refine hK _ _ (show Ext _ _ from (by ((try simp only [ext_drew]); (try simp only [ext_ext]); repeat (first | exact Ext.refl _ | with_reducible apply Ext.add | with_reducible apply Ext.dr | apply Ext.alloc | apply Ext.ext | apply Ext.drew | refine Ext.trans ?_ (by assumption))))) ?_; clear hK K; (try simp only [Act.put, List.setIfInBounds_toArray, List.set_cons_zero, List.set_cons_succ])))
                      refine mix_nil ?_)
                    | (
                      with_reducible refine wp_region_ext (by kernel_rfl) (by kernel_rfl) ?_
                      repeat (first | go_big_quiet_skip | (go_big_quiet_want; go_big_quiet_op; first | go_big_quiet_on | (apply Exists.intro; refine ⟨fun _ => ?_, ?_⟩; ((first | (go_at_call 79; first | exact quiet_same (isWalker_c _ _) | exact quiet_same2 (isWalker_c _ _)) | (go_at_call 43; first | exact quiet_call (hasCell_c _ _ _) | exact quiet_call2 (hasCell_c _ _ _)) | (go_at_call 42; first | exact quiet_same (in_c _ _ _ _) | exact quiet_same2 (in_c _ _ _ _)) | (go_at_call 45; first | exact quiet_call (iOrdOk_c _ _) | exact quiet_call2 (iOrdOk_c _ _)))); (try rw [h1]); (try rw [h2]); (try rw [h3]); (try rw [h4]); (try rw [p1]); (try rw [p2]); (try rw [p3]); (try rw [p4]); (try rw [r1]); (try rw [r2]); (try rw [r3]); (try rw [r4]); (try rw [r5]); (try rw [r6]); (try rw [q3]); (try rw [q4]); (try rw [hp]); (try rw [hq]); go_big_quiet_on)))
                      refine wpQuiet_nil ?_
                      rintro _ ⟨tq, rfl⟩))
                go_ret
                exact ⟨ret_bool (by rw [gwyOk, E.out]; rfl), (by ((try simp only [ext_drew]); (try simp only [ext_ext]); repeat (first | exact Ext.refl _ | with_reducible apply Ext.add | with_reducible apply Ext.dr | apply Ext.alloc | apply Ext.ext | apply Ext.drew | refine Ext.trans ?_ (by assumption))))⟩
              | true =>
                obtain ⟨s1, s2⟩ := inB_iff.1 r3
                cases r4 : inB x.code 0 9 with
                | false =>
                  have E := hid (show gwyAll m xs = false from allI_fail (p := gwyAt m xs) HK.out (by (unfold gwyAt gwyRow rowNum rowOrd ordZ; rw [ordAt_nul HZ.out]; (try simp only [decide_eq_true_eq, decide_eq_false_iff_not, Int.not_le] at hq); simp [*])))
                  try go_wp2_with (first
                      | (go_at_call 79; refine (isWalker_c _ _).mono ?_; rintro e w' ⟨rfl, rfl⟩) | (go_at_call 43; refine (hasCell_c _ _ _).mono ?_; rintro e w' ⟨rfl, t, rfl⟩) | (go_at_call 42; refine (in_c _ _ _ _).mono ?_; rintro e w' ⟨rfl, rfl⟩) | (go_at_call 45; refine (iOrdOk_c _ _).mono ?_; rintro e w' ⟨rfl, t, rfl⟩)
                      | (
                        with_reducible refine wp_region_mix (by kernel_rfl) (by decide +kernel) ?_
                        repeat (first
                          | (refine mix_pure rfl ?_; (first | go_big_quiet_skip | (go_big_quiet_want; go_big_quiet_op; go_big_quiet_on)); refine wpQuiet_nil ?_)
                          | (refine mix_skip (by rfl) ?_; (try simp only [Act.put, List.setIfInBounds_toArray, List.set_cons_zero, List.set_cons_succ]))
                          | (refine mix_mk rfl (by rfl) (fun K hK => ?_); (first | (go_simp; first | (go_at_call 79; refine (isWalker_c _ _).mono ?_; rintro e w' ⟨rfl, rfl⟩) | (go_at_call 43; refine (hasCell_c _ _ _).mono ?_; rintro e w' ⟨rfl, t, rfl⟩) | (go_at_call 42; refine (in_c _ _ _ _).mono ?_; rintro e w' ⟨rfl, rfl⟩) | (go_at_call 45; refine (iOrdOk_c _ _).mono ?_; rintro e w' ⟨rfl, t, rfl⟩) | skip)); (show K _ _); refine hK _ _ (show Ext _ _ from (by ((try simp only [ext_drew]); (try simp only [ext_ext]); repeat (first | exact Ext.refl _ | with_reducible apply Ext.add | with_reducible apply Ext.dr | apply Ext.alloc | apply Ext.ext | apply Ext.drew | refine Ext.trans ?_ (by assumption))))) ?_; clear hK K; (try simp only [Act.put, List.setIfInBounds_toArray, List.set_cons_zero, List.set_cons_succ])))
                        refine mix_nil ?_)
                      | (
                        with_reducible refine wp_region_ext (by kernel_rfl) (by kernel_rfl) ?_
                        repeat (first | go_big_quiet_skip | (go_big_quiet_want; go_big_quiet_op; first | go_big_quiet_on | (apply Exists.intro; refine ⟨fun _ => ?_, ?_⟩; ((first | (go_at_call 79; first | exact quiet_same (isWalker_c _ _) | exact quiet_same2 (isWalker_c _ _)) | (go_at_call 43; first | exact quiet_call (hasCell_c _ _ _) | exact quiet_call2 (hasCell_c _ _ _)) | (go_at_call 42; first | exact quiet_same (in_c _ _ _ _) | exact quiet_same2 (in_c _ _ _ _)) | (go_at_call 45; first | exact quiet_call (iOrdOk_c _ _) | exact quiet_call2 (iOrdOk_c _ _)))); (try rw [h1]); (try rw [h2]); (try rw [h3]); (try rw [h4]); (try rw [p1]); (try rw [p2]); (try rw [p3]); (try rw [p4]); (try rw [r1]); (try rw [r2]); (try rw [r3]); (try rw [r4]); (try rw [r5]); (try rw [r6]); (try rw [q3]); (try rw [q4]); (try rw [hp]); (try rw [hq]); go_big_quiet_on)))
                        refine wpQuiet_nil ?_
                        rintro _ ⟨tq, rfl⟩))
                  go_ret
                  exact ⟨ret_bool (by rw [gwyOk, E.out]; rfl), (by ((try simp only [ext_drew]); (try simp only [ext_ext]); repeat (first | exact Ext.refl _ | with_reducible apply Ext.add | with_reducible apply Ext.dr | apply Ext.alloc | apply Ext.ext | apply Ext.drew | refine Ext.trans ?_ (by assumption))))⟩
                | true =>
                  cases r6 : ordOk x.ord with
                  | false =>
                    have E := hid (show gwyAll m xs = false from allI_fail (p := gwyAt m xs) HK.out (by (unfold gwyAt gwyRow rowNum rowOrd ordZ; rw [ordAt_nul HZ.out]; (try simp only [decide_eq_true_eq, decide_eq_false_iff_not, Int.not_le] at hq); simp [*])))
                    try go_wp2_with (first
                        | (go_at_call 79; refine (isWalker_c _ _).mono ?_; rintro e w' ⟨rfl, rfl⟩) | (go_at_call 43; refine (hasCell_c _ _ _).mono ?_; rintro e w' ⟨rfl, t, rfl⟩) | (go_at_call 42; refine (in_c _ _ _ _).mono ?_; rintro e w' ⟨rfl, rfl⟩) | (go_at_call 45; refine (iOrdOk_c _ _).mono ?_; rintro e w' ⟨rfl, t, rfl⟩)
                        | (
                          with_reducible refine wp_region_mix (by kernel_rfl) (by decide +kernel) ?_
                          repeat (first
                            | (refine mix_pure rfl ?_; (first | go_big_quiet_skip | (go_big_quiet_want; go_big_quiet_op; go_big_quiet_on)); refine wpQuiet_nil ?_)
                            | (refine mix_skip (by rfl) ?_; (try simp only [Act.put, List.setIfInBounds_toArray, List.set_cons_zero, List.set_cons_succ]))
                            | (refine mix_mk rfl (by rfl) (fun K hK => ?_); (first | (go_simp; first | (go_at_call 79; refine (isWalker_c _ _).mono ?_; rintro e w' ⟨rfl, rfl⟩) | (go_at_call 43; refine (hasCell_c _ _ _).mono ?_; rintro e w' ⟨rfl, t, rfl⟩) | (go_at_call 42; refine (in_c _ _ _ _).mono ?_; rintro e w' ⟨rfl, rfl⟩) | (go_at_call 45; refine (iOrdOk_c _ _).mono ?_; rintro e w' ⟨rfl, t, rfl⟩) | skip)); (show K _ _); refine hK _ _ (show Ext _ _ from (by ((try simp only [ext_drew]); (try simp only [ext_ext]); repeat (first | exact Ext.refl _ | with_reducible apply Ext.add | with_reducible apply Ext.dr | apply Ext.alloc | apply Ext.ext | apply Ext.drew | refine Ext.trans ?_ (by assumption))))) ?_; clear hK K; (try simp only [Act.put, List.setIfInBounds_toArray, List.set_cons_zero, List.set_cons_succ])))
                          refine mix_nil ?_)
                        | (
                          with_reducible refine wp_region_ext (by kernel_rfl) (by kernel_rfl) ?_
                          repeat (first | go_big_quiet_skip | (go_big_quiet_want; go_big_quiet_op; first | go_big_quiet_on | (apply Exists.intro; refine ⟨fun _ => ?_, ?_⟩; ((first | (go_at_call 79; first | exact quiet_same (isWalker_c _ _) | exact quiet_same2 (isWalker_c _ _)) | (go_at_call 43; first | exact quiet_call (hasCell_c _ _ _) | exact quiet_call2 (hasCell_c _ _ _)) | (go_at_call 42; first | exact quiet_same (in_c _ _ _ _) | exact quiet_same2 (in_c _ _ _ _)) | (go_at_call 45; first | exact quiet_call (iOrdOk_c _ _) | exact quiet_call2 (iOrdOk_c _ _)))); (try rw [h1]); (try rw [h2]); (try rw [h3]); (try rw [h4]); (try rw [p1]); (try rw [p2]); (try rw [p3]); (try rw [p4]); (try rw [r1]); (try rw [r2]); (try rw [r3]); (try rw [r4]); (try rw [r5]); (try rw [r6]); (try rw [q3]); (try rw [q4]); (try rw [hp]); (try rw [hq]); go_big_quiet_on)))
                          refine wpQuiet_nil ?_
                          rintro _ ⟨tq, rfl⟩))
                    go_ret
                    exact ⟨ret_bool (by rw [gwyOk, E.out]; rfl), (by ((try simp only [ext_drew]); (try simp only [ext_ext]); repeat (first | exact Ext.refl _ | with_reducible apply Ext.add | with_reducible apply Ext.dr | apply Ext.alloc | apply Ext.ext | apply Ext.drew | refine Ext.trans ?_ (by assumption))))⟩
                  | true =>
                    cases h1 : (x.ord.who == x.who) with
                    | false =>
                      have q1 := bne_of_f h1
                      have E := hid (show gwyAll m xs = false from allI_fail (p := gwyAt m xs) HK.out (by (unfold gwyAt gwyRow rowNum rowOrd ordZ; rw [ordAt_nul HZ.out]; (try simp only [decide_eq_true_eq, decide_eq_false_iff_not, Int.not_le] at hq); simp [*])))
                      try go_wp2_with (first
                          | (go_at_call 79; refine (isWalker_c _ _).mono ?_; rintro e w' ⟨rfl, rfl⟩) | (go_at_call 43; refine (hasCell_c _ _ _).mono ?_; rintro e w' ⟨rfl, t, rfl⟩) | (go_at_call 42; refine (in_c _ _ _ _).mono ?_; rintro e w' ⟨rfl, rfl⟩) | (go_at_call 45; refine (iOrdOk_c _ _).mono ?_; rintro e w' ⟨rfl, t, rfl⟩)
                          | (
                            with_reducible refine wp_region_mix (by kernel_rfl) (by decide +kernel) ?_
                            repeat (first
                              | (refine mix_pure rfl ?_; (first | go_big_quiet_skip | (go_big_quiet_want; go_big_quiet_op; go_big_quiet_on)); refine wpQuiet_nil ?_)
                              | (refine mix_skip (by rfl) ?_; (try simp only [Act.put, List.setIfInBounds_toArray, List.set_cons_zero, List.set_cons_succ]))
                              | (refine mix_mk rfl (by rfl) (fun K hK => ?_); (first | (go_simp; first | (go_at_call 79; refine (isWalker_c _ _).mono ?_; rintro e w' ⟨rfl, rfl⟩) | (go_at_call 43; refine (hasCell_c _ _ _).mono ?_; rintro e w' ⟨rfl, t, rfl⟩) | (go_at_call 42; refine (in_c _ _ _ _).mono ?_; rintro e w' ⟨rfl, rfl⟩) | (go_at_call 45; refine (iOrdOk_c _ _).mono ?_; rintro e w' ⟨rfl, t, rfl⟩) | skip)); (show K _ _); refine hK _ _ (show Ext _ _ from (by ((try simp only [ext_drew]); (try simp only [ext_ext]); repeat (first | exact Ext.refl _ | with_reducible apply Ext.add | with_reducible apply Ext.dr | apply Ext.alloc | apply Ext.ext | apply Ext.drew | refine Ext.trans ?_ (by assumption))))) ?_; clear hK K; (try simp only [Act.put, List.setIfInBounds_toArray, List.set_cons_zero, List.set_cons_succ])))
                            refine mix_nil ?_)
                          | (
                            with_reducible refine wp_region_ext (by kernel_rfl) (by kernel_rfl) ?_
                            repeat (first | go_big_quiet_skip | (go_big_quiet_want; go_big_quiet_op; first | go_big_quiet_on | (apply Exists.intro; refine ⟨fun _ => ?_, ?_⟩; ((first | (go_at_call 79; first | exact quiet_same (isWalker_c _ _) | exact quiet_same2 (isWalker_c _ _)) | (go_at_call 43; first | exact quiet_call (hasCell_c _ _ _) | exact quiet_call2 (hasCell_c _ _ _)) | (go_at_call 42; first | exact quiet_same (in_c _ _ _ _) | exact quiet_same2 (in_c _ _ _ _)) | (go_at_call 45; first | exact quiet_call (iOrdOk_c _ _) | exact quiet_call2 (iOrdOk_c _ _)))); (try rw [h1]); (try rw [h2]); (try rw [h3]); (try rw [h4]); (try rw [p1]); (try rw [p2]); (try rw [p3]); (try rw [p4]); (try rw [r1]); (try rw [r2]); (try rw [r3]); (try rw [r4]); (try rw [r5]); (try rw [r6]); (try rw [q3]); (try rw [q4]); (try rw [hp]); (try rw [hq]); go_big_quiet_on)))
                            refine wpQuiet_nil ?_
                            rintro _ ⟨tq, rfl⟩))
                      go_ret
                      exact ⟨ret_bool (by rw [gwyOk, E.out]; rfl), (by ((try simp only [ext_drew]); (try simp only [ext_ext]); repeat (first | exact Ext.refl _ | with_reducible apply Ext.add | with_reducible apply Ext.dr | apply Ext.alloc | apply Ext.ext | apply Ext.drew | refine Ext.trans ?_ (by assumption))))⟩
                    | true =>
                      have q1 := bne_of_t h1
                      cases h2 : (x.ord.seq == x.seq + 1) with
                      | false =>
                        have q2 := bne_of_f h2
                        have E := hid (show gwyAll m xs = false from allI_fail (p := gwyAt m xs) HK.out (by (unfold gwyAt gwyRow rowNum rowOrd ordZ; rw [ordAt_nul HZ.out]; (try simp only [decide_eq_true_eq, decide_eq_false_iff_not, Int.not_le] at hq); simp [*])))
                        try go_wp2_with (first
                            | (go_at_call 79; refine (isWalker_c _ _).mono ?_; rintro e w' ⟨rfl, rfl⟩) | (go_at_call 43; refine (hasCell_c _ _ _).mono ?_; rintro e w' ⟨rfl, t, rfl⟩) | (go_at_call 42; refine (in_c _ _ _ _).mono ?_; rintro e w' ⟨rfl, rfl⟩) | (go_at_call 45; refine (iOrdOk_c _ _).mono ?_; rintro e w' ⟨rfl, t, rfl⟩)
                            | (
                              with_reducible refine wp_region_mix (by kernel_rfl) (by decide +kernel) ?_
                              repeat (first
                                | (refine mix_pure rfl ?_; (first | go_big_quiet_skip | (go_big_quiet_want; go_big_quiet_op; go_big_quiet_on)); refine wpQuiet_nil ?_)
                                | (refine mix_skip (by rfl) ?_; (try simp only [Act.put, List.setIfInBounds_toArray, List.set_cons_zero, List.set_cons_succ]))
                                | (refine mix_mk rfl (by rfl) (fun K hK => ?_); (first | (go_simp; first | (go_at_call 79; refine (isWalker_c _ _).mono ?_; rintro e w' ⟨rfl, rfl⟩) | (go_at_call 43; refine (hasCell_c _ _ _).mono ?_; rintro e w' ⟨rfl, t, rfl⟩) | (go_at_call 42; refine (in_c _ _ _ _).mono ?_; rintro e w' ⟨rfl, rfl⟩) | (go_at_call 45; refine (iOrdOk_c _ _).mono ?_; rintro e w' ⟨rfl, t, rfl⟩) | skip)); (show K _ _); refine hK _ _ (show Ext _ _ from (by ((try simp only [ext_drew]); (try simp only [ext_ext]); repeat (first | exact Ext.refl _ | with_reducible apply Ext.add | with_reducible apply Ext.dr | apply Ext.alloc | apply Ext.ext | apply Ext.drew | refine Ext.trans ?_ (by assumption))))) ?_; clear hK K; (try simp only [Act.put, List.setIfInBounds_toArray, List.set_cons_zero, List.set_cons_succ])))
                              refine mix_nil ?_)
                            | (
                              with_reducible refine wp_region_ext (by kernel_rfl) (by kernel_rfl) ?_
                              repeat (first | go_big_quiet_skip | (go_big_quiet_want; go_big_quiet_op; first | go_big_quiet_on | (apply Exists.intro; refine ⟨fun _ => ?_, ?_⟩; ((first | (go_at_call 79; first | exact quiet_same (isWalker_c _ _) | exact quiet_same2 (isWalker_c _ _)) | (go_at_call 43; first | exact quiet_call (hasCell_c _ _ _) | exact quiet_call2 (hasCell_c _ _ _)) | (go_at_call 42; first | exact quiet_same (in_c _ _ _ _) | exact quiet_same2 (in_c _ _ _ _)) | (go_at_call 45; first | exact quiet_call (iOrdOk_c _ _) | exact quiet_call2 (iOrdOk_c _ _)))); (try rw [h1]); (try rw [h2]); (try rw [h3]); (try rw [h4]); (try rw [p1]); (try rw [p2]); (try rw [p3]); (try rw [p4]); (try rw [r1]); (try rw [r2]); (try rw [r3]); (try rw [r4]); (try rw [r5]); (try rw [r6]); (try rw [q3]); (try rw [q4]); (try rw [hp]); (try rw [hq]); go_big_quiet_on)))
                              refine wpQuiet_nil ?_
                              rintro _ ⟨tq, rfl⟩))
                        go_ret
                        exact ⟨ret_bool (by rw [gwyOk, E.out]; rfl), (by ((try simp only [ext_drew]); (try simp only [ext_ext]); repeat (first | exact Ext.refl _ | with_reducible apply Ext.add | with_reducible apply Ext.dr | apply Ext.alloc | apply Ext.ext | apply Ext.drew | refine Ext.trans ?_ (by assumption))))⟩
                      | true =>
                        have q2 := bne_of_t h2
                        have HB := hid (allI_step (p := gwyAt m xs) HK.out HA.out (by (unfold gwyAt gwyRow rowNum rowOrd ordZ; rw [ordAt_nul HZ.out]; (try simp only [decide_eq_true_eq, decide_eq_false_iff_not, Int.not_le] at hq); simp [*])))
                        try go_wp2_with (first
                            | (go_at_call 79; refine (isWalker_c _ _).mono ?_; rintro e w' ⟨rfl, rfl⟩) | (go_at_call 43; refine (hasCell_c _ _ _).mono ?_; rintro e w' ⟨rfl, t, rfl⟩) | (go_at_call 42; refine (in_c _ _ _ _).mono ?_; rintro e w' ⟨rfl, rfl⟩) | (go_at_call 45; refine (iOrdOk_c _ _).mono ?_; rintro e w' ⟨rfl, t, rfl⟩)
                            | (
                              with_reducible refine wp_region_mix (by kernel_rfl) (by decide +kernel) ?_
                              repeat (first
                                | (refine mix_pure rfl ?_; (first | go_big_quiet_skip | (go_big_quiet_want; go_big_quiet_op; go_big_quiet_on)); refine wpQuiet_nil ?_)
                                | (refine mix_skip (by rfl) ?_; (try simp only [Act.put, List.setIfInBounds_toArray, List.set_cons_zero, List.set_cons_succ]))
                                | (refine mix_mk rfl (by rfl) (fun K hK => ?_); (first | (go_simp; first | (go_at_call 79; refine (isWalker_c _ _).mono ?_; rintro e w' ⟨rfl, rfl⟩) | (go_at_call 43; refine (hasCell_c _ _ _).mono ?_; rintro e w' ⟨rfl, t, rfl⟩) | (go_at_call 42; refine (in_c _ _ _ _).mono ?_; rintro e w' ⟨rfl, rfl⟩) | (go_at_call 45; refine (iOrdOk_c _ _).mono ?_; rintro e w' ⟨rfl, t, rfl⟩) | skip)); (show K _ _); refine hK _ _ (show Ext _ _ from (by ((try simp only [ext_drew]); (try simp only [ext_ext]); repeat (first | exact Ext.refl _ | with_reducible apply Ext.add | with_reducible apply Ext.dr | apply Ext.alloc | apply Ext.ext | apply Ext.drew | refine Ext.trans ?_ (by assumption))))) ?_; clear hK K; (try simp only [Act.put, List.setIfInBounds_toArray, List.set_cons_zero, List.set_cons_succ])))
                              refine mix_nil ?_)
                            | (
                              with_reducible refine wp_region_ext (by kernel_rfl) (by kernel_rfl) ?_
                              repeat (first | go_big_quiet_skip | (go_big_quiet_want; go_big_quiet_op; first | go_big_quiet_on | (apply Exists.intro; refine ⟨fun _ => ?_, ?_⟩; ((first | (go_at_call 79; first | exact quiet_same (isWalker_c _ _) | exact quiet_same2 (isWalker_c _ _)) | (go_at_call 43; first | exact quiet_call (hasCell_c _ _ _) | exact quiet_call2 (hasCell_c _ _ _)) | (go_at_call 42; first | exact quiet_same (in_c _ _ _ _) | exact quiet_same2 (in_c _ _ _ _)) | (go_at_call 45; first | exact quiet_call (iOrdOk_c _ _) | exact quiet_call2 (iOrdOk_c _ _)))); (try rw [h1]); (try rw [h2]); (try rw [h3]); (try rw [h4]); (try rw [p1]); (try rw [p2]); (try rw [p3]); (try rw [p4]); (try rw [r1]); (try rw [r2]); (try rw [r3]); (try rw [r4]); (try rw [r5]); (try rw [r6]); (try rw [q3]); (try rw [q4]); (try rw [hp]); (try rw [hq]); go_big_quiet_on)))
                              refine wpQuiet_nil ?_
                              rintro _ ⟨tq, rfl⟩))
                        go_roundw
                        case rel => exact ⟨k + 1, by omega, by go_num, HB.out, (by ((try simp only [ext_drew]); (try simp only [ext_ext]); repeat (first | exact Ext.refl _ | with_reducible apply Ext.add | with_reducible apply Ext.dr | apply Ext.alloc | apply Ext.ext | apply Ext.drew | refine Ext.trans ?_ (by assumption))))⟩
                        case measure => simp [intOf]; omega
        · have r5 : x.busy = false := hbz
          cases r1 : inB x.who 1 9 with
          | false =>
            have E := hid (show gwyAll m xs = false from allI_fail (p := gwyAt m xs) HK.out (by (unfold gwyAt gwyRow rowNum rowOrd ordZ; rw [ordAt_nul HZ.out]; (try simp only [decide_eq_true_eq, decide_eq_false_iff_not, Int.not_le] at hq); simp [*])))
            try go_wp2_with (first
                | (go_at_call 79; refine (isWalker_c _ _).mono ?_; rintro e w' ⟨rfl, rfl⟩) | (go_at_call 43; refine (hasCell_c _ _ _).mono ?_; rintro e w' ⟨rfl, t, rfl⟩) | (go_at_call 42; refine (in_c _ _ _ _).mono ?_; rintro e w' ⟨rfl, rfl⟩) | (go_at_call 45; refine (iOrdOk_c _ _).mono ?_; rintro e w' ⟨rfl, t, rfl⟩)
                | (
                  with_reducible refine wp_region_mix (by kernel_rfl) (by decide +kernel) ?_
                  repeat (first
                    | (refine mix_pure rfl ?_; (first | go_big_quiet_skip | (go_big_quiet_want; go_big_quiet_op; go_big_quiet_on)); refine wpQuiet_nil ?_)
                    | (refine mix_skip (by rfl) ?_; (try simp only [Act.put, List.setIfInBounds_toArray, List.set_cons_zero, List.set_cons_succ]))
                    | (refine mix_mk rfl (by rfl) (fun K hK => ?_); (first | (go_simp; first | (go_at_call 79; refine (isWalker_c _ _).mono ?_; rintro e w' ⟨rfl, rfl⟩) | (go_at_call 43; refine (hasCell_c _ _ _).mono ?_; rintro e w' ⟨rfl, t, rfl⟩) | (go_at_call 42; refine (in_c _ _ _ _).mono ?_; rintro e w' ⟨rfl, rfl⟩) | (go_at_call 45; refine (iOrdOk_c _ _).mono ?_; rintro e w' ⟨rfl, t, rfl⟩) | skip)); (show K _ _); refine hK _ _ (show Ext _ _ from (by ((try simp only [ext_drew]); (try simp only [ext_ext]); repeat (first | exact Ext.refl _ | with_reducible apply Ext.add | with_reducible apply Ext.dr | apply Ext.alloc | apply Ext.ext | apply Ext.drew | refine Ext.trans ?_ (by assumption))))) ?_; clear hK K; (try simp only [Act.put, List.setIfInBounds_toArray, List.set_cons_zero, List.set_cons_succ])))
                  refine mix_nil ?_)
                | (
                  with_reducible refine wp_region_ext (by kernel_rfl) (by kernel_rfl) ?_
                  repeat (first | go_big_quiet_skip | (go_big_quiet_want; go_big_quiet_op; first | go_big_quiet_on | (apply Exists.intro; refine ⟨fun _ => ?_, ?_⟩; ((first | (go_at_call 79; first | exact quiet_same (isWalker_c _ _) | exact quiet_same2 (isWalker_c _ _)) | (go_at_call 43; first | exact quiet_call (hasCell_c _ _ _) | exact quiet_call2 (hasCell_c _ _ _)) | (go_at_call 42; first | exact quiet_same (in_c _ _ _ _) | exact quiet_same2 (in_c _ _ _ _)) | (go_at_call 45; first | exact quiet_call (iOrdOk_c _ _) | exact quiet_call2 (iOrdOk_c _ _)))); (try rw [h1]); (try rw [h2]); (try rw [h3]); (try rw [h4]); (try rw [p1]); (try rw [p2]); (try rw [p3]); (try rw [p4]); (try rw [r1]); (try rw [r2]); (try rw [r3]); (try rw [r4]); (try rw [r5]); (try rw [r6]); (try rw [q3]); (try rw [q4]); (try rw [hp]); (try rw [hq]); go_big_quiet_on)))
                  refine wpQuiet_nil ?_
                  rintro _ ⟨tq, rfl⟩))
            go_ret
            exact ⟨ret_bool (by rw [gwyOk, E.out]; rfl), (by ((try simp only [ext_drew]); (try simp only [ext_ext]); repeat (first | exact Ext.refl _ | with_reducible apply Ext.add | with_reducible apply Ext.dr | apply Ext.alloc | apply Ext.ext | apply Ext.drew | refine Ext.trans ?_ (by assumption))))⟩
          | true =>
            cases r2 : inB x.cell 0 (wrap64 (m.c - 1)) with
            | false =>
              have E := hid (show gwyAll m xs = false from allI_fail (p := gwyAt m xs) HK.out (by (unfold gwyAt gwyRow rowNum rowOrd ordZ; rw [ordAt_nul HZ.out]; (try simp only [decide_eq_true_eq, decide_eq_false_iff_not, Int.not_le] at hq); simp [*])))
              try go_wp2_with (first
                  | (go_at_call 79; refine (isWalker_c _ _).mono ?_; rintro e w' ⟨rfl, rfl⟩) | (go_at_call 43; refine (hasCell_c _ _ _).mono ?_; rintro e w' ⟨rfl, t, rfl⟩) | (go_at_call 42; refine (in_c _ _ _ _).mono ?_; rintro e w' ⟨rfl, rfl⟩) | (go_at_call 45; refine (iOrdOk_c _ _).mono ?_; rintro e w' ⟨rfl, t, rfl⟩)
                  | (
                    with_reducible refine wp_region_mix (by kernel_rfl) (by decide +kernel) ?_
                    repeat (first
                      | (refine mix_pure rfl ?_; (first | go_big_quiet_skip | (go_big_quiet_want; go_big_quiet_op; go_big_quiet_on)); refine wpQuiet_nil ?_)
                      | (refine mix_skip (by rfl) ?_; (try simp only [Act.put, List.setIfInBounds_toArray, List.set_cons_zero, List.set_cons_succ]))
                      | (refine mix_mk rfl (by rfl) (fun K hK => ?_); (first | (go_simp; first | (go_at_call 79; refine (isWalker_c _ _).mono ?_; rintro e w' ⟨rfl, rfl⟩) | (go_at_call 43; refine (hasCell_c _ _ _).mono ?_; rintro e w' ⟨rfl, t, rfl⟩) | (go_at_call 42; refine (in_c _ _ _ _).mono ?_; rintro e w' ⟨rfl, rfl⟩) | (go_at_call 45; refine (iOrdOk_c _ _).mono ?_; rintro e w' ⟨rfl, t, rfl⟩) | skip)); (show K _ _); refine hK _ _ (show Ext _ _ from (by ((try simp only [ext_drew]); (try simp only [ext_ext]); repeat (first | exact Ext.refl _ | with_reducible apply Ext.add | with_reducible apply Ext.dr | apply Ext.alloc | apply Ext.ext | apply Ext.drew | refine Ext.trans ?_ (by assumption))))) ?_; clear hK K; (try simp only [Act.put, List.setIfInBounds_toArray, List.set_cons_zero, List.set_cons_succ])))
                    refine mix_nil ?_)
                  | (
                    with_reducible refine wp_region_ext (by kernel_rfl) (by kernel_rfl) ?_
                    repeat (first | go_big_quiet_skip | (go_big_quiet_want; go_big_quiet_op; first | go_big_quiet_on | (apply Exists.intro; refine ⟨fun _ => ?_, ?_⟩; ((first | (go_at_call 79; first | exact quiet_same (isWalker_c _ _) | exact quiet_same2 (isWalker_c _ _)) | (go_at_call 43; first | exact quiet_call (hasCell_c _ _ _) | exact quiet_call2 (hasCell_c _ _ _)) | (go_at_call 42; first | exact quiet_same (in_c _ _ _ _) | exact quiet_same2 (in_c _ _ _ _)) | (go_at_call 45; first | exact quiet_call (iOrdOk_c _ _) | exact quiet_call2 (iOrdOk_c _ _)))); (try rw [h1]); (try rw [h2]); (try rw [h3]); (try rw [h4]); (try rw [p1]); (try rw [p2]); (try rw [p3]); (try rw [p4]); (try rw [r1]); (try rw [r2]); (try rw [r3]); (try rw [r4]); (try rw [r5]); (try rw [r6]); (try rw [q3]); (try rw [q4]); (try rw [hp]); (try rw [hq]); go_big_quiet_on)))
                    refine wpQuiet_nil ?_
                    rintro _ ⟨tq, rfl⟩))
              go_ret
              exact ⟨ret_bool (by rw [gwyOk, E.out]; rfl), (by ((try simp only [ext_drew]); (try simp only [ext_ext]); repeat (first | exact Ext.refl _ | with_reducible apply Ext.add | with_reducible apply Ext.dr | apply Ext.alloc | apply Ext.ext | apply Ext.drew | refine Ext.trans ?_ (by assumption))))⟩
            | true =>
              cases r3 : inB x.seq 0 900 with
              | false =>
                have E := hid (show gwyAll m xs = false from allI_fail (p := gwyAt m xs) HK.out (by (unfold gwyAt gwyRow rowNum rowOrd ordZ; rw [ordAt_nul HZ.out]; (try simp only [decide_eq_true_eq, decide_eq_false_iff_not, Int.not_le] at hq); simp [*])))
                try go_wp2_with (first
                    | (go_at_call 79; refine (isWalker_c _ _).mono ?_; rintro e w' ⟨rfl, rfl⟩) | (go_at_call 43; refine (hasCell_c _ _ _).mono ?_; rintro e w' ⟨rfl, t, rfl⟩) | (go_at_call 42; refine (in_c _ _ _ _).mono ?_; rintro e w' ⟨rfl, rfl⟩) | (go_at_call 45; refine (iOrdOk_c _ _).mono ?_; rintro e w' ⟨rfl, t, rfl⟩)
                    | (
                      with_reducible refine wp_region_mix (by kernel_rfl) (by decide +kernel) ?_
                      repeat (first
                        | (refine mix_pure rfl ?_; (first | go_big_quiet_skip | (go_big_quiet_want; go_big_quiet_op; go_big_quiet_on)); refine wpQuiet_nil ?_)
                        | (refine mix_skip (by rfl) ?_; (try simp only [Act.put, List.setIfInBounds_toArray, List.set_cons_zero, List.set_cons_succ]))
                        | (refine mix_mk rfl (by rfl) (fun K hK => ?_); (first | (go_simp; first | (go_at_call 79; refine (isWalker_c _ _).mono ?_; rintro e w' ⟨rfl, rfl⟩) | (go_at_call 43; refine (hasCell_c _ _ _).mono ?_; rintro e w' ⟨rfl, t, rfl⟩) | (go_at_call 42; refine (in_c _ _ _ _).mono ?_; rintro e w' ⟨rfl, rfl⟩) | (go_at_call 45; refine (iOrdOk_c _ _).mono ?_; rintro e w' ⟨rfl, t, rfl⟩) | skip)); (show K _ _); refine hK _ _ (show Ext _ _ from (by ((try simp only [ext_drew]); (try simp only [ext_ext]); repeat (first | exact Ext.refl _ | with_reducible apply Ext.add | with_reducible apply Ext.dr | apply Ext.alloc | apply Ext.ext | apply Ext.drew | refine Ext.trans ?_ (by assumption))))) ?_; clear hK K; (try simp only [Act.put, List.setIfInBounds_toArray, List.set_cons_zero, List.set_cons_succ])))
                      refine mix_nil ?_)
                    | (
                      with_reducible refine wp_region_ext (by kernel_rfl) (by kernel_rfl) ?_
                      repeat (first | go_big_quiet_skip | (go_big_quiet_want; go_big_quiet_op; first | go_big_quiet_on | (apply Exists.intro; refine ⟨fun _ => ?_, ?_⟩; ((first | (go_at_call 79; first | exact quiet_same (isWalker_c _ _) | exact quiet_same2 (isWalker_c _ _)) | (go_at_call 43; first | exact quiet_call (hasCell_c _ _ _) | exact quiet_call2 (hasCell_c _ _ _)) | (go_at_call 42; first | exact quiet_same (in_c _ _ _ _) | exact quiet_same2 (in_c _ _ _ _)) | (go_at_call 45; first | exact quiet_call (iOrdOk_c _ _) | exact quiet_call2 (iOrdOk_c _ _)))); (try rw [h1]); (try rw [h2]); (try rw [h3]); (try rw [h4]); (try rw [p1]); (try rw [p2]); (try rw [p3]); (try rw [p4]); (try rw [r1]); (try rw [r2]); (try rw [r3]); (try rw [r4]); (try rw [r5]); (try rw [r6]); (try rw [q3]); (try rw [q4]); (try rw [hp]); (try rw [hq]); go_big_quiet_on)))
                      refine wpQuiet_nil ?_
                      rintro _ ⟨tq, rfl⟩))
                go_ret
                exact ⟨ret_bool (by rw [gwyOk, E.out]; rfl), (by ((try simp only [ext_drew]); (try simp only [ext_ext]); repeat (first | exact Ext.refl _ | with_reducible apply Ext.add | with_reducible apply Ext.dr | apply Ext.alloc | apply Ext.ext | apply Ext.drew | refine Ext.trans ?_ (by assumption))))⟩
              | true =>
                obtain ⟨s1, s2⟩ := inB_iff.1 r3
                cases r4 : inB x.code 0 9 with
                | false =>
                  have E := hid (show gwyAll m xs = false from allI_fail (p := gwyAt m xs) HK.out (by (unfold gwyAt gwyRow rowNum rowOrd ordZ; rw [ordAt_nul HZ.out]; (try simp only [decide_eq_true_eq, decide_eq_false_iff_not, Int.not_le] at hq); simp [*])))
                  try go_wp2_with (first
                      | (go_at_call 79; refine (isWalker_c _ _).mono ?_; rintro e w' ⟨rfl, rfl⟩) | (go_at_call 43; refine (hasCell_c _ _ _).mono ?_; rintro e w' ⟨rfl, t, rfl⟩) | (go_at_call 42; refine (in_c _ _ _ _).mono ?_; rintro e w' ⟨rfl, rfl⟩) | (go_at_call 45; refine (iOrdOk_c _ _).mono ?_; rintro e w' ⟨rfl, t, rfl⟩)
                      | (
                        with_reducible refine wp_region_mix (by kernel_rfl) (by decide +kernel) ?_
                        repeat (first
                          | (refine mix_pure rfl ?_; (first | go_big_quiet_skip | (go_big_quiet_want; go_big_quiet_op; go_big_quiet_on)); refine wpQuiet_nil ?_)
                          | (refine mix_skip (by rfl) ?_; (try simp only [Act.put, List.setIfInBounds_toArray, List.set_cons_zero, List.set_cons_succ]))
                          | (refine mix_mk rfl (by rfl) (fun K hK => ?_); (first | (go_simp; first | (go_at_call 79; refine (isWalker_c _ _).mono ?_; rintro e w' ⟨rfl, rfl⟩) | (go_at_call 43; refine (hasCell_c _ _ _).mono ?_; rintro e w' ⟨rfl, t, rfl⟩) | (go_at_call 42; refine (in_c _ _ _ _).mono ?_; rintro e w' ⟨rfl, rfl⟩) | (go_at_call 45; refine (iOrdOk_c _ _).mono ?_; rintro e w' ⟨rfl, t, rfl⟩) | skip)); (show K _ _); refine hK _ _ (show Ext _ _ from (by ((try simp only [ext_drew]); (try simp only [ext_ext]); repeat (first | exact Ext.refl _ | with_reducible apply Ext.add | with_reducible apply Ext.dr | apply Ext.alloc | apply Ext.ext | apply Ext.drew | refine Ext.trans ?_ (by assumption))))) ?_; clear hK K; (try simp only [Act.put, List.setIfInBounds_toArray, List.set_cons_zero, List.set_cons_succ])))
                        refine mix_nil ?_)
                      | (
                        with_reducible refine wp_region_ext (by kernel_rfl) (by kernel_rfl) ?_
                        repeat (first | go_big_quiet_skip | (go_big_quiet_want; go_big_quiet_op; first | go_big_quiet_on | (apply Exists.intro; refine ⟨fun _ => ?_, ?_⟩; ((first | (go_at_call 79; first | exact quiet_same (isWalker_c _ _) | exact quiet_same2 (isWalker_c _ _)) | (go_at_call 43; first | exact quiet_call (hasCell_c _ _ _) | exact quiet_call2 (hasCell_c _ _ _)) | (go_at_call 42; first | exact quiet_same (in_c _ _ _ _) | exact quiet_same2 (in_c _ _ _ _)) | (go_at_call 45; first | exact quiet_call (iOrdOk_c _ _) | exact quiet_call2 (iOrdOk_c _ _)))); (try rw [h1]); (try rw [h2]); (try rw [h3]); (try rw [h4]); (try rw [p1]); (try rw [p2]); (try rw [p3]); (try rw [p4]); (try rw [r1]); (try rw [r2]); (try rw [r3]); (try rw [r4]); (try rw [r5]); (try rw [r6]); (try rw [q3]); (try rw [q4]); (try rw [hp]); (try rw [hq]); go_big_quiet_on)))
                        refine wpQuiet_nil ?_
                        rintro _ ⟨tq, rfl⟩))
                  go_ret
                  exact ⟨ret_bool (by rw [gwyOk, E.out]; rfl), (by ((try simp only [ext_drew]); (try simp only [ext_ext]); repeat (first | exact Ext.refl _ | with_reducible apply Ext.add | with_reducible apply Ext.dr | apply Ext.alloc | apply Ext.ext | apply Ext.drew | refine Ext.trans ?_ (by assumption))))⟩
                | true =>
                  cases hz0 : ((x.ord.who == 0) && ((x.ord.seq == 0) && ((x.ord.kind == 0) && ((x.ord.to_ == 0) && (x.ord.n == 0))))) with
                  | false =>
                    have E := hid (show gwyAll m xs = false from allI_fail (p := gwyAt m xs) HK.out (by (unfold gwyAt gwyRow rowNum rowOrd ordZ; rw [ordAt_nul HZ.out]; (try simp only [decide_eq_true_eq, decide_eq_false_iff_not, Int.not_le] at hq); simp [*])))
                    try go_wp2_with (first
                        | (go_at_call 79; refine (isWalker_c _ _).mono ?_; rintro e w' ⟨rfl, rfl⟩) | (go_at_call 43; refine (hasCell_c _ _ _).mono ?_; rintro e w' ⟨rfl, t, rfl⟩) | (go_at_call 42; refine (in_c _ _ _ _).mono ?_; rintro e w' ⟨rfl, rfl⟩) | (go_at_call 45; refine (iOrdOk_c _ _).mono ?_; rintro e w' ⟨rfl, t, rfl⟩)
                        | (
                          with_reducible refine wp_region_mix (by kernel_rfl) (by decide +kernel) ?_
                          repeat (first
                            | (refine mix_pure rfl ?_; (first | go_big_quiet_skip | (go_big_quiet_want; go_big_quiet_op; go_big_quiet_on)); refine wpQuiet_nil ?_)
                            | (refine mix_skip (by rfl) ?_; (try simp only [Act.put, List.setIfInBounds_toArray, List.set_cons_zero, List.set_cons_succ]))
                            | (refine mix_mk rfl (by rfl) (fun K hK => ?_); (first | (go_simp; first | (go_at_call 79; refine (isWalker_c _ _).mono ?_; rintro e w' ⟨rfl, rfl⟩) | (go_at_call 43; refine (hasCell_c _ _ _).mono ?_; rintro e w' ⟨rfl, t, rfl⟩) | (go_at_call 42; refine (in_c _ _ _ _).mono ?_; rintro e w' ⟨rfl, rfl⟩) | (go_at_call 45; refine (iOrdOk_c _ _).mono ?_; rintro e w' ⟨rfl, t, rfl⟩) | skip)); (show K _ _); refine hK _ _ (show Ext _ _ from (by ((try simp only [ext_drew]); (try simp only [ext_ext]); repeat (first | exact Ext.refl _ | with_reducible apply Ext.add | with_reducible apply Ext.dr | apply Ext.alloc | apply Ext.ext | apply Ext.drew | refine Ext.trans ?_ (by assumption))))) ?_; clear hK K; (try simp only [Act.put, List.setIfInBounds_toArray, List.set_cons_zero, List.set_cons_succ])))
                          refine mix_nil ?_)
                        | (
                          with_reducible refine wp_region_ext (by kernel_rfl) (by kernel_rfl) ?_
                          repeat (first | go_big_quiet_skip | (go_big_quiet_want; go_big_quiet_op; first | go_big_quiet_on | (apply Exists.intro; refine ⟨fun _ => ?_, ?_⟩; ((first | (go_at_call 79; first | exact quiet_same (isWalker_c _ _) | exact quiet_same2 (isWalker_c _ _)) | (go_at_call 43; first | exact quiet_call (hasCell_c _ _ _) | exact quiet_call2 (hasCell_c _ _ _)) | (go_at_call 42; first | exact quiet_same (in_c _ _ _ _) | exact quiet_same2 (in_c _ _ _ _)) | (go_at_call 45; first | exact quiet_call (iOrdOk_c _ _) | exact quiet_call2 (iOrdOk_c _ _)))); (try rw [h1]); (try rw [h2]); (try rw [h3]); (try rw [h4]); (try rw [p1]); (try rw [p2]); (try rw [p3]); (try rw [p4]); (try rw [r1]); (try rw [r2]); (try rw [r3]); (try rw [r4]); (try rw [r5]); (try rw [r6]); (try rw [q3]); (try rw [q4]); (try rw [hp]); (try rw [hq]); go_big_quiet_on)))
                          refine wpQuiet_nil ?_
                          rintro _ ⟨tq, rfl⟩))
                    go_ret
                    exact ⟨ret_bool (by rw [gwyOk, E.out]; rfl), (by ((try simp only [ext_drew]); (try simp only [ext_ext]); repeat (first | exact Ext.refl _ | with_reducible apply Ext.add | with_reducible apply Ext.dr | apply Ext.alloc | apply Ext.ext | apply Ext.drew | refine Ext.trans ?_ (by assumption))))⟩
                  | true =>
                    have HB := hid (allI_step (p := gwyAt m xs) HK.out HA.out (by (unfold gwyAt gwyRow rowNum rowOrd ordZ; rw [ordAt_nul HZ.out]; (try simp only [decide_eq_true_eq, decide_eq_false_iff_not, Int.not_le] at hq); simp [*])))
                    try go_wp2_with (first
                        | (go_at_call 79; refine (isWalker_c _ _).mono ?_; rintro e w' ⟨rfl, rfl⟩) | (go_at_call 43; refine (hasCell_c _ _ _).mono ?_; rintro e w' ⟨rfl, t, rfl⟩) | (go_at_call 42; refine (in_c _ _ _ _).mono ?_; rintro e w' ⟨rfl, rfl⟩) | (go_at_call 45; refine (iOrdOk_c _ _).mono ?_; rintro e w' ⟨rfl, t, rfl⟩)
                        | (
                          with_reducible refine wp_region_mix (by kernel_rfl) (by decide +kernel) ?_
                          repeat (first
                            | (refine mix_pure rfl ?_; (first | go_big_quiet_skip | (go_big_quiet_want; go_big_quiet_op; go_big_quiet_on)); refine wpQuiet_nil ?_)
                            | (refine mix_skip (by rfl) ?_; (try simp only [Act.put, List.setIfInBounds_toArray, List.set_cons_zero, List.set_cons_succ]))
                            | (refine mix_mk rfl (by rfl) (fun K hK => ?_); (first | (go_simp; first | (go_at_call 79; refine (isWalker_c _ _).mono ?_; rintro e w' ⟨rfl, rfl⟩) | (go_at_call 43; refine (hasCell_c _ _ _).mono ?_; rintro e w' ⟨rfl, t, rfl⟩) | (go_at_call 42; refine (in_c _ _ _ _).mono ?_; rintro e w' ⟨rfl, rfl⟩) | (go_at_call 45; refine (iOrdOk_c _ _).mono ?_; rintro e w' ⟨rfl, t, rfl⟩) | skip)); (show K _ _); refine hK _ _ (show Ext _ _ from (by ((try simp only [ext_drew]); (try simp only [ext_ext]); repeat (first | exact Ext.refl _ | with_reducible apply Ext.add | with_reducible apply Ext.dr | apply Ext.alloc | apply Ext.ext | apply Ext.drew | refine Ext.trans ?_ (by assumption))))) ?_; clear hK K; (try simp only [Act.put, List.setIfInBounds_toArray, List.set_cons_zero, List.set_cons_succ])))
                          refine mix_nil ?_)
                        | (
                          with_reducible refine wp_region_ext (by kernel_rfl) (by kernel_rfl) ?_
                          repeat (first | go_big_quiet_skip | (go_big_quiet_want; go_big_quiet_op; first | go_big_quiet_on | (apply Exists.intro; refine ⟨fun _ => ?_, ?_⟩; ((first | (go_at_call 79; first | exact quiet_same (isWalker_c _ _) | exact quiet_same2 (isWalker_c _ _)) | (go_at_call 43; first | exact quiet_call (hasCell_c _ _ _) | exact quiet_call2 (hasCell_c _ _ _)) | (go_at_call 42; first | exact quiet_same (in_c _ _ _ _) | exact quiet_same2 (in_c _ _ _ _)) | (go_at_call 45; first | exact quiet_call (iOrdOk_c _ _) | exact quiet_call2 (iOrdOk_c _ _)))); (try rw [h1]); (try rw [h2]); (try rw [h3]); (try rw [h4]); (try rw [p1]); (try rw [p2]); (try rw [p3]); (try rw [p4]); (try rw [r1]); (try rw [r2]); (try rw [r3]); (try rw [r4]); (try rw [r5]); (try rw [r6]); (try rw [q3]); (try rw [q4]); (try rw [hp]); (try rw [hq]); go_big_quiet_on)))
                          refine wpQuiet_nil ?_
                          rintro _ ⟨tq, rfl⟩))
                    go_roundw
                    case rel => exact ⟨k + 1, by omega, by go_num, HB.out, (by ((try simp only [ext_drew]); (try simp only [ext_ext]); repeat (first | exact Ext.refl _ | with_reducible apply Ext.add | with_reducible apply Ext.dr | apply Ext.alloc | apply Ext.ext | apply Ext.drew | refine Ext.trans ?_ (by assumption))))⟩
                    case measure => simp [intOf]; omega
      · obtain ⟨j, hkj⟩ : ∃ j, k = j + 1 := ⟨k - 1, by omega⟩
        have HJ := hid hkj
        have hpos : (0 : Int) < (k : Int) := by omega
        have hpos1 : 0 < k := by omega
        have hpre : (k : Int) - 1 = (j : Int) := by omega
        clear hk0 hkj
        obtain ⟨y, b2, o2, hyk, hab, hb2, g0, g1, g2, g3, g4, g5, g6, g7, g8, g9⟩ := at_Row HX.out (show j < n by have := HJ.out; omega)
        simp only [Option.some.injEq, Addr.mk.injEq, and_true] at hab
        obtain ⟨rfl, rfl⟩ := hab
        have HY := hid hyk
        clear hyk
        rcases (show x.busy = true ∨ x.busy = false by cases x.busy <;> simp) with hbz | hbz
        · have r5 : x.busy = true := hbz
          cases r1 : inB x.who 1 9 with
          | false =>
            have E := hid (show gwyAll m xs = false from allI_fail (p := gwyAt m xs) HK.out (by (unfold gwyAt gwyRow rowNum rowOrd ordZ; rw [ordAt_pos HJ.out HY.out]; (try simp only [decide_eq_true_eq, decide_eq_false_iff_not, Int.not_le] at hq); simp [*])))
            try go_wp2_with (first
                | (go_at_call 79; refine (isWalker_c _ _).mono ?_; rintro e w' ⟨rfl, rfl⟩) | (go_at_call 43; refine (hasCell_c _ _ _).mono ?_; rintro e w' ⟨rfl, t, rfl⟩) | (go_at_call 42; refine (in_c _ _ _ _).mono ?_; rintro e w' ⟨rfl, rfl⟩) | (go_at_call 45; refine (iOrdOk_c _ _).mono ?_; rintro e w' ⟨rfl, t, rfl⟩)
                | (
                  with_reducible refine wp_region_mix (by kernel_rfl) (by decide +kernel) ?_
                  repeat (first
                    | (refine mix_pure rfl ?_; (first | go_big_quiet_skip | (go_big_quiet_want; go_big_quiet_op; go_big_quiet_on)); refine wpQuiet_nil ?_)
                    | (refine mix_skip (by rfl) ?_; (try simp only [Act.put, List.setIfInBounds_toArray, List.set_cons_zero, List.set_cons_succ]))
                    | (refine mix_mk rfl (by rfl) (fun K hK => ?_); (first | (go_simp; first | (go_at_call 79; refine (isWalker_c _ _).mono ?_; rintro e w' ⟨rfl, rfl⟩) | (go_at_call 43; refine (hasCell_c _ _ _).mono ?_; rintro e w' ⟨rfl, t, rfl⟩) | (go_at_call 42; refine (in_c _ _ _ _).mono ?_; rintro e w' ⟨rfl, rfl⟩) | (go_at_call 45; refine (iOrdOk_c _ _).mono ?_; rintro e w' ⟨rfl, t, rfl⟩) | skip)); (show K _ _); refine hK _ _ (show Ext _ _ from (by ((try simp only [ext_drew]); (try simp only [ext_ext]); repeat (first | exact Ext.refl _ | with_reducible apply Ext.add | with_reducible apply Ext.dr | apply Ext.alloc | apply Ext.ext | apply Ext.drew | refine Ext.trans ?_ (by assumption))))) ?_; clear hK K; (try simp only [Act.put, List.setIfInBounds_toArray, List.set_cons_zero, List.set_cons_succ])))
                  refine mix_nil ?_)
                | (
                  with_reducible refine wp_region_ext (by kernel_rfl) (by kernel_rfl) ?_
                  repeat (first | go_big_quiet_skip | (go_big_quiet_want; go_big_quiet_op; first | go_big_quiet_on | (apply Exists.intro; refine ⟨fun _ => ?_, ?_⟩; ((first | (go_at_call 79; first | exact quiet_same (isWalker_c _ _) | exact quiet_same2 (isWalker_c _ _)) | (go_at_call 43; first | exact quiet_call (hasCell_c _ _ _) | exact quiet_call2 (hasCell_c _ _ _)) | (go_at_call 42; first | exact quiet_same (in_c _ _ _ _) | exact quiet_same2 (in_c _ _ _ _)) | (go_at_call 45; first | exact quiet_call (iOrdOk_c _ _) | exact quiet_call2 (iOrdOk_c _ _)))); (try rw [h1]); (try rw [h2]); (try rw [h3]); (try rw [h4]); (try rw [p1]); (try rw [p2]); (try rw [p3]); (try rw [p4]); (try rw [r1]); (try rw [r2]); (try rw [r3]); (try rw [r4]); (try rw [r5]); (try rw [r6]); (try rw [q3]); (try rw [q4]); (try rw [hp]); (try rw [hq]); go_big_quiet_on)))
                  refine wpQuiet_nil ?_
                  rintro _ ⟨tq, rfl⟩))
            go_ret
            exact ⟨ret_bool (by rw [gwyOk, E.out]; rfl), (by ((try simp only [ext_drew]); (try simp only [ext_ext]); repeat (first | exact Ext.refl _ | with_reducible apply Ext.add | with_reducible apply Ext.dr | apply Ext.alloc | apply Ext.ext | apply Ext.drew | refine Ext.trans ?_ (by assumption))))⟩
          | true =>
            cases hq : decide (x.who ≤ y.who) with
            | true =>
              have E := hid (show gwyAll m xs = false from allI_fail (p := gwyAt m xs) HK.out (by (unfold gwyAt gwyRow rowNum rowOrd ordZ; rw [ordAt_pos HJ.out HY.out]; (try simp only [decide_eq_true_eq, decide_eq_false_iff_not, Int.not_le] at hq); simp [*])))
              try go_wp2_with (first
                  | (go_at_call 79; refine (isWalker_c _ _).mono ?_; rintro e w' ⟨rfl, rfl⟩) | (go_at_call 43; refine (hasCell_c _ _ _).mono ?_; rintro e w' ⟨rfl, t, rfl⟩) | (go_at_call 42; refine (in_c _ _ _ _).mono ?_; rintro e w' ⟨rfl, rfl⟩) | (go_at_call 45; refine (iOrdOk_c _ _).mono ?_; rintro e w' ⟨rfl, t, rfl⟩)
                  | (
                    with_reducible refine wp_region_mix (by kernel_rfl) (by decide +kernel) ?_
                    repeat (first
                      | (refine mix_pure rfl ?_; (first | go_big_quiet_skip | (go_big_quiet_want; go_big_quiet_op; go_big_quiet_on)); refine wpQuiet_nil ?_)
                      | (refine mix_skip (by rfl) ?_; (try simp only [Act.put, List.setIfInBounds_toArray, List.set_cons_zero, List.set_cons_succ]))
                      | (refine mix_mk rfl (by rfl) (fun K hK => ?_); (first | (go_simp; first | (go_at_call 79; refine (isWalker_c _ _).mono ?_; rintro e w' ⟨rfl, rfl⟩) | (go_at_call 43; refine (hasCell_c _ _ _).mono ?_; rintro e w' ⟨rfl, t, rfl⟩) | (go_at_call 42; refine (in_c _ _ _ _).mono ?_; rintro e w' ⟨rfl, rfl⟩) | (go_at_call 45; refine (iOrdOk_c _ _).mono ?_; rintro e w' ⟨rfl, t, rfl⟩) | skip)); (show K _ _); refine hK _ _ (show Ext _ _ from (by ((try simp only [ext_drew]); (try simp only [ext_ext]); repeat (first | exact Ext.refl _ | with_reducible apply Ext.add | with_reducible apply Ext.dr | apply Ext.alloc | apply Ext.ext | apply Ext.drew | refine Ext.trans ?_ (by assumption))))) ?_; clear hK K; (try simp only [Act.put, List.setIfInBounds_toArray, List.set_cons_zero, List.set_cons_succ])))
                    refine mix_nil ?_)
                  | (
                    with_reducible refine wp_region_ext (by kernel_rfl) (by kernel_rfl) ?_
                    repeat (first | go_big_quiet_skip | (go_big_quiet_want; go_big_quiet_op; first | go_big_quiet_on | (apply Exists.intro; refine ⟨fun _ => ?_, ?_⟩; ((first | (go_at_call 79; first | exact quiet_same (isWalker_c _ _) | exact quiet_same2 (isWalker_c _ _)) | (go_at_call 43; first | exact quiet_call (hasCell_c _ _ _) | exact quiet_call2 (hasCell_c _ _ _)) | (go_at_call 42; first | exact quiet_same (in_c _ _ _ _) | exact quiet_same2 (in_c _ _ _ _)) | (go_at_call 45; first | exact quiet_call (iOrdOk_c _ _) | exact quiet_call2 (iOrdOk_c _ _)))); (try rw [h1]); (try rw [h2]); (try rw [h3]); (try rw [h4]); (try rw [p1]); (try rw [p2]); (try rw [p3]); (try rw [p4]); (try rw [r1]); (try rw [r2]); (try rw [r3]); (try rw [r4]); (try rw [r5]); (try rw [r6]); (try rw [q3]); (try rw [q4]); (try rw [hp]); (try rw [hq]); go_big_quiet_on)))
                    refine wpQuiet_nil ?_
                    rintro _ ⟨tq, rfl⟩))
              go_ret
              exact ⟨ret_bool (by rw [gwyOk, E.out]; rfl), (by ((try simp only [ext_drew]); (try simp only [ext_ext]); repeat (first | exact Ext.refl _ | with_reducible apply Ext.add | with_reducible apply Ext.dr | apply Ext.alloc | apply Ext.ext | apply Ext.drew | refine Ext.trans ?_ (by assumption))))⟩
            | false =>
              cases r2 : inB x.cell 0 (wrap64 (m.c - 1)) with
              | false =>
                have E := hid (show gwyAll m xs = false from allI_fail (p := gwyAt m xs) HK.out (by (unfold gwyAt gwyRow rowNum rowOrd ordZ; rw [ordAt_pos HJ.out HY.out]; (try simp only [decide_eq_true_eq, decide_eq_false_iff_not, Int.not_le] at hq); simp [*])))
                try go_wp2_with (first
                    | (go_at_call 79; refine (isWalker_c _ _).mono ?_; rintro e w' ⟨rfl, rfl⟩) | (go_at_call 43; refine (hasCell_c _ _ _).mono ?_; rintro e w' ⟨rfl, t, rfl⟩) | (go_at_call 42; refine (in_c _ _ _ _).mono ?_; rintro e w' ⟨rfl, rfl⟩) | (go_at_call 45; refine (iOrdOk_c _ _).mono ?_; rintro e w' ⟨rfl, t, rfl⟩)
                    | (
                      with_reducible refine wp_region_mix (by kernel_rfl) (by decide +kernel) ?_
                      repeat (first
                        | (refine mix_pure rfl ?_; (first | go_big_quiet_skip | (go_big_quiet_want; go_big_quiet_op; go_big_quiet_on)); refine wpQuiet_nil ?_)
                        | (refine mix_skip (by rfl) ?_; (try simp only [Act.put, List.setIfInBounds_toArray, List.set_cons_zero, List.set_cons_succ]))
                        | (refine mix_mk rfl (by rfl) (fun K hK => ?_); (first | (go_simp; first | (go_at_call 79; refine (isWalker_c _ _).mono ?_; rintro e w' ⟨rfl, rfl⟩) | (go_at_call 43; refine (hasCell_c _ _ _).mono ?_; rintro e w' ⟨rfl, t, rfl⟩) | (go_at_call 42; refine (in_c _ _ _ _).mono ?_; rintro e w' ⟨rfl, rfl⟩) | (go_at_call 45; refine (iOrdOk_c _ _).mono ?_; rintro e w' ⟨rfl, t, rfl⟩) | skip)); (show K _ _); refine hK _ _ (show Ext _ _ from (by ((try simp only [ext_drew]); (try simp only [ext_ext]); repeat (first | exact Ext.refl _ | with_reducible apply Ext.add | with_reducible apply Ext.dr | apply Ext.alloc | apply Ext.ext | apply Ext.drew | refine Ext.trans ?_ (by assumption))))) ?_; clear hK K; (try simp only [Act.put, List.setIfInBounds_toArray, List.set_cons_zero, List.set_cons_succ])))
                      refine mix_nil ?_)
                    | (
                      with_reducible refine wp_region_ext (by kernel_rfl) (by kernel_rfl) ?_
                      repeat (first | go_big_quiet_skip | (go_big_quiet_want; go_big_quiet_op; first | go_big_quiet_on | (apply Exists.intro; refine ⟨fun _ => ?_, ?_⟩; ((first | (go_at_call 79; first | exact quiet_same (isWalker_c _ _) | exact quiet_same2 (isWalker_c _ _)) | (go_at_call 43; first | exact quiet_call (hasCell_c _ _ _) | exact quiet_call2 (hasCell_c _ _ _)) | (go_at_call 42; first | exact quiet_same (in_c _ _ _ _) | exact quiet_same2 (in_c _ _ _ _)) | (go_at_call 45; first | exact quiet_call (iOrdOk_c _ _) | exact quiet_call2 (iOrdOk_c _ _)))); (try rw [h1]); (try rw [h2]); (try rw [h3]); (try rw [h4]); (try rw [p1]); (try rw [p2]); (try rw [p3]); (try rw [p4]); (try rw [r1]); (try rw [r2]); (try rw [r3]); (try rw [r4]); (try rw [r5]); (try rw [r6]); (try rw [q3]); (try rw [q4]); (try rw [hp]); (try rw [hq]); go_big_quiet_on)))
                      refine wpQuiet_nil ?_
                      rintro _ ⟨tq, rfl⟩))
                go_ret
                exact ⟨ret_bool (by rw [gwyOk, E.out]; rfl), (by ((try simp only [ext_drew]); (try simp only [ext_ext]); repeat (first | exact Ext.refl _ | with_reducible apply Ext.add | with_reducible apply Ext.dr | apply Ext.alloc | apply Ext.ext | apply Ext.drew | refine Ext.trans ?_ (by assumption))))⟩
              | true =>
                cases r3 : inB x.seq 0 900 with
                | false =>
                  have E := hid (show gwyAll m xs = false from allI_fail (p := gwyAt m xs) HK.out (by (unfold gwyAt gwyRow rowNum rowOrd ordZ; rw [ordAt_pos HJ.out HY.out]; (try simp only [decide_eq_true_eq, decide_eq_false_iff_not, Int.not_le] at hq); simp [*])))
                  try go_wp2_with (first
                      | (go_at_call 79; refine (isWalker_c _ _).mono ?_; rintro e w' ⟨rfl, rfl⟩) | (go_at_call 43; refine (hasCell_c _ _ _).mono ?_; rintro e w' ⟨rfl, t, rfl⟩) | (go_at_call 42; refine (in_c _ _ _ _).mono ?_; rintro e w' ⟨rfl, rfl⟩) | (go_at_call 45; refine (iOrdOk_c _ _).mono ?_; rintro e w' ⟨rfl, t, rfl⟩)
                      | (
                        with_reducible refine wp_region_mix (by kernel_rfl) (by decide +kernel) ?_
                        repeat (first
                          | (refine mix_pure rfl ?_; (first | go_big_quiet_skip | (go_big_quiet_want; go_big_quiet_op; go_big_quiet_on)); refine wpQuiet_nil ?_)
                          | (refine mix_skip (by rfl) ?_; (try simp only [Act.put, List.setIfInBounds_toArray, List.set_cons_zero, List.set_cons_succ]))
                          | (refine mix_mk rfl (by rfl) (fun K hK => ?_); (first | (go_simp; first | (go_at_call 79; refine (isWalker_c _ _).mono ?_; rintro e w' ⟨rfl, rfl⟩) | (go_at_call 43; refine (hasCell_c _ _ _).mono ?_; rintro e w' ⟨rfl, t, rfl⟩) | (go_at_call 42; refine (in_c _ _ _ _).mono ?_; rintro e w' ⟨rfl, rfl⟩) | (go_at_call 45; refine (iOrdOk_c _ _).mono ?_; rintro e w' ⟨rfl, t, rfl⟩) | skip)); (show K _ _); refine hK _ _ (show Ext _ _ from (by ((try simp only [ext_drew]); (try simp only [ext_ext]); repeat (first | exact Ext.refl _ | with_reducible apply Ext.add | with_reducible apply Ext.dr | apply Ext.alloc | apply Ext.ext | apply Ext.drew | refine Ext.trans ?_ (by assumption))))) ?_; clear hK K; (try simp only [Act.put, List.setIfInBounds_toArray, List.set_cons_zero, List.set_cons_succ])))
                        refine mix_nil ?_)
                      | (
                        with_reducible refine wp_region_ext (by kernel_rfl) (by kernel_rfl) ?_
                        repeat (first | go_big_quiet_skip | (go_big_quiet_want; go_big_quiet_op; first | go_big_quiet_on | (apply Exists.intro; refine ⟨fun _ => ?_, ?_⟩; ((first | (go_at_call 79; first | exact quiet_same (isWalker_c _ _) | exact quiet_same2 (isWalker_c _ _)) | (go_at_call 43; first | exact quiet_call (hasCell_c _ _ _) | exact quiet_call2 (hasCell_c _ _ _)) | (go_at_call 42; first | exact quiet_same (in_c _ _ _ _) | exact quiet_same2 (in_c _ _ _ _)) | (go_at_call 45; first | exact quiet_call (iOrdOk_c _ _) | exact quiet_call2 (iOrdOk_c _ _)))); (try rw [h1]); (try rw [h2]); (try rw [h3]); (try rw [h4]); (try rw [p1]); (try rw [p2]); (try rw [p3]); (try rw [p4]); (try rw [r1]); (try rw [r2]); (try rw [r3]); (try rw [r4]); (try rw [r5]); (try rw [r6]); (try rw [q3]); (try rw [q4]); (try rw [hp]); (try rw [hq]); go_big_quiet_on)))
                        refine wpQuiet_nil ?_
                        rintro _ ⟨tq, rfl⟩))
                  go_ret
                  exact ⟨ret_bool (by rw [gwyOk, E.out]; rfl), (by ((try simp only [ext_drew]); (try simp only [ext_ext]); repeat (first | exact Ext.refl _ | with_reducible apply Ext.add | with_reducible apply Ext.dr | apply Ext.alloc | apply Ext.ext | apply Ext.drew | refine Ext.trans ?_ (by assumption))))⟩
                | true =>
                  obtain ⟨s1, s2⟩ := inB_iff.1 r3
                  cases r4 : inB x.code 0 9 with
                  | false =>
                    have E := hid (show gwyAll m xs = false from allI_fail (p := gwyAt m xs) HK.out (by (unfold gwyAt gwyRow rowNum rowOrd ordZ; rw [ordAt_pos HJ.out HY.out]; (try simp only [decide_eq_true_eq, decide_eq_false_iff_not, Int.not_le] at hq); simp [*])))
                    try go_wp2_with (first
                        | (go_at_call 79; refine (isWalker_c _ _).mono ?_; rintro e w' ⟨rfl, rfl⟩) | (go_at_call 43; refine (hasCell_c _ _ _).mono ?_; rintro e w' ⟨rfl, t, rfl⟩) | (go_at_call 42; refine (in_c _ _ _ _).mono ?_; rintro e w' ⟨rfl, rfl⟩) | (go_at_call 45; refine (iOrdOk_c _ _).mono ?_; rintro e w' ⟨rfl, t, rfl⟩)
                        | (
                          with_reducible refine wp_region_mix (by kernel_rfl) (by decide +kernel) ?_
                          repeat (first
                            | (refine mix_pure rfl ?_; (first | go_big_quiet_skip | (go_big_quiet_want; go_big_quiet_op; go_big_quiet_on)); refine wpQuiet_nil ?_)
                            | (refine mix_skip (by rfl) ?_; (try simp only [Act.put, List.setIfInBounds_toArray, List.set_cons_zero, List.set_cons_succ]))
                            | (refine mix_mk rfl (by rfl) (fun K hK => ?_); (first | (go_simp; first | (go_at_call 79; refine (isWalker_c _ _).mono ?_; rintro e w' ⟨rfl, rfl⟩) | (go_at_call 43; refine (hasCell_c _ _ _).mono ?_; rintro e w' ⟨rfl, t, rfl⟩) | (go_at_call 42; refine (in_c _ _ _ _).mono ?_; rintro e w' ⟨rfl, rfl⟩) | (go_at_call 45; refine (iOrdOk_c _ _).mono ?_; rintro e w' ⟨rfl, t, rfl⟩) | skip)); (show K _ _); refine hK _ _ (show Ext _ _ from (by ((try simp only [ext_drew]); (try simp only [ext_ext]); repeat (first | exact Ext.refl _ | with_reducible apply Ext.add | with_reducible apply Ext.dr | apply Ext.alloc | apply Ext.ext | apply Ext.drew | refine Ext.trans ?_ (by assumption))))) ?_; clear hK K; (try simp only [Act.put, List.setIfInBounds_toArray, List.set_cons_zero, List.set_cons_succ])))
                          refine mix_nil ?_)
                        | (
                          with_reducible refine wp_region_ext (by kernel_rfl) (by kernel_rfl) ?_
                          repeat (first | go_big_quiet_skip | (go_big_quiet_want; go_big_quiet_op; first | go_big_quiet_on | (apply Exists.intro; refine ⟨fun _ => ?_, ?_⟩; ((first | (go_at_call 79; first | exact quiet_same (isWalker_c _ _) | exact quiet_same2 (isWalker_c _ _)) | (go_at_call 43; first | exact quiet_call (hasCell_c _ _ _) | exact quiet_call2 (hasCell_c _ _ _)) | (go_at_call 42; first | exact quiet_same (in_c _ _ _ _) | exact quiet_same2 (in_c _ _ _ _)) | (go_at_call 45; first | exact quiet_call (iOrdOk_c _ _) | exact quiet_call2 (iOrdOk_c _ _)))); (try rw [h1]); (try rw [h2]); (try rw [h3]); (try rw [h4]); (try rw [p1]); (try rw [p2]); (try rw [p3]); (try rw [p4]); (try rw [r1]); (try rw [r2]); (try rw [r3]); (try rw [r4]); (try rw [r5]); (try rw [r6]); (try rw [q3]); (try rw [q4]); (try rw [hp]); (try rw [hq]); go_big_quiet_on)))
                          refine wpQuiet_nil ?_
                          rintro _ ⟨tq, rfl⟩))
                    go_ret
                    exact ⟨ret_bool (by rw [gwyOk, E.out]; rfl), (by ((try simp only [ext_drew]); (try simp only [ext_ext]); repeat (first | exact Ext.refl _ | with_reducible apply Ext.add | with_reducible apply Ext.dr | apply Ext.alloc | apply Ext.ext | apply Ext.drew | refine Ext.trans ?_ (by assumption))))⟩
                  | true =>
                    cases r6 : ordOk x.ord with
                    | false =>
                      have E := hid (show gwyAll m xs = false from allI_fail (p := gwyAt m xs) HK.out (by (unfold gwyAt gwyRow rowNum rowOrd ordZ; rw [ordAt_pos HJ.out HY.out]; (try simp only [decide_eq_true_eq, decide_eq_false_iff_not, Int.not_le] at hq); simp [*])))
                      try go_wp2_with (first
                          | (go_at_call 79; refine (isWalker_c _ _).mono ?_; rintro e w' ⟨rfl, rfl⟩) | (go_at_call 43; refine (hasCell_c _ _ _).mono ?_; rintro e w' ⟨rfl, t, rfl⟩) | (go_at_call 42; refine (in_c _ _ _ _).mono ?_; rintro e w' ⟨rfl, rfl⟩) | (go_at_call 45; refine (iOrdOk_c _ _).mono ?_; rintro e w' ⟨rfl, t, rfl⟩)
                          | (
                            with_reducible refine wp_region_mix (by kernel_rfl) (by decide +kernel) ?_
                            repeat (first
                              | (refine mix_pure rfl ?_; (first | go_big_quiet_skip | (go_big_quiet_want; go_big_quiet_op; go_big_quiet_on)); refine wpQuiet_nil ?_)
                              | (refine mix_skip (by rfl) ?_; (try simp only [Act.put, List.setIfInBounds_toArray, List.set_cons_zero, List.set_cons_succ]))
                              | (refine mix_mk rfl (by rfl) (fun K hK => ?_); (first | (go_simp; first | (go_at_call 79; refine (isWalker_c _ _).mono ?_; rintro e w' ⟨rfl, rfl⟩) | (go_at_call 43; refine (hasCell_c _ _ _).mono ?_; rintro e w' ⟨rfl, t, rfl⟩) | (go_at_call 42; refine (in_c _ _ _ _).mono ?_; rintro e w' ⟨rfl, rfl⟩) | (go_at_call 45; refine (iOrdOk_c _ _).mono ?_; rintro e w' ⟨rfl, t, rfl⟩) | skip)); (show K _ _); refine hK _ _ (show Ext _ _ from (by ((try simp only [ext_drew]); (try simp only [ext_ext]); repeat (first | exact Ext.refl _ | with_reducible apply Ext.add | with_reducible apply Ext.dr | apply Ext.alloc | apply Ext.ext | apply Ext.drew | refine Ext.trans ?_ (by assumption))))) ?_; clear hK K; (try simp only [Act.put, List.setIfInBounds_toArray, List.set_cons_zero, List.set_cons_succ])))
                            refine mix_nil ?_)
                          | (
                            with_reducible refine wp_region_ext (by kernel_rfl) (by kernel_rfl) ?_
                            repeat (first | go_big_quiet_skip | (go_big_quiet_want; go_big_quiet_op; first | go_big_quiet_on | (apply Exists.intro; refine ⟨fun _ => ?_, ?_⟩; ((first | (go_at_call 79; first | exact quiet_same (isWalker_c _ _) | exact quiet_same2 (isWalker_c _ _)) | (go_at_call 43; first | exact quiet_call (hasCell_c _ _ _) | exact quiet_call2 (hasCell_c _ _ _)) | (go_at_call 42; first | exact quiet_same (in_c _ _ _ _) | exact quiet_same2 (in_c _ _ _ _)) | (go_at_call 45; first | exact quiet_call (iOrdOk_c _ _) | exact quiet_call2 (iOrdOk_c _ _)))); (try rw [h1]); (try rw [h2]); (try rw [h3]); (try rw [h4]); (try rw [p1]); (try rw [p2]); (try rw [p3]); (try rw [p4]); (try rw [r1]); (try rw [r2]); (try rw [r3]); (try rw [r4]); (try rw [r5]); (try rw [r6]); (try rw [q3]); (try rw [q4]); (try rw [hp]); (try rw [hq]); go_big_quiet_on)))
                            refine wpQuiet_nil ?_
                            rintro _ ⟨tq, rfl⟩))
                      go_ret
                      exact ⟨ret_bool (by rw [gwyOk, E.out]; rfl), (by ((try simp only [ext_drew]); (try simp only [ext_ext]); repeat (first | exact Ext.refl _ | with_reducible apply Ext.add | with_reducible apply Ext.dr | apply Ext.alloc | apply Ext.ext | apply Ext.drew | refine Ext.trans ?_ (by assumption))))⟩
                    | true =>
                      cases h1 : (x.ord.who == x.who) with
                      | false =>
                        have q1 := bne_of_f h1
                        have E := hid (show gwyAll m xs = false from allI_fail (p := gwyAt m xs) HK.out (by (unfold gwyAt gwyRow rowNum rowOrd ordZ; rw [ordAt_pos HJ.out HY.out]; (try simp only [decide_eq_true_eq, decide_eq_false_iff_not, Int.not_le] at hq); simp [*])))
                        try go_wp2_with (first
                            | (go_at_call 79; refine (isWalker_c _ _).mono ?_; rintro e w' ⟨rfl, rfl⟩) | (go_at_call 43; refine (hasCell_c _ _ _).mono ?_; rintro e w' ⟨rfl, t, rfl⟩) | (go_at_call 42; refine (in_c _ _ _ _).mono ?_; rintro e w' ⟨rfl, rfl⟩) | (go_at_call 45; refine (iOrdOk_c _ _).mono ?_; rintro e w' ⟨rfl, t, rfl⟩)
                            | (
                              with_reducible refine wp_region_mix (by kernel_rfl) (by decide +kernel) ?_
                              repeat (first
                                | (refine mix_pure rfl ?_; (first | go_big_quiet_skip | (go_big_quiet_want; go_big_quiet_op; go_big_quiet_on)); refine wpQuiet_nil ?_)
                                | (refine mix_skip (by rfl) ?_; (try simp only [Act.put, List.setIfInBounds_toArray, List.set_cons_zero, List.set_cons_succ]))
                                | (refine mix_mk rfl (by rfl) (fun K hK => ?_); (first | (go_simp; first | (go_at_call 79; refine (isWalker_c _ _).mono ?_; rintro e w' ⟨rfl, rfl⟩) | (go_at_call 43; refine (hasCell_c _ _ _).mono ?_; rintro e w' ⟨rfl, t, rfl⟩) | (go_at_call 42; refine (in_c _ _ _ _).mono ?_; rintro e w' ⟨rfl, rfl⟩) | (go_at_call 45; refine (iOrdOk_c _ _).mono ?_; rintro e w' ⟨rfl, t, rfl⟩) | skip)); (show K _ _); refine hK _ _ (show Ext _ _ from (by ((try simp only [ext_drew]); (try simp only [ext_ext]); repeat (first | exact Ext.refl _ | with_reducible apply Ext.add | with_reducible apply Ext.dr | apply Ext.alloc | apply Ext.ext | apply Ext.drew | refine Ext.trans ?_ (by assumption))))) ?_; clear hK K; (try simp only [Act.put, List.setIfInBounds_toArray, List.set_cons_zero, List.set_cons_succ])))
                              refine mix_nil ?_)
                            | (
                              with_reducible refine wp_region_ext (by kernel_rfl) (by kernel_rfl) ?_
                              repeat (first | go_big_quiet_skip | (go_big_quiet_want; go_big_quiet_op; first | go_big_quiet_on | (apply Exists.intro; refine ⟨fun _ => ?_, ?_⟩; ((first | (go_at_call 79; first | exact quiet_same (isWalker_c _ _) | exact quiet_same2 (isWalker_c _ _)) | (go_at_call 43; first | exact quiet_call (hasCell_c _ _ _) | exact quiet_call2 (hasCell_c _ _ _)) | (go_at_call 42; first | exact quiet_same (in_c _ _ _ _) | exact quiet_same2 (in_c _ _ _ _)) | (go_at_call 45; first | exact quiet_call (iOrdOk_c _ _) | exact quiet_call2 (iOrdOk_c _ _)))); (try rw [h1]); (try rw [h2]); (try rw [h3]); (try rw [h4]); (try rw [p1]); (try rw [p2]); (try rw [p3]); (try rw [p4]); (try rw [r1]); (try rw [r2]); (try rw [r3]); (try rw [r4]); (try rw [r5]); (try rw [r6]); (try rw [q3]); (try rw [q4]); (try rw [hp]); (try rw [hq]); go_big_quiet_on)))
                              refine wpQuiet_nil ?_
                              rintro _ ⟨tq, rfl⟩))
                        go_ret
                        exact ⟨ret_bool (by rw [gwyOk, E.out]; rfl), (by ((try simp only [ext_drew]); (try simp only [ext_ext]); repeat (first | exact Ext.refl _ | with_reducible apply Ext.add | with_reducible apply Ext.dr | apply Ext.alloc | apply Ext.ext | apply Ext.drew | refine Ext.trans ?_ (by assumption))))⟩
                      | true =>
                        have q1 := bne_of_t h1
                        cases h2 : (x.ord.seq == x.seq + 1) with
                        | false =>
                          have q2 := bne_of_f h2
                          have E := hid (show gwyAll m xs = false from allI_fail (p := gwyAt m xs) HK.out (by (unfold gwyAt gwyRow rowNum rowOrd ordZ; rw [ordAt_pos HJ.out HY.out]; (try simp only [decide_eq_true_eq, decide_eq_false_iff_not, Int.not_le] at hq); simp [*])))
                          try go_wp2_with (first
                              | (go_at_call 79; refine (isWalker_c _ _).mono ?_; rintro e w' ⟨rfl, rfl⟩) | (go_at_call 43; refine (hasCell_c _ _ _).mono ?_; rintro e w' ⟨rfl, t, rfl⟩) | (go_at_call 42; refine (in_c _ _ _ _).mono ?_; rintro e w' ⟨rfl, rfl⟩) | (go_at_call 45; refine (iOrdOk_c _ _).mono ?_; rintro e w' ⟨rfl, t, rfl⟩)
                              | (
                                with_reducible refine wp_region_mix (by kernel_rfl) (by decide +kernel) ?_
                                repeat (first
                                  | (refine mix_pure rfl ?_; (first | go_big_quiet_skip | (go_big_quiet_want; go_big_quiet_op; go_big_quiet_on)); refine wpQuiet_nil ?_)
                                  | (refine mix_skip (by rfl) ?_; (try simp only [Act.put, List.setIfInBounds_toArray, List.set_cons_zero, List.set_cons_succ]))
                                  | (refine mix_mk rfl (by rfl) (fun K hK => ?_); (first | (go_simp; first | (go_at_call 79; refine (isWalker_c _ _).mono ?_; rintro e w' ⟨rfl, rfl⟩) | (go_at_call 43; refine (hasCell_c _ _ _).mono ?_; rintro e w' ⟨rfl, t, rfl⟩) | (go_at_call 42; refine (in_c _ _ _ _).mono ?_; rintro e w' ⟨rfl, rfl⟩) | (go_at_call 45; refine (iOrdOk_c _ _).mono ?_; rintro e w' ⟨rfl, t, rfl⟩) | skip)); (show K _ _); refine hK _ _ (show Ext _ _ from (by ((try simp only [ext_drew]); (try simp only [ext_ext]); repeat (first | exact Ext.refl _ | with_reducible apply Ext.add | with_reducible apply Ext.dr | apply Ext.alloc | apply Ext.ext | apply Ext.drew | refine Ext.trans ?_ (by assumption))))) ?_; clear hK K; (try simp only [Act.put, List.setIfInBounds_toArray, List.set_cons_zero, List.set_cons_succ])))
                                refine mix_nil ?_)
                              | (
                                with_reducible refine wp_region_ext (by kernel_rfl) (by kernel_rfl) ?_
                                repeat (first | go_big_quiet_skip | (go_big_quiet_want; go_big_quiet_op; first | go_big_quiet_on | (apply Exists.intro; refine ⟨fun _ => ?_, ?_⟩; ((first | (go_at_call 79; first | exact quiet_same (isWalker_c _ _) | exact quiet_same2 (isWalker_c _ _)) | (go_at_call 43; first | exact quiet_call (hasCell_c _ _ _) | exact quiet_call2 (hasCell_c _ _ _)) | (go_at_call 42; first | exact quiet_same (in_c _ _ _ _) | exact quiet_same2 (in_c _ _ _ _)) | (go_at_call 45; first | exact quiet_call (iOrdOk_c _ _) | exact quiet_call2 (iOrdOk_c _ _)))); (try rw [h1]); (try rw [h2]); (try rw [h3]); (try rw [h4]); (try rw [p1]); (try rw [p2]); (try rw [p3]); (try rw [p4]); (try rw [r1]); (try rw [r2]); (try rw [r3]); (try rw [r4]); (try rw [r5]); (try rw [r6]); (try rw [q3]); (try rw [q4]); (try rw [hp]); (try rw [hq]); go_big_quiet_on)))
                                refine wpQuiet_nil ?_
                                rintro _ ⟨tq, rfl⟩))
                          go_ret
                          exact ⟨ret_bool (by rw [gwyOk, E.out]; rfl), (by ((try simp only [ext_drew]); (try simp only [ext_ext]); repeat (first | exact Ext.refl _ | with_reducible apply Ext.add | with_reducible apply Ext.dr | apply Ext.alloc | apply Ext.ext | apply Ext.drew | refine Ext.trans ?_ (by assumption))))⟩
                        | true =>
                          have q2 := bne_of_t h2
                          have HB := hid (allI_step (p := gwyAt m xs) HK.out HA.out (by (unfold gwyAt gwyRow rowNum rowOrd ordZ; rw [ordAt_pos HJ.out HY.out]; (try simp only [decide_eq_true_eq, decide_eq_false_iff_not, Int.not_le] at hq); simp [*])))
                          try go_wp2_with (first
                              | (go_at_call 79; refine (isWalker_c _ _).mono ?_; rintro e w' ⟨rfl, rfl⟩) | (go_at_call 43; refine (hasCell_c _ _ _).mono ?_; rintro e w' ⟨rfl, t, rfl⟩) | (go_at_call 42; refine (in_c _ _ _ _).mono ?_; rintro e w' ⟨rfl, rfl⟩) | (go_at_call 45; refine (iOrdOk_c _ _).mono ?_; rintro e w' ⟨rfl, t, rfl⟩)
                              | (
                                with_reducible refine wp_region_mix (by kernel_rfl) (by decide +kernel) ?_
                                repeat (first
                                  | (refine mix_pure rfl ?_; (first | go_big_quiet_skip | (go_big_quiet_want; go_big_quiet_op; go_big_quiet_on)); refine wpQuiet_nil ?_)
                                  | (refine mix_skip (by rfl) ?_; (try simp only [Act.put, List.setIfInBounds_toArray, List.set_cons_zero, List.set_cons_succ]))
                                  | (refine mix_mk rfl (by rfl) (fun K hK => ?_); (first | (go_simp; first | (go_at_call 79; refine (isWalker_c _ _).mono ?_; rintro e w' ⟨rfl, rfl⟩) | (go_at_call 43; refine (hasCell_c _ _ _).mono ?_; rintro e w' ⟨rfl, t, rfl⟩) | (go_at_call 42; refine (in_c _ _ _ _).mono ?_; rintro e w' ⟨rfl, rfl⟩) | (go_at_call 45; refine (iOrdOk_c _ _).mono ?_; rintro e w' ⟨rfl, t, rfl⟩) | skip)); (show K _ _); refine hK _ _ (show Ext _ _ from (by ((try simp only [ext_drew]); (try simp only [ext_ext]); repeat (first | exact Ext.refl _ | with_reducible apply Ext.add | with_reducible apply Ext.dr | apply Ext.alloc | apply Ext.ext | apply Ext.drew | refine Ext.trans ?_ (by assumption))))) ?_; clear hK K; (try simp only [Act.put, List.setIfInBounds_toArray, List.set_cons_zero, List.set_cons_succ])))
                                refine mix_nil ?_)
                              | (
                                with_reducible refine wp_region_ext (by kernel_rfl) (by kernel_rfl) ?_
                                repeat (first | go_big_quiet_skip | (go_big_quiet_want; go_big_quiet_op; first | go_big_quiet_on | (apply Exists.intro; refine ⟨fun _ => ?_, ?_⟩; ((first | (go_at_call 79; first | exact quiet_same (isWalker_c _ _) | exact quiet_same2 (isWalker_c _ _)) | (go_at_call 43; first | exact quiet_call (hasCell_c _ _ _) | exact quiet_call2 (hasCell_c _ _ _)) | (go_at_call 42; first | exact quiet_same (in_c _ _ _ _) | exact quiet_same2 (in_c _ _ _ _)) | (go_at_call 45; first | exact quiet_call (iOrdOk_c _ _) | exact quiet_call2 (iOrdOk_c _ _)))); (try rw [h1]); (try rw [h2]); (try rw [h3]); (try rw [h4]); (try rw [p1]); (try rw [p2]); (try rw [p3]); (try rw [p4]); (try rw [r1]); (try rw [r2]); (try rw [r3]); (try rw [r4]); (try rw [r5]); (try rw [r6]); (try rw [q3]); (try rw [q4]); (try rw [hp]); (try rw [hq]); go_big_quiet_on)))
                                refine wpQuiet_nil ?_
                                rintro _ ⟨tq, rfl⟩))
                          go_roundw
                          case rel => exact ⟨k + 1, by omega, by go_num, HB.out, (by ((try simp only [ext_drew]); (try simp only [ext_ext]); repeat (first | exact Ext.refl _ | with_reducible apply Ext.add | with_reducible apply Ext.dr | apply Ext.alloc | apply Ext.ext | apply Ext.drew | refine Ext.trans ?_ (by assumption))))⟩
                          case measure => simp [intOf]; omega
        · have r5 : x.busy = false := hbz
          cases r1 : inB x.who 1 9 with
          | false =>
            have E := hid (show gwyAll m xs = false from allI_fail (p := gwyAt m xs) HK.out (by (unfold gwyAt gwyRow rowNum rowOrd ordZ; rw [ordAt_pos HJ.out HY.out]; (try simp only [decide_eq_true_eq, decide_eq_false_iff_not, Int.not_le] at hq); simp [*])))
            try go_wp2_with (first
                | (go_at_call 79; refine (isWalker_c _ _).mono ?_; rintro e w' ⟨rfl, rfl⟩) | (go_at_call 43; refine (hasCell_c _ _ _).mono ?_; rintro e w' ⟨rfl, t, rfl⟩) | (go_at_call 42; refine (in_c _ _ _ _).mono ?_; rintro e w' ⟨rfl, rfl⟩) | (go_at_call 45; refine (iOrdOk_c _ _).mono ?_; rintro e w' ⟨rfl, t, rfl⟩)
                | (
                  with_reducible refine wp_region_mix (by kernel_rfl) (by decide +kernel) ?_
                  repeat (first
                    | (refine mix_pure rfl ?_; (first | go_big_quiet_skip | (go_big_quiet_want; go_big_quiet_op; go_big_quiet_on)); refine wpQuiet_nil ?_)
                    | (refine mix_skip (by rfl) ?_; (try simp only [Act.put, List.setIfInBounds_toArray, List.set_cons_zero, List.set_cons_succ]))
                    | (refine mix_mk rfl (by rfl) (fun K hK => ?_); (first | (go_simp; first | (go_at_call 79; refine (isWalker_c _ _).mono ?_; rintro e w' ⟨rfl, rfl⟩) | (go_at_call 43; refine (hasCell_c _ _ _).mono ?_; rintro e w' ⟨rfl, t, rfl⟩) | (go_at_call 42; refine (in_c _ _ _ _).mono ?_; rintro e w' ⟨rfl, rfl⟩) | (go_at_call 45; refine (iOrdOk_c _ _).mono ?_; rintro e w' ⟨rfl, t, rfl⟩) | skip)); (show K _ _); refine hK _ _ (show Ext _ _ from (by ((try simp only [ext_drew]); (try simp only [ext_ext]); repeat (first | exact Ext.refl _ | with_reducible apply Ext.add | with_reducible apply Ext.dr | apply Ext.alloc | apply Ext.ext | apply Ext.drew | refine Ext.trans ?_ (by assumption))))) ?_; clear hK K; (try simp only [Act.put, List.setIfInBounds_toArray, List.set_cons_zero, List.set_cons_succ])))
                  refine mix_nil ?_)
                | (
                  with_reducible refine wp_region_ext (by kernel_rfl) (by kernel_rfl) ?_
                  repeat (first | go_big_quiet_skip | (go_big_quiet_want; go_big_quiet_op; first | go_big_quiet_on | (apply Exists.intro; refine ⟨fun _ => ?_, ?_⟩; ((first | (go_at_call 79; first | exact quiet_same (isWalker_c _ _) | exact quiet_same2 (isWalker_c _ _)) | (go_at_call 43; first | exact quiet_call (hasCell_c _ _ _) | exact quiet_call2 (hasCell_c _ _ _)) | (go_at_call 42; first | exact quiet_same (in_c _ _ _ _) | exact quiet_same2 (in_c _ _ _ _)) | (go_at_call 45; first | exact quiet_call (iOrdOk_c _ _) | exact quiet_call2 (iOrdOk_c _ _)))); (try rw [h1]); (try rw [h2]); (try rw [h3]); (try rw [h4]); (try rw [p1]); (try rw [p2]); (try rw [p3]); (try rw [p4]); (try rw [r1]); (try rw [r2]); (try rw [r3]); (try rw [r4]); (try rw [r5]); (try rw [r6]); (try rw [q3]); (try rw [q4]); (try rw [hp]); (try rw [hq]); go_big_quiet_on)))
                  refine wpQuiet_nil ?_
                  rintro _ ⟨tq, rfl⟩))
            go_ret
            exact ⟨ret_bool (by rw [gwyOk, E.out]; rfl), (by ((try simp only [ext_drew]); (try simp only [ext_ext]); repeat (first | exact Ext.refl _ | with_reducible apply Ext.add | with_reducible apply Ext.dr | apply Ext.alloc | apply Ext.ext | apply Ext.drew | refine Ext.trans ?_ (by assumption))))⟩
          | true =>
            cases hq : decide (x.who ≤ y.who) with
            | true =>
              have E := hid (show gwyAll m xs = false from allI_fail (p := gwyAt m xs) HK.out (by (unfold gwyAt gwyRow rowNum rowOrd ordZ; rw [ordAt_pos HJ.out HY.out]; (try simp only [decide_eq_true_eq, decide_eq_false_iff_not, Int.not_le] at hq); simp [*])))
              try go_wp2_with (first
                  | (go_at_call 79; refine (isWalker_c _ _).mono ?_; rintro e w' ⟨rfl, rfl⟩) | (go_at_call 43; refine (hasCell_c _ _ _).mono ?_; rintro e w' ⟨rfl, t, rfl⟩) | (go_at_call 42; refine (in_c _ _ _ _).mono ?_; rintro e w' ⟨rfl, rfl⟩) | (go_at_call 45; refine (iOrdOk_c _ _).mono ?_; rintro e w' ⟨rfl, t, rfl⟩)
                  | (
                    with_reducible refine wp_region_mix (by kernel_rfl) (by decide +kernel) ?_
                    repeat (first
                      | (refine mix_pure rfl ?_; (first | go_big_quiet_skip | (go_big_quiet_want; go_big_quiet_op; go_big_quiet_on)); refine wpQuiet_nil ?_)
                      | (refine mix_skip (by rfl) ?_; (try simp only [Act.put, List.setIfInBounds_toArray, List.set_cons_zero, List.set_cons_succ]))
                      | (refine mix_mk rfl (by rfl) (fun K hK => ?_); (first | (go_simp; first | (go_at_call 79; refine (isWalker_c _ _).mono ?_; rintro e w' ⟨rfl, rfl⟩) | (go_at_call 43; refine (hasCell_c _ _ _).mono ?_; rintro e w' ⟨rfl, t, rfl⟩) | (go_at_call 42; refine (in_c _ _ _ _).mono ?_; rintro e w' ⟨rfl, rfl⟩) | (go_at_call 45; refine (iOrdOk_c _ _).mono ?_; rintro e w' ⟨rfl, t, rfl⟩) | skip)); (show K _ _); refine hK _ _ (show Ext _ _ from (by ((try simp only [ext_drew]); (try simp only [ext_ext]); repeat (first | exact Ext.refl _ | with_reducible apply Ext.add | with_reducible apply Ext.dr | apply Ext.alloc | apply Ext.ext | apply Ext.drew | refine Ext.trans ?_ (by assumption))))) ?_; clear hK K; (try simp only [Act.put, List.setIfInBounds_toArray, List.set_cons_zero, List.set_cons_succ])))
                    refine mix_nil ?_)
                  | (
                    with_reducible refine wp_region_ext (by kernel_rfl) (by kernel_rfl) ?_
                    repeat (first | go_big_quiet_skip | (go_big_quiet_want; go_big_quiet_op; first | go_big_quiet_on | (apply Exists.intro; refine ⟨fun _ => ?_, ?_⟩; ((first | (go_at_call 79; first | exact quiet_same (isWalker_c _ _) | exact quiet_same2 (isWalker_c _ _)) | (go_at_call 43; first | exact quiet_call (hasCell_c _ _ _) | exact quiet_call2 (hasCell_c _ _ _)) | (go_at_call 42; first | exact quiet_same (in_c _ _ _ _) | exact quiet_same2 (in_c _ _ _ _)) | (go_at_call 45; first | exact quiet_call (iOrdOk_c _ _) | exact quiet_call2 (iOrdOk_c _ _)))); (try rw [h1]); (try rw [h2]); (try rw [h3]); (try rw [h4]); (try rw [p1]); (try rw [p2]); (try rw [p3]); (try rw [p4]); (try rw [r1]); (try rw [r2]); (try rw [r3]); (try rw [r4]); (try rw [r5]); (try rw [r6]); (try rw [q3]); (try rw [q4]); (try rw [hp]); (try rw [hq]); go_big_quiet_on)))
                    refine wpQuiet_nil ?_
                    rintro _ ⟨tq, rfl⟩))
              go_ret
              exact ⟨ret_bool (by rw [gwyOk, E.out]; rfl), (by ((try simp only [ext_drew]); (try simp only [ext_ext]); repeat (first | exact Ext.refl _ | with_reducible apply Ext.add | with_reducible apply Ext.dr | apply Ext.alloc | apply Ext.ext | apply Ext.drew | refine Ext.trans ?_ (by assumption))))⟩
            | false =>
              cases r2 : inB x.cell 0 (wrap64 (m.c - 1)) with
              | false =>
                have E := hid (show gwyAll m xs = false from allI_fail (p := gwyAt m xs) HK.out (by (unfold gwyAt gwyRow rowNum rowOrd ordZ; rw [ordAt_pos HJ.out HY.out]; (try simp only [decide_eq_true_eq, decide_eq_false_iff_not, Int.not_le] at hq); simp [*])))
                try go_wp2_with (first
                    | (go_at_call 79; refine (isWalker_c _ _).mono ?_; rintro e w' ⟨rfl, rfl⟩) | (go_at_call 43; refine (hasCell_c _ _ _).mono ?_; rintro e w' ⟨rfl, t, rfl⟩) | (go_at_call 42; refine (in_c _ _ _ _).mono ?_; rintro e w' ⟨rfl, rfl⟩) | (go_at_call 45; refine (iOrdOk_c _ _).mono ?_; rintro e w' ⟨rfl, t, rfl⟩)
                    | (
                      with_reducible refine wp_region_mix (by kernel_rfl) (by decide +kernel) ?_
                      repeat (first
                        | (refine mix_pure rfl ?_; (first | go_big_quiet_skip | (go_big_quiet_want; go_big_quiet_op; go_big_quiet_on)); refine wpQuiet_nil ?_)
                        | (refine mix_skip (by rfl) ?_; (try simp only [Act.put, List.setIfInBounds_toArray, List.set_cons_zero, List.set_cons_succ]))
                        | (refine mix_mk rfl (by rfl) (fun K hK => ?_); (first | (go_simp; first | (go_at_call 79; refine (isWalker_c _ _).mono ?_; rintro e w' ⟨rfl, rfl⟩) | (go_at_call 43; refine (hasCell_c _ _ _).mono ?_; rintro e w' ⟨rfl, t, rfl⟩) | (go_at_call 42; refine (in_c _ _ _ _).mono ?_; rintro e w' ⟨rfl, rfl⟩) | (go_at_call 45; refine (iOrdOk_c _ _).mono ?_; rintro e w' ⟨rfl, t, rfl⟩) | skip)); (show K _ _); refine hK _ _ (show Ext _ _ from (by ((try simp only [ext_drew]); (try simp only [ext_ext]); repeat (first | exact Ext.refl _ | with_reducible apply Ext.add | with_reducible apply Ext.dr | apply Ext.alloc | apply Ext.ext | apply Ext.drew | refine Ext.trans ?_ (by assumption))))) ?_; clear hK K; (try simp only [Act.put, List.setIfInBounds_toArray, List.set_cons_zero, List.set_cons_succ])))
                      refine mix_nil ?_)
                    | (
                      with_reducible refine wp_region_ext (by kernel_rfl) (by kernel_rfl) ?_
                      repeat (first | go_big_quiet_skip | (go_big_quiet_want; go_big_quiet_op; first | go_big_quiet_on | (apply Exists.intro; refine ⟨fun _ => ?_, ?_⟩; ((first | (go_at_call 79; first | exact quiet_same (isWalker_c _ _) | exact quiet_same2 (isWalker_c _ _)) | (go_at_call 43; first | exact quiet_call (hasCell_c _ _ _) | exact quiet_call2 (hasCell_c _ _ _)) | (go_at_call 42; first | exact quiet_same (in_c _ _ _ _) | exact quiet_same2 (in_c _ _ _ _)) | (go_at_call 45; first | exact quiet_call (iOrdOk_c _ _) | exact quiet_call2 (iOrdOk_c _ _)))); (try rw [h1]); (try rw [h2]); (try rw [h3]); (try rw [h4]); (try rw [p1]); (try rw [p2]); (try rw [p3]); (try rw [p4]); (try rw [r1]); (try rw [r2]); (try rw [r3]); (try rw [r4]); (try rw [r5]); (try rw [r6]); (try rw [q3]); (try rw [q4]); (try rw [hp]); (try rw [hq]); go_big_quiet_on)))
                      refine wpQuiet_nil ?_
                      rintro _ ⟨tq, rfl⟩))
                go_ret
                exact ⟨ret_bool (by rw [gwyOk, E.out]; rfl), (by ((try simp only [ext_drew]); (try simp only [ext_ext]); repeat (first | exact Ext.refl _ | with_reducible apply Ext.add | with_reducible apply Ext.dr | apply Ext.alloc | apply Ext.ext | apply Ext.drew | refine Ext.trans ?_ (by assumption))))⟩
              | true =>
                cases r3 : inB x.seq 0 900 with
                | false =>
                  have E := hid (show gwyAll m xs = false from allI_fail (p := gwyAt m xs) HK.out (by (unfold gwyAt gwyRow rowNum rowOrd ordZ; rw [ordAt_pos HJ.out HY.out]; (try simp only [decide_eq_true_eq, decide_eq_false_iff_not, Int.not_le] at hq); simp [*])))
                  try go_wp2_with (first
                      | (go_at_call 79; refine (isWalker_c _ _).mono ?_; rintro e w' ⟨rfl, rfl⟩) | (go_at_call 43; refine (hasCell_c _ _ _).mono ?_; rintro e w' ⟨rfl, t, rfl⟩) | (go_at_call 42; refine (in_c _ _ _ _).mono ?_; rintro e w' ⟨rfl, rfl⟩) | (go_at_call 45; refine (iOrdOk_c _ _).mono ?_; rintro e w' ⟨rfl, t, rfl⟩)
                      | (
                        with_reducible refine wp_region_mix (by kernel_rfl) (by decide +kernel) ?_
                        repeat (first
                          | (refine mix_pure rfl ?_; (first | go_big_quiet_skip | (go_big_quiet_want; go_big_quiet_op; go_big_quiet_on)); refine wpQuiet_nil ?_)
                          | (refine mix_skip (by rfl) ?_; (try simp only [Act.put, List.setIfInBounds_toArray, List.set_cons_zero, List.set_cons_succ]))
                          | (refine mix_mk rfl (by rfl) (fun K hK => ?_); (first | (go_simp; first | (go_at_call 79; refine (isWalker_c _ _).mono ?_; rintro e w' ⟨rfl, rfl⟩) | (go_at_call 43; refine (hasCell_c _ _ _).mono ?_; rintro e w' ⟨rfl, t, rfl⟩) | (go_at_call 42; refine (in_c _ _ _ _).mono ?_; rintro e w' ⟨rfl, rfl⟩) | (go_at_call 45; refine (iOrdOk_c _ _).mono ?_; rintro e w' ⟨rfl, t, rfl⟩) | skip)); (show K _ _); refine hK _ _ (show Ext _ _ from (by ((try simp only [ext_drew]); (try simp only [ext_ext]); repeat (first | exact Ext.refl _ | with_reducible apply Ext.add | with_reducible apply Ext.dr | apply Ext.alloc | apply Ext.ext | apply Ext.drew | refine Ext.trans ?_ (by assumption))))) ?_; clear hK K; (try simp only [Act.put, List.setIfInBounds_toArray, List.set_cons_zero, List.set_cons_succ])))
                        refine mix_nil ?_)
                      | (
                        with_reducible refine wp_region_ext (by kernel_rfl) (by kernel_rfl) ?_
                        repeat (first | go_big_quiet_skip | (go_big_quiet_want; go_big_quiet_op; first | go_big_quiet_on | (apply Exists.intro; refine ⟨fun _ => ?_, ?_⟩; ((first | (go_at_call 79; first | exact quiet_same (isWalker_c _ _) | exact quiet_same2 (isWalker_c _ _)) | (go_at_call 43; first | exact quiet_call (hasCell_c _ _ _) | exact quiet_call2 (hasCell_c _ _ _)) | (go_at_call 42; first | exact quiet_same (in_c _ _ _ _) | exact quiet_same2 (in_c _ _ _ _)) | (go_at_call 45; first | exact quiet_call (iOrdOk_c _ _) | exact quiet_call2 (iOrdOk_c _ _)))); (try rw [h1]); (try rw [h2]); (try rw [h3]); (try rw [h4]); (try rw [p1]); (try rw [p2]); (try rw [p3]); (try rw [p4]); (try rw [r1]); (try rw [r2]); (try rw [r3]); (try rw [r4]); (try rw [r5]); (try rw [r6]); (try rw [q3]); (try rw [q4]); (try rw [hp]); (try rw [hq]); go_big_quiet_on)))
                        refine wpQuiet_nil ?_
                        rintro _ ⟨tq, rfl⟩))
                  go_ret
                  exact ⟨ret_bool (by rw [gwyOk, E.out]; rfl), (by ((try simp only [ext_drew]); (try simp only [ext_ext]); repeat (first | exact Ext.refl _ | with_reducible apply Ext.add | with_reducible apply Ext.dr | apply Ext.alloc | apply Ext.ext | apply Ext.drew | refine Ext.trans ?_ (by assumption))))⟩
                | true =>
                  obtain ⟨s1, s2⟩ := inB_iff.1 r3
                  cases r4 : inB x.code 0 9 with
                  | false =>
                    have E := hid (show gwyAll m xs = false from allI_fail (p := gwyAt m xs) HK.out (by (unfold gwyAt gwyRow rowNum rowOrd ordZ; rw [ordAt_pos HJ.out HY.out]; (try simp only [decide_eq_true_eq, decide_eq_false_iff_not, Int.not_le] at hq); simp [*])))
                    try go_wp2_with (first
                        | (go_at_call 79; refine (isWalker_c _ _).mono ?_; rintro e w' ⟨rfl, rfl⟩) | (go_at_call 43; refine (hasCell_c _ _ _).mono ?_; rintro e w' ⟨rfl, t, rfl⟩) | (go_at_call 42; refine (in_c _ _ _ _).mono ?_; rintro e w' ⟨rfl, rfl⟩) | (go_at_call 45; refine (iOrdOk_c _ _).mono ?_; rintro e w' ⟨rfl, t, rfl⟩)
                        | (
                          with_reducible refine wp_region_mix (by kernel_rfl) (by decide +kernel) ?_
                          repeat (first
                            | (refine mix_pure rfl ?_; (first | go_big_quiet_skip | (go_big_quiet_want; go_big_quiet_op; go_big_quiet_on)); refine wpQuiet_nil ?_)
                            | (refine mix_skip (by rfl) ?_; (try simp only [Act.put, List.setIfInBounds_toArray, List.set_cons_zero, List.set_cons_succ]))
                            | (refine mix_mk rfl (by rfl) (fun K hK => ?_); (first | (go_simp; first | (go_at_call 79; refine (isWalker_c _ _).mono ?_; rintro e w' ⟨rfl, rfl⟩) | (go_at_call 43; refine (hasCell_c _ _ _).mono ?_; rintro e w' ⟨rfl, t, rfl⟩) | (go_at_call 42; refine (in_c _ _ _ _).mono ?_; rintro e w' ⟨rfl, rfl⟩) | (go_at_call 45; refine (iOrdOk_c _ _).mono ?_; rintro e w' ⟨rfl, t, rfl⟩) | skip)); (show K _ _); refine hK _ _ (show Ext _ _ from (by ((try simp only [ext_drew]); (try simp only [ext_ext]); repeat (first | exact Ext.refl _ | with_reducible apply Ext.add | with_reducible apply Ext.dr | apply Ext.alloc | apply Ext.ext | apply Ext.drew | refine Ext.trans ?_ (by assumption))))) ?_; clear hK K; (try simp only [Act.put, List.setIfInBounds_toArray, List.set_cons_zero, List.set_cons_succ])))
                          refine mix_nil ?_)
                        | (
                          with_reducible refine wp_region_ext (by kernel_rfl) (by kernel_rfl) ?_
                          repeat (first | go_big_quiet_skip | (go_big_quiet_want; go_big_quiet_op; first | go_big_quiet_on | (apply Exists.intro; refine ⟨fun _ => ?_, ?_⟩; ((first | (go_at_call 79; first | exact quiet_same (isWalker_c _ _) | exact quiet_same2 (isWalker_c _ _)) | (go_at_call 43; first | exact quiet_call (hasCell_c _ _ _) | exact quiet_call2 (hasCell_c _ _ _)) | (go_at_call 42; first | exact quiet_same (in_c _ _ _ _) | exact quiet_same2 (in_c _ _ _ _)) | (go_at_call 45; first | exact quiet_call (iOrdOk_c _ _) | exact quiet_call2 (iOrdOk_c _ _)))); (try rw [h1]); (try rw [h2]); (try rw [h3]); (try rw [h4]); (try rw [p1]); (try rw [p2]); (try rw [p3]); (try rw [p4]); (try rw [r1]); (try rw [r2]); (try rw [r3]); (try rw [r4]); (try rw [r5]); (try rw [r6]); (try rw [q3]); (try rw [q4]); (try rw [hp]); (try rw [hq]); go_big_quiet_on)))
                          refine wpQuiet_nil ?_
                          rintro _ ⟨tq, rfl⟩))
                    go_ret
                    exact ⟨ret_bool (by rw [gwyOk, E.out]; rfl), (by ((try simp only [ext_drew]); (try simp only [ext_ext]); repeat (first | exact Ext.refl _ | with_reducible apply Ext.add | with_reducible apply Ext.dr | apply Ext.alloc | apply Ext.ext | apply Ext.drew | refine Ext.trans ?_ (by assumption))))⟩
                  | true =>
                    cases hz0 : ((x.ord.who == 0) && ((x.ord.seq == 0) && ((x.ord.kind == 0) && ((x.ord.to_ == 0) && (x.ord.n == 0))))) with
                    | false =>
                      have E := hid (show gwyAll m xs = false from allI_fail (p := gwyAt m xs) HK.out (by (unfold gwyAt gwyRow rowNum rowOrd ordZ; rw [ordAt_pos HJ.out HY.out]; (try simp only [decide_eq_true_eq, decide_eq_false_iff_not, Int.not_le] at hq); simp [*])))
                      try go_wp2_with (first
                          | (go_at_call 79; refine (isWalker_c _ _).mono ?_; rintro e w' ⟨rfl, rfl⟩) | (go_at_call 43; refine (hasCell_c _ _ _).mono ?_; rintro e w' ⟨rfl, t, rfl⟩) | (go_at_call 42; refine (in_c _ _ _ _).mono ?_; rintro e w' ⟨rfl, rfl⟩) | (go_at_call 45; refine (iOrdOk_c _ _).mono ?_; rintro e w' ⟨rfl, t, rfl⟩)
                          | (
                            with_reducible refine wp_region_mix (by kernel_rfl) (by decide +kernel) ?_
                            repeat (first
                              | (refine mix_pure rfl ?_; (first | go_big_quiet_skip | (go_big_quiet_want; go_big_quiet_op; go_big_quiet_on)); refine wpQuiet_nil ?_)
                              | (refine mix_skip (by rfl) ?_; (try simp only [Act.put, List.setIfInBounds_toArray, List.set_cons_zero, List.set_cons_succ]))
                              | (refine mix_mk rfl (by rfl) (fun K hK => ?_); (first | (go_simp; first | (go_at_call 79; refine (isWalker_c _ _).mono ?_; rintro e w' ⟨rfl, rfl⟩) | (go_at_call 43; refine (hasCell_c _ _ _).mono ?_; rintro e w' ⟨rfl, t, rfl⟩) | (go_at_call 42; refine (in_c _ _ _ _).mono ?_; rintro e w' ⟨rfl, rfl⟩) | (go_at_call 45; refine (iOrdOk_c _ _).mono ?_; rintro e w' ⟨rfl, t, rfl⟩) | skip)); (show K _ _); refine hK _ _ (show Ext _ _ from (by ((try simp only [ext_drew]); (try simp only [ext_ext]); repeat (first | exact Ext.refl _ | with_reducible apply Ext.add | with_reducible apply Ext.dr | apply Ext.alloc | apply Ext.ext | apply Ext.drew | refine Ext.trans ?_ (by assumption))))) ?_; clear hK K; (try simp only [Act.put, List.setIfInBounds_toArray, List.set_cons_zero, List.set_cons_succ])))
                            refine mix_nil ?_)
                          | (
                            with_reducible refine wp_region_ext (by kernel_rfl) (by kernel_rfl) ?_
                            repeat (first | go_big_quiet_skip | (go_big_quiet_want; go_big_quiet_op; first | go_big_quiet_on | (apply Exists.intro; refine ⟨fun _ => ?_, ?_⟩; ((first | (go_at_call 79; first | exact quiet_same (isWalker_c _ _) | exact quiet_same2 (isWalker_c _ _)) | (go_at_call 43; first | exact quiet_call (hasCell_c _ _ _) | exact quiet_call2 (hasCell_c _ _ _)) | (go_at_call 42; first | exact quiet_same (in_c _ _ _ _) | exact quiet_same2 (in_c _ _ _ _)) | (go_at_call 45; first | exact quiet_call (iOrdOk_c _ _) | exact quiet_call2 (iOrdOk_c _ _)))); (try rw [h1]); (try rw [h2]); (try rw [h3]); (try rw [h4]); (try rw [p1]); (try rw [p2]); (try rw [p3]); (try rw [p4]); (try rw [r1]); (try rw [r2]); (try rw [r3]); (try rw [r4]); (try rw [r5]); (try rw [r6]); (try rw [q3]); (try rw [q4]); (try rw [hp]); (try rw [hq]); go_big_quiet_on)))
                            refine wpQuiet_nil ?_
                            rintro _ ⟨tq, rfl⟩))
                      go_ret
                      exact ⟨ret_bool (by rw [gwyOk, E.out]; rfl), (by ((try simp only [ext_drew]); (try simp only [ext_ext]); repeat (first | exact Ext.refl _ | with_reducible apply Ext.add | with_reducible apply Ext.dr | apply Ext.alloc | apply Ext.ext | apply Ext.drew | refine Ext.trans ?_ (by assumption))))⟩
                    | true =>
                      have HB := hid (allI_step (p := gwyAt m xs) HK.out HA.out (by (unfold gwyAt gwyRow rowNum rowOrd ordZ; rw [ordAt_pos HJ.out HY.out]; (try simp only [decide_eq_true_eq, decide_eq_false_iff_not, Int.not_le] at hq); simp [*])))
                      try go_wp2_with (first
                          | (go_at_call 79; refine (isWalker_c _ _).mono ?_; rintro e w' ⟨rfl, rfl⟩) | (go_at_call 43; refine (hasCell_c _ _ _).mono ?_; rintro e w' ⟨rfl, t, rfl⟩) | (go_at_call 42; refine (in_c _ _ _ _).mono ?_; rintro e w' ⟨rfl, rfl⟩) | (go_at_call 45; refine (iOrdOk_c _ _).mono ?_; rintro e w' ⟨rfl, t, rfl⟩)
                          | (
                            with_reducible refine wp_region_mix (by kernel_rfl) (by decide +kernel) ?_
                            repeat (first
                              | (refine mix_pure rfl ?_; (first | go_big_quiet_skip | (go_big_quiet_want; go_big_quiet_op; go_big_quiet_on)); refine wpQuiet_nil ?_)
                              | (refine mix_skip (by rfl) ?_; (try simp only [Act.put, List.setIfInBounds_toArray, List.set_cons_zero, List.set_cons_succ]))
                              | (refine mix_mk rfl (by rfl) (fun K hK => ?_); (first | (go_simp; first | (go_at_call 79; refine (isWalker_c _ _).mono ?_; rintro e w' ⟨rfl, rfl⟩) | (go_at_call 43; refine (hasCell_c _ _ _).mono ?_; rintro e w' ⟨rfl, t, rfl⟩) | (go_at_call 42; refine (in_c _ _ _ _).mono ?_; rintro e w' ⟨rfl, rfl⟩) | (go_at_call 45; refine (iOrdOk_c _ _).mono ?_; rintro e w' ⟨rfl, t, rfl⟩) | skip)); (show K _ _); refine hK _ _ (show Ext _ _ from (by ((try simp only [ext_drew]); (try simp only [ext_ext]); repeat (first | exact Ext.refl _ | with_reducible apply Ext.add | with_reducible apply Ext.dr | apply Ext.alloc | apply Ext.ext | apply Ext.drew | refine Ext.trans ?_ (by assumption))))) ?_; clear hK K; (try simp only [Act.put, List.setIfInBounds_toArray, List.set_cons_zero, List.set_cons_succ])))
                            refine mix_nil ?_)
                          | (
                            with_reducible refine wp_region_ext (by kernel_rfl) (by kernel_rfl) ?_
                            repeat (first | go_big_quiet_skip | (go_big_quiet_want; go_big_quiet_op; first | go_big_quiet_on | (apply Exists.intro; refine ⟨fun _ => ?_, ?_⟩; ((first | (go_at_call 79; first | exact quiet_same (isWalker_c _ _) | exact quiet_same2 (isWalker_c _ _)) | (go_at_call 43; first | exact quiet_call (hasCell_c _ _ _) | exact quiet_call2 (hasCell_c _ _ _)) | (go_at_call 42; first | exact quiet_same (in_c _ _ _ _) | exact quiet_same2 (in_c _ _ _ _)) | (go_at_call 45; first | exact quiet_call (iOrdOk_c _ _) | exact quiet_call2 (iOrdOk_c _ _)))); (try rw [h1]); (try rw [h2]); (try rw [h3]); (try rw [h4]); (try rw [p1]); (try rw [p2]); (try rw [p3]); (try rw [p4]); (try rw [r1]); (try rw [r2]); (try rw [r3]); (try rw [r4]); (try rw [r5]); (try rw [r6]); (try rw [q3]); (try rw [q4]); (try rw [hp]); (try rw [hq]); go_big_quiet_on)))
                            refine wpQuiet_nil ?_
                            rintro _ ⟨tq, rfl⟩))
                      go_roundw
                      case rel => exact ⟨k + 1, by omega, by go_num, HB.out, (by ((try simp only [ext_drew]); (try simp only [ext_ext]); repeat (first | exact Ext.refl _ | with_reducible apply Ext.add | with_reducible apply Ext.dr | apply Ext.alloc | apply Ext.ext | apply Ext.drew | refine Ext.trans ?_ (by assumption))))⟩
                      case measure => simp [intOf]; omega
    · have E := hid (show gwyAll m xs = true from allI_all (p := gwyAt m xs) (xs := xs) (k := k) (by rw [← HX.out.len]; omega) HA.out)
      try go_wp2_with (first
          | (go_at_call 41; refine (iPlcOk_c _ _).mono ?_; rintro e w' ⟨rfl, t, rfl⟩)
          | (
            with_reducible refine wp_region_mix (by kernel_rfl) (by decide +kernel) ?_
            repeat (first
              | (refine mix_pure rfl ?_; (first | go_big_quiet_skip | (go_big_quiet_want; go_big_quiet_op; go_big_quiet_on)); refine wpQuiet_nil ?_)
              | (refine mix_skip (by rfl) ?_; (try simp only [Act.put, List.setIfInBounds_toArray, List.set_cons_zero, List.set_cons_succ]))
              | (refine mix_mk rfl (by rfl) (fun K hK => ?_); (first | (go_simp; first | (go_at_call 41; refine (iPlcOk_c _ _).mono ?_; rintro e w' ⟨rfl, t, rfl⟩) | skip)); (show K _ _); refine hK _ _ (show Ext _ _ from (by ((try simp only [ext_drew]); (try simp only [ext_ext]); repeat (first | exact Ext.refl _ | with_reducible apply Ext.add | with_reducible apply Ext.dr | apply Ext.alloc | apply Ext.ext | apply Ext.drew | refine Ext.trans ?_ (by assumption))))) ?_; clear hK K; (try simp only [Act.put, List.setIfInBounds_toArray, List.set_cons_zero, List.set_cons_succ])))
            refine mix_nil ?_)
          | (
            with_reducible refine wp_region_ext (by kernel_rfl) (by kernel_rfl) ?_
            repeat (first | go_big_quiet_skip | (go_big_quiet_want; go_big_quiet_op; first | go_big_quiet_on | (apply Exists.intro; refine ⟨fun _ => ?_, ?_⟩; ((first | (go_at_call 41; first | exact quiet_call (iPlcOk_c _ _) | exact quiet_call2 (iPlcOk_c _ _)))); (try rw [h1]); (try rw [h2]); (try rw [h3]); (try rw [h4]); (try rw [p1]); (try rw [p2]); (try rw [p3]); (try rw [p4]); (try rw [r1]); (try rw [r2]); (try rw [r3]); (try rw [r4]); (try rw [r5]); (try rw [r6]); (try rw [q3]); (try rw [q4]); (try rw [hp]); (try rw [hq]); go_big_quiet_on)))
            refine wpQuiet_nil ?_
            rintro _ ⟨tq, rfl⟩))
      go_ret
      exact ⟨ret_bool (by rw [gwyOk, E.out]; rfl), (by ((try simp only [ext_drew]); (try simp only [ext_ext]); repeat (first | exact Ext.refl _ | with_reducible apply Ext.add | with_reducible apply Ext.dr | apply Ext.alloc | apply Ext.ext | apply Ext.drew | refine Ext.trans ?_ (by assumption))))⟩
end Go.Proofs.Ytnfodkhfoegnaaa

namespace Go.Proofs.Ytnfodkhfoegnaaa
open Go.RowKit
set_option linter.unusedSimpArgs false
set_option linter.unusedVariables false

@[go_sem] theorem alloc_frozen' (w : World) (o : Obj) (b i : Nat) (h : b < w.heap.size) : (w.alloc o).frozen? ⟨b, i, none⟩ = w.frozen? ⟨b, i, none⟩ := by
  rw [alloc_ext]; exact ext_frozen' _ _ _ _ h
@[go_sem] theorem alloc_cell' (w : World) (o : Obj) (b i : Nat) (h : b < w.heap.size) : (w.alloc o).cell? ⟨b, i, none⟩ = w.cell? ⟨b, i, none⟩ := by
  rw [alloc_ext]; exact ext_cell' _ _ _ _ h
def MadeGwyB (w : World) (n0 : Nat) (xs0 : List Row) (b : Bool) (e : Ending) (w' : World) : Prop :=
  ∃ a0 c0, e = .returned (.tuple #[.agg #[.slice a0 n0 c0], .bool b]) ∧ Ext w w' ∧ OwnR w.heap.size w'.heap.size w' sGwy [.slice a0 n0 c0] (gwyDat xs0)
theorem gwyOk_facts {m : Mp} {xs : List Row} (h : gwyOk m xs = true) : plcOk m = true ∧ ∀ y ∈ xs, 0 ≤ y.seq ∧ y.seq ≤ 900 := by
  simp only [gwyOk, Bool.and_eq_true] at h
  refine ⟨h.2, fun y hy => ?_⟩
  obtain ⟨k, hk⟩ := List.getElem?_of_mem hy
  have := allI_iff.1 h.1 k y hk
  simp only [gwyAt, gwyRow, rowNum, Bool.and_eq_true] at this
  exact inB_iff.1 this.1.1.1.2

theorem fin_same {w W w2 : World} {lo hi R : Nat} {s : Sch} {vs : List Value} {d : Dat} (hE : Ext w W) (ho : OwnR lo hi W s vs d) (hR : w.heap.size ≤ R) (hRl : R < lo) (h2 : Chg [R] W w2) : Ext w w2 ∧ OwnR w.heap.size w2.heap.size w2 s vs d :=
  fin_res hE ⟨rfl, rfl, rfl, Nat.le_refl _, fun _ _ _ => rfl⟩ ho hR hRl h2

end Go.Proofs.Ytnfodkhfoegnaaa

namespace Go.Proofs.Ytnfodkhfoegnaaa
open Go.RowKit
set_option linter.unusedSimpArgs false
set_option linter.unusedVariables false

/-- Operation j waits for operation i, at once or by way of others. -/
def reaches (ops : Array Oper) : Nat → Nat → Nat → Bool
  | 0, _, _ => false
  | n + 1, j, i => ((ops[j]?).map fun oj => oj.after.any fun e => Region.binds .any e && (e.on == i || reaches ops n e.on i)).getD false
def Closed (ops : Array Oper) (listed : Array Bool) : Prop := ∀ j o, ops[j]? = some o → listed.getD j false = true → ∀ e ∈ o.after, Region.binds .any e = true → listed.getD e.on false = true
theorem Closed.reach {ops : Array Oper} {listed : Array Bool} (h : Closed ops listed) : ∀ (n j i : Nat), (∀ o, ops[j]? = some o → ∀ e ∈ o.after, Region.binds .any e = true → listed.getD e.on false = true) → reaches ops n j i = true → listed.getD i false = true
  | 0, j, i, _, hr => by simp [reaches] at hr
  | n + 1, j, i, hd, hr => by
    unfold reaches at hr
    cases ho : ops[j]? with
    | none => rw [ho] at hr; simp at hr
    | some oj =>
      rw [ho] at hr
      simp only [Option.map_some, Option.getD_some, Array.any_eq_true, Bool.and_eq_true, Bool.or_eq_true, beq_iff_eq] at hr
      obtain ⟨x, hx, hb, he⟩ := hr
      have h1 := hd oj ho _ (Array.getElem_mem hx) hb
      rcases he with he | he
      · rw [he] at h1; exact h1
      · exact h.reach n _ i (fun o ho' => h _ o ho' h1) he
theorem Closed.step {ops : Array Oper} {listed : Array Bool} (h : Closed ops listed) {i : Nat} (hr : i ∈ Region.ready .any ops listed) : Closed ops (listed.setIfInBounds i true) := by
  obtain ⟨_, oi, hoi, hall⟩ := mem_ready.1 hr
  have keep : ∀ k, listed.getD k false = true → (listed.setIfInBounds i true).getD k false = true := fun k hk => by
    have hks : k < listed.size := by
      rcases Nat.lt_or_ge k listed.size with h' | h'
      · exact h'
      · simp [Array.getElem?_eq_none h'] at hk
    by_cases e : i = k
    · subst e; simp [hks]
    · simp [hks, Array.getElem_setIfInBounds_ne, e] at hk ⊢; exact hk
  intro j o ho hj e he hb
  by_cases ej : i = j
  · subst ej
    rw [hoi] at ho; obtain rfl := Option.some.inj ho
    exact keep _ (hall e he hb)
  · refine keep _ (h j o ho ?_ e he hb)
    have hks : j < listed.size := by
      rcases Nat.lt_or_ge j listed.size with h' | h'
      · exact h'
      · simp [Array.getElem?_eq_none (show (listed.setIfInBounds i true).size ≤ j by simpa using h')] at hj
    simp [hks, Array.getElem_setIfInBounds_ne, ej] at hj ⊢; exact hj
theorem closed_none (ops : Array Oper) (n : Nat) : Closed ops (Array.replicate n false) := fun j o _ hj => by
  rcases Nat.lt_or_ge j n with h | h
  · simp [h] at hj
  · simp [Array.getElem?_eq_none (show (Array.replicate n false).size ≤ j by simpa using h)] at hj

def segPairT (ops : Array Oper) (oi oj : Oper) (i j : Nat) : Bool :=
  bif isMk oi.op && isMk oj.op then reaches ops ops.size j i
  else (isMk oi.op || waits oj i || oi.apart ops oj) && (isMk oj.op || waits oj i || oj.apart ops oi)
theorem segPairT_l {ops : Array Oper} {oi oj : Oper} {i j : Nat} (h : segPairT ops oi oj i j = true) (hi : isMk oi.op = false) (hw : waits oj i = false) : oi.apart ops oj = true := by
  simp [segPairT, hi, hw] at h; exact h.1
theorem segPairT_r {ops : Array Oper} {oi oj : Oper} {i j : Nat} (h : segPairT ops oi oj i j = true) (hj : isMk oj.op = false) (hw : waits oj i = false) : oj.apart ops oi = true := by
  simp [segPairT, hj, hw] at h; exact h.2
theorem segPairT_mk {ops : Array Oper} {oi oj : Oper} {i j : Nat} (h : segPairT ops oi oj i j = true) (hi : isMk oi.op = true) (hj : isMk oj.op = true) : reaches ops ops.size j i = true := by
  simpa [segPairT, hi, hj] using h
def segOkT (ops : Array Oper) : Bool :=
  Region.noSelect ops &&
  (List.range ops.size).all fun j => match ops[j]? with
    | none => false
    | some oj => (oj.after.all fun e => !Region.binds .any e || decide (e.on < j)) &&
      (List.range j).all fun i => match ops[i]? with
        | none => false
        | some oi => segPairT ops oi oj i j
theorem segOkT_sel {ops : Array Oper} (h : segOkT ops = true) : Region.noSelect ops = true := by
  simp only [segOkT, Bool.and_eq_true] at h; exact h.1
theorem segOkT_at {ops : Array Oper} (h : segOkT ops = true) {j : Nat} {oj : Oper} (hj : ops[j]? = some oj) :
    (∀ e ∈ oj.after, Region.binds .any e = true → e.on < j) ∧
    ∀ i oi, i < j → ops[i]? = some oi → segPairT ops oi oj i j = true := by
  simp only [segOkT, Bool.and_eq_true, List.all_eq_true, List.mem_range] at h
  have hlt : j < ops.size := (Array.getElem?_eq_some_iff.1 hj).1
  have h2 := h.2 j hlt
  simp only [hj, Bool.and_eq_true, List.all_eq_true, List.mem_range, Array.all_eq_true_iff_forall_mem, Bool.or_eq_true, Bool.not_eq_true', decide_eq_true_eq] at h2
  refine ⟨fun e he hb => (h2.1 e he).resolve_left (by simp [hb]), fun i oi hi hoi => ?_⟩
  have h3 := h2.2 i hi
  simp only [hoi] at h3
  exact h3

section
variable {P : Program} {ops : Array Oper} {S : World → Prop} {Q : Exit → Act → World → Prop}
theorem mixT_sound (hB : segOkT ops = true) (hQ : ∀ c a d (v : Value) w, Q (.panic c) (Act.put a d v) w → Q (.panic c) a w) : ∀ (rem : List Nat) (listed : Array Bool) (a : Act) (w : World), listed.size = ops.size →
    rem.Pairwise (· < ·) → (∀ j, j ∈ rem ↔ j < ops.size ∧ listed.getD j true = false) → Closed ops listed → S w → wpMix P ops S Q rem a w → wpAnyH P .any ops Q S rem.length listed a w := by
  intro rem
  generalize hn : rem.length = n
  induction n generalizing rem with
  | zero =>
    intro listed a w hsz hpw hmem hcl hS h
    obtain rfl := List.eq_nil_of_length_eq_zero hn
    refine ⟨?_, h⟩
    rw [List.eq_nil_iff_forall_not_mem]
    intro j hj
    obtain ⟨h0, o, ho, _⟩ := mem_ready.1 hj
    exact absurd ((hmem j).2 ⟨(Array.getElem?_eq_some_iff.1 ho).1, h0⟩) (by simp)
  | succ n ih =>
    intro listed a w hsz hpw hmem hcl hS h
    have hs := segOkT_sel hB
    have inrem : ∀ j, j ∈ Region.ready .any ops listed → j ∈ rem := fun j hj => by
      obtain ⟨h0, o, ho, _⟩ := mem_ready.1 hj
      exact (hmem j).2 ⟨(Array.getElem?_eq_some_iff.1 ho).1, h0⟩
    have nowait : ∀ i j oi, ops[i]? = some oi → i ∈ Region.ready .any ops listed → listed.getD j true = false → waits oi j = false := fun i j oi hi hr hj => by
      obtain ⟨_, o, ho, hall⟩ := mem_ready.1 hr
      rw [hi] at ho; obtain rfl := Option.some.inj ho
      cases hwt : waits oi j with
      | false => rfl
      | true =>
        simp only [waits, Array.any_eq_true, Bool.and_eq_true, beq_iff_eq] at hwt
        obtain ⟨q, hq, hb, he⟩ := hwt
        have := hall _ (Array.getElem_mem hq) hb
        rw [he] at this
        rcases Nat.lt_or_ge j listed.size with h' | h'
        · simp [h'] at hj this; rw [hj] at this; cases this
        · simp [Array.getElem?_eq_none h'] at this
    have after : ∀ (i : Nat), i ∈ rem → ∀ (pre post : List Nat), rem = pre ++ i :: post → (∀ j, j ∈ pre ++ post ↔ j < ops.size ∧ (listed.setIfInBounds i true).getD j true = false) ∧ (pre ++ post).Pairwise (· < ·) ∧ (pre ++ post).length = n := fun i hi pre post he => by
      subst he
      have hpp := List.pairwise_append.1 hpw
      obtain ⟨hp1, hp2, hp3⟩ := hpp
      obtain ⟨hp4, hp5⟩ := List.pairwise_cons.1 hp2
      refine ⟨fun j => ?_, ?_, by simp at hn ⊢; omega⟩
      · have hij : i < listed.size := by have := ((hmem i).1 hi).1; omega
        by_cases e : i = j
        · subst e
          constructor
          · intro hj
            rcases List.mem_append.1 hj with hj | hj
            · have := hp3 _ hj i (by simp); omega
            · have := hp4 _ hj; omega
          · rintro ⟨_, hj⟩
            simp [hij] at hj
        · rw [getD_set_ne true e, ← hmem j]
          simp only [List.mem_append, List.mem_cons]
          constructor
          · rintro (hj | hj)
            · exact .inl hj
            · exact .inr (.inr hj)
          · rintro (hj | hj | hj)
            · exact .inl hj
            · exact absurd hj.symm e
            · exact .inr hj
      · exact List.pairwise_append.2 ⟨hp1, hp5, fun x hx y hy => hp3 x hx y (by simp [hy])⟩
    by_cases hp : ∃ i oi, i ∈ Region.ready .any ops listed ∧ ops[i]? = some oi ∧ isMk oi.op = false
    · obtain ⟨i, oi, hr, hi, hpure⟩ := hp
      have him := inrem i hr
      obtain ⟨pre, post, he⟩ := List.append_of_mem him
      obtain ⟨q1, q2, q3⟩ := after i him pre post he
      have hlt : ∀ k ∈ pre, k < i := fun k hk => by
        rw [he] at hpw
        exact (List.pairwise_append.1 hpw).2.2 k hk i (by simp)
      have hfree : ∀ j oj, ops[j]? = some oj → j ≠ i → listed.getD j true = false → waits oj i = false → oi.apart ops oj = true := fun j oj hj hne hun hno => by
        rcases Nat.lt_or_ge j i with hji | hji
        · exact segPairT_r ((segOkT_at hB hi).2 j oj hji hj) hpure (nowait i j oi hi hr hun)
        · exact segPairT_l ((segOkT_at hB hj).2 i oi (by omega) hi) hpure hno
      rw [he] at h
      obtain ⟨v, hy, hh⟩ := mix_hoist hs hi hpure pre post a w hS (fun k hk => by
        have hkm : k ∈ rem := by rw [he]; simp [hk]
        obtain ⟨k1, k2⟩ := (hmem k).1 hkm
        obtain ⟨ok, hok⟩ : ∃ ok, ops[k]? = some ok := ⟨_, Array.getElem?_eq_getElem k1⟩
        have hki := hlt k hk
        refine ⟨ok, hok, hfree k ok hok (by omega) k2 ?_⟩
        cases hwt : waits ok i with
        | false => rfl
        | true =>
          simp only [waits, Array.any_eq_true, Bool.and_eq_true, beq_iff_eq] at hwt
          obtain ⟨q, hq, hb, he'⟩ := hwt
          have := (segOkT_at hB hok).1 _ (Array.getElem_mem hq) hb
          omega) h
      refine wpAnyH_first hi (Region.noSelect_spec hs) (fun c a w => hQ c a _ _ w) n listed a w (fun j oj hj hne hun hno => hfree j oj hj hne hun ?_) hr hy hS ?_
      · cases hwt : waits oj i with
        | false => rfl
        | true =>
          simp only [waits, Array.any_eq_true, Bool.and_eq_true, beq_iff_eq] at hwt
          obtain ⟨q, hq, hb, he'⟩ := hwt
          exact absurd he' (hno _ (Array.getElem_mem hq) hb)
      · exact ih (pre ++ post) q3 _ _ _ (by simp [hsz]) q2 q1 (hcl.step hr) hS hh
    · cases rem with
      | nil => simp at hn
      | cons k rest =>
        obtain ⟨k1, k2⟩ := (hmem k).1 (by simp)
        obtain ⟨ok, hok⟩ : ∃ ok, ops[k]? = some ok := ⟨_, Array.getElem?_eq_getElem k1⟩
        obtain ⟨hpk, hpr⟩ := List.pairwise_cons.1 hpw
        have hkr : k ∈ Region.ready .any ops listed := by
          refine mem_ready.2 ⟨k2, ok, hok, fun e he hb => ?_⟩
          have hlt := (segOkT_at hB hok).1 e he hb
          cases hl : listed.getD e.on true with
          | true =>
            have : e.on < listed.size := by omega
            simp [this] at hl ⊢; exact hl
          | false =>
            have := (hmem e.on).2 ⟨by omega, hl⟩
            rcases List.mem_cons.1 this with h' | h'
            · omega
            · have := hpk _ h'; omega
        have hmk : isMk ok.op = true := by
          cases hm : isMk ok.op with
          | true => rfl
          | false => exact absurd ⟨k, ok, hkr, hok, hm⟩ hp
        have only : ∀ j, j ∈ Region.ready .any ops listed → j = k := fun j hj => by
          rcases List.mem_cons.1 (inrem j hj) with h' | h'
          · exact h'
          · exfalso
            have hkj := hpk j h'
            obtain ⟨_, oj, hoj, _⟩ := mem_ready.1 hj
            have hmj : isMk oj.op = true := by
              cases hm : isMk oj.op with
              | true => rfl
              | false => exact absurd ⟨j, oj, hj, hoj, hm⟩ hp
            have h1 := segPairT_mk ((segOkT_at hB hoj).2 k ok hkj hok) hmk hmj
            have h2 := hcl.reach (ops.size) j k (by
              obtain ⟨_, o2, ho2, hall⟩ := mem_ready.1 hj
              intro o ho e he hb
              rw [ho2] at ho; obtain rfl := Option.some.inj ho
              exact hall e he hb) h1
            have : k < listed.size := by omega
            simp [this] at k2 h2
            rw [k2] at h2; cases h2
        obtain ⟨q1, q2, q3⟩ := after k (by simp) [] rest rfl
        simp only [List.nil_append] at q1 q2 q3
        refine ⟨fun h0 => (by rw [h0] at hkr; cases hkr), fun j hj => ?_⟩
        obtain rfl := only j hj
        simp only [wpMix, hok, hmk, if_true] at h
        unfold wpOp
        simp only [hok]
        split
        · rename_i hw
          simp only [hw, if_true] at h
          exact .inl (wp_Qn (fun a' w' ⟨h1, h2⟩ => ⟨h1, ih rest q3 _ _ _ (by simp [hsz]) q2 q1 (hcl.step hkr) h1 h2⟩) h)
        · rename_i hw
          simp only [hw] at h
          exact ⟨hS, ih rest q3 _ _ _ (by simp [hsz]) q2 q1 (hcl.step hkr) hS h⟩


theorem wp_region_T (S : World → Prop) {id : Nat} {a : Act} {w : World} {l : List Oper} (hm : P.follows .mixedOrders = true) (hB : segOkT l.toArray = true) (hS : S w.drew)
    (h : wpMixL P l.toArray S (Qt Q) l a w.drew) : (Code.region id l.toArray true).wp P Q a w := by
  refine Code.wp_mono (Q := Qt Q) (fun e a w h => by cases e <;> first | exact h | exact False.elim h) (wp_region_held (S := S) hm ?_)
  have h1 := mix_of_list l 0 a _ (fun j => by simp) h
  have h2 := mixT_sound hB (fun c a d v w h => h) (List.range' 0 l.length) (Array.replicate l.toArray.size false) a w.drew (by simp) List.pairwise_lt_range' (fun j => by
    simp only [List.mem_range'_1, List.size_toArray, Nat.zero_le, true_and, Nat.zero_add]
    constructor
    · intro hj; exact ⟨hj, by simp [hj]⟩
    · exact fun hj => hj.1) (closed_none _ _) hS h1
  simpa using h2
/-- .. in the class of the worlds that add to this one. -/
theorem wp_region_mixT {id : Nat} {a : Act} {w : World} {l : List Oper} (hm : P.follows .mixedOrders = true) (hB : segOkT l.toArray = true)
    (h : wpMixL P l.toArray (fun w' => ∃ t, w' = ext w t) (Qt Q) l a w.drew) : (Code.region id l.toArray true).wp P Q a w :=
  wp_region_T (fun w' => ∃ t, w' = ext w t) hm hB ((Ext.refl w).drew) h
end
end Go.Proofs.Ytnfodkhfoegnaaa

namespace Go.Proofs.Ytnfodkhfoegnaaa
open Go.RowKit
set_option linter.unusedSimpArgs false
set_option linter.unusedVariables false

theorem Chg.frozen {B : List Nat} {w w' : World} (hc : Chg B w w') {b : Nat} (hb : b < w.heap.size) (hn : b ∉ B) (o : Nat) : w'.frozen? ⟨b, o, none⟩ = w.frozen? ⟨b, o, none⟩ := by
  simp [World.frozen?, hc.block b hb hn]
end Go.Proofs.Ytnfodkhfoegnaaa

namespace Go.Proofs.Ytnfodkhfoegnaaa
open Go.RowKit
set_option linter.unusedSimpArgs false
set_option linter.unusedVariables false

/-- A slice's value. -/
structure SlV where
  a : Option Addr
  n : Nat
  c : Nat
def SlV.cells (v : SlV) : List Value := [.slice v.a v.n v.c]
end Go.Proofs.Ytnfodkhfoegnaaa

namespace Go.Proofs.Ytnfodkhfoegnaaa
open Go.RowKit

theorem toPcl_c (x : Pcl) (w : World) : Calls Try.prog 40 #[.agg #[.int .i64 x.n, .int .i64 x.kind, .int .i64 x.wk.id, .int .i64 x.wk.at_, .int .i64 x.wk.coins, .int .i64 x.wk.seq, .int .i64 x.wk.last, .int .i64 x.coins]] w fun e w' => e = .returned (.agg #[.int .i64 x.n, .int .i64 x.kind, .int .i64 x.wk.id, .int .i64 x.wk.at_, .int .i64 x.wk.coins, .int .i64 x.wk.seq, .int .i64 x.wk.last, .int .i64 x.coins]) ∧ Ext w w' := by
  go_enter Try.func40, Try.ntmps40
  go_wp2_with (first | (go_at_call 71; refine (toWlk_c _ _).mono ?_; rintro e w' ⟨rfl, t, rfl⟩))
  exact bodyPost_ret (v := .agg #[.int .i64 x.n, .int .i64 x.kind, .int .i64 x.wk.id, .int .i64 x.wk.at_, .int .i64 x.wk.coins, .int .i64 x.wk.seq, .int .i64 x.wk.last, .int .i64 x.coins]) (by simp [results, Try.results40, go_sem]) rfl ⟨rfl, (by ((try simp only [ext_drew]); (try simp only [ext_ext]); repeat (first | exact Ext.refl _ | with_reducible apply Ext.add | with_reducible apply Ext.dr | apply Ext.alloc | apply Ext.ext | apply Ext.drew | refine Ext.trans ?_ (by assumption))))⟩

def Pcl.mk' (q : Int) : Pcl := ⟨q, q + 1, ⟨q + 1 + 1, q + 1 + 1 + 1, q + 1 + 1 + 1 + 1, q + 1 + 1 + 1 + 1 + 1, q + 1 + 1 + 1 + 1 + 1 + 1⟩, q + 1 + 1 + 1 + 1 + 1 + 1 + 1⟩
end Go.Proofs.Ytnfodkhfoegnaaa

namespace Go.Proofs.Ytnfodkhfoegnaaa
open Go.RowKit
set_option linter.unusedSimpArgs false
set_option linter.unusedVariables false

/-- v is a slice of one's own with the elements xs, that may be appended to; B: its block. -/
def RowX {α : Type} (w : World) (T : TypeId) (k : Nat) (cells : α → List Value) (v : Value) (xs : List α) (B : List Nat) : Prop :=
  (xs = [] ∧ B = [] ∧ ∃ a, v = .slice a 0 0 ∧ (a = none ∨ ∃ g, a = some (⟨g, 0, none⟩ : Addr))) ∨
  ∃ g cap cur, v = .slice (some ⟨g, 0, none⟩) xs.length cap ∧ B = [g] ∧ w.heap[g]? = some (.cells cur T (0, 0)) ∧ xs.length ≤ cap ∧ cap ≤ maxLen ∧ cur.size = cap * k ∧ FillI cells k cur xs xs.length
section
variable {α : Type} {cells : α → List Value} {dat : α → Dat} {sch : Sch} {k : Nat} {T : TypeId} {w w' : World} {v : Value} {xs : List α} {B : List Nat}
theorem RowX.lt (h : RowX w T k cells v xs B) : ∀ b ∈ B, b < w.heap.size := by
  rcases h with ⟨_, rfl, _⟩ | ⟨g, cap, cur, _, rfl, hb, _⟩
  · simp
  · simpa using lt_blk hb
theorem RowX.slice (h : RowX w T k cells v xs B) : ∃ a c, v = .slice a xs.length c := by
  rcases h with ⟨rfl, rfl, a, rfl, _⟩ | ⟨g, cap, cur, rfl, _⟩
  · exact ⟨_, _, rfl⟩
  · exact ⟨_, _, rfl⟩
theorem RowX.len {a : Option Addr} {n c : Nat} (h : RowX w T k cells (.slice a n c) xs B) : n = xs.length := by
  obtain ⟨a', c', e⟩ := h.slice
  exact (Value.slice.inj e).2.1
theorem RowX.same (h : RowX w T k cells v xs B) (hs : ∀ b ∈ B, w'.heap[b]? = w.heap[b]?) : RowX w' T k cells v xs B := by
  rcases h with h | ⟨g, cap, cur, h1, rfl, h2, h3⟩
  · exact .inl h
  · exact .inr ⟨g, cap, cur, h1, rfl, (hs g (by simp)).trans h2, h3⟩
theorem RowX.chg {B' : List Nat} (h : RowX w T k cells v xs B) (hc : Chg B' w w') (hd : ∀ b ∈ B, b ∉ B') : RowX w' T k cells v xs B :=
  h.same fun b hb => hc.block b (h.lt b hb) (hd b hb)
theorem RowX.of (h : RowX w T k cells v xs B) (hE : Ext w w') : RowX w' T k cells v xs B := h.same fun b hb => hE.block (h.lt b hb)
theorem RowX.max (h : RowX w T k cells v xs B) : xs.length ≤ maxLen := by
  rcases h with ⟨rfl, _⟩ | ⟨g, cap, cur, _, _, _, h1, h2, _⟩
  · exact Nat.zero_le _
  · exact Nat.le_trans h1 h2
theorem mul_row {n cap k : Nat} (h : n ≤ cap) : n * k ≤ cap * k := Nat.mul_le_mul_right _ h
theorem RowX.own (hsz : sch.size = k) (hown : ∀ w x, Own w sch (cells x) (dat x) []) (h : RowX w T k cells v xs B) : Own w (.sl sch) [v] (.l (xs.map dat)) B := by
  have hm := h.max
  rcases h with ⟨rfl, rfl, a, rfl, _⟩ | ⟨g, cap, cur, rfl, rfl, hb, h1, h2, hs, hf⟩
  · exact own_flat_mk (xs := []) (k := k) hsz hown (Nat.zero_le _) (.inl ⟨rfl, rfl⟩)
  · exact own_flat_mk hsz hown hm (.inr ⟨g, cur, T, rfl, rfl, hb, by rw [hs]; exact mul_row h1, hf⟩)
theorem fill_take (hcl : ∀ x, (cells x).length = k) {cur : Array Value} (hs : xs.length * k ≤ cur.size) (hf : FillI cells k cur xs xs.length) : cur.toList.take (xs.length * k) = xs.flatMap cells := by
  have hl : (xs.flatMap cells).length = xs.length * k := by
    rw [List.length_flatMap, List.map_congr_left (g := fun _ => k) (fun x _ => hcl x), List.map_const', List.sum_replicate_nat]
  apply List.ext_getElem?
  intro j
  by_cases hj : j < xs.length * k
  · obtain ⟨u, hu⟩ : ∃ u, (xs.flatMap cells)[j]? = some u := ⟨_, List.getElem?_eq_getElem (by omega)⟩
    rw [hu, List.getElem?_take, if_pos hj, Array.getElem?_toList]
    obtain ⟨i, r, x, rfl, hr, hx, hc⟩ := flatMap_get hcl xs j u hu
    exact hf i x (List.getElem?_eq_some_iff.1 hx).1 hx r u hc
  · rw [List.getElem?_eq_none (by simp; omega), List.getElem?_eq_none (by omega)]
theorem RowX.row (hcl : ∀ x, (cells x).length = k) {base : Nat} (h : RowX w T k cells v xs B) (hB : ∀ b ∈ B, base ≤ b) : (xs = [] ∧ B = [] ∧ ∃ a, v = .slice a 0 0 ∧ (a = none ∨ ∃ g, a = some (⟨g, 0, none⟩ : Addr))) ∨ (w.ownsRow base T k v xs.length (xs.flatMap cells) ∧ B = v.ownBlock.toList) := by
  rcases h with h | ⟨g, cap, cur, rfl, rfl, hb, h1, h2, hs, hf⟩
  · exact .inl h
  · refine .inr ⟨⟨?_, .inr ⟨g, cap, cur, rfl, hB g (by simp), hb, h1, h2, hs, fill_take hcl (by rw [hs]; exact mul_row h1) hf⟩⟩, rfl⟩
    rw [List.length_flatMap, List.map_congr_left (g := fun _ => k) (fun x _ => hcl x), List.map_const', List.sum_replicate_nat]
/-- An element: where it lies, and what becomes of the row when it is overwritten. -/
theorem RowX.at {a : Option Addr} {n c : Nat} (hpos : 0 < k) (hcl : ∀ x, (cells x).length = k) (h : RowX w T k cells (.slice a n c) xs B) {j : Nat} (hj : j < xs.length) :
    ∃ (g : Nat) (cur : Array Value) (x : α), a = some ⟨g, 0, none⟩ ∧ B = [g] ∧ n = xs.length ∧ n ≤ c ∧ xs[j]? = some x ∧ w.heap[g]? = some (.cells cur T (0, 0)) ∧ j * k + k ≤ cur.size ∧ (∀ i u, (cells x)[i]? = some u → cur[j * k + i]? = some u) ∧
      ∀ (w' : World) (cur' : Array Value) (y : α), w'.heap[g]? = some (.cells cur' T (0, 0)) → cur'.size = cur.size → (∀ i, ¬ (j * k ≤ i ∧ i < j * k + k) → cur'[i]? = cur[i]?) → (∀ i u, (cells y)[i]? = some u → cur'[j * k + i]? = some u) → RowX w' T k cells (.slice a n c) (xs.set j y) B := by
  rcases h with ⟨rfl, _⟩ | ⟨g, cap, cur, hv, rfl, hb, h1, h2, hs, hf⟩
  · simp at hj
  · obtain ⟨rfl, rfl, rfl⟩ := Value.slice.inj hv
    have hle : j * k + k ≤ cur.size := by
      have : (j + 1) * k ≤ xs.length * k := Nat.mul_le_mul_right _ hj
      have := mul_row (k := k) h1
      rw [Nat.add_mul, Nat.one_mul] at *; omega
    refine ⟨g, cur, xs[j], rfl, rfl, rfl, h1, List.getElem?_eq_getElem hj, hb, hle, fun i u hu => hf j _ hj (List.getElem?_eq_getElem hj) i u hu, fun w' cur' y hb' hs' ho hi => .inr ⟨g, c, cur', by rw [List.length_set], rfl, hb', by rw [List.length_set]; exact h1, h2, by rw [hs', hs], hf.put hcl hj ho hi⟩⟩
end

section
variable {α : Type} {cells : α → List Value} {k bytes : Nat} {z : Value} {TS T : TypeId}
end
end Go.Proofs.Ytnfodkhfoegnaaa

namespace Go.Proofs.Ytnfodkhfoegnaaa
open Go.RowKit

theorem toGst_c (x : Gst) (w : World) : Calls Try.prog 27 #[.agg #[.int .i64 x.src, .int .i64 x.count, .int .i64 x.wk.id, .int .i64 x.wk.at_, .int .i64 x.wk.coins, .int .i64 x.wk.seq, .int .i64 x.wk.last]] w fun e w' => e = .returned (.agg #[.int .i64 x.src, .int .i64 x.count, .int .i64 x.wk.id, .int .i64 x.wk.at_, .int .i64 x.wk.coins, .int .i64 x.wk.seq, .int .i64 x.wk.last]) ∧ Ext w w' := by
  go_enter Try.func27, Try.ntmps27
  go_wp2_with (first | (go_at_call 71; refine (toWlk_c _ _).mono ?_; rintro e w' ⟨rfl, t, rfl⟩))
  exact bodyPost_ret (v := .agg #[.int .i64 x.src, .int .i64 x.count, .int .i64 x.wk.id, .int .i64 x.wk.at_, .int .i64 x.wk.coins, .int .i64 x.wk.seq, .int .i64 x.wk.last]) (by simp [results, Try.results27, go_sem]) rfl ⟨rfl, (by ((try simp only [ext_drew]); (try simp only [ext_ext]); repeat (first | exact Ext.refl _ | with_reducible apply Ext.add | with_reducible apply Ext.dr | apply Ext.alloc | apply Ext.ext | apply Ext.drew | refine Ext.trans ?_ (by assumption))))⟩

def Gst.mk' (q : Int) : Gst := ⟨q, q + 1, ⟨q + 1 + 1, q + 1 + 1 + 1, q + 1 + 1 + 1 + 1, q + 1 + 1 + 1 + 1 + 1, q + 1 + 1 + 1 + 1 + 1 + 1⟩⟩
end Go.Proofs.Ytnfodkhfoegnaaa

namespace Go.Proofs.Ytnfodkhfoegnaaa
open Go.RowKit
set_option linter.unusedSimpArgs false
set_option linter.unusedVariables false

theorem setCells_row (w : World) (b : Nat) : ∀ (vs : List Value) (o : Nat) (w : World), w.setCells b o vs = setRow w b o vs
  | [], _, _ => rfl
  | v :: vs, o, w => by
    show (w.setCell ⟨b, o, none⟩ v).setCells b (o + 1) vs = setRow (w.setCell ⟨b, o, none⟩ v) b (o + 1) vs
    exact setCells_row w b vs (o + 1) _
end Go.Proofs.Ytnfodkhfoegnaaa

namespace Go.Proofs.Ytnfodkhfoegnaaa
open Go.RowKit
set_option linter.unusedSimpArgs false
set_option linter.unusedVariables false

section
variable {P : Program} {ops : Array Oper} {Q : Exit → Act → World → Prop} {base : World} {z N : Nat} {oz oN : Oper}

/-- What an operation of the walk does behind the gap. -/
def wpGap (P : Program) (ops : Array Oper) (base : World) (K : List (Nat × Nat) → Act → World → Prop) : List Nat → List (Nat × Nat) → Act → World → Prop
  | [], iv, a, w => K iv a w
  | i :: r, iv, a, w => match ops[i]? with
    | none => False
    | some o => if isMk o.op then (if Region.wanted o (yielded ops a.tmps) then ∀ W, Ext w W → o.wp P a W (fun a' w' => Ext W w' ∧ wpGap P ops base K r ((W.heap.size, w'.heap.size) :: iv) a' w') Qn else wpGap P ops base K r iv (a.put o.dst undef) w)
      else ∃ v, YieldsIf P ops (fun w' => Ext base w') o v a ∧ wpGap P ops base K r iv (a.put o.dst v) w

theorem wp_Qn' {o : Oper} {a : Act} {w : World} {K K' : Act → World → Prop} (h : ∀ a w, K a w → K' a w) (hh : o.wp P a w K Qn) : o.wp P a w K' Qn := wp_Qn h hh

variable {K : List (Nat × Nat) → Act → World → Prop}
theorem gap_mono (hK : ∀ iv a w W, K iv a w → Ext w W → K iv a W) : ∀ (l : List Nat) (iv : List (Nat × Nat)) (a : Act) (w W : World), wpGap P ops base K l iv a w → Ext w W → wpGap P ops base K l iv a W
  | [], iv, a, w, W, h, hE => hK iv a w W h hE
  | i :: r, iv, a, w, W, h, hE => by
    simp only [wpGap] at h ⊢
    split
    · rename_i hn; rw [hn] at h; exact h
    · rename_i o ho
      rw [ho] at h
      simp only at h
      split
      · rename_i hm
        rw [if_pos hm] at h
        split
        · rename_i hw
          rw [if_pos hw] at h
          exact fun W' hE' => h W' (hE.trans hE')
        · rename_i hw
          rw [if_neg hw] at h
          exact gap_mono hK r iv _ w W h hE
      · rename_i hm
        rw [if_neg hm] at h
        obtain ⟨v, hy, h⟩ := h
        exact ⟨v, hy, gap_mono hK r iv _ w W h hE⟩

theorem gap_hoist (hs : Region.noSelect ops = true) {i : Nat} {oi : Oper} (hi : ops[i]? = some oi) (hp : isMk oi.op = false) : ∀ (pre post : List Nat) (iv : List (Nat × Nat)) (a : Act) (w : World), Ext base w →
    (∀ k ∈ pre, ∃ ok, ops[k]? = some ok ∧ oi.apart ops ok = true) → wpGap P ops base K (pre ++ i :: post) iv a w →
    ∃ v, YieldsIf P ops (fun w' => Ext base w') oi v a ∧ wpGap P ops base K (pre ++ post) iv (a.put oi.dst v) w
  | [], post, iv, a, w, _, _, h => by
    simp only [List.nil_append, wpGap, hi, hp, Bool.false_eq_true, if_false] at h
    exact h
  | k :: pre, post, iv, a, w, hw, hap, h => by
    obtain ⟨ok, hok, hapk⟩ := hap k (by simp)
    have hap' : ∀ k ∈ pre, ∃ ok, ops[k]? = some ok ∧ oi.apart ops ok = true := fun k hk => hap k (by simp [hk])
    obtain ⟨h1, h2, h3⟩ := Oper.apart_spec hapk
    have hsi := fun cs b => Region.noSelect_spec hs i oi cs b hi
    have hsk := fun cs b => Region.noSelect_spec hs k ok cs b hok
    have back : ∀ (a : Act) (u v : Value), YieldsIf P ops (fun w' => Ext base w') oi v (a.put ok.dst u) → YieldsIf P ops (fun w' => Ext base w') oi v a := fun a u v hy =>
      hy.of_same (execOp_put oi hsi a ok.dst u h3).symm (wanted_put oi a ok.dst u h3).symm
    have backD : ∀ (a : Act) (d : Deferred) (v : Value), YieldsIf P ops (fun w' => Ext base w') oi v { a with defers := d :: a.defers } → YieldsIf P ops (fun w' => Ext base w') oi v a := fun a d v hy => hy.of_same rfl rfl
    simp only [List.cons_append, wpGap, hok] at h ⊢
    by_cases hm : isMk ok.op = true
    · simp only [hm, if_true] at h ⊢
      by_cases hwt : Region.wanted ok (yielded ops a.tmps) = true
      · simp only [hwt, if_true] at h
        have hwt' : ∀ v, Region.wanted ok (yielded ops (a.put oi.dst v).tmps) = true := fun v => (wanted_put ok a oi.dst v h1).trans hwt
        have hex : ∀ v, execOp (a.put oi.dst v).eval ok = execOp a.eval ok := fun v => execOp_put ok hsk a oi.dst v h1
        -- one world
        have one : ∀ W, Ext w W → ∃ v, YieldsIf P ops (fun w' => Ext base w') oi v a ∧ ok.wp P (a.put oi.dst v) W (fun a' w' => Ext W w' ∧ wpGap P ops base K (pre ++ post) ((W.heap.size, w'.heap.size) :: iv) a' w') Qn := by
          intro W hE
          have hW : Ext base W := hw.trans hE
          have h := h W hE
          have step : ∀ (a' : Act) (w' : World), Ext W w' → wpGap P ops base K (pre ++ i :: post) ((W.heap.size, w'.heap.size) :: iv) a' w' → ∃ v, YieldsIf P ops (fun w' => Ext base w') oi v a' ∧ wpGap P ops base K (pre ++ post) ((W.heap.size, w'.heap.size) :: iv) (a'.put oi.dst v) w' := fun a' w' hs' hh => gap_hoist hs hi hp pre post _ a' w' (hW.trans hs') hap' hh
          have move : ∀ (u v : Value) (w' : World), YieldsIf P ops (fun w' => Ext base w') oi v a → Ext W w' ∧ wpGap P ops base K (pre ++ i :: post) ((W.heap.size, w'.heap.size) :: iv) (a.put ok.dst u) w' → Ext W w' ∧ wpGap P ops base K (pre ++ post) ((W.heap.size, w'.heap.size) :: iv) ((a.put oi.dst v).put ok.dst u) w' := fun u v w' hv ⟨hs', hh⟩ => by
            obtain ⟨v', hy', hh'⟩ := step _ _ hs' hh
            obtain rfl := yields_unique (S := fun w' => Ext base w') hW hv (back a u v' hy')
            exact ⟨hs', by rw [Act.put_comm a v u h2]; exact hh'⟩
          unfold Oper.wp at h ⊢
          simp only [hex]
          generalize (execOp a.eval ok).run P W = r at *
          cases r with
          | halt x w' => cases x <;> simp only [Oper.upon] at h; exact False.elim h
          | ok n w' =>
            cases n <;> simp only [Oper.upon] at h ⊢
            case value u =>
              obtain ⟨v, hy, _⟩ := step _ _ h.1 h.2
              exact ⟨v, back a u v hy, move u v w' (back a u v hy) h⟩
            case skip =>
              obtain ⟨v, hy, _⟩ := step _ _ h.1 h.2
              exact ⟨v, back a _ v hy, move _ v w' (back a _ v hy) h⟩
            case defer d =>
              obtain ⟨v, hy, hh⟩ := step _ _ h.1 h.2
              have hy' := backD a d v (back _ _ v hy)
              refine ⟨v, hy', h.1, ?_⟩
              rw [Act.put_defers, Act.put_comm _ v undef h2]
              exact hh
            case enter f args =>
              obtain ⟨e, w'', fr, hR, _⟩ := id h []
              cases e with
              | panicked c => exact False.elim hR
              | outgrown => exact False.elim (no_out hR)
              | returned u =>
                obtain ⟨v, hy, _⟩ := step _ _ hR.1 hR.2
                have hv := back a u v hy
                refine ⟨v, hv, Calls.mono h fun e w3 he => ?_⟩
                cases e with
                | panicked c => exact he
                | outgrown => exact he
                | returned u' => exact move u' v w3 hv he
            case row row args =>
              obtain ⟨u, w'', hR, _⟩ := id h default []
              obtain ⟨v, hy, _⟩ := step _ _ hR.1 hR.2
              have hv := back a u v hy
              exact ⟨v, hv, Rows.mono h fun u' w3 he => move u' v w3 hv he⟩
        obtain ⟨v, hv, _⟩ := one w (Ext.refl w)
        refine ⟨v, hv, ?_⟩
        rw [if_pos (hwt' v)]
        intro W hE
        obtain ⟨v', hv', hh⟩ := one W hE
        obtain rfl := yields_unique (S := fun w' => Ext base w') hw hv hv'
        exact hh
      · simp only [hwt] at h
        obtain ⟨v, hy, hh⟩ := gap_hoist hs hi hp pre post iv _ w hw hap' h
        have hv := back a _ v hy
        refine ⟨v, hv, ?_⟩
        rw [wanted_put ok a oi.dst v h1, if_neg hwt, Act.put_comm a v undef h2]
        exact hh
    · simp only [hm] at h ⊢
      obtain ⟨u, hu, h⟩ := h
      obtain ⟨v, hy, hh⟩ := gap_hoist hs hi hp pre post iv _ w hw hap' h
      have hv := back a u v hy
      refine ⟨v, hv, u, hu.of_same (execOp_put ok hsk a oi.dst v h1) (wanted_put ok a oi.dst v h1), ?_⟩
      rw [Act.put_comm a v u h2]
      exact hh

theorem wp_put_other {o : Oper} {d : Option Tmp} {v : Value} {a : Act} {w : World} {R : Act → World → Prop} (hsel : ∀ cs b, o.op ≠ .select cs b) (h1 : ∀ t, d = some t → t ∉ o.looksAt ops) (h2 : ∀ t, d = some t → o.dst ≠ some t)
    (h : o.wp P a w (fun a' w' => R (a'.put d v) w') Qn) : o.wp P (a.put d v) w R Qn := by
  unfold Oper.wp at h ⊢
  rw [execOp_put o hsel a d v h1]
  generalize (execOp a.eval o).run P w = r at *
  cases r with
  | halt x w' => cases x <;> simp only [Oper.upon] at h ⊢; exact False.elim h
  | ok n w' =>
    cases n <;> simp only [Oper.upon] at h ⊢
    case value u => rw [Act.put_comm a v u h2]; exact h
    case skip => rw [Act.put_comm a v undef h2]; exact h
    case defer x =>
      rw [Act.put_defers, Act.put_comm _ v undef h2]
      exact h
    case enter f args =>
      refine Calls.mono h fun e w3 he => ?_
      cases e with
      | panicked c => exact he
      | outgrown => exact he
      | returned u => simp only at he ⊢; rw [Act.put_comm a v u h2]; exact he
    case row row args => exact Rows.mono h fun u w3 he => by rw [Act.put_comm a v u h2]; exact he

def ptrTo (p : Nat) : Value := .pointer (some ⟨p, 0, none⟩)
def azPut (d : Option Tmp) (az : Option Nat) (a : Act) : Act := match az with
  | none => a
  | some p => a.put d (ptrTo p)
/-- The store, with the block that was made at any time handed out. -/
def gapK (P : Program) (ops : Array Oper) (Q : Exit → Act → World → Prop) (base : World) (N : Nat) (oz oN : Oper) (zobj : Obj) (iv : List (Nat × Nat)) (a : Act) (w : World) : Prop :=
  ∀ W p, Ext w W → Ext base W → base.heap.size ≤ p → W.heap[p]? = some zobj → (∀ q ∈ iv, p < q.1 ∨ q.2 ≤ p) →
    oN.wp P (a.put oz.dst (ptrTo p)) W (fun a' w' => Ext base w' ∧ wpMix P ops (fun w' => Ext base w') Q (List.range' (N + 1) (ops.size - (N + 1))) a' w') Qn
theorem gapK_mono {zobj : Obj} (iv : List (Nat × Nat)) (a : Act) (w W : World) (h : gapK P ops Q base N oz oN zobj iv a w) (hE : Ext w W) : gapK P ops Q base N oz oN zobj iv a W :=
  fun W' p hE' => h W' p (hE.trans hE')

end
end Go.Proofs.Ytnfodkhfoegnaaa

namespace Go.Proofs.Ytnfodkhfoegnaaa
open Go.RowKit
set_option linter.unusedSimpArgs false
set_option linter.unusedVariables false

@[go_sem] theorem drew_size' (w : World) : w.drew.heap.size = w.heap.size := rfl
@[go_sem] theorem drew_cell'' (w : World) (a : Addr) : w.drew.cell? a = w.cell? a := rfl
@[go_sem] theorem drew_frozen'' (w : World) (a : Addr) : w.drew.frozen? a = w.frozen? a := rfl
section
variable {P : Program} {ops : Array Oper} {Q : Exit → Act → World → Prop} {base : World} {K : List (Nat × Nat) → Act → World → Prop}
def wpGapL (P : Program) (ops : Array Oper) (base : World) (K : List (Nat × Nat) → Act → World → Prop) : List Oper → List (Nat × Nat) → Act → World → Prop
  | [], iv, a, w => K iv a w
  | o :: r, iv, a, w => if isMk o.op then (if Region.wanted o (yielded ops a.tmps) then ∀ W, Ext w W → o.wp P a W (fun a' w' => Ext W w' ∧ wpGapL P ops base K r ((W.heap.size, w'.heap.size) :: iv) a' w') Qn else wpGapL P ops base K r iv (a.put o.dst undef) w)
      else ∃ v, YieldsIf P ops (fun w' => ∃ t, w' = ext base t) o v a ∧ wpGapL P ops base K r iv (a.put o.dst v) w
theorem gap_of_list {K' : List (Nat × Nat) → Act → World → Prop} (hK : ∀ iv a w, K iv a w → K' iv a w) : ∀ (l : List Oper) (rem : List Nat) (iv : List (Nat × Nat)) (a : Act) (w : World), rem.map (fun i => ops[i]?) = l.map some → wpGapL P ops base K l iv a w → wpGap P ops base K' rem iv a w
  | [], rem, iv, a, w, hl, h => by
    obtain rfl : rem = [] := by simpa using hl
    exact hK iv a w h
  | o :: l, rem, iv, a, w, hl, h => by
    cases rem with
    | nil => simp at hl
    | cons i rem =>
      simp only [List.map_cons, List.cons.injEq] at hl
      simp only [wpGap, hl.1]
      simp only [wpGapL] at h
      split
      · rename_i hm
        rw [if_pos hm] at h
        split
        · rename_i hw
          rw [if_pos hw] at h
          exact fun W hE => wp_Qn' (fun a' w' ⟨h1, h2⟩ => ⟨h1, gap_of_list hK l rem _ a' w' hl.2 h2⟩) (h W hE)
        · rename_i hw
          rw [if_neg hw] at h
          exact gap_of_list hK l rem iv _ w hl.2 h
      · rename_i hm
        rw [if_neg hm] at h
        obtain ⟨v, hy, h⟩ := h
        exact ⟨v, hy, gap_of_list hK l rem iv _ w hl.2 h⟩

theorem gap_pure {o : Oper} {r : List Oper} {iv : List (Nat × Nat)} {a : Act} {w : World} (hk : isMk o.op = false) (h : wpQuiet P ops (fun w' => ∃ t, w' = ext base t) (fun a' => wpGapL P ops base K r iv a' w) [o] a) : wpGapL P ops base K (o :: r) iv a w := by
  unfold wpGapL
  rw [if_neg (by rw [hk]; decide)]
  unfold wpQuiet at h
  split at h
  · rename_i hw
    obtain ⟨v, h1, h2⟩ := h
    exact ⟨v, .inl ⟨hw, fun w hS => value_of_quiet hk (h1 w hS)⟩, h2⟩
  · rename_i hw
    exact ⟨undef, .inr ⟨by simpa using hw, rfl⟩, h⟩
theorem gap_skip {o : Oper} {r : List Oper} {iv : List (Nat × Nat)} {a : Act} {w : World} (hw : Region.wanted o (yielded ops a.tmps) = false) (h : wpGapL P ops base K r iv (a.put o.dst undef) w) : wpGapL P ops base K (o :: r) iv a w := by
  unfold wpGapL
  split
  · rw [if_neg (by rw [hw]; decide)]; exact h
  · exact ⟨_, .inr ⟨hw, rfl⟩, h⟩
theorem gap_mk {o : Oper} {r : List Oper} {iv : List (Nat × Nat)} {a : Act} {w : World} (hk : isMk o.op = true) (hw : Region.wanted o (yielded ops a.tmps) = true) (h : ∀ W, Ext w W → ∀ R : Act → World → Prop, (∀ a' w', Ext W w' → wpGapL P ops base K r ((W.heap.size, w'.heap.size) :: iv) a' w' → R a' w') → o.wp P a W R Qn) : wpGapL P ops base K (o :: r) iv a w := by
  unfold wpGapL
  rw [if_pos hk, if_pos hw]
  exact fun W hE => h W hE _ fun a' w' h1 h2 => ⟨h1, h2⟩

theorem st_blk {b : Nat} {T : TypeId} : ∀ (vs : List Value) (arr : Array Value) (w : World) (o i : Nat), w.heap[b]? = some (.cells arr T (0, 0)) → o + i + vs.length ≤ arr.size → (∀ v ∈ vs, v.oneCell' = true) →
    (storeCells ⟨b, o, none⟩ vs i).run P w = .ok () (setRow w b (o + i) vs)
  | [], arr, w, o, i, _, _, _ => by simp [storeCells, setRow]
  | v :: vs, arr, w, o, i, hb, h, hv => by
    simp only [List.length_cons] at h
    have hc : w.cell? ⟨b, o + i, none⟩ = some (arr[o + i]'(by omega)) := by rw [cell_blk hb]; exact Array.getElem?_eq_getElem _
    have hf := frozen_blk hb (o + i)
    have h1 := run_store P w ⟨b, o + i, none⟩ v .plain (hv v (by simp))
    have h2 := st_blk vs (arr.setIfInBounds (o + i) v) (w.setCell ⟨b, o + i, none⟩ v) o (i + 1) (blk_set hb) (by simp; omega) (fun u hu => hv u (by simp [hu]))
    simp only [hc, hf] at h1
    simp only [storeCells, ld_add, Sem.run_bind, h1, Result.andThen_ok, h2, Bool.false_eq_true, if_false, setRow]
    rfl
theorem putRow_all (vs : List Value) (arr : Array Value) (h : vs.length = arr.size) : putRow arr 0 vs = vs.toArray := by
  apply Array.ext_getElem?
  intro i
  rw [putRow_get vs arr 0 i (by omega)]
  split
  · simp
  · rw [Array.getElem?_eq_none (by omega), Array.getElem?_eq_none (by simp; omega)]

end
section
variable {Q : Exit → Act → World → Prop}
theorem gap_nil {P : Program} {ops : Array Oper} {base : World} {K : List (Nat × Nat) → Act → World → Prop} {iv : List (Nat × Nat)} {a : Act} {w : World} (h : K iv a w) : wpGapL P ops base K [] iv a w := h
theorem Ext.cell {a b : World} (h : Ext a b) {k : Nat} (hk : k < a.heap.size) (o : Nat) : b.cell? ⟨k, o, none⟩ = a.cell? ⟨k, o, none⟩ := World.cell?_of_block (a := ⟨k, o, none⟩) (h.block hk)
theorem gap_own2 {V1 V W' : World} {lo hi p b0 : Nat} {s : Sch} {vs : List Value} {d : Dat} (hO : OwnR lo hi V1 s vs d) (hE1 : Ext V1 V) (hc : Chg [p] V W') (hd : p < lo ∨ hi ≤ p) (hl : b0 ≤ lo) : ∃ lo' hi', b0 ≤ lo' ∧ hi' ≤ W'.heap.size ∧ (p < lo' ∨ hi' ≤ p) ∧ OwnR lo' hi' W' s vs d := by
  have h1 := OwnR.of hO hE1
  have h2 : ChgR p (p + 1) V W' := hc.toR fun k hk => by
    obtain rfl : k = p := by simpa using hk
    omega
  have h3 := OwnR.chg h1 h2 (by omega)
  exact ⟨lo, hi, hl, h3.1, hd, h3⟩
end
end Go.Proofs.Ytnfodkhfoegnaaa

namespace Go.Proofs.Ytnfodkhfoegnaaa
open Go.RowKit
set_option linter.unusedSimpArgs false

theorem st_16 {P : Program} (w : World) (b o : Nat) (v0 v1 v2 v3 v4 v5 v6 v7 v8 v9 v10 v11 v12 v13 v14 v15 : Value) (h0 : (w.cell? ⟨b, o, none⟩).isSome = true) (h1 : (w.cell? ⟨b, o + 1, none⟩).isSome = true) (h2 : (w.cell? ⟨b, o + 2, none⟩).isSome = true) (h3 : (w.cell? ⟨b, o + 3, none⟩).isSome = true) (h4 : (w.cell? ⟨b, o + 4, none⟩).isSome = true) (h5 : (w.cell? ⟨b, o + 5, none⟩).isSome = true) (h6 : (w.cell? ⟨b, o + 6, none⟩).isSome = true) (h7 : (w.cell? ⟨b, o + 7, none⟩).isSome = true) (h8 : (w.cell? ⟨b, o + 8, none⟩).isSome = true) (h9 : (w.cell? ⟨b, o + 9, none⟩).isSome = true) (h10 : (w.cell? ⟨b, o + 10, none⟩).isSome = true) (h11 : (w.cell? ⟨b, o + 11, none⟩).isSome = true) (h12 : (w.cell? ⟨b, o + 12, none⟩).isSome = true) (h13 : (w.cell? ⟨b, o + 13, none⟩).isSome = true) (h14 : (w.cell? ⟨b, o + 14, none⟩).isSome = true) (h15 : (w.cell? ⟨b, o + 15, none⟩).isSome = true) (z0 : w.frozen? ⟨b, o, none⟩ = false) (z1 : w.frozen? ⟨b, o + 1, none⟩ = false) (z2 : w.frozen? ⟨b, o + 2, none⟩ = false) (z3 : w.frozen? ⟨b, o + 3, none⟩ = false) (z4 : w.frozen? ⟨b, o + 4, none⟩ = false) (z5 : w.frozen? ⟨b, o + 5, none⟩ = false) (z6 : w.frozen? ⟨b, o + 6, none⟩ = false) (z7 : w.frozen? ⟨b, o + 7, none⟩ = false) (z8 : w.frozen? ⟨b, o + 8, none⟩ = false) (z9 : w.frozen? ⟨b, o + 9, none⟩ = false) (z10 : w.frozen? ⟨b, o + 10, none⟩ = false) (z11 : w.frozen? ⟨b, o + 11, none⟩ = false) (z12 : w.frozen? ⟨b, o + 12, none⟩ = false) (z13 : w.frozen? ⟨b, o + 13, none⟩ = false) (z14 : w.frozen? ⟨b, o + 14, none⟩ = false) (z15 : w.frozen? ⟨b, o + 15, none⟩ = false) (q0 : v0.oneCell' = true) (q1 : v1.oneCell' = true) (q2 : v2.oneCell' = true) (q3 : v3.oneCell' = true) (q4 : v4.oneCell' = true) (q5 : v5.oneCell' = true) (q6 : v6.oneCell' = true) (q7 : v7.oneCell' = true) (q8 : v8.oneCell' = true) (q9 : v9.oneCell' = true) (q10 : v10.oneCell' = true) (q11 : v11.oneCell' = true) (q12 : v12.oneCell' = true) (q13 : v13.oneCell' = true) (q14 : v14.oneCell' = true) (q15 : v15.oneCell' = true) :
    (storeCells ⟨b, o, none⟩ [v0, v1, v2, v3, v4, v5, v6, v7, v8, v9, v10, v11, v12, v13, v14, v15] 0).run P w = .ok () ((((((((((((((((w.setCell ⟨b, o, none⟩ v0).setCell ⟨b, o + 1, none⟩ v1).setCell ⟨b, o + 2, none⟩ v2).setCell ⟨b, o + 3, none⟩ v3).setCell ⟨b, o + 4, none⟩ v4).setCell ⟨b, o + 5, none⟩ v5).setCell ⟨b, o + 6, none⟩ v6).setCell ⟨b, o + 7, none⟩ v7).setCell ⟨b, o + 8, none⟩ v8).setCell ⟨b, o + 9, none⟩ v9).setCell ⟨b, o + 10, none⟩ v10).setCell ⟨b, o + 11, none⟩ v11).setCell ⟨b, o + 12, none⟩ v12).setCell ⟨b, o + 13, none⟩ v13).setCell ⟨b, o + 14, none⟩ v14).setCell ⟨b, o + 15, none⟩ v15) := by
  have := run_storeCells_cells (P := P) b o [v0, v1, v2, v3, v4, v5, v6, v7, v8, v9, v10, v11, v12, v13, v14, v15] 0 w (fun j hj => by
    match j, hj with
    | 0, _ => exact h0
    | 1, _ => exact h1
    | 2, _ => exact h2
    | 3, _ => exact h3
    | 4, _ => exact h4
    | 5, _ => exact h5
    | 6, _ => exact h6
    | 7, _ => exact h7
    | 8, _ => exact h8
    | 9, _ => exact h9
    | 10, _ => exact h10
    | 11, _ => exact h11
    | 12, _ => exact h12
    | 13, _ => exact h13
    | 14, _ => exact h14
    | 15, _ => exact h15
    | q + 16, hq => exact absurd hq (by simp)) (fun j hj => by
    match j, hj with
    | 0, _ => exact z0
    | 1, _ => exact z1
    | 2, _ => exact z2
    | 3, _ => exact z3
    | 4, _ => exact z4
    | 5, _ => exact z5
    | 6, _ => exact z6
    | 7, _ => exact z7
    | 8, _ => exact z8
    | 9, _ => exact z9
    | 10, _ => exact z10
    | 11, _ => exact z11
    | 12, _ => exact z12
    | 13, _ => exact z13
    | 14, _ => exact z14
    | 15, _ => exact z15
    | q + 16, hq => exact absurd hq (by simp)) (fun v hv => by
    simp only [List.mem_cons, List.not_mem_nil, or_false] at hv
    rcases hv with rfl | rfl | rfl | rfl | rfl | rfl | rfl | rfl | rfl | rfl | rfl | rfl | rfl | rfl | rfl | rfl <;> assumption)
  rw [this]
  rfl
attribute [go_sem high] st_16
theorem st_25 {P : Program} (w : World) (b o : Nat) (v0 v1 v2 v3 v4 v5 v6 v7 v8 v9 v10 v11 v12 v13 v14 v15 v16 v17 v18 v19 v20 v21 v22 v23 v24 : Value) (h0 : (w.cell? ⟨b, o, none⟩).isSome = true) (h1 : (w.cell? ⟨b, o + 1, none⟩).isSome = true) (h2 : (w.cell? ⟨b, o + 2, none⟩).isSome = true) (h3 : (w.cell? ⟨b, o + 3, none⟩).isSome = true) (h4 : (w.cell? ⟨b, o + 4, none⟩).isSome = true) (h5 : (w.cell? ⟨b, o + 5, none⟩).isSome = true) (h6 : (w.cell? ⟨b, o + 6, none⟩).isSome = true) (h7 : (w.cell? ⟨b, o + 7, none⟩).isSome = true) (h8 : (w.cell? ⟨b, o + 8, none⟩).isSome = true) (h9 : (w.cell? ⟨b, o + 9, none⟩).isSome = true) (h10 : (w.cell? ⟨b, o + 10, none⟩).isSome = true) (h11 : (w.cell? ⟨b, o + 11, none⟩).isSome = true) (h12 : (w.cell? ⟨b, o + 12, none⟩).isSome = true) (h13 : (w.cell? ⟨b, o + 13, none⟩).isSome = true) (h14 : (w.cell? ⟨b, o + 14, none⟩).isSome = true) (h15 : (w.cell? ⟨b, o + 15, none⟩).isSome = true) (h16 : (w.cell? ⟨b, o + 16, none⟩).isSome = true) (h17 : (w.cell? ⟨b, o + 17, none⟩).isSome = true) (h18 : (w.cell? ⟨b, o + 18, none⟩).isSome = true) (h19 : (w.cell? ⟨b, o + 19, none⟩).isSome = true) (h20 : (w.cell? ⟨b, o + 20, none⟩).isSome = true) (h21 : (w.cell? ⟨b, o + 21, none⟩).isSome = true) (h22 : (w.cell? ⟨b, o + 22, none⟩).isSome = true) (h23 : (w.cell? ⟨b, o + 23, none⟩).isSome = true) (h24 : (w.cell? ⟨b, o + 24, none⟩).isSome = true) (z0 : w.frozen? ⟨b, o, none⟩ = false) (z1 : w.frozen? ⟨b, o + 1, none⟩ = false) (z2 : w.frozen? ⟨b, o + 2, none⟩ = false) (z3 : w.frozen? ⟨b, o + 3, none⟩ = false) (z4 : w.frozen? ⟨b, o + 4, none⟩ = false) (z5 : w.frozen? ⟨b, o + 5, none⟩ = false) (z6 : w.frozen? ⟨b, o + 6, none⟩ = false) (z7 : w.frozen? ⟨b, o + 7, none⟩ = false) (z8 : w.frozen? ⟨b, o + 8, none⟩ = false) (z9 : w.frozen? ⟨b, o + 9, none⟩ = false) (z10 : w.frozen? ⟨b, o + 10, none⟩ = false) (z11 : w.frozen? ⟨b, o + 11, none⟩ = false) (z12 : w.frozen? ⟨b, o + 12, none⟩ = false) (z13 : w.frozen? ⟨b, o + 13, none⟩ = false) (z14 : w.frozen? ⟨b, o + 14, none⟩ = false) (z15 : w.frozen? ⟨b, o + 15, none⟩ = false) (z16 : w.frozen? ⟨b, o + 16, none⟩ = false) (z17 : w.frozen? ⟨b, o + 17, none⟩ = false) (z18 : w.frozen? ⟨b, o + 18, none⟩ = false) (z19 : w.frozen? ⟨b, o + 19, none⟩ = false) (z20 : w.frozen? ⟨b, o + 20, none⟩ = false) (z21 : w.frozen? ⟨b, o + 21, none⟩ = false) (z22 : w.frozen? ⟨b, o + 22, none⟩ = false) (z23 : w.frozen? ⟨b, o + 23, none⟩ = false) (z24 : w.frozen? ⟨b, o + 24, none⟩ = false) (q0 : v0.oneCell' = true) (q1 : v1.oneCell' = true) (q2 : v2.oneCell' = true) (q3 : v3.oneCell' = true) (q4 : v4.oneCell' = true) (q5 : v5.oneCell' = true) (q6 : v6.oneCell' = true) (q7 : v7.oneCell' = true) (q8 : v8.oneCell' = true) (q9 : v9.oneCell' = true) (q10 : v10.oneCell' = true) (q11 : v11.oneCell' = true) (q12 : v12.oneCell' = true) (q13 : v13.oneCell' = true) (q14 : v14.oneCell' = true) (q15 : v15.oneCell' = true) (q16 : v16.oneCell' = true) (q17 : v17.oneCell' = true) (q18 : v18.oneCell' = true) (q19 : v19.oneCell' = true) (q20 : v20.oneCell' = true) (q21 : v21.oneCell' = true) (q22 : v22.oneCell' = true) (q23 : v23.oneCell' = true) (q24 : v24.oneCell' = true) :
    (storeCells ⟨b, o, none⟩ [v0, v1, v2, v3, v4, v5, v6, v7, v8, v9, v10, v11, v12, v13, v14, v15, v16, v17, v18, v19, v20, v21, v22, v23, v24] 0).run P w = .ok () (((((((((((((((((((((((((w.setCell ⟨b, o, none⟩ v0).setCell ⟨b, o + 1, none⟩ v1).setCell ⟨b, o + 2, none⟩ v2).setCell ⟨b, o + 3, none⟩ v3).setCell ⟨b, o + 4, none⟩ v4).setCell ⟨b, o + 5, none⟩ v5).setCell ⟨b, o + 6, none⟩ v6).setCell ⟨b, o + 7, none⟩ v7).setCell ⟨b, o + 8, none⟩ v8).setCell ⟨b, o + 9, none⟩ v9).setCell ⟨b, o + 10, none⟩ v10).setCell ⟨b, o + 11, none⟩ v11).setCell ⟨b, o + 12, none⟩ v12).setCell ⟨b, o + 13, none⟩ v13).setCell ⟨b, o + 14, none⟩ v14).setCell ⟨b, o + 15, none⟩ v15).setCell ⟨b, o + 16, none⟩ v16).setCell ⟨b, o + 17, none⟩ v17).setCell ⟨b, o + 18, none⟩ v18).setCell ⟨b, o + 19, none⟩ v19).setCell ⟨b, o + 20, none⟩ v20).setCell ⟨b, o + 21, none⟩ v21).setCell ⟨b, o + 22, none⟩ v22).setCell ⟨b, o + 23, none⟩ v23).setCell ⟨b, o + 24, none⟩ v24) := by
  have := run_storeCells_cells (P := P) b o [v0, v1, v2, v3, v4, v5, v6, v7, v8, v9, v10, v11, v12, v13, v14, v15, v16, v17, v18, v19, v20, v21, v22, v23, v24] 0 w (fun j hj => by
    match j, hj with
    | 0, _ => exact h0
    | 1, _ => exact h1
    | 2, _ => exact h2
    | 3, _ => exact h3
    | 4, _ => exact h4
    | 5, _ => exact h5
    | 6, _ => exact h6
    | 7, _ => exact h7
    | 8, _ => exact h8
    | 9, _ => exact h9
    | 10, _ => exact h10
    | 11, _ => exact h11
    | 12, _ => exact h12
    | 13, _ => exact h13
    | 14, _ => exact h14
    | 15, _ => exact h15
    | 16, _ => exact h16
    | 17, _ => exact h17
    | 18, _ => exact h18
    | 19, _ => exact h19
    | 20, _ => exact h20
    | 21, _ => exact h21
    | 22, _ => exact h22
    | 23, _ => exact h23
    | 24, _ => exact h24
    | q + 25, hq => exact absurd hq (by simp)) (fun j hj => by
    match j, hj with
    | 0, _ => exact z0
    | 1, _ => exact z1
    | 2, _ => exact z2
    | 3, _ => exact z3
    | 4, _ => exact z4
    | 5, _ => exact z5
    | 6, _ => exact z6
    | 7, _ => exact z7
    | 8, _ => exact z8
    | 9, _ => exact z9
    | 10, _ => exact z10
    | 11, _ => exact z11
    | 12, _ => exact z12
    | 13, _ => exact z13
    | 14, _ => exact z14
    | 15, _ => exact z15
    | 16, _ => exact z16
    | 17, _ => exact z17
    | 18, _ => exact z18
    | 19, _ => exact z19
    | 20, _ => exact z20
    | 21, _ => exact z21
    | 22, _ => exact z22
    | 23, _ => exact z23
    | 24, _ => exact z24
    | q + 25, hq => exact absurd hq (by simp)) (fun v hv => by
    simp only [List.mem_cons, List.not_mem_nil, or_false] at hv
    rcases hv with rfl | rfl | rfl | rfl | rfl | rfl | rfl | rfl | rfl | rfl | rfl | rfl | rfl | rfl | rfl | rfl | rfl | rfl | rfl | rfl | rfl | rfl | rfl | rfl | rfl <;> assumption)
  rw [this]
  rfl
attribute [go_sem high] st_25
theorem store_gate {P : Program} {ops : Array Oper} {rest : List Oper} {Q : Exit → Act → World → Prop} {a : Act} {w : World} {d : Option Nat} {s x : Operand} {T1 ty : TypeId} {ps : String} {af : Array Edge}
    (h : wpList P ops Q ({ dst := d, op := Op.store T1 s x, type := ty, pos := ps, after := af, guard := none } :: rest) a w) :
    wpList P ops Q ({ dst := d, op := Op.store T1 s x, type := ty, pos := ps, after := af, guard := none } :: rest) a w := h
/-- A whole block written: the world behind it is told by what is in the block, and by what else stayed. -/
theorem wp_storeW {P : Program} {op : Oper} {a : Act} {w : World} {K : Act → World → Prop} {Q : Exit → Act → World → Prop} (ty : TypeId) (x y : Operand) (ho : op.op = .store ty x y)
    (b : Nat) (old cells : Array Value) (T : TypeId) (hx : a.eval x = .pointer (some ⟨b, 0, none⟩)) (hy : a.eval y = .agg cells) (hb : w.heap[b]? = some (.cells old T (0, 0))) (hs : old.size = cells.size)
    (hi : (P.info? ty).map (·.size) = some cells.size) (h1 : cells.all (·.oneCell') = true)
    (h : ∀ W', Chg [b] w W' → W'.heap[b]? = some (.cells cells T (0, 0)) → K (a.put op.dst undef) W') : op.wp P a w K Q := by
  refine wp_store_mid ty x y ho b 0 cells hx hy (fun j hj => ⟨?_, frozen_blk hb _⟩) hi h1 ?_
  · rw [cell_blk hb, Nat.zero_add, Array.getElem?_eq_getElem (by omega)]; rfl
  · have e : w.setCells b 0 cells.toList = setRow w b 0 cells.toList := setCells_row w b _ _ _
    rw [e]
    refine h _ (Chg.setRow (by simp) _ (Chg.refl _ _)) ?_
    rw [blk_setRow _ hb, putRow_all _ _ (by simp [hs])]
theorem wpList_storeW {P : Program} {ops : Array Oper} {rest : List Oper} {op : Oper} {a : Act} {w : World} {Q : Exit → Act → World → Prop} (hgd : op.guard = none) (ty : TypeId) (x y : Operand) (ho : op.op = .store ty x y)
    (b : Nat) (old cells : Array Value) (T : TypeId) (hx : a.eval x = .pointer (some ⟨b, 0, none⟩)) (hy : a.eval y = .agg cells) (hb : w.heap[b]? = some (.cells old T (0, 0))) (hs : old.size = cells.size)
    (hi : (P.info? ty).map (·.size) = some cells.size) (h1 : cells.all (·.oneCell') = true)
    (h : ∀ W', Chg [b] w W' → W'.heap[b]? = some (.cells cells T (0, 0)) → wpList P ops Q rest (a.put op.dst undef) W') : wpList P ops Q (op :: rest) a w :=
  wpList_plain hgd fun _ hK => wp_storeW ty x y ho b old cells T hx hy hb hs hi h1 fun W' h2 h3 => hK _ _ (h W' h2 h3)
theorem res_c1 {P : Program} {fn : Func} {a T : Nat} {tmps : Array Value} {w : World} {b : Nat} {cs : Array Value} {T' : TypeId} {fr : Nat × Nat} {d : TypeDesc} (h : fn.results = #[.cell a T]) (ha : tmps.getD a undef = .pointer (some ⟨b, 0, none⟩))
    (hb : w.heap[b]? = some (.cells cs T' fr)) (hu : P.underlying T = some d) (hd : (match d with | .struct _ | .array _ _ => true | _ => false) = true) (hi : (P.info? T).map (·.size) = some cs.size) :
    (results fn tmps).run P w = .ok (.agg cs) w := by
  have := run_loadVar_row w b T' T cs fr d hb hu hd hi
  have ha' : tmps[a]?.getD undef = .pointer (some ⟨b, 0, none⟩) := by simpa [Array.getD_eq_getD_getElem?] using ha
  simp [results, h, ha', asAddr, this]
theorem load_gate {P : Program} {ops : Array Oper} {rest : List Oper} {Q : Exit → Act → World → Prop} {a : Act} {w : World} {d : Option Nat} {s : Operand} {T1 ty : TypeId} {ps : String} {af : Array Edge}
    (h : wpList P ops Q ({ dst := d, op := Op.load T1 s, type := ty, pos := ps, after := af, guard := none } :: rest) a w) :
    wpList P ops Q ({ dst := d, op := Op.load T1 s, type := ty, pos := ps, after := af, guard := none } :: rest) a w := h
/-- A whole block read. -/
theorem wpList_loadW {P : Program} {ops : Array Oper} {rest : List Oper} {op : Oper} {a : Act} {w : World} {Q : Exit → Act → World → Prop} (hgd : op.guard = none) (ty : TypeId) (x : Operand) (ho : op.op = .load ty x)
    (b : Nat) (cs : Array Value) (T' : TypeId) (d : TypeDesc) (hx : a.eval x = .pointer (some ⟨b, 0, none⟩)) (hb : w.heap[b]? = some (.cells cs T' (0, 0))) (hu : P.underlying ty = some d) (hd : d.isRow = true) (hi : (P.info? ty).map (·.size) = some cs.size)
    (h : wpList P ops Q rest (a.put op.dst (.agg cs)) w) : wpList P ops Q (op :: rest) a w :=
  wpList_load_mid hgd ty x ho b 0 hx cs.toList d (fun j v hv => by rw [cell_blk hb, Nat.zero_add]; simpa using hv) hu hd (by simpa using hi) (by simpa using h)
theorem load_gateG {P : Program} {ops : Array Oper} {rest : List Oper} {Q : Exit → Act → World → Prop} {a : Act} {w : World} {d : Option Nat} {s : Operand} {T1 ty : TypeId} {ps : String} {af : Array Edge} {gg : Nat × Bool}
    (h : wpList P ops Q ({ dst := d, op := Op.load T1 s, type := ty, pos := ps, after := af, guard := some gg } :: rest) a w) :
    wpList P ops Q ({ dst := d, op := Op.load T1 s, type := ty, pos := ps, after := af, guard := some gg } :: rest) a w := h
theorem wpList_loadG {P : Program} {ops : Array Oper} {rest : List Oper} {op : Oper} {a : Act} {w : World} {Q : Exit → Act → World → Prop} (hw : Region.wanted op (yielded ops a.tmps) = true) (ty : TypeId) (x : Operand) (ho : op.op = .load ty x)
    (b : Nat) (cs : Array Value) (T' : TypeId) (d : TypeDesc) (hx : a.eval x = .pointer (some ⟨b, 0, none⟩)) (hb : w.heap[b]? = some (.cells cs T' (0, 0))) (hu : P.underlying ty = some d) (hd : d.isRow = true) (hi : (P.info? ty).map (·.size) = some cs.size)
    (h : wpList P ops Q rest (a.put op.dst (.agg cs)) w) : wpList P ops Q (op :: rest) a w := by
  unfold wpList
  rw [if_pos hw]
  exact .inl (wp_load_mid ty x ho b 0 hx cs.toList d (fun j v hv => by rw [cell_blk hb, Nat.zero_add]; simpa using hv) hu hd (by simpa using hi) (by simpa using h))
theorem stW_other {b X : Nat} {V W9 : World} {arr : Array Value} {T : TypeId} (hX : V.heap[X]? = some (.cells arr T (0, 0))) (hW : Chg [b] V W9) (hn : X ≠ b) : W9.heap[X]? = some (.cells arr T (0, 0)) ∧ X ≠ b ∧ b ≠ X :=
  ⟨(hW.block X (lt_blk hX) (by simpa using hn)).trans hX, hn, Ne.symm hn⟩
theorem stW_ext {b : Nat} {w V W9 : World} (hE : Ext w V) (hW : Chg [b] V W9) (hb : w.heap.size ≤ b) : Ext w W9 ∧ w.heap.size ≤ b :=
  ⟨Ext.of_below (Below.chg (w0 := w) (Ext.below hE) hW (by simpa using hb)), hb⟩
theorem stW_fin {b : Nat} {w W9 W' : World} (h9 : Ext w W9) (hb : w.heap.size ≤ b) (h : Chg [b] W9 W') : Ext w W' :=
  Ext.of_below (Below.chg (w0 := w) (Ext.below h9) h (by simpa using hb))
theorem mixload_gate {P : Program} {ops : Array Oper} {S : World → Prop} {Q : Exit → Act → World → Prop} {rest : List Oper} {a : Act} {w : World} {d : Option Nat} {s : Operand} {T1 ty : TypeId} {ps : String} {af : Array Edge} {gg : Option (Nat × Bool)}
    (h : wpMixL P ops S Q ({ dst := d, op := Op.load T1 s, type := ty, pos := ps, after := af, guard := gg } :: rest) a w) :
    wpMixL P ops S Q ({ dst := d, op := Op.load T1 s, type := ty, pos := ps, after := af, guard := gg } :: rest) a w := h
/-- A whole block read in a region that draws its order. -/
theorem mix_loadW {P : Program} {ops : Array Oper} {S : World → Prop} {Q : Exit → Act → World → Prop} {r : List Oper} {o : Oper} {a : Act} {w : World} (hw : Region.wanted o (yielded ops a.tmps) = true) (ty : TypeId) (x : Operand) (ho : o.op = .load ty x)
    (b : Nat) (cs : Array Value) (T' : TypeId) (d : TypeDesc) (hx : a.eval x = .pointer (some ⟨b, 0, none⟩)) (hS : ∀ w', S w' → w'.heap[b]? = some (.cells cs T' (0, 0))) (hu : P.underlying ty = some d) (hd : d.isRow = true) (hi : (P.info? ty).map (·.size) = some cs.size)
    (h : wpMixL P ops S Q r (a.put o.dst (.agg cs)) w) : wpMixL P ops S Q (o :: r) a w := by
  unfold wpMixL
  rw [if_neg (by simp [isMk, ho])]
  refine ⟨.agg cs, .inl ⟨hw, fun w' hw' => ?_⟩, h⟩
  have hb := hS w' hw'
  have := run_loadVar_mid (P := P) w' b 0 ty cs.toList d (fun j v hv => by rw [cell_blk hb, Nat.zero_add]; simpa using hv) hu hd (by simpa using hi)
  simp only [execOp, ho, hx, Instr.loadAt, Instr.sureAddr, Sem.run_bind, Sem.run_pure, Result.andThen_ok, this]
end Go.Proofs.Ytnfodkhfoegnaaa

namespace Go.Proofs.Ytnfodkhfoegnaaa
open Go.RowKit
set_option linter.unusedSimpArgs false
set_option linter.unusedVariables false

def ordNil : Ord := ⟨0, 0, 0, 0, 0⟩
/-- What becomes of a row whose order is under way and is the message's. -/
def hearRow (m : Mp) (r : Row) (x : Msg) : Row :=
  if x.kind = 3 then ⟨r.who, x.cell, false, ordNil, x.ord.seq, x.n⟩
  else if x.kind = 4 ∧ x.cell = r.cell then { r with cell := (r.cell + 1) % m.c }
  else r
def hearHit (r : Row) (x : Msg) : Bool := r.busy && eqOrd r.ord x.ord
def hearB (xs : List Row) (x : Msg) : Bool := match rowGet xs x.ord.who with
  | none => false
  | some r => hearHit r x && (x.kind == 3)
def hearL (m : Mp) (xs : List Row) (x : Msg) : List Row := match rowGet xs x.ord.who with
  | none => xs
  | some r => if hearHit r x = true then xs.set (rowPlace xs x.ord.who).toNat (hearRow m r x) else xs
theorem hearL_len (m : Mp) (xs : List Row) (x : Msg) : (hearL m xs x).length = xs.length := by
  unfold hearL
  split
  · rfl
  · split <;> simp
theorem hear_none {m : Mp} {xs : List Row} {x : Msg} (h : ∀ y ∈ xs, isWho x.ord.who y = false) : hearB xs x = false ∧ hearL m xs x = xs := by
  have : rowGet xs x.ord.who = none := find_miss h
  simp [hearB, hearL, this]
theorem hear_some {m : Mp} {xs : List Row} {x : Msg} {k : Nat} {r : Row} (h : xs[k]? = some r) (ha : ∀ y ∈ xs.take k, isWho x.ord.who y = false) (hp : isWho x.ord.who r = true) (hk : rowPlace xs x.ord.who = (k : Int)) :
    hearB xs x = (hearHit r x && (x.kind == 3)) ∧ hearL m xs x = if hearHit r x = true then xs.set k (hearRow m r x) else xs := by
  have : rowGet xs x.ord.who = some r := find_hit h ha hp
  simp [hearB, hearL, this, hk]
end Go.Proofs.Ytnfodkhfoegnaaa

namespace Go.Proofs.Ytnfodkhfoegnaaa
open Go.RowKit

def wlkZero (x : Wlk) : Bool := (x.id == 0) && (x.at_ == 0) && (x.coins == 0) && (x.seq == 0) && (x.last == 0)
def formed (p : Pcl) : Bool := inB p.n 0 4999 && ((p.kind == 1) && (p.coins == 0) || (p.kind == 2) && wlkZero p.wk && inB p.coins 1 9)
def pclOk (m : Mp) (p : Pcl) : Bool := plcOk m && formed p && ((p.kind == 2) || wlkOk m p.wk)

theorem formed_c (p : Pcl) (w : World) : Calls Try.prog 80 #[.agg #[.int .i64 p.n, .int .i64 p.kind, .int .i64 p.wk.id, .int .i64 p.wk.at_, .int .i64 p.wk.coins, .int .i64 p.wk.seq, .int .i64 p.wk.last, .int .i64 p.coins]] w fun e w' => e = .returned (.bool (formed p)) ∧ Ext w w' := by
  go_enter Try.func80, Try.ntmps80
  go_wp2_with (first | (go_at_call 42; refine (in_c _ _ _ _).mono ?_; rintro e w' ⟨rfl, rfl⟩))
  all_goals go_ret
  all_goals refine ⟨ret_bool ?_, (by ((try simp only [ext_drew]); (try simp only [ext_ext]); repeat (first | exact Ext.refl _ | with_reducible apply Ext.add | with_reducible apply Ext.dr | apply Ext.alloc | apply Ext.ext | apply Ext.drew | refine Ext.trans ?_ (by assumption))))⟩
  all_goals simp_all [formed, wlkZero]

theorem iPclOk_c (m : Mp) (p : Pcl) (w : World) : Calls Try.prog 46 #[.agg #[.int .i64 m.c, .int .i64 m.w], .agg #[.int .i64 p.n, .int .i64 p.kind, .int .i64 p.wk.id, .int .i64 p.wk.at_, .int .i64 p.wk.coins, .int .i64 p.wk.seq, .int .i64 p.wk.last, .int .i64 p.coins]] w fun e w' => e = .returned (.bool (pclOk m p)) ∧ Ext w w' := by
  go_enter Try.func46, Try.ntmps46
  go_wp2_with (first | (go_at_call 41; refine (iPlcOk_c _ _).mono ?_; rintro e w' ⟨rfl, t, rfl⟩) | (go_at_call 80; refine (formed_c _ _).mono ?_; rintro e w' ⟨rfl, t, rfl⟩) | (go_at_call 81; refine (iWlkOk_c _ _ _).mono ?_; rintro e w' ⟨rfl, t, rfl⟩))
  all_goals go_ret
  all_goals refine ⟨ret_bool ?_, (by ((try simp only [ext_drew]); (try simp only [ext_ext]); repeat (first | exact Ext.refl _ | with_reducible apply Ext.add | with_reducible apply Ext.dr | apply Ext.alloc | apply Ext.ext | apply Ext.drew | refine Ext.trans ?_ (by assumption))))⟩
  all_goals simp_all [pclOk]

theorem sPclOk_c (m : Mp) (p : Pcl) (w : World) : Calls Try.prog 37 #[.agg #[.int .i64 m.c, .int .i64 m.w], .agg #[.int .i64 p.n, .int .i64 p.kind, .int .i64 p.wk.id, .int .i64 p.wk.at_, .int .i64 p.wk.coins, .int .i64 p.wk.seq, .int .i64 p.wk.last, .int .i64 p.coins]] w fun e w' => e = .returned (.bool (pclOk m p)) ∧ Ext w w' := by
  go_enter Try.func37, Try.ntmps37
  go_wp2_with (first | (go_at_call 32; refine (sPlcOk_c _ _).mono ?_; rintro e w' ⟨rfl, t, rfl⟩) | (go_at_call 33; refine (l1In_c _ _ _ _).mono ?_; rintro e w' ⟨rfl, rfl⟩) | (go_at_call 74; refine (sWlkOk_c _ _ _).mono ?_; rintro e w' ⟨rfl, t, rfl⟩))
  all_goals go_ret
  all_goals refine ⟨ret_bool ?_, (by ((try simp only [ext_drew]); (try simp only [ext_ext]); repeat (first | exact Ext.refl _ | with_reducible apply Ext.add | with_reducible apply Ext.dr | apply Ext.alloc | apply Ext.ext | apply Ext.drew | refine Ext.trans ?_ (by assumption))))⟩
  all_goals simp_all [pclOk, formed, wlkZero]
end Go.Proofs.Ytnfodkhfoegnaaa

namespace Go.Proofs.Ytnfodkhfoegnaaa
open Go.RowKit

theorem toMp_c (x : Mp) (w : World) : Calls Try.prog 8 #[.agg #[.int .i64 x.c, .int .i64 x.w]] w fun e w' => e = .returned (.agg #[.int .i64 x.c, .int .i64 x.w]) ∧ Ext w w' := by
  go_enter Try.func8, Try.ntmps8
  go_wp2_with (fail)
  exact bodyPost_ret (v := .agg #[.int .i64 x.c, .int .i64 x.w]) (by simp [results, Try.results8, go_sem]) rfl ⟨rfl, (by ((try simp only [ext_drew]); (try simp only [ext_ext]); repeat (first | exact Ext.refl _ | with_reducible apply Ext.add | with_reducible apply Ext.dr | apply Ext.alloc | apply Ext.ext | apply Ext.drew | refine Ext.trans ?_ (by assumption))))⟩

end Go.Proofs.Ytnfodkhfoegnaaa

namespace Go.Proofs.Ytnfodkhfoegnaaa
open Go.RowKit

def Rec.mk' (q : Int) : Rec := ⟨q, ⟨q + 1, q + 1 + 1, q + 1 + 1 + 1, q + 1 + 1 + 1 + 1, q + 1 + 1 + 1 + 1 + 1⟩, q + 1 + 1 + 1 + 1 + 1 + 1, ⟨q + 1 + 1 + 1 + 1 + 1 + 1 + 1, q + 1 + 1 + 1 + 1 + 1 + 1 + 1 + 1, ⟨q + 1 + 1 + 1 + 1 + 1 + 1 + 1 + 1 + 1, q + 1 + 1 + 1 + 1 + 1 + 1 + 1 + 1 + 1 + 1, q + 1 + 1 + 1 + 1 + 1 + 1 + 1 + 1 + 1 + 1 + 1, q + 1 + 1 + 1 + 1 + 1 + 1 + 1 + 1 + 1 + 1 + 1 + 1, q + 1 + 1 + 1 + 1 + 1 + 1 + 1 + 1 + 1 + 1 + 1 + 1 + 1⟩, q + 1 + 1 + 1 + 1 + 1 + 1 + 1 + 1 + 1 + 1 + 1 + 1 + 1 + 1⟩, q + 1 + 1 + 1 + 1 + 1 + 1 + 1 + 1 + 1 + 1 + 1 + 1 + 1 + 1 + 1⟩
end Go.Proofs.Ytnfodkhfoegnaaa

namespace Go.Proofs.Ytnfodkhfoegnaaa
open Go.RowKit

def gstOk (m : Mp) (g : Gst) : Bool := inB g.count 0 250 && wlkOk m g.wk && (plcCell m g.wk.at_ == g.src) && (plcEdge m g.wk.at_ 0 || plcEdge m g.wk.at_ 1)
theorem iGstOk_c (m : Mp) (g : Gst) (w : World) : Calls Try.prog 47 #[.agg #[.int .i64 m.c, .int .i64 m.w], .agg #[.int .i64 g.src, .int .i64 g.count, .int .i64 g.wk.id, .int .i64 g.wk.at_, .int .i64 g.wk.coins, .int .i64 g.wk.seq, .int .i64 g.wk.last]] w fun e w' => e = .returned (.bool (gstOk m g)) ∧ Ext w w' := by
  cases h1 : inB g.count 0 250 with
  | false =>
    have E := hid (show gstOk m g = false by simp [gstOk, h1])
    go_enter Try.func47, Try.ntmps47
    go_wp2
    with_reducible refine wp_region_ext (by kernel_rfl) (by kernel_rfl) ?_
    repeat (first | go_big_quiet_skip | (go_big_quiet_want; go_big_quiet_op; first | go_big_quiet_on | (apply Exists.intro; refine ⟨fun _ => ?_, ?_⟩; ((first | (go_at_call 42; first | exact quiet_same (in_c _ _ _ _) | exact quiet_same2 (in_c _ _ _ _)) | (go_at_call 81; first | exact quiet_call (iWlkOk_c _ _ _) | exact quiet_call2 (iWlkOk_c _ _ _)) | (go_at_call 82; first | exact quiet_call (iPlcCell_c _ _ _) | exact quiet_call2 (iPlcCell_c _ _ _)) | (go_at_call 83; first | exact quiet_call (iPlcEdge_c _ _ _ _) | exact quiet_call2 (iPlcEdge_c _ _ _ _)))); (try rw [h1]); go_big_quiet_on)))
    refine wpQuiet_nil ?_
    rintro _ ⟨tq, rfl⟩
    go_wp2
    go_ret
    exact ⟨ret_bool (by rw [E.out]), (by ((try simp only [ext_drew]); (try simp only [ext_ext]); repeat (first | exact Ext.refl _ | with_reducible apply Ext.add | with_reducible apply Ext.dr | apply Ext.alloc | apply Ext.ext | apply Ext.drew | refine Ext.trans ?_ (by assumption))))⟩
  | true =>
    cases h2 : wlkOk m g.wk with
    | false =>
      have E := hid (show gstOk m g = false by simp [gstOk, h2])
      go_enter Try.func47, Try.ntmps47
      go_wp2
      with_reducible refine wp_region_ext (by kernel_rfl) (by kernel_rfl) ?_
      repeat (first | go_big_quiet_skip | (go_big_quiet_want; go_big_quiet_op; first | go_big_quiet_on | (apply Exists.intro; refine ⟨fun _ => ?_, ?_⟩; ((first | (go_at_call 42; first | exact quiet_same (in_c _ _ _ _) | exact quiet_same2 (in_c _ _ _ _)) | (go_at_call 81; first | exact quiet_call (iWlkOk_c _ _ _) | exact quiet_call2 (iWlkOk_c _ _ _)) | (go_at_call 82; first | exact quiet_call (iPlcCell_c _ _ _) | exact quiet_call2 (iPlcCell_c _ _ _)) | (go_at_call 83; first | exact quiet_call (iPlcEdge_c _ _ _ _) | exact quiet_call2 (iPlcEdge_c _ _ _ _)))); (try rw [h1]); (try rw [h2]); go_big_quiet_on)))
      refine wpQuiet_nil ?_
      rintro _ ⟨tq, rfl⟩
      go_wp2
      go_ret
      exact ⟨ret_bool (by rw [E.out]), (by ((try simp only [ext_drew]); (try simp only [ext_ext]); repeat (first | exact Ext.refl _ | with_reducible apply Ext.add | with_reducible apply Ext.dr | apply Ext.alloc | apply Ext.ext | apply Ext.drew | refine Ext.trans ?_ (by assumption))))⟩
    | true =>
      by_cases h3 : plcCell m g.wk.at_ = g.src
      · have q3 := beq_t h3
        cases h4 : plcEdge m g.wk.at_ 0 with
        | true =>
          have E := hid (show gstOk m g = true by simp [gstOk, h1, h2, h3, h4])
          clear h3
          go_enter Try.func47, Try.ntmps47
          go_wp2
          with_reducible refine wp_region_ext (by kernel_rfl) (by kernel_rfl) ?_
          repeat (first | go_big_quiet_skip | (go_big_quiet_want; go_big_quiet_op; first | go_big_quiet_on | (apply Exists.intro; refine ⟨fun _ => ?_, ?_⟩; ((first | (go_at_call 42; first | exact quiet_same (in_c _ _ _ _) | exact quiet_same2 (in_c _ _ _ _)) | (go_at_call 81; first | exact quiet_call (iWlkOk_c _ _ _) | exact quiet_call2 (iWlkOk_c _ _ _)) | (go_at_call 82; first | exact quiet_call (iPlcCell_c _ _ _) | exact quiet_call2 (iPlcCell_c _ _ _)) | (go_at_call 83; first | exact quiet_call (iPlcEdge_c _ _ _ _) | exact quiet_call2 (iPlcEdge_c _ _ _ _)))); (try rw [h1]); (try rw [h2]); (try rw [h4]); go_big_quiet_on)))
          refine wpQuiet_nil ?_
          rintro _ ⟨tq, rfl⟩
          go_wp2
          go_ret
          exact ⟨ret_bool (by rw [E.out]), (by ((try simp only [ext_drew]); (try simp only [ext_ext]); repeat (first | exact Ext.refl _ | with_reducible apply Ext.add | with_reducible apply Ext.dr | apply Ext.alloc | apply Ext.ext | apply Ext.drew | refine Ext.trans ?_ (by assumption))))⟩
        | false =>
          have E := hid (show gstOk m g = plcEdge m g.wk.at_ 1 by simp [gstOk, h1, h2, h3, h4])
          clear h3
          go_enter Try.func47, Try.ntmps47
          go_wp2
          with_reducible refine wp_region_ext (by kernel_rfl) (by kernel_rfl) ?_
          repeat (first | go_big_quiet_skip | (go_big_quiet_want; go_big_quiet_op; first | go_big_quiet_on | (apply Exists.intro; refine ⟨fun _ => ?_, ?_⟩; ((first | (go_at_call 42; first | exact quiet_same (in_c _ _ _ _) | exact quiet_same2 (in_c _ _ _ _)) | (go_at_call 81; first | exact quiet_call (iWlkOk_c _ _ _) | exact quiet_call2 (iWlkOk_c _ _ _)) | (go_at_call 82; first | exact quiet_call (iPlcCell_c _ _ _) | exact quiet_call2 (iPlcCell_c _ _ _)) | (go_at_call 83; first | exact quiet_call (iPlcEdge_c _ _ _ _) | exact quiet_call2 (iPlcEdge_c _ _ _ _)))); (try rw [h1]); (try rw [h2]); (try rw [h4]); go_big_quiet_on)))
          refine wpQuiet_nil ?_
          rintro _ ⟨tq, rfl⟩
          go_wp2
          go_ret
          exact ⟨ret_bool (by rw [E.out]), (by ((try simp only [ext_drew]); (try simp only [ext_ext]); repeat (first | exact Ext.refl _ | with_reducible apply Ext.add | with_reducible apply Ext.dr | apply Ext.alloc | apply Ext.ext | apply Ext.drew | refine Ext.trans ?_ (by assumption))))⟩
      · have q3 := beq_f h3
        have E := hid (show gstOk m g = false by simp [gstOk, h3])
        clear h3
        go_enter Try.func47, Try.ntmps47
        go_wp2
        with_reducible refine wp_region_ext (by kernel_rfl) (by kernel_rfl) ?_
        repeat (first | go_big_quiet_skip | (go_big_quiet_want; go_big_quiet_op; first | go_big_quiet_on | (apply Exists.intro; refine ⟨fun _ => ?_, ?_⟩; ((first | (go_at_call 42; first | exact quiet_same (in_c _ _ _ _) | exact quiet_same2 (in_c _ _ _ _)) | (go_at_call 81; first | exact quiet_call (iWlkOk_c _ _ _) | exact quiet_call2 (iWlkOk_c _ _ _)) | (go_at_call 82; first | exact quiet_call (iPlcCell_c _ _ _) | exact quiet_call2 (iPlcCell_c _ _ _)) | (go_at_call 83; first | exact quiet_call (iPlcEdge_c _ _ _ _) | exact quiet_call2 (iPlcEdge_c _ _ _ _)))); (try rw [h1]); (try rw [h2]); go_big_quiet_on)))
        refine wpQuiet_nil ?_
        rintro _ ⟨tq, rfl⟩
        go_wp2
        go_ret
        exact ⟨ret_bool (by rw [E.out]), (by ((try simp only [ext_drew]); (try simp only [ext_ext]); repeat (first | exact Ext.refl _ | with_reducible apply Ext.add | with_reducible apply Ext.dr | apply Ext.alloc | apply Ext.ext | apply Ext.drew | refine Ext.trans ?_ (by assumption))))⟩

theorem sGstOk_c (m : Mp) (g : Gst) (w : World) : Calls Try.prog 38 #[.agg #[.int .i64 m.c, .int .i64 m.w], .agg #[.int .i64 g.src, .int .i64 g.count, .int .i64 g.wk.id, .int .i64 g.wk.at_, .int .i64 g.wk.coins, .int .i64 g.wk.seq, .int .i64 g.wk.last]] w fun e w' => e = .returned (.bool (gstOk m g)) ∧ Ext w w' := by
  cases h1 : inB g.count 0 250 with
  | false =>
    have E := hid (show gstOk m g = false by simp [gstOk, h1])
    go_enter Try.func38, Try.ntmps38
    go_wp2
    with_reducible refine wp_region_ext (by kernel_rfl) (by kernel_rfl) ?_
    repeat (first | go_big_quiet_skip | (go_big_quiet_want; go_big_quiet_op; first | go_big_quiet_on | (apply Exists.intro; refine ⟨fun _ => ?_, ?_⟩; ((first | (go_at_call 33; first | exact quiet_same (l1In_c _ _ _ _) | exact quiet_same2 (l1In_c _ _ _ _)) | (go_at_call 74; first | exact quiet_call (sWlkOk_c _ _ _) | exact quiet_call2 (sWlkOk_c _ _ _)) | (go_at_call 75; first | exact quiet_call (sPlcCell_c _ _ _) | exact quiet_call2 (sPlcCell_c _ _ _)) | (go_at_call 76; first | exact quiet_call (sPlcEdge_c _ _ _ _) | exact quiet_call2 (sPlcEdge_c _ _ _ _)))); (try rw [h1]); go_big_quiet_on)))
    refine wpQuiet_nil ?_
    rintro _ ⟨tq, rfl⟩
    go_wp2
    go_ret
    exact ⟨ret_bool (by rw [E.out]), (by ((try simp only [ext_drew]); (try simp only [ext_ext]); repeat (first | exact Ext.refl _ | with_reducible apply Ext.add | with_reducible apply Ext.dr | apply Ext.alloc | apply Ext.ext | apply Ext.drew | refine Ext.trans ?_ (by assumption))))⟩
  | true =>
    cases h2 : wlkOk m g.wk with
    | false =>
      have E := hid (show gstOk m g = false by simp [gstOk, h2])
      go_enter Try.func38, Try.ntmps38
      go_wp2
      with_reducible refine wp_region_ext (by kernel_rfl) (by kernel_rfl) ?_
      repeat (first | go_big_quiet_skip | (go_big_quiet_want; go_big_quiet_op; first | go_big_quiet_on | (apply Exists.intro; refine ⟨fun _ => ?_, ?_⟩; ((first | (go_at_call 33; first | exact quiet_same (l1In_c _ _ _ _) | exact quiet_same2 (l1In_c _ _ _ _)) | (go_at_call 74; first | exact quiet_call (sWlkOk_c _ _ _) | exact quiet_call2 (sWlkOk_c _ _ _)) | (go_at_call 75; first | exact quiet_call (sPlcCell_c _ _ _) | exact quiet_call2 (sPlcCell_c _ _ _)) | (go_at_call 76; first | exact quiet_call (sPlcEdge_c _ _ _ _) | exact quiet_call2 (sPlcEdge_c _ _ _ _)))); (try rw [h1]); (try rw [h2]); go_big_quiet_on)))
      refine wpQuiet_nil ?_
      rintro _ ⟨tq, rfl⟩
      go_wp2
      go_ret
      exact ⟨ret_bool (by rw [E.out]), (by ((try simp only [ext_drew]); (try simp only [ext_ext]); repeat (first | exact Ext.refl _ | with_reducible apply Ext.add | with_reducible apply Ext.dr | apply Ext.alloc | apply Ext.ext | apply Ext.drew | refine Ext.trans ?_ (by assumption))))⟩
    | true =>
      by_cases h3 : plcCell m g.wk.at_ = g.src
      · have q3 := beq_t h3
        cases h4 : plcEdge m g.wk.at_ 0 with
        | true =>
          have E := hid (show gstOk m g = true by simp [gstOk, h1, h2, h3, h4])
          clear h3
          go_enter Try.func38, Try.ntmps38
          go_wp2
          with_reducible refine wp_region_ext (by kernel_rfl) (by kernel_rfl) ?_
          repeat (first | go_big_quiet_skip | (go_big_quiet_want; go_big_quiet_op; first | go_big_quiet_on | (apply Exists.intro; refine ⟨fun _ => ?_, ?_⟩; ((first | (go_at_call 33; first | exact quiet_same (l1In_c _ _ _ _) | exact quiet_same2 (l1In_c _ _ _ _)) | (go_at_call 74; first | exact quiet_call (sWlkOk_c _ _ _) | exact quiet_call2 (sWlkOk_c _ _ _)) | (go_at_call 75; first | exact quiet_call (sPlcCell_c _ _ _) | exact quiet_call2 (sPlcCell_c _ _ _)) | (go_at_call 76; first | exact quiet_call (sPlcEdge_c _ _ _ _) | exact quiet_call2 (sPlcEdge_c _ _ _ _)))); (try rw [h1]); (try rw [h2]); (try rw [h4]); go_big_quiet_on)))
          refine wpQuiet_nil ?_
          rintro _ ⟨tq, rfl⟩
          go_wp2
          go_ret
          exact ⟨ret_bool (by rw [E.out]), (by ((try simp only [ext_drew]); (try simp only [ext_ext]); repeat (first | exact Ext.refl _ | with_reducible apply Ext.add | with_reducible apply Ext.dr | apply Ext.alloc | apply Ext.ext | apply Ext.drew | refine Ext.trans ?_ (by assumption))))⟩
        | false =>
          have E := hid (show gstOk m g = plcEdge m g.wk.at_ 1 by simp [gstOk, h1, h2, h3, h4])
          clear h3
          go_enter Try.func38, Try.ntmps38
          go_wp2
          with_reducible refine wp_region_ext (by kernel_rfl) (by kernel_rfl) ?_
          repeat (first | go_big_quiet_skip | (go_big_quiet_want; go_big_quiet_op; first | go_big_quiet_on | (apply Exists.intro; refine ⟨fun _ => ?_, ?_⟩; ((first | (go_at_call 33; first | exact quiet_same (l1In_c _ _ _ _) | exact quiet_same2 (l1In_c _ _ _ _)) | (go_at_call 74; first | exact quiet_call (sWlkOk_c _ _ _) | exact quiet_call2 (sWlkOk_c _ _ _)) | (go_at_call 75; first | exact quiet_call (sPlcCell_c _ _ _) | exact quiet_call2 (sPlcCell_c _ _ _)) | (go_at_call 76; first | exact quiet_call (sPlcEdge_c _ _ _ _) | exact quiet_call2 (sPlcEdge_c _ _ _ _)))); (try rw [h1]); (try rw [h2]); (try rw [h4]); go_big_quiet_on)))
          refine wpQuiet_nil ?_
          rintro _ ⟨tq, rfl⟩
          go_wp2
          go_ret
          exact ⟨ret_bool (by rw [E.out]), (by ((try simp only [ext_drew]); (try simp only [ext_ext]); repeat (first | exact Ext.refl _ | with_reducible apply Ext.add | with_reducible apply Ext.dr | apply Ext.alloc | apply Ext.ext | apply Ext.drew | refine Ext.trans ?_ (by assumption))))⟩
      · have q3 := beq_f h3
        have E := hid (show gstOk m g = false by simp [gstOk, h3])
        clear h3
        go_enter Try.func38, Try.ntmps38
        go_wp2
        with_reducible refine wp_region_ext (by kernel_rfl) (by kernel_rfl) ?_
        repeat (first | go_big_quiet_skip | (go_big_quiet_want; go_big_quiet_op; first | go_big_quiet_on | (apply Exists.intro; refine ⟨fun _ => ?_, ?_⟩; ((first | (go_at_call 33; first | exact quiet_same (l1In_c _ _ _ _) | exact quiet_same2 (l1In_c _ _ _ _)) | (go_at_call 74; first | exact quiet_call (sWlkOk_c _ _ _) | exact quiet_call2 (sWlkOk_c _ _ _)) | (go_at_call 75; first | exact quiet_call (sPlcCell_c _ _ _) | exact quiet_call2 (sPlcCell_c _ _ _)) | (go_at_call 76; first | exact quiet_call (sPlcEdge_c _ _ _ _) | exact quiet_call2 (sPlcEdge_c _ _ _ _)))); (try rw [h1]); (try rw [h2]); go_big_quiet_on)))
        refine wpQuiet_nil ?_
        rintro _ ⟨tq, rfl⟩
        go_wp2
        go_ret
        exact ⟨ret_bool (by rw [E.out]), (by ((try simp only [ext_drew]); (try simp only [ext_ext]); repeat (first | exact Ext.refl _ | with_reducible apply Ext.add | with_reducible apply Ext.dr | apply Ext.alloc | apply Ext.ext | apply Ext.drew | refine Ext.trans ?_ (by assumption))))⟩

end Go.Proofs.Ytnfodkhfoegnaaa

namespace Go.Proofs.Ytnfodkhfoegnaaa
open Go.RowKit

def ordZero (o : Ord) : Bool := (o.who == 0) && (o.seq == 0) && (o.kind == 0) && (o.to_ == 0) && (o.n == 0)
def pclZero (p : Pcl) : Bool := (p.n == 0) && (p.kind == 0) && wlkZero p.wk && (p.coins == 0)
def gstZero (g : Gst) : Bool := (g.src == 0) && (g.count == 0) && wlkZero g.wk
end Go.Proofs.Ytnfodkhfoegnaaa

namespace Go.Proofs.Ytnfodkhfoegnaaa
open Go.RowKit

def msgKind (m : Mp) (x : Msg) : Bool :=
  if x.kind = 1 then (x.side == 0) && inB x.n 1 900 && ordZero x.ord && pclZero x.pcl && gstZero x.gst
  else if x.kind = 2 ∨ x.kind = 4 then (x.side == 0) && (x.n == 0) && ordOk x.ord && pclZero x.pcl && gstZero x.gst
  else if x.kind = 3 then (x.side == 0) && inB x.n 1 9 && ordOk x.ord && pclZero x.pcl && gstZero x.gst
  else if x.kind = 5 then (plcSide m x.cell x.side != -1) && (x.n == 0) && pclOk m x.pcl && ordZero x.ord && gstZero x.gst
  else if x.kind = 6 then (plcSide m x.cell x.side != -1) && inB x.n 1 5000 && ordZero x.ord && pclZero x.pcl && gstZero x.gst
  else if x.kind = 7 then (plcSide m x.cell x.side != -1) && (x.n == 0) && gstOk m x.gst && (x.gst.src == plcSide m x.cell x.side) && ordZero x.ord && pclZero x.pcl
  else false
def msgOk (m : Mp) (s : Int) (x : Msg) : Bool :=
  plcOk m && inB s 1 3 && inB x.cell 0 (m.c - 1) && (if x.kind = 3 ∨ x.kind = 4 then (x.to_ == -1) else inB x.to_ 0 (s - 1)) && msgKind m x

theorem iMsgOk_bad (m : Mp) (s : Int) (x : Msg) (w : World) (h : plcOk m = false ∨ inB s 1 3 = false ∨ inB x.cell 0 (m.c - 1) = false) :
    Calls Try.prog 10 #[.agg #[.int .i64 m.c, .int .i64 m.w], .int .i64 s, .agg #[.int .i64 x.kind, .int .i64 x.to_, .int .i64 x.cell, .int .i64 x.side, .int .i64 x.n, .int .i64 x.ord.who, .int .i64 x.ord.seq, .int .i64 x.ord.kind, .int .i64 x.ord.to_, .int .i64 x.ord.n, .int .i64 x.pcl.n, .int .i64 x.pcl.kind, .int .i64 x.pcl.wk.id, .int .i64 x.pcl.wk.at_, .int .i64 x.pcl.wk.coins, .int .i64 x.pcl.wk.seq, .int .i64 x.pcl.wk.last, .int .i64 x.pcl.coins, .int .i64 x.gst.src, .int .i64 x.gst.count, .int .i64 x.gst.wk.id, .int .i64 x.gst.wk.at_, .int .i64 x.gst.wk.coins, .int .i64 x.gst.wk.seq, .int .i64 x.gst.wk.last]] w fun e w' => e = .returned (.bool (msgOk m s x)) ∧ Ext w w' := by
  have E := hid (show msgOk m s x = false by rcases h with h | h | h <;> simp [msgOk, h])
  cases h1 : plcOk m with
  | false =>
    clear h
    go_enter Try.func10, Try.ntmps10
    go_wp2_with (first | (go_at_call 41; refine (iPlcOk_c _ _).mono ?_; rintro e w' ⟨rfl, t, rfl⟩) | (go_at_call 42; refine (in_c _ _ _ _).mono ?_; rintro e w' ⟨rfl, rfl⟩) | (go_at_call 43; refine (hasCell_ok _ (by assumption) _ _).mono ?_; rintro e w' ⟨rfl, t, rfl⟩))
    go_ret
    exact ⟨ret_bool (by rw [E.out]), (by ((try simp only [ext_drew]); (try simp only [ext_ext]); repeat (first | exact Ext.refl _ | with_reducible apply Ext.add | with_reducible apply Ext.dr | apply Ext.alloc | apply Ext.ext | apply Ext.drew | refine Ext.trans ?_ (by assumption))))⟩
  | true =>
    cases h2 : inB s 1 3 with
    | false =>
      clear h
      go_enter Try.func10, Try.ntmps10
      go_wp2_with (first | (go_at_call 41; refine (iPlcOk_c _ _).mono ?_; rintro e w' ⟨rfl, t, rfl⟩) | (go_at_call 42; refine (in_c _ _ _ _).mono ?_; rintro e w' ⟨rfl, rfl⟩) | (go_at_call 43; refine (hasCell_ok _ (by assumption) _ _).mono ?_; rintro e w' ⟨rfl, t, rfl⟩))
      go_ret
      exact ⟨ret_bool (by rw [E.out]), (by ((try simp only [ext_drew]); (try simp only [ext_ext]); repeat (first | exact Ext.refl _ | with_reducible apply Ext.add | with_reducible apply Ext.dr | apply Ext.alloc | apply Ext.ext | apply Ext.drew | refine Ext.trans ?_ (by assumption))))⟩
    | true =>
      have h3 : inB x.cell 0 (m.c - 1) = false := by simp_all
      clear h
      go_enter Try.func10, Try.ntmps10
      go_wp2_with (first | (go_at_call 41; refine (iPlcOk_c _ _).mono ?_; rintro e w' ⟨rfl, t, rfl⟩) | (go_at_call 42; refine (in_c _ _ _ _).mono ?_; rintro e w' ⟨rfl, rfl⟩) | (go_at_call 43; refine (hasCell_ok _ (by assumption) _ _).mono ?_; rintro e w' ⟨rfl, t, rfl⟩))
      go_ret
      exact ⟨ret_bool (by rw [E.out]), (by ((try simp only [ext_drew]); (try simp only [ext_ext]); repeat (first | exact Ext.refl _ | with_reducible apply Ext.add | with_reducible apply Ext.dr | apply Ext.alloc | apply Ext.ext | apply Ext.drew | refine Ext.trans ?_ (by assumption))))⟩

end Go.Proofs.Ytnfodkhfoegnaaa

