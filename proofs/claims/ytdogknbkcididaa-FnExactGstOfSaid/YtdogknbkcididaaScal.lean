/- The scalar functions: maps, places, cells, sides, edges; walkers, orders and parcels that are ok: what each Go function of the program and of the reference computes. -/
import Derived.Test.YtdogknbkcididaaEq
namespace Go.Proofs.Ytdogknbkcididaa
open Go.RowKit

theorem ret_bool {a b : Bool} (h : a = b) : Ending.returned (.bool a) = .returned (.bool b) := by rw [h]
theorem ret_int {a b : Int} (h : a = b) : Ending.returned (.int .i64 a) = .returned (.int .i64 b) := by rw [h]

def inB (n lo hi : Int) : Bool := decide (lo ≤ n ∧ n ≤ hi)
theorem inB_iff {n lo hi : Int} : inB n lo hi = true ↔ lo ≤ n ∧ n ≤ hi := by simp [inB]
theorem inB_not {n lo hi : Int} : inB n lo hi = false ↔ ¬ (lo ≤ n ∧ n ≤ hi) := by simp [inB]
def plcOk (m : Mp) : Bool := inB m.c 2 4 && inB m.w 2 8
theorem plcOk_iff {m : Mp} : plcOk m = true ↔ (2 ≤ m.c ∧ m.c ≤ 4) ∧ (2 ≤ m.w ∧ m.w ≤ 8) := by simp [plcOk, inB_iff]
def plcCell (m : Mp) (p : Int) : Int := if plcOk m = true ∧ inB p 0 (m.c * m.w - 1) = true then p / m.w else -1
def plcSide (m : Mp) (cell side : Int) : Int :=
  if plcOk m = true ∧ inB cell 0 (m.c - 1) = true ∧ inB side 0 1 = true ∧ inB (cell + (2 * side - 1)) 0 (m.c - 1) = true then cell + (2 * side - 1) else -1
def plcEdge (m : Mp) (p side : Int) : Bool :=
  (plcCell m p != -1) && (plcSide m (plcCell m p) side != -1) && (plcCell m (p + (2 * side - 1)) != plcCell m p)

theorem l1In_c (n lo hi : Int) (w : World) : Calls Try.prog 44 #[.int .i64 n, .int .i64 lo, .int .i64 hi] w fun e w' => e = .returned (.bool (inB n lo hi)) ∧ w = w' := by
  go_enter Try.func44, Try.ntmps44
  go_wp2
  all_goals go_ret
  all_goals exact ⟨ret_bool (by simp [inB]; omega), rfl⟩

theorem in_c (n lo hi : Int) (w : World) : Calls Try.prog 51 #[.int .i64 n, .int .i64 lo, .int .i64 hi] w fun e w' => e = .returned (.bool (inB n lo hi)) ∧ w = w' := by
  go_enter Try.func51, Try.ntmps51
  go_wp2
  all_goals go_ret
  all_goals exact ⟨ret_bool (by simp [inB]; omega), rfl⟩

theorem sPlcOk_c (m : Mp) (w : World) : Calls Try.prog 70 #[.agg #[.int .i64 m.c, .int .i64 m.w]] w fun e w' => e = .returned (.bool (plcOk m)) ∧ Ext w w' := by
  by_cases h : inB m.c 2 4 = true
  all_goals
    go_enter Try.func70, Try.ntmps70
    go_wp2_with (first | (go_at_call 44; refine (l1In_c _ _ _ _).mono ?_; rintro e w' ⟨rfl, rfl⟩))
    go_ret
    exact ⟨ret_bool (by simp [plcOk, h]), (by ((try simp only [ext_drew]); (try simp only [ext_ext]); repeat (first | exact Ext.refl _ | with_reducible apply Ext.add | with_reducible apply Ext.dr | apply Ext.alloc | apply Ext.ext | apply Ext.drew | refine Ext.trans ?_ (by assumption))))⟩

theorem iPlcOk_c (m : Mp) (w : World) : Calls Try.prog 91 #[.agg #[.int .i64 m.c, .int .i64 m.w]] w fun e w' => e = .returned (.bool (plcOk m)) ∧ Ext w w' := by
  by_cases h : inB m.c 2 4 = true
  all_goals
    go_enter Try.func91, Try.ntmps91
    go_wp2_with (first | (go_at_call 51; refine (in_c _ _ _ _).mono ?_; rintro e w' ⟨rfl, rfl⟩))
    go_ret
    exact ⟨ret_bool (by simp [plcOk, h]), (by ((try simp only [ext_drew]); (try simp only [ext_ext]); repeat (first | exact Ext.refl _ | with_reducible apply Ext.add | with_reducible apply Ext.dr | apply Ext.alloc | apply Ext.ext | apply Ext.drew | refine Ext.trans ?_ (by assumption))))⟩

theorem isSide_c (n : Int) (w : World) : Calls Try.prog 92 #[.int .i64 n] w fun e w' => e = .returned (.bool (inB n 0 1)) ∧ w = w' := by
  by_cases h : n = 0
  · subst h
    go_enter Try.func92, Try.ntmps92
    go_wp2
    go_ret
    exact ⟨rfl, rfl⟩
  · have h0 : (n == 0) = false := by simpa using h
    go_enter Try.func92, Try.ntmps92
    go_wp2
    go_ret
    exact ⟨ret_bool (by rw [Bool.eq_iff_iff, inB_iff]; simp; omega), rfl⟩

theorem toward_c (n : Int) (w : World) (h0 : 0 ≤ n) (h1 : n ≤ 1) : Calls Try.prog 80 #[.int .i64 n] w fun e w' => e = .returned (.int .i64 (2 * n - 1)) ∧ w = w' := by
  go_enter Try.func80, Try.ntmps80
  go_wp2
  all_goals go_ret
  all_goals exact ⟨rfl, rfl⟩

theorem hasCell_c (m : Mp) (n : Int) (w : World) : Calls Try.prog 76 #[.agg #[.int .i64 m.c, .int .i64 m.w], .int .i64 n] w fun e w' => e = .returned (.bool (inB n 0 (wrap64 (m.c - 1)))) ∧ Ext w w' := by
  go_enter Try.func76, Try.ntmps76
  go_wp2_with (first | (go_at_call 51; refine (in_c _ _ _ _).mono ?_; rintro e w' ⟨rfl, rfl⟩))
  go_ret
  exact ⟨rfl, (by ((try simp only [ext_drew]); (try simp only [ext_ext]); repeat (first | exact Ext.refl _ | with_reducible apply Ext.add | with_reducible apply Ext.dr | apply Ext.alloc | apply Ext.ext | apply Ext.drew | refine Ext.trans ?_ (by assumption))))⟩
theorem hasCell_ok (m : Mp) (h : plcOk m = true) (n : Int) (w : World) : Calls Try.prog 76 #[.agg #[.int .i64 m.c, .int .i64 m.w], .int .i64 n] w fun e w' => e = .returned (.bool (inB n 0 (m.c - 1))) ∧ Ext w w' := by
  have e : wrap64 (m.c - 1) = m.c - 1 := by have := plcOk_iff.1 h; exact IntWalk.wrap64_in _ (by omega)
  rw [← e]
  exact hasCell_c m n w

theorem mul_bd {m : Mp} (h : plcOk m = true) : 4 ≤ m.c * m.w ∧ m.c * m.w ≤ 32 := by
  obtain ⟨⟨h1, h2⟩, h3, h4⟩ := plcOk_iff.1 h
  have a1 : 2 * m.w ≤ m.c * m.w := Int.mul_le_mul_of_nonneg_right h1 (by omega)
  have a2 : m.c * m.w ≤ 4 * m.w := Int.mul_le_mul_of_nonneg_right h2 (by omega)
  omega
theorem plcCell_bad {m : Mp} (p : Int) (h : plcOk m = false) : plcCell m p = -1 := by simp [plcCell, h]
theorem plcCell_out {m : Mp} {p : Int} (h : inB p 0 (m.c * m.w - 1) = false) : plcCell m p = -1 := by simp [plcCell, h]
theorem plcCell_in {m : Mp} {p : Int} (h : plcOk m = true) (h2 : inB p 0 (m.c * m.w - 1) = true) : plcCell m p = p / m.w := by simp [plcCell, h, h2]


theorem sPlcCell_c (m : Mp) (p : Int) (w : World) : Calls Try.prog 46 #[.agg #[.int .i64 m.c, .int .i64 m.w], .int .i64 p] w fun e w' => e = .returned (.int .i64 (plcCell m p)) ∧ Ext w w' := by
  by_cases h : plcOk m = true
  · obtain ⟨⟨h1, h2⟩, h3, h4⟩ := plcOk_iff.1 h
    obtain ⟨b1, b2⟩ := mul_bd h
    by_cases hp : inB p 0 (m.c * m.w - 1) = true
    · obtain ⟨p1, p2⟩ := inB_iff.1 hp
      have E := hid (plcCell_in h hp)
      go_enter Try.func46, Try.ntmps46
      go_wp2_with (first | (go_at_call 70; refine (sPlcOk_c _ _).mono ?_; rintro e w' ⟨rfl, t, rfl⟩) | (go_at_call 44; refine (l1In_c _ _ _ _).mono ?_; rintro e w' ⟨rfl, rfl⟩))
      go_ret
      exact ⟨ret_int (by rw [E.out]), (by ((try simp only [ext_drew]); (try simp only [ext_ext]); repeat (first | exact Ext.refl _ | with_reducible apply Ext.add | with_reducible apply Ext.dr | apply Ext.alloc | apply Ext.ext | apply Ext.drew | refine Ext.trans ?_ (by assumption))))⟩
    · have hp' : inB p 0 (m.c * m.w - 1) = false := by simpa using hp
      clear hp
      have E := hid (plcCell_out hp')
      go_enter Try.func46, Try.ntmps46
      go_wp2_with (first | (go_at_call 70; refine (sPlcOk_c _ _).mono ?_; rintro e w' ⟨rfl, t, rfl⟩) | (go_at_call 44; refine (l1In_c _ _ _ _).mono ?_; rintro e w' ⟨rfl, rfl⟩))
      go_ret
      exact ⟨ret_int (by rw [E.out]), (by ((try simp only [ext_drew]); (try simp only [ext_ext]); repeat (first | exact Ext.refl _ | with_reducible apply Ext.add | with_reducible apply Ext.dr | apply Ext.alloc | apply Ext.ext | apply Ext.drew | refine Ext.trans ?_ (by assumption))))⟩
  · have h' : plcOk m = false := by simpa using h
    clear h
    have E := hid (plcCell_bad p h')
    go_enter Try.func46, Try.ntmps46
    go_wp2_with (first | (go_at_call 70; refine (sPlcOk_c _ _).mono ?_; rintro e w' ⟨rfl, t, rfl⟩) | (go_at_call 44; refine (l1In_c _ _ _ _).mono ?_; rintro e w' ⟨rfl, rfl⟩))
    go_ret
    exact ⟨ret_int (by rw [E.out]), (by ((try simp only [ext_drew]); (try simp only [ext_ext]); repeat (first | exact Ext.refl _ | with_reducible apply Ext.add | with_reducible apply Ext.dr | apply Ext.alloc | apply Ext.ext | apply Ext.drew | refine Ext.trans ?_ (by assumption))))⟩

theorem iPlcCell_c (m : Mp) (p : Int) (w : World) : Calls Try.prog 77 #[.agg #[.int .i64 m.c, .int .i64 m.w], .int .i64 p] w fun e w' => e = .returned (.int .i64 (plcCell m p)) ∧ Ext w w' := by
  by_cases h : plcOk m = true
  · obtain ⟨⟨h1, h2⟩, h3, h4⟩ := plcOk_iff.1 h
    obtain ⟨b1, b2⟩ := mul_bd h
    by_cases hp : inB p 0 (m.c * m.w - 1) = true
    · obtain ⟨p1, p2⟩ := inB_iff.1 hp
      have E := hid (plcCell_in h hp)
      go_enter Try.func77, Try.ntmps77
      go_wp2_with (first | (go_at_call 91; refine (iPlcOk_c _ _).mono ?_; rintro e w' ⟨rfl, t, rfl⟩) | (go_at_call 51; refine (in_c _ _ _ _).mono ?_; rintro e w' ⟨rfl, rfl⟩))
      go_ret
      exact ⟨ret_int (by rw [E.out]), (by ((try simp only [ext_drew]); (try simp only [ext_ext]); repeat (first | exact Ext.refl _ | with_reducible apply Ext.add | with_reducible apply Ext.dr | apply Ext.alloc | apply Ext.ext | apply Ext.drew | refine Ext.trans ?_ (by assumption))))⟩
    · have hp' : inB p 0 (m.c * m.w - 1) = false := by simpa using hp
      clear hp
      have E := hid (plcCell_out hp')
      go_enter Try.func77, Try.ntmps77
      go_wp2_with (first | (go_at_call 91; refine (iPlcOk_c _ _).mono ?_; rintro e w' ⟨rfl, t, rfl⟩) | (go_at_call 51; refine (in_c _ _ _ _).mono ?_; rintro e w' ⟨rfl, rfl⟩))
      go_ret
      exact ⟨ret_int (by rw [E.out]), (by ((try simp only [ext_drew]); (try simp only [ext_ext]); repeat (first | exact Ext.refl _ | with_reducible apply Ext.add | with_reducible apply Ext.dr | apply Ext.alloc | apply Ext.ext | apply Ext.drew | refine Ext.trans ?_ (by assumption))))⟩
  · have h' : plcOk m = false := by simpa using h
    clear h
    have E := hid (plcCell_bad p h')
    go_enter Try.func77, Try.ntmps77
    go_wp2_with (first | (go_at_call 91; refine (iPlcOk_c _ _).mono ?_; rintro e w' ⟨rfl, t, rfl⟩) | (go_at_call 51; refine (in_c _ _ _ _).mono ?_; rintro e w' ⟨rfl, rfl⟩))
    go_ret
    exact ⟨ret_int (by rw [E.out]), (by ((try simp only [ext_drew]); (try simp only [ext_ext]); repeat (first | exact Ext.refl _ | with_reducible apply Ext.add | with_reducible apply Ext.dr | apply Ext.alloc | apply Ext.ext | apply Ext.drew | refine Ext.trans ?_ (by assumption))))⟩

theorem plcSide_bad {m : Mp} (c s : Int) (h : plcOk m = false) : plcSide m c s = -1 := by simp [plcSide, h]
theorem plcSide_out {m : Mp} {c : Int} (s : Int) (h : inB c 0 (m.c - 1) = false) : plcSide m c s = -1 := by simp [plcSide, h]
theorem plcSide_no {m : Mp} (c : Int) {s : Int} (h : inB s 0 1 = false) : plcSide m c s = -1 := by simp [plcSide, h]
theorem plcSide_end {m : Mp} {c s : Int} (h : inB (c + (2 * s - 1)) 0 (m.c - 1) = false) : plcSide m c s = -1 := by simp [plcSide, h]
theorem plcSide_in {m : Mp} {c s : Int} (h1 : plcOk m = true) (h2 : inB c 0 (m.c - 1) = true) (h3 : inB s 0 1 = true) (h : inB (c + (2 * s - 1)) 0 (m.c - 1) = true) : plcSide m c s = c + (2 * s - 1) := by simp [plcSide, h, h1, h2, h3]

theorem iPlcSide_c (m : Mp) (c s : Int) (w : World) : Calls Try.prog 78 #[.agg #[.int .i64 m.c, .int .i64 m.w], .int .i64 c, .int .i64 s] w fun e w' => e = .returned (.int .i64 (plcSide m c s)) ∧ Ext w w' := by
  cases h : plcOk m with
  | false =>
    have E := hid (plcSide_bad c s h)
    go_enter Try.func78, Try.ntmps78
    go_wp2
    with_reducible refine wp_region_ext (by kernel_rfl) (by kernel_rfl) ?_
    repeat (go_big_quiet_step ((first | (go_at_call 91; first | exact quiet_call (iPlcOk_c _ _) | exact quiet_call2 (iPlcOk_c _ _)) | (go_at_call 76; first | exact quiet_call (hasCell_ok _ (by assumption) _ _) | exact quiet_call2 (hasCell_ok _ (by assumption) _ _)) | (go_at_call 92; first | exact quiet_same (isSide_c _ _) | exact quiet_same2 (isSide_c _ _)) | (go_at_call 80; first | exact quiet_same (toward_c _ _ (by omega) (by omega)) | exact quiet_same2 (toward_c _ _ (by omega) (by omega))))))
    refine wpQuiet_nil ?_
    rintro _ ⟨tq, rfl⟩
    go_wp2
    go_ret
    exact ⟨ret_int (by rw [E.out]), (by ((try simp only [ext_drew]); (try simp only [ext_ext]); repeat (first | exact Ext.refl _ | with_reducible apply Ext.add | with_reducible apply Ext.dr | apply Ext.alloc | apply Ext.ext | apply Ext.drew | refine Ext.trans ?_ (by assumption))))⟩
  | true =>
    obtain ⟨⟨h1, h2⟩, h3, h4⟩ := plcOk_iff.1 h
    cases hc : inB c 0 (m.c - 1) with
    | false =>
      have E := hid (plcSide_out s hc)
      go_enter Try.func78, Try.ntmps78
      go_wp2
      with_reducible refine wp_region_ext (by kernel_rfl) (by kernel_rfl) ?_
      repeat (go_big_quiet_step ((first | (go_at_call 91; first | exact quiet_call (iPlcOk_c _ _) | exact quiet_call2 (iPlcOk_c _ _)) | (go_at_call 76; first | exact quiet_call (hasCell_ok _ (by assumption) _ _) | exact quiet_call2 (hasCell_ok _ (by assumption) _ _)) | (go_at_call 92; first | exact quiet_same (isSide_c _ _) | exact quiet_same2 (isSide_c _ _)) | (go_at_call 80; first | exact quiet_same (toward_c _ _ (by omega) (by omega)) | exact quiet_same2 (toward_c _ _ (by omega) (by omega))))))
      refine wpQuiet_nil ?_
      rintro _ ⟨tq, rfl⟩
      go_wp2
      go_ret
      exact ⟨ret_int (by rw [E.out]), (by ((try simp only [ext_drew]); (try simp only [ext_ext]); repeat (first | exact Ext.refl _ | with_reducible apply Ext.add | with_reducible apply Ext.dr | apply Ext.alloc | apply Ext.ext | apply Ext.drew | refine Ext.trans ?_ (by assumption))))⟩
    | true =>
      obtain ⟨c1, c2⟩ := inB_iff.1 hc
      cases hs : inB s 0 1 with
      | false =>
        have E := hid (plcSide_no (m := m) c hs)
        go_enter Try.func78, Try.ntmps78
        go_wp2
        with_reducible refine wp_region_ext (by kernel_rfl) (by kernel_rfl) ?_
        repeat (go_big_quiet_step ((first | (go_at_call 91; first | exact quiet_call (iPlcOk_c _ _) | exact quiet_call2 (iPlcOk_c _ _)) | (go_at_call 76; first | exact quiet_call (hasCell_ok _ (by assumption) _ _) | exact quiet_call2 (hasCell_ok _ (by assumption) _ _)) | (go_at_call 92; first | exact quiet_same (isSide_c _ _) | exact quiet_same2 (isSide_c _ _)) | (go_at_call 80; first | exact quiet_same (toward_c _ _ (by omega) (by omega)) | exact quiet_same2 (toward_c _ _ (by omega) (by omega))))))
        refine wpQuiet_nil ?_
        rintro _ ⟨tq, rfl⟩
        go_wp2
        go_ret
        exact ⟨ret_int (by rw [E.out]), (by ((try simp only [ext_drew]); (try simp only [ext_ext]); repeat (first | exact Ext.refl _ | with_reducible apply Ext.add | with_reducible apply Ext.dr | apply Ext.alloc | apply Ext.ext | apply Ext.drew | refine Ext.trans ?_ (by assumption))))⟩
      | true =>
        obtain ⟨s1, s2⟩ := inB_iff.1 hs
        cases hd : inB (c + (2 * s - 1)) 0 (m.c - 1) with
        | false =>
          have E := hid (plcSide_end hd)
          go_enter Try.func78, Try.ntmps78
          go_wp2
          with_reducible refine wp_region_ext (by kernel_rfl) (by kernel_rfl) ?_
          repeat (go_big_quiet_step ((first | (go_at_call 91; first | exact quiet_call (iPlcOk_c _ _) | exact quiet_call2 (iPlcOk_c _ _)) | (go_at_call 76; first | exact quiet_call (hasCell_ok _ (by assumption) _ _) | exact quiet_call2 (hasCell_ok _ (by assumption) _ _)) | (go_at_call 92; first | exact quiet_same (isSide_c _ _) | exact quiet_same2 (isSide_c _ _)) | (go_at_call 80; first | exact quiet_same (toward_c _ _ (by omega) (by omega)) | exact quiet_same2 (toward_c _ _ (by omega) (by omega))))))
          refine wpQuiet_nil ?_
          rintro _ ⟨tq, rfl⟩
          go_wp2
          go_ret
          exact ⟨ret_int (by rw [E.out]), (by ((try simp only [ext_drew]); (try simp only [ext_ext]); repeat (first | exact Ext.refl _ | with_reducible apply Ext.add | with_reducible apply Ext.dr | apply Ext.alloc | apply Ext.ext | apply Ext.drew | refine Ext.trans ?_ (by assumption))))⟩
        | true =>
          have E := hid (plcSide_in h hc hs hd)
          go_enter Try.func78, Try.ntmps78
          go_wp2
          with_reducible refine wp_region_ext (by kernel_rfl) (by kernel_rfl) ?_
          repeat (go_big_quiet_step ((first | (go_at_call 91; first | exact quiet_call (iPlcOk_c _ _) | exact quiet_call2 (iPlcOk_c _ _)) | (go_at_call 76; first | exact quiet_call (hasCell_ok _ (by assumption) _ _) | exact quiet_call2 (hasCell_ok _ (by assumption) _ _)) | (go_at_call 92; first | exact quiet_same (isSide_c _ _) | exact quiet_same2 (isSide_c _ _)) | (go_at_call 80; first | exact quiet_same (toward_c _ _ (by omega) (by omega)) | exact quiet_same2 (toward_c _ _ (by omega) (by omega))))))
          refine wpQuiet_nil ?_
          rintro _ ⟨tq, rfl⟩
          go_wp2_with (first | (go_at_call 80; refine (toward_c _ _ (by omega) (by omega)).mono ?_; rintro e w' ⟨rfl, rfl⟩))
          go_ret
          exact ⟨ret_int (by rw [E.out]), (by ((try simp only [ext_drew]); (try simp only [ext_ext]); repeat (first | exact Ext.refl _ | with_reducible apply Ext.add | with_reducible apply Ext.dr | apply Ext.alloc | apply Ext.ext | apply Ext.drew | refine Ext.trans ?_ (by assumption))))⟩

theorem sPlcSide_c (m : Mp) (c s : Int) (w : World) : Calls Try.prog 47 #[.agg #[.int .i64 m.c, .int .i64 m.w], .int .i64 c, .int .i64 s] w fun e w' => e = .returned (.int .i64 (plcSide m c s)) ∧ Ext w w' := by
  cases h : plcOk m with
  | false =>
    have E := hid (plcSide_bad c s h)
    go_enter Try.func47, Try.ntmps47
    go_wp2_with (first | (go_at_call 70; refine (sPlcOk_c _ _).mono ?_; rintro e w' ⟨rfl, t, rfl⟩) | (go_at_call 44; refine (l1In_c _ _ _ _).mono ?_; rintro e w' ⟨rfl, rfl⟩))
    go_ret
    exact ⟨ret_int (by rw [E.out]), (by ((try simp only [ext_drew]); (try simp only [ext_ext]); repeat (first | exact Ext.refl _ | with_reducible apply Ext.add | with_reducible apply Ext.dr | apply Ext.alloc | apply Ext.ext | apply Ext.drew | refine Ext.trans ?_ (by assumption))))⟩
  | true =>
    obtain ⟨⟨h1, h2⟩, h3, h4⟩ := plcOk_iff.1 h
    cases hc : inB c 0 (m.c - 1) with
    | false =>
      have E := hid (plcSide_out s hc)
      go_enter Try.func47, Try.ntmps47
      go_wp2_with (first | (go_at_call 70; refine (sPlcOk_c _ _).mono ?_; rintro e w' ⟨rfl, t, rfl⟩) | (go_at_call 44; refine (l1In_c _ _ _ _).mono ?_; rintro e w' ⟨rfl, rfl⟩))
      go_ret
      exact ⟨ret_int (by rw [E.out]), (by ((try simp only [ext_drew]); (try simp only [ext_ext]); repeat (first | exact Ext.refl _ | with_reducible apply Ext.add | with_reducible apply Ext.dr | apply Ext.alloc | apply Ext.ext | apply Ext.drew | refine Ext.trans ?_ (by assumption))))⟩
    | true =>
      obtain ⟨c1, c2⟩ := inB_iff.1 hc
      by_cases hs0 : s = 0
      · subst hs0
        by_cases hd : 0 < c
        · have E := hid (plcSide_in (s := 0) h hc rfl (inB_iff.2 (by omega)))
          go_enter Try.func47, Try.ntmps47
          go_wp2_with (first | (go_at_call 70; refine (sPlcOk_c _ _).mono ?_; rintro e w' ⟨rfl, t, rfl⟩) | (go_at_call 44; refine (l1In_c _ _ _ _).mono ?_; rintro e w' ⟨rfl, rfl⟩))
          go_ret
          exact ⟨ret_int (by rw [E.out]; omega), (by ((try simp only [ext_drew]); (try simp only [ext_ext]); repeat (first | exact Ext.refl _ | with_reducible apply Ext.add | with_reducible apply Ext.dr | apply Ext.alloc | apply Ext.ext | apply Ext.drew | refine Ext.trans ?_ (by assumption))))⟩
        · have E := hid (plcSide_end (m := m) (c := c) (s := 0) (inB_not.2 (by omega)))
          go_enter Try.func47, Try.ntmps47
          go_wp2_with (first | (go_at_call 70; refine (sPlcOk_c _ _).mono ?_; rintro e w' ⟨rfl, t, rfl⟩) | (go_at_call 44; refine (l1In_c _ _ _ _).mono ?_; rintro e w' ⟨rfl, rfl⟩))
          go_ret
          exact ⟨ret_int (by rw [E.out]), (by ((try simp only [ext_drew]); (try simp only [ext_ext]); repeat (first | exact Ext.refl _ | with_reducible apply Ext.add | with_reducible apply Ext.dr | apply Ext.alloc | apply Ext.ext | apply Ext.drew | refine Ext.trans ?_ (by assumption))))⟩
      · have q0 : (s == 0) = false := by simpa using hs0
        by_cases hs1 : s = 1
        · subst hs1
          by_cases hd : c < m.c - 1
          · have E := hid (plcSide_in (s := 1) h hc rfl (inB_iff.2 (by omega)))
            go_enter Try.func47, Try.ntmps47
            go_wp2_with (first | (go_at_call 70; refine (sPlcOk_c _ _).mono ?_; rintro e w' ⟨rfl, t, rfl⟩) | (go_at_call 44; refine (l1In_c _ _ _ _).mono ?_; rintro e w' ⟨rfl, rfl⟩))
            go_ret
            exact ⟨ret_int (by rw [E.out]; omega), (by ((try simp only [ext_drew]); (try simp only [ext_ext]); repeat (first | exact Ext.refl _ | with_reducible apply Ext.add | with_reducible apply Ext.dr | apply Ext.alloc | apply Ext.ext | apply Ext.drew | refine Ext.trans ?_ (by assumption))))⟩
          · have E := hid (plcSide_end (m := m) (c := c) (s := 1) (inB_not.2 (by omega)))
            go_enter Try.func47, Try.ntmps47
            go_wp2_with (first | (go_at_call 70; refine (sPlcOk_c _ _).mono ?_; rintro e w' ⟨rfl, t, rfl⟩) | (go_at_call 44; refine (l1In_c _ _ _ _).mono ?_; rintro e w' ⟨rfl, rfl⟩))
            go_ret
            exact ⟨ret_int (by rw [E.out]), (by ((try simp only [ext_drew]); (try simp only [ext_ext]); repeat (first | exact Ext.refl _ | with_reducible apply Ext.add | with_reducible apply Ext.dr | apply Ext.alloc | apply Ext.ext | apply Ext.drew | refine Ext.trans ?_ (by assumption))))⟩
        · have q1 : (s == 1) = false := by simpa using hs1
          have E := hid (plcSide_no (m := m) c (s := s) (inB_not.2 (by omega)))
          clear hs0 hs1
          go_enter Try.func47, Try.ntmps47
          go_wp2_with (first | (go_at_call 70; refine (sPlcOk_c _ _).mono ?_; rintro e w' ⟨rfl, t, rfl⟩) | (go_at_call 44; refine (l1In_c _ _ _ _).mono ?_; rintro e w' ⟨rfl, rfl⟩))
          go_ret
          exact ⟨ret_int (by rw [E.out]), (by ((try simp only [ext_drew]); (try simp only [ext_ext]); repeat (first | exact Ext.refl _ | with_reducible apply Ext.add | with_reducible apply Ext.dr | apply Ext.alloc | apply Ext.ext | apply Ext.drew | refine Ext.trans ?_ (by assumption))))⟩

theorem plcCell_lo (m : Mp) (p : Int) : -1 ≤ plcCell m p ∧ plcCell m p ≤ 3 := by
  unfold plcCell
  split
  · rename_i h
    obtain ⟨h1, h2⟩ := h
    obtain ⟨⟨a1, a2⟩, a3, a4⟩ := plcOk_iff.1 h1
    obtain ⟨b1, b2⟩ := mul_bd h1
    obtain ⟨p1, p2⟩ := inB_iff.1 h2
    have k1 : 0 ≤ p / m.w := Int.ediv_nonneg p1 (by omega)
    have k2 : p / m.w < 4 := Int.ediv_lt_of_lt_mul (by omega) (by have := Int.mul_le_mul_of_nonneg_right a2 (show 0 ≤ m.w by omega); omega)
    omega
  · omega
theorem plcCell_ne {m : Mp} {p : Int} (h : plcCell m p ≠ -1) : plcOk m = true ∧ 0 ≤ p ∧ p ≤ m.c * m.w - 1 ∧ plcCell m p = p / m.w ∧ 0 ≤ plcCell m p ∧ plcCell m p ≤ m.c - 1 := by
  unfold plcCell at h ⊢
  split at h
  · rename_i hh
    obtain ⟨h1, h2⟩ := hh
    obtain ⟨p1, p2⟩ := inB_iff.1 h2
    obtain ⟨⟨a1, a2⟩, a3, a4⟩ := plcOk_iff.1 h1
    rw [if_pos ⟨h1, h2⟩]
    have k1 : 0 ≤ p / m.w := Int.ediv_nonneg p1 (by omega)
    have k2 : p / m.w < m.c := Int.ediv_lt_of_lt_mul (by omega) (by omega)
    exact ⟨h1, p1, p2, rfl, k1, by omega⟩
  · exact absurd rfl h
theorem plcSide_ne {m : Mp} {c s : Int} (h : plcSide m c s ≠ -1) : plcOk m = true ∧ 0 ≤ c ∧ c ≤ m.c - 1 ∧ 0 ≤ s ∧ s ≤ 1 ∧ plcSide m c s = c + (2 * s - 1) ∧ 0 ≤ c + (2 * s - 1) ∧ c + (2 * s - 1) ≤ m.c - 1 := by
  unfold plcSide at h ⊢
  split at h
  · rename_i hh
    obtain ⟨h1, h2, h3, h4⟩ := hh
    rw [if_pos ⟨h1, h2, h3, h4⟩]
    have := inB_iff.1 h2; have := inB_iff.1 h3; have := inB_iff.1 h4
    exact ⟨h1, by omega, by omega, by omega, by omega, rfl, by omega, by omega⟩
  · exact absurd rfl h

theorem plcEdge_1 {m : Mp} {p : Int} (s : Int) (h : plcCell m p = -1) : plcEdge m p s = false := by simp [plcEdge, h]
theorem plcEdge_2 {m : Mp} {p s : Int} (h : plcSide m (plcCell m p) s = -1) : plcEdge m p s = false := by simp [plcEdge, h]
theorem plcEdge_3 {m : Mp} {p s : Int} (h : plcCell m p ≠ -1) (h2 : plcSide m (plcCell m p) s ≠ -1) : plcEdge m p s = (plcCell m (p + (2 * s - 1)) != plcCell m p) := by simp [plcEdge, h, h2]

theorem plcCell_at {m : Mp} {p c : Int} (ok : plcOk m = true) (c1 : 0 ≤ c) (c2 : c ≤ m.c - 1) (h1 : c * m.w ≤ p) (h2 : p < c * m.w + m.w) : plcCell m p = c := by
  obtain ⟨⟨a1, a2⟩, a3, a4⟩ := plcOk_iff.1 ok
  have n1 : 0 ≤ c * m.w := Int.mul_nonneg c1 (by omega)
  have n2 : (c + 1) * m.w ≤ m.c * m.w := Int.mul_le_mul_of_nonneg_right (by omega) (by omega)
  rw [Int.add_mul, Int.one_mul] at n2
  rw [plcCell_in ok (inB_iff.2 (by omega))]
  have := Int.ediv_emod_unique (a := p) (b := m.w) (r := p - c * m.w) (q := c) (by omega)
  exact (this.2 ⟨by rw [Int.mul_comm]; omega, by omega, by omega⟩).1
theorem plcCell_eq {m : Mp} {p : Int} (ok : plcOk m = true) (h : plcCell m p ≠ -1) : plcCell m p * m.w ≤ p ∧ p < plcCell m p * m.w + m.w := by
  rw [(plcCell_ne h).2.2.2.1]
  obtain ⟨⟨a1, a2⟩, a3, a4⟩ := plcOk_iff.1 ok
  have e1 := Int.mul_ediv_add_emod p m.w
  have e2 := Int.emod_nonneg p (show m.w ≠ 0 by omega)
  have e3 := Int.emod_lt_of_pos p (show 0 < m.w by omega)
  rw [Int.mul_comm] at e1
  omega
theorem edge_left {m : Mp} {p : Int} (ok : plcOk m = true) (k : 1 ≤ plcCell m p) (k2 : plcCell m p ≤ m.c - 1) :
    (plcCell m (p + (2 * 0 - 1)) != plcCell m p) = (p == plcCell m p * m.w) := by
  have h : plcCell m p ≠ -1 := by omega
  obtain ⟨h1, h2⟩ := plcCell_eq ok h
  obtain ⟨⟨a1, a2⟩, a3, a4⟩ := plcOk_iff.1 ok
  generalize hc : plcCell m p = c at *
  by_cases hp : p = c * m.w
  · have : plcCell m (p + (2 * 0 - 1)) = c - 1 := plcCell_at ok (by omega) (by omega) (by rw [Int.sub_mul]; omega) (by rw [Int.sub_mul]; omega)
    rw [this]; simp [hp]; omega
  · have : plcCell m (p + (2 * 0 - 1)) = c := plcCell_at ok (by omega) (by omega) (by omega) (by omega)
    rw [this]; simp [hp]
theorem edge_right {m : Mp} {p : Int} (ok : plcOk m = true) (k : 0 ≤ plcCell m p) (k2 : plcCell m p + 1 ≤ m.c - 1) :
    (plcCell m (p + (2 * 1 - 1)) != plcCell m p) = (p == plcCell m p * m.w + m.w - 1) := by
  have h : plcCell m p ≠ -1 := by omega
  obtain ⟨h1, h2⟩ := plcCell_eq ok h
  obtain ⟨⟨a1, a2⟩, a3, a4⟩ := plcOk_iff.1 ok
  generalize hc : plcCell m p = c at *
  by_cases hp : p = c * m.w + m.w - 1
  · have : plcCell m (p + (2 * 1 - 1)) = c + 1 := plcCell_at ok (by omega) (by omega) (by rw [Int.add_mul]; omega) (by rw [Int.add_mul]; omega)
    rw [this]; simp [hp]; omega
  · have : plcCell m (p + (2 * 1 - 1)) = c := plcCell_at ok (by omega) (by omega) (by omega) (by omega)
    rw [this]; simp [hp]

theorem bne_f {a b : Int} (h : a = b) : (a != b) = false := by simp [h]
theorem bne_t {a b : Int} (h : a ≠ b) : (a != b) = true := by simp [h]
theorem beq_f {a b : Int} (h : a ≠ b) : (a == b) = false := by simp [h]
theorem beq_t {a b : Int} (h : a = b) : (a == b) = true := by simp [h]

theorem iPlcEdge_c (m : Mp) (p s : Int) (w : World) : Calls Try.prog 53 #[.agg #[.int .i64 m.c, .int .i64 m.w], .int .i64 p, .int .i64 s] w fun e w' => e = .returned (.bool (plcEdge m p s)) ∧ Ext w w' := by
  by_cases h : plcCell m p = -1
  · have E := hid (plcEdge_1 s h)
    have q := bne_f h
    clear h
    go_enter Try.func53, Try.ntmps53
    go_wp2_with (first | (go_at_call 77; refine (iPlcCell_c _ _ _).mono ?_; rintro e w' ⟨rfl, t, rfl⟩))
    with_reducible refine wp_region_ext (by kernel_rfl) (by kernel_rfl) ?_
    repeat (go_big_quiet_step ((first | (go_at_call 78; first | exact quiet_call (iPlcSide_c _ _ _ _) | exact quiet_call2 (iPlcSide_c _ _ _ _)) | (go_at_call 80; first | exact quiet_same (toward_c _ _ (by omega) (by omega)) | exact quiet_same2 (toward_c _ _ (by omega) (by omega))) | (go_at_call 77; first | exact quiet_call (iPlcCell_c _ _ _) | exact quiet_call2 (iPlcCell_c _ _ _)))))
    refine wpQuiet_nil ?_
    rintro _ ⟨tq, rfl⟩
    go_wp2
    go_ret
    exact ⟨ret_bool (by rw [E.out]), (by ((try simp only [ext_drew]); (try simp only [ext_ext]); repeat (first | exact Ext.refl _ | with_reducible apply Ext.add | with_reducible apply Ext.dr | apply Ext.alloc | apply Ext.ext | apply Ext.drew | refine Ext.trans ?_ (by assumption))))⟩
  · have q := bne_t h
    by_cases hd : plcSide m (plcCell m p) s = -1
    · have E := hid (plcEdge_2 hd)
      have q2 := bne_f hd
      clear h hd
      go_enter Try.func53, Try.ntmps53
      go_wp2_with (first | (go_at_call 77; refine (iPlcCell_c _ _ _).mono ?_; rintro e w' ⟨rfl, t, rfl⟩))
      with_reducible refine wp_region_ext (by kernel_rfl) (by kernel_rfl) ?_
      repeat (go_big_quiet_step ((first | (go_at_call 78; first | exact quiet_call (iPlcSide_c _ _ _ _) | exact quiet_call2 (iPlcSide_c _ _ _ _)) | (go_at_call 80; first | exact quiet_same (toward_c _ _ (by omega) (by omega)) | exact quiet_same2 (toward_c _ _ (by omega) (by omega))) | (go_at_call 77; first | exact quiet_call (iPlcCell_c _ _ _) | exact quiet_call2 (iPlcCell_c _ _ _)))))
      refine wpQuiet_nil ?_
      rintro _ ⟨tq, rfl⟩
      go_wp2
      go_ret
      exact ⟨ret_bool (by rw [E.out]), (by ((try simp only [ext_drew]); (try simp only [ext_ext]); repeat (first | exact Ext.refl _ | with_reducible apply Ext.add | with_reducible apply Ext.dr | apply Ext.alloc | apply Ext.ext | apply Ext.drew | refine Ext.trans ?_ (by assumption))))⟩
    · have q2 := bne_t hd
      have E := hid (plcEdge_3 h hd)
      have p1 := (plcCell_ne h).2.1
      have p2 := (plcCell_ne h).2.2.1
      have s1 := (plcSide_ne hd).2.2.2.1
      have s2 := (plcSide_ne hd).2.2.2.2.1
      obtain ⟨b1, b2⟩ := mul_bd (plcCell_ne h).1
      clear h hd
      go_enter Try.func53, Try.ntmps53
      go_wp2_with (first | (go_at_call 77; refine (iPlcCell_c _ _ _).mono ?_; rintro e w' ⟨rfl, t, rfl⟩))
      with_reducible refine wp_region_ext (by kernel_rfl) (by kernel_rfl) ?_
      repeat (go_big_quiet_step ((first | (go_at_call 78; first | exact quiet_call (iPlcSide_c _ _ _ _) | exact quiet_call2 (iPlcSide_c _ _ _ _)) | (go_at_call 80; first | exact quiet_same (toward_c _ _ (by omega) (by omega)) | exact quiet_same2 (toward_c _ _ (by omega) (by omega))) | (go_at_call 77; first | exact quiet_call (iPlcCell_c _ _ _) | exact quiet_call2 (iPlcCell_c _ _ _)))))
      refine wpQuiet_nil ?_
      rintro _ ⟨tq, rfl⟩
      go_wp2
      go_ret
      exact ⟨ret_bool (by rw [E.out]), (by ((try simp only [ext_drew]); (try simp only [ext_ext]); repeat (first | exact Ext.refl _ | with_reducible apply Ext.add | with_reducible apply Ext.dr | apply Ext.alloc | apply Ext.ext | apply Ext.drew | refine Ext.trans ?_ (by assumption))))⟩

theorem sPlcEdge_c (m : Mp) (p s : Int) (w : World) : Calls Try.prog 24 #[.agg #[.int .i64 m.c, .int .i64 m.w], .int .i64 p, .int .i64 s] w fun e w' => e = .returned (.bool (plcEdge m p s)) ∧ Ext w w' := by
  by_cases hd : plcSide m (plcCell m p) s = -1
  · have E := hid (plcEdge_2 hd)
    have q := beq_t hd
    clear hd
    go_enter Try.func24, Try.ntmps24
    go_wp2_with (first | (go_at_call 46; refine (sPlcCell_c _ _ _).mono ?_; rintro e w' ⟨rfl, t, rfl⟩) | (go_at_call 47; refine (sPlcSide_c _ _ _ _).mono ?_; rintro e w' ⟨rfl, t, rfl⟩))
    go_ret
    exact ⟨ret_bool (by rw [E.out]), (by ((try simp only [ext_drew]); (try simp only [ext_ext]); repeat (first | exact Ext.refl _ | with_reducible apply Ext.add | with_reducible apply Ext.dr | apply Ext.alloc | apply Ext.ext | apply Ext.drew | refine Ext.trans ?_ (by assumption))))⟩
  · have q := beq_f hd
    have ok := (plcSide_ne hd).1
    have k1 := (plcSide_ne hd).2.1
    have k2 := (plcSide_ne hd).2.2.1
    have s1 := (plcSide_ne hd).2.2.2.1
    have s2 := (plcSide_ne hd).2.2.2.2.1
    have d1 := (plcSide_ne hd).2.2.2.2.2.2.1
    have d2 := (plcSide_ne hd).2.2.2.2.2.2.2
    have h : plcCell m p ≠ -1 := by omega
    have p1 := (plcCell_ne h).2.1
    have p2 := (plcCell_ne h).2.2.1
    have pe := (plcCell_ne h).2.2.2.1
    obtain ⟨⟨a1, a2⟩, a3, a4⟩ := plcOk_iff.1 ok
    obtain ⟨b1, b2⟩ := mul_bd ok
    have E := hid (plcEdge_3 h hd)
    have m1 : plcCell m p * m.w ≤ p ∧ p < plcCell m p * m.w + m.w := by
      rw [pe]
      have e1 := Int.mul_ediv_add_emod p m.w
      have e2 := Int.emod_nonneg p (show m.w ≠ 0 by omega)
      have e3 := Int.emod_lt_of_pos p (show 0 < m.w by omega)
      rw [Int.mul_comm] at e1
      omega
    by_cases hs : s = 0
    · subst hs
      have R := hid (edge_left (p := p) ok (by omega) (by omega))
      clear pe hd h ok
      obtain ⟨m1, m2⟩ := m1
      go_enter Try.func24, Try.ntmps24
      go_wp2_with (first | (go_at_call 46; refine (sPlcCell_c _ _ _).mono ?_; rintro e w' ⟨rfl, t, rfl⟩) | (go_at_call 47; refine (sPlcSide_c _ _ _ _).mono ?_; rintro e w' ⟨rfl, t, rfl⟩))
      go_ret
      exact ⟨ret_bool (by rw [E.out, R.out]), (by ((try simp only [ext_drew]); (try simp only [ext_ext]); repeat (first | exact Ext.refl _ | with_reducible apply Ext.add | with_reducible apply Ext.dr | apply Ext.alloc | apply Ext.ext | apply Ext.drew | refine Ext.trans ?_ (by assumption))))⟩
    · have hs1 : s = 1 := by omega
      subst hs1
      have R := hid (edge_right (p := p) ok (by omega) (by omega))
      clear pe hd h ok hs
      obtain ⟨m1, m2⟩ := m1
      go_enter Try.func24, Try.ntmps24
      go_wp2_with (first | (go_at_call 46; refine (sPlcCell_c _ _ _).mono ?_; rintro e w' ⟨rfl, t, rfl⟩) | (go_at_call 47; refine (sPlcSide_c _ _ _ _).mono ?_; rintro e w' ⟨rfl, t, rfl⟩))
      go_ret
      exact ⟨ret_bool (by rw [E.out, R.out]), (by ((try simp only [ext_drew]); (try simp only [ext_ext]); repeat (first | exact Ext.refl _ | with_reducible apply Ext.add | with_reducible apply Ext.dr | apply Ext.alloc | apply Ext.ext | apply Ext.drew | refine Ext.trans ?_ (by assumption))))⟩
end Go.Proofs.Ytdogknbkcididaa
