/- ArbNew: a table in which nobody has a cell. -/
import Derived.Test.YtaepmhoedaogkaaArbH
import Derived.Test.YtaepmhoedaogkaaApp
import Derived.Test.YtaepmhoedaogkaaGwyB
import Derived.Maps.AppendAt
namespace Go.Proofs.Ytaepmhoedaogkaa
open Go.RowKit
set_option linter.unusedSimpArgs false
set_option linter.unusedVariables false

/-- An element appended, and where the row lies then. -/
theorem wp_appRX {α : Type} {cells : α → List Value} {k bytes : Nat} {z : Value} {TS T : TypeId} (hT : Try.prog.underlying TS = some (.slice T)) (hI : (Try.prog.info? T).map (fun i => (i.zero, i.size, i.bytes)) = some (some z, k, bytes)) (hz : z.cells.size = k) (hpos : 0 < k) (hby : bytes ≤ 1024)
    (hcl : ∀ x, (cells x).length = k) (hone : ∀ x, ∀ u ∈ cells x, u.oneCell' = true)
    {o : Oper} {a : Act} {K : Act → World → Prop} {Q : Exit → Act → World → Prop} {w : World} (R base : Nat) (s x : Operand) (ho : o.op = .call { callee := .builtin .append, args := #[s, x], argTypes := #[TS, TS] })
    {v : Value} {xs : List α} (hs : a.eval s = v) (hb : base ≤ w.heap.size) (hown : w.ownsRow base T k v xs.length (xs.flatMap cells)) (hR : ∀ g, v.ownBlock = some g → g = R) (y : α) {b c : Nat} {T' : TypeId} (hx : a.eval x = .slice (some ⟨b, 0, none⟩) 1 c) (hy : w.heap[b]? = some (.cells (cells y).toArray T' (0, 0))) (hn : xs.length ≤ 4194304)
    (h : ∀ v' w', w'.ownsRow base T k v' (xs ++ [y]).length ((xs ++ [y]).flatMap cells) → Chg [R] w w' → (v'.ownBlock = v.ownBlock ∨ v'.ownBlock = some w.heap.size) → K (a.put o.dst v') w') : o.wp Try.prog a w K Q := by
  cases hi : Try.prog.info? T with
  | none => rw [hi] at hI; cases hI
  | some i =>
    rw [hi] at hI
    simp only [Option.map_some, Option.some.injEq, Prod.mk.injEq] at hI
    obtain ⟨i1, i2, i3⟩ := hI
    obtain ⟨v', w', hr, h1, h2, _, h4⟩ := run_append_own_at (P := Try.prog) w base TS o.type T i z k bytes hT hi i1 i2 i3 hz hpos v xs.length (xs.flatMap cells) hown ⟨b, 0, none⟩ 1 c (cells y) (by rw [hcl, Nat.one_mul]) (by
      intro j u hu
      rw [ld_add, Nat.zero_add, cell_blk hy]
      simpa using hu) (hone y) (by simp only [maxLen]; omega) (by
      calc (xs.length + 1) * bytes ≤ (xs.length + 1) * 1024 := Nat.mul_le_mul_left _ hby
        _ ≤ 140737488355328 := by omega) hb
    unfold Oper.wp execOp
    simp only [ho, resolve, invoke, builtin, Sem.run_bind, Sem.run_pure, Result.andThen_ok, List.map_toArray, List.map_cons, List.map_nil, hs, hx, hr]
    refine h v' w' ?_ ⟨h2.os, h2.tape, h2.output, h2.size, fun k hk hn => h2.block k hk (fun e => hn (by rw [hR k (by first | exact e | exact e.symm)]; simp))⟩ h4
    rw [List.length_append, List.length_singleton, List.flatMap_append, List.flatMap_singleton]
    exact h1
theorem wp_appRX_Int {o : Oper} {a : Act} {K : Act → World → Prop} {Q : Exit → Act → World → Prop} {w : World} (R base : Nat) (s x : Operand) (ho : o.op = .call { callee := .builtin .append, args := #[s, x], argTypes := #[54, 54] })
    {v : Value} {xs : List Int} (hs : a.eval s = v) (hb : base ≤ w.heap.size) (hown : w.ownsRow base 3 1 v xs.length (xs.flatMap icells)) (hR : ∀ g, v.ownBlock = some g → g = R) (y : Int) {b c : Nat} {T' : TypeId} (hx : a.eval x = .slice (some ⟨b, 0, none⟩) 1 c) (hy : w.heap[b]? = some (.cells (icells y).toArray T' (0, 0))) (hn : xs.length ≤ 4194304)
    (h : ∀ v' w', w'.ownsRow base 3 1 v' (xs ++ [y]).length ((xs ++ [y]).flatMap icells) → Chg [R] w w' → (v'.ownBlock = v.ownBlock ∨ v'.ownBlock = some w.heap.size) → K (a.put o.dst v') w') : o.wp Try.prog a w K Q :=
  wp_appRX (cells := icells) (k := 1) (bytes := 8) (z := .int .i64 0) Try.underlying54 (by kernel_rfl) rfl (by decide) (by decide) (fun _ => rfl) ione R base s x ho hs hb hown hR y hx hy hn h

theorem wpList_appRX_Int {ops : Array Oper} {rest : List Oper} {o : Oper} {a : Act} {Q : Exit → Act → World → Prop} {w : World} (hgd : o.guard = none) (R base : Nat) (s x : Operand) (ho : o.op = .call { callee := .builtin .append, args := #[s, x], argTypes := #[54, 54] })
    {v : Value} {xs : List Int} (hs : a.eval s = v) (hb : base ≤ w.heap.size) (hown : w.ownsRow base 3 1 v xs.length (xs.flatMap icells)) (hR : ∀ g, v.ownBlock = some g → g = R) (y : Int) {b c : Nat} {T' : TypeId} (hx : a.eval x = .slice (some ⟨b, 0, none⟩) 1 c) (hy : w.heap[b]? = some (.cells (icells y).toArray T' (0, 0))) (hn : xs.length ≤ 4194304)
    (h : ∀ v' w', w'.ownsRow base 3 1 v' (xs ++ [y]).length ((xs ++ [y]).flatMap icells) → Chg [R] w w' → (v'.ownBlock = v.ownBlock ∨ v'.ownBlock = some w.heap.size) → wpList Try.prog ops Q rest (a.put o.dst v') w') : wpList Try.prog ops Q (o :: rest) a w :=
  wpList_plain hgd fun K hK => wp_appRX_Int R base s x ho hs hb hown hR y hx hy hn fun v' w' h1 h2 h3 => hK _ _ (h v' w' h1 h2 h3)

/-- A row whose block is not B's stays. -/
theorem ownsRow_off {w w' : World} {base sz n : Nat} {T : TypeId} {v : Value} {xs : List Value} {B : List Nat} (h : w.ownsRow base T sz v n xs) (hc : Chg B w w') (hB : ∀ g, v.ownBlock = some g → g ∉ B) : w'.ownsRow base T sz v n xs := by
  refine ⟨h.1, h.2.imp id fun ⟨g, cap, cur, h1, h2, h3, h4⟩ => ⟨g, cap, cur, h1, h2, ?_, h4⟩⟩
  rw [hc.block g (lt_blk h3) (hB g (by rw [h1]; rfl))]
  exact h3
theorem row_lt {w : World} {base sz n : Nat} {T : TypeId} {v : Value} {xs : List Value} (h : w.ownsRow base T sz v n xs) : ∀ g, v.ownBlock = some g → base ≤ g ∧ g < w.heap.size := by
  intro g hg
  rcases h.2 with ⟨rfl, _⟩ | ⟨g', cap, cur, rfl, h2, h3, _⟩
  · simp [Value.ownBlock] at hg
  · obtain rfl : g' = g := by simpa [Value.ownBlock] using hg
    exact ⟨h2, lt_blk h3⟩
/-- The block that a row may be changed in, beside another row. -/
theorem row_block2 {w : World} {base s1 s2 n1 n2 : Nat} {e1 e2 : TypeId} {xs1 xs2 : List Value} (v u : Value) (h : w.ownsRow base e1 s1 v n1 xs1) (k : w.ownsRow base e2 s2 u n2 xs2) (hd : ∀ g, v.ownBlock = some g → u.ownBlock ≠ some g) (hb : base ≤ w.heap.size) :
    ∃ R, (∀ g, v.ownBlock = some g → g = R) ∧ base ≤ R ∧ R ≠ w.heap.size ∧ (∀ g, u.ownBlock = some g → g ≠ R) := by
  cases hv : v.ownBlock with
  | none => exact ⟨w.heap.size + 1, by simp, by omega, by omega, fun g hg => by have := (row_lt k g hg).2; omega⟩
  | some r =>
    refine ⟨r, fun g hg => by simpa using hg.symm, (row_lt h r hv).1, by have := (row_lt h r hv).2; omega, fun g hg e => ?_⟩
    subst e
    exact hd _ hv hg
theorem own_row' {α : Type} {cells : α → List Value} {dat : α → Dat} {sch : Sch} {k : Nat} (hsz : sch.size = k) (hown : ∀ w x, Own w sch (cells x) (dat x) []) (hcl : ∀ x, (cells x).length = k) {w' : World} {base : Nat} {T : TypeId} {xs : List α} {v : Value}
    (hm : xs.length ≤ 9223372036854775807) (h : w'.ownsRow base T k v xs.length (xs.flatMap cells)) : ∃ a c, v = .slice a xs.length c ∧ Own w' (.sl sch) [.slice a xs.length c] (.l (xs.map dat)) v.ownBlock.toList := by
  obtain ⟨hl, ⟨rfl, h0⟩ | ⟨g, cap, cur, rfl, hg, hb, hc, hcm, hcs, ht⟩⟩ := h
  · have hx : xs = [] := List.eq_nil_of_length_eq_zero h0
    subst hx
    exact ⟨none, 0, rfl, own_flat_mk (xs := []) (k := k) hsz hown (Nat.zero_le _) (.inl ⟨rfl, rfl⟩)⟩
  · refine ⟨_, _, rfl, own_flat_mk hsz hown (by simpa [maxLen] using hm) (.inr ⟨g, cur, T, rfl, rfl, hb, ?_, ?_⟩)⟩
    · rw [hcs]; exact Nat.mul_le_mul_right _ hc
    · intro i x hi hx j u hu
      have hj : j < k := by rw [← hcl x]; exact (List.getElem?_eq_some_iff.1 hu).1
      have e1 : (xs.flatMap cells)[i * k + j]? = some u := by
        clear hl ht hcs hc hi hm
        induction xs generalizing i with
        | nil => simp at hx
        | cons y ys ih =>
          rw [List.flatMap_cons]
          cases i with
          | zero =>
            obtain rfl : y = x := by simpa using hx
            rw [Nat.zero_mul, Nat.zero_add, List.getElem?_append_left (by rw [hcl]; exact hj)]
            exact hu
          | succ i =>
            rw [List.getElem?_append_right (by rw [hcl, Nat.add_mul]; omega), hcl, Nat.add_mul, show i * k + 1 * k + j - k = i * k + j by omega]
            exact ih i (by simpa using hx)
      have hlt : i * k + j < xs.length * k := by
        have : (i + 1) * k ≤ xs.length * k := Nat.mul_le_mul_right _ hi
        rw [Nat.add_mul, Nat.one_mul] at this
        omega
      rw [← ht, List.getElem?_take, if_pos hlt] at e1
      simpa using e1
theorem disj_new {v v' u : Value} {s : Nat} (h : v'.ownBlock = v.ownBlock ∨ v'.ownBlock = some s) (hd : ∀ g, v.ownBlock = some g → u.ownBlock ≠ some g) (hl : ∀ g, u.ownBlock = some g → g < s) : ∀ g, v'.ownBlock = some g → u.ownBlock ≠ some g := by
  intro g hg hu
  rcases h with h | h
  · exact hd g (h ▸ hg) hu
  · rw [h] at hg
    have := hl g hu
    have : s = g := by simpa using hg
    omega
/-- Two rows of one's own, in blocks apart. -/
theorem own_two {w : World} {base : Nat} {T : TypeId} {v0 v1 : Value} {xs0 xs1 : List Int} (h0 : w.ownsRow base T 1 v0 xs0.length (xs0.flatMap icells)) (h1 : w.ownsRow base T 1 v1 xs1.length (xs1.flatMap icells)) (hd : ∀ g, v0.ownBlock = some g → v1.ownBlock ≠ some g) (m0 : xs0.length ≤ 1048576) (m1 : xs1.length ≤ 1048576) :
    ∃ a0 c0 a1 c1, v0 = .slice a0 xs0.length c0 ∧ v1 = .slice a1 xs1.length c1 ∧ OwnR base w.heap.size w sArb [.slice a0 xs0.length c0, .slice a1 xs1.length c1] (arbDat xs0 xs1) := by
  have k0 := row_lt h0
  have k1 := row_lt h1
  obtain ⟨a0, c0, rfl, o0⟩ := own_row' (dat := Dat.i) (sch := .int) (k := 1) rfl (fun w x => own_Int_mk w x) (fun _ => rfl) (by omega) h0
  obtain ⟨a1, c1, rfl, o1⟩ := own_row' (dat := Dat.i) (sch := .int) (k := 1) rfl (fun w x => own_Int_mk w x) (fun _ => rfl) (by omega) h1
  refine ⟨a0, c0, a1, c1, rfl, rfl, Nat.le_refl _, _, ?_, ?_, own_Arb_of o0 o1⟩
  · rw [List.nodup_append]
    refine ⟨by cases (Value.slice a0 xs0.length c0).ownBlock <;> simp, by cases (Value.slice a1 xs1.length c1).ownBlock <;> simp, ?_⟩
    intro x hx y hy e
    subst e
    exact hd x (by simpa using hx) (by simpa using hy)
  · intro b hb
    rcases List.mem_append.1 hb with hb | hb
    · exact k0 b (by simpa using hb)
    · exact k1 b (by simpa using hb)

def anL (m : Mp) (x : Int) : List Int := if plcOk m then List.replicate m.c.toNat x else []
theorem anL_len (m : Mp) (x : Int) : (anL m x).length ≤ 4 := by
  unfold anL; split
  · rename_i h; have := plcOk_iff.1 h; simp; omega
  · simp

set_option maxRecDepth 100000 in
set_option maxHeartbeats 4000000 in
theorem iArbNew_c (m : Mp) (w : World) :
    Calls Try.prog 49 #[.agg #[.int .i64 m.c, .int .i64 m.w]] w (MadeArb w (anL m (-1)).length (anL m 0).length (anL m (-1)) (anL m 0)) := by
  cases p1 : plcOk m with
  | false =>
    go_enter Try.func49, Try.ntmps49
    try go_wp2_with (first
        | (go_at_call 80; refine (iPlcOk_c _ _).mono ?_; rintro e w' ⟨rfl, t, rfl⟩)
        | (
          with_reducible refine wp_region_mix (by kernel_rfl) (by decide +kernel) ?_
          repeat (first
            | (refine mix_pure rfl ?_; (first | go_big_quiet_skip | (go_big_quiet_want; go_big_quiet_op; go_big_quiet_on)); refine wpQuiet_nil ?_)
            | (refine mix_skip (by rfl) ?_; (try simp only [Act.put, List.setIfInBounds_toArray, List.set_cons_zero, List.set_cons_succ]))
            | (refine mix_mk rfl (by rfl) (fun K hK => ?_); (first | (go_simp; first | (go_at_call 80; refine (iPlcOk_c _ _).mono ?_; rintro e w' ⟨rfl, t, rfl⟩) | skip)); (show K _ _); refine hK _ _ (show Ext _ _ from (by ((try simp only [ext_drew]); (try simp only [ext_ext]); repeat (first | exact Ext.refl _ | with_reducible apply Ext.add | with_reducible apply Ext.dr | apply Ext.alloc | apply Ext.ext | apply Ext.drew | refine Ext.trans ?_ (by assumption))))) ?_; clear hK K; (try simp only [Act.put, List.setIfInBounds_toArray, List.set_cons_zero, List.set_cons_succ])))
          refine mix_nil ?_)
        | (
          with_reducible refine wp_region_ext (by kernel_rfl) (by kernel_rfl) ?_
          repeat (first | go_big_quiet_skip | (go_big_quiet_want; go_big_quiet_op; first | go_big_quiet_on | (apply Exists.intro; refine ⟨fun _ => ?_, ?_⟩; ((first | (go_at_call 80; first | exact quiet_call (iPlcOk_c _ _) | exact quiet_call2 (iPlcOk_c _ _)))); (try rw [h1]); (try rw [h2]); (try rw [h3]); (try rw [h4]); (try rw [p1]); (try rw [p2]); (try rw [p3]); (try rw [p4]); (try rw [r1]); (try rw [r2]); (try rw [r3]); (try rw [r4]); (try rw [r5]); (try rw [r6]); (try rw [q3]); (try rw [q4]); (try rw [hp]); (try rw [hq]); go_big_quiet_on)))
          refine wpQuiet_nil ?_
          rintro _ ⟨tq, rfl⟩))
    refine bodyPost_ret (v := .agg #[.slice none 0 0, .slice none 0 0]) (by simp [results, Try.results49, go_sem]) rfl ?_
    rw [show anL m (-1) = [] by rw [anL, p1]; rfl, show anL m 0 = [] by rw [anL, p1]; rfl]
    exact ⟨_, _, _, _, rfl, (by ((try simp only [ext_drew]); (try simp only [ext_ext]); repeat (first | exact Ext.refl _ | with_reducible apply Ext.add | with_reducible apply Ext.dr | apply Ext.alloc | apply Ext.ext | apply Ext.drew | refine Ext.trans ?_ (by assumption)))), Nat.le_refl _, [], by simp, by simp, own_Arb_nil _⟩
  | true =>
    obtain ⟨⟨c1, c2⟩, _⟩ := plcOk_iff.1 p1
    have E0 := hid (show anL m (-1) = List.replicate m.c.toNat (-1) by simp [anL, p1])
    have E1 := hid (show anL m 0 = List.replicate m.c.toNat 0 by simp [anL, p1])
    go_enter Try.func49, Try.ntmps49
    try go_wp2_with (first
        | (go_at_call 80; refine (iPlcOk_c _ _).mono ?_; rintro e w' ⟨rfl, t, rfl⟩)
        | (
          with_reducible refine wp_region_mix (by kernel_rfl) (by decide +kernel) ?_
          repeat (first
            | (refine mix_pure rfl ?_; (first | go_big_quiet_skip | (go_big_quiet_want; go_big_quiet_op; go_big_quiet_on)); refine wpQuiet_nil ?_)
            | (refine mix_skip (by rfl) ?_; (try simp only [Act.put, List.setIfInBounds_toArray, List.set_cons_zero, List.set_cons_succ]))
            | (refine mix_mk rfl (by rfl) (fun K hK => ?_); (first | (go_simp; first | (go_at_call 80; refine (iPlcOk_c _ _).mono ?_; rintro e w' ⟨rfl, t, rfl⟩) | skip)); (show K _ _); refine hK _ _ (show Ext _ _ from (by ((try simp only [ext_drew]); (try simp only [ext_ext]); repeat (first | exact Ext.refl _ | with_reducible apply Ext.add | with_reducible apply Ext.dr | apply Ext.alloc | apply Ext.ext | apply Ext.drew | refine Ext.trans ?_ (by assumption))))) ?_; clear hK K; (try simp only [Act.put, List.setIfInBounds_toArray, List.set_cons_zero, List.set_cons_succ])))
          refine mix_nil ?_)
        | (
          with_reducible refine wp_region_ext (by kernel_rfl) (by kernel_rfl) ?_
          repeat (first | go_big_quiet_skip | (go_big_quiet_want; go_big_quiet_op; first | go_big_quiet_on | (apply Exists.intro; refine ⟨fun _ => ?_, ?_⟩; ((first | (go_at_call 80; first | exact quiet_call (iPlcOk_c _ _) | exact quiet_call2 (iPlcOk_c _ _)))); (try rw [h1]); (try rw [h2]); (try rw [h3]); (try rw [h4]); (try rw [p1]); (try rw [p2]); (try rw [p3]); (try rw [p4]); (try rw [r1]); (try rw [r2]); (try rw [r3]); (try rw [r4]); (try rw [r5]); (try rw [r6]); (try rw [q3]); (try rw [q4]); (try rw [hp]); (try rw [hq]); go_big_quiet_on)))
          refine wpQuiet_nil ?_
          rintro _ ⟨tq, rfl⟩))
    refine wp_gen fun B0 hB0 => ?_
    generalize hTe : w.heap.size + 1 + 1 + t.bs.size = T
    have EB : Ext w B0 := by rw [hB0]; ((try simp only [ext_drew]); (try simp only [ext_ext]); repeat (first | exact Ext.refl _ | with_reducible apply Ext.add | with_reducible apply Ext.dr | apply Ext.alloc | apply Ext.ext | apply Ext.drew | refine Ext.trans ?_ (by assumption)))
    have hTw : w.heap.size + 1 + 1 ≤ T := by omega
    have hT0 : B0.heap[T]? = some (.cells #[.slice none 0 0, .slice none 0 0] 59 (0, 0)) := by rw [hB0]; exact alloc_last (by rw [← hTe]; simp [go_sem])
    have lB0 : T + 1 = B0.heap.size := by rw [← hTe, hB0]; simp [go_sem]
    have bM0 : B0.cell? ⟨w.heap.size, 0, none⟩ = some (.int .i64 m.c) := by rw [hB0]; simp [go_sem]
    have bR : B0.cell? ⟨w.heap.size + 1, 0, none⟩ = some (.slice none 0 0) := by rw [hB0]; simp [go_sem]
    have bR1 : B0.cell? ⟨w.heap.size + 1, 1, none⟩ = some (.slice none 0 0) := by rw [hB0]; simp [go_sem]
    have bRz : B0.frozen? ⟨w.heap.size + 1, 0, none⟩ = false := by rw [hB0]; simp [go_sem]
    have bRz1 : B0.frozen? ⟨w.heap.size + 1, 1, none⟩ = false := by rw [hB0]; simp [go_sem]
    have lT0 : T < B0.heap.size := by omega
    clear hB0 hTe
    have HB0 := hid hT0
    go_loopw [10] (fun i wr => ∃ (k : Nat) (v0 v1 : Value), (k : Int) ≤ m.c ∧ i = .int .i64 k ∧ wr.heap[T]? = some (.cells #[v0, v1] 59 (0, 0)) ∧ wr.ownsRow B0.heap.size 3 1 v0 (List.replicate k (-1 : Int)).length ((List.replicate k (-1 : Int)).flatMap icells) ∧ wr.ownsRow B0.heap.size 3 1 v1 (List.replicate k (0 : Int)).length ((List.replicate k (0 : Int)).flatMap icells) ∧ (∀ g, v0.ownBlock = some g → v1.ownBlock ≠ some g) ∧ Chg [T] B0 wr) (fun i _ => m.c.toNat - (intOf i).toNat)
    case atStart => exact ⟨0, .slice none 0 0, .slice none 0 0, by simp; omega, rfl, HB0.out, by simpa using World.ownsRow_nil _ _ _ _, by simpa using World.ownsRow_nil _ _ _ _, by simp [Value.ownBlock], Chg.refl _ _⟩
    case round =>
      obtain ⟨k, v0, v1, hk, rfl, hT, hrow0, hrow1, hdis, hch⟩ := hrel
      obtain ⟨sa0, sn0, sc0, rfl⟩ := row_slice hrow0
      obtain ⟨sa1, sn1, sc1, rfl⟩ := row_slice hrow1
      have HG0 := hid hrow0
      have HG1 := hid hrow1
      have HD0 := hid hdis
      have HC := hid hch
      have HL0 := hid (show (List.replicate k (-1 : Int)).length ≤ 4194304 by simp; omega)
      have HL1 := hid (show (List.replicate k (0 : Int)).length ≤ 4194304 by simp; omega)
      have hsz := hch.size
      have lT : T < wr.heap.size := lt_blk hT
      have cT0 : wr.cell? ⟨T, 0, none⟩ = some (.slice sa0 sn0 sc0) := (cell_blk hT 0).trans rfl
      have cT1 : wr.cell? ⟨T, 1, none⟩ = some (.slice sa1 sn1 sc1) := (cell_blk hT 1).trans rfl
      have zT0 := frozen_blk hT 0
      have zT1 := frozen_blk hT 1
      have lM : w.heap.size < wr.heap.size := by omega
      have cM0 : wr.cell? ⟨w.heap.size, 0, none⟩ = some (.int .i64 m.c) := (hch.cell (by omega) (by simp; omega) 0).trans bM0
      have cR : wr.cell? ⟨w.heap.size + 1, 0, none⟩ = some (.slice none 0 0) := (hch.cell (by omega) (by simp; omega) 0).trans bR
      have cR1 : wr.cell? ⟨w.heap.size + 1, 1, none⟩ = some (.slice none 0 0) := (hch.cell (by omega) (by simp; omega) 1).trans bR1
      have zR : wr.frozen? ⟨w.heap.size + 1, 0, none⟩ = false := (Chg.frozen hch (by omega) (by simp; omega) 0).trans bRz
      have zR1 : wr.frozen? ⟨w.heap.size + 1, 1, none⟩ = false := (Chg.frozen hch (by omega) (by simp; omega) 1).trans bRz1
      have lR : w.heap.size + 1 < wr.heap.size := by omega
      have hbel : Below w.heap.size w wr := Below.chg (w0 := w) EB.below hch (fun b hb => by
        obtain rfl : b = T := by simpa using hb
        omega)
      have HBl := hid hbel
      have HTb := hid hT
      clear hT hrow0 hrow1 hdis hch hbel
      by_cases hlt : (k : Int) < m.c
      · obtain ⟨R, hR, hBR, hRc, hRo⟩ := row_block2 _ _ HG0.out HG1.out HD0.out hsz
        have hTR : T ≠ R := by omega
        have HRr := hid hR
        have HRo := hid hRo
        have HDd := hid (row_lt HG1.out)
        clear hR hRo
        try go_wp2_with (first
            | (refine wpList_appRX_Int (v := .slice sa1 sn1 sc1) (xs := List.replicate k (0 : Int)) rfl R1 B0.heap.size _ _ rfl rfl (by (try simp [go_sem]) <;> (try simp [Xt.add]) <;> omega) (ownsRow_chg (B := [T]) HG1'.out (by repeat (first | with_reducible exact Chg.refl _ _ | with_reducible apply Chg.drew | with_reducible apply Chg.drewl | with_reducible refine Chg.turn (by simp) | with_reducible refine Chg.both ?_ (by simp) | (with_reducible refine Chg.set ?_ (by simp) _) | with_reducible apply Chg.alloc | with_reducible apply Chg.ext)) (by simp; omega)) HRr1.out 0 rfl (alloc_last (by simp [go_sem])) HL1.out ?_; intro v4 w4 hg4 hc4 hat4; obtain ⟨sa4, sn4, sc4, rfl⟩ := row_slice hg4; have HG4 := hid hg4; have HC4 := hid hc4; have HAT4 := hid hat4; have l4 : T < w4.heap.size := Nat.lt_of_lt_of_le (by (try simp [go_sem]) <;> (try simp [Xt.add]) <;> omega) hc4.size; have q4 : w4.cell? ⟨T, 1, none⟩ = some (.slice sa1 sn1 sc1) := (hc4.cell (by (try simp [go_sem]) <;> (try simp [Xt.add]) <;> omega) (by simp [hTR1]) 1).trans (by simp [go_sem, q21, l2]); have b4 : w4.heap[T]? = some (.cells #[.slice sa sn sc, .slice sa1 sn1 sc1] 59 (0, 0)) := (hc4.block T (by (try simp [go_sem]) <;> (try simp [Xt.add]) <;> omega) (by simp [hTR1])).trans (by (with_reducible refine blk_alloc ?_); exact blk_set B2.out); have z4 : w4.frozen? ⟨T, 1, none⟩ = false := (Chg.frozen hc4 (by (try simp [go_sem]) <;> (try simp [Xt.add]) <;> omega) (by simp [hTR1]) 1).trans (by simp [go_sem, z21, l2]); have HG2' := hid (show w4.ownsRow B0.heap.size 3 1 (.slice sa sn sc) _ _ from ownsRow_off (ownsRow_chg (B := [T]) HG2.out (by repeat (first | with_reducible exact Chg.refl _ _ | with_reducible apply Chg.drew | with_reducible apply Chg.drewl | with_reducible refine Chg.turn (by simp) | with_reducible refine Chg.both ?_ (by simp) | (with_reducible refine Chg.set ?_ (by simp) _) | with_reducible apply Chg.alloc | with_reducible apply Chg.ext)) (by simp; omega)) hc4 (fun g hg => by simpa using HRo1.out g hg)); have B4 := hid b4; clear hg4 hc4 b4 hat4) | (refine wpList_appRX_Int (v := .slice sa0 sn0 sc0) (xs := List.replicate k (-1 : Int)) rfl R B0.heap.size _ _ rfl rfl (by (try simp [go_sem]) <;> (try simp [Xt.add]) <;> omega) (by repeat (first | with_reducible apply ownsRow_alloc | exact HG0.out | with_reducible apply ownsRow_drew | with_reducible apply ownsRow_ext)) HRr.out (-1) rfl (alloc_last (by simp [go_sem])) HL0.out ?_; intro v2 w2 hg2 hc2 hat2; obtain ⟨sa, sn, sc, rfl⟩ := row_slice hg2; have HG2 := hid hg2; have HC2 := hid hc2; have l2 : T < w2.heap.size := Nat.lt_of_lt_of_le (by (try simp [go_sem]) <;> (try simp [Xt.add]) <;> omega) hc2.size; have q20 : w2.cell? ⟨T, 0, none⟩ = some (.slice sa0 sn0 sc0) := (hc2.cell (by (try simp [go_sem]) <;> (try simp [Xt.add]) <;> omega) (by simp [hTR]) 0).trans (by simp [go_sem, cT0, lT]); have q21 : w2.cell? ⟨T, 1, none⟩ = some (.slice sa1 sn1 sc1) := (hc2.cell (by (try simp [go_sem]) <;> (try simp [Xt.add]) <;> omega) (by simp [hTR]) 1).trans (by simp [go_sem, cT1, lT]); have b2 : w2.heap[T]? = some (.cells #[.slice sa0 sn0 sc0, .slice sa1 sn1 sc1] 59 (0, 0)) := (hc2.block T (by (try simp [go_sem]) <;> (try simp [Xt.add]) <;> omega) (by simp [hTR])).trans (by repeat (first | with_reducible exact HTb.out | with_reducible apply blk_drew | with_reducible refine blk_set ?_ | (with_reducible refine blk_other ?_ (by first | assumption | omega)) | with_reducible refine blk_ext ?_ | with_reducible refine blk_alloc ?_)); have z2 : w2.frozen? ⟨T, 0, none⟩ = false := (Chg.frozen hc2 (by (try simp [go_sem]) <;> (try simp [Xt.add]) <;> omega) (by simp [hTR]) 0).trans (by simp [go_sem, zT0, lT]); have z21 : w2.frozen? ⟨T, 1, none⟩ = false := (Chg.frozen hc2 (by (try simp [go_sem]) <;> (try simp [Xt.add]) <;> omega) (by simp [hTR]) 1).trans (by simp [go_sem, zT1, lT]); have B2 := hid b2; have HG1' := hid (show w2.ownsRow B0.heap.size 3 1 (.slice sa1 sn1 sc1) _ _ from ownsRow_off (by repeat (first | with_reducible apply ownsRow_alloc | exact HG1.out | with_reducible apply ownsRow_drew | with_reducible apply ownsRow_ext)) hc2 (fun g hg => by simpa using HRo.out g hg)); have HD1 := hid (disj_new hat2 HD0.out (fun g hg => by have := (HDd.out g hg).2; (try simp [go_sem]) <;> omega)); have s2 : B0.heap.size ≤ w2.heap.size := Nat.le_trans (by (try simp [go_sem]) <;> (try simp [Xt.add]) <;> omega) hc2.size; obtain ⟨R1, hR1, hBR1, hRc1, hRo1⟩ := row_block2 _ _ HG1'.out HG2.out (fun g h1 h2 => HD1.out g h2 h1) s2; have hTR1 : T ≠ R1 := (by omega); have HRr1 := hid hR1; have HRo1 := hid hRo1; have HDd1 := hid (row_lt HG2.out); clear hg2 hc2 b2 hat2 hR1 hRo1)
            | (
              with_reducible refine wp_region_mix (by kernel_rfl) (by decide +kernel) ?_
              repeat (first
                | (refine mix_pure rfl ?_; (first | go_big_quiet_skip | (go_big_quiet_want; go_big_quiet_op; go_big_quiet_on)); refine wpQuiet_nil ?_)
                | (refine mix_skip (by rfl) ?_; (try simp only [Act.put, List.setIfInBounds_toArray, List.set_cons_zero, List.set_cons_succ]))
                | (refine mix_mk rfl (by rfl) (fun K hK => ?_); (first | (go_simp; first | (refine wpList_appRX_Int (v := .slice sa1 sn1 sc1) (xs := List.replicate k (0 : Int)) rfl R1 B0.heap.size _ _ rfl rfl (by (try simp [go_sem]) <;> (try simp [Xt.add]) <;> omega) (ownsRow_chg (B := [T]) HG1'.out (by repeat (first | with_reducible exact Chg.refl _ _ | with_reducible apply Chg.drew | with_reducible apply Chg.drewl | with_reducible refine Chg.turn (by simp) | with_reducible refine Chg.both ?_ (by simp) | (with_reducible refine Chg.set ?_ (by simp) _) | with_reducible apply Chg.alloc | with_reducible apply Chg.ext)) (by simp; omega)) HRr1.out 0 rfl (alloc_last (by simp [go_sem])) HL1.out ?_; intro v4 w4 hg4 hc4 hat4; obtain ⟨sa4, sn4, sc4, rfl⟩ := row_slice hg4; have HG4 := hid hg4; have HC4 := hid hc4; have HAT4 := hid hat4; have l4 : T < w4.heap.size := Nat.lt_of_lt_of_le (by (try simp [go_sem]) <;> (try simp [Xt.add]) <;> omega) hc4.size; have q4 : w4.cell? ⟨T, 1, none⟩ = some (.slice sa1 sn1 sc1) := (hc4.cell (by (try simp [go_sem]) <;> (try simp [Xt.add]) <;> omega) (by simp [hTR1]) 1).trans (by simp [go_sem, q21, l2]); have b4 : w4.heap[T]? = some (.cells #[.slice sa sn sc, .slice sa1 sn1 sc1] 59 (0, 0)) := (hc4.block T (by (try simp [go_sem]) <;> (try simp [Xt.add]) <;> omega) (by simp [hTR1])).trans (by (with_reducible refine blk_alloc ?_); exact blk_set B2.out); have z4 : w4.frozen? ⟨T, 1, none⟩ = false := (Chg.frozen hc4 (by (try simp [go_sem]) <;> (try simp [Xt.add]) <;> omega) (by simp [hTR1]) 1).trans (by simp [go_sem, z21, l2]); have HG2' := hid (show w4.ownsRow B0.heap.size 3 1 (.slice sa sn sc) _ _ from ownsRow_off (ownsRow_chg (B := [T]) HG2.out (by repeat (first | with_reducible exact Chg.refl _ _ | with_reducible apply Chg.drew | with_reducible apply Chg.drewl | with_reducible refine Chg.turn (by simp) | with_reducible refine Chg.both ?_ (by simp) | (with_reducible refine Chg.set ?_ (by simp) _) | with_reducible apply Chg.alloc | with_reducible apply Chg.ext)) (by simp; omega)) hc4 (fun g hg => by simpa using HRo1.out g hg)); have B4 := hid b4; clear hg4 hc4 b4 hat4) | (refine wpList_appRX_Int (v := .slice sa0 sn0 sc0) (xs := List.replicate k (-1 : Int)) rfl R B0.heap.size _ _ rfl rfl (by (try simp [go_sem]) <;> (try simp [Xt.add]) <;> omega) (by repeat (first | with_reducible apply ownsRow_alloc | exact HG0.out | with_reducible apply ownsRow_drew | with_reducible apply ownsRow_ext)) HRr.out (-1) rfl (alloc_last (by simp [go_sem])) HL0.out ?_; intro v2 w2 hg2 hc2 hat2; obtain ⟨sa, sn, sc, rfl⟩ := row_slice hg2; have HG2 := hid hg2; have HC2 := hid hc2; have l2 : T < w2.heap.size := Nat.lt_of_lt_of_le (by (try simp [go_sem]) <;> (try simp [Xt.add]) <;> omega) hc2.size; have q20 : w2.cell? ⟨T, 0, none⟩ = some (.slice sa0 sn0 sc0) := (hc2.cell (by (try simp [go_sem]) <;> (try simp [Xt.add]) <;> omega) (by simp [hTR]) 0).trans (by simp [go_sem, cT0, lT]); have q21 : w2.cell? ⟨T, 1, none⟩ = some (.slice sa1 sn1 sc1) := (hc2.cell (by (try simp [go_sem]) <;> (try simp [Xt.add]) <;> omega) (by simp [hTR]) 1).trans (by simp [go_sem, cT1, lT]); have b2 : w2.heap[T]? = some (.cells #[.slice sa0 sn0 sc0, .slice sa1 sn1 sc1] 59 (0, 0)) := (hc2.block T (by (try simp [go_sem]) <;> (try simp [Xt.add]) <;> omega) (by simp [hTR])).trans (by repeat (first | with_reducible exact HTb.out | with_reducible apply blk_drew | with_reducible refine blk_set ?_ | (with_reducible refine blk_other ?_ (by first | assumption | omega)) | with_reducible refine blk_ext ?_ | with_reducible refine blk_alloc ?_)); have z2 : w2.frozen? ⟨T, 0, none⟩ = false := (Chg.frozen hc2 (by (try simp [go_sem]) <;> (try simp [Xt.add]) <;> omega) (by simp [hTR]) 0).trans (by simp [go_sem, zT0, lT]); have z21 : w2.frozen? ⟨T, 1, none⟩ = false := (Chg.frozen hc2 (by (try simp [go_sem]) <;> (try simp [Xt.add]) <;> omega) (by simp [hTR]) 1).trans (by simp [go_sem, zT1, lT]); have B2 := hid b2; have HG1' := hid (show w2.ownsRow B0.heap.size 3 1 (.slice sa1 sn1 sc1) _ _ from ownsRow_off (by repeat (first | with_reducible apply ownsRow_alloc | exact HG1.out | with_reducible apply ownsRow_drew | with_reducible apply ownsRow_ext)) hc2 (fun g hg => by simpa using HRo.out g hg)); have HD1 := hid (disj_new hat2 HD0.out (fun g hg => by have := (HDd.out g hg).2; (try simp [go_sem]) <;> omega)); have s2 : B0.heap.size ≤ w2.heap.size := Nat.le_trans (by (try simp [go_sem]) <;> (try simp [Xt.add]) <;> omega) hc2.size; obtain ⟨R1, hR1, hBR1, hRc1, hRo1⟩ := row_block2 _ _ HG1'.out HG2.out (fun g h1 h2 => HD1.out g h2 h1) s2; have hTR1 : T ≠ R1 := (by omega); have HRr1 := hid hR1; have HRo1 := hid hRo1; have HDd1 := hid (row_lt HG2.out); clear hg2 hc2 b2 hat2 hR1 hRo1) | skip)); (show K _ _); refine hK _ _ (show Ext _ _ from (by ((try simp only [ext_drew]); (try simp only [ext_ext]); repeat (first | exact Ext.refl _ | with_reducible apply Ext.add | with_reducible apply Ext.dr | apply Ext.alloc | apply Ext.ext | apply Ext.drew | refine Ext.trans ?_ (by assumption))))) ?_; clear hK K; (try simp only [Act.put, List.setIfInBounds_toArray, List.set_cons_zero, List.set_cons_succ])))
              refine mix_nil ?_)
            | (
              with_reducible refine wp_region_ext (by kernel_rfl) (by kernel_rfl) ?_
              repeat (first | go_big_quiet_skip | (go_big_quiet_want; go_big_quiet_op; first | go_big_quiet_on | (apply Exists.intro; refine ⟨fun _ => ?_, ?_⟩; (fail); (try rw [h1]); (try rw [h2]); (try rw [h3]); (try rw [h4]); (try rw [p1]); (try rw [p2]); (try rw [p3]); (try rw [p4]); (try rw [r1]); (try rw [r2]); (try rw [r3]); (try rw [r4]); (try rw [r5]); (try rw [r6]); (try rw [q3]); (try rw [q4]); (try rw [hp]); (try rw [hq]); go_big_quiet_on)))
              refine wpQuiet_nil ?_
              rintro _ ⟨tq, rfl⟩))
        go_roundw
        case rel =>
          refine ⟨k + 1, .slice sa sn sc, .slice sa4 sn4 sc4, by omega, by go_num, (by exact blk_set B4.out), ?_, ?_, ?_, Chg.set (Chg.up (Chg.alloc (Chg.set (Chg.up (Chg.alloc HC.out) HC2.out (by simp; omega)) (by simp) _)) HC4.out (by simp; omega)) (by simp) _⟩
          · rw [List.replicate_succ']
            exact ownsRow_chg HG2'.out ((Chg.refl [T] w4).set (by simp) _) (by simp; omega)
          · rw [List.replicate_succ']
            exact ownsRow_chg HG4.out ((Chg.refl [T] w4).set (by simp) _) (by simp; omega)
          · exact fun g h1 h2 => disj_new HAT4.out (fun g h1 h2 => HD1.out g h2 h1) (fun g hg => by have := (HDd1.out g hg).2; (try simp [go_sem]) <;> omega) g h2 h1
        case measure => simp [intOf]; omega
      · have HE := hid (show k = m.c.toNat by omega)
        obtain ⟨a0, c0, a1, c1, e0, e1, ho⟩ := own_two (xs0 := List.replicate k (-1 : Int)) (xs1 := List.replicate k (0 : Int)) HG0.out HG1.out HD0.out (by simp; omega) (by simp; omega)
        obtain ⟨rfl, rfl, rfl⟩ := Value.slice.inj e0
        obtain ⟨rfl, rfl, rfl⟩ := Value.slice.inj e1
        clear e0 e1
        have HO := hid ho
        clear ho
        try go_wp2_with (first
            | fail
            | (
              with_reducible refine wp_region_mix (by kernel_rfl) (by decide +kernel) ?_
              repeat (first
                | (refine mix_pure rfl ?_; (first | go_big_quiet_skip | (go_big_quiet_want; go_big_quiet_op; go_big_quiet_on)); refine wpQuiet_nil ?_)
                | (refine mix_skip (by rfl) ?_; (try simp only [Act.put, List.setIfInBounds_toArray, List.set_cons_zero, List.set_cons_succ]))
                | (refine mix_mk rfl (by rfl) (fun K hK => ?_); (first | (go_simp; first | skip)); (show K _ _); refine hK _ _ (show Ext _ _ from (by ((try simp only [ext_drew]); (try simp only [ext_ext]); repeat (first | exact Ext.refl _ | with_reducible apply Ext.add | with_reducible apply Ext.dr | apply Ext.alloc | apply Ext.ext | apply Ext.drew | refine Ext.trans ?_ (by assumption))))) ?_; clear hK K; (try simp only [Act.put, List.setIfInBounds_toArray, List.set_cons_zero, List.set_cons_succ])))
              refine mix_nil ?_)
            | (
              with_reducible refine wp_region_ext (by kernel_rfl) (by kernel_rfl) ?_
              repeat (first | go_big_quiet_skip | (go_big_quiet_want; go_big_quiet_op; first | go_big_quiet_on | (apply Exists.intro; refine ⟨fun _ => ?_, ?_⟩; (fail); (try rw [h1]); (try rw [h2]); (try rw [h3]); (try rw [h4]); (try rw [p1]); (try rw [p2]); (try rw [p3]); (try rw [p4]); (try rw [r1]); (try rw [r2]); (try rw [r3]); (try rw [r4]); (try rw [r5]); (try rw [r6]); (try rw [q3]); (try rw [q4]); (try rw [hp]); (try rw [hq]); go_big_quiet_on)))
              refine wpQuiet_nil ?_
              rintro _ ⟨tq, rfl⟩))
        refine bodyPost_ret (v := .agg #[.slice sa0 (List.replicate k (-1 : Int)).length sc0, .slice sa1 (List.replicate k (0 : Int)).length sc1]) (by simp [results, Try.results49, go_sem, cT0, cT1, cR, cR1, lR, lT]) rfl ?_
        rw [E0.out, E1.out, ← HE.out]
        refine ⟨_, _, _, _, rfl, ?_⟩
        exact fin_same (w := w) (Ext.of_below HBl.out) HO.out (R := w.heap.size + 1) (by omega) (by omega) (by repeat (first | with_reducible exact Chg.refl _ _ | with_reducible apply Chg.drew | with_reducible apply Chg.drewl | with_reducible refine Chg.turn (by simp) | with_reducible refine Chg.both ?_ (by simp) | (with_reducible refine Chg.set ?_ (by simp) _) | with_reducible apply Chg.alloc | with_reducible apply Chg.ext))
set_option maxRecDepth 100000 in
set_option maxHeartbeats 4000000 in
theorem sArbNew_c (m : Mp) (w : World) :
    Calls Try.prog 48 #[.agg #[.int .i64 m.c, .int .i64 m.w]] w (MadeArb w (anL m (-1)).length (anL m 0).length (anL m (-1)) (anL m 0)) := by
  cases p1 : plcOk m with
  | false =>
    go_enter Try.func48, Try.ntmps48
    try go_wp2_with (first
        | (go_at_call 78; refine (sPlcOk_c _ _).mono ?_; rintro e w' ⟨rfl, t, rfl⟩)
        | (
          with_reducible refine wp_region_mix (by kernel_rfl) (by decide +kernel) ?_
          repeat (first
            | (refine mix_pure rfl ?_; (first | go_big_quiet_skip | (go_big_quiet_want; go_big_quiet_op; go_big_quiet_on)); refine wpQuiet_nil ?_)
            | (refine mix_skip (by rfl) ?_; (try simp only [Act.put, List.setIfInBounds_toArray, List.set_cons_zero, List.set_cons_succ]))
            | (refine mix_mk rfl (by rfl) (fun K hK => ?_); (first | (go_simp; first | (go_at_call 78; refine (sPlcOk_c _ _).mono ?_; rintro e w' ⟨rfl, t, rfl⟩) | skip)); (show K _ _); refine hK _ _ (show Ext _ _ from (by ((try simp only [ext_drew]); (try simp only [ext_ext]); repeat (first | exact Ext.refl _ | with_reducible apply Ext.add | with_reducible apply Ext.dr | apply Ext.alloc | apply Ext.ext | apply Ext.drew | refine Ext.trans ?_ (by assumption))))) ?_; clear hK K; (try simp only [Act.put, List.setIfInBounds_toArray, List.set_cons_zero, List.set_cons_succ])))
          refine mix_nil ?_)
        | (
          with_reducible refine wp_region_ext (by kernel_rfl) (by kernel_rfl) ?_
          repeat (first | go_big_quiet_skip | (go_big_quiet_want; go_big_quiet_op; first | go_big_quiet_on | (apply Exists.intro; refine ⟨fun _ => ?_, ?_⟩; ((first | (go_at_call 78; first | exact quiet_call (sPlcOk_c _ _) | exact quiet_call2 (sPlcOk_c _ _)))); (try rw [h1]); (try rw [h2]); (try rw [h3]); (try rw [h4]); (try rw [p1]); (try rw [p2]); (try rw [p3]); (try rw [p4]); (try rw [r1]); (try rw [r2]); (try rw [r3]); (try rw [r4]); (try rw [r5]); (try rw [r6]); (try rw [q3]); (try rw [q4]); (try rw [hp]); (try rw [hq]); go_big_quiet_on)))
          refine wpQuiet_nil ?_
          rintro _ ⟨tq, rfl⟩))
    refine bodyPost_ret (v := .agg #[.slice none 0 0, .slice none 0 0]) (by simp [results, Try.results48, go_sem]) rfl ?_
    rw [show anL m (-1) = [] by rw [anL, p1]; rfl, show anL m 0 = [] by rw [anL, p1]; rfl]
    exact ⟨_, _, _, _, rfl, (by ((try simp only [ext_drew]); (try simp only [ext_ext]); repeat (first | exact Ext.refl _ | with_reducible apply Ext.add | with_reducible apply Ext.dr | apply Ext.alloc | apply Ext.ext | apply Ext.drew | refine Ext.trans ?_ (by assumption)))), Nat.le_refl _, [], by simp, by simp, own_Arb_nil _⟩
  | true =>
    obtain ⟨⟨c1, c2⟩, _⟩ := plcOk_iff.1 p1
    have E0 := hid (show anL m (-1) = List.replicate m.c.toNat (-1) by simp [anL, p1])
    have E1 := hid (show anL m 0 = List.replicate m.c.toNat 0 by simp [anL, p1])
    go_enter Try.func48, Try.ntmps48
    try go_wp2_with (first
        | (go_at_call 78; refine (sPlcOk_c _ _).mono ?_; rintro e w' ⟨rfl, t, rfl⟩)
        | (
          with_reducible refine wp_region_mix (by kernel_rfl) (by decide +kernel) ?_
          repeat (first
            | (refine mix_pure rfl ?_; (first | go_big_quiet_skip | (go_big_quiet_want; go_big_quiet_op; go_big_quiet_on)); refine wpQuiet_nil ?_)
            | (refine mix_skip (by rfl) ?_; (try simp only [Act.put, List.setIfInBounds_toArray, List.set_cons_zero, List.set_cons_succ]))
            | (refine mix_mk rfl (by rfl) (fun K hK => ?_); (first | (go_simp; first | (go_at_call 78; refine (sPlcOk_c _ _).mono ?_; rintro e w' ⟨rfl, t, rfl⟩) | skip)); (show K _ _); refine hK _ _ (show Ext _ _ from (by ((try simp only [ext_drew]); (try simp only [ext_ext]); repeat (first | exact Ext.refl _ | with_reducible apply Ext.add | with_reducible apply Ext.dr | apply Ext.alloc | apply Ext.ext | apply Ext.drew | refine Ext.trans ?_ (by assumption))))) ?_; clear hK K; (try simp only [Act.put, List.setIfInBounds_toArray, List.set_cons_zero, List.set_cons_succ])))
          refine mix_nil ?_)
        | (
          with_reducible refine wp_region_ext (by kernel_rfl) (by kernel_rfl) ?_
          repeat (first | go_big_quiet_skip | (go_big_quiet_want; go_big_quiet_op; first | go_big_quiet_on | (apply Exists.intro; refine ⟨fun _ => ?_, ?_⟩; ((first | (go_at_call 78; first | exact quiet_call (sPlcOk_c _ _) | exact quiet_call2 (sPlcOk_c _ _)))); (try rw [h1]); (try rw [h2]); (try rw [h3]); (try rw [h4]); (try rw [p1]); (try rw [p2]); (try rw [p3]); (try rw [p4]); (try rw [r1]); (try rw [r2]); (try rw [r3]); (try rw [r4]); (try rw [r5]); (try rw [r6]); (try rw [q3]); (try rw [q4]); (try rw [hp]); (try rw [hq]); go_big_quiet_on)))
          refine wpQuiet_nil ?_
          rintro _ ⟨tq, rfl⟩))
    refine wp_gen fun B0 hB0 => ?_
    generalize hTe : w.heap.size + 1 + 1 = T
    have EB : Ext w B0 := by rw [hB0]; ((try simp only [ext_drew]); (try simp only [ext_ext]); repeat (first | exact Ext.refl _ | with_reducible apply Ext.add | with_reducible apply Ext.dr | apply Ext.alloc | apply Ext.ext | apply Ext.drew | refine Ext.trans ?_ (by assumption)))
    have hTw : w.heap.size + 1 + 1 ≤ T := by omega
    have hT0 : B0.heap[T]? = some (.cells #[.slice none 0 0, .slice none 0 0] 59 (0, 0)) := by rw [hB0]; exact blk_ext (alloc_last (by rw [← hTe]; simp [go_sem]))
    have lB0 : T < B0.heap.size := lt_blk hT0
    have bM0 : B0.cell? ⟨w.heap.size, 0, none⟩ = some (.int .i64 m.c) := by rw [hB0]; simp [go_sem]
    have bR : B0.cell? ⟨w.heap.size + 1, 0, none⟩ = some (.slice none 0 0) := by rw [hB0]; simp [go_sem]
    have bR1 : B0.cell? ⟨w.heap.size + 1, 1, none⟩ = some (.slice none 0 0) := by rw [hB0]; simp [go_sem]
    have bRz : B0.frozen? ⟨w.heap.size + 1, 0, none⟩ = false := by rw [hB0]; simp [go_sem]
    have bRz1 : B0.frozen? ⟨w.heap.size + 1, 1, none⟩ = false := by rw [hB0]; simp [go_sem]
    have lT0 : T < B0.heap.size := by omega
    clear hB0 hTe
    have HB0 := hid hT0
    go_loopw [4] (fun i wr => ∃ (k : Nat) (v0 v1 : Value), (k : Int) ≤ m.c ∧ i = .int .i64 k ∧ wr.heap[T]? = some (.cells #[v0, v1] 59 (0, 0)) ∧ wr.ownsRow B0.heap.size 3 1 v0 (List.replicate k (-1 : Int)).length ((List.replicate k (-1 : Int)).flatMap icells) ∧ wr.ownsRow B0.heap.size 3 1 v1 (List.replicate k (0 : Int)).length ((List.replicate k (0 : Int)).flatMap icells) ∧ (∀ g, v0.ownBlock = some g → v1.ownBlock ≠ some g) ∧ Chg [T] B0 wr) (fun i _ => m.c.toNat - (intOf i).toNat)
    case atStart => exact ⟨0, .slice none 0 0, .slice none 0 0, by simp; omega, rfl, HB0.out, by simpa using World.ownsRow_nil _ _ _ _, by simpa using World.ownsRow_nil _ _ _ _, by simp [Value.ownBlock], Chg.refl _ _⟩
    case round =>
      obtain ⟨k, v0, v1, hk, rfl, hT, hrow0, hrow1, hdis, hch⟩ := hrel
      obtain ⟨sa0, sn0, sc0, rfl⟩ := row_slice hrow0
      obtain ⟨sa1, sn1, sc1, rfl⟩ := row_slice hrow1
      have HG0 := hid hrow0
      have HG1 := hid hrow1
      have HD0 := hid hdis
      have HC := hid hch
      have HL0 := hid (show (List.replicate k (-1 : Int)).length ≤ 4194304 by simp; omega)
      have HL1 := hid (show (List.replicate k (0 : Int)).length ≤ 4194304 by simp; omega)
      have hsz := hch.size
      have lT : T < wr.heap.size := lt_blk hT
      have cT0 : wr.cell? ⟨T, 0, none⟩ = some (.slice sa0 sn0 sc0) := (cell_blk hT 0).trans rfl
      have cT1 : wr.cell? ⟨T, 1, none⟩ = some (.slice sa1 sn1 sc1) := (cell_blk hT 1).trans rfl
      have zT0 := frozen_blk hT 0
      have zT1 := frozen_blk hT 1
      have lM : w.heap.size < wr.heap.size := by omega
      have cM0 : wr.cell? ⟨w.heap.size, 0, none⟩ = some (.int .i64 m.c) := (hch.cell (by omega) (by simp; omega) 0).trans bM0
      have cR : wr.cell? ⟨w.heap.size + 1, 0, none⟩ = some (.slice none 0 0) := (hch.cell (by omega) (by simp; omega) 0).trans bR
      have cR1 : wr.cell? ⟨w.heap.size + 1, 1, none⟩ = some (.slice none 0 0) := (hch.cell (by omega) (by simp; omega) 1).trans bR1
      have zR : wr.frozen? ⟨w.heap.size + 1, 0, none⟩ = false := (Chg.frozen hch (by omega) (by simp; omega) 0).trans bRz
      have zR1 : wr.frozen? ⟨w.heap.size + 1, 1, none⟩ = false := (Chg.frozen hch (by omega) (by simp; omega) 1).trans bRz1
      have lR : w.heap.size + 1 < wr.heap.size := by omega
      have hbel : Below w.heap.size w wr := Below.chg (w0 := w) EB.below hch (fun b hb => by
        obtain rfl : b = T := by simpa using hb
        omega)
      have HBl := hid hbel
      have HTb := hid hT
      clear hT hrow0 hrow1 hdis hch hbel
      by_cases hlt : (k : Int) < m.c
      · obtain ⟨R, hR, hBR, hRc, hRo⟩ := row_block2 _ _ HG0.out HG1.out HD0.out hsz
        have hTR : T ≠ R := by omega
        have HRr := hid hR
        have HRo := hid hRo
        have HDd := hid (row_lt HG1.out)
        clear hR hRo
        try go_wp2_with (first
            | (refine wpList_appRX_Int (v := .slice sa1 sn1 sc1) (xs := List.replicate k (0 : Int)) rfl R1 B0.heap.size _ _ rfl rfl (by (try simp [go_sem]) <;> (try simp [Xt.add]) <;> omega) (ownsRow_chg (B := [T]) HG1'.out (by repeat (first | with_reducible exact Chg.refl _ _ | with_reducible apply Chg.drew | with_reducible apply Chg.drewl | with_reducible refine Chg.turn (by simp) | with_reducible refine Chg.both ?_ (by simp) | (with_reducible refine Chg.set ?_ (by simp) _) | with_reducible apply Chg.alloc | with_reducible apply Chg.ext)) (by simp; omega)) HRr1.out 0 rfl (alloc_last (by simp [go_sem])) HL1.out ?_; intro v4 w4 hg4 hc4 hat4; obtain ⟨sa4, sn4, sc4, rfl⟩ := row_slice hg4; have HG4 := hid hg4; have HC4 := hid hc4; have HAT4 := hid hat4; have l4 : T < w4.heap.size := Nat.lt_of_lt_of_le (by (try simp [go_sem]) <;> (try simp [Xt.add]) <;> omega) hc4.size; have q4 : w4.cell? ⟨T, 1, none⟩ = some (.slice sa1 sn1 sc1) := (hc4.cell (by (try simp [go_sem]) <;> (try simp [Xt.add]) <;> omega) (by simp [hTR1]) 1).trans (by simp [go_sem, q21, l2]); have b4 : w4.heap[T]? = some (.cells #[.slice sa sn sc, .slice sa1 sn1 sc1] 59 (0, 0)) := (hc4.block T (by (try simp [go_sem]) <;> (try simp [Xt.add]) <;> omega) (by simp [hTR1])).trans (by (with_reducible refine blk_alloc ?_); exact blk_set B2.out); have z4 : w4.frozen? ⟨T, 1, none⟩ = false := (Chg.frozen hc4 (by (try simp [go_sem]) <;> (try simp [Xt.add]) <;> omega) (by simp [hTR1]) 1).trans (by simp [go_sem, z21, l2]); have HG2' := hid (show w4.ownsRow B0.heap.size 3 1 (.slice sa sn sc) _ _ from ownsRow_off (ownsRow_chg (B := [T]) HG2.out (by repeat (first | with_reducible exact Chg.refl _ _ | with_reducible apply Chg.drew | with_reducible apply Chg.drewl | with_reducible refine Chg.turn (by simp) | with_reducible refine Chg.both ?_ (by simp) | (with_reducible refine Chg.set ?_ (by simp) _) | with_reducible apply Chg.alloc | with_reducible apply Chg.ext)) (by simp; omega)) hc4 (fun g hg => by simpa using HRo1.out g hg)); have B4 := hid b4; clear hg4 hc4 b4 hat4) | (refine wpList_appRX_Int (v := .slice sa0 sn0 sc0) (xs := List.replicate k (-1 : Int)) rfl R B0.heap.size _ _ rfl rfl (by (try simp [go_sem]) <;> (try simp [Xt.add]) <;> omega) (by repeat (first | with_reducible apply ownsRow_alloc | exact HG0.out | with_reducible apply ownsRow_drew | with_reducible apply ownsRow_ext)) HRr.out (-1) rfl (alloc_last (by simp [go_sem])) HL0.out ?_; intro v2 w2 hg2 hc2 hat2; obtain ⟨sa, sn, sc, rfl⟩ := row_slice hg2; have HG2 := hid hg2; have HC2 := hid hc2; have l2 : T < w2.heap.size := Nat.lt_of_lt_of_le (by (try simp [go_sem]) <;> (try simp [Xt.add]) <;> omega) hc2.size; have q20 : w2.cell? ⟨T, 0, none⟩ = some (.slice sa0 sn0 sc0) := (hc2.cell (by (try simp [go_sem]) <;> (try simp [Xt.add]) <;> omega) (by simp [hTR]) 0).trans (by simp [go_sem, cT0, lT]); have q21 : w2.cell? ⟨T, 1, none⟩ = some (.slice sa1 sn1 sc1) := (hc2.cell (by (try simp [go_sem]) <;> (try simp [Xt.add]) <;> omega) (by simp [hTR]) 1).trans (by simp [go_sem, cT1, lT]); have b2 : w2.heap[T]? = some (.cells #[.slice sa0 sn0 sc0, .slice sa1 sn1 sc1] 59 (0, 0)) := (hc2.block T (by (try simp [go_sem]) <;> (try simp [Xt.add]) <;> omega) (by simp [hTR])).trans (by repeat (first | with_reducible exact HTb.out | with_reducible apply blk_drew | with_reducible refine blk_set ?_ | (with_reducible refine blk_other ?_ (by first | assumption | omega)) | with_reducible refine blk_ext ?_ | with_reducible refine blk_alloc ?_)); have z2 : w2.frozen? ⟨T, 0, none⟩ = false := (Chg.frozen hc2 (by (try simp [go_sem]) <;> (try simp [Xt.add]) <;> omega) (by simp [hTR]) 0).trans (by simp [go_sem, zT0, lT]); have z21 : w2.frozen? ⟨T, 1, none⟩ = false := (Chg.frozen hc2 (by (try simp [go_sem]) <;> (try simp [Xt.add]) <;> omega) (by simp [hTR]) 1).trans (by simp [go_sem, zT1, lT]); have B2 := hid b2; have HG1' := hid (show w2.ownsRow B0.heap.size 3 1 (.slice sa1 sn1 sc1) _ _ from ownsRow_off (by repeat (first | with_reducible apply ownsRow_alloc | exact HG1.out | with_reducible apply ownsRow_drew | with_reducible apply ownsRow_ext)) hc2 (fun g hg => by simpa using HRo.out g hg)); have HD1 := hid (disj_new hat2 HD0.out (fun g hg => by have := (HDd.out g hg).2; (try simp [go_sem]) <;> omega)); have s2 : B0.heap.size ≤ w2.heap.size := Nat.le_trans (by (try simp [go_sem]) <;> (try simp [Xt.add]) <;> omega) hc2.size; obtain ⟨R1, hR1, hBR1, hRc1, hRo1⟩ := row_block2 _ _ HG1'.out HG2.out (fun g h1 h2 => HD1.out g h2 h1) s2; have hTR1 : T ≠ R1 := (by omega); have HRr1 := hid hR1; have HRo1 := hid hRo1; have HDd1 := hid (row_lt HG2.out); clear hg2 hc2 b2 hat2 hR1 hRo1)
            | (
              with_reducible refine wp_region_mix (by kernel_rfl) (by decide +kernel) ?_
              repeat (first
                | (refine mix_pure rfl ?_; (first | go_big_quiet_skip | (go_big_quiet_want; go_big_quiet_op; go_big_quiet_on)); refine wpQuiet_nil ?_)
                | (refine mix_skip (by rfl) ?_; (try simp only [Act.put, List.setIfInBounds_toArray, List.set_cons_zero, List.set_cons_succ]))
                | (refine mix_mk rfl (by rfl) (fun K hK => ?_); (first | (go_simp; first | (refine wpList_appRX_Int (v := .slice sa1 sn1 sc1) (xs := List.replicate k (0 : Int)) rfl R1 B0.heap.size _ _ rfl rfl (by (try simp [go_sem]) <;> (try simp [Xt.add]) <;> omega) (ownsRow_chg (B := [T]) HG1'.out (by repeat (first | with_reducible exact Chg.refl _ _ | with_reducible apply Chg.drew | with_reducible apply Chg.drewl | with_reducible refine Chg.turn (by simp) | with_reducible refine Chg.both ?_ (by simp) | (with_reducible refine Chg.set ?_ (by simp) _) | with_reducible apply Chg.alloc | with_reducible apply Chg.ext)) (by simp; omega)) HRr1.out 0 rfl (alloc_last (by simp [go_sem])) HL1.out ?_; intro v4 w4 hg4 hc4 hat4; obtain ⟨sa4, sn4, sc4, rfl⟩ := row_slice hg4; have HG4 := hid hg4; have HC4 := hid hc4; have HAT4 := hid hat4; have l4 : T < w4.heap.size := Nat.lt_of_lt_of_le (by (try simp [go_sem]) <;> (try simp [Xt.add]) <;> omega) hc4.size; have q4 : w4.cell? ⟨T, 1, none⟩ = some (.slice sa1 sn1 sc1) := (hc4.cell (by (try simp [go_sem]) <;> (try simp [Xt.add]) <;> omega) (by simp [hTR1]) 1).trans (by simp [go_sem, q21, l2]); have b4 : w4.heap[T]? = some (.cells #[.slice sa sn sc, .slice sa1 sn1 sc1] 59 (0, 0)) := (hc4.block T (by (try simp [go_sem]) <;> (try simp [Xt.add]) <;> omega) (by simp [hTR1])).trans (by (with_reducible refine blk_alloc ?_); exact blk_set B2.out); have z4 : w4.frozen? ⟨T, 1, none⟩ = false := (Chg.frozen hc4 (by (try simp [go_sem]) <;> (try simp [Xt.add]) <;> omega) (by simp [hTR1]) 1).trans (by simp [go_sem, z21, l2]); have HG2' := hid (show w4.ownsRow B0.heap.size 3 1 (.slice sa sn sc) _ _ from ownsRow_off (ownsRow_chg (B := [T]) HG2.out (by repeat (first | with_reducible exact Chg.refl _ _ | with_reducible apply Chg.drew | with_reducible apply Chg.drewl | with_reducible refine Chg.turn (by simp) | with_reducible refine Chg.both ?_ (by simp) | (with_reducible refine Chg.set ?_ (by simp) _) | with_reducible apply Chg.alloc | with_reducible apply Chg.ext)) (by simp; omega)) hc4 (fun g hg => by simpa using HRo1.out g hg)); have B4 := hid b4; clear hg4 hc4 b4 hat4) | (refine wpList_appRX_Int (v := .slice sa0 sn0 sc0) (xs := List.replicate k (-1 : Int)) rfl R B0.heap.size _ _ rfl rfl (by (try simp [go_sem]) <;> (try simp [Xt.add]) <;> omega) (by repeat (first | with_reducible apply ownsRow_alloc | exact HG0.out | with_reducible apply ownsRow_drew | with_reducible apply ownsRow_ext)) HRr.out (-1) rfl (alloc_last (by simp [go_sem])) HL0.out ?_; intro v2 w2 hg2 hc2 hat2; obtain ⟨sa, sn, sc, rfl⟩ := row_slice hg2; have HG2 := hid hg2; have HC2 := hid hc2; have l2 : T < w2.heap.size := Nat.lt_of_lt_of_le (by (try simp [go_sem]) <;> (try simp [Xt.add]) <;> omega) hc2.size; have q20 : w2.cell? ⟨T, 0, none⟩ = some (.slice sa0 sn0 sc0) := (hc2.cell (by (try simp [go_sem]) <;> (try simp [Xt.add]) <;> omega) (by simp [hTR]) 0).trans (by simp [go_sem, cT0, lT]); have q21 : w2.cell? ⟨T, 1, none⟩ = some (.slice sa1 sn1 sc1) := (hc2.cell (by (try simp [go_sem]) <;> (try simp [Xt.add]) <;> omega) (by simp [hTR]) 1).trans (by simp [go_sem, cT1, lT]); have b2 : w2.heap[T]? = some (.cells #[.slice sa0 sn0 sc0, .slice sa1 sn1 sc1] 59 (0, 0)) := (hc2.block T (by (try simp [go_sem]) <;> (try simp [Xt.add]) <;> omega) (by simp [hTR])).trans (by repeat (first | with_reducible exact HTb.out | with_reducible apply blk_drew | with_reducible refine blk_set ?_ | (with_reducible refine blk_other ?_ (by first | assumption | omega)) | with_reducible refine blk_ext ?_ | with_reducible refine blk_alloc ?_)); have z2 : w2.frozen? ⟨T, 0, none⟩ = false := (Chg.frozen hc2 (by (try simp [go_sem]) <;> (try simp [Xt.add]) <;> omega) (by simp [hTR]) 0).trans (by simp [go_sem, zT0, lT]); have z21 : w2.frozen? ⟨T, 1, none⟩ = false := (Chg.frozen hc2 (by (try simp [go_sem]) <;> (try simp [Xt.add]) <;> omega) (by simp [hTR]) 1).trans (by simp [go_sem, zT1, lT]); have B2 := hid b2; have HG1' := hid (show w2.ownsRow B0.heap.size 3 1 (.slice sa1 sn1 sc1) _ _ from ownsRow_off (by repeat (first | with_reducible apply ownsRow_alloc | exact HG1.out | with_reducible apply ownsRow_drew | with_reducible apply ownsRow_ext)) hc2 (fun g hg => by simpa using HRo.out g hg)); have HD1 := hid (disj_new hat2 HD0.out (fun g hg => by have := (HDd.out g hg).2; (try simp [go_sem]) <;> omega)); have s2 : B0.heap.size ≤ w2.heap.size := Nat.le_trans (by (try simp [go_sem]) <;> (try simp [Xt.add]) <;> omega) hc2.size; obtain ⟨R1, hR1, hBR1, hRc1, hRo1⟩ := row_block2 _ _ HG1'.out HG2.out (fun g h1 h2 => HD1.out g h2 h1) s2; have hTR1 : T ≠ R1 := (by omega); have HRr1 := hid hR1; have HRo1 := hid hRo1; have HDd1 := hid (row_lt HG2.out); clear hg2 hc2 b2 hat2 hR1 hRo1) | skip)); (show K _ _); refine hK _ _ (show Ext _ _ from (by ((try simp only [ext_drew]); (try simp only [ext_ext]); repeat (first | exact Ext.refl _ | with_reducible apply Ext.add | with_reducible apply Ext.dr | apply Ext.alloc | apply Ext.ext | apply Ext.drew | refine Ext.trans ?_ (by assumption))))) ?_; clear hK K; (try simp only [Act.put, List.setIfInBounds_toArray, List.set_cons_zero, List.set_cons_succ])))
              refine mix_nil ?_)
            | (
              with_reducible refine wp_region_ext (by kernel_rfl) (by kernel_rfl) ?_
              repeat (first | go_big_quiet_skip | (go_big_quiet_want; go_big_quiet_op; first | go_big_quiet_on | (apply Exists.intro; refine ⟨fun _ => ?_, ?_⟩; (fail); (try rw [h1]); (try rw [h2]); (try rw [h3]); (try rw [h4]); (try rw [p1]); (try rw [p2]); (try rw [p3]); (try rw [p4]); (try rw [r1]); (try rw [r2]); (try rw [r3]); (try rw [r4]); (try rw [r5]); (try rw [r6]); (try rw [q3]); (try rw [q4]); (try rw [hp]); (try rw [hq]); go_big_quiet_on)))
              refine wpQuiet_nil ?_
              rintro _ ⟨tq, rfl⟩))
        go_roundw
        case rel =>
          refine ⟨k + 1, .slice sa sn sc, .slice sa4 sn4 sc4, by omega, by go_num, (by exact blk_set B4.out), ?_, ?_, ?_, Chg.set (Chg.up (Chg.alloc (Chg.set (Chg.up (Chg.alloc HC.out) HC2.out (by simp; omega)) (by simp) _)) HC4.out (by simp; omega)) (by simp) _⟩
          · rw [List.replicate_succ']
            exact ownsRow_chg HG2'.out ((Chg.refl [T] w4).set (by simp) _) (by simp; omega)
          · rw [List.replicate_succ']
            exact ownsRow_chg HG4.out ((Chg.refl [T] w4).set (by simp) _) (by simp; omega)
          · exact fun g h1 h2 => disj_new HAT4.out (fun g h1 h2 => HD1.out g h2 h1) (fun g hg => by have := (HDd1.out g hg).2; (try simp [go_sem]) <;> omega) g h2 h1
        case measure => simp [intOf]; omega
      · have HE := hid (show k = m.c.toNat by omega)
        obtain ⟨a0, c0, a1, c1, e0, e1, ho⟩ := own_two (xs0 := List.replicate k (-1 : Int)) (xs1 := List.replicate k (0 : Int)) HG0.out HG1.out HD0.out (by simp; omega) (by simp; omega)
        obtain ⟨rfl, rfl, rfl⟩ := Value.slice.inj e0
        obtain ⟨rfl, rfl, rfl⟩ := Value.slice.inj e1
        clear e0 e1
        have HO := hid ho
        clear ho
        try go_wp2_with (first
            | fail
            | (
              with_reducible refine wp_region_mix (by kernel_rfl) (by decide +kernel) ?_
              repeat (first
                | (refine mix_pure rfl ?_; (first | go_big_quiet_skip | (go_big_quiet_want; go_big_quiet_op; go_big_quiet_on)); refine wpQuiet_nil ?_)
                | (refine mix_skip (by rfl) ?_; (try simp only [Act.put, List.setIfInBounds_toArray, List.set_cons_zero, List.set_cons_succ]))
                | (refine mix_mk rfl (by rfl) (fun K hK => ?_); (first | (go_simp; first | skip)); (show K _ _); refine hK _ _ (show Ext _ _ from (by ((try simp only [ext_drew]); (try simp only [ext_ext]); repeat (first | exact Ext.refl _ | with_reducible apply Ext.add | with_reducible apply Ext.dr | apply Ext.alloc | apply Ext.ext | apply Ext.drew | refine Ext.trans ?_ (by assumption))))) ?_; clear hK K; (try simp only [Act.put, List.setIfInBounds_toArray, List.set_cons_zero, List.set_cons_succ])))
              refine mix_nil ?_)
            | (
              with_reducible refine wp_region_ext (by kernel_rfl) (by kernel_rfl) ?_
              repeat (first | go_big_quiet_skip | (go_big_quiet_want; go_big_quiet_op; first | go_big_quiet_on | (apply Exists.intro; refine ⟨fun _ => ?_, ?_⟩; (fail); (try rw [h1]); (try rw [h2]); (try rw [h3]); (try rw [h4]); (try rw [p1]); (try rw [p2]); (try rw [p3]); (try rw [p4]); (try rw [r1]); (try rw [r2]); (try rw [r3]); (try rw [r4]); (try rw [r5]); (try rw [r6]); (try rw [q3]); (try rw [q4]); (try rw [hp]); (try rw [hq]); go_big_quiet_on)))
              refine wpQuiet_nil ?_
              rintro _ ⟨tq, rfl⟩))
        refine bodyPost_ret (v := .agg #[.slice sa0 (List.replicate k (-1 : Int)).length sc0, .slice sa1 (List.replicate k (0 : Int)).length sc1]) (by simp [results, Try.results48, go_sem, cT0, cT1, cR, cR1, lR, lT]) rfl ?_
        rw [E0.out, E1.out, ← HE.out]
        refine ⟨_, _, _, _, rfl, ?_⟩
        exact fin_same (w := w) (Ext.of_below HBl.out) HO.out (R := w.heap.size + 1) (by omega) (by omega) (by repeat (first | with_reducible exact Chg.refl _ _ | with_reducible apply Chg.drew | with_reducible apply Chg.drewl | with_reducible refine Chg.turn (by simp) | with_reducible refine Chg.both ?_ (by simp) | (with_reducible refine Chg.set ?_ (by simp) _) | with_reducible apply Chg.alloc | with_reducible apply Chg.ext))
end Go.Proofs.Ytaepmhoedaogkaa
