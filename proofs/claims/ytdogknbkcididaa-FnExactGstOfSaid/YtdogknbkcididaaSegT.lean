/- A region that draws its order, its making operations in one order by way of others. -/
import Derived.Test.YtdogknbkcididaaSt
namespace Go.Proofs.Ytdogknbkcididaa
open Go.RowKit
set_option linter.unusedSimpArgs false
set_option linter.unusedVariables false

/-- Operation j waits for operation i, at once or by way of others. -/
def reaches (ops : Array Oper) : Nat → Nat → Nat → Bool
  | 0, _, _ => false
  | n + 1, j, i => ((ops[j]?).map fun oj => oj.after.any fun e => Region.binds .any e && (e.on == i || reaches ops n e.on i)).getD false
def Closed (ops : Array Oper) (listed : Array Bool) : Prop := ∀ j o, ops[j]? = some o → listed.getD j false = true → ∀ e ∈ o.after, Region.binds .any e = true → listed.getD e.on false = true
theorem Closed.reach {ops : Array Oper} {listed : Array Bool} (h : Closed ops listed) : ∀ (n j i : Nat), (∀ o, ops[j]? = some o → ∀ e ∈ o.after, Region.binds .any e = true → listed.getD e.on false = true) → reaches ops n j i = true → listed.getD i false = true
  | 0, j, i, _, hr => by simp [reaches] at hr
  | n + 1, j, i, hd, hr => by
    unfold reaches at hr
    cases ho : ops[j]? with
    | none => rw [ho] at hr; simp at hr
    | some oj =>
      rw [ho] at hr
      simp only [Option.map_some, Option.getD_some, Array.any_eq_true, Bool.and_eq_true, Bool.or_eq_true, beq_iff_eq] at hr
      obtain ⟨x, hx, hb, he⟩ := hr
      have h1 := hd oj ho _ (Array.getElem_mem hx) hb
      rcases he with he | he
      · rw [he] at h1; exact h1
      · exact h.reach n _ i (fun o ho' => h _ o ho' h1) he
theorem Closed.step {ops : Array Oper} {listed : Array Bool} (h : Closed ops listed) {i : Nat} (hr : i ∈ Region.ready .any ops listed) : Closed ops (listed.setIfInBounds i true) := by
  obtain ⟨_, oi, hoi, hall⟩ := mem_ready.1 hr
  have keep : ∀ k, listed.getD k false = true → (listed.setIfInBounds i true).getD k false = true := fun k hk => by
    have hks : k < listed.size := by
      rcases Nat.lt_or_ge k listed.size with h' | h'
      · exact h'
      · simp [Array.getElem?_eq_none h'] at hk
    by_cases e : i = k
    · subst e; simp [hks]
    · simp [hks, Array.getElem_setIfInBounds_ne, e] at hk ⊢; exact hk
  intro j o ho hj e he hb
  by_cases ej : i = j
  · subst ej
    rw [hoi] at ho; obtain rfl := Option.some.inj ho
    exact keep _ (hall e he hb)
  · refine keep _ (h j o ho ?_ e he hb)
    have hks : j < listed.size := by
      rcases Nat.lt_or_ge j listed.size with h' | h'
      · exact h'
      · simp [Array.getElem?_eq_none (show (listed.setIfInBounds i true).size ≤ j by simpa using h')] at hj
    simp [hks, Array.getElem_setIfInBounds_ne, ej] at hj ⊢; exact hj
theorem closed_none (ops : Array Oper) (n : Nat) : Closed ops (Array.replicate n false) := fun j o _ hj => by
  rcases Nat.lt_or_ge j n with h | h
  · simp [h] at hj
  · simp [Array.getElem?_eq_none (show (Array.replicate n false).size ≤ j by simpa using h)] at hj

def segPairT (ops : Array Oper) (oi oj : Oper) (i j : Nat) : Bool :=
  bif isMk oi.op && isMk oj.op then reaches ops ops.size j i
  else (isMk oi.op || waits oj i || oi.apart ops oj) && (isMk oj.op || waits oj i || oj.apart ops oi)
theorem segPairT_l {ops : Array Oper} {oi oj : Oper} {i j : Nat} (h : segPairT ops oi oj i j = true) (hi : isMk oi.op = false) (hw : waits oj i = false) : oi.apart ops oj = true := by
  simp [segPairT, hi, hw] at h; exact h.1
theorem segPairT_r {ops : Array Oper} {oi oj : Oper} {i j : Nat} (h : segPairT ops oi oj i j = true) (hj : isMk oj.op = false) (hw : waits oj i = false) : oj.apart ops oi = true := by
  simp [segPairT, hj, hw] at h; exact h.2
theorem segPairT_mk {ops : Array Oper} {oi oj : Oper} {i j : Nat} (h : segPairT ops oi oj i j = true) (hi : isMk oi.op = true) (hj : isMk oj.op = true) : reaches ops ops.size j i = true := by
  simpa [segPairT, hi, hj] using h
def segOkT (ops : Array Oper) : Bool :=
  Region.noSelect ops &&
  (List.range ops.size).all fun j => match ops[j]? with
    | none => false
    | some oj => (oj.after.all fun e => !Region.binds .any e || decide (e.on < j)) &&
      (List.range j).all fun i => match ops[i]? with
        | none => false
        | some oi => segPairT ops oi oj i j
theorem segOkT_sel {ops : Array Oper} (h : segOkT ops = true) : Region.noSelect ops = true := by
  simp only [segOkT, Bool.and_eq_true] at h; exact h.1
theorem segOkT_at {ops : Array Oper} (h : segOkT ops = true) {j : Nat} {oj : Oper} (hj : ops[j]? = some oj) :
    (∀ e ∈ oj.after, Region.binds .any e = true → e.on < j) ∧
    ∀ i oi, i < j → ops[i]? = some oi → segPairT ops oi oj i j = true := by
  simp only [segOkT, Bool.and_eq_true, List.all_eq_true, List.mem_range] at h
  have hlt : j < ops.size := (Array.getElem?_eq_some_iff.1 hj).1
  have h2 := h.2 j hlt
  simp only [hj, Bool.and_eq_true, List.all_eq_true, List.mem_range, Array.all_eq_true_iff_forall_mem, Bool.or_eq_true, Bool.not_eq_true', decide_eq_true_eq] at h2
  refine ⟨fun e he hb => (h2.1 e he).resolve_left (by simp [hb]), fun i oi hi hoi => ?_⟩
  have h3 := h2.2 i hi
  simp only [hoi] at h3
  exact h3

section
variable {P : Program} {ops : Array Oper} {S : World → Prop} {Q : Exit → Act → World → Prop}
theorem mixT_sound (hB : segOkT ops = true) (hQ : ∀ c a d (v : Value) w, Q (.panic c) (Act.put a d v) w → Q (.panic c) a w) : ∀ (rem : List Nat) (listed : Array Bool) (a : Act) (w : World), listed.size = ops.size →
    rem.Pairwise (· < ·) → (∀ j, j ∈ rem ↔ j < ops.size ∧ listed.getD j true = false) → Closed ops listed → S w → wpMix P ops S Q rem a w → wpAnyH P .any ops Q S rem.length listed a w := by
  intro rem
  generalize hn : rem.length = n
  induction n generalizing rem with
  | zero =>
    intro listed a w hsz hpw hmem hcl hS h
    obtain rfl := List.eq_nil_of_length_eq_zero hn
    refine ⟨?_, h⟩
    rw [List.eq_nil_iff_forall_not_mem]
    intro j hj
    obtain ⟨h0, o, ho, _⟩ := mem_ready.1 hj
    exact absurd ((hmem j).2 ⟨(Array.getElem?_eq_some_iff.1 ho).1, h0⟩) (by simp)
  | succ n ih =>
    intro listed a w hsz hpw hmem hcl hS h
    have hs := segOkT_sel hB
    have inrem : ∀ j, j ∈ Region.ready .any ops listed → j ∈ rem := fun j hj => by
      obtain ⟨h0, o, ho, _⟩ := mem_ready.1 hj
      exact (hmem j).2 ⟨(Array.getElem?_eq_some_iff.1 ho).1, h0⟩
    have nowait : ∀ i j oi, ops[i]? = some oi → i ∈ Region.ready .any ops listed → listed.getD j true = false → waits oi j = false := fun i j oi hi hr hj => by
      obtain ⟨_, o, ho, hall⟩ := mem_ready.1 hr
      rw [hi] at ho; obtain rfl := Option.some.inj ho
      cases hwt : waits oi j with
      | false => rfl
      | true =>
        simp only [waits, Array.any_eq_true, Bool.and_eq_true, beq_iff_eq] at hwt
        obtain ⟨q, hq, hb, he⟩ := hwt
        have := hall _ (Array.getElem_mem hq) hb
        rw [he] at this
        rcases Nat.lt_or_ge j listed.size with h' | h'
        · simp [h'] at hj this; rw [hj] at this; cases this
        · simp [Array.getElem?_eq_none h'] at this
    have after : ∀ (i : Nat), i ∈ rem → ∀ (pre post : List Nat), rem = pre ++ i :: post → (∀ j, j ∈ pre ++ post ↔ j < ops.size ∧ (listed.setIfInBounds i true).getD j true = false) ∧ (pre ++ post).Pairwise (· < ·) ∧ (pre ++ post).length = n := fun i hi pre post he => by
      subst he
      have hpp := List.pairwise_append.1 hpw
      obtain ⟨hp1, hp2, hp3⟩ := hpp
      obtain ⟨hp4, hp5⟩ := List.pairwise_cons.1 hp2
      refine ⟨fun j => ?_, ?_, by simp at hn ⊢; omega⟩
      · have hij : i < listed.size := by have := ((hmem i).1 hi).1; omega
        by_cases e : i = j
        · subst e
          constructor
          · intro hj
            rcases List.mem_append.1 hj with hj | hj
            · have := hp3 _ hj i (by simp); omega
            · have := hp4 _ hj; omega
          · rintro ⟨_, hj⟩
            simp [hij] at hj
        · rw [getD_set_ne true e, ← hmem j]
          simp only [List.mem_append, List.mem_cons]
          constructor
          · rintro (hj | hj)
            · exact .inl hj
            · exact .inr (.inr hj)
          · rintro (hj | hj | hj)
            · exact .inl hj
            · exact absurd hj.symm e
            · exact .inr hj
      · exact List.pairwise_append.2 ⟨hp1, hp5, fun x hx y hy => hp3 x hx y (by simp [hy])⟩
    by_cases hp : ∃ i oi, i ∈ Region.ready .any ops listed ∧ ops[i]? = some oi ∧ isMk oi.op = false
    · obtain ⟨i, oi, hr, hi, hpure⟩ := hp
      have him := inrem i hr
      obtain ⟨pre, post, he⟩ := List.append_of_mem him
      obtain ⟨q1, q2, q3⟩ := after i him pre post he
      have hlt : ∀ k ∈ pre, k < i := fun k hk => by
        rw [he] at hpw
        exact (List.pairwise_append.1 hpw).2.2 k hk i (by simp)
      have hfree : ∀ j oj, ops[j]? = some oj → j ≠ i → listed.getD j true = false → waits oj i = false → oi.apart ops oj = true := fun j oj hj hne hun hno => by
        rcases Nat.lt_or_ge j i with hji | hji
        · exact segPairT_r ((segOkT_at hB hi).2 j oj hji hj) hpure (nowait i j oi hi hr hun)
        · exact segPairT_l ((segOkT_at hB hj).2 i oi (by omega) hi) hpure hno
      rw [he] at h
      obtain ⟨v, hy, hh⟩ := mix_hoist hs hi hpure pre post a w hS (fun k hk => by
        have hkm : k ∈ rem := by rw [he]; simp [hk]
        obtain ⟨k1, k2⟩ := (hmem k).1 hkm
        obtain ⟨ok, hok⟩ : ∃ ok, ops[k]? = some ok := ⟨_, Array.getElem?_eq_getElem k1⟩
        have hki := hlt k hk
        refine ⟨ok, hok, hfree k ok hok (by omega) k2 ?_⟩
        cases hwt : waits ok i with
        | false => rfl
        | true =>
          simp only [waits, Array.any_eq_true, Bool.and_eq_true, beq_iff_eq] at hwt
          obtain ⟨q, hq, hb, he'⟩ := hwt
          have := (segOkT_at hB hok).1 _ (Array.getElem_mem hq) hb
          omega) h
      refine wpAnyH_first hi (Region.noSelect_spec hs) (fun c a w => hQ c a _ _ w) n listed a w (fun j oj hj hne hun hno => hfree j oj hj hne hun ?_) hr hy hS ?_
      · cases hwt : waits oj i with
        | false => rfl
        | true =>
          simp only [waits, Array.any_eq_true, Bool.and_eq_true, beq_iff_eq] at hwt
          obtain ⟨q, hq, hb, he'⟩ := hwt
          exact absurd he' (hno _ (Array.getElem_mem hq) hb)
      · exact ih (pre ++ post) q3 _ _ _ (by simp [hsz]) q2 q1 (hcl.step hr) hS hh
    · cases rem with
      | nil => simp at hn
      | cons k rest =>
        obtain ⟨k1, k2⟩ := (hmem k).1 (by simp)
        obtain ⟨ok, hok⟩ : ∃ ok, ops[k]? = some ok := ⟨_, Array.getElem?_eq_getElem k1⟩
        obtain ⟨hpk, hpr⟩ := List.pairwise_cons.1 hpw
        have hkr : k ∈ Region.ready .any ops listed := by
          refine mem_ready.2 ⟨k2, ok, hok, fun e he hb => ?_⟩
          have hlt := (segOkT_at hB hok).1 e he hb
          cases hl : listed.getD e.on true with
          | true =>
            have : e.on < listed.size := by omega
            simp [this] at hl ⊢; exact hl
          | false =>
            have := (hmem e.on).2 ⟨by omega, hl⟩
            rcases List.mem_cons.1 this with h' | h'
            · omega
            · have := hpk _ h'; omega
        have hmk : isMk ok.op = true := by
          cases hm : isMk ok.op with
          | true => rfl
          | false => exact absurd ⟨k, ok, hkr, hok, hm⟩ hp
        have only : ∀ j, j ∈ Region.ready .any ops listed → j = k := fun j hj => by
          rcases List.mem_cons.1 (inrem j hj) with h' | h'
          · exact h'
          · exfalso
            have hkj := hpk j h'
            obtain ⟨_, oj, hoj, _⟩ := mem_ready.1 hj
            have hmj : isMk oj.op = true := by
              cases hm : isMk oj.op with
              | true => rfl
              | false => exact absurd ⟨j, oj, hj, hoj, hm⟩ hp
            have h1 := segPairT_mk ((segOkT_at hB hoj).2 k ok hkj hok) hmk hmj
            have h2 := hcl.reach (ops.size) j k (by
              obtain ⟨_, o2, ho2, hall⟩ := mem_ready.1 hj
              intro o ho e he hb
              rw [ho2] at ho; obtain rfl := Option.some.inj ho
              exact hall e he hb) h1
            have : k < listed.size := by omega
            simp [this] at k2 h2
            rw [k2] at h2; cases h2
        obtain ⟨q1, q2, q3⟩ := after k (by simp) [] rest rfl
        simp only [List.nil_append] at q1 q2 q3
        refine ⟨fun h0 => (by rw [h0] at hkr; cases hkr), fun j hj => ?_⟩
        obtain rfl := only j hj
        simp only [wpMix, hok, hmk, if_true] at h
        unfold wpOp
        simp only [hok]
        split
        · rename_i hw
          simp only [hw, if_true] at h
          exact .inl (wp_Qn (fun a' w' ⟨h1, h2⟩ => ⟨h1, ih rest q3 _ _ _ (by simp [hsz]) q2 q1 (hcl.step hkr) h1 h2⟩) h)
        · rename_i hw
          simp only [hw] at h
          exact ⟨hS, ih rest q3 _ _ _ (by simp [hsz]) q2 q1 (hcl.step hkr) hS h⟩


theorem wp_region_T (S : World → Prop) {id : Nat} {a : Act} {w : World} {l : List Oper} (hm : P.follows .mixedOrders = true) (hB : segOkT l.toArray = true) (hS : S w.drew)
    (h : wpMixL P l.toArray S (Qt Q) l a w.drew) : (Code.region id l.toArray true).wp P Q a w := by
  refine Code.wp_mono (Q := Qt Q) (fun e a w h => by cases e <;> first | exact h | exact False.elim h) (wp_region_held (S := S) hm ?_)
  have h1 := mix_of_list l 0 a _ (fun j => by simp) h
  have h2 := mixT_sound hB (fun c a d v w h => h) (List.range' 0 l.length) (Array.replicate l.toArray.size false) a w.drew (by simp) List.pairwise_lt_range' (fun j => by
    simp only [List.mem_range'_1, List.size_toArray, Nat.zero_le, true_and, Nat.zero_add]
    constructor
    · intro hj; exact ⟨hj, by simp [hj]⟩
    · exact fun hj => hj.1) (closed_none _ _) hS h1
  simpa using h2
/-- .. in the class of the worlds that add to this one. -/
theorem wp_region_mixT {id : Nat} {a : Act} {w : World} {l : List Oper} (hm : P.follows .mixedOrders = true) (hB : segOkT l.toArray = true)
    (h : wpMixL P l.toArray (fun w' => ∃ t, w' = ext w t) (Qt Q) l a w.drew) : (Code.region id l.toArray true).wp P Q a w :=
  wp_region_T (fun w' => ∃ t, w' = ext w t) hm hB ((Ext.refl w).drew) h
/-- .. and that may differ in one block. -/
theorem wp_region_mixTR (R : Nat) {id : Nat} {a : Act} {w : World} {l : List Oper} (hm : P.follows .mixedOrders = true) (hB : segOkT l.toArray = true)
    (h : wpMixL P l.toArray (fun w' => ∃ x, w' = extR w R x) (Qt Q) l a w.drew) : (Code.region id l.toArray true).wp P Q a w :=
  wp_region_T (fun w' => ∃ x, w' = extR w R x) hm hB (extR_of (Chg.refl _ _).drew) h
end
end Go.Proofs.Ytdogknbkcididaa
