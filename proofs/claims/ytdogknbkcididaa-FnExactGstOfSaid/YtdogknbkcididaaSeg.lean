/- A region that draws its order, walked once in the order of the text: operations that look (at the frame, or at memory that lay there) and operations that make memory, the latter in one forced order. -/
import Derived.Test.YtdogknbkcididaaBase
import Derived.Deep.RegionHeld
namespace Go.Proofs.Ytdogknbkcididaa
open Go.RowKit

/-- May change the world (calls, blocks made, stores). -/
def isMk : Op → Bool
  | .move _ | .assign _ | .pick .. | .build .. | .load .. | .binOp .. | .unOp .. | .convert .. | .slice .. | .fieldAddr .. | .field .. | .indexAddr .. | .index .. | .extract .. | .nilCheck _ => false
  | _ => true

def waits (oj : Oper) (i : Nat) : Bool := oj.after.any fun e => Region.binds .any e && e.on == i
def segPair (ops : Array Oper) (oi oj : Oper) (i : Nat) : Bool :=
  bif isMk oi.op && isMk oj.op then waits oj i
  else (isMk oi.op || waits oj i || oi.apart ops oj) && (isMk oj.op || waits oj i || oj.apart ops oi)
theorem segPair_l {ops : Array Oper} {oi oj : Oper} {i : Nat} (h : segPair ops oi oj i = true) (hi : isMk oi.op = false) (hw : waits oj i = false) : oi.apart ops oj = true := by
  simp [segPair, hi, hw] at h; exact h.1
theorem segPair_r {ops : Array Oper} {oi oj : Oper} {i : Nat} (h : segPair ops oi oj i = true) (hj : isMk oj.op = false) (hw : waits oj i = false) : oj.apart ops oi = true := by
  simp [segPair, hj, hw] at h; exact h.2
theorem segPair_mk {ops : Array Oper} {oi oj : Oper} {i : Nat} (h : segPair ops oi oj i = true) (hi : isMk oi.op = true) (hj : isMk oj.op = true) : waits oj i = true := by
  simpa [segPair, hi, hj] using h
/-- The pairwise conditions: edges point back; of two that make, the later waits; one that looks is apart from all that do not wait. -/
def segOk (ops : Array Oper) : Bool :=
  Region.noSelect ops &&
  (List.range ops.size).all fun j => match ops[j]? with
    | none => false
    | some oj => (oj.after.all fun e => !Region.binds .any e || decide (e.on < j)) &&
      (List.range j).all fun i => match ops[i]? with
        | none => false
        | some oi => segPair ops oi oj i

theorem segOk_sel {ops : Array Oper} (h : segOk ops = true) : Region.noSelect ops = true := by
  simp only [segOk, Bool.and_eq_true] at h; exact h.1
theorem segOk_at {ops : Array Oper} (h : segOk ops = true) {j : Nat} {oj : Oper} (hj : ops[j]? = some oj) :
    (∀ e ∈ oj.after, Region.binds .any e = true → e.on < j) ∧
    ∀ i oi, i < j → ops[i]? = some oi → segPair ops oi oj i = true := by
  simp only [segOk, Bool.and_eq_true, List.all_eq_true, List.mem_range] at h
  have hlt : j < ops.size := (Array.getElem?_eq_some_iff.1 hj).1
  have h2 := h.2 j hlt
  simp only [hj, Bool.and_eq_true, List.all_eq_true, List.mem_range, Array.all_eq_true_iff_forall_mem, Bool.or_eq_true, Bool.not_eq_true', decide_eq_true_eq] at h2
  refine ⟨fun e he hb => (h2.1 e he).resolve_left (by simp [hb]), fun i oi hi hoi => ?_⟩
  have h3 := h2.2 i hi
  simp only [hoi] at h3
  exact h3

def Qn : Exit → Act → World → Prop := fun _ _ _ => False
theorem no_out : ¬ LetsOut Qn := fun ⟨_, _, h⟩ => h

section
variable {P : Program} {ops : Array Oper} {S : World → Prop} {Q : Exit → Act → World → Prop}

theorem wp_Qn {o : Oper} {a : Act} {w : World} {K K' : Act → World → Prop} (h : ∀ a w, K a w → K' a w) (hh : o.wp P a w K Qn) : o.wp P a w K' Q := by
  unfold Oper.wp at *
  generalize (execOp a.eval o).run P w = r at *
  cases r with
  | ok n w' =>
    cases n <;> simp only [Oper.upon] at hh ⊢
    case value => exact h _ _ hh
    case skip => exact h _ _ hh
    case defer => exact h _ _ hh
    case enter => exact Calls.mono hh (fun e w'' he => by cases e <;> first | exact h _ _ he | exact False.elim he | exact False.elim (no_out he))
    case row => exact Rows.mono hh (fun _ _ he => h _ _ he)
  | halt x w' => cases x <;> simp only [Oper.upon] at hh ⊢; exact False.elim hh

/-- The walk over the places of a region. -/
def wpMix (P : Program) (ops : Array Oper) (S : World → Prop) (Q : Exit → Act → World → Prop) : List Nat → Act → World → Prop
  | [], a, w => Q .normal a w
  | i :: r, a, w => match ops[i]? with
    | none => False
    | some o => if isMk o.op then (if Region.wanted o (yielded ops a.tmps) then o.wp P a w (fun a' w' => S w' ∧ wpMix P ops S Q r a' w') Qn else wpMix P ops S Q r (a.put o.dst undef) w)
      else ∃ v, YieldsIf P ops S o v a ∧ wpMix P ops S Q r (a.put o.dst v) w

theorem yields_unique {o : Oper} {v u : Value} {a : Act} {w : World} (hw : S w) (h : YieldsIf P ops S o v a) (k : YieldsIf P ops S o u a) : v = u := by
  rcases h with ⟨h1, h2⟩ | ⟨h1, rfl⟩ <;> rcases k with ⟨k1, k2⟩ | ⟨k1, rfl⟩
  · have := (h2 w hw).symm.trans (k2 w hw); simpa using this
  · rw [h1] at k1; cases k1
  · rw [h1] at k1; cases k1
  · rfl

theorem mix_hoist (hs : Region.noSelect ops = true) {i : Nat} {oi : Oper} (hi : ops[i]? = some oi) (hp : isMk oi.op = false) : ∀ (pre post : List Nat) (a : Act) (w : World), S w →
    (∀ k ∈ pre, ∃ ok, ops[k]? = some ok ∧ oi.apart ops ok = true) → wpMix P ops S Q (pre ++ i :: post) a w →
    ∃ v, YieldsIf P ops S oi v a ∧ wpMix P ops S Q (pre ++ post) (a.put oi.dst v) w
  | [], post, a, w, _, _, h => by
    simp only [List.nil_append, wpMix, hi, hp, Bool.false_eq_true, if_false] at h
    exact h
  | k :: pre, post, a, w, hw, hap, h => by
    obtain ⟨ok, hok, hapk⟩ := hap k (by simp)
    have hap' : ∀ k ∈ pre, ∃ ok, ops[k]? = some ok ∧ oi.apart ops ok = true := fun k hk => hap k (by simp [hk])
    obtain ⟨h1, h2, h3⟩ := Oper.apart_spec hapk
    have hsi := fun cs b => Region.noSelect_spec hs i oi cs b hi
    have hsk := fun cs b => Region.noSelect_spec hs k ok cs b hok
    have back : ∀ (a : Act) (u v : Value), YieldsIf P ops S oi v (a.put ok.dst u) → YieldsIf P ops S oi v a := fun a u v hy =>
      hy.of_same (execOp_put oi hsi a ok.dst u h3).symm (wanted_put oi a ok.dst u h3).symm
    have backD : ∀ (a : Act) (d : Deferred) (v : Value), YieldsIf P ops S oi v { a with defers := d :: a.defers } → YieldsIf P ops S oi v a := fun a d v hy => hy.of_same rfl rfl
    simp only [List.cons_append, wpMix, hok] at h ⊢
    by_cases hm : isMk ok.op = true
    · simp only [hm, if_true] at h ⊢
      by_cases hwt : Region.wanted ok (yielded ops a.tmps) = true
      · simp only [hwt, if_true] at h
        have hwt' : ∀ v, Region.wanted ok (yielded ops (a.put oi.dst v).tmps) = true := fun v => (wanted_put ok a oi.dst v h1).trans hwt
        have hex : ∀ v, execOp (a.put oi.dst v).eval ok = execOp a.eval ok := fun v => execOp_put ok hsk a oi.dst v h1
        have step : ∀ (a' : Act) (w' : World), S w' → wpMix P ops S Q (pre ++ i :: post) a' w' → ∃ v, YieldsIf P ops S oi v a' ∧ wpMix P ops S Q (pre ++ post) (a'.put oi.dst v) w' := fun a' w' hs' hh => mix_hoist hs hi hp pre post a' w' hs' hap' hh
        have move : ∀ (u v : Value) (w' : World), YieldsIf P ops S oi v a → S w' ∧ wpMix P ops S Q (pre ++ i :: post) (a.put ok.dst u) w' → S w' ∧ wpMix P ops S Q (pre ++ post) ((a.put oi.dst v).put ok.dst u) w' := fun u v w' hv ⟨hs', hh⟩ => by
          obtain ⟨v', hy', hh'⟩ := step _ _ hs' hh
          obtain rfl := yields_unique hw hv (back a u v' hy')
          exact ⟨hs', by rw [Act.put_comm a v u h2]; exact hh'⟩
        unfold Oper.wp at h ⊢
        simp only [hex, hwt', if_true]
        generalize (execOp a.eval ok).run P w = r at *
        cases r with
        | halt x w' => cases x <;> simp only [Oper.upon] at h; exact False.elim h
        | ok n w' =>
          cases n <;> simp only [Oper.upon] at h ⊢
          case value u =>
            obtain ⟨v, hy, _⟩ := step _ _ h.1 h.2
            exact ⟨v, back a u v hy, move u v w' (back a u v hy) h⟩
          case skip =>
            obtain ⟨v, hy, _⟩ := step _ _ h.1 h.2
            exact ⟨v, back a _ v hy, move _ v w' (back a _ v hy) h⟩
          case defer d =>
            obtain ⟨v, hy, hh⟩ := step _ _ h.1 h.2
            have hy' := backD a d v (back _ _ v hy)
            refine ⟨v, hy', h.1, ?_⟩
            rw [Act.put_defers, Act.put_comm _ v undef h2]
            exact hh
          case enter f args =>
            obtain ⟨e, w'', fr, hR, _⟩ := id h []
            cases e with
            | panicked c => exact False.elim hR
            | outgrown => exact False.elim (no_out hR)
            | returned u =>
              obtain ⟨v, hy, _⟩ := step _ _ hR.1 hR.2
              have hv := back a u v hy
              refine ⟨v, hv, Calls.mono h fun e w3 he => ?_⟩
              cases e with
              | panicked c => exact he
              | outgrown => exact he
              | returned u' => exact move u' v w3 hv he
          case row row args =>
            obtain ⟨u, w'', hR, _⟩ := id h default []
            obtain ⟨v, hy, _⟩ := step _ _ hR.1 hR.2
            have hv := back a u v hy
            exact ⟨v, hv, Rows.mono h fun u' w3 he => move u' v w3 hv he⟩
      · simp only [hwt] at h
        obtain ⟨v, hy, hh⟩ := mix_hoist hs hi hp pre post _ w hw hap' h
        have hv := back a _ v hy
        refine ⟨v, hv, ?_⟩
        rw [wanted_put ok a oi.dst v h1, if_neg hwt, Act.put_comm a v undef h2]
        exact hh
    · simp only [hm] at h ⊢
      obtain ⟨u, hu, h⟩ := h
      obtain ⟨v, hy, hh⟩ := mix_hoist hs hi hp pre post _ w hw hap' h
      have hv := back a u v hy
      refine ⟨v, hv, u, hu.of_same (execOp_put ok hsk a oi.dst v h1) (wanted_put ok a oi.dst v h1), ?_⟩
      rw [Act.put_comm a v u h2]
      exact hh

theorem mix_sound (hB : segOk ops = true) (hQ : ∀ c a d (v : Value) w, Q (.panic c) (Act.put a d v) w → Q (.panic c) a w) : ∀ (rem : List Nat) (listed : Array Bool) (a : Act) (w : World), listed.size = ops.size →
    rem.Pairwise (· < ·) → (∀ j, j ∈ rem ↔ j < ops.size ∧ listed.getD j true = false) → S w → wpMix P ops S Q rem a w → wpAnyH P .any ops Q S rem.length listed a w := by
  intro rem
  generalize hn : rem.length = n
  induction n generalizing rem with
  | zero =>
    intro listed a w hsz hpw hmem hS h
    obtain rfl := List.eq_nil_of_length_eq_zero hn
    refine ⟨?_, h⟩
    rw [List.eq_nil_iff_forall_not_mem]
    intro j hj
    obtain ⟨h0, o, ho, _⟩ := mem_ready.1 hj
    exact absurd ((hmem j).2 ⟨(Array.getElem?_eq_some_iff.1 ho).1, h0⟩) (by simp)
  | succ n ih =>
    intro listed a w hsz hpw hmem hS h
    have hs := segOk_sel hB
    have inrem : ∀ j, j ∈ Region.ready .any ops listed → j ∈ rem := fun j hj => by
      obtain ⟨h0, o, ho, _⟩ := mem_ready.1 hj
      exact (hmem j).2 ⟨(Array.getElem?_eq_some_iff.1 ho).1, h0⟩
    have nowait : ∀ i j oi, ops[i]? = some oi → i ∈ Region.ready .any ops listed → listed.getD j true = false → waits oi j = false := fun i j oi hi hr hj => by
      obtain ⟨_, o, ho, hall⟩ := mem_ready.1 hr
      rw [hi] at ho; obtain rfl := Option.some.inj ho
      cases hwt : waits oi j with
      | false => rfl
      | true =>
        simp only [waits, Array.any_eq_true, Bool.and_eq_true, beq_iff_eq] at hwt
        obtain ⟨q, hq, hb, he⟩ := hwt
        have := hall _ (Array.getElem_mem hq) hb
        rw [he] at this
        rcases Nat.lt_or_ge j listed.size with h' | h'
        · simp [h'] at hj this; rw [hj] at this; cases this
        · simp [Array.getElem?_eq_none h'] at this
    have after : ∀ (i : Nat), i ∈ rem → ∀ (pre post : List Nat), rem = pre ++ i :: post → (∀ j, j ∈ pre ++ post ↔ j < ops.size ∧ (listed.setIfInBounds i true).getD j true = false) ∧ (pre ++ post).Pairwise (· < ·) ∧ (pre ++ post).length = n := fun i hi pre post he => by
      subst he
      have hpp := List.pairwise_append.1 hpw
      obtain ⟨hp1, hp2, hp3⟩ := hpp
      obtain ⟨hp4, hp5⟩ := List.pairwise_cons.1 hp2
      refine ⟨fun j => ?_, ?_, by simp at hn ⊢; omega⟩
      · have hij : i < listed.size := by have := ((hmem i).1 hi).1; omega
        by_cases e : i = j
        · subst e
          constructor
          · intro hj
            rcases List.mem_append.1 hj with hj | hj
            · have := hp3 _ hj i (by simp); omega
            · have := hp4 _ hj; omega
          · rintro ⟨_, hj⟩
            simp [hij] at hj
        · rw [getD_set_ne true e, ← hmem j]
          simp only [List.mem_append, List.mem_cons]
          constructor
          · rintro (hj | hj)
            · exact .inl hj
            · exact .inr (.inr hj)
          · rintro (hj | hj | hj)
            · exact .inl hj
            · exact absurd hj.symm e
            · exact .inr hj
      · exact List.pairwise_append.2 ⟨hp1, hp5, fun x hx y hy => hp3 x hx y (by simp [hy])⟩
    by_cases hp : ∃ i oi, i ∈ Region.ready .any ops listed ∧ ops[i]? = some oi ∧ isMk oi.op = false
    · obtain ⟨i, oi, hr, hi, hpure⟩ := hp
      have him := inrem i hr
      obtain ⟨pre, post, he⟩ := List.append_of_mem him
      obtain ⟨q1, q2, q3⟩ := after i him pre post he
      have hlt : ∀ k ∈ pre, k < i := fun k hk => by
        rw [he] at hpw
        exact (List.pairwise_append.1 hpw).2.2 k hk i (by simp)
      have hfree : ∀ j oj, ops[j]? = some oj → j ≠ i → listed.getD j true = false → waits oj i = false → oi.apart ops oj = true := fun j oj hj hne hun hno => by
        rcases Nat.lt_or_ge j i with hji | hji
        · exact segPair_r ((segOk_at hB hi).2 j oj hji hj) hpure (nowait i j oi hi hr hun)
        · exact segPair_l ((segOk_at hB hj).2 i oi (by omega) hi) hpure hno
      rw [he] at h
      obtain ⟨v, hy, hh⟩ := mix_hoist hs hi hpure pre post a w hS (fun k hk => by
        have hkm : k ∈ rem := by rw [he]; simp [hk]
        obtain ⟨k1, k2⟩ := (hmem k).1 hkm
        obtain ⟨ok, hok⟩ : ∃ ok, ops[k]? = some ok := ⟨_, Array.getElem?_eq_getElem k1⟩
        have hki := hlt k hk
        refine ⟨ok, hok, hfree k ok hok (by omega) k2 ?_⟩
        cases hwt : waits ok i with
        | false => rfl
        | true =>
          simp only [waits, Array.any_eq_true, Bool.and_eq_true, beq_iff_eq] at hwt
          obtain ⟨q, hq, hb, he'⟩ := hwt
          have := (segOk_at hB hok).1 _ (Array.getElem_mem hq) hb
          omega) h
      refine wpAnyH_first hi (Region.noSelect_spec hs) (fun c a w => hQ c a _ _ w) n listed a w (fun j oj hj hne hun hno => hfree j oj hj hne hun ?_) hr hy hS ?_
      · cases hwt : waits oj i with
        | false => rfl
        | true =>
          simp only [waits, Array.any_eq_true, Bool.and_eq_true, beq_iff_eq] at hwt
          obtain ⟨q, hq, hb, he'⟩ := hwt
          exact absurd he' (hno _ (Array.getElem_mem hq) hb)
      · exact ih (pre ++ post) q3 _ _ _ (by simp [hsz]) q2 q1 hS hh
    · cases rem with
      | nil => simp at hn
      | cons k rest =>
        obtain ⟨k1, k2⟩ := (hmem k).1 (by simp)
        obtain ⟨ok, hok⟩ : ∃ ok, ops[k]? = some ok := ⟨_, Array.getElem?_eq_getElem k1⟩
        obtain ⟨hpk, hpr⟩ := List.pairwise_cons.1 hpw
        have hkr : k ∈ Region.ready .any ops listed := by
          refine mem_ready.2 ⟨k2, ok, hok, fun e he hb => ?_⟩
          have hlt := (segOk_at hB hok).1 e he hb
          cases hl : listed.getD e.on true with
          | true =>
            have : e.on < listed.size := by omega
            simp [this] at hl ⊢; exact hl
          | false =>
            have := (hmem e.on).2 ⟨by omega, hl⟩
            rcases List.mem_cons.1 this with h' | h'
            · omega
            · have := hpk _ h'; omega
        have hmk : isMk ok.op = true := by
          cases hm : isMk ok.op with
          | true => rfl
          | false => exact absurd ⟨k, ok, hkr, hok, hm⟩ hp
        have only : ∀ j, j ∈ Region.ready .any ops listed → j = k := fun j hj => by
          rcases List.mem_cons.1 (inrem j hj) with h' | h'
          · exact h'
          · exfalso
            have hkj := hpk j h'
            obtain ⟨_, oj, hoj, _⟩ := mem_ready.1 hj
            have hmj : isMk oj.op = true := by
              cases hm : isMk oj.op with
              | true => rfl
              | false => exact absurd ⟨j, oj, hj, hoj, hm⟩ hp
            have := segPair_mk ((segOk_at hB hoj).2 k ok hkj hok) hmk hmj
            rw [nowait j k oj hoj hj k2] at this
            cases this
        obtain ⟨q1, q2, q3⟩ := after k (by simp) [] rest rfl
        simp only [List.nil_append] at q1 q2 q3
        refine ⟨fun h0 => (by rw [h0] at hkr; cases hkr), fun j hj => ?_⟩
        obtain rfl := only j hj
        simp only [wpMix, hok, hmk, if_true] at h
        unfold wpOp
        simp only [hok]
        split
        · rename_i hw
          simp only [hw, if_true] at h
          exact .inl (wp_Qn (fun a' w' ⟨h1, h2⟩ => ⟨h1, ih rest q3 _ _ _ (by simp [hsz]) q2 q1 h1 h2⟩) h)
        · rename_i hw
          simp only [hw] at h
          exact ⟨hS, ih rest q3 _ _ _ (by simp [hsz]) q2 q1 hS h⟩

/-- The walk over the operations themselves. -/
def wpMixL (P : Program) (ops : Array Oper) (S : World → Prop) (Q : Exit → Act → World → Prop) : List Oper → Act → World → Prop
  | [], a, w => Q .normal a w
  | o :: r, a, w => if isMk o.op then (if Region.wanted o (yielded ops a.tmps) then o.wp P a w (fun a' w' => S w' ∧ wpMixL P ops S Q r a' w') Qn else wpMixL P ops S Q r (a.put o.dst undef) w)
      else ∃ v, YieldsIf P ops S o v a ∧ wpMixL P ops S Q r (a.put o.dst v) w

theorem mix_of_list : ∀ (l : List Oper) (k : Nat) (a : Act) (w : World), (∀ j, l[j]? = ops[k + j]?) → wpMixL P ops S Q l a w → wpMix P ops S Q (List.range' k l.length) a w
  | [], k, a, w, _, h => h
  | o :: l, k, a, w, hl, h => by
    have h0 : ops[k]? = some o := by simpa using (hl 0).symm
    have hl' : ∀ j, l[j]? = ops[k + 1 + j]? := fun j => by have := hl (j + 1); simpa [Nat.add_assoc, Nat.add_comm 1 j] using this
    simp only [List.length_cons, List.range'_succ, wpMix, h0]
    simp only [wpMixL] at h
    split
    · rename_i hm
      rw [if_pos hm] at h
      split
      · rename_i hw
        rw [if_pos hw] at h
        exact Oper.wp_mono (fun a' w' ⟨h1, h2⟩ => ⟨h1, mix_of_list l (k + 1) a' w' hl' h2⟩) h
      · rename_i hw
        rw [if_neg hw] at h
        exact mix_of_list l (k + 1) _ w hl' h
    · rename_i hm
      rw [if_neg hm] at h
      obtain ⟨v, hy, h⟩ := h
      exact ⟨v, hy, mix_of_list l (k + 1) _ w hl' h⟩

def Qt (Q : Exit → Act → World → Prop) : Exit → Act → World → Prop
  | .normal, a, w => Q .normal a w
  | _, _, _ => False

theorem wp_region_mix {id : Nat} {a : Act} {w : World} {l : List Oper} (hm : P.follows .mixedOrders = true) (hB : segOk l.toArray = true)
    (h : wpMixL P l.toArray (fun w' => ∃ t, w' = ext w.drew t) (Qt Q) l a w.drew) : (Code.region id l.toArray true).wp P Q a w := by
  refine Code.wp_mono (Q := Qt Q) (fun e a w h => by cases e <;> first | exact h | exact False.elim h) (wp_region_held (S := fun w' => ∃ t, w' = ext w.drew t) hm ?_)
  have h1 := mix_of_list l 0 a _ (fun j => by simp) h
  have h2 := mix_sound hB (fun c a d v w h => h) (List.range' 0 l.length) (Array.replicate l.toArray.size false) a w.drew (by simp) List.pairwise_lt_range' (fun j => by
    simp only [List.mem_range'_1, List.size_toArray, Nat.zero_le, true_and, Nat.zero_add]
    constructor
    · intro hj; exact ⟨hj, by simp [hj]⟩
    · exact fun hj => hj.1) ⟨_, (ext_refl _).symm⟩ h1
  simpa using h2

/-- The same, what is looked at lying in an older world's blocks. -/
theorem wp_region_mix0 (w0 : World) {id : Nat} {a : Act} {w : World} {l : List Oper} (hm : P.follows .mixedOrders = true) (hB : segOk l.toArray = true) (hE : Ext w0 w.drew)
    (h : wpMixL P l.toArray (fun w' => ∃ t, w' = ext w0 t) (Qt Q) l a w.drew) : (Code.region id l.toArray true).wp P Q a w := by
  refine Code.wp_mono (Q := Qt Q) (fun e a w h => by cases e <;> first | exact h | exact False.elim h) (wp_region_held (S := fun w' => ∃ t, w' = ext w0 t) hm ?_)
  have h1 := mix_of_list l 0 a _ (fun j => by simp) h
  have h2 := mix_sound hB (fun c a d v w h => h) (List.range' 0 l.length) (Array.replicate l.toArray.size false) a w.drew (by simp) List.pairwise_lt_range' (fun j => by
    simp only [List.mem_range'_1, List.size_toArray, Nat.zero_le, true_and, Nat.zero_add]
    constructor
    · intro hj; exact ⟨hj, by simp [hj]⟩
    · exact fun hj => hj.1) (show ∃ t, w.drew = ext w0 t from hE) h1
  simpa using h2

theorem mix_nil {a : Act} {w : World} (h : Q .normal a w) : wpMixL P ops S (Qt Q) [] a w := h
theorem mix_skip {o : Oper} {r : List Oper} {a : Act} {w : World} (hw : Region.wanted o (yielded ops a.tmps) = false) (h : wpMixL P ops S Q r (a.put o.dst undef) w) : wpMixL P ops S Q (o :: r) a w := by
  unfold wpMixL
  split
  · rw [if_neg (by rw [hw]; decide)]; exact h
  · exact ⟨_, .inr ⟨hw, rfl⟩, h⟩
theorem mix_mk {o : Oper} {r : List Oper} {a : Act} {w : World} (hk : isMk o.op = true) (hw : Region.wanted o (yielded ops a.tmps) = true) (h : ∀ K : Act → World → Prop, (∀ a' w', S w' → wpMixL P ops S Q r a' w' → K a' w') → o.wp P a w K Qn) : wpMixL P ops S Q (o :: r) a w := by
  unfold wpMixL
  rw [if_pos hk, if_pos hw]
  exact h _ fun a' w' h1 h2 => ⟨h1, h2⟩

theorem value_of_quiet {o : Oper} {a : Act} {v : Value} {w : World} (hk : isMk o.op = false) (h : o.quietAt P a S w v) : (execOp a.eval o).run P w = .ok (.value v) w := by
  unfold Oper.quietAt at h
  have key : ∀ s : Sem Value, execOp a.eval o = (do pure (.value (← s))) → (execOp a.eval o).run P w = .ok (.value v) w := fun s hs => by
    rw [hs] at h ⊢
    rw [Sem.run_bind] at h ⊢
    cases hr : s.run P w with
    | halt x w' => rw [hr] at h; simp only [Result.andThen] at h; exact False.elim h
    | ok u w' =>
      rw [hr] at h
      simp only [Result.andThen] at h ⊢
      have e : (pure (Next.value u) : Sem Next).run P w' = .ok (.value u) w' := rfl
      rw [e] at h ⊢
      obtain ⟨h1, h2⟩ := h
      rw [h1, h2]
  have key2 : ∀ u : Value, execOp a.eval o = pure (.value u) → (execOp a.eval o).run P w = .ok (.value v) w := fun u hs => by
    rw [hs] at h ⊢
    have e : (pure (Next.value u) : Sem Next).run P w = .ok (.value u) w := rfl
    rw [e] at h ⊢
    obtain ⟨h1, h2⟩ := h
    rw [h2]
  cases ho : o.op <;> rw [ho] at hk <;> simp only [isMk, Bool.true_eq_false] at hk
  case move => exact key2 _ (by unfold execOp; rw [ho])
  case assign => exact key2 _ (by unfold execOp; rw [ho])
  case pick c x y => exact key (do pure (if ← asBool (a.eval c) then a.eval x else a.eval y)) (by unfold execOp; rw [ho]; simp)
  case nilCheck x =>
    have pan : execOp a.eval o = runtimePanic .nilDeref → (execOp a.eval o).run P w = .ok (.value v) w := fun he => by
      rw [he] at h
      cases hr : (runtimePanic .nilDeref : Sem Next).run P w with
      | halt x w' => rw [hr] at h; exact False.elim h
      | ok y w' => exact absurd hr (by simp [runtimePanic, goPanic])
    have hx : execOp a.eval o = execOp a.eval o := rfl
    conv at hx => rhs; unfold execOp; rw [ho]
    simp only at hx
    split at hx
    · exact pan hx
    · exact pan hx
    · exact pan hx
    · split at hx
      · exact pan hx
      · rw [hx] at h ⊢
        simp only [Sem.run_bind] at h ⊢
        cases h1 : Sem.run P program w with
        | halt x w' => rw [h1] at h; exact False.elim h
        | ok p w1 =>
          rw [h1] at h
          simp only [Result.andThen] at h ⊢
          have e : ∀ (u : Value) (w' : World), (pure (Next.value u) : Sem Next).run P w' = .ok (.value u) w' := fun _ _ => rfl
          split at h
          · rename_i b w2 _
            by_cases hb : (b != some false) = true
            · rw [if_pos hb] at h ⊢
              simp only [Sem.run_bind] at h ⊢
              generalize Sem.run P (unsupported _ : Sem PUnit) w2 = r at h ⊢
              cases r with
              | halt x w' => exact False.elim h
              | ok y w' =>
                simp only [Result.andThen] at h ⊢
                rw [e] at h ⊢
                obtain ⟨g1, g2⟩ := h
                rw [g1, g2]
            · rw [if_neg hb] at h ⊢
              rw [e] at h ⊢
              obtain ⟨g1, g2⟩ := h
              rw [g1, g2]
          · exact False.elim h
      · exact key2 _ hx
    · exact key2 _ hx
  all_goals exact key _ (by unfold execOp; rw [ho])
theorem mix_pure {o : Oper} {r : List Oper} {a : Act} {w : World} (hk : isMk o.op = false) (h : wpQuiet P ops S (fun a' => wpMixL P ops S Q r a' w) [o] a) : wpMixL P ops S Q (o :: r) a w := by
  unfold wpMixL
  rw [if_neg (by rw [hk]; decide)]
  unfold wpQuiet at h
  split at h
  · rename_i hw
    obtain ⟨v, h1, h2⟩ := h
    exact ⟨v, .inl ⟨hw, fun w hS => value_of_quiet hk (h1 w hS)⟩, h2⟩
  · rename_i hw
    exact ⟨undef, .inr ⟨by simpa using hw, rfl⟩, h⟩
end
end Go.Proofs.Ytdogknbkcididaa
