/- A region that draws its order, in which one block is made at any time: the walk in the order of the text, that block being handed out ahead of the store into it. -/
import Derived.Test.YtdogknbkcididaaSeg
namespace Go.Proofs.Ytdogknbkcididaa
open Go.RowKit
set_option linter.unusedSimpArgs false
set_option linter.unusedVariables false

/-- The pairwise conditions; z: the block that is made at any time; N: the store that waits for all ahead, and for which all behind wait. -/
def gapOk (ops : Array Oper) (z N : Nat) : Bool :=
  Region.noSelect ops && decide (z < N) && decide (N < ops.size) &&
  ((ops[z]?).map fun oz => oz.after.all fun e => !Region.binds .any e).getD false &&
  ((ops[N]?).map fun oN => isMk oN.op && waits oN z && (List.range N).all fun j => waits oN j || ((ops[j]?).map fun oj => !isMk oj.op).getD false).getD false &&
  (List.range ops.size).all fun j => match ops[j]? with
    | none => false
    | some oj => (oj.after.all fun e => !Region.binds .any e || decide (e.on < j)) &&
      (bif decide (N < j) then waits oj N else true) &&
      (bif decide (j < N) && j != z then ((ops[z]?).map fun oz => oz.apart ops oj && oj.apart ops oz && !waits oj z).getD false else true) &&
      (List.range j).all fun i => match ops[i]? with
        | none => false
        | some oi => bif i == z || j == z then true else segPair ops oi oj i
section
variable {P : Program} {ops : Array Oper} {Q : Exit → Act → World → Prop} {base : World} {z N : Nat} {oz oN : Oper}

theorem gapOk_spec (h : gapOk ops z N = true) : Region.noSelect ops = true ∧ z < N ∧ N < ops.size ∧ (∀ oz, ops[z]? = some oz → ∀ e ∈ oz.after, Region.binds .any e = false) ∧
    (∀ oN, ops[N]? = some oN → isMk oN.op = true ∧ waits oN z = true ∧ ∀ j oj, j < N → ops[j]? = some oj → isMk oj.op = true → waits oN j = true) ∧
    (∀ j oj, ops[j]? = some oj → (∀ e ∈ oj.after, Region.binds .any e = true → e.on < j) ∧ (N < j → waits oj N = true) ∧
      (j < N → j ≠ z → ∀ oz, ops[z]? = some oz → oz.apart ops oj = true ∧ oj.apart ops oz = true ∧ waits oj z = false) ∧
      ∀ i oi, i < j → ops[i]? = some oi → i ≠ z → j ≠ z → segPair ops oi oj i = true) := by
  simp only [gapOk, Bool.and_eq_true, decide_eq_true_eq, List.all_eq_true, List.mem_range] at h
  obtain ⟨⟨⟨⟨⟨h1, h2⟩, h3⟩, h4⟩, h5⟩, h6⟩ := h
  refine ⟨h1, h2, h3, fun oz hz e he => ?_, fun oN hN => ?_, fun j oj hj => ?_⟩
  · rw [hz] at h4
    simp only [Option.map_some, Option.getD_some, Array.all_eq_true_iff_forall_mem, Bool.not_eq_true'] at h4
    exact h4 e he
  · rw [hN] at h5
    simp only [Option.map_some, Option.getD_some, Bool.and_eq_true, List.all_eq_true, List.mem_range] at h5
    refine ⟨h5.1.1, h5.1.2, fun j oj hj hoj hm => ?_⟩
    have := h5.2 j hj
    rw [hoj] at this
    simpa [hm] using this
  · have hlt : j < ops.size := (Array.getElem?_eq_some_iff.1 hj).1
    have h7 := h6 j hlt
    simp only [hj, Bool.and_eq_true, Array.all_eq_true_iff_forall_mem, List.all_eq_true, List.mem_range] at h7
    obtain ⟨⟨⟨q1, q2⟩, q3⟩, q4⟩ := h7
    refine ⟨fun e he hb => ?_, fun hN => ?_, fun hjN hjz oz hz => ?_, fun i oi hi hoi hiz hjz => ?_⟩
    · have := q1 e he
      rw [hb] at this
      simpa using this
    · simpa [hN] using q2
    · have hne : (j != z) = true := by simpa using hjz
      simp only [hjN, decide_true, hne, Bool.and_self, cond_true, hz, Option.map_some, Option.getD_some, Bool.and_eq_true, Bool.not_eq_true'] at q3
      exact ⟨q3.1.1, q3.1.2, q3.2⟩
    · have := q4 i hi
      simp only [hoi] at this
      have e1 : (i == z) = false := by simpa using hiz
      have e2 : (j == z) = false := by simpa using hjz
      simpa [e1, e2] using this

/-- What an operation of the walk does behind the gap. -/
def wpGap (P : Program) (ops : Array Oper) (base : World) (K : List (Nat × Nat) → Act → World → Prop) : List Nat → List (Nat × Nat) → Act → World → Prop
  | [], iv, a, w => K iv a w
  | i :: r, iv, a, w => match ops[i]? with
    | none => False
    | some o => if isMk o.op then (if Region.wanted o (yielded ops a.tmps) then ∀ W, Ext w W → o.wp P a W (fun a' w' => Ext W w' ∧ wpGap P ops base K r ((W.heap.size, w'.heap.size) :: iv) a' w') Qn else wpGap P ops base K r iv (a.put o.dst undef) w)
      else ∃ v, YieldsIf P ops (fun w' => Ext base w') o v a ∧ wpGap P ops base K r iv (a.put o.dst v) w

theorem wp_Qn' {o : Oper} {a : Act} {w : World} {K K' : Act → World → Prop} (h : ∀ a w, K a w → K' a w) (hh : o.wp P a w K Qn) : o.wp P a w K' Qn := wp_Qn h hh

variable {K : List (Nat × Nat) → Act → World → Prop}
theorem gap_mono (hK : ∀ iv a w W, K iv a w → Ext w W → K iv a W) : ∀ (l : List Nat) (iv : List (Nat × Nat)) (a : Act) (w W : World), wpGap P ops base K l iv a w → Ext w W → wpGap P ops base K l iv a W
  | [], iv, a, w, W, h, hE => hK iv a w W h hE
  | i :: r, iv, a, w, W, h, hE => by
    simp only [wpGap] at h ⊢
    split
    · rename_i hn; rw [hn] at h; exact h
    · rename_i o ho
      rw [ho] at h
      simp only at h
      split
      · rename_i hm
        rw [if_pos hm] at h
        split
        · rename_i hw
          rw [if_pos hw] at h
          exact fun W' hE' => h W' (hE.trans hE')
        · rename_i hw
          rw [if_neg hw] at h
          exact gap_mono hK r iv _ w W h hE
      · rename_i hm
        rw [if_neg hm] at h
        obtain ⟨v, hy, h⟩ := h
        exact ⟨v, hy, gap_mono hK r iv _ w W h hE⟩

theorem gap_hoist (hs : Region.noSelect ops = true) {i : Nat} {oi : Oper} (hi : ops[i]? = some oi) (hp : isMk oi.op = false) : ∀ (pre post : List Nat) (iv : List (Nat × Nat)) (a : Act) (w : World), Ext base w →
    (∀ k ∈ pre, ∃ ok, ops[k]? = some ok ∧ oi.apart ops ok = true) → wpGap P ops base K (pre ++ i :: post) iv a w →
    ∃ v, YieldsIf P ops (fun w' => Ext base w') oi v a ∧ wpGap P ops base K (pre ++ post) iv (a.put oi.dst v) w
  | [], post, iv, a, w, _, _, h => by
    simp only [List.nil_append, wpGap, hi, hp, Bool.false_eq_true, if_false] at h
    exact h
  | k :: pre, post, iv, a, w, hw, hap, h => by
    obtain ⟨ok, hok, hapk⟩ := hap k (by simp)
    have hap' : ∀ k ∈ pre, ∃ ok, ops[k]? = some ok ∧ oi.apart ops ok = true := fun k hk => hap k (by simp [hk])
    obtain ⟨h1, h2, h3⟩ := Oper.apart_spec hapk
    have hsi := fun cs b => Region.noSelect_spec hs i oi cs b hi
    have hsk := fun cs b => Region.noSelect_spec hs k ok cs b hok
    have back : ∀ (a : Act) (u v : Value), YieldsIf P ops (fun w' => Ext base w') oi v (a.put ok.dst u) → YieldsIf P ops (fun w' => Ext base w') oi v a := fun a u v hy =>
      hy.of_same (execOp_put oi hsi a ok.dst u h3).symm (wanted_put oi a ok.dst u h3).symm
    have backD : ∀ (a : Act) (d : Deferred) (v : Value), YieldsIf P ops (fun w' => Ext base w') oi v { a with defers := d :: a.defers } → YieldsIf P ops (fun w' => Ext base w') oi v a := fun a d v hy => hy.of_same rfl rfl
    simp only [List.cons_append, wpGap, hok] at h ⊢
    by_cases hm : isMk ok.op = true
    · simp only [hm, if_true] at h ⊢
      by_cases hwt : Region.wanted ok (yielded ops a.tmps) = true
      · simp only [hwt, if_true] at h
        have hwt' : ∀ v, Region.wanted ok (yielded ops (a.put oi.dst v).tmps) = true := fun v => (wanted_put ok a oi.dst v h1).trans hwt
        have hex : ∀ v, execOp (a.put oi.dst v).eval ok = execOp a.eval ok := fun v => execOp_put ok hsk a oi.dst v h1
        -- one world
        have one : ∀ W, Ext w W → ∃ v, YieldsIf P ops (fun w' => Ext base w') oi v a ∧ ok.wp P (a.put oi.dst v) W (fun a' w' => Ext W w' ∧ wpGap P ops base K (pre ++ post) ((W.heap.size, w'.heap.size) :: iv) a' w') Qn := by
          intro W hE
          have hW : Ext base W := hw.trans hE
          have h := h W hE
          have step : ∀ (a' : Act) (w' : World), Ext W w' → wpGap P ops base K (pre ++ i :: post) ((W.heap.size, w'.heap.size) :: iv) a' w' → ∃ v, YieldsIf P ops (fun w' => Ext base w') oi v a' ∧ wpGap P ops base K (pre ++ post) ((W.heap.size, w'.heap.size) :: iv) (a'.put oi.dst v) w' := fun a' w' hs' hh => gap_hoist hs hi hp pre post _ a' w' (hW.trans hs') hap' hh
          have move : ∀ (u v : Value) (w' : World), YieldsIf P ops (fun w' => Ext base w') oi v a → Ext W w' ∧ wpGap P ops base K (pre ++ i :: post) ((W.heap.size, w'.heap.size) :: iv) (a.put ok.dst u) w' → Ext W w' ∧ wpGap P ops base K (pre ++ post) ((W.heap.size, w'.heap.size) :: iv) ((a.put oi.dst v).put ok.dst u) w' := fun u v w' hv ⟨hs', hh⟩ => by
            obtain ⟨v', hy', hh'⟩ := step _ _ hs' hh
            obtain rfl := yields_unique (S := fun w' => Ext base w') hW hv (back a u v' hy')
            exact ⟨hs', by rw [Act.put_comm a v u h2]; exact hh'⟩
          unfold Oper.wp at h ⊢
          simp only [hex]
          generalize (execOp a.eval ok).run P W = r at *
          cases r with
          | halt x w' => cases x <;> simp only [Oper.upon] at h; exact False.elim h
          | ok n w' =>
            cases n <;> simp only [Oper.upon] at h ⊢
            case value u =>
              obtain ⟨v, hy, _⟩ := step _ _ h.1 h.2
              exact ⟨v, back a u v hy, move u v w' (back a u v hy) h⟩
            case skip =>
              obtain ⟨v, hy, _⟩ := step _ _ h.1 h.2
              exact ⟨v, back a _ v hy, move _ v w' (back a _ v hy) h⟩
            case defer d =>
              obtain ⟨v, hy, hh⟩ := step _ _ h.1 h.2
              have hy' := backD a d v (back _ _ v hy)
              refine ⟨v, hy', h.1, ?_⟩
              rw [Act.put_defers, Act.put_comm _ v undef h2]
              exact hh
            case enter f args =>
              obtain ⟨e, w'', fr, hR, _⟩ := id h []
              cases e with
              | panicked c => exact False.elim hR
              | outgrown => exact False.elim (no_out hR)
              | returned u =>
                obtain ⟨v, hy, _⟩ := step _ _ hR.1 hR.2
                have hv := back a u v hy
                refine ⟨v, hv, Calls.mono h fun e w3 he => ?_⟩
                cases e with
                | panicked c => exact he
                | outgrown => exact he
                | returned u' => exact move u' v w3 hv he
            case row row args =>
              obtain ⟨u, w'', hR, _⟩ := id h default []
              obtain ⟨v, hy, _⟩ := step _ _ hR.1 hR.2
              have hv := back a u v hy
              exact ⟨v, hv, Rows.mono h fun u' w3 he => move u' v w3 hv he⟩
        obtain ⟨v, hv, _⟩ := one w (Ext.refl w)
        refine ⟨v, hv, ?_⟩
        rw [if_pos (hwt' v)]
        intro W hE
        obtain ⟨v', hv', hh⟩ := one W hE
        obtain rfl := yields_unique (S := fun w' => Ext base w') hw hv hv'
        exact hh
      · simp only [hwt] at h
        obtain ⟨v, hy, hh⟩ := gap_hoist hs hi hp pre post iv _ w hw hap' h
        have hv := back a _ v hy
        refine ⟨v, hv, ?_⟩
        rw [wanted_put ok a oi.dst v h1, if_neg hwt, Act.put_comm a v undef h2]
        exact hh
    · simp only [hm] at h ⊢
      obtain ⟨u, hu, h⟩ := h
      obtain ⟨v, hy, hh⟩ := gap_hoist hs hi hp pre post iv _ w hw hap' h
      have hv := back a u v hy
      refine ⟨v, hv, u, hu.of_same (execOp_put ok hsk a oi.dst v h1) (wanted_put ok a oi.dst v h1), ?_⟩
      rw [Act.put_comm a v u h2]
      exact hh

/-- Behind the store: what is left comes in one order. -/
theorem tail_sound (hB : gapOk ops z N = true) (S : World → Prop) (hQ : ∀ c a d (v : Value) w, Q (.panic c) (Act.put a d v) w → Q (.panic c) a w) : ∀ (rem : List Nat) (listed : Array Bool) (a : Act) (w : World), listed.size = ops.size →
    rem.Pairwise (· < ·) → (∀ j ∈ rem, N < j) → (∀ j, j ∈ rem ↔ j < ops.size ∧ listed.getD j true = false) → S w → wpMix P ops S Q rem a w → wpAnyH P .any ops Q S rem.length listed a w := by
  obtain ⟨hs, hzN, hNs, _, _, hall⟩ := gapOk_spec hB
  intro rem
  generalize hn : rem.length = n
  induction n generalizing rem with
  | zero =>
    intro listed a w hsz hpw _ hmem hS h
    obtain rfl := List.eq_nil_of_length_eq_zero hn
    refine ⟨?_, h⟩
    rw [List.eq_nil_iff_forall_not_mem]
    intro j hj
    obtain ⟨h0, o, ho, _⟩ := mem_ready.1 hj
    exact absurd ((hmem j).2 ⟨(Array.getElem?_eq_some_iff.1 ho).1, h0⟩) (by simp)
  | succ n ih =>
    intro listed a w hsz hpw hgt hmem hS h
    have inrem : ∀ j, j ∈ Region.ready .any ops listed → j ∈ rem := fun j hj => by
      obtain ⟨h0, o, ho, _⟩ := mem_ready.1 hj
      exact (hmem j).2 ⟨(Array.getElem?_eq_some_iff.1 ho).1, h0⟩
    have nz : ∀ j ∈ rem, j ≠ z := fun j hj => by have := hgt j hj; omega
    have nowait : ∀ i j oi, ops[i]? = some oi → i ∈ Region.ready .any ops listed → listed.getD j true = false → waits oi j = false := fun i j oi hi hr hj => by
      obtain ⟨_, o, ho, hall⟩ := mem_ready.1 hr
      rw [hi] at ho; obtain rfl := Option.some.inj ho
      cases hwt : waits oi j with
      | false => rfl
      | true =>
        simp only [waits, Array.any_eq_true, Bool.and_eq_true, beq_iff_eq] at hwt
        obtain ⟨q, hq, hb, he⟩ := hwt
        have := hall _ (Array.getElem_mem hq) hb
        rw [he] at this
        rcases Nat.lt_or_ge j listed.size with h' | h'
        · simp [h'] at hj this; rw [hj] at this; cases this
        · simp [Array.getElem?_eq_none h'] at this
    have after : ∀ (i : Nat), i ∈ rem → ∀ (pre post : List Nat), rem = pre ++ i :: post → (∀ j, j ∈ pre ++ post ↔ j < ops.size ∧ (listed.setIfInBounds i true).getD j true = false) ∧ (pre ++ post).Pairwise (· < ·) ∧ (pre ++ post).length = n := fun i hi pre post he => by
      subst he
      have hpp := List.pairwise_append.1 hpw
      obtain ⟨hp1, hp2, hp3⟩ := hpp
      obtain ⟨hp4, hp5⟩ := List.pairwise_cons.1 hp2
      refine ⟨fun j => ?_, ?_, by simp at hn ⊢; omega⟩
      · have hij : i < listed.size := by have := ((hmem i).1 hi).1; omega
        by_cases e : i = j
        · subst e
          constructor
          · intro hj
            rcases List.mem_append.1 hj with hj | hj
            · have := hp3 _ hj i (by simp); omega
            · have := hp4 _ hj; omega
          · rintro ⟨_, hj⟩
            simp [hij] at hj
        · rw [getD_set_ne true e, ← hmem j]
          simp only [List.mem_append, List.mem_cons]
          constructor
          · rintro (hj | hj)
            · exact .inl hj
            · exact .inr (.inr hj)
          · rintro (hj | hj | hj)
            · exact .inl hj
            · exact absurd hj.symm e
            · exact .inr hj
      · exact List.pairwise_append.2 ⟨hp1, hp5, fun x hx y hy => hp3 x hx y (by simp [hy])⟩
    by_cases hp : ∃ i oi, i ∈ Region.ready .any ops listed ∧ ops[i]? = some oi ∧ isMk oi.op = false
    · obtain ⟨i, oi, hr, hi, hpure⟩ := hp
      have him := inrem i hr
      obtain ⟨pre, post, he⟩ := List.append_of_mem him
      obtain ⟨q1, q2, q3⟩ := after i him pre post he
      have hlt : ∀ k ∈ pre, k < i := fun k hk => by
        rw [he] at hpw
        exact (List.pairwise_append.1 hpw).2.2 k hk i (by simp)
      have hfree : ∀ j oj, ops[j]? = some oj → j ≠ i → listed.getD j true = false → waits oj i = false → oi.apart ops oj = true := fun j oj hj hne hun hno => by
        have hjr := (hmem j).2 ⟨(Array.getElem?_eq_some_iff.1 hj).1, hun⟩
        rcases Nat.lt_or_ge j i with hji | hji
        · exact segPair_r ((hall i oi hi).2.2.2 j oj hji hj (nz j hjr) (nz i him)) hpure (nowait i j oi hi hr hun)
        · exact segPair_l ((hall j oj hj).2.2.2 i oi (by omega) hi (nz i him) (nz j hjr)) hpure hno
      rw [he] at h
      obtain ⟨v, hy, hh⟩ := mix_hoist hs hi hpure pre post a w hS (fun k hk => by
        have hkm : k ∈ rem := by rw [he]; simp [hk]
        obtain ⟨k1, k2⟩ := (hmem k).1 hkm
        obtain ⟨ok, hok⟩ : ∃ ok, ops[k]? = some ok := ⟨_, Array.getElem?_eq_getElem k1⟩
        have hki := hlt k hk
        refine ⟨ok, hok, hfree k ok hok (by omega) k2 ?_⟩
        cases hwt : waits ok i with
        | false => rfl
        | true =>
          simp only [waits, Array.any_eq_true, Bool.and_eq_true, beq_iff_eq] at hwt
          obtain ⟨q, hq, hb, he'⟩ := hwt
          have := (hall k ok hok).1 _ (Array.getElem_mem hq) hb
          omega) h
      refine wpAnyH_first hi (Region.noSelect_spec hs) (fun c a w => hQ c a _ _ w) n listed a w (fun j oj hj hne hun hno => hfree j oj hj hne hun ?_) hr hy hS ?_
      · cases hwt : waits oj i with
        | false => rfl
        | true =>
          simp only [waits, Array.any_eq_true, Bool.and_eq_true, beq_iff_eq] at hwt
          obtain ⟨q, hq, hb, he'⟩ := hwt
          exact absurd he' (hno _ (Array.getElem_mem hq) hb)
      · exact ih (pre ++ post) q3 _ _ _ (by simp [hsz]) q2 (fun j hj => hgt j (by rw [he]; rcases List.mem_append.1 hj with h' | h' <;> simp [h'])) q1 hS hh
    · cases rem with
      | nil => simp at hn
      | cons k rest =>
        obtain ⟨k1, k2⟩ := (hmem k).1 (by simp)
        obtain ⟨ok, hok⟩ : ∃ ok, ops[k]? = some ok := ⟨_, Array.getElem?_eq_getElem k1⟩
        obtain ⟨hpk, hpr⟩ := List.pairwise_cons.1 hpw
        have hkr : k ∈ Region.ready .any ops listed := by
          refine mem_ready.2 ⟨k2, ok, hok, fun e he hb => ?_⟩
          have hlt := (hall k ok hok).1 e he hb
          cases hl : listed.getD e.on true with
          | true =>
            have : e.on < listed.size := by omega
            simp [this] at hl ⊢; exact hl
          | false =>
            have := (hmem e.on).2 ⟨by omega, hl⟩
            rcases List.mem_cons.1 this with h' | h'
            · omega
            · have := hpk _ h'; omega
        have hmk : isMk ok.op = true := by
          cases hm : isMk ok.op with
          | true => rfl
          | false => exact absurd ⟨k, ok, hkr, hok, hm⟩ hp
        have only : ∀ j, j ∈ Region.ready .any ops listed → j = k := fun j hj => by
          rcases List.mem_cons.1 (inrem j hj) with h' | h'
          · exact h'
          · exfalso
            have hkj := hpk j h'
            obtain ⟨_, oj, hoj, _⟩ := mem_ready.1 hj
            have hmj : isMk oj.op = true := by
              cases hm : isMk oj.op with
              | true => rfl
              | false => exact absurd ⟨j, oj, hj, hoj, hm⟩ hp
            have := segPair_mk ((hall j oj hoj).2.2.2 k ok hkj hok (nz k (by simp)) (nz j (by simp [h']))) hmk hmj
            rw [nowait j k oj hoj hj k2] at this
            cases this
        obtain ⟨q1, q2, q3⟩ := after k (by simp) [] rest rfl
        simp only [List.nil_append] at q1 q2 q3
        refine ⟨fun h0 => (by rw [h0] at hkr; cases hkr), fun j hj => ?_⟩
        obtain rfl := only j hj
        simp only [wpMix, hok, hmk, if_true] at h
        unfold wpOp
        simp only [hok]
        split
        · rename_i hw
          simp only [hw, if_true] at h
          exact .inl (wp_Qn (fun a' w' ⟨h1, h2⟩ => ⟨h1, ih rest q3 _ _ _ (by simp [hsz]) q2 (fun j hj => hgt j (by simp [hj])) q1 h1 h2⟩) h)
        · rename_i hw
          simp only [hw] at h
          exact ⟨hS, ih rest q3 _ _ _ (by simp [hsz]) q2 (fun j hj => hgt j (by simp [hj])) q1 hS h⟩

theorem wp_put_other {o : Oper} {d : Option Tmp} {v : Value} {a : Act} {w : World} {R : Act → World → Prop} (hsel : ∀ cs b, o.op ≠ .select cs b) (h1 : ∀ t, d = some t → t ∉ o.looksAt ops) (h2 : ∀ t, d = some t → o.dst ≠ some t)
    (h : o.wp P a w (fun a' w' => R (a'.put d v) w') Qn) : o.wp P (a.put d v) w R Qn := by
  unfold Oper.wp at h ⊢
  rw [execOp_put o hsel a d v h1]
  generalize (execOp a.eval o).run P w = r at *
  cases r with
  | halt x w' => cases x <;> simp only [Oper.upon] at h ⊢; exact False.elim h
  | ok n w' =>
    cases n <;> simp only [Oper.upon] at h ⊢
    case value u => rw [Act.put_comm a v u h2]; exact h
    case skip => rw [Act.put_comm a v undef h2]; exact h
    case defer x =>
      rw [Act.put_defers, Act.put_comm _ v undef h2]
      exact h
    case enter f args =>
      refine Calls.mono h fun e w3 he => ?_
      cases e with
      | panicked c => exact he
      | outgrown => exact he
      | returned u => simp only at he ⊢; rw [Act.put_comm a v u h2]; exact he
    case row row args => exact Rows.mono h fun u w3 he => by rw [Act.put_comm a v u h2]; exact he

def ptrTo (p : Nat) : Value := .pointer (some ⟨p, 0, none⟩)
def azPut (d : Option Tmp) (az : Option Nat) (a : Act) : Act := match az with
  | none => a
  | some p => a.put d (ptrTo p)
/-- The store, with the block that was made at any time handed out. -/
def gapK (P : Program) (ops : Array Oper) (Q : Exit → Act → World → Prop) (base : World) (N : Nat) (oz oN : Oper) (zobj : Obj) (iv : List (Nat × Nat)) (a : Act) (w : World) : Prop :=
  ∀ W p, Ext w W → Ext base W → base.heap.size ≤ p → W.heap[p]? = some zobj → (∀ q ∈ iv, p < q.1 ∨ q.2 ≤ p) →
    oN.wp P (a.put oz.dst (ptrTo p)) W (fun a' w' => Ext base w' ∧ wpMix P ops (fun w' => Ext base w') Q (List.range' (N + 1) (ops.size - (N + 1))) a' w') Qn
theorem gapK_mono {zobj : Obj} (iv : List (Nat × Nat)) (a : Act) (w W : World) (h : gapK P ops Q base N oz oN zobj iv a w) (hE : Ext w W) : gapK P ops Q base N oz oN zobj iv a W :=
  fun W' p hE' => h W' p (hE.trans hE')

theorem gap_sound {zobj : Obj} (hB : gapOk ops z N = true) (hz : ops[z]? = some oz) (hN : ops[N]? = some oN) (hgz : oz.guard = none) (hgN : oN.guard = none) (hmz : isMk oz.op = true)
    (hrun : ∀ (a : Act) (w : World), (execOp a.eval oz).run P w = .ok (.value (ptrTo w.heap.size)) (w.alloc zobj)) (hQ : ∀ c a d (v : Value) w, Q (.panic c) (Act.put a d v) w → Q (.panic c) a w) :
    ∀ (n : Nat) (rem : List Nat) (listed : Array Bool) (a : Act) (az : Option Nat) (iv : List (Nat × Nat)) (w : World), listed.size = ops.size → rem.Pairwise (· < ·) → n = rem.length + (if az.isNone then 1 else 0) →
      (∀ j, j ∈ rem ↔ j < N ∧ j ≠ z ∧ listed.getD j true = false) → listed.getD z true = az.isSome → (∀ j, N ≤ j → j < ops.size → listed.getD j true = false) → Ext base w → (∀ q ∈ iv, q.2 ≤ w.heap.size) →
      (∀ p, az = some p → base.heap.size ≤ p ∧ w.heap[p]? = some zobj ∧ ∀ q ∈ iv, p < q.1 ∨ q.2 ≤ p) → wpGap P ops base (gapK P ops Q base N oz oN zobj) rem iv a w →
      wpAnyH P .any ops Q (fun w' => Ext base w') (n + (ops.size - N)) listed (azPut oz.dst az a) w := by
  obtain ⟨hs, hzN, hNs, hzf, hNw, hall⟩ := gapOk_spec hB
  have wantz : ∀ y, Region.wanted oz y = true := fun y => by simp [Region.wanted, hgz]
  have wantN : ∀ y, Region.wanted oN y = true := fun y => by simp [Region.wanted, hgN]
  intro n
  induction n with
  | zero =>
    intro rem listed a az iv w hsz hpw hn hmem hlz hge hE hiv haz h
    obtain rfl : rem = [] := List.eq_nil_of_length_eq_zero (by omega)
    cases az with
    | none => simp at hn
    | some p =>
      have nowait : ∀ i j oi, ops[i]? = some oi → i ∈ Region.ready .any ops listed → listed.getD j true = false → waits oi j = false := fun i j oi hi hr hj => by
        obtain ⟨_, o, ho, hall⟩ := mem_ready.1 hr
        rw [hi] at ho; obtain rfl := Option.some.inj ho
        cases hwt : waits oi j with
        | false => rfl
        | true =>
          simp only [waits, Array.any_eq_true, Bool.and_eq_true, beq_iff_eq] at hwt
          obtain ⟨q, hq, hb, he⟩ := hwt
          have := hall _ (Array.getElem_mem hq) hb
          rw [he] at this
          rcases Nat.lt_or_ge j listed.size with h' | h'
          · simp [h'] at hj this; rw [hj] at this; cases this
          · simp [Array.getElem?_eq_none h'] at this
      have lst : ∀ j, j < N → listed.getD j true = true := fun j hj => by
        by_cases e : j = z
        · subst e; rw [hlz]; rfl
        · cases hl : listed.getD j true with
          | true => rfl
          | false => exact absurd ((hmem j).2 ⟨hj, e, hl⟩) (by simp)
      have hNr : N ∈ Region.ready .any ops listed := by
        refine mem_ready.2 ⟨hge N (Nat.le_refl _) hNs, oN, hN, fun e he hb => ?_⟩
        have hlt := (hall N oN hN).1 e he hb
        have h1 := lst e.on hlt
        have : e.on < listed.size := by omega
        simp [this] at h1 ⊢; exact h1
      have only : ∀ j, j ∈ Region.ready .any ops listed → j = N := fun j hj => by
        obtain ⟨h0, oj, hoj, _⟩ := mem_ready.1 hj
        have hjs := (Array.getElem?_eq_some_iff.1 hoj).1
        rcases Nat.lt_trichotomy j N with h' | h' | h'
        · rw [lst j h'] at h0; cases h0
        · exact h'
        · have h1 := (hall j oj hoj).2.1 h'
          rw [nowait j N oj hoj hj (hge N (Nat.le_refl _) hNs)] at h1
          cases h1
      rw [show 0 + (ops.size - N) = (ops.size - (N + 1)) + 1 by omega]
      refine ⟨fun h0 => (by rw [h0] at hNr; cases hNr), fun j hj => ?_⟩
      obtain rfl := only j hj
      obtain ⟨hp1, hp2, hp3⟩ := haz p rfl
      have h1 := h w p (Ext.refl w) hE hp1 hp2 hp3
      unfold wpOp
      simp only [hN, wantN, if_true]
      refine .inl (wp_Qn (fun a' w' ⟨q1, q2⟩ => ⟨q1, ?_⟩) h1)
      have h2 := tail_sound hB (fun w' => Ext base w') hQ (List.range' (j + 1) (ops.size - (j + 1))) (listed.setIfInBounds j true) a' w' (by simp [hsz]) List.pairwise_lt_range' (fun k hk => by simp only [List.mem_range'_1] at hk; omega) (fun k => by
        simp only [List.mem_range'_1]
        constructor
        · intro hk
          refine ⟨by omega, ?_⟩
          rw [getD_set_ne true (by omega)]
          exact hge k (by omega) (by omega)
        · rintro ⟨k1, k2⟩
          refine ⟨?_, by omega⟩
          rcases Nat.lt_trichotomy k j with h' | h' | h'
          · rw [getD_set_ne true (by omega), lst k h'] at k2; cases k2
          · subst h'
            have : k < listed.size := by omega
            simp [this] at k2
          · omega) q1 q2
      simpa using h2
  | succ n ih =>
    intro rem listed a az iv w hsz hpw hn hmem hlz hge hE hiv haz h
    have nowait : ∀ i j oi, ops[i]? = some oi → i ∈ Region.ready .any ops listed → listed.getD j true = false → waits oi j = false := fun i j oi hi hr hj => by
      obtain ⟨_, o, ho, hall⟩ := mem_ready.1 hr
      rw [hi] at ho; obtain rfl := Option.some.inj ho
      cases hwt : waits oi j with
      | false => rfl
      | true =>
        simp only [waits, Array.any_eq_true, Bool.and_eq_true, beq_iff_eq] at hwt
        obtain ⟨q, hq, hb, he⟩ := hwt
        have := hall _ (Array.getElem_mem hq) hb
        rw [he] at this
        rcases Nat.lt_or_ge j listed.size with h' | h'
        · simp [h'] at hj this; rw [hj] at this; cases this
        · simp [Array.getElem?_eq_none h'] at this
    have low : ∀ j, j ∈ Region.ready .any ops listed → j = z ∨ j ∈ rem ∨ j = N := fun j hj => by
      obtain ⟨h0, oj, hoj, _⟩ := mem_ready.1 hj
      rcases Nat.lt_trichotomy j N with h' | h' | h'
      · by_cases e : j = z
        · exact .inl e
        · exact .inr (.inl ((hmem j).2 ⟨h', e, h0⟩))
      · exact .inr (.inr h')
      · have h1 := (hall j oj hoj).2.1 h'
        rw [nowait j N oj hoj hj (hge N (Nat.le_refl _) hNs)] at h1
        cases h1
    have headmk : (¬ ∃ i oi, i ∈ Region.ready .any ops listed ∧ ops[i]? = some oi ∧ isMk oi.op = false) → ∀ p k rest, az = some p → rem = k :: rest → ∃ ok, ops[k]? = some ok ∧ isMk ok.op = true := fun hp p k rest haz1 hrem => by
      obtain ⟨k1, k0, k2⟩ := (hmem k).1 (by rw [hrem]; simp)
      obtain ⟨ok, hok⟩ : ∃ ok, ops[k]? = some ok := ⟨_, Array.getElem?_eq_getElem (by omega)⟩
      refine ⟨ok, hok, ?_⟩
      cases hm : isMk ok.op with
      | true => rfl
      | false =>
        exfalso
        refine hp ⟨k, ok, mem_ready.2 ⟨k2, ok, hok, fun e he hb => ?_⟩, hok, hm⟩
        have hlt := (hall k ok hok).1 e he hb
        rw [hrem] at hpw
        obtain ⟨hpk, _⟩ := List.pairwise_cons.1 hpw
        cases hl : listed.getD e.on true with
        | true =>
          have : e.on < listed.size := by omega
          simp [this] at hl ⊢; exact hl
        | false =>
          by_cases ez : e.on = z
          · rw [ez, hlz, haz1] at hl; cases hl
          · have := (hmem e.on).2 ⟨by omega, ez, hl⟩
            rw [hrem] at this
            rcases List.mem_cons.1 this with h' | h'
            · omega
            · have := hpk _ h'; omega
    have after : ∀ (i : Nat), i ∈ rem → ∀ (pre post : List Nat), rem = pre ++ i :: post → (∀ j, j ∈ pre ++ post ↔ j < N ∧ j ≠ z ∧ (listed.setIfInBounds i true).getD j true = false) ∧ (pre ++ post).Pairwise (· < ·) ∧ (pre ++ post).length + 1 = rem.length ∧ (listed.setIfInBounds i true).getD z true = az.isSome ∧ (∀ j, N ≤ j → j < ops.size → (listed.setIfInBounds i true).getD j true = false) := fun i hi pre post he => by
      have hi1 := (hmem i).1 hi
      subst he
      have hpp := List.pairwise_append.1 hpw
      obtain ⟨hp1, hp2, hp3⟩ := hpp
      obtain ⟨hp4, hp5⟩ := List.pairwise_cons.1 hp2
      refine ⟨fun j => ?_, ?_, by simp; omega, ?_, fun j h1 h2 => ?_⟩
      · have hij : i < listed.size := by omega
        by_cases e : i = j
        · subst e
          constructor
          · intro hj
            rcases List.mem_append.1 hj with hj | hj
            · have := hp3 _ hj i (by simp); omega
            · have := hp4 _ hj; omega
          · rintro ⟨_, _, hj⟩
            simp [hij] at hj
        · rw [getD_set_ne true e, ← hmem j]
          simp only [List.mem_append, List.mem_cons]
          constructor
          · rintro (hj | hj)
            · exact .inl hj
            · exact .inr (.inr hj)
          · rintro (hj | hj | hj)
            · exact .inl hj
            · exact absurd hj.symm e
            · exact .inr hj
      · exact List.pairwise_append.2 ⟨hp1, hp5, fun x hx y hy => hp3 x hx y (by simp [hy])⟩
      · rw [getD_set_ne true (by omega)]; exact hlz
      · rw [getD_set_ne true (by omega)]; exact hge j h1 h2
    rw [show n + 1 + (ops.size - N) = (n + (ops.size - N)) + 1 by omega]
    by_cases hp : ∃ i oi, i ∈ Region.ready .any ops listed ∧ ops[i]? = some oi ∧ isMk oi.op = false
    · obtain ⟨i, oi, hr, hi, hpure⟩ := hp
      have him : i ∈ rem := by
        rcases low i hr with e | e | e
        · subst e; rw [hz] at hi; obtain rfl := Option.some.inj hi; rw [hmz] at hpure; cases hpure
        · exact e
        · subst e; rw [hN] at hi; obtain rfl := Option.some.inj hi; rw [(hNw oN hN).1] at hpure; cases hpure
      have hi1 := (hmem i).1 him
      obtain ⟨pre, post, he⟩ := List.append_of_mem him
      obtain ⟨q1, q2, q3, q4, q5⟩ := after i him pre post he
      have hlt : ∀ k ∈ pre, k < i := fun k hk => by
        rw [he] at hpw
        exact (List.pairwise_append.1 hpw).2.2 k hk i (by simp)
      obtain ⟨apz1, apz2, _⟩ := (hall i oi hi).2.2.1 hi1.1 hi1.2.1 oz hz
      have hfree : ∀ j oj, ops[j]? = some oj → j ≠ i → listed.getD j true = false → waits oj i = false → oi.apart ops oj = true := fun j oj hj hne hun hno => by
        by_cases ez : j = z
        · subst ez; rw [hz] at hj; obtain rfl := Option.some.inj hj; exact apz2
        · rcases Nat.lt_or_ge j i with hji | hji
          · exact segPair_r ((hall i oi hi).2.2.2 j oj hji hj ez hi1.2.1) hpure (nowait i j oi hi hr hun)
          · exact segPair_l ((hall j oj hj).2.2.2 i oi (by omega) hi hi1.2.1 ez) hpure hno
      rw [he] at h
      obtain ⟨v, hy, hh⟩ := gap_hoist hs hi hpure pre post iv a w hE (fun k hk => by
        have hkm : k ∈ rem := by rw [he]; simp [hk]
        obtain ⟨k1, k0, k2⟩ := (hmem k).1 hkm
        obtain ⟨ok, hok⟩ : ∃ ok, ops[k]? = some ok := ⟨_, Array.getElem?_eq_getElem (by omega)⟩
        have hki := hlt k hk
        refine ⟨ok, hok, hfree k ok hok (by omega) k2 ?_⟩
        cases hwt : waits ok i with
        | false => rfl
        | true =>
          simp only [waits, Array.any_eq_true, Bool.and_eq_true, beq_iff_eq] at hwt
          obtain ⟨q, hq, hb, he'⟩ := hwt
          have := (hall k ok hok).1 _ (Array.getElem_mem hq) hb
          omega) h
      obtain ⟨z1, z2, z3⟩ := Oper.apart_spec apz1
      have hy' : YieldsIf P ops (fun w' => Ext base w') oi v (azPut oz.dst az a) := by
        cases az with
        | none => exact hy
        | some p => exact hy.of_same (execOp_put oi (fun cs b => Region.noSelect_spec hs i oi cs b hi) a oz.dst _ z1) (wanted_put oi a oz.dst _ z1)
      have h2 := ih (pre ++ post) (listed.setIfInBounds i true) (a.put oi.dst v) az iv w (by simp [hsz]) q2 (by omega) q1 q4 q5 hE hiv haz hh
      have e2 : (azPut oz.dst az (a.put oi.dst v)) = (azPut oz.dst az a).put oi.dst v := by
        cases az with
        | none => rfl
        | some p => exact (Act.put_comm a (ptrTo p) v z2).symm
      rw [e2] at h2
      refine wpAnyH_first hi (Region.noSelect_spec hs) (fun c a w => hQ c a _ _ w) _ listed _ w (fun j oj hj hne hun hno => hfree j oj hj hne hun ?_) hr hy' hE h2
      cases hwt : waits oj i with
      | false => rfl
      | true =>
        simp only [waits, Array.any_eq_true, Bool.and_eq_true, beq_iff_eq] at hwt
        obtain ⟨q, hq, hb, he'⟩ := hwt
        exact absurd he' (hno _ (Array.getElem_mem hq) hb)
    · have nonempty : Region.ready .any ops listed ≠ [] := by
        intro h0
        have key : ∃ j, j ∈ Region.ready .any ops listed := by
          cases az with
          | none => exact ⟨z, mem_ready.2 ⟨by rw [hlz]; rfl, oz, hz, fun e he hb => by rw [hzf oz hz e he] at hb; cases hb⟩⟩
          | some p =>
            cases rem with
            | nil => simp at hn
            | cons k rest =>
              obtain ⟨k1, k0, k2⟩ := (hmem k).1 (by simp)
              obtain ⟨ok, hok⟩ : ∃ ok, ops[k]? = some ok := ⟨_, Array.getElem?_eq_getElem (by omega)⟩
              obtain ⟨hpk, _⟩ := List.pairwise_cons.1 hpw
              refine ⟨k, mem_ready.2 ⟨k2, ok, hok, fun e he hb => ?_⟩⟩
              have hlt := (hall k ok hok).1 e he hb
              cases hl : listed.getD e.on true with
              | true =>
                have : e.on < listed.size := by omega
                simp [this] at hl ⊢; exact hl
              | false =>
                by_cases ez : e.on = z
                · rw [ez, hlz] at hl; cases hl
                · have := (hmem e.on).2 ⟨by omega, ez, hl⟩
                  rcases List.mem_cons.1 this with h' | h'
                  · omega
                  · have := hpk _ h'; omega
        obtain ⟨j, hj⟩ := key
        rw [h0] at hj; cases hj
      refine ⟨fun h0 => absurd h0 nonempty, fun j hj => ?_⟩
      have notN : j ≠ N := fun ejN => by
        subst ejN
        cases haz1 : az with
        | none =>
          have h1 := (hNw oN hN).2.1
          rw [nowait j z oN hN hj (by rw [hlz, haz1]; rfl)] at h1
          cases h1
        | some p =>
          cases hrem : rem with
          | nil => rw [haz1, hrem] at hn; simp at hn
          | cons k rest =>
            obtain ⟨ok, hok, hmk⟩ := headmk hp p k rest haz1 hrem
            have hk := (hmem k).1 (by rw [hrem]; simp)
            have h1 := (hNw oN hN).2.2 k ok hk.1 hok hmk
            rw [nowait j k oN hN hj hk.2.2] at h1
            cases h1
      rcases low j hj with ez | hjm | ejN
      rotate_left 2
      · exact absurd ejN notN
      · subst ez
        have haz0 : az = none := by
          have h0 := (mem_ready.1 hj).1
          rw [hlz] at h0
          cases az with
          | none => rfl
          | some p => cases h0
        subst haz0
        unfold wpOp
        simp only [hz, wantz, if_true]
        refine .inl ?_
        unfold Oper.wp
        rw [hrun]
        simp only [Oper.upon]
        have hE' : Ext w (w.alloc zobj) := (Ext.refl w).alloc zobj
        refine ⟨hE.trans hE', ?_⟩
        exact ih rem (listed.setIfInBounds j true) a (some w.heap.size) iv (w.alloc zobj) (by simp [hsz]) hpw (by simpa using hn) (fun k => by
          by_cases e : j = k
          · subst e
            constructor
            · intro hk; exact absurd rfl ((hmem j).1 hk).2.1
            · rintro ⟨_, h', _⟩; exact absurd rfl h'
          · rw [getD_set_ne true e, hmem k]) (by
          have : j < listed.size := by omega
          simp [this]) (fun k h1 h2 => by rw [getD_set_ne true (by omega)]; exact hge k h1 h2) (hE.trans hE') (fun q hq => Nat.le_trans (hiv q hq) hE'.size) (fun p hp' => by
          obtain rfl := Option.some.inj hp'
          exact ⟨hE.size, heap_alloc_new w zobj, fun q hq => .inr (hiv q hq)⟩) (gap_mono (gapK_mono (zobj := zobj)) rem iv a w _ h hE')
      · obtain ⟨_, oj, hoj, _⟩ := mem_ready.1 hj
        have hmj : isMk oj.op = true := by
          cases hm : isMk oj.op with
          | true => rfl
          | false => exact absurd ⟨j, oj, hj, hoj, hm⟩ hp
        cases rem with
        | nil => simp at hjm
        | cons k rest =>
          obtain ⟨k1, k0, k2⟩ := (hmem k).1 (by simp)
          obtain ⟨ok, hok⟩ : ∃ ok, ops[k]? = some ok := ⟨_, Array.getElem?_eq_getElem (by omega)⟩
          obtain ⟨hpk, _⟩ := List.pairwise_cons.1 hpw
          have ejk : j = k := by
            rcases List.mem_cons.1 hjm with h' | h'
            · exact h'
            · exfalso
              have hkj := hpk j h'
              have hj1 := (hmem j).1 hjm
              have hmk : isMk ok.op = true := by
                cases hm : isMk ok.op with
                | true => rfl
                | false =>
                  -- it would be ready, or waits
                  have hsp := (hall j oj hoj).2.2.2 k ok hkj hok k0 hj1.2.1
                  exfalso
                  refine hp ⟨k, ok, ?_, hok, hm⟩
                  refine mem_ready.2 ⟨k2, ok, hok, fun e he hb => ?_⟩
                  have hlt := (hall k ok hok).1 e he hb
                  cases hl : listed.getD e.on true with
                  | true =>
                    have : e.on < listed.size := by omega
                    simp [this] at hl ⊢; exact hl
                  | false =>
                    by_cases ez : e.on = z
                    · obtain ⟨_, _, hwz⟩ := (hall k ok hok).2.2.1 k1 k0 oz hz
                      have : waits ok z = true := by
                        simp only [waits, Array.any_eq_true, Bool.and_eq_true, beq_iff_eq]
                        obtain ⟨x, hx, hxe⟩ := Array.mem_iff_getElem.1 he
                        exact ⟨x, hx, by rw [hxe]; exact hb, by rw [hxe]; exact ez⟩
                      rw [this] at hwz; cases hwz
                    · have := (hmem e.on).2 ⟨by omega, ez, hl⟩
                      rcases List.mem_cons.1 this with h'' | h''
                      · omega
                      · have := hpk _ h''; omega
              have := segPair_mk ((hall j oj hoj).2.2.2 k ok hkj hok k0 hj1.2.1) hmk hmj
              rw [nowait j k oj hoj hj k2] at this
              cases this
          subst ejk
          rw [hok] at hoj; obtain rfl := Option.some.inj hoj
          obtain ⟨q1, q2, q3, q4, q5⟩ := after j (by simp) [] rest rfl
          simp only [List.nil_append] at q1 q2 q3
          obtain ⟨apz1, apz2, _⟩ := (hall j ok hok).2.2.1 k1 k0 oz hz
          obtain ⟨z1, z2, z3⟩ := Oper.apart_spec apz1
          have hsel := fun cs b => Region.noSelect_spec hs j ok cs b hok
          simp only [wpGap, hok, hmj, if_true] at h
          simp only [List.length_cons] at hn q3
          have nx : ∀ (a' : Act) (w' : World), Ext w w' → wpGap P ops base (gapK P ops Q base N oz oN zobj) rest ((w.heap.size, w'.heap.size) :: iv) a' w' →
              wpAnyH P .any ops Q (fun w' => Ext base w') (n + (ops.size - N)) (listed.setIfInBounds j true) (azPut oz.dst az a') w' := fun a' w' hE' hh =>
            ih rest (listed.setIfInBounds j true) a' az ((w.heap.size, w'.heap.size) :: iv) w' (by simp [hsz]) q2 (by omega) q1 q4 q5 (hE.trans hE') (fun q hq => by
              rcases List.mem_cons.1 hq with rfl | hq
              · exact Nat.le_refl _
              · exact Nat.le_trans (hiv q hq) hE'.size) (fun p hp' => by
              obtain ⟨p1, p2, p3⟩ := haz p hp'
              have hlt : p < w.heap.size := (Array.getElem?_eq_some_iff.1 p2).1
              refine ⟨p1, (hE'.block hlt).trans p2, fun q hq => ?_⟩
              rcases List.mem_cons.1 hq with rfl | hq
              · exact .inl hlt
              · exact p3 q hq) hh
          unfold wpOp
          simp only [hok]
          cases az with
          | none =>
            by_cases hw : Region.wanted ok (yielded ops a.tmps) = true
            · simp only [hw, if_true] at h
              rw [if_pos (show Region.wanted ok (yielded ops (azPut oz.dst none a).tmps) = true from hw)]
              exact .inl (wp_Qn (fun a' w' ⟨h1, h2⟩ => ⟨hE.trans h1, nx a' w' h1 h2⟩) (h w (Ext.refl w)))
            · simp only [hw] at h
              rw [if_neg (show ¬ Region.wanted ok (yielded ops (azPut oz.dst none a).tmps) = true from hw)]
              refine ⟨hE, ?_⟩
              exact ih rest (listed.setIfInBounds j true) (a.put ok.dst undef) none iv w (by simp [hsz]) q2 (by simp at hn ⊢; omega) q1 q4 q5 hE hiv haz h
          | some p =>
            have ew := wanted_put ok a oz.dst (ptrTo p) z1
            by_cases hw : Region.wanted ok (yielded ops a.tmps) = true
            · simp only [hw, if_true] at h
              rw [if_pos (show Region.wanted ok (yielded ops (azPut oz.dst (some p) a).tmps) = true from ew.trans hw)]
              refine .inl (wp_Qn (K := fun a' w' => Ext base w' ∧ wpAnyH P .any ops Q (fun w' => Ext base w') (n + (ops.size - N)) (listed.setIfInBounds j true) a' w') (fun _ _ h => h) ?_)
              refine wp_put_other (ops := ops) (a := a) (d := oz.dst) (v := ptrTo p) hsel z1 z2 ?_
              exact wp_Qn' (fun a' w' ⟨h1, h2⟩ => ⟨hE.trans h1, nx a' w' h1 h2⟩) (h w (Ext.refl w))
            · simp only [hw] at h
              rw [if_neg (show ¬ Region.wanted ok (yielded ops (azPut oz.dst (some p) a).tmps) = true from fun h' => hw (ew.symm.trans h'))]
              refine ⟨hE, ?_⟩
              show wpAnyH P .any ops Q (fun w' => Ext base w') (n + (ops.size - N)) (listed.setIfInBounds j true) ((a.put oz.dst (ptrTo p)).put ok.dst undef) w
              rw [Act.put_comm a (ptrTo p) undef z2]
              exact ih rest (listed.setIfInBounds j true) (a.put ok.dst undef) (some p) iv w (by simp [hsz]) q2 (by simp at hn ⊢; omega) q1 q4 q5 hE hiv haz h
end
end Go.Proofs.Ytdogknbkcididaa
