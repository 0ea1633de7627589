/- A region that draws its order, each operation with a claim of its own; operations may change blocks that a relation G names, and an invariant J goes along with those that have come up. -/
import Derived.Test.YtbbpipbemhggdaaFlowB
namespace Go.Proofs.Ytbbpipbemhggdaa
open Go.RowKit
set_option linter.unusedSimpArgs false
set_option linter.unusedVariables false

/-- The frame with values put into the slots ds; none: an operation without a slot. -/
def putO : Nat → List (Option Nat) → (Nat → Value) → Array Value → Array Value
  | _, [], _, T => T
  | k, none :: ds, σ, T => putO (k + 1) ds σ T
  | k, some d :: ds, σ, T => putO (k + 1) ds σ (T.setIfInBounds d (σ k))
theorem putO_size : ∀ (ds : List (Option Nat)) (k : Nat) (σ : Nat → Value) (T : Array Value), (putO k ds σ T).size = T.size
  | [], _, _, _ => rfl
  | none :: ds, k, σ, T => by simp [putO, putO_size ds]
  | some d :: ds, k, σ, T => by simp [putO, putO_size ds]
theorem putO_off : ∀ (ds : List (Option Nat)) (k : Nat) (σ : Nat → Value) (T : Array Value) (s : Nat), some s ∉ ds → (putO k ds σ T)[s]? = T[s]?
  | [], _, _, _, _, _ => rfl
  | none :: ds, k, σ, T, s, h => by
    simp only [putO]
    exact putO_off ds (k + 1) σ _ s (fun hm => h (by simp [hm]))
  | some d :: ds, k, σ, T, s, h => by
    simp only [List.mem_cons, not_or, Option.some.injEq] at h
    simp only [putO]
    rw [putO_off ds (k + 1) σ _ s h.2, Array.getElem?_setIfInBounds_ne (Ne.symm h.1)]
theorem mem_ids {ds : List (Option Nat)} {d : Nat} : d ∈ ds.filterMap id ↔ some d ∈ ds := by simp
theorem putO_on : ∀ (ds : List (Option Nat)) (k : Nat) (σ : Nat → Value) (T : Array Value) (i d : Nat), (ds.filterMap id).Nodup → ds[i]? = some (some d) → d < T.size → (putO k ds σ T)[d]? = some (σ (k + i))
  | [], _, _, _, _, _, _, h, _ => by simp at h
  | none :: ds, k, σ, T, 0, d, hn, h, hl => by simp at h
  | none :: ds, k, σ, T, i + 1, d, hn, h, hl => by
    simp only [List.getElem?_cons_succ] at h
    simp only [putO]
    rw [putO_on ds (k + 1) σ _ i d (by simpa using hn) h hl]
    congr 2; omega
  | some e :: ds, k, σ, T, 0, d, hn, h, hl => by
    simp only [List.getElem?_cons_zero, Option.some.injEq] at h
    subst h
    simp only [putO]
    have hn' : e ∉ ds.filterMap id ∧ (ds.filterMap id).Nodup := by simpa using hn
    rw [putO_off ds (k + 1) σ _ e (fun hm => hn'.1 (mem_ids.2 hm)), arr_set hl, if_pos rfl, Nat.add_zero]
  | some e :: ds, k, σ, T, i + 1, d, hn, h, hl => by
    simp only [List.getElem?_cons_succ] at h
    simp only [putO]
    have hn' : e ∉ ds.filterMap id ∧ (ds.filterMap id).Nodup := by simpa using hn
    rw [putO_on ds (k + 1) σ _ i d hn'.2 h (by simpa using hl)]
    congr 2; omega
def valO (ds : List (Option Nat)) (T : Array Value) (i : Nat) : Value := match ds[i]? with
  | some (some d) => T.getD d undef
  | _ => undef
theorem valO_at {ds : List (Option Nat)} {T : Array Value} {i d : Nat} (h : ds[i]? = some (some d)) : valO ds T i = T.getD d undef := by unfold valO; rw [h]
theorem valO_no {ds : List (Option Nat)} {T : Array Value} {i : Nat} (h : ds[i]? = some none) : valO ds T i = undef := by unfold valO; rw [h]
theorem putO_eta {ds : List (Option Nat)} {T T' : Array Value} (hn : (ds.filterMap id).Nodup) (hs : T'.size = T.size) (hl : ∀ d, some d ∈ ds → d < T.size) (ho : ∀ s, some s ∉ ds → T'[s]? = T[s]?) : T' = putO 0 ds (valO ds T') T := by
  apply Array.ext_getElem?
  intro s
  by_cases hm : some s ∈ ds
  · obtain ⟨i, hi⟩ := List.getElem?_of_mem hm
    rw [putO_on ds 0 _ T i s hn hi (hl s hm), Nat.zero_add, valO_at hi]
    have h1 : s < T'.size := by rw [hs]; exact hl s hm
    rw [Array.getElem?_eq_getElem h1]
    simp [h1]
  · rw [putO_off ds 0 _ T s hm]; exact ho s hm
def actO (ds : List (Option Nat)) (σ : Nat → Value) (a0 : Act) : Act := { a0 with tmps := putO 0 ds σ a0.tmps }
theorem ids_inj : ∀ {ds : List (Option Nat)}, (ds.filterMap id).Nodup → ∀ {i j d : Nat}, ds[i]? = some (some d) → ds[j]? = some (some d) → i = j
  | [], _, _, _, _, h, _ => by simp at h
  | none :: ds, hn, 0, _, _, h, _ => by simp at h
  | none :: ds, hn, _ + 1, 0, _, _, h => by simp at h
  | none :: ds, hn, i + 1, j + 1, d, h, k => by
    have := ids_inj (ds := ds) (by simpa using hn) (i := i) (j := j) (d := d) (by simpa using h) (by simpa using k)
    omega
  | some e :: ds, hn, 0, 0, _, _, _ => rfl
  | some e :: ds, hn, 0, j + 1, d, h, k => by
    have hn' : e ∉ ds.filterMap id ∧ (ds.filterMap id).Nodup := by simpa using hn
    simp only [List.getElem?_cons_zero, Option.some.injEq] at h
    subst h
    exact absurd (mem_ids.2 (List.mem_of_getElem? (by simpa using k))) hn'.1
  | some e :: ds, hn, i + 1, 0, d, h, k => by
    have hn' : e ∉ ds.filterMap id ∧ (ds.filterMap id).Nodup := by simpa using hn
    simp only [List.getElem?_cons_zero, Option.some.injEq] at k
    subst k
    exact absurd (mem_ids.2 (List.mem_of_getElem? (by simpa using h))) hn'.1
  | some e :: ds, hn, i + 1, j + 1, d, h, k => by
    have hn' : e ∉ ds.filterMap id ∧ (ds.filterMap id).Nodup := by simpa using hn
    have := ids_inj (ds := ds) hn'.2 (i := i) (j := j) (d := d) (by simpa using h) (by simpa using k)
    omega

/-- What is known of the operations that have come up. -/
structure FlowJI (ds : List (Option Nat)) (S : Nat → (Nat → Value) → Nat → Nat → World → Prop) (G : World → World → Prop) (J : (Nat → Bool) → World → Prop) (N : Nat) (a0 : Act) (w0 : World) (L H : Nat → Nat) (listed : Array Bool) (a : Act) (w : World) : Prop where
  defers : a.defers = a0.defers
  size : a.tmps.size = a0.tmps.size
  off : ∀ s, some s ∉ ds → a.tmps[s]? = a0.tmps[s]?
  ext : G w0 w
  inv : J (fun j => listed.getD j true) w
  spec : ∀ j, j < N → listed.getD j true = true → w0.heap.size ≤ L j ∧ L j ≤ H j ∧ H j ≤ w.heap.size ∧ S j (valO ds a.tmps) (L j) (H j) w
  apart : ∀ j k, j < N → k < N → j ≠ k → listed.getD j true = true → listed.getD k true = true → H j ≤ L k ∨ H k ≤ L j

section
variable {P : Program} {ops : Array Oper} {Q : Exit → Act → World → Prop}
theorem flowJ_sound {N : Nat} {oN : Oper} {a0 : Act} {w0 : World} {ds : List (Option Nat)} {S : Nat → (Nat → Value) → Nat → Nat → World → Prop} {G : World → World → Prop} {J : (Nat → Bool) → World → Prop} (hGt : ∀ a b c, G a b → G b c → G a c) (hGs : ∀ a b, G a b → a.heap.size ≤ b.heap.size)
    (hsz : ops.size = N + 1) (hN : ops[N]? = some oN) (hgd : ∀ (i : Nat) (o : Oper), ops[i]? = some o → o.guard = none) (hds : ds.length = N) (hdd : ∀ i o, i < N → ops[i]? = some o → some o.dst = ds[i]?)
    (hnd : (ds.filterMap id).Nodup) (hlt : ∀ d, some d ∈ ds → d < a0.tmps.size) (hNw : ∀ j, j < N → waits oN j = true) (hback : ∀ (i : Nat) (o : Oper), ops[i]? = some o → ∀ j, waits o j = true → j < i)
    (hloc : ∀ i o, i < N → ops[i]? = some o → ∀ (σ σ' : Nat → Value) lo hi w, (∀ j, (j = i ∨ waits o j = true) → σ j = σ' j) → S i σ lo hi w → S i σ' lo hi w)
    (hext : ∀ i, i < N → ∀ (σ : Nat → Value) lo hi w w', S i σ lo hi w → w0.heap.size ≤ lo → hi ≤ w.heap.size → G w w' → S i σ lo hi w')
    (hstep : ∀ i o, i < N → ops[i]? = some o → ∀ (σ : Nat → Value) (L H : Nat → Nat) (ls : Nat → Bool) w, G w0 w → J ls w → ls i = false → (∀ j, waits o j = true → ls j = true ∧ w0.heap.size ≤ L j ∧ L j ≤ H j ∧ H j ≤ w.heap.size ∧ S j σ (L j) (H j) w) →
      o.wp P (actO ds σ a0) w (fun a' w' => ∃ v, a' = (actO ds σ a0).put o.dst v ∧ (o.dst = none → v = undef) ∧ G w w' ∧ (∀ ls', ls' i = true → (∀ j, j ≠ i → ls' j = ls j) → J ls' w') ∧ S i (fun j => if j = i then v else σ j) w.heap.size w'.heap.size w') Qn)
    (hend : ∀ (σ : Nat → Value) (L H : Nat → Nat) (ls : Nat → Bool) w, G w0 w → J ls w → (∀ j, j < N → ls j = true) → (∀ j, j < N → w0.heap.size ≤ L j ∧ L j ≤ H j ∧ H j ≤ w.heap.size ∧ S j σ (L j) (H j) w) → (∀ j k, j < N → k < N → j ≠ k → H j ≤ L k ∨ H k ≤ L j) →
      oN.wp P (actO ds σ a0) w (fun a' w' => Q .normal a' w') Qn) :
    ∀ (n : Nat) (rem : List Nat) (listed : Array Bool) (L H : Nat → Nat) (a : Act) (w : World), rem.length = n → rem.Nodup → listed.size = ops.size → (∀ j, j ∈ rem ↔ j < N ∧ listed.getD j true = false) → listed.getD N true = false → Closed ops listed →
      FlowJI ds S G J N a0 w0 L H listed a w → wpAny P .any ops Q (n + 1) listed a w := by
  have want : ∀ (i : Nat) (o : Oper), ops[i]? = some o → ∀ y, Region.wanted o y = true := fun i o hi y => by simp [Region.wanted, hgd i o hi]
  have wt : ∀ {o : Oper} {j : Nat}, waits o j = true → ∃ e ∈ o.after, Region.binds .any e = true ∧ e.on = j := fun {o j} h => by
    simp only [waits, Array.any_eq_true, Bool.and_eq_true, beq_iff_eq] at h
    obtain ⟨q, hq, hb, he⟩ := h
    exact ⟨_, Array.getElem_mem hq, hb, he⟩
  have wt' : ∀ {o : Oper} {e}, e ∈ o.after → Region.binds .any e = true → waits o e.on = true := fun {o e} he hb => by
    simp only [waits, Array.any_eq_true, Bool.and_eq_true, beq_iff_eq]
    obtain ⟨q, hq, rfl⟩ := Array.mem_iff_getElem.1 he
    exact ⟨q, hq, hb, rfl⟩
  intro n
  induction n with
  | zero =>
    intro rem listed L H a w hn hnr hls hmem hlN hcl hI
    obtain rfl := List.eq_nil_of_length_eq_zero hn
    have lst : ∀ j, j < N → listed.getD j true = true := fun j hj => by
      cases hl : listed.getD j true with
      | true => rfl
      | false => exact absurd ((hmem j).2 ⟨hj, hl⟩) (by simp)
    have hNr : N ∈ Region.ready .any ops listed := by
      refine mem_ready.2 ⟨hlN, oN, hN, fun e he hb => ?_⟩
      have hlt' := hback N oN hN e.on (wt' he hb)
      have h1 := lst e.on hlt'
      have : e.on < listed.size := by omega
      simp [this] at h1 ⊢; exact h1
    refine ⟨fun h0 => (by rw [h0] at hNr; cases hNr), fun j hj => ?_⟩
    have ejN : j = N := by
      obtain ⟨h0, oj, hoj, _⟩ := mem_ready.1 hj
      have hjs := (Array.getElem?_eq_some_iff.1 hoj).1
      rcases Nat.lt_or_ge j N with h' | h'
      · rw [lst j h'] at h0; cases h0
      · omega
    subst ejN
    unfold wpOp
    simp only [hN, want j oN hN, if_true]
    have ea : a = actO ds (valO ds a.tmps) a0 := by
      have := putO_eta (T := a0.tmps) (T' := a.tmps) hnd hI.size hlt hI.off
      unfold actO
      rw [← this]
      cases a; cases a0
      simp only [Act.mk.injEq, true_and]
      exact hI.defers
    refine .inl ?_
    have h := hend (valO ds a.tmps) L H _ w hI.ext hI.inv lst (fun k hk => hI.spec k hk (lst k hk)) (fun k l hk hl hne => hI.apart k l hk hl hne (lst k hk) (lst l hl))
    rw [← ea] at h
    refine wp_Qn (fun a' w' h1 => ⟨?_, h1⟩) h
    rw [List.eq_nil_iff_forall_not_mem]
    intro k hk
    obtain ⟨h0, ok, hok, _⟩ := mem_ready.1 hk
    have hks := (Array.getElem?_eq_some_iff.1 hok).1
    by_cases e : j = k
    · subst e
      have : j < listed.size := by omega
      simp [this] at h0
    · rw [getD_set_ne true e, lst k (by omega)] at h0; cases h0
  | succ n ih =>
    intro rem listed L H a w hn hnr hls hmem hlN hcl hI
    have inrem : ∀ j, j ∈ Region.ready .any ops listed → j ∈ rem := fun j hj => by
      obtain ⟨h0, o, ho, hall⟩ := mem_ready.1 hj
      have hjs := (Array.getElem?_eq_some_iff.1 ho).1
      rcases Nat.lt_or_ge j N with h' | h'
      · exact (hmem j).2 ⟨h', h0⟩
      · exfalso
        obtain rfl : j = N := by omega
        cases rem with
        | nil => simp at hn
        | cons k rest =>
          obtain ⟨k1, k2⟩ := (hmem k).1 (by simp)
          rw [hN] at ho; obtain rfl := Option.some.inj ho
          obtain ⟨e, he, hb, hk⟩ := wt (hNw k k1)
          have h1 := hall e he hb
          rw [hk] at h1
          have : k < listed.size := by omega
          simp [this] at k2 h1
          rw [k2] at h1; cases h1
    refine ⟨fun h0 => ?_, fun i hi => ?_⟩
    · exfalso
      have key : ∀ m k, k ≤ m → k ∈ rem → False := by
        intro m
        induction m with
        | zero =>
          intro k hk hkm
          obtain ⟨k1, k2⟩ := (hmem k).1 hkm
          obtain ⟨o, ho⟩ : ∃ o, ops[k]? = some o := ⟨_, Array.getElem?_eq_getElem (by omega)⟩
          have : k ∈ Region.ready .any ops listed := mem_ready.2 ⟨k2, o, ho, fun e he hb => by have := hback k o ho e.on (wt' he hb); omega⟩
          rw [h0] at this; cases this
        | succ m ihm =>
          intro k hk hkm
          obtain ⟨k1, k2⟩ := (hmem k).1 hkm
          obtain ⟨o, ho⟩ : ∃ o, ops[k]? = some o := ⟨_, Array.getElem?_eq_getElem (by omega)⟩
          have : k ∈ Region.ready .any ops listed := mem_ready.2 ⟨k2, o, ho, fun e he hb => by
            have hlt' := hback k o ho e.on (wt' he hb)
            cases hl : listed.getD e.on true with
            | true =>
              have : e.on < listed.size := by omega
              simp [this] at hl ⊢; exact hl
            | false => exact (ihm e.on (by omega) ((hmem e.on).2 ⟨by omega, hl⟩)).elim⟩
          rw [h0] at this; cases this
      obtain ⟨k, hk⟩ : ∃ k, k ∈ rem := by
        cases rem with
        | nil => simp at hn
        | cons k rest => exact ⟨k, by simp⟩
      exact key k k (Nat.le_refl _) hk
    · have him := inrem i hi
      obtain ⟨hiN, hiu⟩ := (hmem i).1 him
      obtain ⟨_, o, ho, hall⟩ := mem_ready.1 hi
      have hal : ∀ {j}, j < listed.size → listed.getD j false = true → listed.getD j true = true := fun {j} hj h => by simp [hj] at h ⊢; exact h
      have hla : ∀ {j}, listed.getD j true = true → j < listed.size → listed.getD j false = true := fun {j} h hj => by simp [hj] at h ⊢; exact h
      have hdep : ∀ j, waits o j = true → j < N ∧ listed.getD j true = true := fun j hj => by
        have hlt' := hback i o ho j hj
        obtain ⟨e, he, hb, rfl⟩ := wt hj
        exact ⟨by omega, hal (by omega) (hall e he hb)⟩
      have ea : a = actO ds (valO ds a.tmps) a0 := by
        have := putO_eta (T := a0.tmps) (T' := a.tmps) hnd hI.size hlt hI.off
        unfold actO
        rw [← this]
        cases a; cases a0
        simp only [Act.mk.injEq, true_and]
        exact hI.defers
      have hisz : i < listed.size := by omega
      have hls0 : (fun j => listed.getD j true) i = false := by
        have := hiu
        simp [hisz] at this ⊢; exact this
      have h := hstep i o hiN ho (valO ds a.tmps) L H (fun j => listed.getD j true) w hI.ext hI.inv hls0 (fun j hj => ⟨(hdep j hj).2, hI.spec j (hdep j hj).1 (hdep j hj).2⟩)
      rw [← ea] at h
      unfold wpOp
      simp only [ho, want i o ho, if_true]
      refine .inl (wp_Qn (fun a' w' h1 => ?_) h)
      obtain ⟨v, rfl, hvn, hE, hJ, hS⟩ := h1
      have hod : ds[i]? = some o.dst := (hdd i o hiN ho).symm
      have hdef : (a.put o.dst v).defers = a.defers := by cases o.dst <;> rfl
      have htsz : (a.put o.dst v).tmps.size = a.tmps.size := by
        cases o.dst with
        | none => rfl
        | some d => simp [Act.put]
      have hoff : ∀ s, o.dst ≠ some s → (a.put o.dst v).tmps[s]? = a.tmps[s]? := fun s hs => by
        cases hd : o.dst with
        | none => rfl
        | some d =>
          rw [hd] at hs
          show (a.tmps.setIfInBounds d v)[s]? = _
          rw [Array.getElem?_setIfInBounds_ne (fun e => hs (by rw [e]))]
      have hσ : ∀ j, j < N → j ≠ i → valO ds (a.put o.dst v).tmps j = valO ds a.tmps j := fun j hj hji => by
        cases hdj : ds[j]? with
        | none => simp [valO, hdj]
        | some x =>
          cases x with
          | none => rw [valO_no hdj, valO_no hdj]
          | some d =>
            rw [valO_at hdj, valO_at hdj, Array.getD_eq_getD_getElem?, Array.getD_eq_getD_getElem?, hoff d (fun e => hji (ids_inj hnd hdj (by rw [hod, e])))]
      have hσi : valO ds (a.put o.dst v).tmps i = v := by
        cases hd : o.dst with
        | none => rw [hd] at hod; rw [valO_no hod, hvn hd]
        | some d =>
          rw [hd] at hod
          have hdl : d < a.tmps.size := by rw [hI.size]; exact hlt d (List.mem_of_getElem? hod)
          rw [valO_at hod]
          show (a.tmps.setIfInBounds d v).getD d undef = v
          rw [Array.getD_eq_getD_getElem?, arr_set hdl, if_pos rfl]; rfl
      have hlist : ∀ j, j < N → j ≠ i → (listed.setIfInBounds i true).getD j true = listed.getD j true := fun j _ hji => getD_set_ne true (Ne.symm hji)
      have hils : i < listed.size := by omega
      refine ih (rem.erase i) (listed.setIfInBounds i true) (fun j => if j = i then w.heap.size else L j) (fun j => if j = i then w'.heap.size else H j) (a.put o.dst v) w' ?_ (hnr.erase i) (by simp [hls]) ?_ ?_ (hcl.step hi) ?_
      · rw [List.length_erase_of_mem him, hn]; rfl
      · intro j
        rw [hnr.mem_erase_iff, hmem j]
        by_cases e : j = i
        · subst e
          simp [hils]
        · simp only [e, ne_eq, not_false_eq_true, true_and]
          constructor
          · rintro ⟨h1, h2⟩; exact ⟨h1, by rw [getD_set_ne true (Ne.symm e)]; exact h2⟩
          · rintro ⟨h1, h2⟩; exact ⟨h1, by rw [getD_set_ne true (Ne.symm e)] at h2; exact h2⟩
      · rw [getD_set_ne true (by omega)]; exact hlN
      · refine ⟨hdef.trans hI.defers, htsz.trans hI.size, fun s hs => ?_, hGt _ _ _ hI.ext hE, hJ _ ?_ (fun j hj => getD_set_ne true (Ne.symm hj)), fun j hj hjl => ?_, fun j k hj hk hne' hjl hkl => ?_⟩
        · rw [hoff s (fun e => hs (by rw [← e]; exact List.mem_of_getElem? hod))]; exact hI.off s hs
        · simp [hisz]
        · by_cases e : j = i
          · subst e
            simp only [if_true]
            refine ⟨hGs _ _ hI.ext, hGs _ _ hE, Nat.le_refl _, hloc j o hiN ho _ _ _ _ _ (fun k hk => ?_) hS⟩
            rcases hk with rfl | hk
            · simp only [if_true]; exact hσi.symm
            · have hlt' := hback j o ho k hk
              have hkj : k ≠ j := by omega
              simp only [hkj, if_false]
              exact (hσ k (by omega) hkj).symm
          · rw [hlist j hj e] at hjl
            obtain ⟨s1, s2, s3, s4⟩ := hI.spec j hj hjl
            simp only [e, if_false]
            obtain ⟨oj, hoj⟩ : ∃ oj, ops[j]? = some oj := ⟨_, Array.getElem?_eq_getElem (by omega)⟩
            refine ⟨s1, s2, Nat.le_trans s3 (hGs _ _ hE), hloc j oj hj hoj _ _ _ _ _ (fun k hk => ?_) (hext j hj _ _ _ _ _ s4 s1 s3 hE)⟩
            have hkN : k < N ∧ k ≠ i := by
              rcases hk with rfl | hk
              · exact ⟨hj, e⟩
              · have hlt' := hback j oj hoj k hk
                refine ⟨by omega, fun e2 => ?_⟩
                subst e2
                obtain ⟨ee, he, hb, hek⟩ := wt hk
                have := hcl j oj hoj (hla hjl (by omega)) ee he hb
                rw [hek] at this
                have := hal hils this
                rw [hiu] at this; cases this
            exact (hσ k hkN.1 hkN.2).symm
        · by_cases ej : j = i
          · subst ej
            have hkj : k ≠ j := Ne.symm hne'
            rw [hlist k hk hkj] at hkl
            simp only [if_true, hkj, if_false]
            exact .inr (hI.spec k hk hkl).2.2.1
          · by_cases ek : k = i
            · subst ek
              rw [hlist j hj ej] at hjl
              simp only [if_true, ej, if_false]
              exact .inl (hI.spec j hj hjl).2.2.1
            · rw [hlist j hj ej] at hjl
              rw [hlist k hk ek] at hkl
              simp only [ej, ek, if_false]
              exact hI.apart j k hj hk hne' hjl hkl

/-- What the text of the region must be. -/
def flowOkJ (ops : List Oper) (ds : List (Option Nat)) : Bool :=
  (ops.length == ds.length + 1) && (ops.all fun o => o.guard.isNone) && ((ops.dropLast.map Oper.dst) == ds) && decide (ds.filterMap id).Nodup &&
  ((List.range ds.length).all fun j => (ops[ds.length]?).any fun o => waits o j) && ((List.range ops.length).all fun i => (ops[i]?).all fun o => o.after.all fun e => !Region.binds .any e || decide (e.on < i))
theorem wp_region_flowJ (ds : List (Option Nat)) (G : World → World → Prop) (J : (Nat → Bool) → World → Prop) (S : Nat → (Nat → Value) → Nat → Nat → World → Prop) {id : Nat} {a0 : Act} {w : World} {l : List Oper} (hm : P.follows .mixedOrders = true) (hok : flowOkJ l ds = true)
    (hlt : ∀ d, some d ∈ ds → d < a0.tmps.size) (hGr : ∀ a, G a a) (hGt : ∀ a b c, G a b → G b c → G a c) (hGs : ∀ a b, G a b → a.heap.size ≤ b.heap.size) (hGd : G w w.drew) (hJ0 : ∀ ls : Nat → Bool, (∀ j, j < ds.length → ls j = false) → J ls w.drew)
    (hloc : ∀ (i : Nat) (o : Oper), i < ds.length → l[i]? = some o → ∀ (σ σ' : Nat → Value) lo hi w, (∀ j, (j = i ∨ waits o j = true) → σ j = σ' j) → S i σ lo hi w → S i σ' lo hi w)
    (hext : ∀ (i : Nat), i < ds.length → ∀ (σ : Nat → Value) lo hi w1 w', S i σ lo hi w1 → w.heap.size ≤ lo → hi ≤ w1.heap.size → G w1 w' → S i σ lo hi w')
    (hstep : ∀ (i : Nat) (o : Oper), i < ds.length → l[i]? = some o → ∀ (σ : Nat → Value) (L H : Nat → Nat) (ls : Nat → Bool) w1, G w w1 → J ls w1 → ls i = false → (∀ j, waits o j = true → ls j = true ∧ w.heap.size ≤ L j ∧ L j ≤ H j ∧ H j ≤ w1.heap.size ∧ S j σ (L j) (H j) w1) →
      o.wp P (actO ds σ a0) w1 (fun a' w' => ∃ v, a' = (actO ds σ a0).put o.dst v ∧ (o.dst = none → v = undef) ∧ G w1 w' ∧ (∀ ls' : Nat → Bool, ls' i = true → (∀ j, j ≠ i → ls' j = ls j) → J ls' w') ∧ S i (fun j => if j = i then v else σ j) w1.heap.size w'.heap.size w') Qn)
    (hend : ∀ (oN : Oper), l[ds.length]? = some oN → ∀ (σ : Nat → Value) (L H : Nat → Nat) (ls : Nat → Bool) w1, G w w1 → J ls w1 → (∀ j, j < ds.length → ls j = true) → (∀ j, j < ds.length → w.heap.size ≤ L j ∧ L j ≤ H j ∧ H j ≤ w1.heap.size ∧ S j σ (L j) (H j) w1) → (∀ j k, j < ds.length → k < ds.length → j ≠ k → H j ≤ L k ∨ H k ≤ L j) →
      oN.wp P (actO ds σ a0) w1 (fun a' w' => Q .normal a' w') Qn) : (Code.region id l.toArray true).wp P Q a0 w := by
  simp only [flowOkJ, Bool.and_eq_true, beq_iff_eq, decide_eq_true_eq, List.all_eq_true, List.mem_range] at hok
  obtain ⟨⟨⟨⟨⟨h1, h2⟩, h3⟩, h4⟩, h5⟩, h6⟩ := hok
  obtain ⟨oN, hN⟩ : ∃ o, l[ds.length]? = some o := ⟨_, List.getElem?_eq_getElem (by omega)⟩
  have get : ∀ (i : Nat) (o : Oper), l.toArray[i]? = some o → l[i]? = some o := fun i o h => by simpa using h
  refine wp_region_any hm ?_
  have key := flowJ_sound (P := P) (ops := l.toArray) (Q := Q) (N := ds.length) (oN := oN) (a0 := a0) (w0 := w.drew) (ds := ds) (S := S) (G := G) (J := J) hGt hGs (by simp [h1]) (by simpa using hN)
    (fun i o h => by have := h2 o (List.mem_of_getElem? (get i o h)); simpa using this) rfl
    (fun i o hi h => by
      have h' := get i o h
      have e : (l.dropLast.map Oper.dst)[i]? = some o.dst := by
        rw [List.getElem?_map, List.dropLast_eq_take, List.getElem?_take, if_pos (by omega), h']; rfl
      rw [h3] at e
      exact e.symm)
    h4 hlt
    (fun j hj => by have := h5 j hj; rw [hN] at this; simpa using this)
    (fun i o h j hw => by
      have h' := get i o h
      have hi : i < l.length := (List.getElem?_eq_some_iff.1 h').1
      have := h6 i hi
      rw [h'] at this
      simp only [Option.all_some, Array.all_eq_true_iff_forall_mem, Bool.or_eq_true, Bool.not_eq_true', decide_eq_true_eq] at this
      simp only [waits, Array.any_eq_true, Bool.and_eq_true, beq_iff_eq] at hw
      obtain ⟨q, hq, hb, he⟩ := hw
      rcases this _ (Array.getElem_mem hq) with hh | hh
      · rw [hb] at hh; cases hh
      · omega)
    (fun i o hi h => hloc i o hi (get i o h)) hext
    (fun i o hi h σ L H ls w1 hE hj h0 hd => hstep i o hi (get i o h) σ L H ls w1 (hGt _ _ _ hGd hE) hj h0 hd)
    (fun σ L H ls w1 hE hj hl hd hap => hend oN hN σ L H ls w1 (hGt _ _ _ hGd hE) hj hl hd hap)
  have h := key ds.length (List.range ds.length) (Array.replicate l.toArray.size false) (fun _ => 0) (fun _ => 0) a0 w.drew (by simp) List.nodup_range (by simp) (fun j => by
      simp only [List.mem_range]
      constructor
      · intro hj; exact ⟨hj, by simp [show j < l.length by omega]⟩
      · exact fun hj => hj.1) (by simp [h1]) (closed_none _ _)
    ⟨rfl, rfl, fun s _ => rfl, hGr _, hJ0 _ (fun j hj => by simp [show j < l.length by omega]), fun j hj hl => by simp [show j < l.length by omega] at hl, fun j k hj _ _ hl _ => by simp [show j < l.length by omega] at hl⟩
  have e : l.toArray.size = ds.length + 1 := by simp [h1]
  rw [e] at h ⊢
  exact h
end
end Go.Proofs.Ytbbpipbemhggdaa
