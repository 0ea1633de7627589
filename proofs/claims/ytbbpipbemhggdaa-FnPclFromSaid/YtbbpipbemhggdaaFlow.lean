/- A region that draws its order, each operation with a claim of its own on its value and on the blocks it made; it ends with an operation that all wait for. -/
import Derived.Test.YtbbpipbemhggdaaSegT
namespace Go.Proofs.Ytbbpipbemhggdaa
open Go.RowKit
set_option linter.unusedSimpArgs false
set_option linter.unusedVariables false

/-- The frame with values put into the slots ds. -/
def putS : Nat → List Nat → (Nat → Value) → Array Value → Array Value
  | _, [], _, T => T
  | k, d :: ds, σ, T => putS (k + 1) ds σ (T.setIfInBounds d (σ k))
theorem putS_size : ∀ (ds : List Nat) (k : Nat) (σ : Nat → Value) (T : Array Value), (putS k ds σ T).size = T.size
  | [], _, _, _ => rfl
  | d :: ds, k, σ, T => by simp [putS, putS_size ds]
theorem putS_off : ∀ (ds : List Nat) (k : Nat) (σ : Nat → Value) (T : Array Value) (s : Nat), s ∉ ds → (putS k ds σ T)[s]? = T[s]?
  | [], _, _, _, _, _ => rfl
  | d :: ds, k, σ, T, s, h => by
    simp only [List.mem_cons, not_or] at h
    simp only [putS]
    rw [putS_off ds (k + 1) σ _ s h.2, Array.getElem?_setIfInBounds_ne (Ne.symm h.1)]
theorem putS_on : ∀ (ds : List Nat) (k : Nat) (σ : Nat → Value) (T : Array Value) (i d : Nat), ds.Nodup → ds[i]? = some d → d < T.size → (putS k ds σ T)[d]? = some (σ (k + i))
  | [], _, _, _, _, _, _, h, _ => by simp at h
  | e :: ds, k, σ, T, 0, d, hn, h, hl => by
    simp only [List.getElem?_cons_zero, Option.some.injEq] at h
    subst h
    simp only [putS]
    rw [putS_off ds (k + 1) σ _ e (List.nodup_cons.1 hn).1, arr_set hl, if_pos rfl, Nat.add_zero]
  | e :: ds, k, σ, T, i + 1, d, hn, h, hl => by
    simp only [List.getElem?_cons_succ] at h
    simp only [putS]
    rw [putS_on ds (k + 1) σ _ i d (List.nodup_cons.1 hn).2 h (by simpa using hl)]
    congr 2; omega
theorem putS_eta {ds : List Nat} {T T' : Array Value} (hn : ds.Nodup) (hs : T'.size = T.size) (hl : ∀ d ∈ ds, d < T.size) (ho : ∀ s, s ∉ ds → T'[s]? = T[s]?) : T' = putS 0 ds (fun i => T'.getD (ds.getD i 0) undef) T := by
  apply Array.ext_getElem?
  intro s
  by_cases hm : s ∈ ds
  · obtain ⟨i, hi⟩ := List.getElem?_of_mem hm
    rw [putS_on ds 0 _ T i s hn hi (hl s hm)]
    have h1 : s < T'.size := by rw [hs]; exact hl s hm
    rw [Array.getElem?_eq_getElem h1]
    simp [hi, h1]
  · rw [putS_off ds 0 _ T s hm]; exact ho s hm
def actS (ds : List Nat) (σ : Nat → Value) (a0 : Act) : Act := { a0 with tmps := putS 0 ds σ a0.tmps }

/-- What is known of the operations that have come up. -/
structure FlowI (ds : List Nat) (S : Nat → (Nat → Value) → Nat → Nat → World → Prop) (N : Nat) (a0 : Act) (w0 : World) (L H : Nat → Nat) (listed : Array Bool) (a : Act) (w : World) : Prop where
  defers : a.defers = a0.defers
  size : a.tmps.size = a0.tmps.size
  off : ∀ s, s ∉ ds → a.tmps[s]? = a0.tmps[s]?
  ext : Ext w0 w
  spec : ∀ j, j < N → listed.getD j true = true → w0.heap.size ≤ L j ∧ L j ≤ H j ∧ H j ≤ w.heap.size ∧ S j (fun i => a.tmps.getD (ds.getD i 0) undef) (L j) (H j) w
  apart : ∀ j k, j < N → k < N → j ≠ k → listed.getD j true = true → listed.getD k true = true → H j ≤ L k ∨ H k ≤ L j

section
variable {P : Program} {ops : Array Oper} {Q : Exit → Act → World → Prop}
theorem flow_sound {N : Nat} {oN : Oper} {a0 : Act} {w0 : World} {ds : List Nat} {S : Nat → (Nat → Value) → Nat → Nat → World → Prop}
    (hsz : ops.size = N + 1) (hN : ops[N]? = some oN) (hgd : ∀ (i : Nat) (o : Oper), ops[i]? = some o → o.guard = none) (hds : ds.length = N) (hdd : ∀ i o, i < N → ops[i]? = some o → o.dst = ds[i]?)
    (hnd : ds.Nodup) (hlt : ∀ d ∈ ds, d < a0.tmps.size) (hNw : ∀ j, j < N → waits oN j = true) (hback : ∀ (i : Nat) (o : Oper), ops[i]? = some o → ∀ j, waits o j = true → j < i)
    (hloc : ∀ i o, i < N → ops[i]? = some o → ∀ (σ σ' : Nat → Value) lo hi w, (∀ j, (j = i ∨ waits o j = true) → σ j = σ' j) → S i σ lo hi w → S i σ' lo hi w)
    (hext : ∀ i, i < N → ∀ (σ : Nat → Value) lo hi w w', S i σ lo hi w → hi ≤ w.heap.size → Ext w w' → S i σ lo hi w')
    (hstep : ∀ i o, i < N → ops[i]? = some o → ∀ (σ : Nat → Value) (L H : Nat → Nat) w, Ext w0 w → (∀ j, waits o j = true → w0.heap.size ≤ L j ∧ L j ≤ H j ∧ H j ≤ w.heap.size ∧ S j σ (L j) (H j) w) →
      o.wp P (actS ds σ a0) w (fun a' w' => ∃ v, a' = (actS ds σ a0).put o.dst v ∧ Ext w w' ∧ S i (fun j => if j = i then v else σ j) w.heap.size w'.heap.size w') Qn)
    (hend : ∀ (σ : Nat → Value) (L H : Nat → Nat) w, Ext w0 w → (∀ j, j < N → w0.heap.size ≤ L j ∧ L j ≤ H j ∧ H j ≤ w.heap.size ∧ S j σ (L j) (H j) w) → (∀ j k, j < N → k < N → j ≠ k → H j ≤ L k ∨ H k ≤ L j) →
      oN.wp P (actS ds σ a0) w (fun a' w' => Q .normal a' w') Qn) :
    ∀ (n : Nat) (rem : List Nat) (listed : Array Bool) (L H : Nat → Nat) (a : Act) (w : World), rem.length = n → rem.Nodup → listed.size = ops.size → (∀ j, j ∈ rem ↔ j < N ∧ listed.getD j true = false) → listed.getD N true = false → Closed ops listed →
      FlowI ds S N a0 w0 L H listed a w → wpAny P .any ops Q (n + 1) listed a w := by
  have want : ∀ (i : Nat) (o : Oper), ops[i]? = some o → ∀ y, Region.wanted o y = true := fun i o hi y => by simp [Region.wanted, hgd i o hi]
  have wt : ∀ {o : Oper} {j : Nat}, waits o j = true → ∃ e ∈ o.after, Region.binds .any e = true ∧ e.on = j := fun {o j} h => by
    simp only [waits, Array.any_eq_true, Bool.and_eq_true, beq_iff_eq] at h
    obtain ⟨q, hq, hb, he⟩ := h
    exact ⟨_, Array.getElem_mem hq, hb, he⟩
  have wt' : ∀ {o : Oper} {e}, e ∈ o.after → Region.binds .any e = true → waits o e.on = true := fun {o e} he hb => by
    simp only [waits, Array.any_eq_true, Bool.and_eq_true, beq_iff_eq]
    obtain ⟨q, hq, rfl⟩ := Array.mem_iff_getElem.1 he
    exact ⟨q, hq, hb, rfl⟩
  intro n
  induction n with
  | zero =>
    intro rem listed L H a w hn hnr hls hmem hlN hcl hI
    obtain rfl := List.eq_nil_of_length_eq_zero hn
    have lst : ∀ j, j < N → listed.getD j true = true := fun j hj => by
      cases hl : listed.getD j true with
      | true => rfl
      | false => exact absurd ((hmem j).2 ⟨hj, hl⟩) (by simp)
    have hNr : N ∈ Region.ready .any ops listed := by
      refine mem_ready.2 ⟨hlN, oN, hN, fun e he hb => ?_⟩
      have hlt' := hback N oN hN e.on (wt' he hb)
      have h1 := lst e.on hlt'
      have : e.on < listed.size := by omega
      simp [this] at h1 ⊢; exact h1
    refine ⟨fun h0 => (by rw [h0] at hNr; cases hNr), fun j hj => ?_⟩
    have ejN : j = N := by
      obtain ⟨h0, oj, hoj, _⟩ := mem_ready.1 hj
      have hjs := (Array.getElem?_eq_some_iff.1 hoj).1
      rcases Nat.lt_or_ge j N with h' | h'
      · rw [lst j h'] at h0; cases h0
      · omega
    subst ejN
    unfold wpOp
    simp only [hN, want j oN hN, if_true]
    have ea : a = actS ds (fun i => a.tmps.getD (ds.getD i 0) undef) a0 := by
      have := putS_eta (T := a0.tmps) (T' := a.tmps) hnd hI.size hlt hI.off
      unfold actS
      rw [← this]
      cases a; cases a0
      simp only [Act.mk.injEq, true_and]
      exact hI.defers
    refine .inl ?_
    have h := hend (fun i => a.tmps.getD (ds.getD i 0) undef) L H w hI.ext (fun k hk => hI.spec k hk (lst k hk)) (fun k l hk hl hne => hI.apart k l hk hl hne (lst k hk) (lst l hl))
    rw [← ea] at h
    refine wp_Qn (fun a' w' h1 => ⟨?_, h1⟩) h
    rw [List.eq_nil_iff_forall_not_mem]
    intro k hk
    obtain ⟨h0, ok, hok, _⟩ := mem_ready.1 hk
    have hks := (Array.getElem?_eq_some_iff.1 hok).1
    by_cases e : j = k
    · subst e
      have : j < listed.size := by omega
      simp [this] at h0
    · rw [getD_set_ne true e, lst k (by omega)] at h0; cases h0
  | succ n ih =>
    intro rem listed L H a w hn hnr hls hmem hlN hcl hI
    have inrem : ∀ j, j ∈ Region.ready .any ops listed → j ∈ rem := fun j hj => by
      obtain ⟨h0, o, ho, hall⟩ := mem_ready.1 hj
      have hjs := (Array.getElem?_eq_some_iff.1 ho).1
      rcases Nat.lt_or_ge j N with h' | h'
      · exact (hmem j).2 ⟨h', h0⟩
      · exfalso
        obtain rfl : j = N := by omega
        cases rem with
        | nil => simp at hn
        | cons k rest =>
          obtain ⟨k1, k2⟩ := (hmem k).1 (by simp)
          rw [hN] at ho; obtain rfl := Option.some.inj ho
          obtain ⟨e, he, hb, hk⟩ := wt (hNw k k1)
          have h1 := hall e he hb
          rw [hk] at h1
          have : k < listed.size := by omega
          simp [this] at k2 h1
          rw [k2] at h1; cases h1
    refine ⟨fun h0 => ?_, fun i hi => ?_⟩
    · exfalso
      have key : ∀ m k, k ≤ m → k ∈ rem → False := by
        intro m
        induction m with
        | zero =>
          intro k hk hkm
          obtain ⟨k1, k2⟩ := (hmem k).1 hkm
          obtain ⟨o, ho⟩ : ∃ o, ops[k]? = some o := ⟨_, Array.getElem?_eq_getElem (by omega)⟩
          have : k ∈ Region.ready .any ops listed := mem_ready.2 ⟨k2, o, ho, fun e he hb => by have := hback k o ho e.on (wt' he hb); omega⟩
          rw [h0] at this; cases this
        | succ m ihm =>
          intro k hk hkm
          obtain ⟨k1, k2⟩ := (hmem k).1 hkm
          obtain ⟨o, ho⟩ : ∃ o, ops[k]? = some o := ⟨_, Array.getElem?_eq_getElem (by omega)⟩
          have : k ∈ Region.ready .any ops listed := mem_ready.2 ⟨k2, o, ho, fun e he hb => by
            have hlt' := hback k o ho e.on (wt' he hb)
            cases hl : listed.getD e.on true with
            | true =>
              have : e.on < listed.size := by omega
              simp [this] at hl ⊢; exact hl
            | false => exact (ihm e.on (by omega) ((hmem e.on).2 ⟨by omega, hl⟩)).elim⟩
          rw [h0] at this; cases this
      obtain ⟨k, hk⟩ : ∃ k, k ∈ rem := by
        cases rem with
        | nil => simp at hn
        | cons k rest => exact ⟨k, by simp⟩
      exact key k k (Nat.le_refl _) hk
    · have him := inrem i hi
      obtain ⟨hiN, hiu⟩ := (hmem i).1 him
      obtain ⟨_, o, ho, hall⟩ := mem_ready.1 hi
      have hal : ∀ {j}, j < listed.size → listed.getD j false = true → listed.getD j true = true := fun {j} hj h => by simp [hj] at h ⊢; exact h
      have hla : ∀ {j}, listed.getD j true = true → j < listed.size → listed.getD j false = true := fun {j} h hj => by simp [hj] at h ⊢; exact h
      have hdep : ∀ j, waits o j = true → j < N ∧ listed.getD j true = true := fun j hj => by
        have hlt' := hback i o ho j hj
        obtain ⟨e, he, hb, rfl⟩ := wt hj
        exact ⟨by omega, hal (by omega) (hall e he hb)⟩
      have ea : a = actS ds (fun i => a.tmps.getD (ds.getD i 0) undef) a0 := by
        have := putS_eta (T := a0.tmps) (T' := a.tmps) hnd hI.size hlt hI.off
        unfold actS
        rw [← this]
        cases a; cases a0
        simp only [Act.mk.injEq, true_and]
        exact hI.defers
      have h := hstep i o hiN ho (fun i => a.tmps.getD (ds.getD i 0) undef) L H w hI.ext (fun j hj => hI.spec j (hdep j hj).1 (hdep j hj).2)
      rw [← ea] at h
      unfold wpOp
      simp only [ho, want i o ho, if_true]
      refine .inl (wp_Qn (fun a' w' h1 => ?_) h)
      obtain ⟨v, rfl, hE, hS⟩ := h1
      obtain ⟨d, hd⟩ : ∃ d, ds[i]? = some d := ⟨_, List.getElem?_eq_getElem (by omega)⟩
      have hod : o.dst = some d := (hdd i o hiN ho).trans hd
      have hdm : d ∈ ds := List.mem_of_getElem? hd
      have hdl : d < a.tmps.size := by rw [hI.size]; exact hlt d hdm
      have hput : (a.put o.dst v).tmps = a.tmps.setIfInBounds d v := by rw [hod]; rfl
      have hne : ∀ {j}, j < N → j ≠ i → ds.getD j 0 ≠ d := fun {j} hj hji e => by
        have h1 : ds[j]? = some (ds.getD j 0) := by rw [List.getD_eq_getElem?_getD, List.getElem?_eq_getElem (by omega)]; rfl
        rw [e] at h1
        have hj' := (List.getElem?_eq_some_iff.1 h1)
        have hi' := (List.getElem?_eq_some_iff.1 hd)
        obtain ⟨hj1, hj2⟩ := hj'
        obtain ⟨hi1, hi2⟩ := hi'
        exact hji ((List.getElem_inj hnd).1 (hj2.trans hi2.symm))
      have hσ : ∀ j, j < N → j ≠ i → (a.put o.dst v).tmps.getD (ds.getD j 0) undef = a.tmps.getD (ds.getD j 0) undef := fun j hj hji => by
        rw [hput, Array.getD_eq_getD_getElem?, Array.getD_eq_getD_getElem?, Array.getElem?_setIfInBounds_ne (Ne.symm (hne hj hji))]
      have hσi : (a.put o.dst v).tmps.getD (ds.getD i 0) undef = v := by
        have e : ds.getD i 0 = d := by rw [List.getD_eq_getElem?_getD, hd]; rfl
        rw [hput, e, Array.getD_eq_getD_getElem?, arr_set hdl, if_pos rfl]; rfl
      have hlist : ∀ j, j < N → j ≠ i → (listed.setIfInBounds i true).getD j true = listed.getD j true := fun j _ hji => getD_set_ne true (Ne.symm hji)
      have hils : i < listed.size := by omega
      refine ih (rem.erase i) (listed.setIfInBounds i true) (fun j => if j = i then w.heap.size else L j) (fun j => if j = i then w'.heap.size else H j) (a.put o.dst v) w' ?_ (hnr.erase i) (by simp [hls]) ?_ ?_ (hcl.step hi) ?_
      · rw [List.length_erase_of_mem him, hn]; rfl
      · intro j
        rw [hnr.mem_erase_iff, hmem j]
        by_cases e : j = i
        · subst e
          simp [hils]
        · simp only [e, ne_eq, not_false_eq_true, true_and]
          constructor
          · rintro ⟨h1, h2⟩; exact ⟨h1, by rw [getD_set_ne true (Ne.symm e)]; exact h2⟩
          · rintro ⟨h1, h2⟩; exact ⟨h1, by rw [getD_set_ne true (Ne.symm e)] at h2; exact h2⟩
      · rw [getD_set_ne true (by omega)]; exact hlN
      · refine ⟨by rw [hod]; exact hI.defers, by rw [hput]; simpa using hI.size, fun s hs => ?_, hI.ext.trans hE, fun j hj hjl => ?_, fun j k hj hk hne' hjl hkl => ?_⟩
        · rw [hput, Array.getElem?_setIfInBounds_ne (fun e => hs (by rw [← e]; exact hdm))]; exact hI.off s hs
        · by_cases e : j = i
          · subst e
            simp only [if_true]
            refine ⟨hI.ext.size, hE.size, Nat.le_refl _, hloc j o hiN ho _ _ _ _ _ (fun k hk => ?_) hS⟩
            rcases hk with rfl | hk
            · simp only [if_true]; exact hσi.symm
            · have hlt' := hback j o ho k hk
              have hkj : k ≠ j := by omega
              simp only [hkj, if_false]
              exact (hσ k (by omega) hkj).symm
          · rw [hlist j hj e] at hjl
            obtain ⟨s1, s2, s3, s4⟩ := hI.spec j hj hjl
            simp only [e, if_false]
            obtain ⟨oj, hoj⟩ : ∃ oj, ops[j]? = some oj := ⟨_, Array.getElem?_eq_getElem (by omega)⟩
            refine ⟨s1, s2, Nat.le_trans s3 hE.size, hloc j oj hj hoj _ _ _ _ _ (fun k hk => ?_) (hext j hj _ _ _ _ _ s4 s3 hE)⟩
            have hkN : k < N ∧ k ≠ i := by
              rcases hk with rfl | hk
              · exact ⟨hj, e⟩
              · have hlt' := hback j oj hoj k hk
                refine ⟨by omega, fun e2 => ?_⟩
                subst e2
                obtain ⟨ee, he, hb, hek⟩ := wt hk
                have := hcl j oj hoj (hla hjl (by omega)) ee he hb
                rw [hek] at this
                have := hal hils this
                rw [hiu] at this; cases this
            exact (hσ k hkN.1 hkN.2).symm
        · by_cases ej : j = i
          · subst ej
            have hkj : k ≠ j := Ne.symm hne'
            rw [hlist k hk hkj] at hkl
            simp only [if_true, hkj, if_false]
            exact .inr (hI.spec k hk hkl).2.2.1
          · by_cases ek : k = i
            · subst ek
              rw [hlist j hj ej] at hjl
              simp only [if_true, ej, if_false]
              exact .inl (hI.spec j hj hjl).2.2.1
            · rw [hlist j hj ej] at hjl
              rw [hlist k hk ek] at hkl
              simp only [ej, ek, if_false]
              exact hI.apart j k hj hk hne' hjl hkl
end
end Go.Proofs.Ytbbpipbemhggdaa
