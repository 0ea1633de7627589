/- A region that draws its order, each operation with a claim of its own on its value; an operation may change the blocks that its relation names; a counted invariant goes along. No last operation. -/
import Derived.Test.YtbbpipbemhggdaaFlowJ
namespace Go.Proofs.Ytbbpipbemhggdaa
open Go.RowKit
set_option linter.unusedSimpArgs false
set_option linter.unusedVariables false

/-- What is known of the operations that have come up. -/
structure FlowDI (ds : List (Option Nat)) (S : Nat → Value → World → Prop) (G : World → World → Prop) (J : Nat → World → Prop) (N : Nat) (a0 : Act) (w0 : World) (k : Nat) (listed : Array Bool) (a : Act) (w : World) : Prop where
  defers : a.defers = a0.defers
  size : a.tmps.size = a0.tmps.size
  off : ∀ s, some s ∉ ds → a.tmps[s]? = a0.tmps[s]?
  ext : G w0 w
  inv : J k w
  spec : ∀ j, j < N → listed.getD j true = true → S j (valO ds a.tmps j) w

section
variable {P : Program} {ops : Array Oper} {Q : Exit → Act → World → Prop}
theorem flowD_sound {N : Nat} {a0 : Act} {w0 : World} {ds : List (Option Nat)} {S : Nat → Value → World → Prop} {G : World → World → Prop} {Gi : Nat → World → World → Prop} {J : Nat → World → Prop} (hGt : ∀ a b c, G a b → G b c → G a c) (hGi : ∀ i a b, i < N → Gi i a b → G a b)
    (hsz : ops.size = N) (hgd : ∀ (i : Nat) (o : Oper), ops[i]? = some o → o.guard = none) (hds : ds.length = N) (hdd : ∀ (i : Nat) (o : Oper), ops[i]? = some o → some o.dst = ds[i]?)
    (hnd : (ds.filterMap id).Nodup) (hlt : ∀ d, some d ∈ ds → d < a0.tmps.size) (hback : ∀ (i : Nat) (o : Oper), ops[i]? = some o → ∀ j, waits o j = true → j < i)
    (hext : ∀ i j, i < N → j < N → i ≠ j → ∀ (v : Value) w w', G w0 w → S j v w → Gi i w w' → S j v w')
    (hstep : ∀ (i : Nat) (o : Oper), ops[i]? = some o → ∀ (σ : Nat → Value) (k : Nat) w, G w0 w → k < N → J k w → (∀ j, waits o j = true → S j (σ j) w) →
      o.wp P (actO ds σ a0) w (fun a' w' => ∃ v, a' = (actO ds σ a0).put o.dst v ∧ (o.dst = none → v = undef) ∧ Gi i w w' ∧ J (k + 1) w' ∧ S i v w') Qn)
    (hend : ∀ (σ : Nat → Value) w, G w0 w → J N w → (∀ j, j < N → S j (σ j) w) → Q .normal (actO ds σ a0) w) :
    ∀ (n k : Nat) (rem : List Nat) (listed : Array Bool) (a : Act) (w : World), rem.length = n → k + n = N → rem.Nodup → listed.size = ops.size → (∀ j, j ∈ rem ↔ j < N ∧ listed.getD j true = false) → Closed ops listed →
      FlowDI ds S G J N a0 w0 k listed a w → wpAny P .any ops Q n listed a w := by
  have want : ∀ (i : Nat) (o : Oper), ops[i]? = some o → ∀ y, Region.wanted o y = true := fun i o hi y => by simp [Region.wanted, hgd i o hi]
  have wt : ∀ {o : Oper} {j : Nat}, waits o j = true → ∃ e ∈ o.after, Region.binds .any e = true ∧ e.on = j := fun {o j} h => by
    simp only [waits, Array.any_eq_true, Bool.and_eq_true, beq_iff_eq] at h
    obtain ⟨q, hq, hb, he⟩ := h
    exact ⟨_, Array.getElem_mem hq, hb, he⟩
  have wt' : ∀ {o : Oper} {e}, e ∈ o.after → Region.binds .any e = true → waits o e.on = true := fun {o e} he hb => by
    simp only [waits, Array.any_eq_true, Bool.and_eq_true, beq_iff_eq]
    obtain ⟨q, hq, rfl⟩ := Array.mem_iff_getElem.1 he
    exact ⟨q, hq, hb, rfl⟩
  have frame : ∀ {k : Nat} {listed : Array Bool} {a : Act} {w : World}, FlowDI ds S G J N a0 w0 k listed a w → a = actO ds (valO ds a.tmps) a0 := fun {k listed a w} hI => by
    have := putO_eta (T := a0.tmps) (T' := a.tmps) hnd hI.size hlt hI.off
    unfold actO
    rw [← this]
    cases a; cases a0
    simp only [Act.mk.injEq, true_and]
    exact hI.defers
  intro n
  induction n with
  | zero =>
    intro k rem listed a w hn hk hnr hls hmem hcl hI
    obtain rfl := List.eq_nil_of_length_eq_zero hn
    have lst : ∀ j, j < N → listed.getD j true = true := fun j hj => by
      cases hl : listed.getD j true with
      | true => rfl
      | false => exact absurd ((hmem j).2 ⟨hj, hl⟩) (by simp)
    refine ⟨?_, ?_⟩
    · rw [List.eq_nil_iff_forall_not_mem]
      intro j hj
      obtain ⟨h0, oj, hoj, _⟩ := mem_ready.1 hj
      have hjs := (Array.getElem?_eq_some_iff.1 hoj).1
      rw [lst j (by omega)] at h0; cases h0
    · have h := hend (valO ds a.tmps) w hI.ext (by have := hI.inv; rwa [show k = N by omega] at this) (fun j hj => hI.spec j hj (lst j hj))
      rw [← frame hI] at h
      exact h
  | succ n ih =>
    intro k rem listed a w hn hk hnr hls hmem hcl hI
    have inrem : ∀ j, j ∈ Region.ready .any ops listed → j ∈ rem := fun j hj => by
      obtain ⟨h0, o, ho, hall⟩ := mem_ready.1 hj
      have hjs := (Array.getElem?_eq_some_iff.1 ho).1
      exact (hmem j).2 ⟨by omega, h0⟩
    refine ⟨fun h0 => ?_, fun i hi => ?_⟩
    · exfalso
      have key : ∀ m k, k ≤ m → k ∈ rem → False := by
        intro m
        induction m with
        | zero =>
          intro k hk hkm
          obtain ⟨k1, k2⟩ := (hmem k).1 hkm
          obtain ⟨o, ho⟩ : ∃ o, ops[k]? = some o := ⟨_, Array.getElem?_eq_getElem (by omega)⟩
          have : k ∈ Region.ready .any ops listed := mem_ready.2 ⟨k2, o, ho, fun e he hb => by have := hback k o ho e.on (wt' he hb); omega⟩
          rw [h0] at this; cases this
        | succ m ihm =>
          intro k hk hkm
          obtain ⟨k1, k2⟩ := (hmem k).1 hkm
          obtain ⟨o, ho⟩ : ∃ o, ops[k]? = some o := ⟨_, Array.getElem?_eq_getElem (by omega)⟩
          have : k ∈ Region.ready .any ops listed := mem_ready.2 ⟨k2, o, ho, fun e he hb => by
            have hlt' := hback k o ho e.on (wt' he hb)
            cases hl : listed.getD e.on true with
            | true =>
              have : e.on < listed.size := by omega
              simp [this] at hl ⊢; exact hl
            | false => exact (ihm e.on (by omega) ((hmem e.on).2 ⟨by omega, hl⟩)).elim⟩
          rw [h0] at this; cases this
      obtain ⟨k, hk⟩ : ∃ k, k ∈ rem := by
        cases rem with
        | nil => simp at hn
        | cons k rest => exact ⟨k, by simp⟩
      exact key k k (Nat.le_refl _) hk
    · have him := inrem i hi
      obtain ⟨hiN, hiu⟩ := (hmem i).1 him
      obtain ⟨_, o, ho, hall⟩ := mem_ready.1 hi
      have hal : ∀ {j}, j < listed.size → listed.getD j false = true → listed.getD j true = true := fun {j} hj h => by simp [hj] at h ⊢; exact h
      have hdep : ∀ j, waits o j = true → j < N ∧ listed.getD j true = true := fun j hj => by
        have hlt' := hback i o ho j hj
        obtain ⟨e, he, hb, rfl⟩ := wt hj
        exact ⟨by omega, hal (by omega) (hall e he hb)⟩
      have hisz : i < listed.size := by omega
      have h := hstep i o ho (valO ds a.tmps) k w hI.ext (by omega) hI.inv (fun j hj => hI.spec j (hdep j hj).1 (hdep j hj).2)
      rw [← frame hI] at h
      unfold wpOp
      simp only [ho, want i o ho, if_true]
      refine .inl (wp_Qn (fun a' w' h1 => ?_) h)
      obtain ⟨v, rfl, hvn, hE, hJ, hS⟩ := h1
      have hod : ds[i]? = some o.dst := (hdd i o ho).symm
      have hdef : (a.put o.dst v).defers = a.defers := by cases o.dst <;> rfl
      have htsz : (a.put o.dst v).tmps.size = a.tmps.size := by
        cases o.dst with
        | none => rfl
        | some d => simp [Act.put]
      have hoff : ∀ s, o.dst ≠ some s → (a.put o.dst v).tmps[s]? = a.tmps[s]? := fun s hs => by
        cases hd : o.dst with
        | none => rfl
        | some d =>
          rw [hd] at hs
          show (a.tmps.setIfInBounds d v)[s]? = _
          rw [Array.getElem?_setIfInBounds_ne (fun e => hs (by rw [e]))]
      have hσ : ∀ j, j ≠ i → valO ds (a.put o.dst v).tmps j = valO ds a.tmps j := fun j hji => by
        cases hdj : ds[j]? with
        | none => simp [valO, hdj]
        | some x =>
          cases x with
          | none => rw [valO_no hdj, valO_no hdj]
          | some d =>
            rw [valO_at hdj, valO_at hdj, Array.getD_eq_getD_getElem?, Array.getD_eq_getD_getElem?, hoff d (fun e => hji (ids_inj hnd hdj (by rw [hod, e])))]
      have hσi : valO ds (a.put o.dst v).tmps i = v := by
        cases hd : o.dst with
        | none => rw [hd] at hod; rw [valO_no hod, hvn hd]
        | some d =>
          rw [hd] at hod
          have hdl : d < a.tmps.size := by rw [hI.size]; exact hlt d (List.mem_of_getElem? hod)
          rw [valO_at hod]
          show (a.tmps.setIfInBounds d v).getD d undef = v
          rw [Array.getD_eq_getD_getElem?, arr_set hdl, if_pos rfl]; rfl
      refine ih (k + 1) (rem.erase i) (listed.setIfInBounds i true) (a.put o.dst v) w' ?_ (by omega) (hnr.erase i) (by simp [hls]) ?_ (hcl.step hi) ?_
      · rw [List.length_erase_of_mem him, hn]; rfl
      · intro j
        rw [hnr.mem_erase_iff, hmem j]
        by_cases e : j = i
        · subst e
          simp [hisz]
        · simp only [e, ne_eq, not_false_eq_true, true_and]
          rw [getD_set_ne true (Ne.symm e)]
      · refine ⟨hdef.trans hI.defers, htsz.trans hI.size, fun s hs => ?_, hGt _ _ _ hI.ext (hGi i _ _ hiN hE), hJ, fun j hj hjl => ?_⟩
        · rw [hoff s (fun e => hs (by rw [← e]; exact List.mem_of_getElem? hod))]; exact hI.off s hs
        · by_cases e : j = i
          · subst e
            rw [hσi]; exact hS
          · rw [getD_set_ne true (Ne.symm e)] at hjl
            rw [hσ j e]
            exact hext i j hiN hj (Ne.symm e) _ _ _ hI.ext (hI.spec j hj hjl) hE

/-- What the text of the region must be. -/
def flowOkD (ops : List Oper) (ds : List (Option Nat)) : Bool :=
  (ops.all fun o => o.guard.isNone) && ((ops.map Oper.dst) == ds) && decide (ds.filterMap id).Nodup && ((List.range ops.length).all fun i => (ops[i]?).all fun o => o.after.all fun e => !Region.binds .any e || decide (e.on < i))
theorem wp_region_flowD (ds : List (Option Nat)) (G : World → World → Prop) (Gi : Nat → World → World → Prop) (J : Nat → World → Prop) (S : Nat → Value → World → Prop) {id : Nat} {a0 : Act} {w : World} {l : List Oper} (hm : P.follows .mixedOrders = true) (hok : flowOkD l ds = true)
    (hlt : ∀ d, some d ∈ ds → d < a0.tmps.size) (hGr : ∀ a, G a a) (hGt : ∀ a b c, G a b → G b c → G a c) (hGi : ∀ i a b, i < ds.length → Gi i a b → G a b) (hGd : G w w.drew) (hJ0 : J 0 w.drew)
    (hext : ∀ i j, i < ds.length → j < ds.length → i ≠ j → ∀ (v : Value) w1 w', G w w1 → S j v w1 → Gi i w1 w' → S j v w')
    (hstep : ∀ (i : Nat) (o : Oper), l[i]? = some o → ∀ (σ : Nat → Value) (k : Nat) w1, G w w1 → k < ds.length → J k w1 → (∀ j, waits o j = true → S j (σ j) w1) →
      o.wp P (actO ds σ a0) w1 (fun a' w' => ∃ v, a' = (actO ds σ a0).put o.dst v ∧ (o.dst = none → v = undef) ∧ Gi i w1 w' ∧ J (k + 1) w' ∧ S i v w') Qn)
    (hend : ∀ (σ : Nat → Value) w1, G w w1 → J ds.length w1 → (∀ j, j < ds.length → S j (σ j) w1) → Q .normal (actO ds σ a0) w1) : (Code.region id l.toArray true).wp P Q a0 w := by
  simp only [flowOkD, Bool.and_eq_true, beq_iff_eq, decide_eq_true_eq, List.all_eq_true, List.mem_range] at hok
  obtain ⟨⟨⟨h2, h3⟩, h4⟩, h6⟩ := hok
  have get : ∀ (i : Nat) (o : Oper), l.toArray[i]? = some o → l[i]? = some o := fun i o h => by simpa using h
  have hlen : l.length = ds.length := by rw [← h3]; simp
  refine wp_region_any hm ?_
  have key := flowD_sound (P := P) (ops := l.toArray) (Q := Q) (N := ds.length) (a0 := a0) (w0 := w.drew) (ds := ds) (S := S) (G := G) (Gi := Gi) (J := J) hGt hGi (by simp [hlen])
    (fun i o h => by have := h2 o (List.mem_of_getElem? (get i o h)); simpa using this) rfl
    (fun i o h => by
      have h' := get i o h
      have e : (l.map Oper.dst)[i]? = some o.dst := by rw [List.getElem?_map, h']; rfl
      rw [h3] at e
      exact e.symm)
    h4 hlt
    (fun i o h j hw => by
      have h' := get i o h
      have hi : i < l.length := (List.getElem?_eq_some_iff.1 h').1
      have := h6 i hi
      rw [h'] at this
      simp only [Option.all_some, Array.all_eq_true_iff_forall_mem, Bool.or_eq_true, Bool.not_eq_true', decide_eq_true_eq] at this
      simp only [waits, Array.any_eq_true, Bool.and_eq_true, beq_iff_eq] at hw
      obtain ⟨q, hq, hb, he⟩ := hw
      rcases this _ (Array.getElem_mem hq) with hh | hh
      · rw [hb] at hh; cases hh
      · omega)
    (fun i j hi hj hij v w1 w' hg hs h => hext i j hi hj hij v w1 w' (hGt _ _ _ hGd hg) hs h)
    (fun i o h σ k w1 hg hk hj hd => hstep i o (get i o h) σ k w1 (hGt _ _ _ hGd hg) hk hj hd)
    (fun σ w1 hg hj hd => hend σ w1 (hGt _ _ _ hGd hg) hj hd)
  have h := key ds.length 0 (List.range ds.length) (Array.replicate l.toArray.size false) a0 w.drew (by simp) (by simp) List.nodup_range (by simp) (fun j => by
      simp only [List.mem_range]
      constructor
      · intro hj; exact ⟨hj, by simp [show j < l.length by omega]⟩
      · exact fun hj => hj.1) (closed_none _ _)
    ⟨rfl, rfl, fun s _ => rfl, hGr _, hJ0, fun j hj hl => by simp [show j < l.length by omega] at hl⟩
  have e : l.toArray.size = ds.length := by simp [hlen]
  rw [e] at h ⊢
  exact h
end
end Go.Proofs.Ytbbpipbemhggdaa
