/- The flow of a region's values: the law of the region; what its operations make. -/
import Derived.Test.YtbbpipbemhggdaaFlow
import Derived.Test.YtbbpipbemhggdaaSt
import Derived.Deep.AppendSrc
namespace Go.Proofs.Ytbbpipbemhggdaa
open Go.RowKit
set_option linter.unusedSimpArgs false
set_option linter.unusedVariables false

/-- What the text of the region must be. -/
def flowOk (ops : List Oper) (ds : List Nat) : Bool :=
  (ops.length == ds.length + 1) && (ops.all fun o => o.guard.isNone) && ((ops.dropLast.map Oper.dst) == ds.map some) && decide ds.Nodup &&
  ((List.range ds.length).all fun j => (ops[ds.length]?).any fun o => waits o j) && ((List.range ops.length).all fun i => (ops[i]?).all fun o => o.after.all fun e => !Region.binds .any e || decide (e.on < i))
section
variable {P : Program} {Q : Exit → Act → World → Prop}
theorem wp_region_flow (ds : List Nat) (S : Nat → (Nat → Value) → Nat → Nat → World → Prop) {id : Nat} {a0 : Act} {w : World} {l : List Oper} (hm : P.follows .mixedOrders = true) (hok : flowOk l ds = true)
    (hlt : ∀ d ∈ ds, d < a0.tmps.size)
    (hloc : ∀ (i : Nat) (o : Oper), i < ds.length → l[i]? = some o → ∀ (σ σ' : Nat → Value) lo hi w, (∀ j, (j = i ∨ waits o j = true) → σ j = σ' j) → S i σ lo hi w → S i σ' lo hi w)
    (hext : ∀ (i : Nat), i < ds.length → ∀ (σ : Nat → Value) lo hi w w', S i σ lo hi w → hi ≤ w.heap.size → Ext w w' → S i σ lo hi w')
    (hstep : ∀ (i : Nat) (o : Oper), i < ds.length → l[i]? = some o → ∀ (σ : Nat → Value) (L H : Nat → Nat) w1, Ext w w1 → (∀ j, waits o j = true → w.heap.size ≤ L j ∧ L j ≤ H j ∧ H j ≤ w1.heap.size ∧ S j σ (L j) (H j) w1) →
      o.wp P (actS ds σ a0) w1 (fun a' w' => ∃ v, a' = (actS ds σ a0).put o.dst v ∧ Ext w1 w' ∧ S i (fun j => if j = i then v else σ j) w1.heap.size w'.heap.size w') Qn)
    (hend : ∀ (oN : Oper), l[ds.length]? = some oN → ∀ (σ : Nat → Value) (L H : Nat → Nat) w1, Ext w w1 → (∀ j, j < ds.length → w.heap.size ≤ L j ∧ L j ≤ H j ∧ H j ≤ w1.heap.size ∧ S j σ (L j) (H j) w1) → (∀ j k, j < ds.length → k < ds.length → j ≠ k → H j ≤ L k ∨ H k ≤ L j) →
      oN.wp P (actS ds σ a0) w1 (fun a' w' => Q .normal a' w') Qn) : (Code.region id l.toArray true).wp P Q a0 w := by
  simp only [flowOk, Bool.and_eq_true, beq_iff_eq, decide_eq_true_eq, List.all_eq_true, List.mem_range] at hok
  obtain ⟨⟨⟨⟨⟨h1, h2⟩, h3⟩, h4⟩, h5⟩, h6⟩ := hok
  obtain ⟨oN, hN⟩ : ∃ o, l[ds.length]? = some o := ⟨_, List.getElem?_eq_getElem (by omega)⟩
  have get : ∀ (i : Nat) (o : Oper), l.toArray[i]? = some o → l[i]? = some o := fun i o h => by simpa using h
  have hdr : w.drew.heap = w.heap := rfl
  refine wp_region_any hm ?_
  have hE0 : Ext w w.drew := (Ext.refl w).drew
  have key := flow_sound (P := P) (ops := l.toArray) (Q := Q) (N := ds.length) (oN := oN) (a0 := a0) (w0 := w.drew) (ds := ds) (S := S) (by simp [h1]) (by simpa using hN)
    (fun i o h => by have := h2 o (List.mem_of_getElem? (get i o h)); simpa using this) rfl
    (fun i o hi h => by
      have h' := get i o h
      have e : (l.dropLast.map Oper.dst)[i]? = some o.dst := by
        rw [List.getElem?_map, List.dropLast_eq_take, List.getElem?_take, if_pos (by omega), h']; rfl
      rw [h3, List.getElem?_map] at e
      cases hd : ds[i]? with
      | none => rw [hd] at e; cases e
      | some d => rw [hd] at e; simpa using e.symm)
    h4 hlt
    (fun j hj => by have := h5 j hj; rw [hN] at this; simpa using this)
    (fun i o h j hw => by
      have h' := get i o h
      have hi : i < l.length := (List.getElem?_eq_some_iff.1 h').1
      have := h6 i hi
      rw [h'] at this
      simp only [Option.all_some, Array.all_eq_true_iff_forall_mem, Bool.or_eq_true, Bool.not_eq_true', decide_eq_true_eq] at this
      simp only [waits, Array.any_eq_true, Bool.and_eq_true, beq_iff_eq] at hw
      obtain ⟨q, hq, hb, he⟩ := hw
      rcases this _ (Array.getElem_mem hq) with hh | hh
      · rw [hb] at hh; cases hh
      · omega)
    (fun i o hi h => hloc i o hi (get i o h)) hext
    (fun i o hi h σ L H w1 hE hd => hstep i o hi (get i o h) σ L H w1 (hE0.trans hE) hd)
    (fun σ L H w1 hE hd hap => hend oN hN σ L H w1 (hE0.trans hE) hd hap)
  have h := key ds.length (List.range ds.length) (Array.replicate l.toArray.size false) (fun _ => 0) (fun _ => 0) a0 w.drew (by simp) List.nodup_range (by simp) (fun j => by
      simp only [List.mem_range]
      constructor
      · intro hj; exact ⟨hj, by simp [show j < l.length by omega]⟩
      · exact fun hj => hj.1) (by simp [h1]) (closed_none _ _)
    ⟨rfl, rfl, fun s _ => rfl, Ext.refl _, fun j hj hl => by simp [show j < l.length by omega] at hl, fun j k hj _ _ hl _ => by simp [show j < l.length by omega] at hl⟩
  have e : l.toArray.size = ds.length + 1 := by simp [h1]
  rw [e] at h ⊢
  exact h
end

section
variable {α : Type} {cells : α → List Value} {dat : α → Dat} {sch : Sch} {k bytes : Nat} {z : Value} {TS T : TypeId}
/-- append(nil or []T{}, x..): a copy in new memory, or the same nothing. -/
theorem wp_cloneS (hT : Try.prog.underlying TS = some (.slice T)) (hI : (Try.prog.info? T).map (fun i => (i.zero, i.size, i.bytes)) = some (some z, k, bytes)) (hz : z.cells.size = k) (hpos : 0 < k) (hby : bytes ≤ 1024)
    (hsz : sch.size = k) (hcl : ∀ x, (cells x).length = k) (hrd : ∀ hi w vs d, Rd hi w sch vs d → ∃ x, vs = cells x ∧ d = dat x) (hinj : ∀ x y, dat x = dat y → x = y) (hone : ∀ x, ∀ u ∈ cells x, u.oneCell' = true) (hown : ∀ w x, Own w sch (cells x) (dat x) [])
    {o : Oper} {a : Act} {K : Act → World → Prop} {Q : Exit → Act → World → Prop} {w : World} (s x : Operand) (ho : o.op = .call { callee := .builtin .append, args := #[s, x], argTypes := #[TS, TS] })
    {base : Option Addr} (hs : a.eval s = .slice base 0 0) (hb : base = none ∨ ∃ g, base = some (⟨g, 0, none⟩ : Addr)) (ys : List α) {ad : Option Addr} {m c : Nat} (hx : a.eval x = .slice ad m c) (hy : Re w (.sl sch) [.slice ad m c] (.l (ys.map dat))) (hn : m ≤ 1048576)
    (h : ∀ a' c' t', OwnR w.heap.size (ext w t').heap.size (ext w t') (.sl sch) [.slice a' m c'] (.l (ys.map dat)) → K (a.put o.dst (.slice a' m c')) (ext w t')) : o.wp Try.prog a w K Q := by
  have hm := hy.len
  cases hi : Try.prog.info? T with
  | none => rw [hi] at hI; cases hI
  | some i =>
    have hI0 := hI
    rw [hi] at hI
    simp only [Option.map_some, Option.some.injEq, Prod.mk.injEq] at hI
    obtain ⟨i1, i2, i3⟩ := hI
    rcases Nat.eq_zero_or_pos m with h0 | h0
    · subst h0
      obtain rfl : ys = [] := List.length_eq_zero_iff.1 hm.symm
      have hsrc : Src Try.prog i.size TS (.slice ad 0 c) 0 [] w := by
        cases ad with
        | none => exact Src.ofNil _ hT c
        | some ad => exact Src.ofSlice _ hT ad 0 c [] (by simp) (fun j u hu => by simp at hu) (fun u hu => by simp at hu)
      have hrun := run_append_nothing (P := Try.prog) w TS TS o.type T i hT hi base 0 0 (Nat.le_refl _) (.slice ad 0 c) hsrc
      unfold Oper.wp
      simp [execOp, ho, resolve, invoke, builtin, hs, hx, hrun, Result.andThen]
      have := h base 0 ⟨#[], w.drawn⟩ ⟨Nat.le_refl _, [], by simp, by simp, by unfold Own; exact ⟨[], rfl, Nat.zero_le _, .inl ⟨rfl, rfl, base, 0, rfl⟩⟩⟩
      rwa [ext_refl] at this
    · rcases hy.row hsz hcl hrd hinj with he | ⟨b, o', e, _, hc⟩
      · subst he; simp at hm; omega
      · subst e
        have hsrc : Src Try.prog i.size TS (.slice (some ⟨b, o', none⟩) m c) m (ys.flatMap cells) w := by
          refine Src.ofSlice _ hT _ m c _ ?_ ?_ ?_
          · rw [hm, i2, List.length_flatMap, List.map_congr_left (g := fun _ => k) (fun x _ => hcl x), List.map_const', List.sum_replicate_nat]
          · intro j u hu; rw [ld_add]; exact hc j u hu
          · intro u hu
            obtain ⟨y, _, hy'⟩ := List.mem_flatMap.1 hu
            exact hone y u hy'
        have hfit : Builtin.nextslicecap (0 + m) 0 * i.bytes ≤ 281474976710656 := by
          rw [Nat.zero_add, nextslicecap_zero h0, i3]
          calc m * bytes ≤ 1048576 * 1024 := Nat.mul_le_mul hn hby
            _ ≤ 281474976710656 := by decide
        have hold : ∀ base : Option Addr, (base = none ∨ ∃ g, base = some (⟨g, 0, none⟩ : Addr)) → (Builtin.firstCells i.size 0 (.slice base 0 0)).run Try.prog w.drew = .ok ([] : List Value).toArray w.drew := fun base hb => by
          rcases hb with rfl | ⟨g, rfl⟩
          · exact run_firstCells_none _ _ _ _ _
          · exact run_firstCells_some (P := Try.prog) w.drew i.size 0 ⟨g, 0, none⟩ 0 0 [] (by simp) (fun j v hv => by simp at hv)
        have run : ∀ base : Option Addr, (base = none ∨ ∃ g, base = some (⟨g, 0, none⟩ : Addr)) → _ := fun base hb => run_append_grow_src (P := Try.prog) (w := w) TS TS o.type T i z hT hi i1 base 0 0 [] (hold base hb) (.slice (some ⟨b, o', none⟩) m c) m (ys.flatMap cells) hsrc (by omega) (by omega) hfit
        have e1 := (run base hb).trans (run none (.inl rfl)).symm
        have h2 := wp_clone (K := K) (Q := Q) hT hI0 hz hpos hby hsz hcl hrd hinj hone hown (o := { o with op := .call { callee := .builtin .append, args := #[.const (.slice none 0 0), x], argTypes := #[TS, TS] } }) (a := a) (w := w) (.const (.slice none 0 0)) x rfl rfl ys hx hy hn h
        have ec : a.eval (.const (.slice none 0 0)) = .slice none 0 0 := rfl
        unfold Oper.wp at h2 ⊢
        simp only [execOp, ho, resolve, invoke, builtin, Sem.run_bind, Sem.run_pure, Result.andThen_ok, List.map_toArray, List.map_cons, List.map_nil, hs, hx, ec] at h2 ⊢
        rw [e1]
        generalize ((Builtin.append_ #[TS, TS] o.type #[Value.slice none 0 0, Value.slice (some { block := b, off := o' }) m c]).run Try.prog w) = r at h2 ⊢
        clear e1 run hold hfit hsrc hc hy
        cases r with
        | halt x w' => cases x <;> exact h2
        | ok v w' => exact h2
end
end Go.Proofs.Ytbbpipbemhggdaa
