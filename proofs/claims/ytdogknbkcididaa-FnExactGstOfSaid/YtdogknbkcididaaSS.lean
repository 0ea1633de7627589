/- Slices of slices: what they read as, how many cells they have in all, and the laws' helpers at them. -/
import Derived.Test.YtdogknbkcididaaSt
import Derived.Test.YtdogknbkcididaaTPcl
import Derived.Test.YtdogknbkcididaaTInt
namespace Go.Proofs.Ytdogknbkcididaa
open Go.RowKit
set_option linter.unusedSimpArgs false
set_option linter.unusedVariables false

def ldat {α : Type} (dat : α → Dat) (xs : List α) : Dat := .l (xs.map dat)
/-- What is left when these many cells are taken, one after the other; -1: too many. -/
def szRun (left : Int) : List Nat → Int
  | [] => left
  | n :: ns => if left < (n : Int) then -1 else szRun (left - n) ns
theorem szRun_fail (left : Int) (n : Nat) (ns : List Nat) (h : left < (n : Int)) : szRun left (n :: ns) = -1 := by simp [szRun, h]
theorem szRun_step (left : Int) (n : Nat) (ns : List Nat) (h : ¬ left < (n : Int)) : szRun left (n :: ns) = szRun (left - n) ns := by simp only [szRun]; rw [if_neg h]
theorem szRun_le : ∀ (ns : List Nat) (left : Int), 0 ≤ left → -1 ≤ szRun left ns ∧ szRun left ns ≤ left
  | [], left, h => by simp only [szRun]; omega
  | n :: ns, left, h => by
    simp only [szRun]
    split
    · omega
    · have := szRun_le ns (left - n) (by omega)
      omega
theorem szRun_app : ∀ (us ms : List Nat) (left : Int), 0 ≤ left → szRun left (us ++ ms) = if szRun left us < 0 then -1 else szRun (szRun left us) ms
  | [], ms, left, h => by have h1 : ¬ left < 0 := by omega
                          simp [szRun, h1]
  | n :: ns, ms, left, h => by
    simp only [szRun, List.cons_append]
    split
    · rfl
    · rw [szRun_app ns ms (left - n) (by omega)]
theorem szRun_fail_app (us ms : List Nat) (left : Int) (h0 : 0 ≤ left) (h : szRun left us < 0) : szRun left (us ++ ms) = -1 := by rw [szRun_app us ms left h0, if_pos h]
theorem szRun_mem : ∀ (ns : List Nat) (left : Int), 0 ≤ left → 0 ≤ szRun left ns → ∀ n ∈ ns, (n : Int) ≤ left
  | [], _, _, _ => by simp
  | k :: ns, left, h, h1 => by
    intro n hn
    simp only [szRun] at h1
    split at h1
    · omega
    · rcases List.mem_cons.1 hn with rfl | hn
      · omega
      · have := szRun_mem ns (left - k) (by omega) h1 n hn
        omega

section
variable {α : Type} {dat : α → Dat} {sch : Sch}
theorem at_SS {w : World} {a : Option Addr} {n c : Nat} {xss : List (List α)} (h : Re w (.sl (.sl sch)) [.slice a n c] (.l (xss.map (ldat dat)))) {k : Nat} (hk : k < n) :
    ∃ xs b o a' c', xss[k]? = some xs ∧ a = some (⟨b, o, none⟩ : Addr) ∧ b < w.heap.size ∧ w.cell? ⟨b, o + k, none⟩ = some (.slice a' xs.length c') ∧ Re w (.sl sch) [.slice a' xs.length c'] (.l (xs.map dat)) := by
  unfold Re Rd at h
  obtain ⟨a', n', c', ds, h1, h2, h3, h4, h5⟩ := h
  simp only [List.cons.injEq, Value.slice.injEq, and_true] at h1
  obtain ⟨rfl, rfl, rfl⟩ := h1
  simp only [Dat.l.injEq] at h2
  subst h2
  have hk' : k < xss.length := by rw [List.length_map] at h3; omega
  obtain ⟨b, o, es, ha, hb, hc, hr⟩ := h5 k (ldat dat xss[k]) (by simp [hk'])
  have hr' : Re w (.sl sch) es (.l (xss[k].map dat)) := hr
  obtain ⟨a2, c2, rfl⟩ := hr'.slice
  rw [List.length_map] at hc hr'
  refine ⟨xss[k], b, o, a2, c2, by simp [hk'], ha, hb, ?_, hr'⟩
  have := hc 0 _ rfl
  simpa [Sch.size] using this
theorem SS.len {w : World} {a : Option Addr} {n c : Nat} {xss : List (List α)} (h : Re w (.sl (.sl sch)) [.slice a n c] (.l (xss.map (ldat dat)))) : n = xss.length := h.len

/-- The first k elements are in place, and one owns what they lead to. -/
def Fill2 (lo : Nat) (w : World) (e : Sch) (arr : Array Value) (ds : List Dat) (k : Nat) : Prop :=
  ∃ Bs : List (List Nat), Bs.length = k ∧ Bs.flatten.Nodup ∧ (∀ b ∈ Bs.flatten, lo ≤ b ∧ b < w.heap.size) ∧ ∀ i x, i < k → ds[i]? = some x → ∃ es Bi, Bs[i]? = some Bi ∧ es.length = e.size ∧ (∀ j v, es[j]? = some v → arr[i * e.size + j]? = some v) ∧ Own w e es x Bi
theorem Fill2.zero (lo : Nat) (w : World) (e : Sch) (arr : Array Value) (ds : List Dat) : Fill2 lo w e arr ds 0 :=
  ⟨[], rfl, by simp, by simp, fun i x hi => absurd hi (Nat.not_lt_zero _)⟩
theorem Fill2.step {w : World} {e : Sch} {arr : Array Value} {T : TypeId} {t s : Xt} {ds : List Dat} {k : Nat} {vs : List Value} {x : Dat} (h : Fill2 (w.heap.size + 1) (ext (w.alloc (.cells arr T)) t) e arr ds k) (hx : ds[k]? = some x)
    (ho : OwnR (ext (w.alloc (.cells arr T)) t).heap.size (ext (ext (w.alloc (.cells arr T)) t) s).heap.size (ext (ext (w.alloc (.cells arr T)) t) s) e vs x) (hv : vs.length = e.size) (hk : k * e.size + e.size ≤ arr.size) :
    Fill2 (w.heap.size + 1) (ext (w.alloc (.cells (putRow arr (k * e.size) vs) T)) (t.add s)) e (putRow arr (k * e.size) vs) ds (k + 1) := by
  obtain ⟨Bs, hl, hn, hr, hi⟩ := h
  obtain ⟨_, B, hBn, hBr, hBo⟩ := ho
  have hsz : ∀ (o : Obj) (t : Xt), (ext (w.alloc o) t).heap.size = w.heap.size + 1 + t.bs.size := fun o t => by simp [ext_size]
  have hadd : (t.add s).bs.size = t.bs.size + s.bs.size := by simp [Xt.add]
  have hal : ∀ o : Obj, (w.alloc o).heap.size = w.heap.size + 1 := fun o => by simp
  have hsame : ∀ b, w.heap.size + 1 ≤ b → (ext (w.alloc (.cells (putRow arr (k * e.size) vs) T)) (t.add s)).heap[b]? = (ext (ext (w.alloc (.cells arr T)) t) s).heap[b]? := fun b hb => by
    rw [ext_ext, ext_heap, ext_heap, Array.getElem?_append, Array.getElem?_append]
    simp only [hal]
    rw [if_neg (by omega), if_neg (by omega)]
  refine ⟨Bs ++ [B], by simp [hl], ?_, ?_, ?_⟩
  · rw [List.flatten_append, List.flatten_singleton]
    refine List.nodup_append.2 ⟨hn, hBn, fun p hp q hq e => ?_⟩
    have h1 := hr p hp; have h2 := hBr q hq
    omega
  · intro b hb
    rw [List.flatten_append, List.flatten_singleton] at hb
    rw [hsz, hadd]
    rcases List.mem_append.1 hb with hb | hb
    · have := hr b hb; rw [hsz] at this; omega
    · have := hBr b hb; rw [ext_ext, hsz, hsz, hadd] at this; omega
  · intro i y hik hy
    rcases Nat.lt_or_ge i k with hlt | hge
    · obtain ⟨es, Bi, h1, h0, h2, h3⟩ := hi i y hlt hy
      refine ⟨es, Bi, by rw [List.getElem?_append_left (by omega)]; exact h1, h0, fun j u hu => ?_, Own.same _ _ _ _ (fun b hb => ?_) h3⟩
      · have hj : j < es.length := (List.getElem?_eq_some_iff.1 hu).1
        have : (i + 1) * e.size ≤ k * e.size := Nat.mul_le_mul_right _ hlt
        rw [Nat.add_mul, Nat.one_mul] at this
        rw [putRow_get _ _ _ _ (by omega), if_neg (by omega)]
        exact h2 j u hu
      · have hb2 := hr b (mem_flatten_of h1 hb)
        rw [hsame b hb2.1, ext_block _ _ _ hb2.2]
    · obtain rfl : i = k := by omega
      rw [hx] at hy
      obtain rfl := Option.some.inj hy
      refine ⟨vs, B, by rw [List.getElem?_append_right (by omega), hl, Nat.sub_self]; rfl, hv, fun j u hu => ?_, Own.same _ _ _ _ (fun b hb => hsame b ?_) hBo⟩
      · have hj : j < vs.length := (List.getElem?_eq_some_iff.1 hu).1
        rw [putRow_get _ _ _ _ (by omega), if_pos (by omega), Nat.add_sub_cancel_left]
        exact hu
      · have := hBr b hb; rw [hsz] at this; omega
/-- The same for elements of one cell. -/
theorem Fill2.step1 {w : World} {e : Sch} {arr : Array Value} {T : TypeId} {t s : Xt} {ds : List Dat} {k : Nat} {v : Value} {x : Dat} (he : e.size = 1) (h : Fill2 (w.heap.size + 1) (ext (w.alloc (.cells arr T)) t) e arr ds k) (hx : ds[k]? = some x)
    (ho : OwnR (ext (w.alloc (.cells arr T)) t).heap.size (ext (ext (w.alloc (.cells arr T)) t) s).heap.size (ext (ext (w.alloc (.cells arr T)) t) s) e [v] x) (hk : k < arr.size) :
    Fill2 (w.heap.size + 1) (ext (w.alloc (.cells (arr.setIfInBounds k v) T)) (t.add s)) e (arr.setIfInBounds k v) ds (k + 1) := by
  have := h.step hx ho (by rw [he]; rfl) (by rw [he]; omega)
  rw [he, Nat.mul_one] at this
  exact this
theorem Fill2.made {w : World} {e : Sch} {arr : Array Value} {T : TypeId} {t : Xt} {ds : List Dat} {n : Nat} (h : Fill2 (w.heap.size + 1) (ext (w.alloc (.cells arr T)) t) e arr ds n) (hn : n = ds.length) (hm : n ≤ 9223372036854775807) :
    MadeL w e n ds (.returned (.slice (some ⟨w.heap.size, 0, none⟩) n n)) (ext (w.alloc (.cells arr T)) t) := by
  subst hn
  obtain ⟨Bs, hl, hn, hr, hi⟩ := h
  refine ⟨_, _, rfl, ((Ext.refl w).alloc _).ext _, Nat.le_refl _, w.heap.size :: Bs.flatten, ?_, ?_, ?_⟩
  · refine List.nodup_cons.2 ⟨fun hm => ?_, hn⟩
    have := hr _ hm; omega
  · intro b hb
    rcases List.mem_cons.1 hb with rfl | hb
    · exact ⟨Nat.le_refl _, by simp [ext_size]; omega⟩
    · have := hr b hb; exact ⟨by omega, this.2⟩
  · unfold Own
    refine ⟨ds, rfl, by simpa [maxLen] using hm, .inr ⟨w.heap.size, ds.length, arr, T, Bs, rfl, rfl, hl, ?_, ?_⟩⟩
    · rw [ext_block _ _ _ (by simp), heap_alloc_new]
    · intro i x hx
      have hlt : i < ds.length := (List.getElem?_eq_some_iff.1 hx).1
      obtain ⟨es, Bi, h1, h0, h2, h3⟩ := hi i x hlt hx
      exact ⟨es, Bi, h1, h2, h3⟩
end

theorem mk_PclS (n : Nat) (hn : n ≤ 1048576) (w : World) : (Instr.makeSlice 37 (.int .i64 (n : Int)) (.int .i64 (n : Int))).run Try.prog w = .ok (.slice (some ⟨w.heap.size, 0, none⟩) n n) (w.alloc (.cells (madeCells (Value.slice none 0 0).cells n) 113)) := by
  have := mk_gen (bytes := 24) (k := 1) (z := .slice none 0 0) Try.underlying37 (by kernel_rfl) n hn (by decide) w
  rwa [Nat.mul_one] at this

set_option maxHeartbeats 1000000 in
theorem szPclSS_c (xss : List (List Pcl)) (a : Option Addr) (n c : Nat) (left q0 : Int) (w : World) (hx : Re w (.sl (.sl sPcl)) [.slice a n c] (.l (xss.map (ldat Pcl.dat)))) (hq0 : szRun left (n :: xss.map List.length) = q0) (h0 : 0 ≤ left) (h1 : left ≤ 1048576) :
    Calls Try.prog 42 #[.slice a n c, .int .i64 left] w fun e w' => e = .returned (.int .i64 q0) ∧ Ext w w' := by
  subst hq0
  have hl := hx.len
  have hm := hx.max
  have HX := hid hx
  clear hx
  by_cases h : left < (n : Int)
  · go_enter Try.func42, Try.ntmps42
    go_wp2
    go_ret
    exact ⟨ret_int (szRun_fail _ _ _ h).symm, (by ((try simp only [ext_drew]); (try simp only [ext_ext]); repeat (first | exact Ext.refl _ | with_reducible apply Ext.add | with_reducible apply Ext.dr | apply Ext.alloc | apply Ext.ext | apply Ext.drew | refine Ext.trans ?_ (by assumption))))⟩
  · have HT := hid (szRun_step left n (xss.map List.length) h)
    have HL := hid hl
    clear hl
    go_enter Try.func42, Try.ntmps42
    go_wp2
    go_loopw [1, 5] (fun l i wr => ∃ (k : Nat) (q : Int), k ≤ n ∧ i = .int .i64 k ∧ l = .int .i64 q ∧ 0 ≤ q ∧ q ≤ 1048576 ∧ szRun (left - n) (xss.map List.length) = szRun q ((xss.drop k).map List.length) ∧ Ext w wr) (fun _ i _ => n - (intOf i).toNat)
    case atStart => exact ⟨0, left - n, Nat.zero_le _, rfl, rfl, by omega, by omega, by rw [List.drop_zero], (by ((try simp only [ext_drew]); (try simp only [ext_ext]); repeat (first | exact Ext.refl _ | with_reducible apply Ext.add | with_reducible apply Ext.dr | apply Ext.alloc | apply Ext.ext | apply Ext.drew | refine Ext.trans ?_ (by assumption))))⟩
    case round =>
      obtain ⟨k, q, hk, rfl, rfl, q0, q1, hq, t, rfl⟩ := hrel
      have HQ := hid hq
      clear hq
      by_cases hlt : k < n
      · obtain ⟨xs, b, o, a', c', hxk, rfl, hb, f0, hr⟩ := at_SS HX.out hlt
        have hxm := hr.max
        have hd : (xss.drop k).map List.length = xs.length :: (xss.drop (k + 1)).map List.length := by
          rw [List.drop_eq_getElem_cons (by have := HL.out; omega), List.map_cons]
          congr 1
          have := (List.getElem?_eq_some_iff.1 hxk).2
          rw [this]
        have HD := hid hd
        clear hd hr hxk
        by_cases hf : q < (xs.length : Int)
        · try go_wp2_with (first
              | (go_at_call 69; refine (szPclS_c _ _ _ _ _ (by omega) (by omega) (by assumption)).mono ?_; rintro e w' ⟨rfl, rfl⟩)
              | (
                with_reducible refine wp_region_mix (by kernel_rfl) (by decide +kernel) ?_
                repeat (first
                  | (refine mix_pure rfl ?_; (first | go_big_quiet_skip | (go_big_quiet_want; go_big_quiet_op; go_big_quiet_on)); refine wpQuiet_nil ?_)
                  | (refine mix_skip (by rfl) ?_; (try simp only [Act.put, List.setIfInBounds_toArray, List.set_cons_zero, List.set_cons_succ]))
                  | (refine mix_mk rfl (by rfl) (fun K hK => ?_); (first | (go_simp; first | (go_at_call 69; refine (szPclS_c _ _ _ _ _ (by omega) (by omega) (by assumption)).mono ?_; rintro e w' ⟨rfl, rfl⟩) | skip)); (show K _ _); refine hK _ _ (show Ext _ _ from (by ((try simp only [ext_drew]); (try simp only [ext_ext]); repeat (first | exact Ext.refl _ | with_reducible apply Ext.add | with_reducible apply Ext.dr | apply Ext.alloc | apply Ext.ext | apply Ext.drew | refine Ext.trans ?_ (by assumption))))) ?_; clear hK K; (try simp only [Act.put, List.setIfInBounds_toArray, List.set_cons_zero, List.set_cons_succ])))
                refine mix_nil ?_)
              | (
                with_reducible refine wp_region_ext (by kernel_rfl) (by kernel_rfl) ?_
                repeat (first | go_big_quiet_skip | (go_big_quiet_want; go_big_quiet_op; first | go_big_quiet_on | (apply Exists.intro; refine ⟨fun _ => ?_, ?_⟩; ((first | (go_at_call 69; first | exact quiet_same (szPclS_c _ _ _ _ _ (by omega) (by omega) (by assumption)) | exact quiet_same2 (szPclS_c _ _ _ _ _ (by omega) (by omega) (by assumption))))); (try rw [h1]); (try rw [h2]); (try rw [h3]); (try rw [h4]); (try rw [p1]); (try rw [p2]); (try rw [p3]); (try rw [p4]); (try rw [r1]); (try rw [r2]); (try rw [r3]); (try rw [r4]); (try rw [r5]); (try rw [r6]); (try rw [q3]); (try rw [q4]); (try rw [hp]); (try rw [hq]); go_big_quiet_on)))
                refine wpQuiet_nil ?_
                rintro _ ⟨tq, rfl⟩))
          go_ret
          exact ⟨ret_int (by rw [HT.out, HQ.out, HD.out, szRun_fail _ _ _ hf]), (by ((try simp only [ext_drew]); (try simp only [ext_ext]); repeat (first | exact Ext.refl _ | with_reducible apply Ext.add | with_reducible apply Ext.dr | apply Ext.alloc | apply Ext.ext | apply Ext.drew | refine Ext.trans ?_ (by assumption))))⟩
        · try go_wp2_with (first
              | (go_at_call 69; refine (szPclS_c _ _ _ _ _ (by omega) (by omega) (by assumption)).mono ?_; rintro e w' ⟨rfl, rfl⟩)
              | (
                with_reducible refine wp_region_mix (by kernel_rfl) (by decide +kernel) ?_
                repeat (first
                  | (refine mix_pure rfl ?_; (first | go_big_quiet_skip | (go_big_quiet_want; go_big_quiet_op; go_big_quiet_on)); refine wpQuiet_nil ?_)
                  | (refine mix_skip (by rfl) ?_; (try simp only [Act.put, List.setIfInBounds_toArray, List.set_cons_zero, List.set_cons_succ]))
                  | (refine mix_mk rfl (by rfl) (fun K hK => ?_); (first | (go_simp; first | (go_at_call 69; refine (szPclS_c _ _ _ _ _ (by omega) (by omega) (by assumption)).mono ?_; rintro e w' ⟨rfl, rfl⟩) | skip)); (show K _ _); refine hK _ _ (show Ext _ _ from (by ((try simp only [ext_drew]); (try simp only [ext_ext]); repeat (first | exact Ext.refl _ | with_reducible apply Ext.add | with_reducible apply Ext.dr | apply Ext.alloc | apply Ext.ext | apply Ext.drew | refine Ext.trans ?_ (by assumption))))) ?_; clear hK K; (try simp only [Act.put, List.setIfInBounds_toArray, List.set_cons_zero, List.set_cons_succ])))
                refine mix_nil ?_)
              | (
                with_reducible refine wp_region_ext (by kernel_rfl) (by kernel_rfl) ?_
                repeat (first | go_big_quiet_skip | (go_big_quiet_want; go_big_quiet_op; first | go_big_quiet_on | (apply Exists.intro; refine ⟨fun _ => ?_, ?_⟩; ((first | (go_at_call 69; first | exact quiet_same (szPclS_c _ _ _ _ _ (by omega) (by omega) (by assumption)) | exact quiet_same2 (szPclS_c _ _ _ _ _ (by omega) (by omega) (by assumption))))); (try rw [h1]); (try rw [h2]); (try rw [h3]); (try rw [h4]); (try rw [p1]); (try rw [p2]); (try rw [p3]); (try rw [p4]); (try rw [r1]); (try rw [r2]); (try rw [r3]); (try rw [r4]); (try rw [r5]); (try rw [r6]); (try rw [q3]); (try rw [q4]); (try rw [hp]); (try rw [hq]); go_big_quiet_on)))
                refine wpQuiet_nil ?_
                rintro _ ⟨tq, rfl⟩))
          go_roundw
          case rel => exact ⟨k + 1, q - xs.length, by omega, by go_num, by rw [if_neg (by omega)], by omega, by omega, by rw [HQ.out, HD.out, szRun_step _ _ _ (by omega)], (by ((try simp only [ext_drew]); (try simp only [ext_ext]); repeat (first | exact Ext.refl _ | with_reducible apply Ext.add | with_reducible apply Ext.dr | apply Ext.alloc | apply Ext.ext | apply Ext.drew | refine Ext.trans ?_ (by assumption))))⟩
          case measure => simp [intOf]; omega
      · have hd : (xss.drop k).map List.length = [] := by rw [List.drop_eq_nil_of_le (by have := HL.out; omega)]; rfl
        have HD := hid hd
        clear hd
        go_wp2
        go_ret
        exact ⟨ret_int (by rw [HT.out, HQ.out, HD.out]; rfl), (by ((try simp only [ext_drew]); (try simp only [ext_ext]); repeat (first | exact Ext.refl _ | with_reducible apply Ext.add | with_reducible apply Ext.dr | apply Ext.alloc | apply Ext.ext | apply Ext.drew | refine Ext.trans ?_ (by assumption))))⟩

set_option maxRecDepth 100000 in
set_option maxHeartbeats 2000000 in
theorem toPclSS_c (xss : List (List Pcl)) (a : Option Addr) (n c : Nat) (w : World) (hx : Re w (.sl (.sl sPcl)) [.slice a n c] (.l (xss.map (ldat Pcl.dat)))) (hn : n ≤ 1048576) (hbd : ∀ xs ∈ xss, xs.length ≤ 1048576) :
    Calls Try.prog 49 #[.slice a n c] w (MadeL w (.sl sPcl) n (xss.map (ldat Pcl.dat))) := by
  have HX := hid hx
  have HB := hid hbd
  clear hx hbd
  have hm := mk_PclS n hn
  go_enter Try.func49, Try.ntmps49
  go_wp2
  clear hm
  go_loopw [4] (fun i wr => ∃ (k : Nat) (arr : Array Value) (t : Xt), k ≤ n ∧ i = .int .i64 k ∧ arr.size = n ∧ Fill2 (w.heap.size + 1) (ext (w.alloc (.cells arr 113)) t) (.sl sPcl) arr (xss.map (ldat Pcl.dat)) k ∧ wr = ext (w.alloc (.cells arr 113)) t) (fun i _ => n - (intOf i).toNat)
  case atStart => exact ⟨0, _, ⟨#[], _⟩, Nat.zero_le _, rfl, size_madeCells _ _, Fill2.zero _ _ _ _ _, (ext_refl _).symm⟩
  case round =>
    obtain ⟨k, arr, t, hk, rfl, hsz, hf, rfl⟩ := hrel
    have HS := hid hsz
    have HF := hid hf
    clear hsz hf
    by_cases hlt : k < n
    · obtain ⟨xs, b, o, a', c', hxk, rfl, hb, f0, hr⟩ := at_SS HX.out hlt
      have hxb : xs.length ≤ 1048576 := HB.out xs (List.mem_of_getElem? hxk)
      have hka : k < arr.size := by have := HS.out; omega
      have HR := hid hr
      have HK := hid (show (xss.map (ldat Pcl.dat))[k]? = some (.l (xs.map Pcl.dat)) by rw [List.getElem?_map, hxk]; rfl)
      clear hxk hr
      try go_wp2_with (first
          | (go_at_call 74; (with_reducible refine (toPclS_c xs a' xs.length c' _ (HR.out.of (by ((try simp only [ext_drew]); (try simp only [ext_ext]); repeat (first | exact Ext.refl _ | with_reducible apply Ext.add | with_reducible apply Ext.dr | apply Ext.alloc | apply Ext.ext | apply Ext.drew | refine Ext.trans ?_ (by assumption))))) hxb).mono ?_); rintro e w' ⟨p0, q0, rfl, ⟨t0, rfl⟩, ho⟩; have O0 := hid ho; clear ho)
          | (
            with_reducible refine wp_region_mix (by kernel_rfl) (by decide +kernel) ?_
            repeat (first
              | (refine mix_pure rfl ?_; (first | go_big_quiet_skip | (go_big_quiet_want; go_big_quiet_op; go_big_quiet_on)); refine wpQuiet_nil ?_)
              | (refine mix_skip (by rfl) ?_; (try simp only [Act.put, List.setIfInBounds_toArray, List.set_cons_zero, List.set_cons_succ]))
              | (refine mix_mk rfl (by rfl) (fun K hK => ?_); (first | (go_simp; first | (go_at_call 74; (with_reducible refine (toPclS_c xs a' xs.length c' _ (HR.out.of (by ((try simp only [ext_drew]); (try simp only [ext_ext]); repeat (first | exact Ext.refl _ | with_reducible apply Ext.add | with_reducible apply Ext.dr | apply Ext.alloc | apply Ext.ext | apply Ext.drew | refine Ext.trans ?_ (by assumption))))) hxb).mono ?_); rintro e w' ⟨p0, q0, rfl, ⟨t0, rfl⟩, ho⟩; have O0 := hid ho; clear ho) | skip)); (show K _ _); refine hK _ _ (show Ext _ _ from (by ((try simp only [ext_drew]); (try simp only [ext_ext]); repeat (first | exact Ext.refl _ | with_reducible apply Ext.add | with_reducible apply Ext.dr | apply Ext.alloc | apply Ext.ext | apply Ext.drew | refine Ext.trans ?_ (by assumption))))) ?_; clear hK K; (try simp only [Act.put, List.setIfInBounds_toArray, List.set_cons_zero, List.set_cons_succ])))
            refine mix_nil ?_)
          | (
            with_reducible refine wp_region_ext (by kernel_rfl) (by kernel_rfl) ?_
            repeat (first | go_big_quiet_skip | (go_big_quiet_want; go_big_quiet_op; first | go_big_quiet_on | (apply Exists.intro; refine ⟨fun _ => ?_, ?_⟩; (fail); (try rw [h1]); (try rw [h2]); (try rw [h3]); (try rw [h4]); (try rw [p1]); (try rw [p2]); (try rw [p3]); (try rw [p4]); (try rw [r1]); (try rw [r2]); (try rw [r3]); (try rw [r4]); (try rw [r5]); (try rw [r6]); (try rw [q3]); (try rw [q4]); (try rw [hp]); (try rw [hq]); go_big_quiet_on)))
            refine wpQuiet_nil ?_
            rintro _ ⟨tq, rfl⟩))
      go_roundw
      case rel => exact ⟨k + 1, arr.setIfInBounds k (.slice p0 xs.length q0), t.add t0, by omega, by go_num, by simp [HS.out], HF.out.step1 rfl HK.out O0.out hka, rfl⟩
      case measure => simp [intOf]; omega
    · obtain rfl : k = n := by omega
      go_wp2
      go_ret
      exact HF.out.made (by rw [List.length_map]; exact HX.out.len) HX.out.max

set_option maxHeartbeats 1000000 in
theorem eqPclSS_c (xss : List (List Pcl)) (a1 a2 : Option Addr) (n c1 c2 : Nat) (w : World) (h1 : Re w (.sl (.sl sPcl)) [.slice a1 n c1] (.l (xss.map (ldat Pcl.dat)))) (h2 : Re w (.sl (.sl sPcl)) [.slice a2 n c2] (.l (xss.map (ldat Pcl.dat)))) (hn : n ≤ 1048576) (hbd : ∀ xs ∈ xss, xs.length ≤ 1048576) :
    Calls Try.prog 56 #[.slice a1 n c1, .slice a2 n c2] w fun e w' => e = .returned (.bool true) ∧ Ext w w' := by
  have H1 := hid h1
  have H2 := hid h2
  have HB := hid hbd
  clear h1 h2 hbd
  go_enter Try.func56, Try.ntmps56
  go_wp2
  go_loopw [5] (fun i wr => ∃ k : Nat, k ≤ n ∧ i = .int .i64 k ∧ Ext w wr) (fun i _ => n - (intOf i).toNat)
  case atStart => exact ⟨0, Nat.zero_le _, rfl, (by ((try simp only [ext_drew]); (try simp only [ext_ext]); repeat (first | exact Ext.refl _ | with_reducible apply Ext.add | with_reducible apply Ext.dr | apply Ext.alloc | apply Ext.ext | apply Ext.drew | refine Ext.trans ?_ (by assumption))))⟩
  case round =>
    obtain ⟨k, hk, rfl, t, rfl⟩ := hrel
    by_cases hlt : k < n
    · obtain ⟨xs, b1, o1, a1', c1', hx, rfl, hb1, f0, hr1⟩ := at_SS H1.out hlt
      obtain ⟨ys, b2, o2, a2', c2', hy, rfl, hb2, g0, hr2⟩ := at_SS H2.out hlt
      have e : xs = ys := Option.some.inj (hx.symm.trans hy)
      subst e
      have hxb : xs.length ≤ 1048576 := HB.out xs (List.mem_of_getElem? hx)
      have HR1 := hid hr1
      have HR2 := hid hr2
      clear hx hy hr1 hr2
      go_wp2
      with_reducible refine wp_region_ext (by kernel_rfl) (by kernel_rfl) ?_
      repeat (go_big_quiet_step ((first | (go_at_call 81; first | exact quiet_call (eqPclS_c _ _ _ _ _ _ _ (Re.of (Hid.out (by assumption)) (by ((try simp only [ext_drew]); (try simp only [ext_ext]); repeat (first | exact Ext.refl _ | with_reducible apply Ext.add | with_reducible apply Ext.dr | apply Ext.alloc | apply Ext.ext | apply Ext.drew | refine Ext.trans ?_ (by assumption))))) (Re.of (Hid.out (by assumption)) (by ((try simp only [ext_drew]); (try simp only [ext_ext]); repeat (first | exact Ext.refl _ | with_reducible apply Ext.add | with_reducible apply Ext.dr | apply Ext.alloc | apply Ext.ext | apply Ext.drew | refine Ext.trans ?_ (by assumption))))) (by omega)) | exact quiet_call2 (eqPclS_c _ _ _ _ _ _ _ (Re.of (Hid.out (by assumption)) (by ((try simp only [ext_drew]); (try simp only [ext_ext]); repeat (first | exact Ext.refl _ | with_reducible apply Ext.add | with_reducible apply Ext.dr | apply Ext.alloc | apply Ext.ext | apply Ext.drew | refine Ext.trans ?_ (by assumption))))) (Re.of (Hid.out (by assumption)) (by ((try simp only [ext_drew]); (try simp only [ext_ext]); repeat (first | exact Ext.refl _ | with_reducible apply Ext.add | with_reducible apply Ext.dr | apply Ext.alloc | apply Ext.ext | apply Ext.drew | refine Ext.trans ?_ (by assumption))))) (by omega))))))
      refine wpQuiet_nil ?_
      rintro _ ⟨tq, rfl⟩
      go_wp2
      go_roundw
      case rel => exact ⟨k + 1, by omega, by go_num, (by ((try simp only [ext_drew]); (try simp only [ext_ext]); repeat (first | exact Ext.refl _ | with_reducible apply Ext.add | with_reducible apply Ext.dr | apply Ext.alloc | apply Ext.ext | apply Ext.drew | refine Ext.trans ?_ (by assumption))))⟩
      case measure => simp [intOf]; omega
    · go_wp2
      go_ret
      exact ⟨rfl, (by ((try simp only [ext_drew]); (try simp only [ext_ext]); repeat (first | exact Ext.refl _ | with_reducible apply Ext.add | with_reducible apply Ext.dr | apply Ext.alloc | apply Ext.ext | apply Ext.drew | refine Ext.trans ?_ (by assumption))))⟩

end Go.Proofs.Ytdogknbkcididaa
