/- Slices of slices: the law's marks, put and looked for. -/
import Derived.Test.YtdogknbkcididaaSS
namespace Go.Proofs.Ytdogknbkcididaa
open Go.RowKit
set_option linter.unusedSimpArgs false
set_option linter.unusedVariables false

theorem flat_mem_nodup : ∀ {Bs : List (List Nat)}, Bs.flatten.Nodup → ∀ {k : Nat} {Bk : List Nat}, Bs[k]? = some Bk → Bk.Nodup
  | [], _, _, _, h => by simp at h
  | B :: Bs, hn, 0, Bk, h => by
    simp only [List.getElem?_cons_zero, Option.some.injEq] at h
    subst h
    rw [List.flatten_cons] at hn
    exact (List.nodup_append.1 hn).1
  | B :: Bs, hn, k + 1, Bk, h => by
    rw [List.flatten_cons] at hn
    exact flat_mem_nodup (List.nodup_append.1 hn).2.1 (k := k) (by simpa using h)
theorem flat_apart : ∀ {Bs : List (List Nat)}, Bs.flatten.Nodup → ∀ {i k : Nat} {Bi Bk : List Nat}, Bs[i]? = some Bi → Bs[k]? = some Bk → i ≠ k → ∀ z ∈ Bi, z ∉ Bk
  | [], _, _, _, _, _, h, _, _ => by simp at h
  | B :: Bs, hn, 0, 0, _, _, _, _, hne => absurd rfl hne
  | B :: Bs, hn, 0, k + 1, Bi, Bk, hi, hk, _ => fun z hz hz' => by
    simp only [List.getElem?_cons_zero, Option.some.injEq] at hi
    subst hi
    rw [List.flatten_cons] at hn
    exact (List.nodup_append.1 hn).2.2 z hz z (mem_flatten_of (i := k) (by simpa using hk) hz') rfl
  | B :: Bs, hn, i + 1, 0, Bi, Bk, hi, hk, _ => fun z hz hz' => by
    simp only [List.getElem?_cons_zero, Option.some.injEq] at hk
    subst hk
    rw [List.flatten_cons] at hn
    exact (List.nodup_append.1 hn).2.2 z hz' z (mem_flatten_of (i := i) (by simpa using hi) hz) rfl
  | B :: Bs, hn, i + 1, k + 1, Bi, Bk, hi, hk, hne => by
    rw [List.flatten_cons] at hn
    exact flat_apart (List.nodup_append.1 hn).2.1 (i := i) (k := k) (by simpa using hi) (by simpa using hk) (by omega)

/-- The k-th of slices that one owns: where it lies, and what stays when it is turned. -/
theorem own_sl_at {w : World} {e : Sch} {a : Option Addr} {n c : Nat} {ds : List Dat} {B : List Nat} {k : Nat} {x : Dat} (ho : Own w (.sl (.sl e)) [.slice a n c] (.l ds) B) (hn : B.Nodup) (hx : ds[k]? = some x) :
    ∃ (b : Nat) (arr : Array Value) (T : TypeId) (Bk : List Nat) (v : Value), a = some ⟨b, 0, none⟩ ∧ n = ds.length ∧ w.heap[b]? = some (.cells arr T (0, 0)) ∧ arr[k]? = some v ∧ Own w (.sl e) [v] x Bk ∧ Bk.Nodup ∧ (∀ z ∈ Bk, z ∈ B) ∧
      ∀ w' x', Own w' (.sl e) [v] x' Bk → Chg Bk w w' → (∀ z ∈ B, z < w.heap.size) → Own w' (.sl (.sl e)) [.slice a n c] (.l (ds.set k x')) B := by
  unfold Own at ho
  obtain ⟨ds', hd, hm, ⟨h0, _⟩ | ⟨b, c', arr, T, Bs, hv, hB, hl, hb, hi⟩⟩ := ho
  · simp only [Dat.l.injEq] at hd
    subst hd h0
    simp at hx
  · simp only [Dat.l.injEq] at hd
    subst hd
    simp only [List.cons.injEq, Value.slice.injEq, and_true] at hv
    obtain ⟨rfl, rfl, rfl⟩ := hv
    obtain ⟨es, Bk, hBk, hc, hok⟩ := hi k x hx
    have hes := own_len hok
    match es, hes with
    | [v], _ =>
      subst hB
      obtain ⟨hnb, hnf⟩ := List.nodup_cons.1 hn
      have hsub : ∀ z ∈ Bk, z ∈ Bs.flatten := fun z hz => mem_flatten_of hBk hz
      have hkl : Bk.Nodup := flat_mem_nodup hnf hBk
      have hcell : arr[k]? = some v := by
        have := hc 0 v rfl
        simpa [Sch.size] using this
      refine ⟨b, arr, T, Bk, v, rfl, rfl, hb, hcell, hok, hkl, fun z hz => List.mem_cons_of_mem _ (hsub z hz), fun w' x' ho' hC hlt => ?_⟩
      unfold Own
      refine ⟨ds.set k x', rfl, by simpa using hm, .inr ⟨b, c, arr, T, Bs, by rw [List.length_set], rfl, by rw [List.length_set]; exact hl, ?_, fun i y hy => ?_⟩⟩
      · rw [hC.block b (hlt b (by simp)) (fun h => hnb (hsub b h))]; exact hb
      · by_cases e1 : i = k
        · subst e1
          have hil : i < ds.length := (List.getElem?_eq_some_iff.1 hx).1
          rw [List.getElem?_set_self hil] at hy
          obtain rfl := Option.some.inj hy
          exact ⟨[v], Bk, hBk, hc, ho'⟩
        · rw [List.getElem?_set_ne (Ne.symm e1)] at hy
          obtain ⟨es', Bi, hBi, hci, hoi⟩ := hi i y hy
          exact ⟨es', Bi, hBi, hci, Own.chg hoi hC (fun z hz => hlt z (List.mem_cons_of_mem _ (mem_flatten_of hBi hz))) (flat_apart hnf hBi hBk e1)⟩

/-- The marks of lists, one behind the other. -/
def marks2 {α : Type} (mk : Int → α) (sz : Nat) (q : Int) : List Nat → List (List α)
  | [] => []
  | n :: ns => marksOf mk sz q n :: marks2 mk sz (q + ((sz * n : Nat) : Int)) ns
theorem marks2_length {α : Type} (mk : Int → α) (sz : Nat) : ∀ (ns : List Nat) (q : Int), (marks2 mk sz q ns).length = ns.length
  | [], _ => rfl
  | n :: ns, q => by simp [marks2, marks2_length mk sz ns]
theorem marks2_get {α : Type} (mk : Int → α) (sz : Nat) : ∀ (ns : List Nat) (q : Int) (k n : Nat), ns[k]? = some n → (marks2 mk sz q ns)[k]? = some (marksOf mk sz (q + ((sz * (ns.take k).sum : Nat) : Int)) n)
  | [], _, _, _, h => by simp at h
  | m :: ns, q, 0, n, h => by
    simp only [List.getElem?_cons_zero, Option.some.injEq] at h
    subst h
    simp [marks2]
  | m :: ns, q, k + 1, n, h => by
    simp only [List.getElem?_cons_succ] at h
    simp only [marks2, List.getElem?_cons_succ]
    rw [marks2_get mk sz ns _ k n h]
    congr 2
    rw [List.take_succ_cons, List.sum_cons, Nat.mul_add]
    omega
theorem sum_take_succ {ns : List Nat} {k n : Nat} (h : ns[k]? = some n) : (ns.take (k + 1)).sum = (ns.take k).sum + n := by
  rw [List.take_add_one, h]; simp
theorem sum_take_le (ns : List Nat) (k : Nat) : (ns.take k).sum ≤ ns.sum := by
  have := List.take_append_drop k ns
  have e : ns.sum = (ns.take k).sum + (ns.drop k).sum := by rw [← List.sum_append_nat, this]
  omega
/-- The first k lists marked, the others as they were. -/
def mixed {α : Type} (A X : List α) (k : Nat) : List α := A.take k ++ X.drop k
theorem mixed_set {α : Type} {A X : List α} {k : Nat} {y : α} (hl : A.length = X.length) (hA : A[k]? = some y) : (mixed A X k).set k y = mixed A X (k + 1) := by
  have hk : k < A.length := (List.getElem?_eq_some_iff.1 hA).1
  unfold mixed
  rw [List.set_append_right _ _ (by rw [List.length_take]; omega), List.length_take, Nat.min_eq_left (by omega), Nat.sub_self, List.drop_eq_getElem_cons (show k < X.length by omega), List.set_cons_zero, List.take_add_one, hA]
  simp
theorem mixed_get {α : Type} {A X : List α} {k : Nat} {x : α} (hl : A.length = X.length) (hX : X[k]? = some x) : (mixed A X k)[k]? = some x := by
  have hk : k < X.length := (List.getElem?_eq_some_iff.1 hX).1
  unfold mixed
  rw [List.getElem?_append_right (by rw [List.length_take]; omega), List.length_take, Nat.min_eq_left (by omega), Nat.sub_self, List.getElem?_drop, Nat.add_zero]
  exact hX
theorem mixed_all {α : Type} {A X : List α} {k : Nat} (hl : A.length = X.length) (hk : A.length ≤ k) : mixed A X k = A := by
  unfold mixed
  rw [List.take_of_length_le hk, List.drop_eq_nil_of_le (by omega), List.append_nil]

set_option maxRecDepth 100000 in
set_option maxHeartbeats 2000000 in
theorem markPclSS_b (xss : List (List Pcl)) (a : Option Addr) (n c : Nat) (B : List Nat) (q : Int) (w : World) (ho : Own w (.sl (.sl sPcl)) [.slice a n c] (.l (xss.map (ldat Pcl.dat))) B) (hn : n = xss.length) (hnd : B.Nodup) (hlt : ∀ z ∈ B, z < w.heap.size) (h0 : 0 ≤ q) (h1 : q ≤ 900000000) (hn2 : n ≤ 1048576) (hbd : ∀ xs ∈ xss, xs.length ≤ 1048576) (hs : (xss.map List.length).sum ≤ 4194304) :
    Calls Try.prog 59 #[.slice a n c, .int .i64 q] w fun e w' => e = .returned (.int .i64 (q + ((8 * (xss.map List.length).sum : Nat) : Int))) ∧ Own w' (.sl (.sl sPcl)) [.slice a n c] (.l ((marks2 Pcl.mk' 8 q (xss.map List.length)).map (ldat Pcl.dat))) B ∧ Chg B w w' := by
  have HO := hid ho
  have HNN := hid hn
  have HND := hid hnd
  have HLT := hid hlt
  have HB := hid hbd
  have HS := hid hs
  have HML := hid (show (marks2 Pcl.mk' 8 q (xss.map List.length)).length = xss.length by rw [marks2_length, List.length_map])
  clear ho hn hnd hlt hbd hs
  go_enter Try.func59, Try.ntmps59
  go_wp2
  go_loopw [1, 5] (fun k i wr => ∃ (j : Nat) (p : Int), j ≤ n ∧ i = .int .i64 j ∧ k = .int .i64 p ∧ 0 ≤ p ∧ p ≤ 940000000 ∧ p = q + ((8 * ((xss.map List.length).take j).sum : Nat) : Int) ∧ Own wr (.sl (.sl sPcl)) [.slice a n c] (.l ((mixed (marks2 Pcl.mk' 8 q (xss.map List.length)) xss j).map (ldat Pcl.dat))) B ∧ Chg B w wr) (fun _ i _ => n - (intOf i).toNat)
  case atStart => exact ⟨0, q, Nat.zero_le _, rfl, rfl, h0, by omega, by simp, by simpa [mixed] using HO.out, Chg.refl _ _⟩
  case round =>
    obtain ⟨j, p, hj, rfl, rfl, p0, p1, hp, ho, hc⟩ := hrel
    have HP := hid hp
    have HW := hid ho
    have HC := hid hc
    clear hp ho hc
    by_cases hl : j < n
    · have hjx : j < xss.length := by have := HNN.out; omega
      have HX := hid (show xss[j]? = some xss[j] from List.getElem?_eq_getElem hjx)
      have HG := hid (mixed_get (A := marks2 Pcl.mk' 8 q (xss.map List.length)) HML.out HX.out)
      obtain ⟨b, arr, T, Bk, v, rfl, hne9, hb, hv, hok, hkn, hsub, hupd⟩ := own_sl_at (k := j) (x := ldat Pcl.dat xss[j]) HW.out HND.out (by rw [List.getElem?_map, HG.out]; rfl)
      clear hne9
      have hwl : ∀ z ∈ B, z < wr.heap.size := fun z hz => Nat.lt_of_lt_of_le (HLT.out z hz) HC.out.size
      have hre : Re wr (.sl sPcl) [v] (.l (xss[j].map Pcl.dat)) := Own.re hok fun z hz => hwl z (hsub z hz)
      obtain ⟨ka, kc, hve⟩ := hre.slice
      simp only [List.cons.injEq, and_true, List.length_map] at hve
      subst hve
      have hcell := (cell_blk hb j).trans hv
      have hxb : xss[j].length ≤ 1048576 := HB.out _ (List.getElem_mem hjx)
      have hln : (xss.map List.length)[j]? = some xss[j].length := by rw [List.getElem?_map, HX.out]; rfl
      have hsum : ((xss.map List.length).take j).sum + xss[j].length ≤ 4194304 := by have := sum_take_le (xss.map List.length) (j + 1); rw [sum_take_succ hln] at this; have := HS.out; omega
      have HSUM := hid hsum
      have HST := hid (sum_take_succ hln)
      have HMG := hid (marks2_get Pcl.mk' 8 (xss.map List.length) q j _ hln)
      have HOK := hid hok
      have HUP := hid hupd
      have HSB := hid hsub
      have HWL := hid hwl
      have hp2 : p + (8 : Int) * (xss[j].length : Int) ≤ 940000000 := by have := HP.out; have := HSUM.out; omega
      clear hb hv hok hkn hsub hupd hwl hre hln hsum
      try go_wp2_with (first
          | (go_at_call 82; (with_reducible refine (markPclS_b xss[j] ka xss[j].length kc Bk p _ (HOK.out.of (by ((try simp only [ext_drew]); (try simp only [ext_ext]); repeat (first | exact Ext.refl _ | with_reducible apply Ext.add | with_reducible apply Ext.dr | apply Ext.alloc | apply Ext.ext | apply Ext.drew | refine Ext.trans ?_ (by assumption)))) (fun z hz => HWL.out z (HSB.out z hz))) p0 (by omega) hxb).mono ?_); rintro e w' ⟨rfl, ho2, hc2⟩; have HO2 := hid ho2; have HC2 := hid (Chg.trans (Chg.of_ext (show Ext wr _ from (by ((try simp only [ext_drew]); (try simp only [ext_ext]); repeat (first | exact Ext.refl _ | with_reducible apply Ext.add | with_reducible apply Ext.dr | apply Ext.alloc | apply Ext.ext | apply Ext.drew | refine Ext.trans ?_ (by assumption))))) Bk) hc2); clear ho2 hc2)
          | (
            with_reducible refine wp_region_mix (by kernel_rfl) (by decide +kernel) ?_
            repeat (first
              | (refine mix_pure rfl ?_; (first | go_big_quiet_skip | (go_big_quiet_want; go_big_quiet_op; go_big_quiet_on)); refine wpQuiet_nil ?_)
              | (refine mix_skip (by rfl) ?_; (try simp only [Act.put, List.setIfInBounds_toArray, List.set_cons_zero, List.set_cons_succ]))
              | (refine mix_mk rfl (by rfl) (fun K hK => ?_); (first | (go_simp; first | (go_at_call 82; (with_reducible refine (markPclS_b xss[j] ka xss[j].length kc Bk p _ (HOK.out.of (by ((try simp only [ext_drew]); (try simp only [ext_ext]); repeat (first | exact Ext.refl _ | with_reducible apply Ext.add | with_reducible apply Ext.dr | apply Ext.alloc | apply Ext.ext | apply Ext.drew | refine Ext.trans ?_ (by assumption)))) (fun z hz => HWL.out z (HSB.out z hz))) p0 (by omega) hxb).mono ?_); rintro e w' ⟨rfl, ho2, hc2⟩; have HO2 := hid ho2; have HC2 := hid (Chg.trans (Chg.of_ext (show Ext wr _ from (by ((try simp only [ext_drew]); (try simp only [ext_ext]); repeat (first | exact Ext.refl _ | with_reducible apply Ext.add | with_reducible apply Ext.dr | apply Ext.alloc | apply Ext.ext | apply Ext.drew | refine Ext.trans ?_ (by assumption))))) Bk) hc2); clear ho2 hc2) | skip)); (show K _ _); refine hK _ _ (show Ext _ _ from (by ((try simp only [ext_drew]); (try simp only [ext_ext]); repeat (first | exact Ext.refl _ | with_reducible apply Ext.add | with_reducible apply Ext.dr | apply Ext.alloc | apply Ext.ext | apply Ext.drew | refine Ext.trans ?_ (by assumption))))) ?_; clear hK K; (try simp only [Act.put, List.setIfInBounds_toArray, List.set_cons_zero, List.set_cons_succ])))
            refine mix_nil ?_)
          | (
            with_reducible refine wp_region_ext (by kernel_rfl) (by kernel_rfl) ?_
            repeat (first | go_big_quiet_skip | (go_big_quiet_want; go_big_quiet_op; first | go_big_quiet_on | (apply Exists.intro; refine ⟨fun _ => ?_, ?_⟩; (fail); (try rw [h1]); (try rw [h2]); (try rw [h3]); (try rw [h4]); (try rw [p1]); (try rw [p2]); (try rw [p3]); (try rw [p4]); (try rw [r1]); (try rw [r2]); (try rw [r3]); (try rw [r4]); (try rw [r5]); (try rw [r6]); (try rw [q3]); (try rw [q4]); (try rw [hp]); (try rw [hq]); go_big_quiet_on)))
            refine wpQuiet_nil ?_
            rintro _ ⟨tq, rfl⟩))
      go_roundw
      case rel =>
        have hpe : p + (8 : Int) * (xss[j].length : Int) = q + ((8 * ((xss.map List.length).take (j + 1)).sum : Nat) : Int) := by rw [HST.out]; have := HP.out; omega
        have hown := HUP.out _ (ldat Pcl.dat (marksOf Pcl.mk' 8 p xss[j].length)) HO2.out HC2.out HWL.out
        refine ⟨j + 1, p + (8 : Int) * (xss[j].length : Int), by omega, by go_num, by first | rfl | (congr 1; omega), by omega, hp2, hpe, ?_, Chg.trans HC.out (Chg.mono HC2.out HSB.out)⟩
        have e1 := mixed_set (A := marks2 Pcl.mk' 8 q (xss.map List.length)) (X := xss) HML.out HMG.out
        rw [← e1, List.map_set, ← HP.out]
        exact hown
      case measure => simp [intOf]; omega
    · have HE := hid (show j = n by omega)
      have HA := hid (mixed_all (A := marks2 Pcl.mk' 8 q (xss.map List.length)) (X := xss) (k := j) HML.out (by rw [HML.out, ← HNN.out]; omega))
      go_wp2
      go_ret
      refine ⟨ret_int (by rw [HP.out, List.take_of_length_le (by rw [List.length_map, ← HNN.out]; omega)]), ?_, HC.out⟩
      have h9 := HW.out
      rw [HA.out] at h9
      exact h9

set_option maxRecDepth 100000 in
set_option maxHeartbeats 2000000 in
theorem heldPclSS_c (lens : List Nat) (a : Option Addr) (n c : Nat) (q : Int) (w : World) (hx : Re w (.sl (.sl sPcl)) [.slice a n c] (.l ((marks2 Pcl.mk' 8 q lens).map (ldat Pcl.dat)))) (h0 : 0 ≤ q) (h1 : q ≤ 900000000) (hn2 : n ≤ 1048576) (hbd : ∀ k ∈ lens, k ≤ 1048576) (hs : lens.sum ≤ 4194304) :
    Calls Try.prog 67 #[.slice a n c, .int .i64 q] w fun e w' => e = .returned (.int .i64 (q + ((8 * lens.sum : Nat) : Int))) ∧ Ext w w' := by
  have HNN := hid (show n = lens.length by have := hx.len; rw [marks2_length] at this; exact this)
  have HX := hid hx
  have HB := hid hbd
  have HS := hid hs
  clear hx hbd hs
  go_enter Try.func67, Try.ntmps67
  go_wp2
  go_loopw [1, 5] (fun k i wr => ∃ (j : Nat) (p : Int), j ≤ n ∧ i = .int .i64 j ∧ k = .int .i64 p ∧ 0 ≤ p ∧ p ≤ 940000000 ∧ p = q + ((8 * (lens.take j).sum : Nat) : Int) ∧ Ext w wr) (fun _ i _ => n - (intOf i).toNat)
  case atStart => exact ⟨0, q, Nat.zero_le _, rfl, rfl, h0, by omega, by simp, (by ((try simp only [ext_drew]); (try simp only [ext_ext]); repeat (first | exact Ext.refl _ | with_reducible apply Ext.add | with_reducible apply Ext.dr | apply Ext.alloc | apply Ext.ext | apply Ext.drew | refine Ext.trans ?_ (by assumption))))⟩
  case round =>
    obtain ⟨j, p, hj, rfl, rfl, p0, p1, hp, t, rfl⟩ := hrel
    have HP := hid hp
    clear hp
    by_cases hl : j < n
    · have hjl : j < lens.length := by have := HNN.out; omega
      have hln : lens[j]? = some lens[j] := List.getElem?_eq_getElem hjl
      obtain ⟨ys, b, o, ka, kc, hyk, rfl, hb, f0, hr⟩ := at_SS HX.out hl
      rw [marks2_get Pcl.mk' 8 lens q j _ hln, ← HP.out] at hyk
      have hy := Option.some.inj hyk
      subst hy
      rw [marksOf_length] at f0 hr
      have hxb : lens[j] ≤ 1048576 := HB.out _ (List.getElem_mem hjl)
      have HST := hid (sum_take_succ hln)
      have hsum : (lens.take j).sum + lens[j] ≤ 4194304 := by have := sum_take_le lens (j + 1); rw [HST.out] at this; have := HS.out; omega
      have hp2 : p + (8 : Int) * (lens[j] : Int) ≤ 940000000 := by have := HP.out; omega
      have HR := hid hr
      clear hr hyk hln
      try go_wp2_with (first
          | (go_at_call 86; (with_reducible refine (heldPclS_c ka lens[j] kc p _ (HR.out.of (by ((try simp only [ext_drew]); (try simp only [ext_ext]); repeat (first | exact Ext.refl _ | with_reducible apply Ext.add | with_reducible apply Ext.dr | apply Ext.alloc | apply Ext.ext | apply Ext.drew | refine Ext.trans ?_ (by assumption))))) p0 (by omega) hxb).mono ?_); rintro e w' ⟨rfl, t, rfl⟩)
          | (
            with_reducible refine wp_region_mix (by kernel_rfl) (by decide +kernel) ?_
            repeat (first
              | (refine mix_pure rfl ?_; (first | go_big_quiet_skip | (go_big_quiet_want; go_big_quiet_op; go_big_quiet_on)); refine wpQuiet_nil ?_)
              | (refine mix_skip (by rfl) ?_; (try simp only [Act.put, List.setIfInBounds_toArray, List.set_cons_zero, List.set_cons_succ]))
              | (refine mix_mk rfl (by rfl) (fun K hK => ?_); (first | (go_simp; first | (go_at_call 86; (with_reducible refine (heldPclS_c ka lens[j] kc p _ (HR.out.of (by ((try simp only [ext_drew]); (try simp only [ext_ext]); repeat (first | exact Ext.refl _ | with_reducible apply Ext.add | with_reducible apply Ext.dr | apply Ext.alloc | apply Ext.ext | apply Ext.drew | refine Ext.trans ?_ (by assumption))))) p0 (by omega) hxb).mono ?_); rintro e w' ⟨rfl, t, rfl⟩) | skip)); (show K _ _); refine hK _ _ (show Ext _ _ from (by ((try simp only [ext_drew]); (try simp only [ext_ext]); repeat (first | exact Ext.refl _ | with_reducible apply Ext.add | with_reducible apply Ext.dr | apply Ext.alloc | apply Ext.ext | apply Ext.drew | refine Ext.trans ?_ (by assumption))))) ?_; clear hK K; (try simp only [Act.put, List.setIfInBounds_toArray, List.set_cons_zero, List.set_cons_succ])))
            refine mix_nil ?_)
          | (
            with_reducible refine wp_region_ext (by kernel_rfl) (by kernel_rfl) ?_
            repeat (first | go_big_quiet_skip | (go_big_quiet_want; go_big_quiet_op; first | go_big_quiet_on | (apply Exists.intro; refine ⟨fun _ => ?_, ?_⟩; (fail); (try rw [h1]); (try rw [h2]); (try rw [h3]); (try rw [h4]); (try rw [p1]); (try rw [p2]); (try rw [p3]); (try rw [p4]); (try rw [r1]); (try rw [r2]); (try rw [r3]); (try rw [r4]); (try rw [r5]); (try rw [r6]); (try rw [q3]); (try rw [q4]); (try rw [hp]); (try rw [hq]); go_big_quiet_on)))
            refine wpQuiet_nil ?_
            rintro _ ⟨tq, rfl⟩))
      go_roundw
      case rel => exact ⟨j + 1, p + (8 : Int) * (lens[j] : Int), by omega, by go_num, by first | rfl | (congr 1; omega), by omega, hp2, by rw [HST.out]; have := HP.out; omega, (by ((try simp only [ext_drew]); (try simp only [ext_ext]); repeat (first | exact Ext.refl _ | with_reducible apply Ext.add | with_reducible apply Ext.dr | apply Ext.alloc | apply Ext.ext | apply Ext.drew | refine Ext.trans ?_ (by assumption))))⟩
      case measure => simp [intOf]; omega
    · go_wp2
      go_ret
      exact ⟨ret_int (by rw [HP.out, List.take_of_length_le (by rw [← HNN.out]; omega)]), (by ((try simp only [ext_drew]); (try simp only [ext_ext]); repeat (first | exact Ext.refl _ | with_reducible apply Ext.add | with_reducible apply Ext.dr | apply Ext.alloc | apply Ext.ext | apply Ext.drew | refine Ext.trans ?_ (by assumption))))⟩

theorem markPclSS_s (xss : List (List Pcl)) (a : Option Addr) (n c : Nat) (B : List Nat) (q S : Int) (w : World) (hS : ((8 * (xss.map List.length).sum : Nat) : Int) = S) (ho : Own w (.sl (.sl sPcl)) [.slice a n c] (.l (xss.map (ldat Pcl.dat))) B) (hn : n = xss.length) (hnd : B.Nodup) (hlt : ∀ z ∈ B, z < w.heap.size) (h0 : 0 ≤ q) (h1 : q ≤ 900000000) (hn2 : n ≤ 1048576) (hbd : ∀ xs ∈ xss, xs.length ≤ 1048576) (hs : (xss.map List.length).sum ≤ 4194304) :
    Calls Try.prog 59 #[.slice a n c, .int .i64 q] w fun e w' => e = .returned (.int .i64 (q + S)) ∧ Own w' (.sl (.sl sPcl)) [.slice a n c] (.l ((marks2 Pcl.mk' 8 q (xss.map List.length)).map (ldat Pcl.dat))) B ∧ Chg B w w' := by
  subst hS; exact markPclSS_b xss a n c B q w ho hn hnd hlt h0 h1 hn2 hbd hs
theorem heldPclSS_s (lens : List Nat) (a : Option Addr) (n c : Nat) (q S : Int) (w : World) (hS : ((8 * lens.sum : Nat) : Int) = S) (hx : Re w (.sl (.sl sPcl)) [.slice a n c] (.l ((marks2 Pcl.mk' 8 q lens).map (ldat Pcl.dat)))) (h0 : 0 ≤ q) (h1 : q ≤ 900000000) (hn2 : n ≤ 1048576) (hbd : ∀ k ∈ lens, k ≤ 1048576) (hs : lens.sum ≤ 4194304) :
    Calls Try.prog 67 #[.slice a n c, .int .i64 q] w fun e w' => e = .returned (.int .i64 (q + S)) ∧ Ext w w' := by
  subst hS; exact heldPclSS_c lens a n c q w hx h0 h1 hn2 hbd hs

end Go.Proofs.Ytdogknbkcididaa
