/- Ghosts in lists: one recorded among others. -/
import Derived.Test.YtnfodkhfoegnaaaIns
import Derived.Test.YtnfodkhfoegnaaaGate
import Derived.Test.YtnfodkhfoegnaaaWlkF
import Derived.Test.YtnfodkhfoegnaaaClo
import Derived.Test.YtnfodkhfoegnaaaGstL
namespace Go.Proofs.Ytnfodkhfoegnaaa
open Go.RowKit
set_option linter.unusedSimpArgs false
set_option linter.unusedVariables false

/-- Which of two ghosts of one walker is kept. -/
def zG (g x : Gst) : Gst := if x.count < g.count then g else x
def sameG (g x : Gst) : Bool := (x.src == g.src) && (x.wk.id == g.wk.id)
/-- A list with a ghost recorded; n: the length of all. -/
def recL (n : Nat) (g : Gst) : List Gst → List Gst
  | [] => if n < 20 then [g] else []
  | x :: r => if gstLess x g = true then x :: recL n g r else if gstLess g x = true then (if n < 20 then g :: x :: r else x :: r) else zG g x :: r
theorem recL_len (n : Nat) (g : Gst) : ∀ xs : List Gst, (recL n g xs).length ≤ xs.length + 1
  | [] => by simp only [recL]; split <;> simp
  | x :: r => by
    have := recL_len n g r
    simp only [recL]
    repeat' split
    all_goals simp only [List.length_cons]
    all_goals omega
theorem recL_none {n : Nat} {g : Gst} : ∀ {xs : List Gst}, (∀ y ∈ xs, gstLess y g = true) → recL n g xs = if n < 20 then xs ++ [g] else xs
  | [], _ => by simp only [recL]; rfl
  | x :: r, h => by
    rw [recL, if_pos (h x (by simp)), recL_none fun y hy => h y (by simp [hy])]
    split <;> rfl
theorem recL_at {n : Nat} {g : Gst} : ∀ {xs : List Gst} {k : Nat} {x : Gst}, xs[k]? = some x → (∀ y ∈ xs.take k, gstLess y g = true) → gstLess x g = false →
    recL n g xs = if gstLess g x = true then (if n < 20 then insAt xs k g else xs) else xs.set k (zG g x)
  | [], _, _, h, _, _ => by simp at h
  | y :: r, 0, x, h, _, hn => by
    obtain rfl : y = x := by simpa using h
    rw [recL, if_neg (by rw [hn]; decide)]
    rfl
  | y :: r, k + 1, x, h, ha, hn => by
    rw [recL, if_pos (ha y (by simp)), recL_at (k := k) (x := x) (by simpa using h) (fun z hz => ha z (by simp [hz])) hn]
    repeat' split
    all_goals simp [insAt]
def stepG (n : Nat) (g : Gst) (s : List Gst × Bool) (x : Gst) : List Gst × Bool :=
  if sameG g x = true then (s.1 ++ [zG g x], true) else if (!s.2 && gstLess g x && decide (n < 20)) = true then (s.1 ++ [g] ++ [x], true) else (s.1 ++ [x], s.2)
def foldG (n : Nat) (g : Gst) (xs : List Gst) : List Gst × Bool := xs.foldl (stepG n g) ([], false)
def finG (n : Nat) (g : Gst) (s : List Gst × Bool) : List Gst := if (!s.2 && decide (n < 20)) = true then s.1 ++ [g] else s.1
theorem foldG_step {n : Nat} {g x : Gst} {xs : List Gst} {k : Nat} (h : xs[k]? = some x) : foldG n g (xs.take (k + 1)) = stepG n g (foldG n g (xs.take k)) x := by
  rw [foldG, List.take_add_one, h, List.foldl_append]; rfl
theorem stepG_len (n : Nat) (g : Gst) (s : List Gst × Bool) (x : Gst) : (stepG n g s x).1.length ≤ s.1.length + 2 := by
  unfold stepG; repeat' split
  all_goals simp
theorem foldG_len (n : Nat) (g : Gst) (xs : List Gst) (k : Nat) : (foldG n g (xs.take k)).1.length ≤ 2 * k := by
  induction k with
  | zero => simp [foldG]
  | succ k ih =>
    cases h : xs[k]? with
    | none => rw [List.take_of_length_le (by have := List.getElem?_eq_none_iff.1 h; omega)]; rw [List.take_of_length_le (by have := List.getElem?_eq_none_iff.1 h; omega)] at ih; omega
    | some x => rw [foldG_step h]; have := stepG_len n g (foldG n g (xs.take k)) x; omega
theorem gstLess_iff {a b : Gst} : gstLess a b = true ↔ a.src < b.src ∨ (a.src = b.src ∧ a.wk.id < b.wk.id) := by
  unfold gstLess; split <;> simp <;> omega
theorem gstLess_no {a b : Gst} : gstLess a b = false ↔ ¬ (a.src < b.src ∨ (a.src = b.src ∧ a.wk.id < b.wk.id)) := by
  rw [← gstLess_iff]; cases gstLess a b <;> simp
theorem sameG_iff {g x : Gst} : sameG g x = true ↔ x.src = g.src ∧ x.wk.id = g.wk.id := by simp [sameG]
theorem sameG_no {g x : Gst} : sameG g x = false ↔ ¬ (x.src = g.src ∧ x.wk.id = g.wk.id) := by rw [← sameG_iff]; cases sameG g x <;> simp
theorem fold_done {n : Nat} {g : Gst} : ∀ {xs : List Gst} {acc : List Gst}, (∀ y ∈ xs, sameG g y = false) → xs.foldl (stepG n g) (acc, true) = (acc ++ xs, true)
  | [], acc, _ => by simp
  | x :: r, acc, h => by
    rw [List.foldl_cons, stepG, if_neg (by rw [h x (by simp)]; decide), if_neg (by simp), fold_done fun y hy => h y (by simp [hy])]
    simp
theorem fold_full {n : Nat} {g : Gst} (hn : ¬ n < 20) : ∀ {xs : List Gst} {acc : List Gst}, (∀ y ∈ xs, sameG g y = false) → xs.foldl (stepG n g) (acc, false) = (acc ++ xs, false)
  | [], acc, _ => by simp
  | x :: r, acc, h => by
    rw [List.foldl_cons, stepG, if_neg (by rw [h x (by simp)]; decide), if_neg (by simp [hn]), fold_full hn fun y hy => h y (by simp [hy])]
    simp
theorem fold_recL {n : Nat} {g : Gst} : ∀ {xs : List Gst} {acc : List Gst}, xs.Pairwise (fun a b => gstLess a b = true) → finG n g (xs.foldl (stepG n g) (acc, false)) = acc ++ recL n g xs
  | [], acc, _ => by
    simp only [List.foldl_nil, finG, recL, Bool.not_false, Bool.true_and, decide_eq_true_eq]
    split <;> simp
  | x :: r, acc, h => by
    obtain ⟨h1, h2⟩ := List.pairwise_cons.1 h
    rw [List.foldl_cons, recL]
    cases hx : gstLess x g with
    | true =>
      have e1 := gstLess_iff.1 hx
      have e2 : sameG g x = false := sameG_no.2 (by omega)
      have e3 : gstLess g x = false := gstLess_no.2 (by omega)
      rw [stepG, if_neg (by rw [e2]; decide), if_neg (by simp [e3]), if_pos rfl, fold_recL h2]
      simp
    | false =>
      have e1 := gstLess_no.1 hx
      have hr : ∀ y ∈ r, sameG g y = false := fun y hy => sameG_no.2 (by have := gstLess_iff.1 (h1 y hy); omega)
      rw [if_neg (by decide)]
      cases hg : gstLess g x with
      | true =>
        have e2 := gstLess_iff.1 hg
        have e3 : sameG g x = false := sameG_no.2 (by omega)
        rw [if_pos rfl]
        by_cases hn : n < 20
        · rw [stepG, if_neg (by rw [e3]; decide), if_pos (by simp [hg, hn]), fold_done hr, finG, if_neg (by simp), if_pos hn]
          simp
        · rw [stepG, if_neg (by rw [e3]; decide), if_neg (by simp [hn]), fold_full hn hr, finG, if_neg (by simp [hn]), if_neg hn]
          simp
      | false =>
        have e2 := gstLess_no.1 hg
        have e3 : sameG g x = true := sameG_iff.2 (by omega)
        rw [stepG, if_pos e3, fold_done hr, finG, if_neg (by simp), if_neg (by decide)]
        simp
theorem gstLess_trans {a b c : Gst} (h1 : gstLess a b = true) (h2 : gstLess b c = true) : gstLess a c = true := by
  rw [gstLess_iff] at *; omega
theorem gstAll_sorted {m : Mp} {xs : List Gst} (h : gstAll m xs = true) : xs.Pairwise (fun a b => gstLess a b = true) := by
  have hc := allI_iff.1 h
  rw [List.pairwise_iff_getElem]
  intro i j hi hj hij
  obtain ⟨d, rfl⟩ : ∃ d, j = i + 1 + d := ⟨j - i - 1, by omega⟩
  induction d with
  | zero =>
    have := hc (i + 1) _ (List.getElem?_eq_getElem hj)
    simp only [gstAt, Bool.and_eq_true, Nat.zero_add] at this
    rw [relAt_pos rfl (List.getElem?_eq_getElem hi)] at this
    exact this.2
  | succ d ih =>
    have h1 := ih (by omega) (by omega)
    have := hc (i + 1 + (d + 1)) _ (List.getElem?_eq_getElem hj)
    simp only [gstAt, Bool.and_eq_true, Nat.zero_add] at this
    have this : gstOk m xs[i + 1 + (d + 1)] = true ∧ relAt gstLess xs (i + 1 + d + 1) xs[i + 1 + (d + 1)] = true := this
    rw [relAt_pos (j := i + 1 + d) rfl (List.getElem?_eq_getElem (show i + 1 + d < xs.length by omega))] at this
    exact gstLess_trans h1 this.2
def gstPutV (m : Mp) (xs : List Gst) (g : Gst) : List Gst := if (gstAll m xs && decide (xs.length ≤ 20) && gstOk m g) = true then recL xs.length g xs else []
theorem gstPutV_len (m : Mp) (xs : List Gst) (g : Gst) : (gstPutV m xs g).length ≤ xs.length + 1 := by
  unfold gstPutV; split
  · exact recL_len _ _ _
  · simp

theorem row_reG {w : World} {base : Nat} {a : Option Addr} {n c : Nat} {xs : List Gst} (hm : xs.length ≤ 9223372036854775807) (h : w.ownsRow base 42 7 (.slice a n c) xs.length (xs.flatMap Gst.cells)) : n = xs.length ∧ Re w (.sl sGst) [.slice a n c] (.l (xs.map Gst.dat)) := by
  obtain ⟨a9, c9, e9, h9⟩ := own_row (dat := Gst.dat) (sch := sGst) (k := 7) rfl (fun w x => own_Gst_mk w x) (fun _ => rfl) hm h
  obtain ⟨rfl, rfl, rfl⟩ := Value.slice.inj e9
  exact ⟨rfl, h9.re⟩
set_option maxHeartbeats 1000000 in
theorem iCloneGst_r (xs : List Gst) (a : Option Addr) (n c : Nat) (w : World) (hx : Re w (.sl sGst) [.slice a n c] (.l (xs.map Gst.dat))) (hn : n ≤ 2097152) :
    Calls Try.prog 91 #[.slice a n c] w fun e w' => ∃ v, e = .returned v ∧ Ext w w' ∧ w'.ownsRow w.heap.size 42 7 v xs.length (xs.flatMap Gst.cells) := by
  have HX := hid hx
  clear hx
  go_enter Try.func91, Try.ntmps91
  go_wp2_with (refine wpList_apps_Gst rfl _ _ rfl rfl (by ((try simp only [ext_drew]); (try simp only [ext_ext]); repeat (first | exact Ext.refl _ | with_reducible apply Ext.add | with_reducible apply Ext.dr | apply Ext.alloc | apply Ext.ext | apply Ext.drew | refine Ext.trans ?_ (by assumption)))) (w0 := w) (xs := []) (World.ownsRow_nil _ _ _ _) xs rfl (HX.out.of (by ((try simp only [ext_drew]); (try simp only [ext_ext]); repeat (first | exact Ext.refl _ | with_reducible apply Ext.add | with_reducible apply Ext.dr | apply Ext.alloc | apply Ext.ext | apply Ext.drew | refine Ext.trans ?_ (by assumption))))) (by simp; omega) ?_; intro v' t' hg; have HG := hid hg; clear hg)
  go_ret
  exact ⟨_, rfl, (by ((try simp only [ext_drew]); (try simp only [ext_ext]); repeat (first | exact Ext.refl _ | with_reducible apply Ext.add | with_reducible apply Ext.dr | apply Ext.alloc | apply Ext.ext | apply Ext.drew | refine Ext.trans ?_ (by assumption)))), HG.out⟩
set_option maxRecDepth 100000 in
set_option maxHeartbeats 4000000 in
theorem sGstPut_c (m : Mp) (xs : List Gst) (g : Gst) (a : Option Addr) (n c : Nat) (w : World) (hx : Re w (.sl sGst) [.slice a n c] (.l (xs.map Gst.dat))) (hn : n ≤ 1048576) :
    Calls Try.prog 25 #[.agg #[.int .i64 m.c, .int .i64 m.w], .slice a n c, .agg #[.int .i64 g.src, .int .i64 g.count, .int .i64 g.wk.id, .int .i64 g.wk.at_, .int .i64 g.wk.coins, .int .i64 g.wk.seq, .int .i64 g.wk.last]] w (MadeX w 42 7 Gst.cells (gstPutV m xs g)) := by
  have HX := hid hx
  have HLn := hid (show n = xs.length from hx.len)
  clear hx
  cases q1 : (gstAll m xs && decide ((n : Int) ≤ 20)) with
  | false =>
    have HQ := hid q1
    have E := hid (show gstPutV m xs g = [] by
      have h8 := HQ.out
      rw [HLn.out] at h8
      have h9 : decide ((xs.length : Int) ≤ 20) = decide (xs.length ≤ 20) := by by_cases h : xs.length ≤ 20 <;> simp [h] <;> omega
      rw [h9] at h8
      unfold gstPutV; rw [h8]; rfl)
    clear q1
    go_enter Try.func25, Try.ntmps25
    go_wp2_with (first | (go_at_call 69; (with_reducible refine (sGstListOk_g m xs _ _ _ false _ (HX.out.of (by ((try simp only [ext_drew]); (try simp only [ext_ext]); repeat (first | exact Ext.refl _ | with_reducible apply Ext.add | with_reducible apply Ext.dr | apply Ext.alloc | apply Ext.ext | apply Ext.drew | refine Ext.trans ?_ (by assumption))))) (by omega) HQ.out).mono ?_); rintro e w' ⟨rfl, t, rfl⟩))
    go_ret
    rw [E.out]
    exact ⟨_, _, [], rfl, (by ((try simp only [ext_drew]); (try simp only [ext_ext]); repeat (first | exact Ext.refl _ | with_reducible apply Ext.add | with_reducible apply Ext.dr | apply Ext.alloc | apply Ext.ext | apply Ext.drew | refine Ext.trans ?_ (by assumption)))), .inl ⟨rfl, rfl, _, rfl, .inr ⟨_, rfl⟩⟩, by simp⟩
  | true =>
    have HQ := hid q1
    clear q1
    cases q2 : gstOk m g with
    | false =>
      have E := hid (show gstPutV m xs g = [] by unfold gstPutV; rw [if_neg]; simp [q2])
      go_enter Try.func25, Try.ntmps25
      go_wp2_with (first | (go_at_call 69; (with_reducible refine (sGstListOk_g m xs _ _ _ true _ (HX.out.of (by ((try simp only [ext_drew]); (try simp only [ext_ext]); repeat (first | exact Ext.refl _ | with_reducible apply Ext.add | with_reducible apply Ext.dr | apply Ext.alloc | apply Ext.ext | apply Ext.drew | refine Ext.trans ?_ (by assumption))))) (by omega) HQ.out).mono ?_); rintro e w' ⟨rfl, t, rfl⟩) | (go_at_call 38; (with_reducible refine (sGstOk_c m g _).mono ?_); rintro e w' ⟨rfl, t2, rfl⟩))
      go_ret
      rw [E.out]
      exact ⟨_, _, [], rfl, (by ((try simp only [ext_drew]); (try simp only [ext_ext]); repeat (first | exact Ext.refl _ | with_reducible apply Ext.add | with_reducible apply Ext.dr | apply Ext.alloc | apply Ext.ext | apply Ext.drew | refine Ext.trans ?_ (by assumption)))), .inl ⟨rfl, rfl, _, rfl, .inr ⟨_, rfl⟩⟩, by simp⟩
    | true =>
      have hq1 := HQ.out
      simp only [Bool.and_eq_true, decide_eq_true_eq] at hq1
      have E := hid (show gstPutV m xs g = finG n g (foldG n g xs) by
        have hlen := HLn.out; rw [gstPutV, if_pos (by simp [hq1.1, q2]; omega), foldG, fold_recL (gstAll_sorted hq1.1), ← hlen]; rfl)
      have hn20 : n ≤ 20 := by omega
      clear hq1
      go_enter Try.func25, Try.ntmps25
      go_wp2_with (first | (go_at_call 69; (with_reducible refine (sGstListOk_g m xs _ _ _ true _ (HX.out.of (by ((try simp only [ext_drew]); (try simp only [ext_ext]); repeat (first | exact Ext.refl _ | with_reducible apply Ext.add | with_reducible apply Ext.dr | apply Ext.alloc | apply Ext.ext | apply Ext.drew | refine Ext.trans ?_ (by assumption))))) (by omega) HQ.out).mono ?_); rintro e w' ⟨rfl, t, rfl⟩) | (go_at_call 38; (with_reducible refine (sGstOk_c m g _).mono ?_); rintro e w' ⟨rfl, t2, rfl⟩))
      refine wp_gen fun B0 hB0 => ?_
      have EB : Ext w B0 := by rw [hB0]; ((try simp only [ext_drew]); (try simp only [ext_ext]); repeat (first | exact Ext.refl _ | with_reducible apply Ext.add | with_reducible apply Ext.dr | apply Ext.alloc | apply Ext.ext | apply Ext.drew | refine Ext.trans ?_ (by assumption)))
      have HRb := hid (show Re B0 (.sl sGst) [.slice a n c] (.l (xs.map Gst.dat)) from HX.out.of EB)
      have lM : w.heap.size + 1 < B0.heap.size := by rw [hB0]; ((try simp [go_sem]) <;> (try simp [Xt.add]) <;> omega)
      have cM0 : B0.cell? ⟨w.heap.size + 1, 0, none⟩ = some (.int .i64 g.src) := by rw [hB0]; simp [go_sem]
      have cM1 : B0.cell? ⟨w.heap.size + 1, 1, none⟩ = some (.int .i64 g.count) := by rw [hB0]; simp [go_sem]
      have cM2 : B0.cell? ⟨w.heap.size + 1, 2, none⟩ = some (.int .i64 g.wk.id) := by rw [hB0]; simp [go_sem]
      have cM3 : B0.cell? ⟨w.heap.size + 1, 3, none⟩ = some (.int .i64 g.wk.at_) := by rw [hB0]; simp [go_sem]
      have cM4 : B0.cell? ⟨w.heap.size + 1, 4, none⟩ = some (.int .i64 g.wk.coins) := by rw [hB0]; simp [go_sem]
      have cM5 : B0.cell? ⟨w.heap.size + 1, 5, none⟩ = some (.int .i64 g.wk.seq) := by rw [hB0]; simp [go_sem]
      have cM6 : B0.cell? ⟨w.heap.size + 1, 6, none⟩ = some (.int .i64 g.wk.last) := by rw [hB0]; simp [go_sem]
      obtain ⟨z0, hz0⟩ : ∃ z0, w.heap.size + 1 + 1 + (t.add t2).bs.size = z0 := ⟨_, rfl⟩
      have HG0 := hid (show RowX B0 42 7 Gst.cells (.slice (some ⟨w.heap.size + 1 + 1 + (t.add t2).bs.size, 0, none⟩) 0 0) [] [] from .inl ⟨rfl, rfl, _, rfl, .inr ⟨_, rfl⟩⟩)
      clear hB0 HX hz0
      generalize hGe : w.heap.size + 1 = G at *
      have HGe := hid hGe
      clear hGe
      go_loopw [7, 8, 9] (fun v d i wr => ∃ (k : Nat) (B : List Nat) (db : Bool) (L : List Gst), k ≤ n ∧ i = .int .i64 k ∧ d = .bool db ∧ foldG n g (xs.take k) = (L, db) ∧ RowX wr 42 7 Gst.cells v L B ∧ (∀ b ∈ B, B0.heap.size ≤ b) ∧ Ext B0 wr) (fun _ _ i _ => n - (intOf i).toNat)
      case atStart => exact ⟨0, [], false, [], Nat.zero_le _, rfl, rfl, rfl, HG0.out, by simp, (by ((try simp only [ext_drew]); (try simp only [ext_ext]); repeat (first | exact Ext.refl _ | with_reducible apply Ext.add | with_reducible apply Ext.dr | apply Ext.alloc | apply Ext.ext | apply Ext.drew | refine Ext.trans ?_ (by assumption))))⟩
      case round =>
        obtain ⟨k, B, d, L, hk, rfl, rfl, hf, hg, hgb, t3, rfl⟩ := hrel
        have HG := hid hg
        have HGb := hid hgb
        have HF := hid hf
        have hL : L.length ≤ 40 := by have := foldG_len n g xs k; rw [hf] at this; simp only at this; omega
        clear hg hgb hf
        by_cases hlt : k < n
        · obtain ⟨x, b1, o1, hxk, rfl, hb1, f0, f1, f2, f3, f4, f5, f6⟩ := at_Gst HRb.out hlt
          have HK := hid hxk
          clear hxk
          cases e1 : (x.src == g.src) with
          | false =>
            have e3 : sameG g x = false := (by simp [sameG, e1])
            cases d with
            | true =>
              have HS := hid (show foldG n g (xs.take (k + 1)) = (L ++ [x], true) by rw [foldG_step HK.out, HF.out, stepG, if_neg (by rw [e3]; decide), if_neg (by simp)])
              clear e3
              go_wp2_with (first | (go_at_call 70; (with_reducible refine (less_c g x _).mono ?_); rintro e w' ⟨rfl, tl, rfl⟩) | ((with_reducible refine app_gate ?_); ((refine wpList_appXE (cells := Gst.cells) (k := 7) (bytes := 56) (z := .agg #[.int .i64 0, .int .i64 0, .int .i64 0, .int .i64 0, .int .i64 0, .int .i64 0, .int .i64 0]) Try.underlying73 (by kernel_rfl) rfl (by decide) (by decide) (fun _ => rfl) (fun x u hu => by simp only [Gst.cells, List.mem_cons, List.not_mem_nil, or_false] at hu; rcases hu with rfl | rfl | rfl | rfl | rfl | rfl | rfl <;> rfl) rfl (B0) _ _ rfl rfl (by ((try simp only [ext_drew]); (try simp only [ext_ext]); repeat (first | exact Ext.refl _ | with_reducible apply Ext.add | with_reducible apply Ext.dr | apply Ext.alloc | apply Ext.ext | apply Ext.drew | refine Ext.trans ?_ (by assumption)))) (xs := L) (HG.out.of (by ((try simp only [ext_drew]); (try simp only [ext_ext]); repeat (first | exact Ext.refl _ | with_reducible apply Ext.add | with_reducible apply Ext.dr | apply Ext.alloc | apply Ext.ext | apply Ext.drew | refine Ext.trans ?_ (by assumption))))) HGb.out (x) rfl (alloc_last (by (try simp [go_sem]) <;> (try simp [Xt.add]) <;> omega)) (by omega) ?_); intro v' t' B' hg hb; have HG' := hid hg; have HG'b := hid hb; clear hg hb)))
              go_roundw
              case rel => exact ⟨k + 1, _, true, _, by omega, by go_num, rfl, HS.out, HG'.out, HG'b.out, (by ((try simp only [ext_drew]); (try simp only [ext_ext]); repeat (first | exact Ext.refl _ | with_reducible apply Ext.add | with_reducible apply Ext.dr | apply Ext.alloc | apply Ext.ext | apply Ext.drew | refine Ext.trans ?_ (by assumption))))⟩
              case measure => simp [intOf]; omega
            | false =>
              cases e4 : gstLess g x with
              | false =>
                have HS := hid (show foldG n g (xs.take (k + 1)) = (L ++ [x], false) by rw [foldG_step HK.out, HF.out, stepG, if_neg (by rw [e3]; decide), if_neg (by simp [e4])])
                clear e3
                go_wp2_with (first | (go_at_call 70; (with_reducible refine (less_c g x _).mono ?_); rintro e w' ⟨rfl, tl, rfl⟩) | ((with_reducible refine app_gate ?_); ((refine wpList_appXE (cells := Gst.cells) (k := 7) (bytes := 56) (z := .agg #[.int .i64 0, .int .i64 0, .int .i64 0, .int .i64 0, .int .i64 0, .int .i64 0, .int .i64 0]) Try.underlying73 (by kernel_rfl) rfl (by decide) (by decide) (fun _ => rfl) (fun x u hu => by simp only [Gst.cells, List.mem_cons, List.not_mem_nil, or_false] at hu; rcases hu with rfl | rfl | rfl | rfl | rfl | rfl | rfl <;> rfl) rfl (B0) _ _ rfl rfl (by ((try simp only [ext_drew]); (try simp only [ext_ext]); repeat (first | exact Ext.refl _ | with_reducible apply Ext.add | with_reducible apply Ext.dr | apply Ext.alloc | apply Ext.ext | apply Ext.drew | refine Ext.trans ?_ (by assumption)))) (xs := L) (HG.out.of (by ((try simp only [ext_drew]); (try simp only [ext_ext]); repeat (first | exact Ext.refl _ | with_reducible apply Ext.add | with_reducible apply Ext.dr | apply Ext.alloc | apply Ext.ext | apply Ext.drew | refine Ext.trans ?_ (by assumption))))) HGb.out (x) rfl (alloc_last (by (try simp [go_sem]) <;> (try simp [Xt.add]) <;> omega)) (by omega) ?_); intro v' t' B' hg hb; have HG' := hid hg; have HG'b := hid hb; clear hg hb)))
                go_roundw
                case rel => exact ⟨k + 1, _, false, _, by omega, by go_num, rfl, HS.out, HG'.out, HG'b.out, (by ((try simp only [ext_drew]); (try simp only [ext_ext]); repeat (first | exact Ext.refl _ | with_reducible apply Ext.add | with_reducible apply Ext.dr | apply Ext.alloc | apply Ext.ext | apply Ext.drew | refine Ext.trans ?_ (by assumption))))⟩
                case measure => simp [intOf]; omega
              | true =>
                by_cases h20 : (n : Int) < 20
                · have HS := hid (show foldG n g (xs.take (k + 1)) = (L ++ [g] ++ [x], true) by rw [foldG_step HK.out, HF.out, stepG, if_neg (by rw [e3]; decide), if_pos (by simp [e4]; omega)])
                  have hL2 : (L ++ [g]).length ≤ 4194304 := by simp; omega
                  clear e3
                  go_wp2_with (first | (go_at_call 70; (with_reducible refine (less_c g x _).mono ?_); rintro e w' ⟨rfl, tl, rfl⟩) | (((with_reducible refine app_gate ?_); (refine wpList_appXC (cells := Gst.cells) (k := 7) (bytes := 56) (z := .agg #[.int .i64 0, .int .i64 0, .int .i64 0, .int .i64 0, .int .i64 0, .int .i64 0, .int .i64 0]) Try.underlying73 (by kernel_rfl) rfl (by decide) (by decide) (fun _ => rfl) (fun x u hu => by simp only [Gst.cells, List.mem_cons, List.not_mem_nil, or_false] at hu; rcases hu with rfl | rfl | rfl | rfl | rfl | rfl | rfl <;> rfl) rfl (B0) _ _ rfl rfl (by ((try simp only [ext_drew]); (try simp only [ext_ext]); repeat (first | exact Ext.refl _ | with_reducible apply Ext.add | with_reducible apply Ext.dr | apply Ext.alloc | apply Ext.ext | apply Ext.drew | refine Ext.trans ?_ (by assumption)))) (xs := L) (HG.out.of (by ((try simp only [ext_drew]); (try simp only [ext_ext]); repeat (first | exact Ext.refl _ | with_reducible apply Ext.add | with_reducible apply Ext.dr | apply Ext.alloc | apply Ext.ext | apply Ext.drew | refine Ext.trans ?_ (by assumption))))) HGb.out (g) rfl (alloc_last (by (try simp [go_sem]) <;> (try simp [Xt.add]) <;> omega)) (by omega) (B0.heap.size + t3.bs.size) _ (blk_alloc (blk_ext (alloc_last (by (try simp [go_sem]) <;> (try simp [Xt.add]) <;> omega)))) (fun hb => by have h7 := HG.out.lt _ hb; simp [ext_size] at h7) ?_); intro v' t' B' hg hb hpb; have HG' := hid hg; have HG'b := hid hb; have HPB := hid hpb; clear hg hb hpb); have cT0 : (ext B0 t').cell? ⟨B0.heap.size + t3.bs.size, 0, none⟩ = some (.int .i64 x.src) := (cell_blk HPB.out 0).trans rfl; have cT1 : (ext B0 t').cell? ⟨B0.heap.size + t3.bs.size, 1, none⟩ = some (.int .i64 x.count) := (cell_blk HPB.out 1).trans rfl; have cT2 : (ext B0 t').cell? ⟨B0.heap.size + t3.bs.size, 2, none⟩ = some (.int .i64 x.wk.id) := (cell_blk HPB.out 2).trans rfl; have cT3 : (ext B0 t').cell? ⟨B0.heap.size + t3.bs.size, 3, none⟩ = some (.int .i64 x.wk.at_) := (cell_blk HPB.out 3).trans rfl; have cT4 : (ext B0 t').cell? ⟨B0.heap.size + t3.bs.size, 4, none⟩ = some (.int .i64 x.wk.coins) := (cell_blk HPB.out 4).trans rfl; have cT5 : (ext B0 t').cell? ⟨B0.heap.size + t3.bs.size, 5, none⟩ = some (.int .i64 x.wk.seq) := (cell_blk HPB.out 5).trans rfl; have cT6 : (ext B0 t').cell? ⟨B0.heap.size + t3.bs.size, 6, none⟩ = some (.int .i64 x.wk.last) := (cell_blk HPB.out 6).trans rfl; have lT : B0.heap.size + t3.bs.size < (ext B0 t').heap.size := lt_blk HPB.out; rw [ext_size] at lT) | ((with_reducible refine app_gate ?_); ((refine wpList_appXE (cells := Gst.cells) (k := 7) (bytes := 56) (z := .agg #[.int .i64 0, .int .i64 0, .int .i64 0, .int .i64 0, .int .i64 0, .int .i64 0, .int .i64 0]) Try.underlying73 (by kernel_rfl) rfl (by decide) (by decide) (fun _ => rfl) (fun x u hu => by simp only [Gst.cells, List.mem_cons, List.not_mem_nil, or_false] at hu; rcases hu with rfl | rfl | rfl | rfl | rfl | rfl | rfl <;> rfl) rfl (B0) _ _ rfl rfl (by ((try simp only [ext_drew]); (try simp only [ext_ext]); repeat (first | exact Ext.refl _ | with_reducible apply Ext.add | with_reducible apply Ext.dr | apply Ext.alloc | apply Ext.ext | apply Ext.drew | refine Ext.trans ?_ (by assumption)))) (xs := L ++ [g]) (HG'.out.of (by ((try simp only [ext_drew]); (try simp only [ext_ext]); repeat (first | exact Ext.refl _ | with_reducible apply Ext.add | with_reducible apply Ext.dr | apply Ext.alloc | apply Ext.ext | apply Ext.drew | refine Ext.trans ?_ (by assumption))))) HG'b.out (x) rfl (alloc_last (by (try simp [go_sem]) <;> (try simp [Xt.add]) <;> omega)) (by omega) ?_); intro v' t' B' hg hb; have HG'' := hid hg; have HG''b := hid hb; clear hg hb)))
                  go_roundw
                  case rel => exact ⟨k + 1, _, true, _, by omega, by go_num, rfl, HS.out, HG''.out, HG''b.out, (by ((try simp only [ext_drew]); (try simp only [ext_ext]); repeat (first | exact Ext.refl _ | with_reducible apply Ext.add | with_reducible apply Ext.dr | apply Ext.alloc | apply Ext.ext | apply Ext.drew | refine Ext.trans ?_ (by assumption))))⟩
                  case measure => simp [intOf]; omega
                · have HS := hid (show foldG n g (xs.take (k + 1)) = (L ++ [x], false) by rw [foldG_step HK.out, HF.out, stepG, if_neg (by rw [e3]; decide), if_neg (by simp [e4]; omega)])
                  clear e3
                  go_wp2_with (first | (go_at_call 70; (with_reducible refine (less_c g x _).mono ?_); rintro e w' ⟨rfl, tl, rfl⟩) | ((with_reducible refine app_gate ?_); ((refine wpList_appXE (cells := Gst.cells) (k := 7) (bytes := 56) (z := .agg #[.int .i64 0, .int .i64 0, .int .i64 0, .int .i64 0, .int .i64 0, .int .i64 0, .int .i64 0]) Try.underlying73 (by kernel_rfl) rfl (by decide) (by decide) (fun _ => rfl) (fun x u hu => by simp only [Gst.cells, List.mem_cons, List.not_mem_nil, or_false] at hu; rcases hu with rfl | rfl | rfl | rfl | rfl | rfl | rfl <;> rfl) rfl (B0) _ _ rfl rfl (by ((try simp only [ext_drew]); (try simp only [ext_ext]); repeat (first | exact Ext.refl _ | with_reducible apply Ext.add | with_reducible apply Ext.dr | apply Ext.alloc | apply Ext.ext | apply Ext.drew | refine Ext.trans ?_ (by assumption)))) (xs := L) (HG.out.of (by ((try simp only [ext_drew]); (try simp only [ext_ext]); repeat (first | exact Ext.refl _ | with_reducible apply Ext.add | with_reducible apply Ext.dr | apply Ext.alloc | apply Ext.ext | apply Ext.drew | refine Ext.trans ?_ (by assumption))))) HGb.out (x) rfl (alloc_last (by (try simp [go_sem]) <;> (try simp [Xt.add]) <;> omega)) (by omega) ?_); intro v' t' B' hg hb; have HG' := hid hg; have HG'b := hid hb; clear hg hb)))
                  go_roundw
                  case rel => exact ⟨k + 1, _, false, _, by omega, by go_num, rfl, HS.out, HG'.out, HG'b.out, (by ((try simp only [ext_drew]); (try simp only [ext_ext]); repeat (first | exact Ext.refl _ | with_reducible apply Ext.add | with_reducible apply Ext.dr | apply Ext.alloc | apply Ext.ext | apply Ext.drew | refine Ext.trans ?_ (by assumption))))⟩
                  case measure => simp [intOf]; omega
          | true =>
            cases e2 : (x.wk.id == g.wk.id) with
            | false =>
              have e3 : sameG g x = false := (by simp [sameG, e1, e2])
              cases d with
              | true =>
                have HS := hid (show foldG n g (xs.take (k + 1)) = (L ++ [x], true) by rw [foldG_step HK.out, HF.out, stepG, if_neg (by rw [e3]; decide), if_neg (by simp)])
                clear e3
                go_wp2_with (first | (go_at_call 70; (with_reducible refine (less_c g x _).mono ?_); rintro e w' ⟨rfl, tl, rfl⟩) | ((with_reducible refine app_gate ?_); ((refine wpList_appXE (cells := Gst.cells) (k := 7) (bytes := 56) (z := .agg #[.int .i64 0, .int .i64 0, .int .i64 0, .int .i64 0, .int .i64 0, .int .i64 0, .int .i64 0]) Try.underlying73 (by kernel_rfl) rfl (by decide) (by decide) (fun _ => rfl) (fun x u hu => by simp only [Gst.cells, List.mem_cons, List.not_mem_nil, or_false] at hu; rcases hu with rfl | rfl | rfl | rfl | rfl | rfl | rfl <;> rfl) rfl (B0) _ _ rfl rfl (by ((try simp only [ext_drew]); (try simp only [ext_ext]); repeat (first | exact Ext.refl _ | with_reducible apply Ext.add | with_reducible apply Ext.dr | apply Ext.alloc | apply Ext.ext | apply Ext.drew | refine Ext.trans ?_ (by assumption)))) (xs := L) (HG.out.of (by ((try simp only [ext_drew]); (try simp only [ext_ext]); repeat (first | exact Ext.refl _ | with_reducible apply Ext.add | with_reducible apply Ext.dr | apply Ext.alloc | apply Ext.ext | apply Ext.drew | refine Ext.trans ?_ (by assumption))))) HGb.out (x) rfl (alloc_last (by (try simp [go_sem]) <;> (try simp [Xt.add]) <;> omega)) (by omega) ?_); intro v' t' B' hg hb; have HG' := hid hg; have HG'b := hid hb; clear hg hb)))
                go_roundw
                case rel => exact ⟨k + 1, _, true, _, by omega, by go_num, rfl, HS.out, HG'.out, HG'b.out, (by ((try simp only [ext_drew]); (try simp only [ext_ext]); repeat (first | exact Ext.refl _ | with_reducible apply Ext.add | with_reducible apply Ext.dr | apply Ext.alloc | apply Ext.ext | apply Ext.drew | refine Ext.trans ?_ (by assumption))))⟩
                case measure => simp [intOf]; omega
              | false =>
                cases e4 : gstLess g x with
                | false =>
                  have HS := hid (show foldG n g (xs.take (k + 1)) = (L ++ [x], false) by rw [foldG_step HK.out, HF.out, stepG, if_neg (by rw [e3]; decide), if_neg (by simp [e4])])
                  clear e3
                  go_wp2_with (first | (go_at_call 70; (with_reducible refine (less_c g x _).mono ?_); rintro e w' ⟨rfl, tl, rfl⟩) | ((with_reducible refine app_gate ?_); ((refine wpList_appXE (cells := Gst.cells) (k := 7) (bytes := 56) (z := .agg #[.int .i64 0, .int .i64 0, .int .i64 0, .int .i64 0, .int .i64 0, .int .i64 0, .int .i64 0]) Try.underlying73 (by kernel_rfl) rfl (by decide) (by decide) (fun _ => rfl) (fun x u hu => by simp only [Gst.cells, List.mem_cons, List.not_mem_nil, or_false] at hu; rcases hu with rfl | rfl | rfl | rfl | rfl | rfl | rfl <;> rfl) rfl (B0) _ _ rfl rfl (by ((try simp only [ext_drew]); (try simp only [ext_ext]); repeat (first | exact Ext.refl _ | with_reducible apply Ext.add | with_reducible apply Ext.dr | apply Ext.alloc | apply Ext.ext | apply Ext.drew | refine Ext.trans ?_ (by assumption)))) (xs := L) (HG.out.of (by ((try simp only [ext_drew]); (try simp only [ext_ext]); repeat (first | exact Ext.refl _ | with_reducible apply Ext.add | with_reducible apply Ext.dr | apply Ext.alloc | apply Ext.ext | apply Ext.drew | refine Ext.trans ?_ (by assumption))))) HGb.out (x) rfl (alloc_last (by (try simp [go_sem]) <;> (try simp [Xt.add]) <;> omega)) (by omega) ?_); intro v' t' B' hg hb; have HG' := hid hg; have HG'b := hid hb; clear hg hb)))
                  go_roundw
                  case rel => exact ⟨k + 1, _, false, _, by omega, by go_num, rfl, HS.out, HG'.out, HG'b.out, (by ((try simp only [ext_drew]); (try simp only [ext_ext]); repeat (first | exact Ext.refl _ | with_reducible apply Ext.add | with_reducible apply Ext.dr | apply Ext.alloc | apply Ext.ext | apply Ext.drew | refine Ext.trans ?_ (by assumption))))⟩
                  case measure => simp [intOf]; omega
                | true =>
                  by_cases h20 : (n : Int) < 20
                  · have HS := hid (show foldG n g (xs.take (k + 1)) = (L ++ [g] ++ [x], true) by rw [foldG_step HK.out, HF.out, stepG, if_neg (by rw [e3]; decide), if_pos (by simp [e4]; omega)])
                    have hL2 : (L ++ [g]).length ≤ 4194304 := by simp; omega
                    clear e3
                    go_wp2_with (first | (go_at_call 70; (with_reducible refine (less_c g x _).mono ?_); rintro e w' ⟨rfl, tl, rfl⟩) | (((with_reducible refine app_gate ?_); (refine wpList_appXC (cells := Gst.cells) (k := 7) (bytes := 56) (z := .agg #[.int .i64 0, .int .i64 0, .int .i64 0, .int .i64 0, .int .i64 0, .int .i64 0, .int .i64 0]) Try.underlying73 (by kernel_rfl) rfl (by decide) (by decide) (fun _ => rfl) (fun x u hu => by simp only [Gst.cells, List.mem_cons, List.not_mem_nil, or_false] at hu; rcases hu with rfl | rfl | rfl | rfl | rfl | rfl | rfl <;> rfl) rfl (B0) _ _ rfl rfl (by ((try simp only [ext_drew]); (try simp only [ext_ext]); repeat (first | exact Ext.refl _ | with_reducible apply Ext.add | with_reducible apply Ext.dr | apply Ext.alloc | apply Ext.ext | apply Ext.drew | refine Ext.trans ?_ (by assumption)))) (xs := L) (HG.out.of (by ((try simp only [ext_drew]); (try simp only [ext_ext]); repeat (first | exact Ext.refl _ | with_reducible apply Ext.add | with_reducible apply Ext.dr | apply Ext.alloc | apply Ext.ext | apply Ext.drew | refine Ext.trans ?_ (by assumption))))) HGb.out (g) rfl (alloc_last (by (try simp [go_sem]) <;> (try simp [Xt.add]) <;> omega)) (by omega) (B0.heap.size + t3.bs.size) _ (blk_alloc (blk_ext (alloc_last (by (try simp [go_sem]) <;> (try simp [Xt.add]) <;> omega)))) (fun hb => by have h7 := HG.out.lt _ hb; simp [ext_size] at h7) ?_); intro v' t' B' hg hb hpb; have HG' := hid hg; have HG'b := hid hb; have HPB := hid hpb; clear hg hb hpb); have cT0 : (ext B0 t').cell? ⟨B0.heap.size + t3.bs.size, 0, none⟩ = some (.int .i64 x.src) := (cell_blk HPB.out 0).trans rfl; have cT1 : (ext B0 t').cell? ⟨B0.heap.size + t3.bs.size, 1, none⟩ = some (.int .i64 x.count) := (cell_blk HPB.out 1).trans rfl; have cT2 : (ext B0 t').cell? ⟨B0.heap.size + t3.bs.size, 2, none⟩ = some (.int .i64 x.wk.id) := (cell_blk HPB.out 2).trans rfl; have cT3 : (ext B0 t').cell? ⟨B0.heap.size + t3.bs.size, 3, none⟩ = some (.int .i64 x.wk.at_) := (cell_blk HPB.out 3).trans rfl; have cT4 : (ext B0 t').cell? ⟨B0.heap.size + t3.bs.size, 4, none⟩ = some (.int .i64 x.wk.coins) := (cell_blk HPB.out 4).trans rfl; have cT5 : (ext B0 t').cell? ⟨B0.heap.size + t3.bs.size, 5, none⟩ = some (.int .i64 x.wk.seq) := (cell_blk HPB.out 5).trans rfl; have cT6 : (ext B0 t').cell? ⟨B0.heap.size + t3.bs.size, 6, none⟩ = some (.int .i64 x.wk.last) := (cell_blk HPB.out 6).trans rfl; have lT : B0.heap.size + t3.bs.size < (ext B0 t').heap.size := lt_blk HPB.out; rw [ext_size] at lT) | ((with_reducible refine app_gate ?_); ((refine wpList_appXE (cells := Gst.cells) (k := 7) (bytes := 56) (z := .agg #[.int .i64 0, .int .i64 0, .int .i64 0, .int .i64 0, .int .i64 0, .int .i64 0, .int .i64 0]) Try.underlying73 (by kernel_rfl) rfl (by decide) (by decide) (fun _ => rfl) (fun x u hu => by simp only [Gst.cells, List.mem_cons, List.not_mem_nil, or_false] at hu; rcases hu with rfl | rfl | rfl | rfl | rfl | rfl | rfl <;> rfl) rfl (B0) _ _ rfl rfl (by ((try simp only [ext_drew]); (try simp only [ext_ext]); repeat (first | exact Ext.refl _ | with_reducible apply Ext.add | with_reducible apply Ext.dr | apply Ext.alloc | apply Ext.ext | apply Ext.drew | refine Ext.trans ?_ (by assumption)))) (xs := L ++ [g]) (HG'.out.of (by ((try simp only [ext_drew]); (try simp only [ext_ext]); repeat (first | exact Ext.refl _ | with_reducible apply Ext.add | with_reducible apply Ext.dr | apply Ext.alloc | apply Ext.ext | apply Ext.drew | refine Ext.trans ?_ (by assumption))))) HG'b.out (x) rfl (alloc_last (by (try simp [go_sem]) <;> (try simp [Xt.add]) <;> omega)) (by omega) ?_); intro v' t' B' hg hb; have HG'' := hid hg; have HG''b := hid hb; clear hg hb)))
                    go_roundw
                    case rel => exact ⟨k + 1, _, true, _, by omega, by go_num, rfl, HS.out, HG''.out, HG''b.out, (by ((try simp only [ext_drew]); (try simp only [ext_ext]); repeat (first | exact Ext.refl _ | with_reducible apply Ext.add | with_reducible apply Ext.dr | apply Ext.alloc | apply Ext.ext | apply Ext.drew | refine Ext.trans ?_ (by assumption))))⟩
                    case measure => simp [intOf]; omega
                  · have HS := hid (show foldG n g (xs.take (k + 1)) = (L ++ [x], false) by rw [foldG_step HK.out, HF.out, stepG, if_neg (by rw [e3]; decide), if_neg (by simp [e4]; omega)])
                    clear e3
                    go_wp2_with (first | (go_at_call 70; (with_reducible refine (less_c g x _).mono ?_); rintro e w' ⟨rfl, tl, rfl⟩) | ((with_reducible refine app_gate ?_); ((refine wpList_appXE (cells := Gst.cells) (k := 7) (bytes := 56) (z := .agg #[.int .i64 0, .int .i64 0, .int .i64 0, .int .i64 0, .int .i64 0, .int .i64 0, .int .i64 0]) Try.underlying73 (by kernel_rfl) rfl (by decide) (by decide) (fun _ => rfl) (fun x u hu => by simp only [Gst.cells, List.mem_cons, List.not_mem_nil, or_false] at hu; rcases hu with rfl | rfl | rfl | rfl | rfl | rfl | rfl <;> rfl) rfl (B0) _ _ rfl rfl (by ((try simp only [ext_drew]); (try simp only [ext_ext]); repeat (first | exact Ext.refl _ | with_reducible apply Ext.add | with_reducible apply Ext.dr | apply Ext.alloc | apply Ext.ext | apply Ext.drew | refine Ext.trans ?_ (by assumption)))) (xs := L) (HG.out.of (by ((try simp only [ext_drew]); (try simp only [ext_ext]); repeat (first | exact Ext.refl _ | with_reducible apply Ext.add | with_reducible apply Ext.dr | apply Ext.alloc | apply Ext.ext | apply Ext.drew | refine Ext.trans ?_ (by assumption))))) HGb.out (x) rfl (alloc_last (by (try simp [go_sem]) <;> (try simp [Xt.add]) <;> omega)) (by omega) ?_); intro v' t' B' hg hb; have HG' := hid hg; have HG'b := hid hb; clear hg hb)))
                    go_roundw
                    case rel => exact ⟨k + 1, _, false, _, by omega, by go_num, rfl, HS.out, HG'.out, HG'b.out, (by ((try simp only [ext_drew]); (try simp only [ext_ext]); repeat (first | exact Ext.refl _ | with_reducible apply Ext.add | with_reducible apply Ext.dr | apply Ext.alloc | apply Ext.ext | apply Ext.drew | refine Ext.trans ?_ (by assumption))))⟩
                    case measure => simp [intOf]; omega
            | true =>
              have e3 : sameG g x = true := by simp [sameG, e1, e2]
              by_cases hc : x.count < g.count
              · have HS := hid (show foldG n g (xs.take (k + 1)) = (L ++ [g], true) by rw [foldG_step HK.out, HF.out, stepG, if_pos e3, zG, if_pos hc])
                have hc' : decide (x.count < g.count) = true := by simpa using hc
                clear e3
                go_wp2_with (first | (go_at_call 70; (with_reducible refine (less_c g x _).mono ?_); rintro e w' ⟨rfl, tl, rfl⟩) | ((with_reducible refine app_gate ?_); ((refine wpList_appXE (cells := Gst.cells) (k := 7) (bytes := 56) (z := .agg #[.int .i64 0, .int .i64 0, .int .i64 0, .int .i64 0, .int .i64 0, .int .i64 0, .int .i64 0]) Try.underlying73 (by kernel_rfl) rfl (by decide) (by decide) (fun _ => rfl) (fun x u hu => by simp only [Gst.cells, List.mem_cons, List.not_mem_nil, or_false] at hu; rcases hu with rfl | rfl | rfl | rfl | rfl | rfl | rfl <;> rfl) rfl (B0) _ _ rfl rfl (by ((try simp only [ext_drew]); (try simp only [ext_ext]); repeat (first | exact Ext.refl _ | with_reducible apply Ext.add | with_reducible apply Ext.dr | apply Ext.alloc | apply Ext.ext | apply Ext.drew | refine Ext.trans ?_ (by assumption)))) (xs := L) (HG.out.of (by ((try simp only [ext_drew]); (try simp only [ext_ext]); repeat (first | exact Ext.refl _ | with_reducible apply Ext.add | with_reducible apply Ext.dr | apply Ext.alloc | apply Ext.ext | apply Ext.drew | refine Ext.trans ?_ (by assumption))))) HGb.out (g) rfl (alloc_last (by (try simp [go_sem]) <;> (try simp [Xt.add]) <;> omega)) (by omega) ?_); intro v' t' B' hg hb; have HG' := hid hg; have HG'b := hid hb; clear hg hb)))
                go_roundw
                case rel => exact ⟨k + 1, _, true, _, by omega, by go_num, rfl, HS.out, HG'.out, HG'b.out, (by ((try simp only [ext_drew]); (try simp only [ext_ext]); repeat (first | exact Ext.refl _ | with_reducible apply Ext.add | with_reducible apply Ext.dr | apply Ext.alloc | apply Ext.ext | apply Ext.drew | refine Ext.trans ?_ (by assumption))))⟩
                case measure => simp [intOf]; omega
              · have HS := hid (show foldG n g (xs.take (k + 1)) = (L ++ [x], true) by rw [foldG_step HK.out, HF.out, stepG, if_pos e3, zG, if_neg hc])
                have hc' : decide (x.count < g.count) = false := by simpa using hc
                clear e3
                go_wp2_with (first | (go_at_call 70; (with_reducible refine (less_c g x _).mono ?_); rintro e w' ⟨rfl, tl, rfl⟩) | ((with_reducible refine app_gate ?_); ((refine wpList_appXE (cells := Gst.cells) (k := 7) (bytes := 56) (z := .agg #[.int .i64 0, .int .i64 0, .int .i64 0, .int .i64 0, .int .i64 0, .int .i64 0, .int .i64 0]) Try.underlying73 (by kernel_rfl) rfl (by decide) (by decide) (fun _ => rfl) (fun x u hu => by simp only [Gst.cells, List.mem_cons, List.not_mem_nil, or_false] at hu; rcases hu with rfl | rfl | rfl | rfl | rfl | rfl | rfl <;> rfl) rfl (B0) _ _ rfl rfl (by ((try simp only [ext_drew]); (try simp only [ext_ext]); repeat (first | exact Ext.refl _ | with_reducible apply Ext.add | with_reducible apply Ext.dr | apply Ext.alloc | apply Ext.ext | apply Ext.drew | refine Ext.trans ?_ (by assumption)))) (xs := L) (HG.out.of (by ((try simp only [ext_drew]); (try simp only [ext_ext]); repeat (first | exact Ext.refl _ | with_reducible apply Ext.add | with_reducible apply Ext.dr | apply Ext.alloc | apply Ext.ext | apply Ext.drew | refine Ext.trans ?_ (by assumption))))) HGb.out (x) rfl (alloc_last (by (try simp [go_sem]) <;> (try simp [Xt.add]) <;> omega)) (by omega) ?_); intro v' t' B' hg hb; have HG' := hid hg; have HG'b := hid hb; clear hg hb)))
                go_roundw
                case rel => exact ⟨k + 1, _, true, _, by omega, by go_num, rfl, HS.out, HG'.out, HG'b.out, (by ((try simp only [ext_drew]); (try simp only [ext_ext]); repeat (first | exact Ext.refl _ | with_reducible apply Ext.add | with_reducible apply Ext.dr | apply Ext.alloc | apply Ext.ext | apply Ext.drew | refine Ext.trans ?_ (by assumption))))⟩
                case measure => simp [intOf]; omega
        · have hke : k = n := by omega
          subst hke
          have HT := hid (show foldG k g xs = (L, d) by rw [← HF.out, List.take_of_length_le (by have := HLn.out; omega)])
          obtain ⟨a5, c5, rfl⟩ := HG.out.slice
          cases d with
          | true =>
            have HE := hid (show gstPutV m xs g = L by rw [E.out, HT.out, finG, if_neg (by simp)])
            go_wp2
            go_ret
            rw [HE.out]
            exact ⟨a5, c5, B, rfl, (by ((try simp only [ext_drew]); (try simp only [ext_ext]); repeat (first | exact Ext.refl _ | with_reducible apply Ext.add | with_reducible apply Ext.dr | apply Ext.alloc | apply Ext.ext | apply Ext.drew | refine Ext.trans ?_ (by assumption)))), HG.out.of (by ((try simp only [ext_drew]); (try simp only [ext_ext]); repeat (first | exact Ext.refl _ | with_reducible apply Ext.add | with_reducible apply Ext.dr | apply Ext.alloc | apply Ext.ext | apply Ext.drew | refine Ext.trans ?_ (by assumption)))), fun b hb => Nat.le_trans EB.size (HGb.out b hb)⟩
          | false =>
            by_cases h20 : (k : Int) < 20
            · have HE := hid (show gstPutV m xs g = L ++ [g] by rw [E.out, HT.out, finG, if_pos (by simp; omega)])
              go_wp2_with (first | ((with_reducible refine app_gate ?_); ((refine wpList_appXE (cells := Gst.cells) (k := 7) (bytes := 56) (z := .agg #[.int .i64 0, .int .i64 0, .int .i64 0, .int .i64 0, .int .i64 0, .int .i64 0, .int .i64 0]) Try.underlying73 (by kernel_rfl) rfl (by decide) (by decide) (fun _ => rfl) (fun x u hu => by simp only [Gst.cells, List.mem_cons, List.not_mem_nil, or_false] at hu; rcases hu with rfl | rfl | rfl | rfl | rfl | rfl | rfl <;> rfl) rfl (B0) _ _ rfl rfl (by ((try simp only [ext_drew]); (try simp only [ext_ext]); repeat (first | exact Ext.refl _ | with_reducible apply Ext.add | with_reducible apply Ext.dr | apply Ext.alloc | apply Ext.ext | apply Ext.drew | refine Ext.trans ?_ (by assumption)))) (xs := L) (HG.out.of (by ((try simp only [ext_drew]); (try simp only [ext_ext]); repeat (first | exact Ext.refl _ | with_reducible apply Ext.add | with_reducible apply Ext.dr | apply Ext.alloc | apply Ext.ext | apply Ext.drew | refine Ext.trans ?_ (by assumption))))) HGb.out (g) rfl (alloc_last (by (try simp [go_sem]) <;> (try simp [Xt.add]) <;> omega)) (by omega) ?_); intro v' t' B' hg hb; have HG' := hid hg; have HG'b := hid hb; clear hg hb)))
              go_ret
              rw [HE.out]
              obtain ⟨a6, c6, rfl⟩ := HG'.out.slice
              exact ⟨a6, c6, _, rfl, (by ((try simp only [ext_drew]); (try simp only [ext_ext]); repeat (first | exact Ext.refl _ | with_reducible apply Ext.add | with_reducible apply Ext.dr | apply Ext.alloc | apply Ext.ext | apply Ext.drew | refine Ext.trans ?_ (by assumption)))), HG'.out.of (by ((try simp only [ext_drew]); (try simp only [ext_ext]); repeat (first | exact Ext.refl _ | with_reducible apply Ext.add | with_reducible apply Ext.dr | apply Ext.alloc | apply Ext.ext | apply Ext.drew | refine Ext.trans ?_ (by assumption)))), fun b hb => Nat.le_trans EB.size (HG'b.out b hb)⟩
            · have HE := hid (show gstPutV m xs g = L by rw [E.out, HT.out, finG, if_neg (by simp; omega)])
              go_wp2
              go_ret
              rw [HE.out]
              exact ⟨a5, c5, B, rfl, (by ((try simp only [ext_drew]); (try simp only [ext_ext]); repeat (first | exact Ext.refl _ | with_reducible apply Ext.add | with_reducible apply Ext.dr | apply Ext.alloc | apply Ext.ext | apply Ext.drew | refine Ext.trans ?_ (by assumption)))), HG.out.of (by ((try simp only [ext_drew]); (try simp only [ext_ext]); repeat (first | exact Ext.refl _ | with_reducible apply Ext.add | with_reducible apply Ext.dr | apply Ext.alloc | apply Ext.ext | apply Ext.drew | refine Ext.trans ?_ (by assumption)))), fun b hb => Nat.le_trans EB.size (HGb.out b hb)⟩

theorem set_self {α : Type} {xs : List α} {k : Nat} {x : α} (h : xs[k]? = some x) : xs.set k x = xs := by
  obtain ⟨hk, rfl⟩ := List.getElem?_eq_some_iff.1 h
  exact List.set_getElem_self hk
def notAh (g x : Gst) : Bool := !gstLess x g
theorem notAh_all {g : Gst} {xs : List Gst} (h : ∀ y ∈ xs, notAh g y = false) : ∀ y ∈ xs, gstLess y g = true := fun y hy => by simpa [notAh] using h y hy
theorem arrO {arr : Array Value} {i j : Nat} {v : Value} {x : Option Value} (h : i ≠ j) (k : arr[j]? = x) : (arr.setIfInBounds i v)[j]? = x := by
  rw [Array.getElem?_setIfInBounds, if_neg h]; exact k
theorem arrA {arr : Array Value} {i j : Nat} {v : Value} (e : i = j) (h : i < arr.size) : (arr.setIfInBounds i v)[j]? = some v := by
  subst e; rw [Array.getElem?_setIfInBounds, if_pos rfl, if_pos h]
def recArr (arr : Array Value) (k : Nat) (g : Gst) : Array Value := ((((((arr.setIfInBounds (k * 7) (.int .i64 g.src)).setIfInBounds (k * 7 + 1) (.int .i64 g.count)).setIfInBounds (k * 7 + 2) (.int .i64 g.wk.id)).setIfInBounds (k * 7 + 3) (.int .i64 g.wk.at_)).setIfInBounds (k * 7 + 4) (.int .i64 g.wk.coins)).setIfInBounds (k * 7 + 5) (.int .i64 g.wk.seq)).setIfInBounds (k * 7 + 6) (.int .i64 g.wk.last)
theorem recArr_ok {arr : Array Value} {k : Nat} {g : Gst} (hsz : k * 7 + 7 ≤ arr.size) :
    (recArr arr k g).size = arr.size ∧ (∀ i, ¬ (k * 7 ≤ i ∧ i < k * 7 + 7) → (recArr arr k g)[i]? = arr[i]?) ∧ (∀ i v, g.cells[i]? = some v → (recArr arr k g)[k * 7 + i]? = some v) := by
  unfold recArr
  refine ⟨by simp, fun i hi => ?_, fun i v hv => ?_⟩
  · repeat (with_reducible refine arrO (by omega) ?_)
    rfl
  · match i, hv with
    | 0, hv =>
      repeat (with_reducible refine arrO (by omega) ?_)
      exact (arrA (by omega) (by (try simp only [Array.size_setIfInBounds]); omega)).trans hv
    | 1, hv =>
      repeat (with_reducible refine arrO (by omega) ?_)
      exact (arrA (by omega) (by (try simp only [Array.size_setIfInBounds]); omega)).trans hv
    | 2, hv =>
      repeat (with_reducible refine arrO (by omega) ?_)
      exact (arrA (by omega) (by (try simp only [Array.size_setIfInBounds]); omega)).trans hv
    | 3, hv =>
      repeat (with_reducible refine arrO (by omega) ?_)
      exact (arrA (by omega) (by (try simp only [Array.size_setIfInBounds]); omega)).trans hv
    | 4, hv =>
      repeat (with_reducible refine arrO (by omega) ?_)
      exact (arrA (by omega) (by (try simp only [Array.size_setIfInBounds]); omega)).trans hv
    | 5, hv =>
      repeat (with_reducible refine arrO (by omega) ?_)
      exact (arrA (by omega) (by (try simp only [Array.size_setIfInBounds]); omega)).trans hv
    | 6, hv =>
      repeat (with_reducible refine arrO (by omega) ?_)
      exact (arrA (by omega) (by (try simp only [Array.size_setIfInBounds]); omega)).trans hv
set_option maxRecDepth 100000 in
set_option maxHeartbeats 4000000 in
theorem record_c (xs : List Gst) (g : Gst) (a : Option Addr) (n c : Nat) (w : World) (hx : Re w (.sl sGst) [.slice a n c] (.l (xs.map Gst.dat))) (hn : n ≤ 1048576) :
    Calls Try.prog 73 #[.slice a n c, .agg #[.int .i64 g.src, .int .i64 g.count, .int .i64 g.wk.id, .int .i64 g.wk.at_, .int .i64 g.wk.coins, .int .i64 g.wk.seq, .int .i64 g.wk.last]] w (MadeX w 42 7 Gst.cells (recL n g xs)) := by
  have HX := hid hx
  have HLn := hid (show n = xs.length from hx.len)
  clear hx
  go_enter Try.func73, Try.ntmps73
  go_wp2_with (go_at_call 91; ((with_reducible refine (iCloneGst_r xs _ _ _ _ (HX.out.of (by ((try simp only [ext_drew]); (try simp only [ext_ext]); repeat (first | exact Ext.refl _ | with_reducible apply Ext.add | with_reducible apply Ext.dr | apply Ext.alloc | apply Ext.ext | apply Ext.drew | refine Ext.trans ?_ (by assumption))))) (by omega)).mono ?_); rintro e w' ⟨v, rfl, ⟨t, rfl⟩, hrow⟩; obtain ⟨sa, sn, sc, rfl⟩ := row_slice hrow; obtain ⟨hsn, hre⟩ := row_reG (by have := HLn.out; omega) hrow; have HG0 := hid (ownsRow_le (base' := w.heap.size + 1) hrow (by simp)); have HRo := hid hre; have HSN := hid hsn; clear hrow hre hsn))
  refine wp_gen fun B0 hB0 => ?_
  have EB : Ext w B0 := by rw [hB0]; ((try simp only [ext_drew]); (try simp only [ext_ext]); repeat (first | exact Ext.refl _ | with_reducible apply Ext.add | with_reducible apply Ext.dr | apply Ext.alloc | apply Ext.ext | apply Ext.drew | refine Ext.trans ?_ (by assumption)))
  have hsn : sn = n := by rw [HSN.out, HLn.out]
  subst hsn
  have HRb := hid (show Re B0 (.sl sGst) [.slice sa sn sc] (.l (xs.map Gst.dat)) by rw [hB0]; exact HRo.out.of (by ((try simp only [ext_drew]); (try simp only [ext_ext]); repeat (first | exact Ext.refl _ | with_reducible apply Ext.add | with_reducible apply Ext.dr | apply Ext.alloc | apply Ext.ext | apply Ext.drew | refine Ext.trans ?_ (by assumption)))))
  have HG := hid (show B0.ownsRow (w.heap.size + 1) 42 7 (.slice sa sn sc) xs.length (xs.flatMap Gst.cells) by rw [hB0]; exact ownsRow_of HG0.out (by ((try simp only [ext_drew]); (try simp only [ext_ext]); repeat (first | exact Ext.refl _ | with_reducible apply Ext.add | with_reducible apply Ext.dr | apply Ext.alloc | apply Ext.ext | apply Ext.drew | refine Ext.trans ?_ (by assumption)))))
  have lM : w.heap.size < B0.heap.size := by rw [hB0]; ((try simp [go_sem]) <;> (try simp [Xt.add]) <;> omega)
  have cM0 : B0.cell? ⟨w.heap.size, 0, none⟩ = some (.int .i64 g.src) := by rw [hB0]; simp [go_sem]
  have cM1 : B0.cell? ⟨w.heap.size, 1, none⟩ = some (.int .i64 g.count) := by rw [hB0]; simp [go_sem]
  have cM2 : B0.cell? ⟨w.heap.size, 2, none⟩ = some (.int .i64 g.wk.id) := by rw [hB0]; simp [go_sem]
  have cM3 : B0.cell? ⟨w.heap.size, 3, none⟩ = some (.int .i64 g.wk.at_) := by rw [hB0]; simp [go_sem]
  have cM4 : B0.cell? ⟨w.heap.size, 4, none⟩ = some (.int .i64 g.wk.coins) := by rw [hB0]; simp [go_sem]
  have cM5 : B0.cell? ⟨w.heap.size, 5, none⟩ = some (.int .i64 g.wk.seq) := by rw [hB0]; simp [go_sem]
  have cM6 : B0.cell? ⟨w.heap.size, 6, none⟩ = some (.int .i64 g.wk.last) := by rw [hB0]; simp [go_sem]
  clear hB0 HRo HG0 HX
  go_loopw [6] (fun i wr => ∃ k : Nat, k ≤ sn ∧ i = .int .i64 k ∧ (∀ y ∈ xs.take k, notAh g y = false) ∧ Ext B0 wr) (fun i _ => sn - (intOf i).toNat)
  case atStart => exact ⟨0, Nat.zero_le _, rfl, by simp, (by ((try simp only [ext_drew]); (try simp only [ext_ext]); repeat (first | exact Ext.refl _ | with_reducible apply Ext.add | with_reducible apply Ext.dr | apply Ext.alloc | apply Ext.ext | apply Ext.drew | refine Ext.trans ?_ (by assumption))))⟩
  case round =>
    obtain ⟨k, hk, rfl, hal, t3, rfl⟩ := hrel
    have HA := hid hal
    clear hal
    by_cases hlt : k < sn
    · obtain ⟨x, b1, o1, hxk, rfl, hb1, f0, f1, f2, f3, f4, f5, f6⟩ := at_Gst HRb.out hlt
      have HK := hid hxk
      clear hxk
      cases hp : gstLess x g with
      | true =>
        have HT := hid (take_step (p := notAh g) HA.out HK.out (by simp [notAh, hp]))
        try go_wp2_with (first
            | (go_at_call 90; refine (ahead_c _ _ _).mono ?_; rintro e w' ⟨rfl, t, rfl⟩)
            | (
              with_reducible refine wp_region_mix (by kernel_rfl) (by decide +kernel) ?_
              repeat (first
                | (refine mix_pure rfl ?_; (first | go_big_quiet_skip | (go_big_quiet_want; go_big_quiet_op; go_big_quiet_on)); refine wpQuiet_nil ?_)
                | (refine mix_skip (by rfl) ?_; (try simp only [Act.put, List.setIfInBounds_toArray, List.set_cons_zero, List.set_cons_succ]))
                | (refine mix_mk rfl (by rfl) (fun K hK => ?_); (first | (go_simp; first | (go_at_call 90; refine (ahead_c _ _ _).mono ?_; rintro e w' ⟨rfl, t, rfl⟩) | skip)); (show K _ _); refine hK _ _ (show Ext _ _ from (by ((try simp only [ext_drew]); (try simp only [ext_ext]); repeat (first | exact Ext.refl _ | with_reducible apply Ext.add | with_reducible apply Ext.dr | apply Ext.alloc | apply Ext.ext | apply Ext.drew | refine Ext.trans ?_ (by assumption))))) ?_; clear hK K; (try simp only [Act.put, List.setIfInBounds_toArray, List.set_cons_zero, List.set_cons_succ])))
              refine mix_nil ?_)
            | (
              with_reducible refine wp_region_ext (by kernel_rfl) (by kernel_rfl) ?_
              repeat (first | go_big_quiet_skip | (go_big_quiet_want; go_big_quiet_op; first | go_big_quiet_on | (apply Exists.intro; refine ⟨fun _ => ?_, ?_⟩; ((first | (go_at_call 90; first | exact quiet_call (ahead_c _ _ _) | exact quiet_call2 (ahead_c _ _ _)))); (try rw [h1]); (try rw [h2]); (try rw [h3]); (try rw [h4]); (try rw [p1]); (try rw [p2]); (try rw [p3]); (try rw [p4]); (try rw [r1]); (try rw [r2]); (try rw [r3]); (try rw [r4]); (try rw [r5]); (try rw [r6]); (try rw [q3]); (try rw [q4]); (try rw [hp]); (try rw [hq]); go_big_quiet_on)))
              refine wpQuiet_nil ?_
              rintro _ ⟨tq, rfl⟩))
        go_roundw
        case rel => exact ⟨k + 1, by omega, by go_num, HT.out, (by ((try simp only [ext_drew]); (try simp only [ext_ext]); repeat (first | exact Ext.refl _ | with_reducible apply Ext.add | with_reducible apply Ext.dr | apply Ext.alloc | apply Ext.ext | apply Ext.drew | refine Ext.trans ?_ (by assumption))))⟩
        case measure => simp [intOf]; omega
      | false =>
        have E0 := recL_at (n := sn) HK.out (notAh_all HA.out) hp
        have HE0 := hid E0
        clear E0
        cases hq : gstLess g x with
        | true =>
          by_cases h20 : (sn : Int) < 20
          · have E := hid (show recL sn g xs = insAt xs k g by rw [HE0.out, if_pos hq, if_pos (by omega)])
            have hkl : k ≤ xs.length := by have := HLn.out; omega
            clear HE0
            try go_wp2_with (first
                | (go_at_call 90; refine (ahead_c _ _ _).mono ?_; rintro e w' ⟨rfl, t, rfl⟩) | (go_at_call 92; ((refine (insGst_c xs g _ k _ _ (w.heap.size + 1) _ (ownsRow_of HG.out (by ((try simp only [ext_drew]); (try simp only [ext_ext]); repeat (first | exact Ext.refl _ | with_reducible apply Ext.add | with_reducible apply Ext.dr | apply Ext.alloc | apply Ext.ext | apply Ext.drew | refine Ext.trans ?_ (by assumption))))) (by (try simp [go_sem]) <;> (try simp [Xt.add]) <;> omega) hkl (by exact alloc_last (by (try simp [go_sem]) <;> (try simp [Xt.add]) <;> omega)) (fun g hg => Nat.ne_of_gt (Nat.lt_of_lt_of_le (HG.out.lt g hg).2 (by (try simp [go_sem]) <;> (try simp [Xt.add]) <;> omega))) (by have := HLn.out; omega)).mono ?_); rintro e w' ⟨v2, rfl, hrow2, hch⟩; obtain ⟨t3, rfl⟩ : Ext w w' := Ext.of_below (Below.chg (w0 := w) (Ext.below (by ((try simp only [ext_drew]); (try simp only [ext_ext]); repeat (first | exact Ext.refl _ | with_reducible apply Ext.add | with_reducible apply Ext.dr | apply Ext.alloc | apply Ext.ext | apply Ext.drew | refine Ext.trans ?_ (by assumption))))) hch (fun g hg => Nat.le_trans (Nat.le_succ _) (HG.out.lt g (by simpa using hg)).1)); obtain ⟨ra, rn, rc, rfl⟩ := row_slice hrow2; obtain ⟨hrn, hre2⟩ := row_reG (by rw [insAt_len _ _ _ hkl]; have := HLn.out; omega) hrow2; have HR2 := hid hre2; have hrm : rn ≤ 2097152 := (by rw [hrn, insAt_len _ _ _ hkl]; have := HLn.out; omega); clear hrow2 hre2 hch hrn)) | (go_at_call 91; ((with_reducible refine (iCloneGst_x (insAt xs k g) _ _ _ _ (HR2.out.of (by ((try simp only [ext_drew]); (try simp only [ext_ext]); repeat (first | exact Ext.refl _ | with_reducible apply Ext.add | with_reducible apply Ext.dr | apply Ext.alloc | apply Ext.ext | apply Ext.drew | refine Ext.trans ?_ (by assumption))))) hrm).mono ?_); rintro e w' ⟨a4, c4, B4, rfl, ⟨t4, rfl⟩, hx4, hb4⟩; have HX4 := hid hx4; have HB4 := hid hb4; clear hx4 hb4))
                | (
                  with_reducible refine wp_region_mix (by kernel_rfl) (by decide +kernel) ?_
                  repeat (first
                    | (refine mix_pure rfl ?_; (first | go_big_quiet_skip | (go_big_quiet_want; go_big_quiet_op; go_big_quiet_on)); refine wpQuiet_nil ?_)
                    | (refine mix_skip (by rfl) ?_; (try simp only [Act.put, List.setIfInBounds_toArray, List.set_cons_zero, List.set_cons_succ]))
                    | (refine mix_mk rfl (by rfl) (fun K hK => ?_); (first | (go_simp; first | (go_at_call 90; refine (ahead_c _ _ _).mono ?_; rintro e w' ⟨rfl, t, rfl⟩) | (go_at_call 92; ((refine (insGst_c xs g _ k _ _ (w.heap.size + 1) _ (ownsRow_of HG.out (by ((try simp only [ext_drew]); (try simp only [ext_ext]); repeat (first | exact Ext.refl _ | with_reducible apply Ext.add | with_reducible apply Ext.dr | apply Ext.alloc | apply Ext.ext | apply Ext.drew | refine Ext.trans ?_ (by assumption))))) (by (try simp [go_sem]) <;> (try simp [Xt.add]) <;> omega) hkl (by exact alloc_last (by (try simp [go_sem]) <;> (try simp [Xt.add]) <;> omega)) (fun g hg => Nat.ne_of_gt (Nat.lt_of_lt_of_le (HG.out.lt g hg).2 (by (try simp [go_sem]) <;> (try simp [Xt.add]) <;> omega))) (by have := HLn.out; omega)).mono ?_); rintro e w' ⟨v2, rfl, hrow2, hch⟩; obtain ⟨t3, rfl⟩ : Ext w w' := Ext.of_below (Below.chg (w0 := w) (Ext.below (by ((try simp only [ext_drew]); (try simp only [ext_ext]); repeat (first | exact Ext.refl _ | with_reducible apply Ext.add | with_reducible apply Ext.dr | apply Ext.alloc | apply Ext.ext | apply Ext.drew | refine Ext.trans ?_ (by assumption))))) hch (fun g hg => Nat.le_trans (Nat.le_succ _) (HG.out.lt g (by simpa using hg)).1)); obtain ⟨ra, rn, rc, rfl⟩ := row_slice hrow2; obtain ⟨hrn, hre2⟩ := row_reG (by rw [insAt_len _ _ _ hkl]; have := HLn.out; omega) hrow2; have HR2 := hid hre2; have hrm : rn ≤ 2097152 := (by rw [hrn, insAt_len _ _ _ hkl]; have := HLn.out; omega); clear hrow2 hre2 hch hrn)) | (go_at_call 91; ((with_reducible refine (iCloneGst_x (insAt xs k g) _ _ _ _ (HR2.out.of (by ((try simp only [ext_drew]); (try simp only [ext_ext]); repeat (first | exact Ext.refl _ | with_reducible apply Ext.add | with_reducible apply Ext.dr | apply Ext.alloc | apply Ext.ext | apply Ext.drew | refine Ext.trans ?_ (by assumption))))) hrm).mono ?_); rintro e w' ⟨a4, c4, B4, rfl, ⟨t4, rfl⟩, hx4, hb4⟩; have HX4 := hid hx4; have HB4 := hid hb4; clear hx4 hb4)) | skip)); (show K _ _); refine hK _ _ (show Ext _ _ from (by ((try simp only [ext_drew]); (try simp only [ext_ext]); repeat (first | exact Ext.refl _ | with_reducible apply Ext.add | with_reducible apply Ext.dr | apply Ext.alloc | apply Ext.ext | apply Ext.drew | refine Ext.trans ?_ (by assumption))))) ?_; clear hK K; (try simp only [Act.put, List.setIfInBounds_toArray, List.set_cons_zero, List.set_cons_succ])))
                  refine mix_nil ?_)
                | (
                  with_reducible refine wp_region_ext (by kernel_rfl) (by kernel_rfl) ?_
                  repeat (first | go_big_quiet_skip | (go_big_quiet_want; go_big_quiet_op; first | go_big_quiet_on | (apply Exists.intro; refine ⟨fun _ => ?_, ?_⟩; ((first | (go_at_call 90; first | exact quiet_call (ahead_c _ _ _) | exact quiet_call2 (ahead_c _ _ _)))); (try rw [h1]); (try rw [h2]); (try rw [h3]); (try rw [h4]); (try rw [p1]); (try rw [p2]); (try rw [p3]); (try rw [p4]); (try rw [r1]); (try rw [r2]); (try rw [r3]); (try rw [r4]); (try rw [r5]); (try rw [r6]); (try rw [q3]); (try rw [q4]); (try rw [hp]); (try rw [hq]); go_big_quiet_on)))
                  refine wpQuiet_nil ?_
                  rintro _ ⟨tq, rfl⟩))
            go_ret
            rw [show recL sn g xs = insAt xs k g from E.out]
            exact ⟨a4, c4, B4, rfl, (by ((try simp only [ext_drew]); (try simp only [ext_ext]); repeat (first | exact Ext.refl _ | with_reducible apply Ext.add | with_reducible apply Ext.dr | apply Ext.alloc | apply Ext.ext | apply Ext.drew | refine Ext.trans ?_ (by assumption)))), HX4.out.of (by ((try simp only [ext_drew]); (try simp only [ext_ext]); repeat (first | exact Ext.refl _ | with_reducible apply Ext.add | with_reducible apply Ext.dr | apply Ext.alloc | apply Ext.ext | apply Ext.drew | refine Ext.trans ?_ (by assumption)))), fun b hb => Nat.le_trans (by (try simp [go_sem]) <;> (try simp [Xt.add]) <;> omega) (HB4.out b hb)⟩
          · have E := hid (show recL sn g xs = xs by rw [HE0.out, if_pos hq, if_neg (by omega)])
            clear HE0
            try go_wp2_with (first
                | (go_at_call 90; refine (ahead_c _ _ _).mono ?_; rintro e w' ⟨rfl, t, rfl⟩) | (go_at_call 91; ((with_reducible refine (iCloneGst_x xs _ _ _ _ (HRb.out.of (by ((try simp only [ext_drew]); (try simp only [ext_ext]); repeat (first | exact Ext.refl _ | with_reducible apply Ext.add | with_reducible apply Ext.dr | apply Ext.alloc | apply Ext.ext | apply Ext.drew | refine Ext.trans ?_ (by assumption))))) (by omega)).mono ?_); rintro e w' ⟨a4, c4, B4, rfl, ⟨t4, rfl⟩, hx4, hb4⟩; have HX4 := hid hx4; have HB4 := hid hb4; clear hx4 hb4))
                | (
                  with_reducible refine wp_region_mix (by kernel_rfl) (by decide +kernel) ?_
                  repeat (first
                    | (refine mix_pure rfl ?_; (first | go_big_quiet_skip | (go_big_quiet_want; go_big_quiet_op; go_big_quiet_on)); refine wpQuiet_nil ?_)
                    | (refine mix_skip (by rfl) ?_; (try simp only [Act.put, List.setIfInBounds_toArray, List.set_cons_zero, List.set_cons_succ]))
                    | (refine mix_mk rfl (by rfl) (fun K hK => ?_); (first | (go_simp; first | (go_at_call 90; refine (ahead_c _ _ _).mono ?_; rintro e w' ⟨rfl, t, rfl⟩) | (go_at_call 91; ((with_reducible refine (iCloneGst_x xs _ _ _ _ (HRb.out.of (by ((try simp only [ext_drew]); (try simp only [ext_ext]); repeat (first | exact Ext.refl _ | with_reducible apply Ext.add | with_reducible apply Ext.dr | apply Ext.alloc | apply Ext.ext | apply Ext.drew | refine Ext.trans ?_ (by assumption))))) (by omega)).mono ?_); rintro e w' ⟨a4, c4, B4, rfl, ⟨t4, rfl⟩, hx4, hb4⟩; have HX4 := hid hx4; have HB4 := hid hb4; clear hx4 hb4)) | skip)); (show K _ _); refine hK _ _ (show Ext _ _ from (by ((try simp only [ext_drew]); (try simp only [ext_ext]); repeat (first | exact Ext.refl _ | with_reducible apply Ext.add | with_reducible apply Ext.dr | apply Ext.alloc | apply Ext.ext | apply Ext.drew | refine Ext.trans ?_ (by assumption))))) ?_; clear hK K; (try simp only [Act.put, List.setIfInBounds_toArray, List.set_cons_zero, List.set_cons_succ])))
                  refine mix_nil ?_)
                | (
                  with_reducible refine wp_region_ext (by kernel_rfl) (by kernel_rfl) ?_
                  repeat (first | go_big_quiet_skip | (go_big_quiet_want; go_big_quiet_op; first | go_big_quiet_on | (apply Exists.intro; refine ⟨fun _ => ?_, ?_⟩; ((first | (go_at_call 90; first | exact quiet_call (ahead_c _ _ _) | exact quiet_call2 (ahead_c _ _ _)))); (try rw [h1]); (try rw [h2]); (try rw [h3]); (try rw [h4]); (try rw [p1]); (try rw [p2]); (try rw [p3]); (try rw [p4]); (try rw [r1]); (try rw [r2]); (try rw [r3]); (try rw [r4]); (try rw [r5]); (try rw [r6]); (try rw [q3]); (try rw [q4]); (try rw [hp]); (try rw [hq]); go_big_quiet_on)))
                  refine wpQuiet_nil ?_
                  rintro _ ⟨tq, rfl⟩))
            go_ret
            rw [show recL sn g xs = xs from E.out]
            exact ⟨a4, c4, B4, rfl, (by ((try simp only [ext_drew]); (try simp only [ext_ext]); repeat (first | exact Ext.refl _ | with_reducible apply Ext.add | with_reducible apply Ext.dr | apply Ext.alloc | apply Ext.ext | apply Ext.drew | refine Ext.trans ?_ (by assumption)))), HX4.out.of (by ((try simp only [ext_drew]); (try simp only [ext_ext]); repeat (first | exact Ext.refl _ | with_reducible apply Ext.add | with_reducible apply Ext.dr | apply Ext.alloc | apply Ext.ext | apply Ext.drew | refine Ext.trans ?_ (by assumption)))), fun b hb => Nat.le_trans (by (try simp [go_sem]) <;> (try simp [Xt.add]) <;> omega) (HB4.out b hb)⟩
        | false =>
          by_cases hc : x.count < g.count
          · have E := hid (show recL sn g xs = xs.set k g by rw [HE0.out, if_neg (by simp [hq]), zG, if_pos hc])
            clear HE0
            have hkx : k < xs.length := by have := HLn.out; omega
            obtain ⟨r1, r2⟩ := rowX_of (cells := Gst.cells) (k := 7) (fun _ => rfl) HG.out
            obtain ⟨u, cur, y, hu, hBu, hnn, hnc, hy, hb, hsz, hcell, hput⟩ := RowX.at (cells := Gst.cells) (k := 7) (by decide) (fun _ => rfl) r1 hkx
            obtain ⟨rfl, rfl⟩ : b1 = u ∧ o1 = 0 := by simpa using hu
            obtain rfl := Option.some.inj (hy.symm.trans HK.out)
            have hbu : w.heap.size + 1 ≤ b1 := r2 b1 (by rw [hBu]; simp)
            have HPUT := hid hput
            have HBL := hid hb
            have HSZ := hid hsz
            have z0 := frozen_blk hb (k * 7)
            have p0 : B0.cell? ⟨b1, k * 7, none⟩ = some (.int .i64 y.src) := (cell_blk hb _).trans (hcell 0 _ rfl)
            have z1 := frozen_blk hb (k * 7 + 1)
            have p1 : B0.cell? ⟨b1, k * 7 + 1, none⟩ = some (.int .i64 y.count) := (cell_blk hb _).trans (hcell 1 _ rfl)
            have z2 := frozen_blk hb (k * 7 + 2)
            have p2 : B0.cell? ⟨b1, k * 7 + 2, none⟩ = some (.int .i64 y.wk.id) := (cell_blk hb _).trans (hcell 2 _ rfl)
            have z3 := frozen_blk hb (k * 7 + 3)
            have p3 : B0.cell? ⟨b1, k * 7 + 3, none⟩ = some (.int .i64 y.wk.at_) := (cell_blk hb _).trans (hcell 3 _ rfl)
            have z4 := frozen_blk hb (k * 7 + 4)
            have p4 : B0.cell? ⟨b1, k * 7 + 4, none⟩ = some (.int .i64 y.wk.coins) := (cell_blk hb _).trans (hcell 4 _ rfl)
            have z5 := frozen_blk hb (k * 7 + 5)
            have p5 : B0.cell? ⟨b1, k * 7 + 5, none⟩ = some (.int .i64 y.wk.seq) := (cell_blk hb _).trans (hcell 5 _ rfl)
            have z6 := frozen_blk hb (k * 7 + 6)
            have p6 : B0.cell? ⟨b1, k * 7 + 6, none⟩ = some (.int .i64 y.wk.last) := (cell_blk hb _).trans (hcell 6 _ rfl)
            clear r1 r2 hu hBu hnn hnc hy hb hsz hcell hput f0 f1 f2 f3 f4 f5 f6
            try go_wp2_with (first
                | (go_at_call 90; refine (ahead_c _ _ _).mono ?_; rintro e w' ⟨rfl, t, rfl⟩)
                | (
                  with_reducible refine wp_region_mix (by kernel_rfl) (by decide +kernel) ?_
                  repeat (first
                    | (refine mix_pure rfl ?_; (first | go_big_quiet_skip | (go_big_quiet_want; go_big_quiet_op; go_big_quiet_on)); refine wpQuiet_nil ?_)
                    | (refine mix_skip (by rfl) ?_; (try simp only [Act.put, List.setIfInBounds_toArray, List.set_cons_zero, List.set_cons_succ]))
                    | (refine mix_mk rfl (by rfl) (fun K hK => ?_); (first | (go_simp; first | (go_at_call 90; refine (ahead_c _ _ _).mono ?_; rintro e w' ⟨rfl, t, rfl⟩) | skip)); (show K _ _); refine hK _ _ (show Ext _ _ from (by ((try simp only [ext_drew]); (try simp only [ext_ext]); repeat (first | exact Ext.refl _ | with_reducible apply Ext.add | with_reducible apply Ext.dr | apply Ext.alloc | apply Ext.ext | apply Ext.drew | refine Ext.trans ?_ (by assumption))))) ?_; clear hK K; (try simp only [Act.put, List.setIfInBounds_toArray, List.set_cons_zero, List.set_cons_succ])))
                  refine mix_nil ?_)
                | (
                  with_reducible refine wp_region_ext (by kernel_rfl) (by kernel_rfl) ?_
                  repeat (first | go_big_quiet_skip | (go_big_quiet_want; go_big_quiet_op; first | go_big_quiet_on | (apply Exists.intro; refine ⟨fun _ => ?_, ?_⟩; ((first | (go_at_call 90; first | exact quiet_call (ahead_c _ _ _) | exact quiet_call2 (ahead_c _ _ _)))); (try rw [h1]); (try rw [h2]); (try rw [h3]); (try rw [h4]); (try rw [p1]); (try rw [p2]); (try rw [p3]); (try rw [p4]); (try rw [r1]); (try rw [r2]); (try rw [r3]); (try rw [r4]); (try rw [r5]); (try rw [r6]); (try rw [q3]); (try rw [q4]); (try rw [hp]); (try rw [hq]); go_big_quiet_on)))
                  refine wpQuiet_nil ?_
                  rintro _ ⟨tq, rfl⟩))
            refine calls_gen fun Y hY => ?_
            have hYb : Y.heap[b1]? = some (.cells (recArr cur k g) 42 (0, 0)) := by rw [hY]; unfold recArr; exact (by repeat (first | with_reducible exact HBL.out | with_reducible apply blk_drew | with_reducible refine blk_set ?_ | (with_reducible refine blk_other ?_ (by first | assumption | omega)) | with_reducible refine blk_ext ?_ | with_reducible refine blk_alloc ?_))
            have hch : Chg [b1] B0 Y := by rw [hY]; exact (by repeat (first | with_reducible exact Chg.refl _ _ | with_reducible apply Chg.drew | with_reducible apply Chg.drewl | with_reducible refine Chg.turn (by simp) | with_reducible refine Chg.both ?_ (by simp) | (with_reducible refine Chg.set ?_ (by simp) _) | with_reducible apply Chg.alloc | with_reducible apply Chg.ext))
            have EY : Ext w Y := Ext.of_below (Below.chg (w0 := w) EB.below hch (by simp; omega))
            have hr := HPUT.out Y (recArr cur k g) g hYb (recArr_ok HSZ.out).1 (recArr_ok HSZ.out).2.1 (recArr_ok HSZ.out).2.2
            obtain ⟨ys, hys⟩ : ∃ ys, xs.set k g = ys := ⟨_, rfl⟩
            rw [hys] at hr
            have E2 := hid (E.out.trans hys)
            have hRe := (hr.own (k := 7) rfl (fun w x => own_Gst_mk w x)).re hr.lt
            clear hY hYb hch hr hys
            ((with_reducible refine (iCloneGst_x ys _ _ _ _ hRe (by omega)).mono ?_); rintro e w' ⟨a4, c4, B4, rfl, ⟨t4, rfl⟩, hx4, hb4⟩; have HX4 := hid hx4; have HB4 := hid hb4; clear hx4 hb4)
            try go_wp2_with (first
                | fail
                | (
                  with_reducible refine wp_region_mix (by kernel_rfl) (by decide +kernel) ?_
                  repeat (first
                    | (refine mix_pure rfl ?_; (first | go_big_quiet_skip | (go_big_quiet_want; go_big_quiet_op; go_big_quiet_on)); refine wpQuiet_nil ?_)
                    | (refine mix_skip (by rfl) ?_; (try simp only [Act.put, List.setIfInBounds_toArray, List.set_cons_zero, List.set_cons_succ]))
                    | (refine mix_mk rfl (by rfl) (fun K hK => ?_); (first | (go_simp; first | skip)); (show K _ _); refine hK _ _ (show Ext _ _ from (by ((try simp only [ext_drew]); (try simp only [ext_ext]); repeat (first | exact Ext.refl _ | with_reducible apply Ext.add | with_reducible apply Ext.dr | apply Ext.alloc | apply Ext.ext | apply Ext.drew | refine Ext.trans ?_ (by assumption))))) ?_; clear hK K; (try simp only [Act.put, List.setIfInBounds_toArray, List.set_cons_zero, List.set_cons_succ])))
                  refine mix_nil ?_)
                | (
                  with_reducible refine wp_region_ext (by kernel_rfl) (by kernel_rfl) ?_
                  repeat (first | go_big_quiet_skip | (go_big_quiet_want; go_big_quiet_op; first | go_big_quiet_on | (apply Exists.intro; refine ⟨fun _ => ?_, ?_⟩; (fail); (try rw [h1]); (try rw [h2]); (try rw [h3]); (try rw [h4]); (try rw [p1]); (try rw [p2]); (try rw [p3]); (try rw [p4]); (try rw [r1]); (try rw [r2]); (try rw [r3]); (try rw [r4]); (try rw [r5]); (try rw [r6]); (try rw [q3]); (try rw [q4]); (try rw [hp]); (try rw [hq]); go_big_quiet_on)))
                  refine wpQuiet_nil ?_
                  rintro _ ⟨tq, rfl⟩))
            go_ret
            rw [show recL sn g xs = ys from E2.out]
            exact ⟨a4, c4, B4, rfl, (by ((try simp only [ext_drew]); (try simp only [ext_ext]); repeat (first | exact Ext.refl _ | with_reducible apply Ext.add | with_reducible apply Ext.dr | apply Ext.alloc | apply Ext.ext | apply Ext.drew | refine Ext.trans ?_ (by assumption)))), HX4.out.of (by ((try simp only [ext_drew]); (try simp only [ext_ext]); repeat (first | exact Ext.refl _ | with_reducible apply Ext.add | with_reducible apply Ext.dr | apply Ext.alloc | apply Ext.ext | apply Ext.drew | refine Ext.trans ?_ (by assumption)))), fun b hb => Nat.le_trans (Nat.le_trans EY.size (by (try simp [go_sem]) <;> (try simp [Xt.add]) <;> omega)) (HB4.out b hb)⟩
          · have E := hid (show recL sn g xs = xs by rw [HE0.out, if_neg (by simp [hq]), zG, if_neg hc, set_self HK.out])
            clear HE0
            try go_wp2_with (first
                | (go_at_call 90; refine (ahead_c _ _ _).mono ?_; rintro e w' ⟨rfl, t, rfl⟩) | (go_at_call 91; ((with_reducible refine (iCloneGst_x xs _ _ _ _ (HRb.out.of (by ((try simp only [ext_drew]); (try simp only [ext_ext]); repeat (first | exact Ext.refl _ | with_reducible apply Ext.add | with_reducible apply Ext.dr | apply Ext.alloc | apply Ext.ext | apply Ext.drew | refine Ext.trans ?_ (by assumption))))) (by omega)).mono ?_); rintro e w' ⟨a4, c4, B4, rfl, ⟨t4, rfl⟩, hx4, hb4⟩; have HX4 := hid hx4; have HB4 := hid hb4; clear hx4 hb4))
                | (
                  with_reducible refine wp_region_mix (by kernel_rfl) (by decide +kernel) ?_
                  repeat (first
                    | (refine mix_pure rfl ?_; (first | go_big_quiet_skip | (go_big_quiet_want; go_big_quiet_op; go_big_quiet_on)); refine wpQuiet_nil ?_)
                    | (refine mix_skip (by rfl) ?_; (try simp only [Act.put, List.setIfInBounds_toArray, List.set_cons_zero, List.set_cons_succ]))
                    | (refine mix_mk rfl (by rfl) (fun K hK => ?_); (first | (go_simp; first | (go_at_call 90; refine (ahead_c _ _ _).mono ?_; rintro e w' ⟨rfl, t, rfl⟩) | (go_at_call 91; ((with_reducible refine (iCloneGst_x xs _ _ _ _ (HRb.out.of (by ((try simp only [ext_drew]); (try simp only [ext_ext]); repeat (first | exact Ext.refl _ | with_reducible apply Ext.add | with_reducible apply Ext.dr | apply Ext.alloc | apply Ext.ext | apply Ext.drew | refine Ext.trans ?_ (by assumption))))) (by omega)).mono ?_); rintro e w' ⟨a4, c4, B4, rfl, ⟨t4, rfl⟩, hx4, hb4⟩; have HX4 := hid hx4; have HB4 := hid hb4; clear hx4 hb4)) | skip)); (show K _ _); refine hK _ _ (show Ext _ _ from (by ((try simp only [ext_drew]); (try simp only [ext_ext]); repeat (first | exact Ext.refl _ | with_reducible apply Ext.add | with_reducible apply Ext.dr | apply Ext.alloc | apply Ext.ext | apply Ext.drew | refine Ext.trans ?_ (by assumption))))) ?_; clear hK K; (try simp only [Act.put, List.setIfInBounds_toArray, List.set_cons_zero, List.set_cons_succ])))
                  refine mix_nil ?_)
                | (
                  with_reducible refine wp_region_ext (by kernel_rfl) (by kernel_rfl) ?_
                  repeat (first | go_big_quiet_skip | (go_big_quiet_want; go_big_quiet_op; first | go_big_quiet_on | (apply Exists.intro; refine ⟨fun _ => ?_, ?_⟩; ((first | (go_at_call 90; first | exact quiet_call (ahead_c _ _ _) | exact quiet_call2 (ahead_c _ _ _)))); (try rw [h1]); (try rw [h2]); (try rw [h3]); (try rw [h4]); (try rw [p1]); (try rw [p2]); (try rw [p3]); (try rw [p4]); (try rw [r1]); (try rw [r2]); (try rw [r3]); (try rw [r4]); (try rw [r5]); (try rw [r6]); (try rw [q3]); (try rw [q4]); (try rw [hp]); (try rw [hq]); go_big_quiet_on)))
                  refine wpQuiet_nil ?_
                  rintro _ ⟨tq, rfl⟩))
            go_ret
            rw [show recL sn g xs = xs from E.out]
            exact ⟨a4, c4, B4, rfl, (by ((try simp only [ext_drew]); (try simp only [ext_ext]); repeat (first | exact Ext.refl _ | with_reducible apply Ext.add | with_reducible apply Ext.dr | apply Ext.alloc | apply Ext.ext | apply Ext.drew | refine Ext.trans ?_ (by assumption)))), HX4.out.of (by ((try simp only [ext_drew]); (try simp only [ext_ext]); repeat (first | exact Ext.refl _ | with_reducible apply Ext.add | with_reducible apply Ext.dr | apply Ext.alloc | apply Ext.ext | apply Ext.drew | refine Ext.trans ?_ (by assumption)))), fun b hb => Nat.le_trans (by (try simp [go_sem]) <;> (try simp [Xt.add]) <;> omega) (HB4.out b hb)⟩
    · have hke : k = sn := by omega
      subst hke
      have HE0 := hid (recL_none (n := k) (g := g) (notAh_all (take_end HA.out (by have := HLn.out; omega))))
      by_cases h20 : (k : Int) < 20
      · have E := hid (show recL k g xs = insAt xs k g by rw [HE0.out, if_pos (by omega), show k = xs.length from HLn.out, insAt_end])
        have hkl : k ≤ xs.length := by have := HLn.out; omega
        clear HE0
        try go_wp2_with (first
            | (go_at_call 92; ((refine (insGst_c xs g _ k _ _ (w.heap.size + 1) _ (ownsRow_of HG.out (by ((try simp only [ext_drew]); (try simp only [ext_ext]); repeat (first | exact Ext.refl _ | with_reducible apply Ext.add | with_reducible apply Ext.dr | apply Ext.alloc | apply Ext.ext | apply Ext.drew | refine Ext.trans ?_ (by assumption))))) (by (try simp [go_sem]) <;> (try simp [Xt.add]) <;> omega) hkl (by exact alloc_last (by (try simp [go_sem]) <;> (try simp [Xt.add]) <;> omega)) (fun g hg => Nat.ne_of_gt (Nat.lt_of_lt_of_le (HG.out.lt g hg).2 (by (try simp [go_sem]) <;> (try simp [Xt.add]) <;> omega))) (by have := HLn.out; omega)).mono ?_); rintro e w' ⟨v2, rfl, hrow2, hch⟩; obtain ⟨t3, rfl⟩ : Ext w w' := Ext.of_below (Below.chg (w0 := w) (Ext.below (by ((try simp only [ext_drew]); (try simp only [ext_ext]); repeat (first | exact Ext.refl _ | with_reducible apply Ext.add | with_reducible apply Ext.dr | apply Ext.alloc | apply Ext.ext | apply Ext.drew | refine Ext.trans ?_ (by assumption))))) hch (fun g hg => Nat.le_trans (Nat.le_succ _) (HG.out.lt g (by simpa using hg)).1)); obtain ⟨ra, rn, rc, rfl⟩ := row_slice hrow2; obtain ⟨hrn, hre2⟩ := row_reG (by rw [insAt_len _ _ _ hkl]; have := HLn.out; omega) hrow2; have HR2 := hid hre2; have hrm : rn ≤ 2097152 := (by rw [hrn, insAt_len _ _ _ hkl]; have := HLn.out; omega); clear hrow2 hre2 hch hrn)) | (go_at_call 91; ((with_reducible refine (iCloneGst_x (insAt xs k g) _ _ _ _ (HR2.out.of (by ((try simp only [ext_drew]); (try simp only [ext_ext]); repeat (first | exact Ext.refl _ | with_reducible apply Ext.add | with_reducible apply Ext.dr | apply Ext.alloc | apply Ext.ext | apply Ext.drew | refine Ext.trans ?_ (by assumption))))) hrm).mono ?_); rintro e w' ⟨a4, c4, B4, rfl, ⟨t4, rfl⟩, hx4, hb4⟩; have HX4 := hid hx4; have HB4 := hid hb4; clear hx4 hb4))
            | (
              with_reducible refine wp_region_mix (by kernel_rfl) (by decide +kernel) ?_
              repeat (first
                | (refine mix_pure rfl ?_; (first | go_big_quiet_skip | (go_big_quiet_want; go_big_quiet_op; go_big_quiet_on)); refine wpQuiet_nil ?_)
                | (refine mix_skip (by rfl) ?_; (try simp only [Act.put, List.setIfInBounds_toArray, List.set_cons_zero, List.set_cons_succ]))
                | (refine mix_mk rfl (by rfl) (fun K hK => ?_); (first | (go_simp; first | (go_at_call 92; ((refine (insGst_c xs g _ k _ _ (w.heap.size + 1) _ (ownsRow_of HG.out (by ((try simp only [ext_drew]); (try simp only [ext_ext]); repeat (first | exact Ext.refl _ | with_reducible apply Ext.add | with_reducible apply Ext.dr | apply Ext.alloc | apply Ext.ext | apply Ext.drew | refine Ext.trans ?_ (by assumption))))) (by (try simp [go_sem]) <;> (try simp [Xt.add]) <;> omega) hkl (by exact alloc_last (by (try simp [go_sem]) <;> (try simp [Xt.add]) <;> omega)) (fun g hg => Nat.ne_of_gt (Nat.lt_of_lt_of_le (HG.out.lt g hg).2 (by (try simp [go_sem]) <;> (try simp [Xt.add]) <;> omega))) (by have := HLn.out; omega)).mono ?_); rintro e w' ⟨v2, rfl, hrow2, hch⟩; obtain ⟨t3, rfl⟩ : Ext w w' := Ext.of_below (Below.chg (w0 := w) (Ext.below (by ((try simp only [ext_drew]); (try simp only [ext_ext]); repeat (first | exact Ext.refl _ | with_reducible apply Ext.add | with_reducible apply Ext.dr | apply Ext.alloc | apply Ext.ext | apply Ext.drew | refine Ext.trans ?_ (by assumption))))) hch (fun g hg => Nat.le_trans (Nat.le_succ _) (HG.out.lt g (by simpa using hg)).1)); obtain ⟨ra, rn, rc, rfl⟩ := row_slice hrow2; obtain ⟨hrn, hre2⟩ := row_reG (by rw [insAt_len _ _ _ hkl]; have := HLn.out; omega) hrow2; have HR2 := hid hre2; have hrm : rn ≤ 2097152 := (by rw [hrn, insAt_len _ _ _ hkl]; have := HLn.out; omega); clear hrow2 hre2 hch hrn)) | (go_at_call 91; ((with_reducible refine (iCloneGst_x (insAt xs k g) _ _ _ _ (HR2.out.of (by ((try simp only [ext_drew]); (try simp only [ext_ext]); repeat (first | exact Ext.refl _ | with_reducible apply Ext.add | with_reducible apply Ext.dr | apply Ext.alloc | apply Ext.ext | apply Ext.drew | refine Ext.trans ?_ (by assumption))))) hrm).mono ?_); rintro e w' ⟨a4, c4, B4, rfl, ⟨t4, rfl⟩, hx4, hb4⟩; have HX4 := hid hx4; have HB4 := hid hb4; clear hx4 hb4)) | skip)); (show K _ _); refine hK _ _ (show Ext _ _ from (by ((try simp only [ext_drew]); (try simp only [ext_ext]); repeat (first | exact Ext.refl _ | with_reducible apply Ext.add | with_reducible apply Ext.dr | apply Ext.alloc | apply Ext.ext | apply Ext.drew | refine Ext.trans ?_ (by assumption))))) ?_; clear hK K; (try simp only [Act.put, List.setIfInBounds_toArray, List.set_cons_zero, List.set_cons_succ])))
              refine mix_nil ?_)
            | (
              with_reducible refine wp_region_ext (by kernel_rfl) (by kernel_rfl) ?_
              repeat (first | go_big_quiet_skip | (go_big_quiet_want; go_big_quiet_op; first | go_big_quiet_on | (apply Exists.intro; refine ⟨fun _ => ?_, ?_⟩; (fail); (try rw [h1]); (try rw [h2]); (try rw [h3]); (try rw [h4]); (try rw [p1]); (try rw [p2]); (try rw [p3]); (try rw [p4]); (try rw [r1]); (try rw [r2]); (try rw [r3]); (try rw [r4]); (try rw [r5]); (try rw [r6]); (try rw [q3]); (try rw [q4]); (try rw [hp]); (try rw [hq]); go_big_quiet_on)))
              refine wpQuiet_nil ?_
              rintro _ ⟨tq, rfl⟩))
        go_ret
        rw [show recL k g xs = insAt xs k g from E.out]
        exact ⟨a4, c4, B4, rfl, (by ((try simp only [ext_drew]); (try simp only [ext_ext]); repeat (first | exact Ext.refl _ | with_reducible apply Ext.add | with_reducible apply Ext.dr | apply Ext.alloc | apply Ext.ext | apply Ext.drew | refine Ext.trans ?_ (by assumption)))), HX4.out.of (by ((try simp only [ext_drew]); (try simp only [ext_ext]); repeat (first | exact Ext.refl _ | with_reducible apply Ext.add | with_reducible apply Ext.dr | apply Ext.alloc | apply Ext.ext | apply Ext.drew | refine Ext.trans ?_ (by assumption)))), fun b hb => Nat.le_trans (by (try simp [go_sem]) <;> (try simp [Xt.add]) <;> omega) (HB4.out b hb)⟩
      · have E := hid (show recL k g xs = xs by rw [HE0.out, if_neg (by omega)])
        clear HE0
        try go_wp2_with (first
            | (go_at_call 91; ((with_reducible refine (iCloneGst_x xs _ _ _ _ (HRb.out.of (by ((try simp only [ext_drew]); (try simp only [ext_ext]); repeat (first | exact Ext.refl _ | with_reducible apply Ext.add | with_reducible apply Ext.dr | apply Ext.alloc | apply Ext.ext | apply Ext.drew | refine Ext.trans ?_ (by assumption))))) (by omega)).mono ?_); rintro e w' ⟨a4, c4, B4, rfl, ⟨t4, rfl⟩, hx4, hb4⟩; have HX4 := hid hx4; have HB4 := hid hb4; clear hx4 hb4))
            | (
              with_reducible refine wp_region_mix (by kernel_rfl) (by decide +kernel) ?_
              repeat (first
                | (refine mix_pure rfl ?_; (first | go_big_quiet_skip | (go_big_quiet_want; go_big_quiet_op; go_big_quiet_on)); refine wpQuiet_nil ?_)
                | (refine mix_skip (by rfl) ?_; (try simp only [Act.put, List.setIfInBounds_toArray, List.set_cons_zero, List.set_cons_succ]))
                | (refine mix_mk rfl (by rfl) (fun K hK => ?_); (first | (go_simp; first | (go_at_call 91; ((with_reducible refine (iCloneGst_x xs _ _ _ _ (HRb.out.of (by ((try simp only [ext_drew]); (try simp only [ext_ext]); repeat (first | exact Ext.refl _ | with_reducible apply Ext.add | with_reducible apply Ext.dr | apply Ext.alloc | apply Ext.ext | apply Ext.drew | refine Ext.trans ?_ (by assumption))))) (by omega)).mono ?_); rintro e w' ⟨a4, c4, B4, rfl, ⟨t4, rfl⟩, hx4, hb4⟩; have HX4 := hid hx4; have HB4 := hid hb4; clear hx4 hb4)) | skip)); (show K _ _); refine hK _ _ (show Ext _ _ from (by ((try simp only [ext_drew]); (try simp only [ext_ext]); repeat (first | exact Ext.refl _ | with_reducible apply Ext.add | with_reducible apply Ext.dr | apply Ext.alloc | apply Ext.ext | apply Ext.drew | refine Ext.trans ?_ (by assumption))))) ?_; clear hK K; (try simp only [Act.put, List.setIfInBounds_toArray, List.set_cons_zero, List.set_cons_succ])))
              refine mix_nil ?_)
            | (
              with_reducible refine wp_region_ext (by kernel_rfl) (by kernel_rfl) ?_
              repeat (first | go_big_quiet_skip | (go_big_quiet_want; go_big_quiet_op; first | go_big_quiet_on | (apply Exists.intro; refine ⟨fun _ => ?_, ?_⟩; (fail); (try rw [h1]); (try rw [h2]); (try rw [h3]); (try rw [h4]); (try rw [p1]); (try rw [p2]); (try rw [p3]); (try rw [p4]); (try rw [r1]); (try rw [r2]); (try rw [r3]); (try rw [r4]); (try rw [r5]); (try rw [r6]); (try rw [q3]); (try rw [q4]); (try rw [hp]); (try rw [hq]); go_big_quiet_on)))
              refine wpQuiet_nil ?_
              rintro _ ⟨tq, rfl⟩))
        go_ret
        rw [show recL k g xs = xs from E.out]
        exact ⟨a4, c4, B4, rfl, (by ((try simp only [ext_drew]); (try simp only [ext_ext]); repeat (first | exact Ext.refl _ | with_reducible apply Ext.add | with_reducible apply Ext.dr | apply Ext.alloc | apply Ext.ext | apply Ext.drew | refine Ext.trans ?_ (by assumption)))), HX4.out.of (by ((try simp only [ext_drew]); (try simp only [ext_ext]); repeat (first | exact Ext.refl _ | with_reducible apply Ext.add | with_reducible apply Ext.dr | apply Ext.alloc | apply Ext.ext | apply Ext.drew | refine Ext.trans ?_ (by assumption)))), fun b hb => Nat.le_trans (by (try simp [go_sem]) <;> (try simp [Xt.add]) <;> omega) (HB4.out b hb)⟩
theorem gstOk_plc {m : Mp} {g : Gst} (h : plcOk m = false) : gstOk m g = false := by
  have : wlkOk m g.wk = false := by simp [wlkOk, plcCell_bad _ h]
  simp [gstOk, this]
theorem gstPutV_len2 (m : Mp) (xs : List Gst) (g : Gst) : (gstPutV m xs g).length ≤ 21 := by
  unfold gstPutV; split
  · rename_i h
    simp only [Bool.and_eq_true, decide_eq_true_eq] at h
    have := recL_len xs.length g xs; omega
  · simp
set_option maxRecDepth 100000 in
set_option maxHeartbeats 4000000 in
theorem iGstPut_c (m : Mp) (xs : List Gst) (g : Gst) (a : Option Addr) (n c : Nat) (w : World) (hx : Re w (.sl sGst) [.slice a n c] (.l (xs.map Gst.dat))) (hn : n ≤ 1048576) :
    Calls Try.prog 28 #[.agg #[.int .i64 m.c, .int .i64 m.w], .slice a n c, .agg #[.int .i64 g.src, .int .i64 g.count, .int .i64 g.wk.id, .int .i64 g.wk.at_, .int .i64 g.wk.coins, .int .i64 g.wk.seq, .int .i64 g.wk.last]] w (MadeX w 42 7 Gst.cells (gstPutV m xs g)) := by
  have HX := hid hx
  have HLn := hid (show n = xs.length from hx.len)
  clear hx
  have h9 := hid (show decide ((n : Int) ≤ 20) = decide (xs.length ≤ 20) by have := HLn.out; by_cases h : xs.length ≤ 20 <;> simp [h] <;> omega)
  cases q1 : (gstAll m xs && (plcOk m && decide ((n : Int) ≤ 20))) with
  | false =>
    have HQ := hid q1
    have E := hid (show gstPutV m xs g = [] by
      have h8 := HQ.out
      rw [h9.out] at h8
      unfold gstPutV
      rw [if_neg]
      intro h
      cases hp : plcOk m with
      | false => rw [gstOk_plc hp] at h; simp at h
      | true => rw [hp, Bool.true_and] at h8; rw [h8] at h; simp at h)
    clear q1
    go_enter Try.func28, Try.ntmps28
    go_wp2_with (first | (go_at_call 72; (with_reducible refine (iGstListOk_g m xs _ _ _ false _ (HX.out.of (by ((try simp only [ext_drew]); (try simp only [ext_ext]); repeat (first | exact Ext.refl _ | with_reducible apply Ext.add | with_reducible apply Ext.dr | apply Ext.alloc | apply Ext.ext | apply Ext.drew | refine Ext.trans ?_ (by assumption))))) (by omega) HQ.out).mono ?_); rintro e w' ⟨rfl, t, rfl⟩))
    go_ret
    rw [E.out]
    exact ⟨_, _, [], rfl, (by ((try simp only [ext_drew]); (try simp only [ext_ext]); repeat (first | exact Ext.refl _ | with_reducible apply Ext.add | with_reducible apply Ext.dr | apply Ext.alloc | apply Ext.ext | apply Ext.drew | refine Ext.trans ?_ (by assumption)))), .inl ⟨rfl, rfl, _, rfl, .inl rfl⟩, by simp⟩
  | true =>
    have HQ := hid q1
    clear q1
    cases q2 : gstOk m g with
    | false =>
      have E := hid (show gstPutV m xs g = [] by unfold gstPutV; rw [if_neg]; simp [q2])
      go_enter Try.func28, Try.ntmps28
      go_wp2_with (first | (go_at_call 72; (with_reducible refine (iGstListOk_g m xs _ _ _ true _ (HX.out.of (by ((try simp only [ext_drew]); (try simp only [ext_ext]); repeat (first | exact Ext.refl _ | with_reducible apply Ext.add | with_reducible apply Ext.dr | apply Ext.alloc | apply Ext.ext | apply Ext.drew | refine Ext.trans ?_ (by assumption))))) (by omega) HQ.out).mono ?_); rintro e w' ⟨rfl, t, rfl⟩) | (go_at_call 47; (with_reducible refine (iGstOk_c m g _).mono ?_); rintro e w' ⟨rfl, t2, rfl⟩))
      go_ret
      rw [E.out]
      exact ⟨_, _, [], rfl, (by ((try simp only [ext_drew]); (try simp only [ext_ext]); repeat (first | exact Ext.refl _ | with_reducible apply Ext.add | with_reducible apply Ext.dr | apply Ext.alloc | apply Ext.ext | apply Ext.drew | refine Ext.trans ?_ (by assumption)))), .inl ⟨rfl, rfl, _, rfl, .inl rfl⟩, by simp⟩
    | true =>
      have E := hid (show recL n g xs = gstPutV m xs g by
        have h8 := HQ.out
        rw [h9.out] at h8
        simp only [Bool.and_eq_true] at h8
        rw [gstPutV, if_pos (by rw [h8.1, h8.2.2, q2]; rfl), HLn.out])
      obtain ⟨v, hv⟩ : ∃ v, gstPutV m xs g = v := ⟨_, rfl⟩
      rw [hv] at E ⊢
      have HC := hid (fun (a : Option Addr) (c : Nat) (w : World) (hr : Re w (.sl sGst) [.slice a n c] (.l (xs.map Gst.dat))) => (show Calls Try.prog 73 #[.slice a n c, .agg #[.int .i64 g.src, .int .i64 g.count, .int .i64 g.wk.id, .int .i64 g.wk.at_, .int .i64 g.wk.coins, .int .i64 g.wk.seq, .int .i64 g.wk.last]] w (MadeX w 42 7 Gst.cells v) from E.out ▸ record_c xs g a n c w hr hn))
      clear hv
      go_enter Try.func28, Try.ntmps28
      go_wp2_with (first | (go_at_call 72; (with_reducible refine (iGstListOk_g m xs _ _ _ true _ (HX.out.of (by ((try simp only [ext_drew]); (try simp only [ext_ext]); repeat (first | exact Ext.refl _ | with_reducible apply Ext.add | with_reducible apply Ext.dr | apply Ext.alloc | apply Ext.ext | apply Ext.drew | refine Ext.trans ?_ (by assumption))))) (by omega) HQ.out).mono ?_); rintro e w' ⟨rfl, t, rfl⟩) | (go_at_call 47; (with_reducible refine (iGstOk_c m g _).mono ?_); rintro e w' ⟨rfl, t2, rfl⟩) | (go_at_call 73; (with_reducible refine (HC.out _ _ _ (HX.out.of (by ((try simp only [ext_drew]); (try simp only [ext_ext]); repeat (first | exact Ext.refl _ | with_reducible apply Ext.add | with_reducible apply Ext.dr | apply Ext.alloc | apply Ext.ext | apply Ext.drew | refine Ext.trans ?_ (by assumption)))))).mono ?_); rintro e w' ⟨a4, c4, B4, rfl, ⟨t4, rfl⟩, hx4, hb4⟩; have HX4 := hid hx4; have HB4 := hid hb4; clear hx4 hb4))
      go_ret
      exact ⟨a4, c4, B4, rfl, (by ((try simp only [ext_drew]); (try simp only [ext_ext]); repeat (first | exact Ext.refl _ | with_reducible apply Ext.add | with_reducible apply Ext.dr | apply Ext.alloc | apply Ext.ext | apply Ext.drew | refine Ext.trans ?_ (by assumption)))), HX4.out.of (by ((try simp only [ext_drew]); (try simp only [ext_ext]); repeat (first | exact Ext.refl _ | with_reducible apply Ext.add | with_reducible apply Ext.dr | apply Ext.alloc | apply Ext.ext | apply Ext.drew | refine Ext.trans ?_ (by assumption)))), fun b hb => Nat.le_trans (by (try simp [go_sem]) <;> (try simp [Xt.add]) <;> omega) (HB4.out b hb)⟩
theorem iGstPut_m (m : Mp) (xs : List Gst) (g : Gst) (a : Option Addr) (n c : Nat) (w : World) (hx : Re w (.sl sGst) [.slice a n c] (.l (xs.map Gst.dat))) (hn : n ≤ 1048576) :
    Calls Try.prog 28 #[.agg #[.int .i64 m.c, .int .i64 m.w], .slice a n c, .agg #[.int .i64 g.src, .int .i64 g.count, .int .i64 g.wk.id, .int .i64 g.wk.at_, .int .i64 g.wk.coins, .int .i64 g.wk.seq, .int .i64 g.wk.last]] w (MadeL w sGst (gstPutV m xs g).length ((gstPutV m xs g).map Gst.dat)) := (iGstPut_c m xs g a n c w hx hn).mono fun _ _ h => MadeX.made rfl (fun w x => own_Gst_mk w x) h
theorem sGstPut_m (m : Mp) (xs : List Gst) (g : Gst) (a : Option Addr) (n c : Nat) (w : World) (hx : Re w (.sl sGst) [.slice a n c] (.l (xs.map Gst.dat))) (hn : n ≤ 1048576) :
    Calls Try.prog 25 #[.agg #[.int .i64 m.c, .int .i64 m.w], .slice a n c, .agg #[.int .i64 g.src, .int .i64 g.count, .int .i64 g.wk.id, .int .i64 g.wk.at_, .int .i64 g.wk.coins, .int .i64 g.wk.seq, .int .i64 g.wk.last]] w (MadeL w sGst (gstPutV m xs g).length ((gstPutV m xs g).map Gst.dat)) := (sGstPut_c m xs g a n c w hx hn).mono fun _ _ h => MadeX.made rfl (fun w x => own_Gst_mk w x) h
end Go.Proofs.Ytnfodkhfoegnaaa
