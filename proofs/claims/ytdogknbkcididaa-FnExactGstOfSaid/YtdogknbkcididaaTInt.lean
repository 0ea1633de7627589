/- The laws' helpers at slices of integers. -/
import Derived.Test.YtdogknbkcididaaMem
import Derived.Test.YtdogknbkcididaaSeg
import Derived.Test.YtdogknbkcididaaScal
namespace Go.Proofs.Ytdogknbkcididaa
open Go.RowKit

def icells (x : Int) : List Value := [.int .i64 x]
theorem idat_inj {x y : Int} (h : Dat.i x = Dat.i y) : x = y := by simpa using h
theorem rd_Int {hi : Nat} {w : World} {vs : List Value} {d : Dat} (h : Rd hi w .int vs d) : ∃ x : Int, vs = icells x ∧ d = .i x := by
  obtain ⟨n, h1, h2⟩ := rd_int h; exact ⟨n, h1, h2⟩
theorem rdS_Int {hi : Nat} {w : World} {vs : List Value} {d : Dat} (h : Rd hi w (.sl .int) vs d) : ∃ a c, ∃ xs : List Int, vs = [.slice a xs.length c] ∧ d = .l (xs.map Dat.i) ∧ xs.length ≤ maxLen := by
  unfold Rd at h
  obtain ⟨a, n, c, ds, h1, h2, h3, h4, h5⟩ := h
  have key : ∃ xs : List Int, ds = xs.map Dat.i := list_of_all fun i x hx => by
    obtain ⟨b, o, es, _, _, _, hr⟩ := h5 i x hx
    obtain ⟨y, _, hy⟩ := rd_Int hr
    exact ⟨y, hy⟩
  obtain ⟨xs, rfl⟩ := key
  simp only [List.length_map] at h3
  subst h3
  exact ⟨a, c, xs, h1, h2, h4⟩
theorem own_Int_mk (w : World) (x : Int) : Own w .int (icells x) (.i x) [] := by unfold Own; exact ⟨⟨x, rfl, rfl⟩, rfl⟩
theorem ione (x : Int) : ∀ u ∈ icells x, u.oneCell' = true := fun u hu => by
  simp only [icells, List.mem_cons, List.not_mem_nil, or_false] at hu; subst hu; rfl
theorem at_Int {hi : Nat} {w : World} {a : Option Addr} {n c : Nat} {xs : List Int} (h : Rd hi w (.sl .int) [.slice a n c] (.l (xs.map Dat.i))) {k : Nat} (hk : k < n) :
    ∃ x b o, xs[k]? = some x ∧ a = some (⟨b, o, none⟩ : Addr) ∧ b < hi ∧ w.cell? ⟨b, o + k, none⟩ = some (.int .i64 x) := by
  unfold Rd at h
  obtain ⟨a', n', c', ds, h1, h2, h3, h4, h5⟩ := h
  simp only [List.cons.injEq, Value.slice.injEq, and_true] at h1
  obtain ⟨rfl, rfl, rfl⟩ := h1
  simp only [Dat.l.injEq] at h2
  subst h2
  have hk' : k < xs.length := by rw [List.length_map] at h3; omega
  obtain ⟨b, o, es, ha, hb, hc, hr⟩ := h5 k (Dat.i xs[k]) (by simp [hk'])
  obtain ⟨y, rfl, hy⟩ := rd_Int hr
  have e := idat_inj hy
  refine ⟨y, b, o, by rw [← e]; simp [hk'], ha, hb, ?_⟩
  have := hc 0 _ rfl
  simpa [Sch.size] using this

theorem mk_Int (n : Nat) (hn : n ≤ 1048576) (w : World) : (Instr.makeSlice 26 (.int .i64 (n : Int)) (.int .i64 (n : Int))).run Try.prog w = .ok (.slice (some ⟨w.heap.size, 0, none⟩) n n) (w.alloc (.cells (madeCells (Value.int .i64 0).cells n) 3)) := by
  have := mk_gen (bytes := 8) (k := 1) (z := .int .i64 0) Try.underlying26 (by kernel_rfl) n hn (by decide) w
  rwa [Nat.mul_one] at this

theorem wpList_app_Int {ops : Array Oper} {rest : List Oper} {o : Oper} {a : Act} {Q : Exit → Act → World → Prop} {w0 w : World} (hgd : o.guard = none) (s x : Operand) (ho : o.op = .call { callee := .builtin .append, args := #[s, x], argTypes := #[26, 26] })
    {v : Value} {xs : List Int} (hs : a.eval s = v) (hE : Ext w0 w) (hown : w.ownsRow w0.heap.size 3 1 v xs.length (xs.flatMap icells)) (y : Int) {b c : Nat} {T' : TypeId} (hx : a.eval x = .slice (some ⟨b, 0, none⟩) 1 c) (hy : w.heap[b]? = some (.cells (icells y).toArray T' (0, 0))) (hn : xs.length ≤ 4194304)
    (h : ∀ v' t', (ext w0 t').ownsRow w0.heap.size 3 1 v' (xs ++ [y]).length ((xs ++ [y]).flatMap icells) → wpList Try.prog ops Q rest (a.put o.dst v') (ext w0 t')) : wpList Try.prog ops Q (o :: rest) a w :=
  wpList_app (cells := icells) (k := 1) (bytes := 8) (z := .int .i64 0) Try.underlying26 (by kernel_rfl) rfl (by decide) (by decide) (fun _ => rfl) ione hgd s x ho hs hE hown y hx hy hn h
theorem wpList_apps_Int {ops : Array Oper} {rest : List Oper} {o : Oper} {a : Act} {Q : Exit → Act → World → Prop} {w0 w : World} (hgd : o.guard = none) (s x : Operand) (ho : o.op = .call { callee := .builtin .append, args := #[s, x], argTypes := #[26, 26] })
    {v : Value} {xs : List Int} (hs : a.eval s = v) (hE : Ext w0 w) (hown : w.ownsRow w0.heap.size 3 1 v xs.length (xs.flatMap icells)) (ys : List Int) {ad : Option Addr} {m c : Nat} (hx : a.eval x = .slice ad m c) (hy : Re w (.sl .int) [.slice ad m c] (.l (ys.map Dat.i))) (hn : xs.length + m ≤ 4194304)
    (h : ∀ v' t', (ext w0 t').ownsRow w0.heap.size 3 1 v' (xs ++ ys).length ((xs ++ ys).flatMap icells) → wpList Try.prog ops Q rest (a.put o.dst v') (ext w0 t')) : wpList Try.prog ops Q (o :: rest) a w :=
  wpList_apps (cells := icells) (k := 1) (bytes := 8) (z := .int .i64 0) Try.underlying26 (by kernel_rfl) rfl (by decide) (by decide) rfl (fun _ => rfl) (fun _ _ _ _ h => rd_Int h) (fun _ _ h => idat_inj h) ione hgd s x ho hs hE hown ys hx hy hn h
theorem wp_apps_Int {o : Oper} {a : Act} {K : Act → World → Prop} {Q : Exit → Act → World → Prop} {w0 w : World} (s x : Operand) (ho : o.op = .call { callee := .builtin .append, args := #[s, x], argTypes := #[26, 26] })
    {v : Value} {xs : List Int} (hs : a.eval s = v) (hE : Ext w0 w) (hown : w.ownsRow w0.heap.size 3 1 v xs.length (xs.flatMap icells)) (ys : List Int) {ad : Option Addr} {m c : Nat} (hx : a.eval x = .slice ad m c) (hy : Re w (.sl .int) [.slice ad m c] (.l (ys.map Dat.i))) (hn : xs.length + m ≤ 4194304)
    (h : ∀ v' t', (ext w0 t').ownsRow w0.heap.size 3 1 v' (xs ++ ys).length ((xs ++ ys).flatMap icells) → K (a.put o.dst v') (ext w0 t')) : o.wp Try.prog a w K Q :=
  wp_apps (cells := icells) (k := 1) (bytes := 8) (z := .int .i64 0) Try.underlying26 (by kernel_rfl) rfl (by decide) (by decide) rfl (fun _ => rfl) (fun _ _ _ _ h => rd_Int h) (fun _ _ h => idat_inj h) ione s x ho hs hE hown ys hx hy hn h
theorem wp_clone_Int {o : Oper} {a : Act} {K : Act → World → Prop} {Q : Exit → Act → World → Prop} {w : World} (s x : Operand) (ho : o.op = .call { callee := .builtin .append, args := #[s, x], argTypes := #[26, 26] })
    (hs : a.eval s = .slice none 0 0) (ys : List Int) {ad : Option Addr} {m c : Nat} (hx : a.eval x = .slice ad m c) (hy : Re w (.sl .int) [.slice ad m c] (.l (ys.map Dat.i))) (hn : m ≤ 1048576)
    (h : ∀ a' c' t', OwnR w.heap.size (ext w t').heap.size (ext w t') (.sl .int) [.slice a' m c'] (.l (ys.map Dat.i)) → K (a.put o.dst (.slice a' m c')) (ext w t')) : o.wp Try.prog a w K Q :=
  wp_clone (cells := icells) (k := 1) (bytes := 8) (z := .int .i64 0) Try.underlying26 (by kernel_rfl) rfl (by decide) (by decide) rfl (fun _ => rfl) (fun _ _ _ _ h => rd_Int h) (fun _ _ h => idat_inj h) ione (fun w x => own_Int_mk w x) s x ho hs ys hx hy hn h
theorem wp_clone0_Int {o : Oper} {a : Act} {K : Act → World → Prop} {Q : Exit → Act → World → Prop} {w : World} (s x : Operand) (ho : o.op = .call { callee := .builtin .append, args := #[s, x], argTypes := #[26, 26] })
    (hs : a.eval s = .slice (some ⟨w.heap.size, 0, none⟩) 0 0) (ys : List Int) {ad : Option Addr} {m c : Nat} (hx : a.eval x = .slice ad m c) (hy : Re w (.sl .int) [.slice ad m c] (.l (ys.map Dat.i))) (hn : m ≤ 1048576)
    (h : ∀ a' c' t', OwnR w.heap.size (ext w t').heap.size (ext w t') (.sl .int) [.slice a' m c'] (.l (ys.map Dat.i)) → K (a.put o.dst (.slice a' m c')) (ext w t')) : o.wp Try.prog a (w.alloc (.cells #[] 3)) K Q :=
  wp_clone0 (cells := icells) (k := 1) (bytes := 8) (z := .int .i64 0) Try.underlying26 (by kernel_rfl) rfl (by decide) (by decide) rfl (fun _ => rfl) (fun _ _ _ _ h => rd_Int h) (fun _ _ h => idat_inj h) ione (fun w x => own_Int_mk w x) s x ho hs ys hx hy hn h
theorem wpList_clone_Int {ops : Array Oper} {rest : List Oper} {o : Oper} {a : Act} {Q : Exit → Act → World → Prop} {w : World} (hgd : o.guard = none) (s x : Operand) (ho : o.op = .call { callee := .builtin .append, args := #[s, x], argTypes := #[26, 26] })
    (hs : a.eval s = .slice none 0 0) (ys : List Int) {ad : Option Addr} {m c : Nat} (hx : a.eval x = .slice ad m c) (hy : Re w (.sl .int) [.slice ad m c] (.l (ys.map Dat.i))) (hn : m ≤ 1048576)
    (h : ∀ a' c' t', OwnR w.heap.size (ext w t').heap.size (ext w t') (.sl .int) [.slice a' m c'] (.l (ys.map Dat.i)) → wpList Try.prog ops Q rest (a.put o.dst (.slice a' m c')) (ext w t')) : wpList Try.prog ops Q (o :: rest) a w :=
  wpList_clone (cells := icells) (k := 1) (bytes := 8) (z := .int .i64 0) Try.underlying26 (by kernel_rfl) rfl (by decide) (by decide) rfl (fun _ => rfl) (fun _ _ _ _ h => rd_Int h) (fun _ _ h => idat_inj h) ione (fun w x => own_Int_mk w x) hgd s x ho hs ys hx hy hn h
theorem wpList_clone0_Int {ops : Array Oper} {rest : List Oper} {o : Oper} {a : Act} {Q : Exit → Act → World → Prop} {w : World} (hgd : o.guard = none) (s x : Operand) (ho : o.op = .call { callee := .builtin .append, args := #[s, x], argTypes := #[26, 26] })
    (hs : a.eval s = .slice (some ⟨w.heap.size, 0, none⟩) 0 0) (ys : List Int) {ad : Option Addr} {m c : Nat} (hx : a.eval x = .slice ad m c) (hy : Re w (.sl .int) [.slice ad m c] (.l (ys.map Dat.i))) (hn : m ≤ 1048576)
    (h : ∀ a' c' t', OwnR w.heap.size (ext w t').heap.size (ext w t') (.sl .int) [.slice a' m c'] (.l (ys.map Dat.i)) → wpList Try.prog ops Q rest (a.put o.dst (.slice a' m c')) (ext w t')) : wpList Try.prog ops Q (o :: rest) a (w.alloc (.cells #[] 3)) :=
  wpList_clone0 (cells := icells) (k := 1) (bytes := 8) (z := .int .i64 0) Try.underlying26 (by kernel_rfl) rfl (by decide) (by decide) rfl (fun _ => rfl) (fun _ _ _ _ h => rd_Int h) (fun _ _ h => idat_inj h) ione (fun w x => own_Int_mk w x) hgd s x ho hs ys hx hy hn h

theorem eqIntS_c (xs : List Int) (a1 a2 : Option Addr) (n c1 c2 : Nat) (w : World) (h1 : Re w (.sl .int) [.slice a1 n c1] (.l (xs.map Dat.i))) (h2 : Re w (.sl .int) [.slice a2 n c2] (.l (xs.map Dat.i))) (hn : n ≤ 1048576) :
    Calls Try.prog 57 #[.slice a1 n c1, .slice a2 n c2] w fun e w' => e = .returned (.bool true) ∧ Ext w w' := by
  have H1 := hid h1
  have H2 := hid h2
  clear h1 h2
  go_enter Try.func57, Try.ntmps57
  go_wp2
  go_loopw [5] (fun i wr => ∃ k : Nat, k ≤ n ∧ i = .int .i64 k ∧ Ext w wr) (fun i _ => n - (intOf i).toNat)
  case atStart => exact ⟨0, Nat.zero_le _, rfl, Ext.refl _⟩
  case round =>
    obtain ⟨k, hk, rfl, t, rfl⟩ := hrel
    by_cases hlt : k < n
    · obtain ⟨x, b1, o1, hx, rfl, hb1, f0⟩ := at_Int H1.out hlt
      obtain ⟨y, b2, o2, hy, rfl, hb2, g0⟩ := at_Int H2.out hlt
      have e : x = y := Option.some.inj (hx.symm.trans hy)
      subst e
      clear hx hy
      go_wp2
      with_reducible refine wp_region_ext (by kernel_rfl) (by kernel_rfl) ?_
      repeat (go_big_quiet_step (fail))
      refine wpQuiet_nil ?_
      rintro _ ⟨tq, rfl⟩
      go_wp2
      go_roundw
      case rel => exact ⟨k + 1, by omega, by go_num, (by ((try simp only [ext_drew]); (try simp only [ext_ext]); repeat (first | exact Ext.refl _ | with_reducible apply Ext.add | with_reducible apply Ext.dr | apply Ext.alloc | apply Ext.ext | apply Ext.drew | refine Ext.trans ?_ (by assumption))))⟩
      case measure => simp [intOf]; omega
    · go_wp2
      go_ret
      exact ⟨rfl, (by ((try simp only [ext_drew]); (try simp only [ext_ext]); repeat (first | exact Ext.refl _ | with_reducible apply Ext.add | with_reducible apply Ext.dr | apply Ext.alloc | apply Ext.ext | apply Ext.drew | refine Ext.trans ?_ (by assumption))))⟩

theorem szIntS_c (a : Option Addr) (n c : Nat) (left : Int) (w : World) (h0 : 0 ≤ left) (h1 : left ≤ 1048576) (hn : n ≤ 9223372036854775807) :
    Calls Try.prog 43 #[.slice a n c, .int .i64 left] w fun e w' => e = .returned (.int .i64 (if left < (n : Int) then -1 else left - n)) ∧ w = w' := by
  by_cases h : left < (n : Int)
  · go_enter Try.func43, Try.ntmps43
    go_wp2
    go_ret
    exact ⟨ret_int rfl, rfl⟩
  · go_enter Try.func43, Try.ntmps43
    go_wp2
    go_ret
    exact ⟨ret_int rfl, rfl⟩

set_option maxRecDepth 100000 in
set_option maxHeartbeats 2000000 in
theorem toIntS_c (xs : List Int) (a : Option Addr) (n c : Nat) (w : World) (hx : Re w (.sl .int) [.slice a n c] (.l (xs.map Dat.i))) (hn : n ≤ 1048576) :
    Calls Try.prog 50 #[.slice a n c] w (MadeL w .int n (xs.map Dat.i)) := by
  have HX := hid hx
  clear hx
  have hm := mk_Int n hn
  go_enter Try.func50, Try.ntmps50
  go_wp2
  clear hm
  go_loopw [4] (fun i wr => ∃ (k : Nat) (arr : Array Value) (t : Xt), k ≤ n ∧ i = .int .i64 k ∧ arr.size = n ∧ FillI icells 1 arr xs k ∧ wr = ext (w.alloc (.cells arr 3)) t) (fun i _ => n - (intOf i).toNat)
  case atStart => exact ⟨0, _, ⟨#[], _⟩, Nat.zero_le _, rfl, size_madeCells _ _, fun i x h => absurd h (Nat.not_lt_zero _), (ext_refl _).symm⟩
  case round =>
    obtain ⟨k, arr, t, hk, rfl, hsz, hf, rfl⟩ := hrel
    have HS := hid hsz
    have HF := hid hf
    clear hsz hf
    by_cases hlt : k < n
    · obtain ⟨x, b, o, hxk, rfl, hb, f0⟩ := at_Int HX.out hlt
      have hbd : k < arr.size := by have := HS.out; omega
      have HK := hid (HF.out.step hxk (fun _ => rfl) (by omega))
      have HZ := hid ((putRow_size (icells x) arr k).trans HS.out)
      rw [Nat.mul_one] at HK
      clear hxk
      go_wp2
      go_roundw
      case rel => exact ⟨k + 1, _, _, by omega, by go_num, HZ.out, HK.out, rfl⟩
      case measure => simp [intOf]; omega
    · have HE := hid (show k = n by omega)
      go_wp2
      go_ret
      exact MadeL.mk_flat (k := 1) rfl (fun w x => own_Int_mk w x) HX.out.len HX.out.max (by rw [← HX.out.len]; have := HS.out; omega) (by rw [← HX.out.len, ← HE.out]; exact HF.out)

def imk (q : Int) : Int := q
set_option maxHeartbeats 2000000 in
theorem markIntS_b (xs : List Int) (a : Option Addr) (n c : Nat) (B : List Nat) (q : Int) (w : World) (ho : Own w (.sl .int) [.slice a n c] (.l (xs.map Dat.i)) B) (h0 : 0 ≤ q) (h1 : q ≤ 1000000000) (hn : n ≤ 1048576) :
    Calls Try.prog 60 #[.slice a n c, .int .i64 q] w fun e w' => e = .returned (.int .i64 (q + (n : Int))) ∧ Own w' (.sl .int) [.slice a n c] (.l ((marksOf imk 1 q n).map Dat.i)) B ∧ Chg B w w' := by
  obtain ⟨hl, hm, hf⟩ := own_flat (cells := icells) (dat := Dat.i) (sch := .int) (k := 1) rfl (by decide) (by decide) (fun _ => rfl) (fun _ _ _ _ h => rd_Int h) (fun _ _ h => idat_inj h) ho
  clear ho
  have HL := hid hl
  have HM := hid hm
  clear hl hm
  rcases hf with ⟨rfl, rfl⟩ | ⟨b, arr0, T, rfl, rfl, hb, hsz, _⟩
  · obtain rfl : n = 0 := HL.out
    clear HL
    go_enter Try.func60, Try.ntmps60
    go_wp2
    go_loopw [1, 5] (fun k i wr => k = .int .i64 q ∧ i = .int .i64 0 ∧ Ext w wr) (fun _ _ _ => 0)
    case atStart => exact ⟨rfl, rfl, Ext.refl _⟩
    case round =>
      obtain ⟨rfl, rfl, t, rfl⟩ := hrel
      go_wp2
      go_ret
      exact ⟨ret_int (by simp), own_flat_mk (xs := []) (k := 1) rfl (fun w x => own_Int_mk w x) (Nat.zero_le _) (.inl ⟨rfl, rfl⟩), Chg.of_ext (by ((try simp only [ext_drew]); (try simp only [ext_ext]); repeat (first | exact Ext.refl _ | with_reducible apply Ext.add | with_reducible apply Ext.dr | apply Ext.alloc | apply Ext.ext | apply Ext.drew | refine Ext.trans ?_ (by assumption)))) _⟩
  · have HB0 := hid hb
    have HS0 := hid hsz
    clear hb hsz
    go_enter Try.func60, Try.ntmps60
    go_wp2
    go_loopw [1, 5] (fun k i wr => ∃ (j : Nat) (p : Int) (arr : Array Value), j ≤ n ∧ i = .int .i64 j ∧ k = .int .i64 p ∧ 0 ≤ p ∧ p ≤ 1100000000 ∧ p = q + (1 * j : Nat) ∧ wr.heap[b]? = some (.cells arr T (0, 0)) ∧ n * 1 ≤ arr.size ∧ FillI icells 1 arr (marksOf imk 1 q n) j ∧ Chg [b] w wr) (fun _ i _ => n - (intOf i).toNat)
    case atStart => exact ⟨0, q, arr0, Nat.zero_le _, rfl, rfl, h0, by omega, by simp, HB0.out, by rw [HL.out]; exact HS0.out, fun i x h => absurd h (Nat.not_lt_zero _), Chg.refl _ _⟩
    case round =>
      obtain ⟨j, p, arr, hj, rfl, rfl, p0, p1, hp, hb, hsz, hf, hc⟩ := hrel
      have HP := hid hp
      have HB := hid hb
      have HS := hid hsz
      have HF := hid hf
      have HC := hid hc
      clear hp hsz hf hc
      by_cases hlt : j < n
      · have p2 : p ≤ 1050000000 := by have := HP.out; omega
        obtain ⟨u0, f0⟩ := some_blk hb j (by have := HS.out; omega)
        have g0 := frozen_blk hb j
        clear hb p1
        go_wp2
        go_roundw
        case rel =>
          have hst := HF.out.step (marksOf_get imk 1 q n j hlt) (fun _ => rfl) (by have := HS.out; omega)
          rw [← HP.out, Nat.mul_one] at hst
          have hbl := blk_setRow (icells (imk p)) (o := j) HB.out
          have hch := Chg.setRow (b := b) (by simp) (icells (imk p)) (o := j) HC.out
          exact ⟨j + 1, p + 1, putRow arr j (icells (imk p)), by omega, by go_num, rfl, by omega, by omega, by have := HP.out; omega, hbl, by rw [putRow_size]; exact HS.out, hst, hch⟩
        case measure => simp [intOf]; omega
      · have HE := hid (show j = n by omega)
        clear hb
        go_wp2
        go_ret
        refine ⟨ret_int (by have h1 := HP.out; have h2 := HE.out; omega), ?_, HC.out⟩
        have h2 := own_flat_mk (w := _) (a := some ⟨b, 0, none⟩) (c := c) (xs := marksOf imk 1 q n) (B := [b]) (k := 1) rfl (fun w x => own_Int_mk w x) (by rw [marksOf_length]; exact HM.out) (.inr ⟨b, arr, T, rfl, rfl, HB.out, by rw [marksOf_length]; exact HS.out, by rw [marksOf_length, ← HE.out]; rw [← HE.out] at HF; exact HF.out⟩)
        rw [marksOf_length] at h2
        exact h2

theorem markIntS_c (xs : List Int) (a : Option Addr) (n c lo hi : Nat) (q : Int) (w : World) (ho : OwnR lo hi w (.sl .int) [.slice a n c] (.l (xs.map Dat.i))) (h0 : 0 ≤ q) (h1 : q ≤ 1000000000) (hn : n ≤ 1048576) :
    Calls Try.prog 60 #[.slice a n c, .int .i64 q] w fun e w' => e = .returned (.int .i64 (q + (n : Int))) ∧ OwnR lo hi w' (.sl .int) [.slice a n c] (.l ((marksOf imk 1 q n).map Dat.i)) ∧ ChgR lo hi w w' := by
  obtain ⟨hh, B, hn', hr, ho⟩ := ho
  exact (markIntS_b xs a n c B q w ho h0 h1 hn).mono fun e w' ⟨h1, h2, h3⟩ => ⟨h1, ⟨Nat.le_trans hh h3.size, B, hn', hr, h2⟩, h3.toR hr⟩

set_option maxHeartbeats 2000000 in
theorem heldIntS_c (a : Option Addr) (n c : Nat) (q : Int) (w : World) (hx : Re w (.sl .int) [.slice a n c] (.l ((marksOf imk 1 q n).map Dat.i))) (h0 : 0 ≤ q) (h1 : q ≤ 1000000000) (hn : n ≤ 1048576) :
    Calls Try.prog 68 #[.slice a n c, .int .i64 q] w fun e w' => e = .returned (.int .i64 (q + (n : Int))) ∧ Ext w w' := by
  have HX := hid hx
  clear hx
  go_enter Try.func68, Try.ntmps68
  go_wp2
  go_loopw [1, 5] (fun k i wr => ∃ (j : Nat) (p : Int), j ≤ n ∧ i = .int .i64 j ∧ k = .int .i64 p ∧ 0 ≤ p ∧ p ≤ 1100000000 ∧ p = q + (1 * j : Nat) ∧ Ext w wr) (fun _ i _ => n - (intOf i).toNat)
  case atStart => exact ⟨0, q, Nat.zero_le _, rfl, rfl, h0, by omega, by simp, Ext.refl _⟩
  case round =>
    obtain ⟨j, p, hj, rfl, rfl, p0, p1, hp, t, rfl⟩ := hrel
    have HP := hid hp
    clear hp
    by_cases hlt : j < n
    · have p2 : p ≤ 1050000000 := by have := HP.out; omega
      obtain ⟨x, b, o, hxk, rfl, hb, f0⟩ := at_Int HX.out hlt
      rw [marksOf_get imk 1 q n j hlt, ← HP.out] at hxk
      obtain rfl := Option.some.inj hxk
      clear hxk p1
      simp only [imk] at f0
      go_wp2
      go_roundw
      case rel => exact ⟨j + 1, p + 1, by omega, by go_num, rfl, by omega, by omega, by have := HP.out; omega, (by ((try simp only [ext_drew]); (try simp only [ext_ext]); repeat (first | exact Ext.refl _ | with_reducible apply Ext.add | with_reducible apply Ext.dr | apply Ext.alloc | apply Ext.ext | apply Ext.drew | refine Ext.trans ?_ (by assumption))))⟩
      case measure => simp [intOf]; omega
    · have HE := hid (show j = n by omega)
      go_wp2
      go_ret
      exact ⟨ret_int (by have h1 := HP.out; have h2 := HE.out; omega), (by ((try simp only [ext_drew]); (try simp only [ext_ext]); repeat (first | exact Ext.refl _ | with_reducible apply Ext.add | with_reducible apply Ext.dr | apply Ext.alloc | apply Ext.ext | apply Ext.drew | refine Ext.trans ?_ (by assumption))))⟩
end Go.Proofs.Ytdogknbkcididaa
