/- The laws' helpers at PclParcel, and at slices of it: copies, equality of equals, sizes, marks. -/
import Derived.Test.YtdogknbkcididaaTWlk
namespace Go.Proofs.Ytdogknbkcididaa
open Go.RowKit

theorem toPcl_c (x : Pcl) (w : World) : Calls Try.prog 89 #[.agg #[.int .i64 x.n, .int .i64 x.kind, .int .i64 x.wk.id, .int .i64 x.wk.at_, .int .i64 x.wk.coins, .int .i64 x.wk.seq, .int .i64 x.wk.last, .int .i64 x.coins]] w fun e w' => e = .returned (.agg #[.int .i64 x.n, .int .i64 x.kind, .int .i64 x.wk.id, .int .i64 x.wk.at_, .int .i64 x.wk.coins, .int .i64 x.wk.seq, .int .i64 x.wk.last, .int .i64 x.coins]) ∧ Ext w w' := by
  go_enter Try.func89, Try.ntmps89
  go_wp2_with (first | (go_at_call 73; refine (toWlk_c _ _).mono ?_; rintro e w' ⟨rfl, t, rfl⟩))
  exact bodyPost_ret (v := .agg #[.int .i64 x.n, .int .i64 x.kind, .int .i64 x.wk.id, .int .i64 x.wk.at_, .int .i64 x.wk.coins, .int .i64 x.wk.seq, .int .i64 x.wk.last, .int .i64 x.coins]) (by simp [results, Try.results89, go_sem]) rfl ⟨rfl, (by ((try simp only [ext_drew]); (try simp only [ext_ext]); repeat (first | exact Ext.refl _ | with_reducible apply Ext.add | with_reducible apply Ext.dr | apply Ext.alloc | apply Ext.ext | apply Ext.drew | refine Ext.trans ?_ (by assumption))))⟩

theorem eqPcl_c (x : Pcl) (w : World) : Calls Try.prog 94 #[.agg #[.int .i64 x.n, .int .i64 x.kind, .int .i64 x.wk.id, .int .i64 x.wk.at_, .int .i64 x.wk.coins, .int .i64 x.wk.seq, .int .i64 x.wk.last, .int .i64 x.coins], .agg #[.int .i64 x.n, .int .i64 x.kind, .int .i64 x.wk.id, .int .i64 x.wk.at_, .int .i64 x.wk.coins, .int .i64 x.wk.seq, .int .i64 x.wk.last, .int .i64 x.coins]] w fun e w' => e = .returned (.bool true) ∧ Ext w w' := by
  go_enter Try.func94, Try.ntmps94
  go_wp2_with (first | (go_at_call 54; refine (eqWlk_c _ _).mono ?_; rintro e w' ⟨rfl, t, rfl⟩))
  go_ret
  exact ⟨rfl, (by ((try simp only [ext_drew]); (try simp only [ext_ext]); repeat (first | exact Ext.refl _ | with_reducible apply Ext.add | with_reducible apply Ext.dr | apply Ext.alloc | apply Ext.ext | apply Ext.drew | refine Ext.trans ?_ (by assumption))))⟩

theorem mk_Pcl (n : Nat) (hn : n ≤ 1048576) (w : World) : (Instr.makeSlice 113 (.int .i64 (n : Int)) (.int .i64 (n : Int))).run Try.prog w = .ok (.slice (some ⟨w.heap.size, 0, none⟩) n n) (w.alloc (.cells (madeCells (Value.agg #[.int .i64 0, .int .i64 0, .int .i64 0, .int .i64 0, .int .i64 0, .int .i64 0, .int .i64 0, .int .i64 0]).cells (n * 8)) 118)) :=
  mk_gen (bytes := 64) Try.underlying113 (by kernel_rfl) n hn (by decide) w

theorem sat_Pcl (w : World) (T : TypeId) (t : Xt) (arr : Array Value) (o : Nat) (a0 : Int) (a1 : Int) (a2 : Int) (a3 : Int) (a4 : Int) (a5 : Int) (a6 : Int) (a7 : Int) (h : o + 8 ≤ arr.size) :
    (Instr.storeAt 118 (.pointer (some ⟨w.heap.size, o, none⟩)) (.agg #[.int .i64 a0, .int .i64 a1, .int .i64 a2, .int .i64 a3, .int .i64 a4, .int .i64 a5, .int .i64 a6, .int .i64 a7])).run Try.prog (ext (w.alloc (.cells arr T)) t) =
      .ok () (ext (w.alloc (.cells (putRow arr o [.int .i64 a0, .int .i64 a1, .int .i64 a2, .int .i64 a3, .int .i64 a4, .int .i64 a5, .int .i64 a6, .int .i64 a7]) T)) t) := by
  have h1 := st_row (P := Try.prog) w T t [.int .i64 a0, .int .i64 a1, .int .i64 a2, .int .i64 a3, .int .i64 a4, .int .i64 a5, .int .i64 a6, .int .i64 a7] arr o 0 h (by simp [Value.oneCell'])
  have h2 := sizeOf_run (T := 118) (k := 8) (by kernel_rfl) (ext (w.alloc (.cells arr T)) t)
  rw [Nat.add_zero] at h1
  simp [Instr.storeAt, Instr.sureAddr, storeVar, Sem.run_bind, h2, Value.cells, h1]

theorem wpList_store_Pcl {ops : Array Oper} {rest : List Oper} {o : Oper} {a : Act} {Q : Exit → Act → World → Prop} {w W : World} {T : TypeId} {t : Xt} {arr : Array Value} {off : Nat} {a0 : Int} {a1 : Int} {a2 : Int} {a3 : Int} {a4 : Int} {a5 : Int} {a6 : Int} {a7 : Int} (hgd : o.guard = none) (x y : Operand)
    (ho : o.op = .store 118 x y) (hx : a.eval x = .pointer (some ⟨w.heap.size, off, none⟩)) (hy : a.eval y = .agg #[.int .i64 a0, .int .i64 a1, .int .i64 a2, .int .i64 a3, .int .i64 a4, .int .i64 a5, .int .i64 a6, .int .i64 a7])
    (hW : W = ext (w.alloc (.cells arr T)) t) (hle : off + 8 ≤ arr.size)
    (h : wpList Try.prog ops Q rest (a.put o.dst undef) (ext (w.alloc (.cells (putRow arr off [.int .i64 a0, .int .i64 a1, .int .i64 a2, .int .i64 a3, .int .i64 a4, .int .i64 a5, .int .i64 a6, .int .i64 a7]) T)) t)) : wpList Try.prog ops Q (o :: rest) a W := by
  subst hW
  refine wpList_plain hgd fun K hK => ?_
  unfold Oper.wp execOp
  simp only [ho, hx, hy, Sem.run_bind, sat_Pcl w T t arr off a0 a1 a2 a3 a4 a5 a6 a7 hle, Result.andThen_ok]
  exact hK _ _ h

theorem wpList_app_Pcl {ops : Array Oper} {rest : List Oper} {o : Oper} {a : Act} {Q : Exit → Act → World → Prop} {w0 w : World} (hgd : o.guard = none) (s x : Operand) (ho : o.op = .call { callee := .builtin .append, args := #[s, x], argTypes := #[113, 113] })
    {v : Value} {xs : List Pcl} (hs : a.eval s = v) (hE : Ext w0 w) (hown : w.ownsRow w0.heap.size 118 8 v xs.length (xs.flatMap Pcl.cells)) (y : Pcl) {b c : Nat} {T' : TypeId} (hx : a.eval x = .slice (some ⟨b, 0, none⟩) 1 c) (hy : w.heap[b]? = some (.cells y.cells.toArray T' (0, 0))) (hn : xs.length ≤ 4194304)
    (h : ∀ v' t', (ext w0 t').ownsRow w0.heap.size 118 8 v' (xs ++ [y]).length ((xs ++ [y]).flatMap Pcl.cells) → wpList Try.prog ops Q rest (a.put o.dst v') (ext w0 t')) : wpList Try.prog ops Q (o :: rest) a w :=
  wpList_app (cells := Pcl.cells) (k := 8) (bytes := 64) (z := .agg #[.int .i64 0, .int .i64 0, .int .i64 0, .int .i64 0, .int .i64 0, .int .i64 0, .int .i64 0, .int .i64 0]) Try.underlying113 (by kernel_rfl) rfl (by decide) (by decide) (fun _ => rfl) (fun x u hu => by simp only [Pcl.cells, List.mem_cons, List.not_mem_nil, or_false] at hu; rcases hu with rfl | rfl | rfl | rfl | rfl | rfl | rfl | rfl <;> rfl) hgd s x ho hs hE hown y hx hy hn h

theorem wpList_apps_Pcl {ops : Array Oper} {rest : List Oper} {o : Oper} {a : Act} {Q : Exit → Act → World → Prop} {w0 w : World} (hgd : o.guard = none) (s x : Operand) (ho : o.op = .call { callee := .builtin .append, args := #[s, x], argTypes := #[113, 113] })
    {v : Value} {xs : List Pcl} (hs : a.eval s = v) (hE : Ext w0 w) (hown : w.ownsRow w0.heap.size 118 8 v xs.length (xs.flatMap Pcl.cells)) (ys : List Pcl) {ad : Option Addr} {m c : Nat} (hx : a.eval x = .slice ad m c) (hy : Re w (.sl sPcl) [.slice ad m c] (.l (ys.map Pcl.dat))) (hn : xs.length + m ≤ 4194304)
    (h : ∀ v' t', (ext w0 t').ownsRow w0.heap.size 118 8 v' (xs ++ ys).length ((xs ++ ys).flatMap Pcl.cells) → wpList Try.prog ops Q rest (a.put o.dst v') (ext w0 t')) : wpList Try.prog ops Q (o :: rest) a w :=
  wpList_apps (cells := Pcl.cells) (k := 8) (bytes := 64) (z := .agg #[.int .i64 0, .int .i64 0, .int .i64 0, .int .i64 0, .int .i64 0, .int .i64 0, .int .i64 0, .int .i64 0]) Try.underlying113 (by kernel_rfl) rfl (by decide) (by decide) rfl (fun _ => rfl) (fun _ _ _ _ h => rd_Pcl h) (fun _ _ h => Pcl.dat_inj h) (fun x u hu => by simp only [Pcl.cells, List.mem_cons, List.not_mem_nil, or_false] at hu; rcases hu with rfl | rfl | rfl | rfl | rfl | rfl | rfl | rfl <;> rfl) hgd s x ho hs hE hown ys hx hy hn h

theorem wp_apps_Pcl {o : Oper} {a : Act} {K : Act → World → Prop} {Q : Exit → Act → World → Prop} {w0 w : World} (s x : Operand) (ho : o.op = .call { callee := .builtin .append, args := #[s, x], argTypes := #[113, 113] })
    {v : Value} {xs : List Pcl} (hs : a.eval s = v) (hE : Ext w0 w) (hown : w.ownsRow w0.heap.size 118 8 v xs.length (xs.flatMap Pcl.cells)) (ys : List Pcl) {ad : Option Addr} {m c : Nat} (hx : a.eval x = .slice ad m c) (hy : Re w (.sl sPcl) [.slice ad m c] (.l (ys.map Pcl.dat))) (hn : xs.length + m ≤ 4194304)
    (h : ∀ v' t', (ext w0 t').ownsRow w0.heap.size 118 8 v' (xs ++ ys).length ((xs ++ ys).flatMap Pcl.cells) → K (a.put o.dst v') (ext w0 t')) : o.wp Try.prog a w K Q :=
  wp_apps (cells := Pcl.cells) (k := 8) (bytes := 64) (z := .agg #[.int .i64 0, .int .i64 0, .int .i64 0, .int .i64 0, .int .i64 0, .int .i64 0, .int .i64 0, .int .i64 0]) Try.underlying113 (by kernel_rfl) rfl (by decide) (by decide) rfl (fun _ => rfl) (fun _ _ _ _ h => rd_Pcl h) (fun _ _ h => Pcl.dat_inj h) (fun x u hu => by simp only [Pcl.cells, List.mem_cons, List.not_mem_nil, or_false] at hu; rcases hu with rfl | rfl | rfl | rfl | rfl | rfl | rfl | rfl <;> rfl) s x ho hs hE hown ys hx hy hn h

theorem wp_clone_Pcl {o : Oper} {a : Act} {K : Act → World → Prop} {Q : Exit → Act → World → Prop} {w : World} (s x : Operand) (ho : o.op = .call { callee := .builtin .append, args := #[s, x], argTypes := #[113, 113] })
    (hs : a.eval s = .slice none 0 0) (ys : List Pcl) {ad : Option Addr} {m c : Nat} (hx : a.eval x = .slice ad m c) (hy : Re w (.sl sPcl) [.slice ad m c] (.l (ys.map Pcl.dat))) (hn : m ≤ 1048576)
    (h : ∀ a' c' t', OwnR w.heap.size (ext w t').heap.size (ext w t') (.sl sPcl) [.slice a' m c'] (.l (ys.map Pcl.dat)) → K (a.put o.dst (.slice a' m c')) (ext w t')) : o.wp Try.prog a w K Q :=
  wp_clone (cells := Pcl.cells) (k := 8) (bytes := 64) (z := .agg #[.int .i64 0, .int .i64 0, .int .i64 0, .int .i64 0, .int .i64 0, .int .i64 0, .int .i64 0, .int .i64 0]) Try.underlying113 (by kernel_rfl) rfl (by decide) (by decide) rfl (fun _ => rfl) (fun _ _ _ _ h => rd_Pcl h) (fun _ _ h => Pcl.dat_inj h) (fun x u hu => by simp only [Pcl.cells, List.mem_cons, List.not_mem_nil, or_false] at hu; rcases hu with rfl | rfl | rfl | rfl | rfl | rfl | rfl | rfl <;> rfl) (fun w x => own_Pcl_mk w x) s x ho hs ys hx hy hn h

theorem wp_clone0_Pcl {o : Oper} {a : Act} {K : Act → World → Prop} {Q : Exit → Act → World → Prop} {w : World} (s x : Operand) (ho : o.op = .call { callee := .builtin .append, args := #[s, x], argTypes := #[113, 113] })
    (hs : a.eval s = .slice (some ⟨w.heap.size, 0, none⟩) 0 0) (ys : List Pcl) {ad : Option Addr} {m c : Nat} (hx : a.eval x = .slice ad m c) (hy : Re w (.sl sPcl) [.slice ad m c] (.l (ys.map Pcl.dat))) (hn : m ≤ 1048576)
    (h : ∀ a' c' t', OwnR w.heap.size (ext w t').heap.size (ext w t') (.sl sPcl) [.slice a' m c'] (.l (ys.map Pcl.dat)) → K (a.put o.dst (.slice a' m c')) (ext w t')) : o.wp Try.prog a (w.alloc (.cells #[] 118)) K Q :=
  wp_clone0 (cells := Pcl.cells) (k := 8) (bytes := 64) (z := .agg #[.int .i64 0, .int .i64 0, .int .i64 0, .int .i64 0, .int .i64 0, .int .i64 0, .int .i64 0, .int .i64 0]) Try.underlying113 (by kernel_rfl) rfl (by decide) (by decide) rfl (fun _ => rfl) (fun _ _ _ _ h => rd_Pcl h) (fun _ _ h => Pcl.dat_inj h) (fun x u hu => by simp only [Pcl.cells, List.mem_cons, List.not_mem_nil, or_false] at hu; rcases hu with rfl | rfl | rfl | rfl | rfl | rfl | rfl | rfl <;> rfl) (fun w x => own_Pcl_mk w x) s x ho hs ys hx hy hn h

theorem wpList_clone_Pcl {ops : Array Oper} {rest : List Oper} {o : Oper} {a : Act} {Q : Exit → Act → World → Prop} {w : World} (hgd : o.guard = none) (s x : Operand) (ho : o.op = .call { callee := .builtin .append, args := #[s, x], argTypes := #[113, 113] })
    (hs : a.eval s = .slice none 0 0) (ys : List Pcl) {ad : Option Addr} {m c : Nat} (hx : a.eval x = .slice ad m c) (hy : Re w (.sl sPcl) [.slice ad m c] (.l (ys.map Pcl.dat))) (hn : m ≤ 1048576)
    (h : ∀ a' c' t', OwnR w.heap.size (ext w t').heap.size (ext w t') (.sl sPcl) [.slice a' m c'] (.l (ys.map Pcl.dat)) → wpList Try.prog ops Q rest (a.put o.dst (.slice a' m c')) (ext w t')) : wpList Try.prog ops Q (o :: rest) a w :=
  wpList_clone (cells := Pcl.cells) (k := 8) (bytes := 64) (z := .agg #[.int .i64 0, .int .i64 0, .int .i64 0, .int .i64 0, .int .i64 0, .int .i64 0, .int .i64 0, .int .i64 0]) Try.underlying113 (by kernel_rfl) rfl (by decide) (by decide) rfl (fun _ => rfl) (fun _ _ _ _ h => rd_Pcl h) (fun _ _ h => Pcl.dat_inj h) (fun x u hu => by simp only [Pcl.cells, List.mem_cons, List.not_mem_nil, or_false] at hu; rcases hu with rfl | rfl | rfl | rfl | rfl | rfl | rfl | rfl <;> rfl) (fun w x => own_Pcl_mk w x) hgd s x ho hs ys hx hy hn h

theorem wpList_clone0_Pcl {ops : Array Oper} {rest : List Oper} {o : Oper} {a : Act} {Q : Exit → Act → World → Prop} {w : World} (hgd : o.guard = none) (s x : Operand) (ho : o.op = .call { callee := .builtin .append, args := #[s, x], argTypes := #[113, 113] })
    (hs : a.eval s = .slice (some ⟨w.heap.size, 0, none⟩) 0 0) (ys : List Pcl) {ad : Option Addr} {m c : Nat} (hx : a.eval x = .slice ad m c) (hy : Re w (.sl sPcl) [.slice ad m c] (.l (ys.map Pcl.dat))) (hn : m ≤ 1048576)
    (h : ∀ a' c' t', OwnR w.heap.size (ext w t').heap.size (ext w t') (.sl sPcl) [.slice a' m c'] (.l (ys.map Pcl.dat)) → wpList Try.prog ops Q rest (a.put o.dst (.slice a' m c')) (ext w t')) : wpList Try.prog ops Q (o :: rest) a (w.alloc (.cells #[] 118)) :=
  wpList_clone0 (cells := Pcl.cells) (k := 8) (bytes := 64) (z := .agg #[.int .i64 0, .int .i64 0, .int .i64 0, .int .i64 0, .int .i64 0, .int .i64 0, .int .i64 0, .int .i64 0]) Try.underlying113 (by kernel_rfl) rfl (by decide) (by decide) rfl (fun _ => rfl) (fun _ _ _ _ h => rd_Pcl h) (fun _ _ h => Pcl.dat_inj h) (fun x u hu => by simp only [Pcl.cells, List.mem_cons, List.not_mem_nil, or_false] at hu; rcases hu with rfl | rfl | rfl | rfl | rfl | rfl | rfl | rfl <;> rfl) (fun w x => own_Pcl_mk w x) hgd s x ho hs ys hx hy hn h

theorem eqPclS_c (xs : List Pcl) (a1 a2 : Option Addr) (n c1 c2 : Nat) (w : World) (h1 : Re w (.sl sPcl) [.slice a1 n c1] (.l (xs.map Pcl.dat))) (h2 : Re w (.sl sPcl) [.slice a2 n c2] (.l (xs.map Pcl.dat))) (hn : n ≤ 1048576) :
    Calls Try.prog 81 #[.slice a1 n c1, .slice a2 n c2] w fun e w' => e = .returned (.bool true) ∧ Ext w w' := by
  have H1 := hid h1
  have H2 := hid h2
  clear h1 h2
  go_enter Try.func81, Try.ntmps81
  go_wp2
  go_loopw [5] (fun i wr => ∃ k : Nat, k ≤ n ∧ i = .int .i64 k ∧ Ext w wr) (fun i _ => n - (intOf i).toNat)
  case atStart => exact ⟨0, Nat.zero_le _, rfl, Ext.refl _⟩
  case round =>
    obtain ⟨k, hk, rfl, t, rfl⟩ := hrel
    by_cases hlt : k < n
    · obtain ⟨x, b1, o1, hx, rfl, hb1, f0, f1, f2, f3, f4, f5, f6, f7⟩ := at_Pcl H1.out hlt
      obtain ⟨y, b2, o2, hy, rfl, hb2, g0, g1, g2, g3, g4, g5, g6, g7⟩ := at_Pcl H2.out hlt
      have e : x = y := Option.some.inj (hx.symm.trans hy)
      subst e
      clear hx hy
      go_wp2
      with_reducible refine wp_region_ext (by kernel_rfl) (by kernel_rfl) ?_
      repeat (go_big_quiet_step ((first | (go_at_call 94; first | exact quiet_call (eqPcl_c _ _) | exact quiet_call2 (eqPcl_c _ _)))))
      refine wpQuiet_nil ?_
      rintro _ ⟨tq, rfl⟩
      go_wp2
      go_roundw
      case rel => exact ⟨k + 1, by omega, by go_num, (by ((try simp only [ext_drew]); (try simp only [ext_ext]); repeat (first | exact Ext.refl _ | with_reducible apply Ext.add | with_reducible apply Ext.dr | apply Ext.alloc | apply Ext.ext | apply Ext.drew | refine Ext.trans ?_ (by assumption))))⟩
      case measure => simp [intOf]; omega
    · go_wp2
      go_ret
      exact ⟨rfl, (by ((try simp only [ext_drew]); (try simp only [ext_ext]); repeat (first | exact Ext.refl _ | with_reducible apply Ext.add | with_reducible apply Ext.dr | apply Ext.alloc | apply Ext.ext | apply Ext.drew | refine Ext.trans ?_ (by assumption))))⟩

theorem szPclS_c (a : Option Addr) (n c : Nat) (left : Int) (w : World) (h0 : 0 ≤ left) (h1 : left ≤ 1048576) (hn : n ≤ 9223372036854775807) :
    Calls Try.prog 69 #[.slice a n c, .int .i64 left] w fun e w' => e = .returned (.int .i64 (if left < (n : Int) then -1 else left - n)) ∧ w = w' := by
  by_cases h : left < (n : Int)
  · go_enter Try.func69, Try.ntmps69
    go_wp2
    go_ret
    exact ⟨ret_int rfl, rfl⟩
  · go_enter Try.func69, Try.ntmps69
    go_wp2
    go_ret
    exact ⟨ret_int rfl, rfl⟩

set_option maxRecDepth 100000 in
set_option maxHeartbeats 2000000 in
theorem toPclS_c (xs : List Pcl) (a : Option Addr) (n c : Nat) (w : World) (hx : Re w (.sl sPcl) [.slice a n c] (.l (xs.map Pcl.dat))) (hn : n ≤ 1048576) :
    Calls Try.prog 74 #[.slice a n c] w (MadeL w sPcl n (xs.map Pcl.dat)) := by
  have HX := hid hx
  clear hx
  have hm := mk_Pcl n hn
  go_enter Try.func74, Try.ntmps74
  go_wp2
  clear hm
  go_loopw [4] (fun i wr => ∃ (k : Nat) (arr : Array Value) (t : Xt), k ≤ n ∧ i = .int .i64 k ∧ arr.size = n * 8 ∧ FillI Pcl.cells 8 arr xs k ∧ wr = ext (w.alloc (.cells arr 118)) t) (fun i _ => n - (intOf i).toNat)
  case atStart => exact ⟨0, _, ⟨#[], _⟩, Nat.zero_le _, rfl, size_madeCells _ _, fun i x h => absurd h (Nat.not_lt_zero _), (ext_refl _).symm⟩
  case round =>
    obtain ⟨k, arr, t, hk, rfl, hsz, hf, rfl⟩ := hrel
    have HS := hid hsz
    have HF := hid hf
    clear hsz hf
    by_cases hlt : k < n
    · obtain ⟨x, b, o, hxk, rfl, hb, f0, f1, f2, f3, f4, f5, f6, f7⟩ := at_Pcl HX.out hlt
      have hbd : k * 8 + 8 ≤ arr.size := by have := HS.out; have : (k + 1) * 8 ≤ n * 8 := Nat.mul_le_mul_right _ hlt; omega
      have HK := hid (HF.out.step hxk (fun _ => rfl) hbd)
      have HZ := hid ((putRow_size x.cells arr (k * 8)).trans HS.out)
      clear hxk
      go_wp2_with (first | (go_at_call 89; refine (toPcl_c _ _).mono ?_; rintro e w' ⟨rfl, t, rfl⟩) | (refine wpList_store_Pcl rfl _ _ rfl rfl rfl (by with_reducible rfl) hbd ?_) | (refine wpList_store_Pcl rfl _ _ rfl rfl rfl (by with_reducible exact ext_ext _ _ _) hbd ?_))
      go_roundw
      case rel => exact ⟨k + 1, _, _, by omega, by go_num, HZ.out, HK.out, rfl⟩
      case measure => simp [intOf]; omega
    · have HE := hid (show k = n by omega)
      go_wp2
      go_ret
      exact MadeL.mk_flat (k := 8) rfl (fun w x => own_Pcl_mk w x) HX.out.len HX.out.max (by rw [← HX.out.len]; have := HS.out; omega) (by rw [← HX.out.len, ← HE.out]; exact HF.out)

def Pcl.mk' (q : Int) : Pcl := ⟨q, q + 1, ⟨q + 1 + 1, q + 1 + 1 + 1, q + 1 + 1 + 1 + 1, q + 1 + 1 + 1 + 1 + 1, q + 1 + 1 + 1 + 1 + 1 + 1⟩, q + 1 + 1 + 1 + 1 + 1 + 1 + 1⟩
set_option maxRecDepth 100000 in
set_option maxHeartbeats 2000000 in
theorem markPclS_b (xs : List Pcl) (a : Option Addr) (n c : Nat) (B : List Nat) (q : Int) (w : World) (ho : Own w (.sl sPcl) [.slice a n c] (.l (xs.map Pcl.dat)) B) (h0 : 0 ≤ q) (h1 : q ≤ 1000000000) (hn : n ≤ 1048576) :
    Calls Try.prog 82 #[.slice a n c, .int .i64 q] w fun e w' => e = .returned (.int .i64 (q + 8 * (n : Int))) ∧ Own w' (.sl sPcl) [.slice a n c] (.l ((marksOf Pcl.mk' 8 q n).map Pcl.dat)) B ∧ Chg B w w' := by
  obtain ⟨hl, hm, hf⟩ := own_flat (cells := Pcl.cells) (dat := Pcl.dat) (sch := sPcl) (k := 8) rfl (by decide) (by decide) (fun _ => rfl) (fun _ _ _ _ h => rd_Pcl h) (fun _ _ h => Pcl.dat_inj h) ho
  clear ho
  have HL := hid hl
  have HM := hid hm
  clear hl hm
  rcases hf with ⟨rfl, rfl⟩ | ⟨b, arr0, T, rfl, rfl, hb, hsz, _⟩
  · obtain rfl : n = 0 := HL.out
    clear HL
    go_enter Try.func82, Try.ntmps82
    go_wp2
    go_loopw [1, 5] (fun k i wr => k = .int .i64 q ∧ i = .int .i64 0 ∧ Ext w wr) (fun _ _ _ => 0)
    case atStart => exact ⟨rfl, rfl, Ext.refl _⟩
    case round =>
      obtain ⟨rfl, rfl, t, rfl⟩ := hrel
      go_wp2
      go_ret
      exact ⟨ret_int (by simp), own_flat_mk (xs := []) (k := 8) rfl (fun w x => own_Pcl_mk w x) (Nat.zero_le _) (.inl ⟨rfl, rfl⟩), Chg.of_ext (by ((try simp only [ext_drew]); (try simp only [ext_ext]); repeat (first | exact Ext.refl _ | with_reducible apply Ext.add | with_reducible apply Ext.dr | apply Ext.alloc | apply Ext.ext | apply Ext.drew | refine Ext.trans ?_ (by assumption)))) _⟩
  · have HB0 := hid hb
    have HS0 := hid hsz
    clear hb hsz
    go_enter Try.func82, Try.ntmps82
    go_wp2
    go_loopw [1, 5] (fun k i wr => ∃ (j : Nat) (p : Int) (arr : Array Value), j ≤ n ∧ i = .int .i64 j ∧ k = .int .i64 p ∧ 0 ≤ p ∧ p ≤ 1100000000 ∧ p = q + (8 * j : Nat) ∧ wr.heap[b]? = some (.cells arr T (0, 0)) ∧ n * 8 ≤ arr.size ∧ FillI Pcl.cells 8 arr (marksOf Pcl.mk' 8 q n) j ∧ Chg [b] w wr) (fun _ i _ => n - (intOf i).toNat)
    case atStart => exact ⟨0, q, arr0, Nat.zero_le _, rfl, rfl, h0, by omega, by simp, HB0.out, by rw [HL.out]; exact HS0.out, fun i x h => absurd h (Nat.not_lt_zero _), Chg.refl _ _⟩
    case round =>
      obtain ⟨j, p, arr, hj, rfl, rfl, p0, p1, hp, hb, hsz, hf, hc⟩ := hrel
      have HP := hid hp
      have HB := hid hb
      have HS := hid hsz
      have HF := hid hf
      have HC := hid hc
      clear hp hsz hf hc
      by_cases hlt : j < n
      · have p2 : p ≤ 1050000000 := by have := HP.out; omega
        obtain ⟨u0, f0⟩ := some_blk hb (j * 8) (by have := HS.out; have : (j + 1) * 8 ≤ n * 8 := Nat.mul_le_mul_right _ hlt; omega)
        have g0 := frozen_blk hb (j * 8)
        obtain ⟨u1, f1⟩ := some_blk hb (j * 8 + 1) (by have := HS.out; have : (j + 1) * 8 ≤ n * 8 := Nat.mul_le_mul_right _ hlt; omega)
        have g1 := frozen_blk hb (j * 8 + 1)
        obtain ⟨u2, f2⟩ := some_blk hb (j * 8 + 2) (by have := HS.out; have : (j + 1) * 8 ≤ n * 8 := Nat.mul_le_mul_right _ hlt; omega)
        have g2 := frozen_blk hb (j * 8 + 2)
        obtain ⟨u3, f3⟩ := some_blk hb (j * 8 + 3) (by have := HS.out; have : (j + 1) * 8 ≤ n * 8 := Nat.mul_le_mul_right _ hlt; omega)
        have g3 := frozen_blk hb (j * 8 + 3)
        obtain ⟨u4, f4⟩ := some_blk hb (j * 8 + 4) (by have := HS.out; have : (j + 1) * 8 ≤ n * 8 := Nat.mul_le_mul_right _ hlt; omega)
        have g4 := frozen_blk hb (j * 8 + 4)
        obtain ⟨u5, f5⟩ := some_blk hb (j * 8 + 5) (by have := HS.out; have : (j + 1) * 8 ≤ n * 8 := Nat.mul_le_mul_right _ hlt; omega)
        have g5 := frozen_blk hb (j * 8 + 5)
        obtain ⟨u6, f6⟩ := some_blk hb (j * 8 + 6) (by have := HS.out; have : (j + 1) * 8 ≤ n * 8 := Nat.mul_le_mul_right _ hlt; omega)
        have g6 := frozen_blk hb (j * 8 + 6)
        obtain ⟨u7, f7⟩ := some_blk hb (j * 8 + 7) (by have := HS.out; have : (j + 1) * 8 ≤ n * 8 := Nat.mul_le_mul_right _ hlt; omega)
        have g7 := frozen_blk hb (j * 8 + 7)
        clear hb p1
        go_wp2
        go_roundw
        case rel =>
          have hbd : j * 8 + 8 ≤ arr.size := by have := HS.out; have : (j + 1) * 8 ≤ n * 8 := Nat.mul_le_mul_right _ hlt; omega
          have hst := HF.out.step (marksOf_get Pcl.mk' 8 q n j hlt) (fun _ => rfl) hbd
          rw [← HP.out] at hst
          have hbl := blk_setRow (Pcl.mk' p).cells (o := j * 8) HB.out
          have hch := Chg.setRow (b := b) (by simp) (Pcl.mk' p).cells (o := j * 8) HC.out
          exact ⟨j + 1, p + 1 + 1 + 1 + 1 + 1 + 1 + 1 + 1, putRow arr (j * 8) (Pcl.mk' p).cells, by omega, by go_num, rfl, by omega, by omega, by have := HP.out; omega, hbl, by rw [putRow_size]; exact HS.out, hst, hch⟩
        case measure => simp [intOf]; omega
      · have HE := hid (show j = n by omega)
        clear hb
        go_wp2
        go_ret
        refine ⟨ret_int (by have h1 := HP.out; have h2 := HE.out; omega), ?_, HC.out⟩
        have h2 := own_flat_mk (w := _) (a := some ⟨b, 0, none⟩) (c := c) (xs := marksOf Pcl.mk' 8 q n) (B := [b]) (k := 8) rfl (fun w x => own_Pcl_mk w x) (by rw [marksOf_length]; exact HM.out) (.inr ⟨b, arr, T, rfl, rfl, HB.out, by rw [marksOf_length]; exact HS.out, by rw [marksOf_length, ← HE.out]; rw [← HE.out] at HF; exact HF.out⟩)
        rw [marksOf_length] at h2
        exact h2

theorem markPclS_c (xs : List Pcl) (a : Option Addr) (n c lo hi : Nat) (q : Int) (w : World) (ho : OwnR lo hi w (.sl sPcl) [.slice a n c] (.l (xs.map Pcl.dat))) (h0 : 0 ≤ q) (h1 : q ≤ 1000000000) (hn : n ≤ 1048576) :
    Calls Try.prog 82 #[.slice a n c, .int .i64 q] w fun e w' => e = .returned (.int .i64 (q + 8 * (n : Int))) ∧ OwnR lo hi w' (.sl sPcl) [.slice a n c] (.l ((marksOf Pcl.mk' 8 q n).map Pcl.dat)) ∧ ChgR lo hi w w' := by
  obtain ⟨hh, B, hn', hr, ho⟩ := ho
  exact (markPclS_b xs a n c B q w ho h0 h1 hn).mono fun e w' ⟨h1, h2, h3⟩ => ⟨h1, ⟨Nat.le_trans hh h3.size, B, hn', hr, h2⟩, h3.toR hr⟩

set_option maxRecDepth 100000 in
set_option maxHeartbeats 2000000 in
theorem heldPclS_c (a : Option Addr) (n c : Nat) (q : Int) (w : World) (hx : Re w (.sl sPcl) [.slice a n c] (.l ((marksOf Pcl.mk' 8 q n).map Pcl.dat))) (h0 : 0 ≤ q) (h1 : q ≤ 1000000000) (hn : n ≤ 1048576) :
    Calls Try.prog 86 #[.slice a n c, .int .i64 q] w fun e w' => e = .returned (.int .i64 (q + 8 * (n : Int))) ∧ Ext w w' := by
  have HX := hid hx
  clear hx
  go_enter Try.func86, Try.ntmps86
  go_wp2
  go_loopw [1, 5] (fun k i wr => ∃ (j : Nat) (p : Int), j ≤ n ∧ i = .int .i64 j ∧ k = .int .i64 p ∧ 0 ≤ p ∧ p ≤ 1100000000 ∧ p = q + (8 * j : Nat) ∧ Ext w wr) (fun _ i _ => n - (intOf i).toNat)
  case atStart => exact ⟨0, q, Nat.zero_le _, rfl, rfl, h0, by omega, by simp, Ext.refl _⟩
  case round =>
    obtain ⟨j, p, hj, rfl, rfl, p0, p1, hp, t, rfl⟩ := hrel
    have HP := hid hp
    clear hp
    by_cases hlt : j < n
    · have p2 : p ≤ 1050000000 := by have := HP.out; omega
      obtain ⟨x, b, o, hxk, rfl, hb, f0, f1, f2, f3, f4, f5, f6, f7⟩ := at_Pcl HX.out hlt
      rw [marksOf_get Pcl.mk' 8 q n j hlt, ← HP.out] at hxk
      obtain rfl := Option.some.inj hxk
      clear hxk p1
      simp only [Pcl.mk'] at f0 f1 f2 f3 f4 f5 f6 f7
      go_wp2
      go_roundw
      case rel => exact ⟨j + 1, p + 1 + 1 + 1 + 1 + 1 + 1 + 1 + 1, by omega, by go_num, rfl, by omega, by omega, by have := HP.out; omega, (by ((try simp only [ext_drew]); (try simp only [ext_ext]); repeat (first | exact Ext.refl _ | with_reducible apply Ext.add | with_reducible apply Ext.dr | apply Ext.alloc | apply Ext.ext | apply Ext.drew | refine Ext.trans ?_ (by assumption))))⟩
      case measure => simp [intOf]; omega
    · have HE := hid (show j = n by omega)
      go_wp2
      go_ret
      exact ⟨ret_int (by have h1 := HP.out; have h2 := HE.out; omega), (by ((try simp only [ext_drew]); (try simp only [ext_ext]); repeat (first | exact Ext.refl _ | with_reducible apply Ext.add | with_reducible apply Ext.dr | apply Ext.alloc | apply Ext.ext | apply Ext.drew | refine Ext.trans ?_ (by assumption))))⟩

end Go.Proofs.Ytdogknbkcididaa
