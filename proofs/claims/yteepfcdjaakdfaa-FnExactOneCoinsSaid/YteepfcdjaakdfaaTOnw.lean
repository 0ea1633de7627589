/- The laws' helpers at OneWalker, and at slices of it: copies, equality of equals, sizes, marks. -/
import Derived.Test.YteepfcdjaakdfaaTWlk
namespace Go.Proofs.Yteepfcdjaakdfaa
open Go.RowKit

theorem toOnw_c (x : Onw) (w : World) : Calls Try.prog 144 #[.agg #[.int .i64 x.wk.id, .int .i64 x.wk.at_, .int .i64 x.wk.coins, .int .i64 x.wk.seq, .int .i64 x.wk.last, .bool x.here]] w fun e w' => e = .returned (.agg #[.int .i64 x.wk.id, .int .i64 x.wk.at_, .int .i64 x.wk.coins, .int .i64 x.wk.seq, .int .i64 x.wk.last, .bool x.here]) ∧ Ext w w' := by
  go_enter Try.func144, Try.ntmps144
  go_wp2_with (first | (go_at_call 110; refine (toWlk_c _ _).mono ?_; rintro e w' ⟨rfl, t, rfl⟩))
  exact bodyPost_ret (v := .agg #[.int .i64 x.wk.id, .int .i64 x.wk.at_, .int .i64 x.wk.coins, .int .i64 x.wk.seq, .int .i64 x.wk.last, .bool x.here]) (by simp [results, Try.results144, go_sem]) rfl ⟨rfl, (by ((try simp only [ext_drew]); (try simp only [ext_ext]); repeat (first | exact Ext.refl _ | with_reducible apply Ext.add | with_reducible apply Ext.dr | apply Ext.alloc | apply Ext.ext | apply Ext.drew | refine Ext.trans ?_ (by assumption))))⟩

theorem eqOnw_c (x : Onw) (w : World) : Calls Try.prog 145 #[.agg #[.int .i64 x.wk.id, .int .i64 x.wk.at_, .int .i64 x.wk.coins, .int .i64 x.wk.seq, .int .i64 x.wk.last, .bool x.here], .agg #[.int .i64 x.wk.id, .int .i64 x.wk.at_, .int .i64 x.wk.coins, .int .i64 x.wk.seq, .int .i64 x.wk.last, .bool x.here]] w fun e w' => e = .returned (.bool true) ∧ Ext w w' := by
  go_enter Try.func145, Try.ntmps145
  go_wp2_with (first | (go_at_call 111; refine (eqWlk_c _ _).mono ?_; rintro e w' ⟨rfl, t, rfl⟩))
  go_ret
  exact ⟨rfl, (by ((try simp only [ext_drew]); (try simp only [ext_ext]); repeat (first | exact Ext.refl _ | with_reducible apply Ext.add | with_reducible apply Ext.dr | apply Ext.alloc | apply Ext.ext | apply Ext.drew | refine Ext.trans ?_ (by assumption))))⟩

theorem mk_Onw (n : Nat) (hn : n ≤ 1048576) (w : World) : (Instr.makeSlice 78 (.int .i64 (n : Int)) (.int .i64 (n : Int))).run Try.prog w = .ok (.slice (some ⟨w.heap.size, 0, none⟩) n n) (w.alloc (.cells (madeCells (Value.agg #[.int .i64 0, .int .i64 0, .int .i64 0, .int .i64 0, .int .i64 0, .bool false]).cells (n * 6)) 139)) :=
  mk_gen (bytes := 48) Try.underlying78 (by kernel_rfl) n hn (by decide) w

theorem sat_Onw (w : World) (T : TypeId) (t : Xt) (arr : Array Value) (o : Nat) (a0 : Int) (a1 : Int) (a2 : Int) (a3 : Int) (a4 : Int) (a5 : Bool) (h : o + 6 ≤ arr.size) :
    (Instr.storeAt 139 (.pointer (some ⟨w.heap.size, o, none⟩)) (.agg #[.int .i64 a0, .int .i64 a1, .int .i64 a2, .int .i64 a3, .int .i64 a4, .bool a5])).run Try.prog (ext (w.alloc (.cells arr T)) t) =
      .ok () (ext (w.alloc (.cells (putRow arr o [.int .i64 a0, .int .i64 a1, .int .i64 a2, .int .i64 a3, .int .i64 a4, .bool a5]) T)) t) := by
  have h1 := st_row (P := Try.prog) w T t [.int .i64 a0, .int .i64 a1, .int .i64 a2, .int .i64 a3, .int .i64 a4, .bool a5] arr o 0 h (by simp [Value.oneCell'])
  have h2 := sizeOf_run (T := 139) (k := 6) (by kernel_rfl) (ext (w.alloc (.cells arr T)) t)
  rw [Nat.add_zero] at h1
  simp [Instr.storeAt, Instr.sureAddr, storeVar, Sem.run_bind, h2, Value.cells, h1]

theorem wpList_store_Onw {ops : Array Oper} {rest : List Oper} {o : Oper} {a : Act} {Q : Exit → Act → World → Prop} {w W : World} {T : TypeId} {t : Xt} {arr : Array Value} {off : Nat} {a0 : Int} {a1 : Int} {a2 : Int} {a3 : Int} {a4 : Int} {a5 : Bool} (hgd : o.guard = none) (x y : Operand)
    (ho : o.op = .store 139 x y) (hx : a.eval x = .pointer (some ⟨w.heap.size, off, none⟩)) (hy : a.eval y = .agg #[.int .i64 a0, .int .i64 a1, .int .i64 a2, .int .i64 a3, .int .i64 a4, .bool a5])
    (hW : W = ext (w.alloc (.cells arr T)) t) (hle : off + 6 ≤ arr.size)
    (h : wpList Try.prog ops Q rest (a.put o.dst undef) (ext (w.alloc (.cells (putRow arr off [.int .i64 a0, .int .i64 a1, .int .i64 a2, .int .i64 a3, .int .i64 a4, .bool a5]) T)) t)) : wpList Try.prog ops Q (o :: rest) a W := by
  subst hW
  refine wpList_plain hgd fun K hK => ?_
  unfold Oper.wp execOp
  simp only [ho, hx, hy, Sem.run_bind, sat_Onw w T t arr off a0 a1 a2 a3 a4 a5 hle, Result.andThen_ok]
  exact hK _ _ h

theorem wpList_app_Onw {ops : Array Oper} {rest : List Oper} {o : Oper} {a : Act} {Q : Exit → Act → World → Prop} {w0 w : World} (hgd : o.guard = none) (s x : Operand) (ho : o.op = .call { callee := .builtin .append, args := #[s, x], argTypes := #[78, 78] })
    {v : Value} {xs : List Onw} (hs : a.eval s = v) (hE : Ext w0 w) (hown : w.ownsRow w0.heap.size 139 6 v xs.length (xs.flatMap Onw.cells)) (y : Onw) {b c : Nat} {T' : TypeId} (hx : a.eval x = .slice (some ⟨b, 0, none⟩) 1 c) (hy : w.heap[b]? = some (.cells y.cells.toArray T' (0, 0))) (hn : xs.length ≤ 4194304)
    (h : ∀ v' t', (ext w0 t').ownsRow w0.heap.size 139 6 v' (xs ++ [y]).length ((xs ++ [y]).flatMap Onw.cells) → wpList Try.prog ops Q rest (a.put o.dst v') (ext w0 t')) : wpList Try.prog ops Q (o :: rest) a w :=
  wpList_app (cells := Onw.cells) (k := 6) (bytes := 48) (z := .agg #[.int .i64 0, .int .i64 0, .int .i64 0, .int .i64 0, .int .i64 0, .bool false]) Try.underlying78 (by kernel_rfl) rfl (by decide) (by decide) (fun _ => rfl) (fun x u hu => by simp only [Onw.cells, List.mem_cons, List.not_mem_nil, or_false] at hu; rcases hu with rfl | rfl | rfl | rfl | rfl | rfl <;> rfl) hgd s x ho hs hE hown y hx hy hn h

theorem wpList_apps_Onw {ops : Array Oper} {rest : List Oper} {o : Oper} {a : Act} {Q : Exit → Act → World → Prop} {w0 w : World} (hgd : o.guard = none) (s x : Operand) (ho : o.op = .call { callee := .builtin .append, args := #[s, x], argTypes := #[78, 78] })
    {v : Value} {xs : List Onw} (hs : a.eval s = v) (hE : Ext w0 w) (hown : w.ownsRow w0.heap.size 139 6 v xs.length (xs.flatMap Onw.cells)) (ys : List Onw) {ad : Option Addr} {m c : Nat} (hx : a.eval x = .slice ad m c) (hy : Re w (.sl sOnw) [.slice ad m c] (.l (ys.map Onw.dat))) (hn : xs.length + m ≤ 4194304)
    (h : ∀ v' t', (ext w0 t').ownsRow w0.heap.size 139 6 v' (xs ++ ys).length ((xs ++ ys).flatMap Onw.cells) → wpList Try.prog ops Q rest (a.put o.dst v') (ext w0 t')) : wpList Try.prog ops Q (o :: rest) a w :=
  wpList_apps (cells := Onw.cells) (k := 6) (bytes := 48) (z := .agg #[.int .i64 0, .int .i64 0, .int .i64 0, .int .i64 0, .int .i64 0, .bool false]) Try.underlying78 (by kernel_rfl) rfl (by decide) (by decide) rfl (fun _ => rfl) (fun _ _ _ _ h => rd_Onw h) (fun _ _ h => Onw.dat_inj h) (fun x u hu => by simp only [Onw.cells, List.mem_cons, List.not_mem_nil, or_false] at hu; rcases hu with rfl | rfl | rfl | rfl | rfl | rfl <;> rfl) hgd s x ho hs hE hown ys hx hy hn h

theorem wp_apps_Onw {o : Oper} {a : Act} {K : Act → World → Prop} {Q : Exit → Act → World → Prop} {w0 w : World} (s x : Operand) (ho : o.op = .call { callee := .builtin .append, args := #[s, x], argTypes := #[78, 78] })
    {v : Value} {xs : List Onw} (hs : a.eval s = v) (hE : Ext w0 w) (hown : w.ownsRow w0.heap.size 139 6 v xs.length (xs.flatMap Onw.cells)) (ys : List Onw) {ad : Option Addr} {m c : Nat} (hx : a.eval x = .slice ad m c) (hy : Re w (.sl sOnw) [.slice ad m c] (.l (ys.map Onw.dat))) (hn : xs.length + m ≤ 4194304)
    (h : ∀ v' t', (ext w0 t').ownsRow w0.heap.size 139 6 v' (xs ++ ys).length ((xs ++ ys).flatMap Onw.cells) → K (a.put o.dst v') (ext w0 t')) : o.wp Try.prog a w K Q :=
  wp_apps (cells := Onw.cells) (k := 6) (bytes := 48) (z := .agg #[.int .i64 0, .int .i64 0, .int .i64 0, .int .i64 0, .int .i64 0, .bool false]) Try.underlying78 (by kernel_rfl) rfl (by decide) (by decide) rfl (fun _ => rfl) (fun _ _ _ _ h => rd_Onw h) (fun _ _ h => Onw.dat_inj h) (fun x u hu => by simp only [Onw.cells, List.mem_cons, List.not_mem_nil, or_false] at hu; rcases hu with rfl | rfl | rfl | rfl | rfl | rfl <;> rfl) s x ho hs hE hown ys hx hy hn h

theorem wp_clone_Onw {o : Oper} {a : Act} {K : Act → World → Prop} {Q : Exit → Act → World → Prop} {w : World} (s x : Operand) (ho : o.op = .call { callee := .builtin .append, args := #[s, x], argTypes := #[78, 78] })
    (hs : a.eval s = .slice none 0 0) (ys : List Onw) {ad : Option Addr} {m c : Nat} (hx : a.eval x = .slice ad m c) (hy : Re w (.sl sOnw) [.slice ad m c] (.l (ys.map Onw.dat))) (hn : m ≤ 1048576)
    (h : ∀ a' c' t', OwnR w.heap.size (ext w t').heap.size (ext w t') (.sl sOnw) [.slice a' m c'] (.l (ys.map Onw.dat)) → K (a.put o.dst (.slice a' m c')) (ext w t')) : o.wp Try.prog a w K Q :=
  wp_clone (cells := Onw.cells) (k := 6) (bytes := 48) (z := .agg #[.int .i64 0, .int .i64 0, .int .i64 0, .int .i64 0, .int .i64 0, .bool false]) Try.underlying78 (by kernel_rfl) rfl (by decide) (by decide) rfl (fun _ => rfl) (fun _ _ _ _ h => rd_Onw h) (fun _ _ h => Onw.dat_inj h) (fun x u hu => by simp only [Onw.cells, List.mem_cons, List.not_mem_nil, or_false] at hu; rcases hu with rfl | rfl | rfl | rfl | rfl | rfl <;> rfl) (fun w x => own_Onw_mk w x) s x ho hs ys hx hy hn h

theorem wp_clone0_Onw {o : Oper} {a : Act} {K : Act → World → Prop} {Q : Exit → Act → World → Prop} {w : World} (s x : Operand) (ho : o.op = .call { callee := .builtin .append, args := #[s, x], argTypes := #[78, 78] })
    (hs : a.eval s = .slice (some ⟨w.heap.size, 0, none⟩) 0 0) (ys : List Onw) {ad : Option Addr} {m c : Nat} (hx : a.eval x = .slice ad m c) (hy : Re w (.sl sOnw) [.slice ad m c] (.l (ys.map Onw.dat))) (hn : m ≤ 1048576)
    (h : ∀ a' c' t', OwnR w.heap.size (ext w t').heap.size (ext w t') (.sl sOnw) [.slice a' m c'] (.l (ys.map Onw.dat)) → K (a.put o.dst (.slice a' m c')) (ext w t')) : o.wp Try.prog a (w.alloc (.cells #[] 139)) K Q :=
  wp_clone0 (cells := Onw.cells) (k := 6) (bytes := 48) (z := .agg #[.int .i64 0, .int .i64 0, .int .i64 0, .int .i64 0, .int .i64 0, .bool false]) Try.underlying78 (by kernel_rfl) rfl (by decide) (by decide) rfl (fun _ => rfl) (fun _ _ _ _ h => rd_Onw h) (fun _ _ h => Onw.dat_inj h) (fun x u hu => by simp only [Onw.cells, List.mem_cons, List.not_mem_nil, or_false] at hu; rcases hu with rfl | rfl | rfl | rfl | rfl | rfl <;> rfl) (fun w x => own_Onw_mk w x) s x ho hs ys hx hy hn h

theorem wpList_clone_Onw {ops : Array Oper} {rest : List Oper} {o : Oper} {a : Act} {Q : Exit → Act → World → Prop} {w : World} (hgd : o.guard = none) (s x : Operand) (ho : o.op = .call { callee := .builtin .append, args := #[s, x], argTypes := #[78, 78] })
    (hs : a.eval s = .slice none 0 0) (ys : List Onw) {ad : Option Addr} {m c : Nat} (hx : a.eval x = .slice ad m c) (hy : Re w (.sl sOnw) [.slice ad m c] (.l (ys.map Onw.dat))) (hn : m ≤ 1048576)
    (h : ∀ a' c' t', OwnR w.heap.size (ext w t').heap.size (ext w t') (.sl sOnw) [.slice a' m c'] (.l (ys.map Onw.dat)) → wpList Try.prog ops Q rest (a.put o.dst (.slice a' m c')) (ext w t')) : wpList Try.prog ops Q (o :: rest) a w :=
  wpList_clone (cells := Onw.cells) (k := 6) (bytes := 48) (z := .agg #[.int .i64 0, .int .i64 0, .int .i64 0, .int .i64 0, .int .i64 0, .bool false]) Try.underlying78 (by kernel_rfl) rfl (by decide) (by decide) rfl (fun _ => rfl) (fun _ _ _ _ h => rd_Onw h) (fun _ _ h => Onw.dat_inj h) (fun x u hu => by simp only [Onw.cells, List.mem_cons, List.not_mem_nil, or_false] at hu; rcases hu with rfl | rfl | rfl | rfl | rfl | rfl <;> rfl) (fun w x => own_Onw_mk w x) hgd s x ho hs ys hx hy hn h

theorem wpList_clone0_Onw {ops : Array Oper} {rest : List Oper} {o : Oper} {a : Act} {Q : Exit → Act → World → Prop} {w : World} (hgd : o.guard = none) (s x : Operand) (ho : o.op = .call { callee := .builtin .append, args := #[s, x], argTypes := #[78, 78] })
    (hs : a.eval s = .slice (some ⟨w.heap.size, 0, none⟩) 0 0) (ys : List Onw) {ad : Option Addr} {m c : Nat} (hx : a.eval x = .slice ad m c) (hy : Re w (.sl sOnw) [.slice ad m c] (.l (ys.map Onw.dat))) (hn : m ≤ 1048576)
    (h : ∀ a' c' t', OwnR w.heap.size (ext w t').heap.size (ext w t') (.sl sOnw) [.slice a' m c'] (.l (ys.map Onw.dat)) → wpList Try.prog ops Q rest (a.put o.dst (.slice a' m c')) (ext w t')) : wpList Try.prog ops Q (o :: rest) a (w.alloc (.cells #[] 139)) :=
  wpList_clone0 (cells := Onw.cells) (k := 6) (bytes := 48) (z := .agg #[.int .i64 0, .int .i64 0, .int .i64 0, .int .i64 0, .int .i64 0, .bool false]) Try.underlying78 (by kernel_rfl) rfl (by decide) (by decide) rfl (fun _ => rfl) (fun _ _ _ _ h => rd_Onw h) (fun _ _ h => Onw.dat_inj h) (fun x u hu => by simp only [Onw.cells, List.mem_cons, List.not_mem_nil, or_false] at hu; rcases hu with rfl | rfl | rfl | rfl | rfl | rfl <;> rfl) (fun w x => own_Onw_mk w x) hgd s x ho hs ys hx hy hn h

theorem eqOnwS_c (xs : List Onw) (a1 a2 : Option Addr) (n c1 c2 : Nat) (w : World) (h1 : Re w (.sl sOnw) [.slice a1 n c1] (.l (xs.map Onw.dat))) (h2 : Re w (.sl sOnw) [.slice a2 n c2] (.l (xs.map Onw.dat))) (hn : n ≤ 1048576) :
    Calls Try.prog 108 #[.slice a1 n c1, .slice a2 n c2] w fun e w' => e = .returned (.bool true) ∧ Ext w w' := by
  have H1 := hid h1
  have H2 := hid h2
  clear h1 h2
  go_enter Try.func108, Try.ntmps108
  go_wp2
  go_loopw [5] (fun i wr => ∃ k : Nat, k ≤ n ∧ i = .int .i64 k ∧ Ext w wr) (fun i _ => n - (intOf i).toNat)
  case atStart => exact ⟨0, Nat.zero_le _, rfl, Ext.refl _⟩
  case round =>
    obtain ⟨k, hk, rfl, t, rfl⟩ := hrel
    by_cases hlt : k < n
    · obtain ⟨x, b1, o1, hx, rfl, hb1, f0, f1, f2, f3, f4, f5⟩ := at_Onw H1.out hlt
      obtain ⟨y, b2, o2, hy, rfl, hb2, g0, g1, g2, g3, g4, g5⟩ := at_Onw H2.out hlt
      have e : x = y := Option.some.inj (hx.symm.trans hy)
      subst e
      clear hx hy
      go_wp2
      with_reducible refine wp_region_ext (by kernel_rfl) (by kernel_rfl) ?_
      repeat (go_big_quiet_step ((first | (go_at_call 145; first | exact quiet_call (eqOnw_c _ _) | exact quiet_call2 (eqOnw_c _ _)))))
      refine wpQuiet_nil ?_
      rintro _ ⟨tq, rfl⟩
      go_wp2
      go_roundw
      case rel => exact ⟨k + 1, by omega, by go_num, (by ((try simp only [ext_drew]); (try simp only [ext_ext]); repeat (first | exact Ext.refl _ | with_reducible apply Ext.add | with_reducible apply Ext.dr | apply Ext.alloc | apply Ext.ext | apply Ext.drew | refine Ext.trans ?_ (by assumption))))⟩
      case measure => simp [intOf]; omega
    · go_wp2
      go_ret
      exact ⟨rfl, (by ((try simp only [ext_drew]); (try simp only [ext_ext]); repeat (first | exact Ext.refl _ | with_reducible apply Ext.add | with_reducible apply Ext.dr | apply Ext.alloc | apply Ext.ext | apply Ext.drew | refine Ext.trans ?_ (by assumption))))⟩

theorem szOnwS_c (a : Option Addr) (n c : Nat) (left : Int) (w : World) (h0 : 0 ≤ left) (h1 : left ≤ 1048576) (hn : n ≤ 9223372036854775807) :
    Calls Try.prog 99 #[.slice a n c, .int .i64 left] w fun e w' => e = .returned (.int .i64 (if left < (n : Int) then -1 else left - n)) ∧ w = w' := by
  by_cases h : left < (n : Int)
  · go_enter Try.func99, Try.ntmps99
    go_wp2
    go_ret
    exact ⟨ret_int rfl, rfl⟩
  · go_enter Try.func99, Try.ntmps99
    go_wp2
    go_ret
    exact ⟨ret_int rfl, rfl⟩

set_option maxRecDepth 100000 in
set_option maxHeartbeats 2000000 in
theorem toOnwS_c (xs : List Onw) (a : Option Addr) (n c : Nat) (w : World) (hx : Re w (.sl sOnw) [.slice a n c] (.l (xs.map Onw.dat))) (hn : n ≤ 1048576) :
    Calls Try.prog 103 #[.slice a n c] w (MadeL w sOnw n (xs.map Onw.dat)) := by
  have HX := hid hx
  clear hx
  have hm := mk_Onw n hn
  go_enter Try.func103, Try.ntmps103
  go_wp2
  clear hm
  go_loopw [4] (fun i wr => ∃ (k : Nat) (arr : Array Value) (t : Xt), k ≤ n ∧ i = .int .i64 k ∧ arr.size = n * 6 ∧ FillI Onw.cells 6 arr xs k ∧ wr = ext (w.alloc (.cells arr 139)) t) (fun i _ => n - (intOf i).toNat)
  case atStart => exact ⟨0, _, ⟨#[], _⟩, Nat.zero_le _, rfl, size_madeCells _ _, fun i x h => absurd h (Nat.not_lt_zero _), (ext_refl _).symm⟩
  case round =>
    obtain ⟨k, arr, t, hk, rfl, hsz, hf, rfl⟩ := hrel
    have HS := hid hsz
    have HF := hid hf
    clear hsz hf
    by_cases hlt : k < n
    · obtain ⟨x, b, o, hxk, rfl, hb, f0, f1, f2, f3, f4, f5⟩ := at_Onw HX.out hlt
      have hbd : k * 6 + 6 ≤ arr.size := by have := HS.out; have : (k + 1) * 6 ≤ n * 6 := Nat.mul_le_mul_right _ hlt; omega
      have HK := hid (HF.out.step hxk (fun _ => rfl) hbd)
      have HZ := hid ((putRow_size x.cells arr (k * 6)).trans HS.out)
      clear hxk
      go_wp2_with (first | (go_at_call 144; refine (toOnw_c _ _).mono ?_; rintro e w' ⟨rfl, t, rfl⟩) | (refine wpList_store_Onw rfl _ _ rfl rfl rfl (by with_reducible rfl) hbd ?_) | (refine wpList_store_Onw rfl _ _ rfl rfl rfl (by with_reducible exact ext_ext _ _ _) hbd ?_))
      go_roundw
      case rel => exact ⟨k + 1, _, _, by omega, by go_num, HZ.out, HK.out, rfl⟩
      case measure => simp [intOf]; omega
    · have HE := hid (show k = n by omega)
      go_wp2
      go_ret
      exact MadeL.mk_flat (k := 6) rfl (fun w x => own_Onw_mk w x) HX.out.len HX.out.max (by rw [← HX.out.len]; have := HS.out; omega) (by rw [← HX.out.len, ← HE.out]; exact HF.out)

def Onw.mk' (q : Int) : Onw := ⟨⟨q, q + 1, q + 1 + 1, q + 1 + 1 + 1, q + 1 + 1 + 1 + 1⟩, ((q + 1 + 1 + 1 + 1 + 1) % 3 == 0)⟩



end Go.Proofs.Yteepfcdjaakdfaa
