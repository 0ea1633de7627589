/- The laws' helpers at PclParcel, and at slices of it: copies, equality of equals, sizes, marks. -/
import Derived.Test.YtejplnlnfhcimaaTWlk
namespace Go.Proofs.Ytejplnlnfhcimaa
open Go.RowKit

theorem toPcl_c (x : Pcl) (w : World) : Calls Try.prog 31 #[.agg #[.int .i64 x.n, .int .i64 x.kind, .int .i64 x.wk.id, .int .i64 x.wk.at_, .int .i64 x.wk.coins, .int .i64 x.wk.seq, .int .i64 x.wk.last, .int .i64 x.coins]] w fun e w' => e = .returned (.agg #[.int .i64 x.n, .int .i64 x.kind, .int .i64 x.wk.id, .int .i64 x.wk.at_, .int .i64 x.wk.coins, .int .i64 x.wk.seq, .int .i64 x.wk.last, .int .i64 x.coins]) ∧ Ext w w' := by
  go_enter Try.func31, Try.ntmps31
  go_wp2_with (first | (go_at_call 23; refine (toWlk_c _ _).mono ?_; rintro e w' ⟨rfl, t, rfl⟩))
  exact bodyPost_ret (v := .agg #[.int .i64 x.n, .int .i64 x.kind, .int .i64 x.wk.id, .int .i64 x.wk.at_, .int .i64 x.wk.coins, .int .i64 x.wk.seq, .int .i64 x.wk.last, .int .i64 x.coins]) (by simp [results, Try.results31, go_sem]) rfl ⟨rfl, (by (try simp only [ext_drew]); (try simp only [ext_ext]); repeat (first | exact Ext.refl _ | with_reducible apply Ext.add | with_reducible apply Ext.dr | apply Ext.alloc | apply Ext.ext | apply Ext.drew | refine Ext.trans ?_ (by assumption)))⟩

theorem eqPcl_c (x : Pcl) (w : World) : Calls Try.prog 57 #[.agg #[.int .i64 x.n, .int .i64 x.kind, .int .i64 x.wk.id, .int .i64 x.wk.at_, .int .i64 x.wk.coins, .int .i64 x.wk.seq, .int .i64 x.wk.last, .int .i64 x.coins], .agg #[.int .i64 x.n, .int .i64 x.kind, .int .i64 x.wk.id, .int .i64 x.wk.at_, .int .i64 x.wk.coins, .int .i64 x.wk.seq, .int .i64 x.wk.last, .int .i64 x.coins]] w fun e w' => e = .returned (.bool true) ∧ Ext w w' := by
  go_enter Try.func57, Try.ntmps57
  go_wp2_with (first | (go_at_call 58; refine (eqWlk_c _ _).mono ?_; rintro e w' ⟨rfl, t, rfl⟩))
  go_ret
  exact ⟨rfl, (by (try simp only [ext_drew]); (try simp only [ext_ext]); repeat (first | exact Ext.refl _ | with_reducible apply Ext.add | with_reducible apply Ext.dr | apply Ext.alloc | apply Ext.ext | apply Ext.drew | refine Ext.trans ?_ (by assumption)))⟩

theorem mk_Pcl (n : Nat) (hn : n ≤ 1048576) (w : World) : (Instr.makeSlice 77 (.int .i64 (n : Int)) (.int .i64 (n : Int))).run Try.prog w = .ok (.slice (some ⟨w.heap.size, 0, none⟩) n n) (w.alloc (.cells (madeCells (Value.agg #[.int .i64 0, .int .i64 0, .int .i64 0, .int .i64 0, .int .i64 0, .int .i64 0, .int .i64 0, .int .i64 0]).cells (n * 8)) 50)) :=
  mk_gen (bytes := 64) Try.underlying77 (by kernel_rfl) n hn (by decide) w

theorem sat_Pcl (w : World) (T : TypeId) (t : Xt) (arr : Array Value) (o : Nat) (a0 : Int) (a1 : Int) (a2 : Int) (a3 : Int) (a4 : Int) (a5 : Int) (a6 : Int) (a7 : Int) (h : o + 8 ≤ arr.size) :
    (Instr.storeAt 50 (.pointer (some ⟨w.heap.size, o, none⟩)) (.agg #[.int .i64 a0, .int .i64 a1, .int .i64 a2, .int .i64 a3, .int .i64 a4, .int .i64 a5, .int .i64 a6, .int .i64 a7])).run Try.prog (ext (w.alloc (.cells arr T)) t) =
      .ok () (ext (w.alloc (.cells (putRow arr o [.int .i64 a0, .int .i64 a1, .int .i64 a2, .int .i64 a3, .int .i64 a4, .int .i64 a5, .int .i64 a6, .int .i64 a7]) T)) t) := by
  have h1 := st_row (P := Try.prog) w T t [.int .i64 a0, .int .i64 a1, .int .i64 a2, .int .i64 a3, .int .i64 a4, .int .i64 a5, .int .i64 a6, .int .i64 a7] arr o 0 h (by simp [Value.oneCell'])
  have h2 := sizeOf_run (T := 50) (k := 8) (by kernel_rfl) (ext (w.alloc (.cells arr T)) t)
  rw [Nat.add_zero] at h1
  simp [Instr.storeAt, Instr.sureAddr, storeVar, Sem.run_bind, h2, Value.cells, h1]

theorem wpList_store_Pcl {ops : Array Oper} {rest : List Oper} {o : Oper} {a : Act} {Q : Exit → Act → World → Prop} {w W : World} {T : TypeId} {t : Xt} {arr : Array Value} {off : Nat} {a0 : Int} {a1 : Int} {a2 : Int} {a3 : Int} {a4 : Int} {a5 : Int} {a6 : Int} {a7 : Int} (hgd : o.guard = none) (x y : Operand)
    (ho : o.op = .store 50 x y) (hx : a.eval x = .pointer (some ⟨w.heap.size, off, none⟩)) (hy : a.eval y = .agg #[.int .i64 a0, .int .i64 a1, .int .i64 a2, .int .i64 a3, .int .i64 a4, .int .i64 a5, .int .i64 a6, .int .i64 a7])
    (hW : W = ext (w.alloc (.cells arr T)) t) (hle : off + 8 ≤ arr.size)
    (h : wpList Try.prog ops Q rest (a.put o.dst undef) (ext (w.alloc (.cells (putRow arr off [.int .i64 a0, .int .i64 a1, .int .i64 a2, .int .i64 a3, .int .i64 a4, .int .i64 a5, .int .i64 a6, .int .i64 a7]) T)) t)) : wpList Try.prog ops Q (o :: rest) a W := by
  subst hW
  refine wpList_plain hgd fun K hK => ?_
  unfold Oper.wp execOp
  simp only [ho, hx, hy, Sem.run_bind, sat_Pcl w T t arr off a0 a1 a2 a3 a4 a5 a6 a7 hle, Result.andThen_ok]
  exact hK _ _ h

theorem eqPclS_c (xs : List Pcl) (a1 a2 : Option Addr) (n c1 c2 : Nat) (w : World) (h1 : Re w (.sl sPcl) [.slice a1 n c1] (.l (xs.map Pcl.dat))) (h2 : Re w (.sl sPcl) [.slice a2 n c2] (.l (xs.map Pcl.dat))) (hn : n ≤ 1048576) :
    Calls Try.prog 46 #[.slice a1 n c1, .slice a2 n c2] w fun e w' => e = .returned (.bool true) ∧ Ext w w' := by
  have H1 := hid h1
  have H2 := hid h2
  clear h1 h2
  go_enter Try.func46, Try.ntmps46
  go_wp2
  go_loopw [5] (fun i wr => ∃ k : Nat, k ≤ n ∧ i = .int .i64 k ∧ Ext w wr) (fun i _ => n - (intOf i).toNat)
  case atStart => exact ⟨0, Nat.zero_le _, rfl, Ext.refl _⟩
  case round =>
    obtain ⟨k, hk, rfl, t, rfl⟩ := hrel
    by_cases hlt : k < n
    · obtain ⟨x, b1, o1, hx, rfl, hb1, f0, f1, f2, f3, f4, f5, f6, f7⟩ := at_Pcl H1.out hlt
      obtain ⟨y, b2, o2, hy, rfl, hb2, g0, g1, g2, g3, g4, g5, g6, g7⟩ := at_Pcl H2.out hlt
      have e : x = y := Option.some.inj (hx.symm.trans hy)
      subst e
      clear hx hy
      go_wp2
      refine wp_region_ext (by kernel_rfl) (by kernel_rfl) ?_
      repeat (go_big_quiet_step ((first | (go_at_call 57; first | exact quiet_call (eqPcl_c _ _) | exact quiet_call2 (eqPcl_c _ _)))))
      refine wpQuiet_nil ?_
      rintro _ ⟨tq, rfl⟩
      go_wp2
      go_roundw
      case rel => exact ⟨k + 1, by omega, by go_num, (by (try simp only [ext_drew]); (try simp only [ext_ext]); repeat (first | exact Ext.refl _ | with_reducible apply Ext.add | with_reducible apply Ext.dr | apply Ext.alloc | apply Ext.ext | apply Ext.drew | refine Ext.trans ?_ (by assumption)))⟩
      case measure => simp [intOf]; omega
    · go_wp2
      go_ret
      exact ⟨rfl, (by (try simp only [ext_drew]); (try simp only [ext_ext]); repeat (first | exact Ext.refl _ | with_reducible apply Ext.add | with_reducible apply Ext.dr | apply Ext.alloc | apply Ext.ext | apply Ext.drew | refine Ext.trans ?_ (by assumption)))⟩

theorem szPclS_c (a : Option Addr) (n c : Nat) (left : Int) (w : World) (h0 : 0 ≤ left) (h1 : left ≤ 1048576) (hn : n ≤ 9223372036854775807) :
    Calls Try.prog 42 #[.slice a n c, .int .i64 left] w fun e w' => e = .returned (.int .i64 (if left < (n : Int) then -1 else left - n)) ∧ w = w' := by
  by_cases h : left < (n : Int)
  · go_enter Try.func42, Try.ntmps42
    go_wp2
    go_ret
    exact ⟨ret_int rfl, rfl⟩
  · go_enter Try.func42, Try.ntmps42
    go_wp2
    go_ret
    exact ⟨ret_int rfl, rfl⟩

set_option maxRecDepth 100000 in
set_option maxHeartbeats 2000000 in
theorem toPclS_c (xs : List Pcl) (a : Option Addr) (n c : Nat) (w : World) (hx : Re w (.sl sPcl) [.slice a n c] (.l (xs.map Pcl.dat))) (hn : n ≤ 1048576) :
    Calls Try.prog 44 #[.slice a n c] w (MadeS w sPcl n (xs.map Pcl.dat)) := by
  have HX := hid hx
  clear hx
  have hm := mk_Pcl n hn
  go_enter Try.func44, Try.ntmps44
  go_wp2
  clear hm
  go_loopw [4] (fun i wr => ∃ (k : Nat) (arr : Array Value) (t : Xt), k ≤ n ∧ i = .int .i64 k ∧ arr.size = n * 8 ∧ FillI Pcl.cells 8 arr xs k ∧ wr = ext (w.alloc (.cells arr 50)) t) (fun i _ => n - (intOf i).toNat)
  case atStart => exact ⟨0, _, ⟨#[], _⟩, Nat.zero_le _, rfl, size_madeCells _ _, fun i x h => absurd h (Nat.not_lt_zero _), (ext_refl _).symm⟩
  case round =>
    obtain ⟨k, arr, t, hk, rfl, hsz, hf, rfl⟩ := hrel
    have HS := hid hsz
    have HF := hid hf
    clear hsz hf
    by_cases hlt : k < n
    · obtain ⟨x, b, o, hxk, rfl, hb, f0, f1, f2, f3, f4, f5, f6, f7⟩ := at_Pcl HX.out hlt
      have hbd : k * 8 + 8 ≤ arr.size := by have := HS.out; have : (k + 1) * 8 ≤ n * 8 := Nat.mul_le_mul_right _ hlt; omega
      have HK := hid (HF.out.step hxk (fun _ => rfl) hbd)
      have HZ := hid ((putRow_size x.cells arr (k * 8)).trans HS.out)
      clear hxk
      go_wp2_with (first | (go_at_call 31; refine (toPcl_c _ _).mono ?_; rintro e w' ⟨rfl, t, rfl⟩) | (refine wpList_store_Pcl rfl _ _ rfl rfl rfl (by with_reducible rfl) hbd ?_) | (refine wpList_store_Pcl rfl _ _ rfl rfl rfl (by with_reducible exact ext_ext _ _ _) hbd ?_))
      go_roundw
      case rel => exact ⟨k + 1, _, _, by omega, by go_num, HZ.out, HK.out, rfl⟩
      case measure => simp [intOf]; omega
    · have HE := hid (show k = n by omega)
      go_wp2
      go_ret
      exact MadeS.mk_flat (k := 8) rfl (fun w x => own_Pcl_mk w x) HX.out.len HX.out.max (by rw [← HX.out.len]; have := HS.out; omega) (by rw [← HX.out.len, ← HE.out]; exact HF.out)

def Pcl.mk' (q : Int) : Pcl := ⟨q, q + 1, ⟨q + 1 + 1, q + 1 + 1 + 1, q + 1 + 1 + 1 + 1, q + 1 + 1 + 1 + 1 + 1, q + 1 + 1 + 1 + 1 + 1 + 1⟩, q + 1 + 1 + 1 + 1 + 1 + 1 + 1⟩


end Go.Proofs.Ytejplnlnfhcimaa
