/- The program's copies of lists: rows of one's own that may be appended to. -/
import Derived.Test.YtbbpipbemhggdaaRow
import Derived.Test.YtbbpipbemhggdaaTGst
namespace Go.Proofs.Ytbbpipbemhggdaa
open Go.RowKit
set_option linter.unusedSimpArgs false
set_option linter.unusedVariables false

/-- A copy in new memory: a row of one's own. -/
def MadeX {α : Type} (w : World) (T : TypeId) (k : Nat) (cells : α → List Value) (xs : List α) (e : Ending) (w' : World) : Prop :=
  ∃ a c B, e = .returned (.slice a xs.length c) ∧ Ext w w' ∧ RowX w' T k cells (.slice a xs.length c) xs B ∧ ∀ b ∈ B, w.heap.size ≤ b
theorem MadeX.made {α : Type} {cells : α → List Value} {dat : α → Dat} {sch : Sch} {k : Nat} {T : TypeId} {w w' : World} {xs : List α} {e : Ending} (hsz : sch.size = k) (hown : ∀ w x, Own w sch (cells x) (dat x) []) (h : MadeX w T k cells xs e w') : MadeL w sch xs.length (xs.map dat) e w' := by
  obtain ⟨a, c, B, rfl, hE, hr, hB⟩ := h
  exact ⟨a, c, rfl, hE, Nat.le_refl _, B, hr.nodup, fun b hb => ⟨hB b hb, hr.lt b hb⟩, hr.own hsz hown⟩
set_option maxHeartbeats 1000000 in
theorem iCloneWlk_x (xs : List Wlk) (a : Option Addr) (n c : Nat) (w : World) (hx : Re w (.sl sWlk) [.slice a n c] (.l (xs.map Wlk.dat))) (hn : n ≤ 2097152) :
    Calls Try.prog 72 #[.slice a n c] w (MadeX w 52 5 Wlk.cells xs) := by
  have HX := hid hx
  have hl := hx.len
  clear hx
  go_enter Try.func72, Try.ntmps72
  go_wp2_with (refine wpList_cloneX (cells := Wlk.cells) (k := 5) (bytes := 40) (z := .agg #[.int .i64 0, .int .i64 0, .int .i64 0, .int .i64 0, .int .i64 0]) Try.underlying50 (by kernel_rfl) rfl (by decide) (by decide) rfl (fun _ => rfl) (fun _ _ _ _ h => rd_Wlk h) (fun _ _ h => Wlk.dat_inj h) (fun x u hu => by simp only [Wlk.cells, List.mem_cons, List.not_mem_nil, or_false] at hu; rcases hu with rfl | rfl | rfl | rfl | rfl <;> rfl) (fun w x => own_Wlk_mk w x) rfl _ _ rfl rfl (.inl rfl) xs rfl (HX.out.of (by ((try simp only [ext_drew]); (try simp only [ext_ext]); repeat (first | exact Ext.refl _ | with_reducible apply Ext.add | with_reducible apply Ext.dr | apply Ext.alloc | apply Ext.ext | apply Ext.drew | refine Ext.trans ?_ (by assumption))))) hn ?_; intro a' c' t' B' hr hB; have HR := hid hr; have HB := hid hB; clear hr hB)
  go_ret
  subst hl
  exact ⟨a', c', B', rfl, (by ((try simp only [ext_drew]); (try simp only [ext_ext]); repeat (first | exact Ext.refl _ | with_reducible apply Ext.add | with_reducible apply Ext.dr | apply Ext.alloc | apply Ext.ext | apply Ext.drew | refine Ext.trans ?_ (by assumption)))), HR.out, HB.out⟩
set_option maxHeartbeats 1000000 in
theorem iCloneGst_x (xs : List Gst) (a : Option Addr) (n c : Nat) (w : World) (hx : Re w (.sl sGst) [.slice a n c] (.l (xs.map Gst.dat))) (hn : n ≤ 2097152) :
    Calls Try.prog 94 #[.slice a n c] w (MadeX w 71 7 Gst.cells xs) := by
  have HX := hid hx
  have hl := hx.len
  clear hx
  go_enter Try.func94, Try.ntmps94
  go_wp2_with (refine wpList_cloneX (cells := Gst.cells) (k := 7) (bytes := 56) (z := .agg #[.int .i64 0, .int .i64 0, .int .i64 0, .int .i64 0, .int .i64 0, .int .i64 0, .int .i64 0]) Try.underlying69 (by kernel_rfl) rfl (by decide) (by decide) rfl (fun _ => rfl) (fun _ _ _ _ h => rd_Gst h) (fun _ _ h => Gst.dat_inj h) (fun x u hu => by simp only [Gst.cells, List.mem_cons, List.not_mem_nil, or_false] at hu; rcases hu with rfl | rfl | rfl | rfl | rfl | rfl | rfl <;> rfl) (fun w x => own_Gst_mk w x) rfl _ _ rfl rfl (.inl rfl) xs rfl (HX.out.of (by ((try simp only [ext_drew]); (try simp only [ext_ext]); repeat (first | exact Ext.refl _ | with_reducible apply Ext.add | with_reducible apply Ext.dr | apply Ext.alloc | apply Ext.ext | apply Ext.drew | refine Ext.trans ?_ (by assumption))))) hn ?_; intro a' c' t' B' hr hB; have HR := hid hr; have HB := hid hB; clear hr hB)
  go_ret
  subst hl
  exact ⟨a', c', B', rfl, (by ((try simp only [ext_drew]); (try simp only [ext_ext]); repeat (first | exact Ext.refl _ | with_reducible apply Ext.add | with_reducible apply Ext.dr | apply Ext.alloc | apply Ext.ext | apply Ext.drew | refine Ext.trans ?_ (by assumption)))), HR.out, HB.out⟩
end Go.Proofs.Ytbbpipbemhggdaa
