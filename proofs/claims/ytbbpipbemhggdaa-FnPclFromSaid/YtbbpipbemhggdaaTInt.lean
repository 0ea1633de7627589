/- The laws' helpers at slices of integers. -/
import Derived.Test.YtbbpipbemhggdaaMem
import Derived.Test.YtbbpipbemhggdaaSeg
import Derived.Test.YtbbpipbemhggdaaScal
namespace Go.Proofs.Ytbbpipbemhggdaa
open Go.RowKit

def icells (x : Int) : List Value := [.int .i64 x]
theorem idat_inj {x y : Int} (h : Dat.i x = Dat.i y) : x = y := by simpa using h
theorem rd_Int {hi : Nat} {w : World} {vs : List Value} {d : Dat} (h : Rd hi w .int vs d) : ∃ x : Int, vs = icells x ∧ d = .i x := by
  obtain ⟨n, h1, h2⟩ := rd_int h; exact ⟨n, h1, h2⟩
theorem rdS_Int {hi : Nat} {w : World} {vs : List Value} {d : Dat} (h : Rd hi w (.sl .int) vs d) : ∃ a c, ∃ xs : List Int, vs = [.slice a xs.length c] ∧ d = .l (xs.map Dat.i) ∧ xs.length ≤ maxLen := by
  unfold Rd at h
  obtain ⟨a, n, c, ds, h1, h2, h3, h4, h5⟩ := h
  have key : ∃ xs : List Int, ds = xs.map Dat.i := list_of_all fun i x hx => by
    obtain ⟨b, o, es, _, _, _, hr⟩ := h5 i x hx
    obtain ⟨y, _, hy⟩ := rd_Int hr
    exact ⟨y, hy⟩
  obtain ⟨xs, rfl⟩ := key
  simp only [List.length_map] at h3
  subst h3
  exact ⟨a, c, xs, h1, h2, h4⟩
theorem own_Int_mk (w : World) (x : Int) : Own w .int (icells x) (.i x) [] := by unfold Own; exact ⟨⟨x, rfl, rfl⟩, rfl⟩
theorem ione (x : Int) : ∀ u ∈ icells x, u.oneCell' = true := fun u hu => by
  simp only [icells, List.mem_cons, List.not_mem_nil, or_false] at hu; subst hu; rfl
theorem at_Int {hi : Nat} {w : World} {a : Option Addr} {n c : Nat} {xs : List Int} (h : Rd hi w (.sl .int) [.slice a n c] (.l (xs.map Dat.i))) {k : Nat} (hk : k < n) :
    ∃ x b o, xs[k]? = some x ∧ a = some (⟨b, o, none⟩ : Addr) ∧ b < hi ∧ w.cell? ⟨b, o + k, none⟩ = some (.int .i64 x) := by
  unfold Rd at h
  obtain ⟨a', n', c', ds, h1, h2, h3, h4, h5⟩ := h
  simp only [List.cons.injEq, Value.slice.injEq, and_true] at h1
  obtain ⟨rfl, rfl, rfl⟩ := h1
  simp only [Dat.l.injEq] at h2
  subst h2
  have hk' : k < xs.length := by rw [List.length_map] at h3; omega
  obtain ⟨b, o, es, ha, hb, hc, hr⟩ := h5 k (Dat.i xs[k]) (by simp [hk'])
  obtain ⟨y, rfl, hy⟩ := rd_Int hr
  have e := idat_inj hy
  refine ⟨y, b, o, by rw [← e]; simp [hk'], ha, hb, ?_⟩
  have := hc 0 _ rfl
  simpa [Sch.size] using this

theorem mk_Int (n : Nat) (hn : n ≤ 1048576) (w : World) : (Instr.makeSlice 33 (.int .i64 (n : Int)) (.int .i64 (n : Int))).run Try.prog w = .ok (.slice (some ⟨w.heap.size, 0, none⟩) n n) (w.alloc (.cells (madeCells (Value.int .i64 0).cells n) 3)) := by
  have := mk_gen (bytes := 8) (k := 1) (z := .int .i64 0) Try.underlying33 (by kernel_rfl) n hn (by decide) w
  rwa [Nat.mul_one] at this

theorem wpList_app_Int {ops : Array Oper} {rest : List Oper} {o : Oper} {a : Act} {Q : Exit → Act → World → Prop} {w0 w : World} (hgd : o.guard = none) (s x : Operand) (ho : o.op = .call { callee := .builtin .append, args := #[s, x], argTypes := #[33, 33] })
    {v : Value} {xs : List Int} (hs : a.eval s = v) (hE : Ext w0 w) (hown : w.ownsRow w0.heap.size 3 1 v xs.length (xs.flatMap icells)) (y : Int) {b c : Nat} {T' : TypeId} (hx : a.eval x = .slice (some ⟨b, 0, none⟩) 1 c) (hy : w.heap[b]? = some (.cells (icells y).toArray T' (0, 0))) (hn : xs.length ≤ 4194304)
    (h : ∀ v' t', (ext w0 t').ownsRow w0.heap.size 3 1 v' (xs ++ [y]).length ((xs ++ [y]).flatMap icells) → wpList Try.prog ops Q rest (a.put o.dst v') (ext w0 t')) : wpList Try.prog ops Q (o :: rest) a w :=
  wpList_app (cells := icells) (k := 1) (bytes := 8) (z := .int .i64 0) Try.underlying33 (by kernel_rfl) rfl (by decide) (by decide) (fun _ => rfl) ione hgd s x ho hs hE hown y hx hy hn h
theorem wpList_apps_Int {ops : Array Oper} {rest : List Oper} {o : Oper} {a : Act} {Q : Exit → Act → World → Prop} {w0 w : World} (hgd : o.guard = none) (s x : Operand) (ho : o.op = .call { callee := .builtin .append, args := #[s, x], argTypes := #[33, 33] })
    {v : Value} {xs : List Int} (hs : a.eval s = v) (hE : Ext w0 w) (hown : w.ownsRow w0.heap.size 3 1 v xs.length (xs.flatMap icells)) (ys : List Int) {ad : Option Addr} {m c : Nat} (hx : a.eval x = .slice ad m c) (hy : Re w (.sl .int) [.slice ad m c] (.l (ys.map Dat.i))) (hn : xs.length + m ≤ 4194304)
    (h : ∀ v' t', (ext w0 t').ownsRow w0.heap.size 3 1 v' (xs ++ ys).length ((xs ++ ys).flatMap icells) → wpList Try.prog ops Q rest (a.put o.dst v') (ext w0 t')) : wpList Try.prog ops Q (o :: rest) a w :=
  wpList_apps (cells := icells) (k := 1) (bytes := 8) (z := .int .i64 0) Try.underlying33 (by kernel_rfl) rfl (by decide) (by decide) rfl (fun _ => rfl) (fun _ _ _ _ h => rd_Int h) (fun _ _ h => idat_inj h) ione hgd s x ho hs hE hown ys hx hy hn h
theorem wp_apps_Int {o : Oper} {a : Act} {K : Act → World → Prop} {Q : Exit → Act → World → Prop} {w0 w : World} (s x : Operand) (ho : o.op = .call { callee := .builtin .append, args := #[s, x], argTypes := #[33, 33] })
    {v : Value} {xs : List Int} (hs : a.eval s = v) (hE : Ext w0 w) (hown : w.ownsRow w0.heap.size 3 1 v xs.length (xs.flatMap icells)) (ys : List Int) {ad : Option Addr} {m c : Nat} (hx : a.eval x = .slice ad m c) (hy : Re w (.sl .int) [.slice ad m c] (.l (ys.map Dat.i))) (hn : xs.length + m ≤ 4194304)
    (h : ∀ v' t', (ext w0 t').ownsRow w0.heap.size 3 1 v' (xs ++ ys).length ((xs ++ ys).flatMap icells) → K (a.put o.dst v') (ext w0 t')) : o.wp Try.prog a w K Q :=
  wp_apps (cells := icells) (k := 1) (bytes := 8) (z := .int .i64 0) Try.underlying33 (by kernel_rfl) rfl (by decide) (by decide) rfl (fun _ => rfl) (fun _ _ _ _ h => rd_Int h) (fun _ _ h => idat_inj h) ione s x ho hs hE hown ys hx hy hn h
theorem wp_clone_Int {o : Oper} {a : Act} {K : Act → World → Prop} {Q : Exit → Act → World → Prop} {w : World} (s x : Operand) (ho : o.op = .call { callee := .builtin .append, args := #[s, x], argTypes := #[33, 33] })
    (hs : a.eval s = .slice none 0 0) (ys : List Int) {ad : Option Addr} {m c : Nat} (hx : a.eval x = .slice ad m c) (hy : Re w (.sl .int) [.slice ad m c] (.l (ys.map Dat.i))) (hn : m ≤ 1048576)
    (h : ∀ a' c' t', OwnR w.heap.size (ext w t').heap.size (ext w t') (.sl .int) [.slice a' m c'] (.l (ys.map Dat.i)) → K (a.put o.dst (.slice a' m c')) (ext w t')) : o.wp Try.prog a w K Q :=
  wp_clone (cells := icells) (k := 1) (bytes := 8) (z := .int .i64 0) Try.underlying33 (by kernel_rfl) rfl (by decide) (by decide) rfl (fun _ => rfl) (fun _ _ _ _ h => rd_Int h) (fun _ _ h => idat_inj h) ione (fun w x => own_Int_mk w x) s x ho hs ys hx hy hn h
theorem wp_clone0_Int {o : Oper} {a : Act} {K : Act → World → Prop} {Q : Exit → Act → World → Prop} {w : World} (s x : Operand) (ho : o.op = .call { callee := .builtin .append, args := #[s, x], argTypes := #[33, 33] })
    (hs : a.eval s = .slice (some ⟨w.heap.size, 0, none⟩) 0 0) (ys : List Int) {ad : Option Addr} {m c : Nat} (hx : a.eval x = .slice ad m c) (hy : Re w (.sl .int) [.slice ad m c] (.l (ys.map Dat.i))) (hn : m ≤ 1048576)
    (h : ∀ a' c' t', OwnR w.heap.size (ext w t').heap.size (ext w t') (.sl .int) [.slice a' m c'] (.l (ys.map Dat.i)) → K (a.put o.dst (.slice a' m c')) (ext w t')) : o.wp Try.prog a (w.alloc (.cells #[] 3)) K Q :=
  wp_clone0 (cells := icells) (k := 1) (bytes := 8) (z := .int .i64 0) Try.underlying33 (by kernel_rfl) rfl (by decide) (by decide) rfl (fun _ => rfl) (fun _ _ _ _ h => rd_Int h) (fun _ _ h => idat_inj h) ione (fun w x => own_Int_mk w x) s x ho hs ys hx hy hn h
theorem wpList_clone_Int {ops : Array Oper} {rest : List Oper} {o : Oper} {a : Act} {Q : Exit → Act → World → Prop} {w : World} (hgd : o.guard = none) (s x : Operand) (ho : o.op = .call { callee := .builtin .append, args := #[s, x], argTypes := #[33, 33] })
    (hs : a.eval s = .slice none 0 0) (ys : List Int) {ad : Option Addr} {m c : Nat} (hx : a.eval x = .slice ad m c) (hy : Re w (.sl .int) [.slice ad m c] (.l (ys.map Dat.i))) (hn : m ≤ 1048576)
    (h : ∀ a' c' t', OwnR w.heap.size (ext w t').heap.size (ext w t') (.sl .int) [.slice a' m c'] (.l (ys.map Dat.i)) → wpList Try.prog ops Q rest (a.put o.dst (.slice a' m c')) (ext w t')) : wpList Try.prog ops Q (o :: rest) a w :=
  wpList_clone (cells := icells) (k := 1) (bytes := 8) (z := .int .i64 0) Try.underlying33 (by kernel_rfl) rfl (by decide) (by decide) rfl (fun _ => rfl) (fun _ _ _ _ h => rd_Int h) (fun _ _ h => idat_inj h) ione (fun w x => own_Int_mk w x) hgd s x ho hs ys hx hy hn h
theorem wpList_clone0_Int {ops : Array Oper} {rest : List Oper} {o : Oper} {a : Act} {Q : Exit → Act → World → Prop} {w : World} (hgd : o.guard = none) (s x : Operand) (ho : o.op = .call { callee := .builtin .append, args := #[s, x], argTypes := #[33, 33] })
    (hs : a.eval s = .slice (some ⟨w.heap.size, 0, none⟩) 0 0) (ys : List Int) {ad : Option Addr} {m c : Nat} (hx : a.eval x = .slice ad m c) (hy : Re w (.sl .int) [.slice ad m c] (.l (ys.map Dat.i))) (hn : m ≤ 1048576)
    (h : ∀ a' c' t', OwnR w.heap.size (ext w t').heap.size (ext w t') (.sl .int) [.slice a' m c'] (.l (ys.map Dat.i)) → wpList Try.prog ops Q rest (a.put o.dst (.slice a' m c')) (ext w t')) : wpList Try.prog ops Q (o :: rest) a (w.alloc (.cells #[] 3)) :=
  wpList_clone0 (cells := icells) (k := 1) (bytes := 8) (z := .int .i64 0) Try.underlying33 (by kernel_rfl) rfl (by decide) (by decide) rfl (fun _ => rfl) (fun _ _ _ _ h => rd_Int h) (fun _ _ h => idat_inj h) ione (fun w x => own_Int_mk w x) hgd s x ho hs ys hx hy hn h

def imk (q : Int) : Int := q
end Go.Proofs.Ytbbpipbemhggdaa
