/- The laws' helpers at CllCell. -/
import Derived.Test.YtcfbfpgcfnpdgaaSS
import Derived.Test.YtcfbfpgcfnpdgaaTWlk
namespace Go.Proofs.Ytcfbfpgcfnpdgaa
open Go.RowKit
set_option linter.unusedSimpArgs false
set_option linter.unusedVariables false

structure Cll where
  cell : Int
  wk : List Wlk
  ground : Int
  outs : List (List Pcl)
  next : List Int
  ins : List Int
/-- Where a cell's slices lie. -/
structure CllH where
  a1 : Option Addr
  c1 : Nat
  a3 : Option Addr
  c3 : Nat
  a4 : Option Addr
  c4 : Nat
  a5 : Option Addr
  c5 : Nat
def sCll : Sch := .st [.int, .sl sWlk, .int, .sl (.sl sPcl), .sl .int, .sl .int]
def cllDat (c : Cll) : Dat := .s [.i c.cell, .l (c.wk.map Wlk.dat), .i c.ground, .l (c.outs.map (ldat Pcl.dat)), .l (c.next.map Dat.i), .l (c.ins.map Dat.i)]
def cllCells (c : Cll) (h : CllH) : List Value := [.int .i64 c.cell, .slice h.a1 c.wk.length h.c1, .int .i64 c.ground, .slice h.a3 c.outs.length h.c3, .slice h.a4 c.next.length h.c4, .slice h.a5 c.ins.length h.c5]
structure ReC (w : World) (c : Cll) (h : CllH) : Prop where
  r1 : Re w (.sl sWlk) [.slice h.a1 c.wk.length h.c1] (.l (c.wk.map Wlk.dat))
  r3 : Re w (.sl (.sl sPcl)) [.slice h.a3 c.outs.length h.c3] (.l (c.outs.map (ldat Pcl.dat)))
  r4 : Re w (.sl .int) [.slice h.a4 c.next.length h.c4] (.l (c.next.map Dat.i))
  r5 : Re w (.sl .int) [.slice h.a5 c.ins.length h.c5] (.l (c.ins.map Dat.i))
theorem ReC.of {w w' : World} {c : Cll} {h : CllH} (r : ReC w c h) (hE : Ext w w') : ReC w' c h := ⟨r.r1.of hE, r.r3.of hE, r.r4.of hE, r.r5.of hE⟩
structure BdC (c : Cll) : Prop where
  b1 : c.wk.length ≤ 1048576
  b3 : c.outs.length ≤ 1048576
  bo : ∀ xs ∈ c.outs, xs.length ≤ 1048576
  b4 : c.next.length ≤ 1048576
  b5 : c.ins.length ≤ 1048576
def cllLens (c : Cll) : List Nat := c.wk.length :: ((c.outs.length :: c.outs.map List.length) ++ [c.next.length, c.ins.length])
theorem BdC.mk' {c : Cll} (h : ∀ n ∈ cllLens c, (n : Int) ≤ 1048576) : BdC c := by
  have h' : ∀ n ∈ cllLens c, n ≤ 1048576 := fun n hn => by have := h n hn; omega
  unfold cllLens at h'
  refine ⟨h' _ (by simp), h' _ (by simp), fun xs hx => h' _ ?_, h' _ (by simp), h' _ (by simp)⟩
  refine List.mem_cons_of_mem _ (List.mem_append_left _ (List.mem_cons_of_mem _ (List.mem_map.2 ⟨xs, hx, rfl⟩)))

theorem OwnRL.int {lo hi : Nat} {w : World} {n : Int} {vs : List Value} {fs : List Sch} {ds : List Dat} (k : OwnRL lo hi w fs vs ds) : OwnRL lo hi w (.int :: fs) (.int .i64 n :: vs) (.i n :: ds) :=
  OwnRL.one (s := .int) (v1 := [.int .i64 n]) (d := .i n) (by unfold Own; exact ⟨⟨_, rfl, rfl⟩, rfl⟩) k
theorem OwnRL.bool {lo hi : Nat} {w : World} {n : Bool} {vs : List Value} {fs : List Sch} {ds : List Dat} (k : OwnRL lo hi w fs vs ds) : OwnRL lo hi w (.bool :: fs) (.bool n :: vs) (.b n :: ds) :=
  OwnRL.one (s := .bool) (v1 := [.bool n]) (d := .b n) (by unfold Own; exact ⟨⟨_, rfl, rfl⟩, rfl⟩) k
theorem re_slm {α : Type} {hi : Nat} {w : World} {e : Sch} {vs : List Value} {f : α → Dat} {xs : List α} (h : Rd hi w (.sl e) vs (.l (xs.map f))) : ∃ a c, vs = [.slice a xs.length c] ∧ Rd hi w (.sl e) [.slice a xs.length c] (.l (xs.map f)) := by
  have h0 := h
  unfold Rd at h
  obtain ⟨a, n, c, ds', h1, h2, h3, h4, h5⟩ := h
  simp only [Dat.l.injEq] at h2
  subst h2
  rw [List.length_map] at h3
  subst h3
  exact ⟨a, c, h1, by rw [h1] at h0; exact h0⟩
theorem dmap_of {hi : Nat} {w : World} {α : Type} {e : Sch} {f : α → Dat} (hrd : ∀ vs d, Rd hi w e vs d → ∃ x : α, d = f x) {vs : List Value} {d : Dat} (h : Rd hi w (.sl e) vs d) : ∃ xs : List α, d = .l (xs.map f) := by
  unfold Rd at h
  obtain ⟨a, n, c, ds, h1, h2, h3, h4, h5⟩ := h
  have key : ∃ xs : List α, ds = xs.map f := list_of_all fun i x hx => by
    obtain ⟨b, o, es, _, _, _, hr⟩ := h5 i x hx
    exact hrd _ _ hr
  obtain ⟨xs, rfl⟩ := key
  exact ⟨xs, h2⟩
theorem rdL_cons {hi : Nat} {w : World} {f : Sch} {fs : List Sch} {vs : List Value} {ds : List Dat} (h : RdL hi w (f :: fs) vs ds) : ∃ v1 v2 d1 d2, vs = v1 ++ v2 ∧ ds = d1 :: d2 ∧ Rd hi w f v1 d1 ∧ RdL hi w fs v2 d2 := by
  unfold RdL at h; exact h
theorem rdL_nil {hi : Nat} {w : World} {vs : List Value} {ds : List Dat} (h : RdL hi w [] vs ds) : vs = [] ∧ ds = [] := by unfold RdL at h; exact h
theorem rd_st {hi : Nat} {w : World} {fs : List Sch} {vs : List Value} {d : Dat} (h : Rd hi w (.st fs) vs d) : ∃ ds, d = .s ds ∧ RdL hi w fs vs ds := by unfold Rd at h; exact h
theorem rd_Cll {w : World} {vs : List Value} {c : Cll} (h : Re w sCll vs (cllDat c)) : ∃ h, vs = cllCells c h ∧ ReC w c h := by
  obtain ⟨ds, hd, k0⟩ := rd_st h
  clear h
  unfold cllDat at hd
  simp only [Dat.s.injEq] at hd
  subst hd
  obtain ⟨v1, v2, d1, d2, rfl, e, g0, k1⟩ := rdL_cons k0
  simp only [List.cons.injEq] at e; obtain ⟨rfl, rfl⟩ := e
  obtain ⟨x, rfl, e⟩ := rd_int g0
  simp only [Dat.i.injEq] at e; subst e
  obtain ⟨v1, v2, d1, d2, rfl, e, g1, k2⟩ := rdL_cons k1
  simp only [List.cons.injEq] at e; obtain ⟨rfl, rfl⟩ := e
  obtain ⟨a1, c1, rfl, g1⟩ := re_slm g1
  obtain ⟨v1, v2, d1, d2, rfl, e, g0, k3⟩ := rdL_cons k2
  simp only [List.cons.injEq] at e; obtain ⟨rfl, rfl⟩ := e
  obtain ⟨x, rfl, e⟩ := rd_int g0
  simp only [Dat.i.injEq] at e; subst e
  obtain ⟨v1, v2, d1, d2, rfl, e, g3, k4⟩ := rdL_cons k3
  simp only [List.cons.injEq] at e; obtain ⟨rfl, rfl⟩ := e
  obtain ⟨a3, c3, rfl, g3⟩ := re_slm g3
  obtain ⟨v1, v2, d1, d2, rfl, e, g4, k5⟩ := rdL_cons k4
  simp only [List.cons.injEq] at e; obtain ⟨rfl, rfl⟩ := e
  obtain ⟨a4, c4, rfl, g4⟩ := re_slm g4
  obtain ⟨v1, v2, d1, d2, rfl, e, g5, k6⟩ := rdL_cons k5
  simp only [List.cons.injEq] at e; obtain ⟨rfl, rfl⟩ := e
  obtain ⟨a5, c5, rfl, g5⟩ := re_slm g5
  obtain ⟨rfl, _⟩ := rdL_nil k6
  exact ⟨⟨a1, c1, a3, c3, a4, c4, a5, c5⟩, rfl, g1, g3, g4, g5⟩
theorem cll_of {hi : Nat} {w : World} {vs : List Value} {d : Dat} (h : Rd hi w sCll vs d) : ∃ c, d = cllDat c := by
  obtain ⟨ds, hd, k0⟩ := rd_st h
  clear h
  subst hd
  obtain ⟨v1, v2, d1, d2, rfl, rfl, g0, k1⟩ := rdL_cons k0
  obtain ⟨x0, _, rfl⟩ := rd_int g0
  obtain ⟨v1, v2, d1, d2, rfl, rfl, g0, k2⟩ := rdL_cons k1
  obtain ⟨x1, rfl⟩ := dmap_of (fun vs d h => by obtain ⟨x, _, rfl⟩ := rd_Wlk h; exact ⟨x, rfl⟩) g0
  obtain ⟨v1, v2, d1, d2, rfl, rfl, g0, k3⟩ := rdL_cons k2
  obtain ⟨x2, _, rfl⟩ := rd_int g0
  obtain ⟨v1, v2, d1, d2, rfl, rfl, g0, k4⟩ := rdL_cons k3
  obtain ⟨x3, rfl⟩ := dmap_of (f := ldat Pcl.dat) (fun vs d h => by obtain ⟨x, rfl⟩ := dmap_of (fun vs d h => by obtain ⟨x, _, rfl⟩ := rd_Pcl h; exact ⟨x, rfl⟩) h; exact ⟨x, rfl⟩) g0
  obtain ⟨v1, v2, d1, d2, rfl, rfl, g0, k5⟩ := rdL_cons k4
  obtain ⟨x4, rfl⟩ := dmap_of (f := Dat.i) (fun vs d h => by obtain ⟨x, _, rfl⟩ := rd_int h; exact ⟨x, rfl⟩) g0
  obtain ⟨v1, v2, d1, d2, rfl, rfl, g0, k6⟩ := rdL_cons k5
  obtain ⟨x5, rfl⟩ := dmap_of (f := Dat.i) (fun vs d h => by obtain ⟨x, _, rfl⟩ := rd_int h; exact ⟨x, rfl⟩) g0
  obtain ⟨rfl, rfl⟩ := rdL_nil k6
  exact ⟨⟨x0, x1, x2, x3, x4, x5⟩, rfl⟩
theorem open_Cll {w : World} {vs : List Value} {d : Dat} (h : Rd w.heap.size w sCll vs d) : ∃ c h, vs = cllCells c h ∧ ReC w c h := by
  obtain ⟨c, rfl⟩ := cll_of h
  obtain ⟨h', e, r⟩ := rd_Cll h
  exact ⟨c, h', e, r⟩

def MadeC (w : World) (c : Cll) (e : Ending) (w' : World) : Prop :=
  ∃ h : CllH, e = .returned (.agg #[.int .i64 c.cell, .slice h.a1 c.wk.length h.c1, .int .i64 c.ground, .slice h.a3 c.outs.length h.c3, .slice h.a4 c.next.length h.c4, .slice h.a5 c.ins.length h.c5]) ∧ Ext w w' ∧ OwnR w.heap.size w'.heap.size w' sCll (cllCells c h) (cllDat c)
theorem OwnR.cll {lo hi : Nat} {w : World} {c : Cll} {h : CllH} (o : OwnR lo hi w sCll (cllCells c h) (cllDat c)) : ReC w c h := by
  obtain ⟨h', e, r⟩ := rd_Cll o.re
  unfold cllCells at e
  simp only [List.cons.injEq, Value.slice.injEq, true_and, and_true] at e
  obtain ⟨⟨e1, e2⟩, ⟨e3, e4⟩, ⟨e5, e6⟩, e7, e8⟩ := e
  obtain ⟨a1, c1, a3, c3, a4, c4, a5, c5⟩ := h
  obtain ⟨b1, d1, b3, d3, b4, d4, b5, d5⟩ := h'
  simp only at e1 e2 e3 e4 e5 e6 e7 e8
  subst e1 e2 e3 e4 e5 e6 e7 e8
  exact r



end Go.Proofs.Ytcfbfpgcfnpdgaa
