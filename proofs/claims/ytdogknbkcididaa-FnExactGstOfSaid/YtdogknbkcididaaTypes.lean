/- The plain struct types: their cells, their data, their shapes. -/
import Derived.Test.YtdogknbkcididaaFrame
namespace Go.Proofs.Ytdogknbkcididaa
open Go.RowKit

theorem rd_bool {hi : Nat} {w : World} {vs : List Value} {d : Dat} (h : Rd hi w .bool vs d) : ∃ n, vs = [.bool n] ∧ d = .b n := by unfold Rd at h; exact h
theorem list_of_all {α β : Type} {f : α → β} : ∀ {l : List β}, (∀ (i : Nat) (x : β), l[i]? = some x → ∃ y, x = f y) → ∃ xs : List α, l = xs.map f
  | [], _ => ⟨[], rfl⟩
  | x :: l, h => by
    obtain ⟨y, hy⟩ := h 0 x rfl
    obtain ⟨xs, hxs⟩ := list_of_all (l := l) (f := f) fun i z hz => h (i + 1) z (by simpa using hz)
    exact ⟨y :: xs, by rw [hy, hxs]; rfl⟩

structure Mp where
  c : Int
  w : Int
deriving DecidableEq
def Mp.cells (x : Mp) : List Value := [.int .i64 x.c, .int .i64 x.w]
def Mp.dat (x : Mp) : Dat := .s [.i x.c, .i x.w]
def sMp : Sch := .st [.int, .int]
theorem sMp_size : sMp.size = 2 := rfl
theorem rd_Mp {hi : Nat} {w : World} {vs : List Value} {d : Dat} (h : Rd hi w sMp vs d) : ∃ x : Mp, vs = x.cells ∧ d = x.dat := by
  unfold sMp Rd at h
  obtain ⟨ds, rfl, h⟩ := h
  unfold RdL at h; obtain ⟨v1, v2, d1, d2, rfl, rfl, h1, h⟩ := h
  obtain ⟨x0, rfl, rfl⟩ := rd_int h1
  unfold RdL at h; obtain ⟨v1, v2, d1, d2, rfl, rfl, h1, h⟩ := h
  obtain ⟨x1, rfl, rfl⟩ := rd_int h1
  unfold RdL at h; obtain ⟨rfl, rfl⟩ := h
  exact ⟨⟨x0, x1⟩, rfl, rfl⟩
theorem rd_Mp_mk (hi : Nat) (w : World) (x : Mp) : Rd hi w sMp x.cells x.dat := by
  unfold sMp Rd Mp.dat
  refine ⟨_, rfl, ?_⟩
  unfold RdL; refine ⟨[.int .i64 x.c], _, _, _, rfl, rfl, by unfold Rd; exact ⟨_, rfl, rfl⟩, ?_⟩
  unfold RdL; refine ⟨[.int .i64 x.w], _, _, _, rfl, rfl, by unfold Rd; exact ⟨_, rfl, rfl⟩, ?_⟩
  unfold RdL; exact ⟨rfl, rfl⟩
theorem own_Mp_mk (w : World) (x : Mp) : Own w sMp x.cells x.dat [] := by
  unfold sMp Own Mp.dat
  refine ⟨_, rfl, ?_⟩
  unfold OwnL; refine ⟨[.int .i64 x.c], _, _, _, [], [], rfl, rfl, rfl, by unfold Own; exact ⟨⟨_, rfl, rfl⟩, rfl⟩, ?_⟩
  unfold OwnL; refine ⟨[.int .i64 x.w], _, _, _, [], [], rfl, rfl, rfl, by unfold Own; exact ⟨⟨_, rfl, rfl⟩, rfl⟩, ?_⟩
  unfold OwnL; exact ⟨rfl, rfl, rfl⟩
theorem Mp.cells_length (x : Mp) : x.cells.length = 2 := rfl
theorem Mp.dat_inj {x y : Mp} (h : x.dat = y.dat) : x = y := by
  cases x; cases y
  simp only [Mp.dat, Dat.s.injEq, List.cons.injEq, Dat.i.injEq, and_true] at h
  simp only [Mp.mk.injEq]; exact h
/-- An element of a slice of these. -/
theorem at_Mp {hi : Nat} {w : World} {a : Option Addr} {n c : Nat} {xs : List Mp} (h : Rd hi w (.sl sMp) [.slice a n c] (.l (xs.map Mp.dat))) {k : Nat} (hk : k < n) :
    ∃ x b o, xs[k]? = some x ∧ a = some (⟨b, o, none⟩ : Addr) ∧ b < hi ∧ w.cell? ⟨b, o + k * 2, none⟩ = some (.int .i64 x.c) ∧ w.cell? ⟨b, o + k * 2 + 1, none⟩ = some (.int .i64 x.w) := by
  unfold Rd at h
  obtain ⟨a', n', c', ds, h1, h2, h3, h4, h5⟩ := h
  simp only [List.cons.injEq, Value.slice.injEq, and_true] at h1
  obtain ⟨rfl, rfl, rfl⟩ := h1
  simp only [Dat.l.injEq] at h2
  subst h2
  have hk' : k < xs.length := by rw [List.length_map] at h3; omega
  obtain ⟨b, o, es, ha, hb, hc, hr⟩ := h5 k (xs[k].dat) (by simp [hk'])
  obtain ⟨y, rfl, hy⟩ := rd_Mp hr
  have e := Mp.dat_inj hy
  refine ⟨y, b, o, by rw [← e]; simp [hk'], ha, hb, hc 0 _ rfl, hc 1 _ rfl⟩

structure Wlk where
  id : Int
  at_ : Int
  coins : Int
  seq : Int
  last : Int
deriving DecidableEq
def Wlk.cells (x : Wlk) : List Value := [.int .i64 x.id, .int .i64 x.at_, .int .i64 x.coins, .int .i64 x.seq, .int .i64 x.last]
def Wlk.dat (x : Wlk) : Dat := .s [.i x.id, .i x.at_, .i x.coins, .i x.seq, .i x.last]
def sWlk : Sch := .st [.int, .int, .int, .int, .int]
theorem sWlk_size : sWlk.size = 5 := rfl
theorem rd_Wlk {hi : Nat} {w : World} {vs : List Value} {d : Dat} (h : Rd hi w sWlk vs d) : ∃ x : Wlk, vs = x.cells ∧ d = x.dat := by
  unfold sWlk Rd at h
  obtain ⟨ds, rfl, h⟩ := h
  unfold RdL at h; obtain ⟨v1, v2, d1, d2, rfl, rfl, h1, h⟩ := h
  obtain ⟨x0, rfl, rfl⟩ := rd_int h1
  unfold RdL at h; obtain ⟨v1, v2, d1, d2, rfl, rfl, h1, h⟩ := h
  obtain ⟨x1, rfl, rfl⟩ := rd_int h1
  unfold RdL at h; obtain ⟨v1, v2, d1, d2, rfl, rfl, h1, h⟩ := h
  obtain ⟨x2, rfl, rfl⟩ := rd_int h1
  unfold RdL at h; obtain ⟨v1, v2, d1, d2, rfl, rfl, h1, h⟩ := h
  obtain ⟨x3, rfl, rfl⟩ := rd_int h1
  unfold RdL at h; obtain ⟨v1, v2, d1, d2, rfl, rfl, h1, h⟩ := h
  obtain ⟨x4, rfl, rfl⟩ := rd_int h1
  unfold RdL at h; obtain ⟨rfl, rfl⟩ := h
  exact ⟨⟨x0, x1, x2, x3, x4⟩, rfl, rfl⟩
theorem rd_Wlk_mk (hi : Nat) (w : World) (x : Wlk) : Rd hi w sWlk x.cells x.dat := by
  unfold sWlk Rd Wlk.dat
  refine ⟨_, rfl, ?_⟩
  unfold RdL; refine ⟨[.int .i64 x.id], _, _, _, rfl, rfl, by unfold Rd; exact ⟨_, rfl, rfl⟩, ?_⟩
  unfold RdL; refine ⟨[.int .i64 x.at_], _, _, _, rfl, rfl, by unfold Rd; exact ⟨_, rfl, rfl⟩, ?_⟩
  unfold RdL; refine ⟨[.int .i64 x.coins], _, _, _, rfl, rfl, by unfold Rd; exact ⟨_, rfl, rfl⟩, ?_⟩
  unfold RdL; refine ⟨[.int .i64 x.seq], _, _, _, rfl, rfl, by unfold Rd; exact ⟨_, rfl, rfl⟩, ?_⟩
  unfold RdL; refine ⟨[.int .i64 x.last], _, _, _, rfl, rfl, by unfold Rd; exact ⟨_, rfl, rfl⟩, ?_⟩
  unfold RdL; exact ⟨rfl, rfl⟩
theorem own_Wlk_mk (w : World) (x : Wlk) : Own w sWlk x.cells x.dat [] := by
  unfold sWlk Own Wlk.dat
  refine ⟨_, rfl, ?_⟩
  unfold OwnL; refine ⟨[.int .i64 x.id], _, _, _, [], [], rfl, rfl, rfl, by unfold Own; exact ⟨⟨_, rfl, rfl⟩, rfl⟩, ?_⟩
  unfold OwnL; refine ⟨[.int .i64 x.at_], _, _, _, [], [], rfl, rfl, rfl, by unfold Own; exact ⟨⟨_, rfl, rfl⟩, rfl⟩, ?_⟩
  unfold OwnL; refine ⟨[.int .i64 x.coins], _, _, _, [], [], rfl, rfl, rfl, by unfold Own; exact ⟨⟨_, rfl, rfl⟩, rfl⟩, ?_⟩
  unfold OwnL; refine ⟨[.int .i64 x.seq], _, _, _, [], [], rfl, rfl, rfl, by unfold Own; exact ⟨⟨_, rfl, rfl⟩, rfl⟩, ?_⟩
  unfold OwnL; refine ⟨[.int .i64 x.last], _, _, _, [], [], rfl, rfl, rfl, by unfold Own; exact ⟨⟨_, rfl, rfl⟩, rfl⟩, ?_⟩
  unfold OwnL; exact ⟨rfl, rfl, rfl⟩
theorem Wlk.cells_length (x : Wlk) : x.cells.length = 5 := rfl
theorem Wlk.dat_inj {x y : Wlk} (h : x.dat = y.dat) : x = y := by
  cases x; cases y
  simp only [Wlk.dat, Dat.s.injEq, List.cons.injEq, Dat.i.injEq, and_true] at h
  simp only [Wlk.mk.injEq]; exact h
/-- An element of a slice of these. -/
theorem at_Wlk {hi : Nat} {w : World} {a : Option Addr} {n c : Nat} {xs : List Wlk} (h : Rd hi w (.sl sWlk) [.slice a n c] (.l (xs.map Wlk.dat))) {k : Nat} (hk : k < n) :
    ∃ x b o, xs[k]? = some x ∧ a = some (⟨b, o, none⟩ : Addr) ∧ b < hi ∧ w.cell? ⟨b, o + k * 5, none⟩ = some (.int .i64 x.id) ∧ w.cell? ⟨b, o + k * 5 + 1, none⟩ = some (.int .i64 x.at_) ∧ w.cell? ⟨b, o + k * 5 + 2, none⟩ = some (.int .i64 x.coins) ∧ w.cell? ⟨b, o + k * 5 + 3, none⟩ = some (.int .i64 x.seq) ∧ w.cell? ⟨b, o + k * 5 + 4, none⟩ = some (.int .i64 x.last) := by
  unfold Rd at h
  obtain ⟨a', n', c', ds, h1, h2, h3, h4, h5⟩ := h
  simp only [List.cons.injEq, Value.slice.injEq, and_true] at h1
  obtain ⟨rfl, rfl, rfl⟩ := h1
  simp only [Dat.l.injEq] at h2
  subst h2
  have hk' : k < xs.length := by rw [List.length_map] at h3; omega
  obtain ⟨b, o, es, ha, hb, hc, hr⟩ := h5 k (xs[k].dat) (by simp [hk'])
  obtain ⟨y, rfl, hy⟩ := rd_Wlk hr
  have e := Wlk.dat_inj hy
  refine ⟨y, b, o, by rw [← e]; simp [hk'], ha, hb, hc 0 _ rfl, hc 1 _ rfl, hc 2 _ rfl, hc 3 _ rfl, hc 4 _ rfl⟩

structure Ord where
  who : Int
  seq : Int
  kind : Int
  to_ : Int
  n : Int
deriving DecidableEq
def Ord.cells (x : Ord) : List Value := [.int .i64 x.who, .int .i64 x.seq, .int .i64 x.kind, .int .i64 x.to_, .int .i64 x.n]
def Ord.dat (x : Ord) : Dat := .s [.i x.who, .i x.seq, .i x.kind, .i x.to_, .i x.n]
def sOrd : Sch := .st [.int, .int, .int, .int, .int]
theorem sOrd_size : sOrd.size = 5 := rfl
theorem rd_Ord {hi : Nat} {w : World} {vs : List Value} {d : Dat} (h : Rd hi w sOrd vs d) : ∃ x : Ord, vs = x.cells ∧ d = x.dat := by
  unfold sOrd Rd at h
  obtain ⟨ds, rfl, h⟩ := h
  unfold RdL at h; obtain ⟨v1, v2, d1, d2, rfl, rfl, h1, h⟩ := h
  obtain ⟨x0, rfl, rfl⟩ := rd_int h1
  unfold RdL at h; obtain ⟨v1, v2, d1, d2, rfl, rfl, h1, h⟩ := h
  obtain ⟨x1, rfl, rfl⟩ := rd_int h1
  unfold RdL at h; obtain ⟨v1, v2, d1, d2, rfl, rfl, h1, h⟩ := h
  obtain ⟨x2, rfl, rfl⟩ := rd_int h1
  unfold RdL at h; obtain ⟨v1, v2, d1, d2, rfl, rfl, h1, h⟩ := h
  obtain ⟨x3, rfl, rfl⟩ := rd_int h1
  unfold RdL at h; obtain ⟨v1, v2, d1, d2, rfl, rfl, h1, h⟩ := h
  obtain ⟨x4, rfl, rfl⟩ := rd_int h1
  unfold RdL at h; obtain ⟨rfl, rfl⟩ := h
  exact ⟨⟨x0, x1, x2, x3, x4⟩, rfl, rfl⟩
theorem rd_Ord_mk (hi : Nat) (w : World) (x : Ord) : Rd hi w sOrd x.cells x.dat := by
  unfold sOrd Rd Ord.dat
  refine ⟨_, rfl, ?_⟩
  unfold RdL; refine ⟨[.int .i64 x.who], _, _, _, rfl, rfl, by unfold Rd; exact ⟨_, rfl, rfl⟩, ?_⟩
  unfold RdL; refine ⟨[.int .i64 x.seq], _, _, _, rfl, rfl, by unfold Rd; exact ⟨_, rfl, rfl⟩, ?_⟩
  unfold RdL; refine ⟨[.int .i64 x.kind], _, _, _, rfl, rfl, by unfold Rd; exact ⟨_, rfl, rfl⟩, ?_⟩
  unfold RdL; refine ⟨[.int .i64 x.to_], _, _, _, rfl, rfl, by unfold Rd; exact ⟨_, rfl, rfl⟩, ?_⟩
  unfold RdL; refine ⟨[.int .i64 x.n], _, _, _, rfl, rfl, by unfold Rd; exact ⟨_, rfl, rfl⟩, ?_⟩
  unfold RdL; exact ⟨rfl, rfl⟩
theorem own_Ord_mk (w : World) (x : Ord) : Own w sOrd x.cells x.dat [] := by
  unfold sOrd Own Ord.dat
  refine ⟨_, rfl, ?_⟩
  unfold OwnL; refine ⟨[.int .i64 x.who], _, _, _, [], [], rfl, rfl, rfl, by unfold Own; exact ⟨⟨_, rfl, rfl⟩, rfl⟩, ?_⟩
  unfold OwnL; refine ⟨[.int .i64 x.seq], _, _, _, [], [], rfl, rfl, rfl, by unfold Own; exact ⟨⟨_, rfl, rfl⟩, rfl⟩, ?_⟩
  unfold OwnL; refine ⟨[.int .i64 x.kind], _, _, _, [], [], rfl, rfl, rfl, by unfold Own; exact ⟨⟨_, rfl, rfl⟩, rfl⟩, ?_⟩
  unfold OwnL; refine ⟨[.int .i64 x.to_], _, _, _, [], [], rfl, rfl, rfl, by unfold Own; exact ⟨⟨_, rfl, rfl⟩, rfl⟩, ?_⟩
  unfold OwnL; refine ⟨[.int .i64 x.n], _, _, _, [], [], rfl, rfl, rfl, by unfold Own; exact ⟨⟨_, rfl, rfl⟩, rfl⟩, ?_⟩
  unfold OwnL; exact ⟨rfl, rfl, rfl⟩
theorem Ord.cells_length (x : Ord) : x.cells.length = 5 := rfl
theorem Ord.dat_inj {x y : Ord} (h : x.dat = y.dat) : x = y := by
  cases x; cases y
  simp only [Ord.dat, Dat.s.injEq, List.cons.injEq, Dat.i.injEq, and_true] at h
  simp only [Ord.mk.injEq]; exact h
/-- An element of a slice of these. -/
theorem at_Ord {hi : Nat} {w : World} {a : Option Addr} {n c : Nat} {xs : List Ord} (h : Rd hi w (.sl sOrd) [.slice a n c] (.l (xs.map Ord.dat))) {k : Nat} (hk : k < n) :
    ∃ x b o, xs[k]? = some x ∧ a = some (⟨b, o, none⟩ : Addr) ∧ b < hi ∧ w.cell? ⟨b, o + k * 5, none⟩ = some (.int .i64 x.who) ∧ w.cell? ⟨b, o + k * 5 + 1, none⟩ = some (.int .i64 x.seq) ∧ w.cell? ⟨b, o + k * 5 + 2, none⟩ = some (.int .i64 x.kind) ∧ w.cell? ⟨b, o + k * 5 + 3, none⟩ = some (.int .i64 x.to_) ∧ w.cell? ⟨b, o + k * 5 + 4, none⟩ = some (.int .i64 x.n) := by
  unfold Rd at h
  obtain ⟨a', n', c', ds, h1, h2, h3, h4, h5⟩ := h
  simp only [List.cons.injEq, Value.slice.injEq, and_true] at h1
  obtain ⟨rfl, rfl, rfl⟩ := h1
  simp only [Dat.l.injEq] at h2
  subst h2
  have hk' : k < xs.length := by rw [List.length_map] at h3; omega
  obtain ⟨b, o, es, ha, hb, hc, hr⟩ := h5 k (xs[k].dat) (by simp [hk'])
  obtain ⟨y, rfl, hy⟩ := rd_Ord hr
  have e := Ord.dat_inj hy
  refine ⟨y, b, o, by rw [← e]; simp [hk'], ha, hb, hc 0 _ rfl, hc 1 _ rfl, hc 2 _ rfl, hc 3 _ rfl, hc 4 _ rfl⟩

structure Pcl where
  n : Int
  kind : Int
  wk : Wlk
  coins : Int
deriving DecidableEq
def Pcl.cells (x : Pcl) : List Value := [.int .i64 x.n, .int .i64 x.kind, .int .i64 x.wk.id, .int .i64 x.wk.at_, .int .i64 x.wk.coins, .int .i64 x.wk.seq, .int .i64 x.wk.last, .int .i64 x.coins]
def Pcl.dat (x : Pcl) : Dat := .s [.i x.n, .i x.kind, x.wk.dat, .i x.coins]
def sPcl : Sch := .st [.int, .int, sWlk, .int]
theorem sPcl_size : sPcl.size = 8 := rfl
theorem rd_Pcl {hi : Nat} {w : World} {vs : List Value} {d : Dat} (h : Rd hi w sPcl vs d) : ∃ x : Pcl, vs = x.cells ∧ d = x.dat := by
  unfold sPcl Rd at h
  obtain ⟨ds, rfl, h⟩ := h
  unfold RdL at h; obtain ⟨v1, v2, d1, d2, rfl, rfl, h1, h⟩ := h
  obtain ⟨x0, rfl, rfl⟩ := rd_int h1
  unfold RdL at h; obtain ⟨v1, v2, d1, d2, rfl, rfl, h1, h⟩ := h
  obtain ⟨x1, rfl, rfl⟩ := rd_int h1
  unfold RdL at h; obtain ⟨v1, v2, d1, d2, rfl, rfl, h1, h⟩ := h
  obtain ⟨x2, rfl, rfl⟩ := rd_Wlk h1
  unfold RdL at h; obtain ⟨v1, v2, d1, d2, rfl, rfl, h1, h⟩ := h
  obtain ⟨x3, rfl, rfl⟩ := rd_int h1
  unfold RdL at h; obtain ⟨rfl, rfl⟩ := h
  exact ⟨⟨x0, x1, x2, x3⟩, rfl, rfl⟩
theorem rd_Pcl_mk (hi : Nat) (w : World) (x : Pcl) : Rd hi w sPcl x.cells x.dat := by
  unfold sPcl Rd Pcl.dat
  refine ⟨_, rfl, ?_⟩
  unfold RdL; refine ⟨[.int .i64 x.n], _, _, _, rfl, rfl, by unfold Rd; exact ⟨_, rfl, rfl⟩, ?_⟩
  unfold RdL; refine ⟨[.int .i64 x.kind], _, _, _, rfl, rfl, by unfold Rd; exact ⟨_, rfl, rfl⟩, ?_⟩
  unfold RdL; refine ⟨x.wk.cells, _, _, _, rfl, rfl, rd_Wlk_mk hi w x.wk, ?_⟩
  unfold RdL; refine ⟨[.int .i64 x.coins], _, _, _, rfl, rfl, by unfold Rd; exact ⟨_, rfl, rfl⟩, ?_⟩
  unfold RdL; exact ⟨rfl, rfl⟩
theorem own_Pcl_mk (w : World) (x : Pcl) : Own w sPcl x.cells x.dat [] := by
  unfold sPcl Own Pcl.dat
  refine ⟨_, rfl, ?_⟩
  unfold OwnL; refine ⟨[.int .i64 x.n], _, _, _, [], [], rfl, rfl, rfl, by unfold Own; exact ⟨⟨_, rfl, rfl⟩, rfl⟩, ?_⟩
  unfold OwnL; refine ⟨[.int .i64 x.kind], _, _, _, [], [], rfl, rfl, rfl, by unfold Own; exact ⟨⟨_, rfl, rfl⟩, rfl⟩, ?_⟩
  unfold OwnL; refine ⟨x.wk.cells, _, _, _, [], [], rfl, rfl, rfl, own_Wlk_mk w x.wk, ?_⟩
  unfold OwnL; refine ⟨[.int .i64 x.coins], _, _, _, [], [], rfl, rfl, rfl, by unfold Own; exact ⟨⟨_, rfl, rfl⟩, rfl⟩, ?_⟩
  unfold OwnL; exact ⟨rfl, rfl, rfl⟩
theorem Pcl.cells_length (x : Pcl) : x.cells.length = 8 := rfl
theorem Pcl.dat_inj {x y : Pcl} (h : x.dat = y.dat) : x = y := by
  cases x; cases y
  simp only [Pcl.dat, Dat.s.injEq, List.cons.injEq, Dat.i.injEq, and_true] at h
  obtain ⟨h0, h1, h2, h3⟩ := h
  simp only [Pcl.mk.injEq]
  exact ⟨h0, h1, Wlk.dat_inj h2, h3⟩
/-- An element of a slice of these. -/
theorem at_Pcl {hi : Nat} {w : World} {a : Option Addr} {n c : Nat} {xs : List Pcl} (h : Rd hi w (.sl sPcl) [.slice a n c] (.l (xs.map Pcl.dat))) {k : Nat} (hk : k < n) :
    ∃ x b o, xs[k]? = some x ∧ a = some (⟨b, o, none⟩ : Addr) ∧ b < hi ∧ w.cell? ⟨b, o + k * 8, none⟩ = some (.int .i64 x.n) ∧ w.cell? ⟨b, o + k * 8 + 1, none⟩ = some (.int .i64 x.kind) ∧ w.cell? ⟨b, o + k * 8 + 2, none⟩ = some (.int .i64 x.wk.id) ∧ w.cell? ⟨b, o + k * 8 + 3, none⟩ = some (.int .i64 x.wk.at_) ∧ w.cell? ⟨b, o + k * 8 + 4, none⟩ = some (.int .i64 x.wk.coins) ∧ w.cell? ⟨b, o + k * 8 + 5, none⟩ = some (.int .i64 x.wk.seq) ∧ w.cell? ⟨b, o + k * 8 + 6, none⟩ = some (.int .i64 x.wk.last) ∧ w.cell? ⟨b, o + k * 8 + 7, none⟩ = some (.int .i64 x.coins) := by
  unfold Rd at h
  obtain ⟨a', n', c', ds, h1, h2, h3, h4, h5⟩ := h
  simp only [List.cons.injEq, Value.slice.injEq, and_true] at h1
  obtain ⟨rfl, rfl, rfl⟩ := h1
  simp only [Dat.l.injEq] at h2
  subst h2
  have hk' : k < xs.length := by rw [List.length_map] at h3; omega
  obtain ⟨b, o, es, ha, hb, hc, hr⟩ := h5 k (xs[k].dat) (by simp [hk'])
  obtain ⟨y, rfl, hy⟩ := rd_Pcl hr
  have e := Pcl.dat_inj hy
  refine ⟨y, b, o, by rw [← e]; simp [hk'], ha, hb, hc 0 _ rfl, hc 1 _ rfl, hc 2 _ rfl, hc 3 _ rfl, hc 4 _ rfl, hc 5 _ rfl, hc 6 _ rfl, hc 7 _ rfl⟩

structure Gst where
  src : Int
  count : Int
  wk : Wlk
deriving DecidableEq
def Gst.cells (x : Gst) : List Value := [.int .i64 x.src, .int .i64 x.count, .int .i64 x.wk.id, .int .i64 x.wk.at_, .int .i64 x.wk.coins, .int .i64 x.wk.seq, .int .i64 x.wk.last]
def Gst.dat (x : Gst) : Dat := .s [.i x.src, .i x.count, x.wk.dat]
def sGst : Sch := .st [.int, .int, sWlk]
theorem sGst_size : sGst.size = 7 := rfl
theorem rd_Gst {hi : Nat} {w : World} {vs : List Value} {d : Dat} (h : Rd hi w sGst vs d) : ∃ x : Gst, vs = x.cells ∧ d = x.dat := by
  unfold sGst Rd at h
  obtain ⟨ds, rfl, h⟩ := h
  unfold RdL at h; obtain ⟨v1, v2, d1, d2, rfl, rfl, h1, h⟩ := h
  obtain ⟨x0, rfl, rfl⟩ := rd_int h1
  unfold RdL at h; obtain ⟨v1, v2, d1, d2, rfl, rfl, h1, h⟩ := h
  obtain ⟨x1, rfl, rfl⟩ := rd_int h1
  unfold RdL at h; obtain ⟨v1, v2, d1, d2, rfl, rfl, h1, h⟩ := h
  obtain ⟨x2, rfl, rfl⟩ := rd_Wlk h1
  unfold RdL at h; obtain ⟨rfl, rfl⟩ := h
  exact ⟨⟨x0, x1, x2⟩, rfl, rfl⟩
theorem rd_Gst_mk (hi : Nat) (w : World) (x : Gst) : Rd hi w sGst x.cells x.dat := by
  unfold sGst Rd Gst.dat
  refine ⟨_, rfl, ?_⟩
  unfold RdL; refine ⟨[.int .i64 x.src], _, _, _, rfl, rfl, by unfold Rd; exact ⟨_, rfl, rfl⟩, ?_⟩
  unfold RdL; refine ⟨[.int .i64 x.count], _, _, _, rfl, rfl, by unfold Rd; exact ⟨_, rfl, rfl⟩, ?_⟩
  unfold RdL; refine ⟨x.wk.cells, _, _, _, rfl, rfl, rd_Wlk_mk hi w x.wk, ?_⟩
  unfold RdL; exact ⟨rfl, rfl⟩
theorem own_Gst_mk (w : World) (x : Gst) : Own w sGst x.cells x.dat [] := by
  unfold sGst Own Gst.dat
  refine ⟨_, rfl, ?_⟩
  unfold OwnL; refine ⟨[.int .i64 x.src], _, _, _, [], [], rfl, rfl, rfl, by unfold Own; exact ⟨⟨_, rfl, rfl⟩, rfl⟩, ?_⟩
  unfold OwnL; refine ⟨[.int .i64 x.count], _, _, _, [], [], rfl, rfl, rfl, by unfold Own; exact ⟨⟨_, rfl, rfl⟩, rfl⟩, ?_⟩
  unfold OwnL; refine ⟨x.wk.cells, _, _, _, [], [], rfl, rfl, rfl, own_Wlk_mk w x.wk, ?_⟩
  unfold OwnL; exact ⟨rfl, rfl, rfl⟩
theorem Gst.cells_length (x : Gst) : x.cells.length = 7 := rfl
theorem Gst.dat_inj {x y : Gst} (h : x.dat = y.dat) : x = y := by
  cases x; cases y
  simp only [Gst.dat, Dat.s.injEq, List.cons.injEq, Dat.i.injEq, and_true] at h
  obtain ⟨h0, h1, h2⟩ := h
  simp only [Gst.mk.injEq]
  exact ⟨h0, h1, Wlk.dat_inj h2⟩
/-- An element of a slice of these. -/
theorem at_Gst {hi : Nat} {w : World} {a : Option Addr} {n c : Nat} {xs : List Gst} (h : Rd hi w (.sl sGst) [.slice a n c] (.l (xs.map Gst.dat))) {k : Nat} (hk : k < n) :
    ∃ x b o, xs[k]? = some x ∧ a = some (⟨b, o, none⟩ : Addr) ∧ b < hi ∧ w.cell? ⟨b, o + k * 7, none⟩ = some (.int .i64 x.src) ∧ w.cell? ⟨b, o + k * 7 + 1, none⟩ = some (.int .i64 x.count) ∧ w.cell? ⟨b, o + k * 7 + 2, none⟩ = some (.int .i64 x.wk.id) ∧ w.cell? ⟨b, o + k * 7 + 3, none⟩ = some (.int .i64 x.wk.at_) ∧ w.cell? ⟨b, o + k * 7 + 4, none⟩ = some (.int .i64 x.wk.coins) ∧ w.cell? ⟨b, o + k * 7 + 5, none⟩ = some (.int .i64 x.wk.seq) ∧ w.cell? ⟨b, o + k * 7 + 6, none⟩ = some (.int .i64 x.wk.last) := by
  unfold Rd at h
  obtain ⟨a', n', c', ds, h1, h2, h3, h4, h5⟩ := h
  simp only [List.cons.injEq, Value.slice.injEq, and_true] at h1
  obtain ⟨rfl, rfl, rfl⟩ := h1
  simp only [Dat.l.injEq] at h2
  subst h2
  have hk' : k < xs.length := by rw [List.length_map] at h3; omega
  obtain ⟨b, o, es, ha, hb, hc, hr⟩ := h5 k (xs[k].dat) (by simp [hk'])
  obtain ⟨y, rfl, hy⟩ := rd_Gst hr
  have e := Gst.dat_inj hy
  refine ⟨y, b, o, by rw [← e]; simp [hk'], ha, hb, hc 0 _ rfl, hc 1 _ rfl, hc 2 _ rfl, hc 3 _ rfl, hc 4 _ rfl, hc 5 _ rfl, hc 6 _ rfl⟩

structure Msg where
  kind : Int
  to_ : Int
  cell : Int
  side : Int
  n : Int
  ord : Ord
  pcl : Pcl
  gst : Gst
deriving DecidableEq
def Msg.cells (x : Msg) : List Value := [.int .i64 x.kind, .int .i64 x.to_, .int .i64 x.cell, .int .i64 x.side, .int .i64 x.n, .int .i64 x.ord.who, .int .i64 x.ord.seq, .int .i64 x.ord.kind, .int .i64 x.ord.to_, .int .i64 x.ord.n, .int .i64 x.pcl.n, .int .i64 x.pcl.kind, .int .i64 x.pcl.wk.id, .int .i64 x.pcl.wk.at_, .int .i64 x.pcl.wk.coins, .int .i64 x.pcl.wk.seq, .int .i64 x.pcl.wk.last, .int .i64 x.pcl.coins, .int .i64 x.gst.src, .int .i64 x.gst.count, .int .i64 x.gst.wk.id, .int .i64 x.gst.wk.at_, .int .i64 x.gst.wk.coins, .int .i64 x.gst.wk.seq, .int .i64 x.gst.wk.last]
def Msg.dat (x : Msg) : Dat := .s [.i x.kind, .i x.to_, .i x.cell, .i x.side, .i x.n, x.ord.dat, x.pcl.dat, x.gst.dat]
def sMsg : Sch := .st [.int, .int, .int, .int, .int, sOrd, sPcl, sGst]
theorem sMsg_size : sMsg.size = 25 := rfl
theorem rd_Msg {hi : Nat} {w : World} {vs : List Value} {d : Dat} (h : Rd hi w sMsg vs d) : ∃ x : Msg, vs = x.cells ∧ d = x.dat := by
  unfold sMsg Rd at h
  obtain ⟨ds, rfl, h⟩ := h
  unfold RdL at h; obtain ⟨v1, v2, d1, d2, rfl, rfl, h1, h⟩ := h
  obtain ⟨x0, rfl, rfl⟩ := rd_int h1
  unfold RdL at h; obtain ⟨v1, v2, d1, d2, rfl, rfl, h1, h⟩ := h
  obtain ⟨x1, rfl, rfl⟩ := rd_int h1
  unfold RdL at h; obtain ⟨v1, v2, d1, d2, rfl, rfl, h1, h⟩ := h
  obtain ⟨x2, rfl, rfl⟩ := rd_int h1
  unfold RdL at h; obtain ⟨v1, v2, d1, d2, rfl, rfl, h1, h⟩ := h
  obtain ⟨x3, rfl, rfl⟩ := rd_int h1
  unfold RdL at h; obtain ⟨v1, v2, d1, d2, rfl, rfl, h1, h⟩ := h
  obtain ⟨x4, rfl, rfl⟩ := rd_int h1
  unfold RdL at h; obtain ⟨v1, v2, d1, d2, rfl, rfl, h1, h⟩ := h
  obtain ⟨x5, rfl, rfl⟩ := rd_Ord h1
  unfold RdL at h; obtain ⟨v1, v2, d1, d2, rfl, rfl, h1, h⟩ := h
  obtain ⟨x6, rfl, rfl⟩ := rd_Pcl h1
  unfold RdL at h; obtain ⟨v1, v2, d1, d2, rfl, rfl, h1, h⟩ := h
  obtain ⟨x7, rfl, rfl⟩ := rd_Gst h1
  unfold RdL at h; obtain ⟨rfl, rfl⟩ := h
  exact ⟨⟨x0, x1, x2, x3, x4, x5, x6, x7⟩, rfl, rfl⟩
theorem rd_Msg_mk (hi : Nat) (w : World) (x : Msg) : Rd hi w sMsg x.cells x.dat := by
  unfold sMsg Rd Msg.dat
  refine ⟨_, rfl, ?_⟩
  unfold RdL; refine ⟨[.int .i64 x.kind], _, _, _, rfl, rfl, by unfold Rd; exact ⟨_, rfl, rfl⟩, ?_⟩
  unfold RdL; refine ⟨[.int .i64 x.to_], _, _, _, rfl, rfl, by unfold Rd; exact ⟨_, rfl, rfl⟩, ?_⟩
  unfold RdL; refine ⟨[.int .i64 x.cell], _, _, _, rfl, rfl, by unfold Rd; exact ⟨_, rfl, rfl⟩, ?_⟩
  unfold RdL; refine ⟨[.int .i64 x.side], _, _, _, rfl, rfl, by unfold Rd; exact ⟨_, rfl, rfl⟩, ?_⟩
  unfold RdL; refine ⟨[.int .i64 x.n], _, _, _, rfl, rfl, by unfold Rd; exact ⟨_, rfl, rfl⟩, ?_⟩
  unfold RdL; refine ⟨x.ord.cells, _, _, _, rfl, rfl, rd_Ord_mk hi w x.ord, ?_⟩
  unfold RdL; refine ⟨x.pcl.cells, _, _, _, rfl, rfl, rd_Pcl_mk hi w x.pcl, ?_⟩
  unfold RdL; refine ⟨x.gst.cells, _, _, _, rfl, rfl, rd_Gst_mk hi w x.gst, ?_⟩
  unfold RdL; exact ⟨rfl, rfl⟩
theorem own_Msg_mk (w : World) (x : Msg) : Own w sMsg x.cells x.dat [] := by
  unfold sMsg Own Msg.dat
  refine ⟨_, rfl, ?_⟩
  unfold OwnL; refine ⟨[.int .i64 x.kind], _, _, _, [], [], rfl, rfl, rfl, by unfold Own; exact ⟨⟨_, rfl, rfl⟩, rfl⟩, ?_⟩
  unfold OwnL; refine ⟨[.int .i64 x.to_], _, _, _, [], [], rfl, rfl, rfl, by unfold Own; exact ⟨⟨_, rfl, rfl⟩, rfl⟩, ?_⟩
  unfold OwnL; refine ⟨[.int .i64 x.cell], _, _, _, [], [], rfl, rfl, rfl, by unfold Own; exact ⟨⟨_, rfl, rfl⟩, rfl⟩, ?_⟩
  unfold OwnL; refine ⟨[.int .i64 x.side], _, _, _, [], [], rfl, rfl, rfl, by unfold Own; exact ⟨⟨_, rfl, rfl⟩, rfl⟩, ?_⟩
  unfold OwnL; refine ⟨[.int .i64 x.n], _, _, _, [], [], rfl, rfl, rfl, by unfold Own; exact ⟨⟨_, rfl, rfl⟩, rfl⟩, ?_⟩
  unfold OwnL; refine ⟨x.ord.cells, _, _, _, [], [], rfl, rfl, rfl, own_Ord_mk w x.ord, ?_⟩
  unfold OwnL; refine ⟨x.pcl.cells, _, _, _, [], [], rfl, rfl, rfl, own_Pcl_mk w x.pcl, ?_⟩
  unfold OwnL; refine ⟨x.gst.cells, _, _, _, [], [], rfl, rfl, rfl, own_Gst_mk w x.gst, ?_⟩
  unfold OwnL; exact ⟨rfl, rfl, rfl⟩
theorem Msg.cells_length (x : Msg) : x.cells.length = 25 := rfl
theorem Msg.dat_inj {x y : Msg} (h : x.dat = y.dat) : x = y := by
  cases x; cases y
  simp only [Msg.dat, Dat.s.injEq, List.cons.injEq, Dat.i.injEq, and_true] at h
  obtain ⟨h0, h1, h2, h3, h4, h5, h6, h7⟩ := h
  simp only [Msg.mk.injEq]
  exact ⟨h0, h1, h2, h3, h4, Ord.dat_inj h5, Pcl.dat_inj h6, Gst.dat_inj h7⟩
/-- An element of a slice of these. -/
theorem at_Msg {hi : Nat} {w : World} {a : Option Addr} {n c : Nat} {xs : List Msg} (h : Rd hi w (.sl sMsg) [.slice a n c] (.l (xs.map Msg.dat))) {k : Nat} (hk : k < n) :
    ∃ x b o, xs[k]? = some x ∧ a = some (⟨b, o, none⟩ : Addr) ∧ b < hi ∧ w.cell? ⟨b, o + k * 25, none⟩ = some (.int .i64 x.kind) ∧ w.cell? ⟨b, o + k * 25 + 1, none⟩ = some (.int .i64 x.to_) ∧ w.cell? ⟨b, o + k * 25 + 2, none⟩ = some (.int .i64 x.cell) ∧ w.cell? ⟨b, o + k * 25 + 3, none⟩ = some (.int .i64 x.side) ∧ w.cell? ⟨b, o + k * 25 + 4, none⟩ = some (.int .i64 x.n) ∧ w.cell? ⟨b, o + k * 25 + 5, none⟩ = some (.int .i64 x.ord.who) ∧ w.cell? ⟨b, o + k * 25 + 6, none⟩ = some (.int .i64 x.ord.seq) ∧ w.cell? ⟨b, o + k * 25 + 7, none⟩ = some (.int .i64 x.ord.kind) ∧ w.cell? ⟨b, o + k * 25 + 8, none⟩ = some (.int .i64 x.ord.to_) ∧ w.cell? ⟨b, o + k * 25 + 9, none⟩ = some (.int .i64 x.ord.n) ∧ w.cell? ⟨b, o + k * 25 + 10, none⟩ = some (.int .i64 x.pcl.n) ∧ w.cell? ⟨b, o + k * 25 + 11, none⟩ = some (.int .i64 x.pcl.kind) ∧ w.cell? ⟨b, o + k * 25 + 12, none⟩ = some (.int .i64 x.pcl.wk.id) ∧ w.cell? ⟨b, o + k * 25 + 13, none⟩ = some (.int .i64 x.pcl.wk.at_) ∧ w.cell? ⟨b, o + k * 25 + 14, none⟩ = some (.int .i64 x.pcl.wk.coins) ∧ w.cell? ⟨b, o + k * 25 + 15, none⟩ = some (.int .i64 x.pcl.wk.seq) ∧ w.cell? ⟨b, o + k * 25 + 16, none⟩ = some (.int .i64 x.pcl.wk.last) ∧ w.cell? ⟨b, o + k * 25 + 17, none⟩ = some (.int .i64 x.pcl.coins) ∧ w.cell? ⟨b, o + k * 25 + 18, none⟩ = some (.int .i64 x.gst.src) ∧ w.cell? ⟨b, o + k * 25 + 19, none⟩ = some (.int .i64 x.gst.count) ∧ w.cell? ⟨b, o + k * 25 + 20, none⟩ = some (.int .i64 x.gst.wk.id) ∧ w.cell? ⟨b, o + k * 25 + 21, none⟩ = some (.int .i64 x.gst.wk.at_) ∧ w.cell? ⟨b, o + k * 25 + 22, none⟩ = some (.int .i64 x.gst.wk.coins) ∧ w.cell? ⟨b, o + k * 25 + 23, none⟩ = some (.int .i64 x.gst.wk.seq) ∧ w.cell? ⟨b, o + k * 25 + 24, none⟩ = some (.int .i64 x.gst.wk.last) := by
  unfold Rd at h
  obtain ⟨a', n', c', ds, h1, h2, h3, h4, h5⟩ := h
  simp only [List.cons.injEq, Value.slice.injEq, and_true] at h1
  obtain ⟨rfl, rfl, rfl⟩ := h1
  simp only [Dat.l.injEq] at h2
  subst h2
  have hk' : k < xs.length := by rw [List.length_map] at h3; omega
  obtain ⟨b, o, es, ha, hb, hc, hr⟩ := h5 k (xs[k].dat) (by simp [hk'])
  obtain ⟨y, rfl, hy⟩ := rd_Msg hr
  have e := Msg.dat_inj hy
  refine ⟨y, b, o, by rw [← e]; simp [hk'], ha, hb, hc 0 _ rfl, hc 1 _ rfl, hc 2 _ rfl, hc 3 _ rfl, hc 4 _ rfl, hc 5 _ rfl, hc 6 _ rfl, hc 7 _ rfl, hc 8 _ rfl, hc 9 _ rfl, hc 10 _ rfl, hc 11 _ rfl, hc 12 _ rfl, hc 13 _ rfl, hc 14 _ rfl, hc 15 _ rfl, hc 16 _ rfl, hc 17 _ rfl, hc 18 _ rfl, hc 19 _ rfl, hc 20 _ rfl, hc 21 _ rfl, hc 22 _ rfl, hc 23 _ rfl, hc 24 _ rfl⟩

structure Rec where
  kind : Int
  ord : Ord
  side : Int
  pcl : Pcl
  n : Int
deriving DecidableEq
def Rec.cells (x : Rec) : List Value := [.int .i64 x.kind, .int .i64 x.ord.who, .int .i64 x.ord.seq, .int .i64 x.ord.kind, .int .i64 x.ord.to_, .int .i64 x.ord.n, .int .i64 x.side, .int .i64 x.pcl.n, .int .i64 x.pcl.kind, .int .i64 x.pcl.wk.id, .int .i64 x.pcl.wk.at_, .int .i64 x.pcl.wk.coins, .int .i64 x.pcl.wk.seq, .int .i64 x.pcl.wk.last, .int .i64 x.pcl.coins, .int .i64 x.n]
def Rec.dat (x : Rec) : Dat := .s [.i x.kind, x.ord.dat, .i x.side, x.pcl.dat, .i x.n]
def sRec : Sch := .st [.int, sOrd, .int, sPcl, .int]
theorem sRec_size : sRec.size = 16 := rfl
theorem rd_Rec {hi : Nat} {w : World} {vs : List Value} {d : Dat} (h : Rd hi w sRec vs d) : ∃ x : Rec, vs = x.cells ∧ d = x.dat := by
  unfold sRec Rd at h
  obtain ⟨ds, rfl, h⟩ := h
  unfold RdL at h; obtain ⟨v1, v2, d1, d2, rfl, rfl, h1, h⟩ := h
  obtain ⟨x0, rfl, rfl⟩ := rd_int h1
  unfold RdL at h; obtain ⟨v1, v2, d1, d2, rfl, rfl, h1, h⟩ := h
  obtain ⟨x1, rfl, rfl⟩ := rd_Ord h1
  unfold RdL at h; obtain ⟨v1, v2, d1, d2, rfl, rfl, h1, h⟩ := h
  obtain ⟨x2, rfl, rfl⟩ := rd_int h1
  unfold RdL at h; obtain ⟨v1, v2, d1, d2, rfl, rfl, h1, h⟩ := h
  obtain ⟨x3, rfl, rfl⟩ := rd_Pcl h1
  unfold RdL at h; obtain ⟨v1, v2, d1, d2, rfl, rfl, h1, h⟩ := h
  obtain ⟨x4, rfl, rfl⟩ := rd_int h1
  unfold RdL at h; obtain ⟨rfl, rfl⟩ := h
  exact ⟨⟨x0, x1, x2, x3, x4⟩, rfl, rfl⟩
theorem rd_Rec_mk (hi : Nat) (w : World) (x : Rec) : Rd hi w sRec x.cells x.dat := by
  unfold sRec Rd Rec.dat
  refine ⟨_, rfl, ?_⟩
  unfold RdL; refine ⟨[.int .i64 x.kind], _, _, _, rfl, rfl, by unfold Rd; exact ⟨_, rfl, rfl⟩, ?_⟩
  unfold RdL; refine ⟨x.ord.cells, _, _, _, rfl, rfl, rd_Ord_mk hi w x.ord, ?_⟩
  unfold RdL; refine ⟨[.int .i64 x.side], _, _, _, rfl, rfl, by unfold Rd; exact ⟨_, rfl, rfl⟩, ?_⟩
  unfold RdL; refine ⟨x.pcl.cells, _, _, _, rfl, rfl, rd_Pcl_mk hi w x.pcl, ?_⟩
  unfold RdL; refine ⟨[.int .i64 x.n], _, _, _, rfl, rfl, by unfold Rd; exact ⟨_, rfl, rfl⟩, ?_⟩
  unfold RdL; exact ⟨rfl, rfl⟩
theorem own_Rec_mk (w : World) (x : Rec) : Own w sRec x.cells x.dat [] := by
  unfold sRec Own Rec.dat
  refine ⟨_, rfl, ?_⟩
  unfold OwnL; refine ⟨[.int .i64 x.kind], _, _, _, [], [], rfl, rfl, rfl, by unfold Own; exact ⟨⟨_, rfl, rfl⟩, rfl⟩, ?_⟩
  unfold OwnL; refine ⟨x.ord.cells, _, _, _, [], [], rfl, rfl, rfl, own_Ord_mk w x.ord, ?_⟩
  unfold OwnL; refine ⟨[.int .i64 x.side], _, _, _, [], [], rfl, rfl, rfl, by unfold Own; exact ⟨⟨_, rfl, rfl⟩, rfl⟩, ?_⟩
  unfold OwnL; refine ⟨x.pcl.cells, _, _, _, [], [], rfl, rfl, rfl, own_Pcl_mk w x.pcl, ?_⟩
  unfold OwnL; refine ⟨[.int .i64 x.n], _, _, _, [], [], rfl, rfl, rfl, by unfold Own; exact ⟨⟨_, rfl, rfl⟩, rfl⟩, ?_⟩
  unfold OwnL; exact ⟨rfl, rfl, rfl⟩
theorem Rec.cells_length (x : Rec) : x.cells.length = 16 := rfl
theorem Rec.dat_inj {x y : Rec} (h : x.dat = y.dat) : x = y := by
  cases x; cases y
  simp only [Rec.dat, Dat.s.injEq, List.cons.injEq, Dat.i.injEq, and_true] at h
  obtain ⟨h0, h1, h2, h3, h4⟩ := h
  simp only [Rec.mk.injEq]
  exact ⟨h0, Ord.dat_inj h1, h2, Pcl.dat_inj h3, h4⟩
/-- An element of a slice of these. -/
theorem at_Rec {hi : Nat} {w : World} {a : Option Addr} {n c : Nat} {xs : List Rec} (h : Rd hi w (.sl sRec) [.slice a n c] (.l (xs.map Rec.dat))) {k : Nat} (hk : k < n) :
    ∃ x b o, xs[k]? = some x ∧ a = some (⟨b, o, none⟩ : Addr) ∧ b < hi ∧ w.cell? ⟨b, o + k * 16, none⟩ = some (.int .i64 x.kind) ∧ w.cell? ⟨b, o + k * 16 + 1, none⟩ = some (.int .i64 x.ord.who) ∧ w.cell? ⟨b, o + k * 16 + 2, none⟩ = some (.int .i64 x.ord.seq) ∧ w.cell? ⟨b, o + k * 16 + 3, none⟩ = some (.int .i64 x.ord.kind) ∧ w.cell? ⟨b, o + k * 16 + 4, none⟩ = some (.int .i64 x.ord.to_) ∧ w.cell? ⟨b, o + k * 16 + 5, none⟩ = some (.int .i64 x.ord.n) ∧ w.cell? ⟨b, o + k * 16 + 6, none⟩ = some (.int .i64 x.side) ∧ w.cell? ⟨b, o + k * 16 + 7, none⟩ = some (.int .i64 x.pcl.n) ∧ w.cell? ⟨b, o + k * 16 + 8, none⟩ = some (.int .i64 x.pcl.kind) ∧ w.cell? ⟨b, o + k * 16 + 9, none⟩ = some (.int .i64 x.pcl.wk.id) ∧ w.cell? ⟨b, o + k * 16 + 10, none⟩ = some (.int .i64 x.pcl.wk.at_) ∧ w.cell? ⟨b, o + k * 16 + 11, none⟩ = some (.int .i64 x.pcl.wk.coins) ∧ w.cell? ⟨b, o + k * 16 + 12, none⟩ = some (.int .i64 x.pcl.wk.seq) ∧ w.cell? ⟨b, o + k * 16 + 13, none⟩ = some (.int .i64 x.pcl.wk.last) ∧ w.cell? ⟨b, o + k * 16 + 14, none⟩ = some (.int .i64 x.pcl.coins) ∧ w.cell? ⟨b, o + k * 16 + 15, none⟩ = some (.int .i64 x.n) := by
  unfold Rd at h
  obtain ⟨a', n', c', ds, h1, h2, h3, h4, h5⟩ := h
  simp only [List.cons.injEq, Value.slice.injEq, and_true] at h1
  obtain ⟨rfl, rfl, rfl⟩ := h1
  simp only [Dat.l.injEq] at h2
  subst h2
  have hk' : k < xs.length := by rw [List.length_map] at h3; omega
  obtain ⟨b, o, es, ha, hb, hc, hr⟩ := h5 k (xs[k].dat) (by simp [hk'])
  obtain ⟨y, rfl, hy⟩ := rd_Rec hr
  have e := Rec.dat_inj hy
  refine ⟨y, b, o, by rw [← e]; simp [hk'], ha, hb, hc 0 _ rfl, hc 1 _ rfl, hc 2 _ rfl, hc 3 _ rfl, hc 4 _ rfl, hc 5 _ rfl, hc 6 _ rfl, hc 7 _ rfl, hc 8 _ rfl, hc 9 _ rfl, hc 10 _ rfl, hc 11 _ rfl, hc 12 _ rfl, hc 13 _ rfl, hc 14 _ rfl, hc 15 _ rfl⟩

structure Row where
  who : Int
  cell : Int
  busy : Bool
  ord : Ord
  seq : Int
  code : Int
deriving DecidableEq
def Row.cells (x : Row) : List Value := [.int .i64 x.who, .int .i64 x.cell, .bool x.busy, .int .i64 x.ord.who, .int .i64 x.ord.seq, .int .i64 x.ord.kind, .int .i64 x.ord.to_, .int .i64 x.ord.n, .int .i64 x.seq, .int .i64 x.code]
def Row.dat (x : Row) : Dat := .s [.i x.who, .i x.cell, .b x.busy, x.ord.dat, .i x.seq, .i x.code]
def sRow : Sch := .st [.int, .int, .bool, sOrd, .int, .int]
theorem sRow_size : sRow.size = 10 := rfl
theorem rd_Row {hi : Nat} {w : World} {vs : List Value} {d : Dat} (h : Rd hi w sRow vs d) : ∃ x : Row, vs = x.cells ∧ d = x.dat := by
  unfold sRow Rd at h
  obtain ⟨ds, rfl, h⟩ := h
  unfold RdL at h; obtain ⟨v1, v2, d1, d2, rfl, rfl, h1, h⟩ := h
  obtain ⟨x0, rfl, rfl⟩ := rd_int h1
  unfold RdL at h; obtain ⟨v1, v2, d1, d2, rfl, rfl, h1, h⟩ := h
  obtain ⟨x1, rfl, rfl⟩ := rd_int h1
  unfold RdL at h; obtain ⟨v1, v2, d1, d2, rfl, rfl, h1, h⟩ := h
  obtain ⟨x2, rfl, rfl⟩ := rd_bool h1
  unfold RdL at h; obtain ⟨v1, v2, d1, d2, rfl, rfl, h1, h⟩ := h
  obtain ⟨x3, rfl, rfl⟩ := rd_Ord h1
  unfold RdL at h; obtain ⟨v1, v2, d1, d2, rfl, rfl, h1, h⟩ := h
  obtain ⟨x4, rfl, rfl⟩ := rd_int h1
  unfold RdL at h; obtain ⟨v1, v2, d1, d2, rfl, rfl, h1, h⟩ := h
  obtain ⟨x5, rfl, rfl⟩ := rd_int h1
  unfold RdL at h; obtain ⟨rfl, rfl⟩ := h
  exact ⟨⟨x0, x1, x2, x3, x4, x5⟩, rfl, rfl⟩
theorem rd_Row_mk (hi : Nat) (w : World) (x : Row) : Rd hi w sRow x.cells x.dat := by
  unfold sRow Rd Row.dat
  refine ⟨_, rfl, ?_⟩
  unfold RdL; refine ⟨[.int .i64 x.who], _, _, _, rfl, rfl, by unfold Rd; exact ⟨_, rfl, rfl⟩, ?_⟩
  unfold RdL; refine ⟨[.int .i64 x.cell], _, _, _, rfl, rfl, by unfold Rd; exact ⟨_, rfl, rfl⟩, ?_⟩
  unfold RdL; refine ⟨[.bool x.busy], _, _, _, rfl, rfl, by unfold Rd; exact ⟨_, rfl, rfl⟩, ?_⟩
  unfold RdL; refine ⟨x.ord.cells, _, _, _, rfl, rfl, rd_Ord_mk hi w x.ord, ?_⟩
  unfold RdL; refine ⟨[.int .i64 x.seq], _, _, _, rfl, rfl, by unfold Rd; exact ⟨_, rfl, rfl⟩, ?_⟩
  unfold RdL; refine ⟨[.int .i64 x.code], _, _, _, rfl, rfl, by unfold Rd; exact ⟨_, rfl, rfl⟩, ?_⟩
  unfold RdL; exact ⟨rfl, rfl⟩
theorem own_Row_mk (w : World) (x : Row) : Own w sRow x.cells x.dat [] := by
  unfold sRow Own Row.dat
  refine ⟨_, rfl, ?_⟩
  unfold OwnL; refine ⟨[.int .i64 x.who], _, _, _, [], [], rfl, rfl, rfl, by unfold Own; exact ⟨⟨_, rfl, rfl⟩, rfl⟩, ?_⟩
  unfold OwnL; refine ⟨[.int .i64 x.cell], _, _, _, [], [], rfl, rfl, rfl, by unfold Own; exact ⟨⟨_, rfl, rfl⟩, rfl⟩, ?_⟩
  unfold OwnL; refine ⟨[.bool x.busy], _, _, _, [], [], rfl, rfl, rfl, by unfold Own; exact ⟨⟨_, rfl, rfl⟩, rfl⟩, ?_⟩
  unfold OwnL; refine ⟨x.ord.cells, _, _, _, [], [], rfl, rfl, rfl, own_Ord_mk w x.ord, ?_⟩
  unfold OwnL; refine ⟨[.int .i64 x.seq], _, _, _, [], [], rfl, rfl, rfl, by unfold Own; exact ⟨⟨_, rfl, rfl⟩, rfl⟩, ?_⟩
  unfold OwnL; refine ⟨[.int .i64 x.code], _, _, _, [], [], rfl, rfl, rfl, by unfold Own; exact ⟨⟨_, rfl, rfl⟩, rfl⟩, ?_⟩
  unfold OwnL; exact ⟨rfl, rfl, rfl⟩
theorem Row.cells_length (x : Row) : x.cells.length = 10 := rfl
theorem Row.dat_inj {x y : Row} (h : x.dat = y.dat) : x = y := by
  cases x; cases y
  simp only [Row.dat, Dat.s.injEq, List.cons.injEq, Dat.i.injEq, Dat.b.injEq, and_true] at h
  obtain ⟨h0, h1, h2, h3, h4, h5⟩ := h
  simp only [Row.mk.injEq]
  exact ⟨h0, h1, h2, Ord.dat_inj h3, h4, h5⟩
/-- An element of a slice of these. -/
theorem at_Row {hi : Nat} {w : World} {a : Option Addr} {n c : Nat} {xs : List Row} (h : Rd hi w (.sl sRow) [.slice a n c] (.l (xs.map Row.dat))) {k : Nat} (hk : k < n) :
    ∃ x b o, xs[k]? = some x ∧ a = some (⟨b, o, none⟩ : Addr) ∧ b < hi ∧ w.cell? ⟨b, o + k * 10, none⟩ = some (.int .i64 x.who) ∧ w.cell? ⟨b, o + k * 10 + 1, none⟩ = some (.int .i64 x.cell) ∧ w.cell? ⟨b, o + k * 10 + 2, none⟩ = some (.bool x.busy) ∧ w.cell? ⟨b, o + k * 10 + 3, none⟩ = some (.int .i64 x.ord.who) ∧ w.cell? ⟨b, o + k * 10 + 4, none⟩ = some (.int .i64 x.ord.seq) ∧ w.cell? ⟨b, o + k * 10 + 5, none⟩ = some (.int .i64 x.ord.kind) ∧ w.cell? ⟨b, o + k * 10 + 6, none⟩ = some (.int .i64 x.ord.to_) ∧ w.cell? ⟨b, o + k * 10 + 7, none⟩ = some (.int .i64 x.ord.n) ∧ w.cell? ⟨b, o + k * 10 + 8, none⟩ = some (.int .i64 x.seq) ∧ w.cell? ⟨b, o + k * 10 + 9, none⟩ = some (.int .i64 x.code) := by
  unfold Rd at h
  obtain ⟨a', n', c', ds, h1, h2, h3, h4, h5⟩ := h
  simp only [List.cons.injEq, Value.slice.injEq, and_true] at h1
  obtain ⟨rfl, rfl, rfl⟩ := h1
  simp only [Dat.l.injEq] at h2
  subst h2
  have hk' : k < xs.length := by rw [List.length_map] at h3; omega
  obtain ⟨b, o, es, ha, hb, hc, hr⟩ := h5 k (xs[k].dat) (by simp [hk'])
  obtain ⟨y, rfl, hy⟩ := rd_Row hr
  have e := Row.dat_inj hy
  refine ⟨y, b, o, by rw [← e]; simp [hk'], ha, hb, hc 0 _ rfl, hc 1 _ rfl, hc 2 _ rfl, hc 3 _ rfl, hc 4 _ rfl, hc 5 _ rfl, hc 6 _ rfl, hc 7 _ rfl, hc 8 _ rfl, hc 9 _ rfl⟩

structure Note where
  who : Int
  seq : Int
  code : Int
deriving DecidableEq
def Note.cells (x : Note) : List Value := [.int .i64 x.who, .int .i64 x.seq, .int .i64 x.code]
def Note.dat (x : Note) : Dat := .s [.i x.who, .i x.seq, .i x.code]
def sNote : Sch := .st [.int, .int, .int]
theorem sNote_size : sNote.size = 3 := rfl
theorem rd_Note {hi : Nat} {w : World} {vs : List Value} {d : Dat} (h : Rd hi w sNote vs d) : ∃ x : Note, vs = x.cells ∧ d = x.dat := by
  unfold sNote Rd at h
  obtain ⟨ds, rfl, h⟩ := h
  unfold RdL at h; obtain ⟨v1, v2, d1, d2, rfl, rfl, h1, h⟩ := h
  obtain ⟨x0, rfl, rfl⟩ := rd_int h1
  unfold RdL at h; obtain ⟨v1, v2, d1, d2, rfl, rfl, h1, h⟩ := h
  obtain ⟨x1, rfl, rfl⟩ := rd_int h1
  unfold RdL at h; obtain ⟨v1, v2, d1, d2, rfl, rfl, h1, h⟩ := h
  obtain ⟨x2, rfl, rfl⟩ := rd_int h1
  unfold RdL at h; obtain ⟨rfl, rfl⟩ := h
  exact ⟨⟨x0, x1, x2⟩, rfl, rfl⟩
theorem rd_Note_mk (hi : Nat) (w : World) (x : Note) : Rd hi w sNote x.cells x.dat := by
  unfold sNote Rd Note.dat
  refine ⟨_, rfl, ?_⟩
  unfold RdL; refine ⟨[.int .i64 x.who], _, _, _, rfl, rfl, by unfold Rd; exact ⟨_, rfl, rfl⟩, ?_⟩
  unfold RdL; refine ⟨[.int .i64 x.seq], _, _, _, rfl, rfl, by unfold Rd; exact ⟨_, rfl, rfl⟩, ?_⟩
  unfold RdL; refine ⟨[.int .i64 x.code], _, _, _, rfl, rfl, by unfold Rd; exact ⟨_, rfl, rfl⟩, ?_⟩
  unfold RdL; exact ⟨rfl, rfl⟩
theorem own_Note_mk (w : World) (x : Note) : Own w sNote x.cells x.dat [] := by
  unfold sNote Own Note.dat
  refine ⟨_, rfl, ?_⟩
  unfold OwnL; refine ⟨[.int .i64 x.who], _, _, _, [], [], rfl, rfl, rfl, by unfold Own; exact ⟨⟨_, rfl, rfl⟩, rfl⟩, ?_⟩
  unfold OwnL; refine ⟨[.int .i64 x.seq], _, _, _, [], [], rfl, rfl, rfl, by unfold Own; exact ⟨⟨_, rfl, rfl⟩, rfl⟩, ?_⟩
  unfold OwnL; refine ⟨[.int .i64 x.code], _, _, _, [], [], rfl, rfl, rfl, by unfold Own; exact ⟨⟨_, rfl, rfl⟩, rfl⟩, ?_⟩
  unfold OwnL; exact ⟨rfl, rfl, rfl⟩
theorem Note.cells_length (x : Note) : x.cells.length = 3 := rfl
theorem Note.dat_inj {x y : Note} (h : x.dat = y.dat) : x = y := by
  cases x; cases y
  simp only [Note.dat, Dat.s.injEq, List.cons.injEq, Dat.i.injEq, and_true] at h
  simp only [Note.mk.injEq]; exact h
/-- An element of a slice of these. -/
theorem at_Note {hi : Nat} {w : World} {a : Option Addr} {n c : Nat} {xs : List Note} (h : Rd hi w (.sl sNote) [.slice a n c] (.l (xs.map Note.dat))) {k : Nat} (hk : k < n) :
    ∃ x b o, xs[k]? = some x ∧ a = some (⟨b, o, none⟩ : Addr) ∧ b < hi ∧ w.cell? ⟨b, o + k * 3, none⟩ = some (.int .i64 x.who) ∧ w.cell? ⟨b, o + k * 3 + 1, none⟩ = some (.int .i64 x.seq) ∧ w.cell? ⟨b, o + k * 3 + 2, none⟩ = some (.int .i64 x.code) := by
  unfold Rd at h
  obtain ⟨a', n', c', ds, h1, h2, h3, h4, h5⟩ := h
  simp only [List.cons.injEq, Value.slice.injEq, and_true] at h1
  obtain ⟨rfl, rfl, rfl⟩ := h1
  simp only [Dat.l.injEq] at h2
  subst h2
  have hk' : k < xs.length := by rw [List.length_map] at h3; omega
  obtain ⟨b, o, es, ha, hb, hc, hr⟩ := h5 k (xs[k].dat) (by simp [hk'])
  obtain ⟨y, rfl, hy⟩ := rd_Note hr
  have e := Note.dat_inj hy
  refine ⟨y, b, o, by rw [← e]; simp [hk'], ha, hb, hc 0 _ rfl, hc 1 _ rfl, hc 2 _ rfl⟩

structure Onw where
  wk : Wlk
  here : Bool
deriving DecidableEq
def Onw.cells (x : Onw) : List Value := [.int .i64 x.wk.id, .int .i64 x.wk.at_, .int .i64 x.wk.coins, .int .i64 x.wk.seq, .int .i64 x.wk.last, .bool x.here]
def Onw.dat (x : Onw) : Dat := .s [x.wk.dat, .b x.here]
def sOnw : Sch := .st [sWlk, .bool]
theorem sOnw_size : sOnw.size = 6 := rfl
theorem rd_Onw {hi : Nat} {w : World} {vs : List Value} {d : Dat} (h : Rd hi w sOnw vs d) : ∃ x : Onw, vs = x.cells ∧ d = x.dat := by
  unfold sOnw Rd at h
  obtain ⟨ds, rfl, h⟩ := h
  unfold RdL at h; obtain ⟨v1, v2, d1, d2, rfl, rfl, h1, h⟩ := h
  obtain ⟨x0, rfl, rfl⟩ := rd_Wlk h1
  unfold RdL at h; obtain ⟨v1, v2, d1, d2, rfl, rfl, h1, h⟩ := h
  obtain ⟨x1, rfl, rfl⟩ := rd_bool h1
  unfold RdL at h; obtain ⟨rfl, rfl⟩ := h
  exact ⟨⟨x0, x1⟩, rfl, rfl⟩
theorem rd_Onw_mk (hi : Nat) (w : World) (x : Onw) : Rd hi w sOnw x.cells x.dat := by
  unfold sOnw Rd Onw.dat
  refine ⟨_, rfl, ?_⟩
  unfold RdL; refine ⟨x.wk.cells, _, _, _, rfl, rfl, rd_Wlk_mk hi w x.wk, ?_⟩
  unfold RdL; refine ⟨[.bool x.here], _, _, _, rfl, rfl, by unfold Rd; exact ⟨_, rfl, rfl⟩, ?_⟩
  unfold RdL; exact ⟨rfl, rfl⟩
theorem own_Onw_mk (w : World) (x : Onw) : Own w sOnw x.cells x.dat [] := by
  unfold sOnw Own Onw.dat
  refine ⟨_, rfl, ?_⟩
  unfold OwnL; refine ⟨x.wk.cells, _, _, _, [], [], rfl, rfl, rfl, own_Wlk_mk w x.wk, ?_⟩
  unfold OwnL; refine ⟨[.bool x.here], _, _, _, [], [], rfl, rfl, rfl, by unfold Own; exact ⟨⟨_, rfl, rfl⟩, rfl⟩, ?_⟩
  unfold OwnL; exact ⟨rfl, rfl, rfl⟩
theorem Onw.cells_length (x : Onw) : x.cells.length = 6 := rfl
theorem Onw.dat_inj {x y : Onw} (h : x.dat = y.dat) : x = y := by
  cases x; cases y
  simp only [Onw.dat, Dat.s.injEq, List.cons.injEq, Dat.b.injEq, and_true] at h
  obtain ⟨h0, h1⟩ := h
  simp only [Onw.mk.injEq]
  exact ⟨Wlk.dat_inj h0, h1⟩
/-- An element of a slice of these. -/
theorem at_Onw {hi : Nat} {w : World} {a : Option Addr} {n c : Nat} {xs : List Onw} (h : Rd hi w (.sl sOnw) [.slice a n c] (.l (xs.map Onw.dat))) {k : Nat} (hk : k < n) :
    ∃ x b o, xs[k]? = some x ∧ a = some (⟨b, o, none⟩ : Addr) ∧ b < hi ∧ w.cell? ⟨b, o + k * 6, none⟩ = some (.int .i64 x.wk.id) ∧ w.cell? ⟨b, o + k * 6 + 1, none⟩ = some (.int .i64 x.wk.at_) ∧ w.cell? ⟨b, o + k * 6 + 2, none⟩ = some (.int .i64 x.wk.coins) ∧ w.cell? ⟨b, o + k * 6 + 3, none⟩ = some (.int .i64 x.wk.seq) ∧ w.cell? ⟨b, o + k * 6 + 4, none⟩ = some (.int .i64 x.wk.last) ∧ w.cell? ⟨b, o + k * 6 + 5, none⟩ = some (.bool x.here) := by
  unfold Rd at h
  obtain ⟨a', n', c', ds, h1, h2, h3, h4, h5⟩ := h
  simp only [List.cons.injEq, Value.slice.injEq, and_true] at h1
  obtain ⟨rfl, rfl, rfl⟩ := h1
  simp only [Dat.l.injEq] at h2
  subst h2
  have hk' : k < xs.length := by rw [List.length_map] at h3; omega
  obtain ⟨b, o, es, ha, hb, hc, hr⟩ := h5 k (xs[k].dat) (by simp [hk'])
  obtain ⟨y, rfl, hy⟩ := rd_Onw hr
  have e := Onw.dat_inj hy
  refine ⟨y, b, o, by rw [← e]; simp [hk'], ha, hb, hc 0 _ rfl, hc 1 _ rfl, hc 2 _ rfl, hc 3 _ rfl, hc 4 _ rfl, hc 5 _ rfl⟩

/-- A list of data of one kind is the data of a list. -/
theorem rdS_Mp {hi : Nat} {w : World} {vs : List Value} {d : Dat} (h : Rd hi w (.sl sMp) vs d) : ∃ a c, ∃ xs : List Mp, vs = [.slice a xs.length c] ∧ d = .l (xs.map Mp.dat) ∧ xs.length ≤ maxLen := by
  unfold Rd at h
  obtain ⟨a, n, c, ds, h1, h2, h3, h4, h5⟩ := h
  have key : ∃ xs : List Mp, ds = xs.map Mp.dat := list_of_all fun i x hx => by
    obtain ⟨b, o, es, _, _, _, hr⟩ := h5 i x hx
    obtain ⟨y, _, hy⟩ := rd_Mp hr
    exact ⟨y, hy⟩
  obtain ⟨xs, rfl⟩ := key
  simp only [List.length_map] at h3
  subst h3
  exact ⟨a, c, xs, h1, h2, h4⟩
theorem rdS_Wlk {hi : Nat} {w : World} {vs : List Value} {d : Dat} (h : Rd hi w (.sl sWlk) vs d) : ∃ a c, ∃ xs : List Wlk, vs = [.slice a xs.length c] ∧ d = .l (xs.map Wlk.dat) ∧ xs.length ≤ maxLen := by
  unfold Rd at h
  obtain ⟨a, n, c, ds, h1, h2, h3, h4, h5⟩ := h
  have key : ∃ xs : List Wlk, ds = xs.map Wlk.dat := list_of_all fun i x hx => by
    obtain ⟨b, o, es, _, _, _, hr⟩ := h5 i x hx
    obtain ⟨y, _, hy⟩ := rd_Wlk hr
    exact ⟨y, hy⟩
  obtain ⟨xs, rfl⟩ := key
  simp only [List.length_map] at h3
  subst h3
  exact ⟨a, c, xs, h1, h2, h4⟩
theorem rdS_Ord {hi : Nat} {w : World} {vs : List Value} {d : Dat} (h : Rd hi w (.sl sOrd) vs d) : ∃ a c, ∃ xs : List Ord, vs = [.slice a xs.length c] ∧ d = .l (xs.map Ord.dat) ∧ xs.length ≤ maxLen := by
  unfold Rd at h
  obtain ⟨a, n, c, ds, h1, h2, h3, h4, h5⟩ := h
  have key : ∃ xs : List Ord, ds = xs.map Ord.dat := list_of_all fun i x hx => by
    obtain ⟨b, o, es, _, _, _, hr⟩ := h5 i x hx
    obtain ⟨y, _, hy⟩ := rd_Ord hr
    exact ⟨y, hy⟩
  obtain ⟨xs, rfl⟩ := key
  simp only [List.length_map] at h3
  subst h3
  exact ⟨a, c, xs, h1, h2, h4⟩
theorem rdS_Pcl {hi : Nat} {w : World} {vs : List Value} {d : Dat} (h : Rd hi w (.sl sPcl) vs d) : ∃ a c, ∃ xs : List Pcl, vs = [.slice a xs.length c] ∧ d = .l (xs.map Pcl.dat) ∧ xs.length ≤ maxLen := by
  unfold Rd at h
  obtain ⟨a, n, c, ds, h1, h2, h3, h4, h5⟩ := h
  have key : ∃ xs : List Pcl, ds = xs.map Pcl.dat := list_of_all fun i x hx => by
    obtain ⟨b, o, es, _, _, _, hr⟩ := h5 i x hx
    obtain ⟨y, _, hy⟩ := rd_Pcl hr
    exact ⟨y, hy⟩
  obtain ⟨xs, rfl⟩ := key
  simp only [List.length_map] at h3
  subst h3
  exact ⟨a, c, xs, h1, h2, h4⟩
theorem rdS_Gst {hi : Nat} {w : World} {vs : List Value} {d : Dat} (h : Rd hi w (.sl sGst) vs d) : ∃ a c, ∃ xs : List Gst, vs = [.slice a xs.length c] ∧ d = .l (xs.map Gst.dat) ∧ xs.length ≤ maxLen := by
  unfold Rd at h
  obtain ⟨a, n, c, ds, h1, h2, h3, h4, h5⟩ := h
  have key : ∃ xs : List Gst, ds = xs.map Gst.dat := list_of_all fun i x hx => by
    obtain ⟨b, o, es, _, _, _, hr⟩ := h5 i x hx
    obtain ⟨y, _, hy⟩ := rd_Gst hr
    exact ⟨y, hy⟩
  obtain ⟨xs, rfl⟩ := key
  simp only [List.length_map] at h3
  subst h3
  exact ⟨a, c, xs, h1, h2, h4⟩
theorem rdS_Msg {hi : Nat} {w : World} {vs : List Value} {d : Dat} (h : Rd hi w (.sl sMsg) vs d) : ∃ a c, ∃ xs : List Msg, vs = [.slice a xs.length c] ∧ d = .l (xs.map Msg.dat) ∧ xs.length ≤ maxLen := by
  unfold Rd at h
  obtain ⟨a, n, c, ds, h1, h2, h3, h4, h5⟩ := h
  have key : ∃ xs : List Msg, ds = xs.map Msg.dat := list_of_all fun i x hx => by
    obtain ⟨b, o, es, _, _, _, hr⟩ := h5 i x hx
    obtain ⟨y, _, hy⟩ := rd_Msg hr
    exact ⟨y, hy⟩
  obtain ⟨xs, rfl⟩ := key
  simp only [List.length_map] at h3
  subst h3
  exact ⟨a, c, xs, h1, h2, h4⟩
theorem rdS_Rec {hi : Nat} {w : World} {vs : List Value} {d : Dat} (h : Rd hi w (.sl sRec) vs d) : ∃ a c, ∃ xs : List Rec, vs = [.slice a xs.length c] ∧ d = .l (xs.map Rec.dat) ∧ xs.length ≤ maxLen := by
  unfold Rd at h
  obtain ⟨a, n, c, ds, h1, h2, h3, h4, h5⟩ := h
  have key : ∃ xs : List Rec, ds = xs.map Rec.dat := list_of_all fun i x hx => by
    obtain ⟨b, o, es, _, _, _, hr⟩ := h5 i x hx
    obtain ⟨y, _, hy⟩ := rd_Rec hr
    exact ⟨y, hy⟩
  obtain ⟨xs, rfl⟩ := key
  simp only [List.length_map] at h3
  subst h3
  exact ⟨a, c, xs, h1, h2, h4⟩
theorem rdS_Row {hi : Nat} {w : World} {vs : List Value} {d : Dat} (h : Rd hi w (.sl sRow) vs d) : ∃ a c, ∃ xs : List Row, vs = [.slice a xs.length c] ∧ d = .l (xs.map Row.dat) ∧ xs.length ≤ maxLen := by
  unfold Rd at h
  obtain ⟨a, n, c, ds, h1, h2, h3, h4, h5⟩ := h
  have key : ∃ xs : List Row, ds = xs.map Row.dat := list_of_all fun i x hx => by
    obtain ⟨b, o, es, _, _, _, hr⟩ := h5 i x hx
    obtain ⟨y, _, hy⟩ := rd_Row hr
    exact ⟨y, hy⟩
  obtain ⟨xs, rfl⟩ := key
  simp only [List.length_map] at h3
  subst h3
  exact ⟨a, c, xs, h1, h2, h4⟩
theorem rdS_Note {hi : Nat} {w : World} {vs : List Value} {d : Dat} (h : Rd hi w (.sl sNote) vs d) : ∃ a c, ∃ xs : List Note, vs = [.slice a xs.length c] ∧ d = .l (xs.map Note.dat) ∧ xs.length ≤ maxLen := by
  unfold Rd at h
  obtain ⟨a, n, c, ds, h1, h2, h3, h4, h5⟩ := h
  have key : ∃ xs : List Note, ds = xs.map Note.dat := list_of_all fun i x hx => by
    obtain ⟨b, o, es, _, _, _, hr⟩ := h5 i x hx
    obtain ⟨y, _, hy⟩ := rd_Note hr
    exact ⟨y, hy⟩
  obtain ⟨xs, rfl⟩ := key
  simp only [List.length_map] at h3
  subst h3
  exact ⟨a, c, xs, h1, h2, h4⟩
theorem rdS_Onw {hi : Nat} {w : World} {vs : List Value} {d : Dat} (h : Rd hi w (.sl sOnw) vs d) : ∃ a c, ∃ xs : List Onw, vs = [.slice a xs.length c] ∧ d = .l (xs.map Onw.dat) ∧ xs.length ≤ maxLen := by
  unfold Rd at h
  obtain ⟨a, n, c, ds, h1, h2, h3, h4, h5⟩ := h
  have key : ∃ xs : List Onw, ds = xs.map Onw.dat := list_of_all fun i x hx => by
    obtain ⟨b, o, es, _, _, _, hr⟩ := h5 i x hx
    obtain ⟨y, _, hy⟩ := rd_Onw hr
    exact ⟨y, hy⟩
  obtain ⟨xs, rfl⟩ := key
  simp only [List.length_map] at h3
  subst h3
  exact ⟨a, c, xs, h1, h2, h4⟩
end Go.Proofs.Ytdogknbkcididaa
