/- What the laws over a cell need. -/
import Derived.Test.YtdogknbkcididaaTCllM
import Derived.Test.YtdogknbkcididaaTMp
import Derived.Test.YtdogknbkcididaaGapL
namespace Go.Proofs.Ytdogknbkcididaa
open Go.RowKit

theorem szRun_sum' : ∀ (ns : List Nat) (left : Int), 0 ≤ left → 0 ≤ szRun left ns → ((ns.sum : Nat) : Int) ≤ left
  | [], left, h, _ => by simpa using h
  | n :: ns, left, h, h1 => by
    simp only [szRun] at h1
    split at h1
    · omega
    · have := szRun_sum' ns (left - n) (by omega) h1
      rw [List.sum_cons]
      omega
theorem cll_sum {c : Cll} (h : 0 ≤ szRun 1048576 (cllLens c)) : (c.outs.map List.length).sum ≤ 1048576 := by
  have := szRun_sum' (cllLens c) 1048576 (by omega) h
  unfold cllLens at this
  simp only [List.sum_cons, List.sum_append, List.cons_append] at this
  omega
theorem ReC.below {W W' : World} {c : Cll} {h : CllH} (r : ReC W c h) (hb : Below W.heap.size W W') : ReC W' c h := ⟨r.r1.below hb, r.r3.below hb, r.r4.below hb, r.r5.below hb⟩
theorem OwnR.cll' {lo hi : Nat} {w : World} {c : Cll} {q S : Int} {h : CllH} (k : OwnR lo hi w sCll (cllCells (cllMarks c q S) h) (cllDat (cllMarks c q S))) : ReC w (cllMarks c q S) h := k.cll
end Go.Proofs.Ytdogknbkcididaa
