/- What the laws over the one world need. -/
import Derived.Test.YtcfbfpgcfnpdgaaOneLd
import Derived.Test.YtcfbfpgcfnpdgaaGapL
namespace Go.Proofs.Ytcfbfpgcfnpdgaa
open Go.RowKit

theorem szRun_sum : ∀ (ns : List Nat) (left : Int), 0 ≤ left → 0 ≤ szRun left ns → ((ns.sum : Nat) : Int) ≤ left
  | [], left, h, _ => by simpa using h
  | n :: ns, left, h, h1 => by
    simp only [szRun] at h1
    split at h1
    · omega
    · have := szRun_sum ns (left - n) (by omega) h1
      rw [List.sum_cons]
      omega
theorem one_sum {o : One} (h : 0 ≤ szRun 1048576 (oneLens o)) : (o.air.map List.length).sum ≤ 4194304 := by
  have := szRun_sum (oneLens o) 1048576 (by omega) h
  unfold oneLens at this
  simp only [List.sum_cons] at this
  omega
theorem bdO_zero : BdO oneZ := ⟨by simp [oneZ], by simp [oneZ], by simp [oneZ], by simp [oneZ]⟩
theorem ReO.below {W W' : World} {o : One} {h : OneH} (r : ReO W o h) (hb : Below W.heap.size W W') : ReO W' o h := ⟨r.r1.below hb, r.r2.below hb, r.r3.below hb⟩
theorem OwnR.one'' {lo hi : Nat} {w : World} {o : One} {q : Int} {h : OneH} (k : OwnR lo hi w sOne (oneCells (oneMarks o q) h) (oneDat (oneMarks o q))) : ReO w (oneMarks o q) h := k.one'
end Go.Proofs.Ytcfbfpgcfnpdgaa
