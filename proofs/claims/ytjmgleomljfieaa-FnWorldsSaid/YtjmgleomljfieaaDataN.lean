/- What the laws' own helpers come to: sizes, copies, comparisons, marks. Conditions: none. -/
import Derived.Test.YtjmgleomljfieaaKit
import Derived.Test.YtjmgleomljfieaaQx0
set_option linter.unusedVariables false
set_option linter.unusedSimpArgs false
namespace Go.Proofs.Ytjmgleomljfieaa.Pure
open Go.RowKit Go.Proofs.Ytjmgleomljfieaa.Q Go.Proofs.YtjmgleomljfieaaW.PrintWords Go.Proofs.YtjmgleomljfieaaW.PrintLast Go.Proofs.Ytjmgleomljfieaa.Kit

theorem rdat_T82 {pre : List S82} {x : S82} {post : List S82} {n : Nat} (h : n = pre.length) : rd_T82 (pre ++ x :: post) (n : Int) = x := by
  unfold rd_T82; rw [Int.toNat_natCast]; exact getD_at h
end Go.Proofs.Ytjmgleomljfieaa.Pure
