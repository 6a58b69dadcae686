/- What the laws' own helpers come to: sizes, copies, comparisons, marks. Conditions: none. -/
import Derived.Test.YtfdbdbihhgabpaaKit
import Derived.Test.YtfdbdbihhgabpaaWf
import Derived.Test.YtfdbdbihhgabpaaQx0
set_option linter.unusedVariables false
set_option linter.unusedSimpArgs false
namespace Go.Proofs.Ytfdbdbihhgabpaa.Pure
open Go.RowKit Go.Proofs.Ytfdbdbihhgabpaa.Q Go.Proofs.YtfdbdbihhgabpaaW.PrintWords Go.Proofs.YtfdbdbihhgabpaaW.PrintLast Go.Proofs.Ytfdbdbihhgabpaa.Kit Go.Proofs.Ytfdbdbihhgabpaa.Wf

theorem rdat_T63 {pre : List S63} {x : S63} {post : List S63} {n : Nat} (h : n = pre.length) : rd_T63 (pre ++ x :: post) (n : Int) = x := by
  unfold rd_T63; rw [Int.toNat_natCast]; exact getD_at h
theorem rdat_T57 {pre : List S57} {x : S57} {post : List S57} {n : Nat} (h : n = pre.length) : rd_T57 (pre ++ x :: post) (n : Int) = x := by
  unfold rd_T57; rw [Int.toNat_natCast]; exact getD_at h
end Go.Proofs.Ytfdbdbihhgabpaa.Pure
