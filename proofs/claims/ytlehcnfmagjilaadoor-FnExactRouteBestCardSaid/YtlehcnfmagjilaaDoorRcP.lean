/- The order of ranges: plain. No condition. -/
import Derived.Test.YtlehcnfmagjilaaDoorRc
namespace Go.Proofs.YtlehcnfmagjilaaDoor
open Go Go.RowKit

theorem rc_lt {a b : Rg} : rc a b < 0 ↔ a.f < b.f ∨ (a.f = b.f ∧ a.b < b.b) := by
  simp only [rc, orL, cmpI]
  repeat' split
  all_goals omega
theorem rc_zero {a b : Rg} : rc a b = 0 ↔ a = b := by
  rw [Rg_eq]
  simp only [rc, orL, cmpI]
  repeat' split
  all_goals omega
theorem rc_pos {a b : Rg} : 0 < rc a b ↔ rc b a < 0 := by
  rw [rc_lt]
  simp only [rc, orL, cmpI]
  repeat' split
  all_goals omega
theorem rc_trans {a b c : Rg} (h : rc a b < 0) (k : rc b c < 0) : rc a c < 0 := by
  rw [rc_lt] at *
  omega

end Go.Proofs.YtlehcnfmagjilaaDoor
