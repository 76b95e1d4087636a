/- The order of routes. No condition. -/
import Derived.Test.YtlehcnfmagjilaaGreatDoorCmpP
namespace Go.Proofs.YtlehcnfmagjilaaGreatDoor
open Go Go.RowKit

def rtC (d e : Rt) : Int := orL [cmpI e.like d.like, pcmp d.path e.path, rc d.r e.r, pcmp d.marks e.marks]
theorem rtC_like_gt {d e : Rt} (h : e.like < d.like) : rtC d e = -1 := by unfold rtC; rw [cmpI_lt h]; rfl
theorem rtC_like_lt {d e : Rt} (h : d.like < e.like) : rtC d e = 1 := by unfold rtC; rw [cmpI_gt h]; rfl
theorem rtC_path {d e : Rt} (h : d.like = e.like) (hp : pcmp d.path e.path ≠ 0) : rtC d e = pcmp d.path e.path := by unfold rtC; rw [h, cmpI_eq]; simp [orL, hp]
theorem rtC_r {d e : Rt} (h : d.like = e.like) (hp : pcmp d.path e.path = 0) (hr : rc d.r e.r ≠ 0) : rtC d e = rc d.r e.r := by unfold rtC; rw [h, cmpI_eq]; simp [orL, hp, hr]
theorem rtC_marks {d e : Rt} (h : d.like = e.like) (hp : pcmp d.path e.path = 0) (hr : rc d.r e.r = 0) : rtC d e = pcmp d.marks e.marks := by
  unfold rtC; rw [h, cmpI_eq]; simp only [orL, hp, hr, if_true]; split
  · exact (by assumption : pcmp d.marks e.marks = 0).symm
  · rfl
theorem rtC_orL (d e : Rt) : rtC d e = orL [cmpI e.like d.like, pcmp d.path e.path, rc d.r e.r, cmpI d.marks.length e.marks.length, lexC d.marks e.marks] := by
  unfold rtC
  simp only [orL, pcmp]
  by_cases h : cmpI (d.marks.length : Int) e.marks.length = 0 <;> simp [h]
  · intros; split <;> simp_all
noncomputable def routeC (d e : Rt) : Int := if rtOk d = true ∧ rtOk e = true then rtC d e else 0
theorem rtOk_path {d : Rt} (h : rtOk d = true) : pathB d.path = true := by simp only [rtOk, Bool.and_eq_true] at h; exact h.2.1

theorem or5_any (a b c d e : Int) (B cap : Nat) (w : World) (h0 : w.cell? ⟨B, 0, none⟩ = some (.int .i64 a)) (h1 : w.cell? ⟨B, 1, none⟩ = some (.int .i64 b)) (h2 : w.cell? ⟨B, 2, none⟩ = some (.int .i64 c)) (h3 : w.cell? ⟨B, 3, none⟩ = some (.int .i64 d)) (h4 : w.cell? ⟨B, 4, none⟩ = some (.int .i64 e)) :
    Calls Tryz.prog 89 #[.slice (some ⟨B, 0, none⟩) 5 cap] w fun x w' => x = .returned (.int .i64 (orL [a, b, c, d, e])) ∧ Ext w w' :=
  or_any [a, b, c, d, e] B 0 cap w (by simp) (fun i hi => by
    match i, hi with
    | 0, _ => simpa using h0
    | 1, _ => simpa using h1
    | 2, _ => simpa using h2
    | 3, _ => simpa using h3
    | 4, _ => simpa using h4)

end Go.Proofs.YtlehcnfmagjilaaGreatDoor
