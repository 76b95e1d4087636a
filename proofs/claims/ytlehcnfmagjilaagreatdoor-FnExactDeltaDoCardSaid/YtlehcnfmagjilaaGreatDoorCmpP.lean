/- The order of paths and of routes. No condition. -/
import Derived.Test.YtlehcnfmagjilaaGreatDoorRoute
import Derived.Test.YtlehcnfmagjilaaGreatDoorSeq
namespace Go.Proofs.YtlehcnfmagjilaaGreatDoor
open Go Go.RowKit

/-- Lists in the order of their numbers. -/
def lexC : List Int → List Int → Int
  | [], [] => 0
  | [], _ :: _ => -1
  | _ :: _, [] => 1
  | x :: a, y :: b => if x < y then -1 else if y < x then 1 else lexC a b
theorem lexC_bd : ∀ a b : List Int, -1 ≤ lexC a b ∧ lexC a b ≤ 1
  | [], [] => by simp [lexC]
  | [], _ :: _ => by simp [lexC]
  | _ :: _, [] => by simp [lexC]
  | x :: a, y :: b => by
    have := lexC_bd a b
    unfold lexC
    split
    · omega
    · split
      · omega
      · exact this
theorem drop_at {α : Type} {l : List α} {k : Nat} {x : α} (h : l[k]? = some x) : l.drop k = x :: l.drop (k + 1) := by
  obtain ⟨h1, h2⟩ := List.getElem?_eq_some_iff.1 h
  rw [List.drop_eq_getElem_cons h1, h2]
def LexK (l l' : List Int) (k : Nat) : Prop := lexC l l' = lexC (l.drop k) (l'.drop k)
theorem LexK.zero {l l' : List Int} : Hid (LexK l l' 0) := hidden rfl
theorem LexK.lt {l l' : List Int} {k : Nat} {x y : Int} (h : LexK l l' k) (hx : l[k]? = some x) (hy : l'[k]? = some y) (hl : x < y) : lexC l l' = -1 := by
  unfold LexK at h
  rw [h, drop_at hx, drop_at hy, lexC, if_pos hl]
theorem LexK.gt {l l' : List Int} {k : Nat} {x y : Int} (h : LexK l l' k) (hx : l[k]? = some x) (hy : l'[k]? = some y) (hl : y < x) : lexC l l' = 1 := by
  unfold LexK at h
  rw [h, drop_at hx, drop_at hy, lexC, if_neg (by omega), if_pos hl]
theorem LexK.step {l l' : List Int} {k : Nat} {x y : Int} (h : LexK l l' k) (hx : l[k]? = some x) (hy : l'[k]? = some y) (h1 : ¬ x < y) (h2 : ¬ y < x) : Hid (LexK l l' (k + 1)) := by
  unfold LexK at h
  refine hidden ?_
  unfold LexK
  rw [h, drop_at hx, drop_at hy, lexC, if_neg h1, if_neg h2]
theorem LexK.longer {l l' : List Int} {k : Nat} {x : Int} (h : LexK l l' k) (hx : l[k]? = some x) (hk : l'.length ≤ k) : lexC l l' = 1 := by
  unfold LexK at h
  rw [h, drop_at hx, List.drop_eq_nil_of_le hk]
  rfl
theorem LexK.shorter {l l' : List Int} {k : Nat} (h : LexK l l' k) (hl : l.length = k) (hk : k < l'.length) : lexC l l' = -1 := by
  unfold LexK at h
  rw [h, List.drop_eq_nil_of_le (by omega : l.length ≤ k), List.drop_eq_getElem_cons hk]
  rfl
theorem LexK.same {l l' : List Int} {k : Nat} (h : LexK l l' k) (hl : l.length = k) (hk : l'.length ≤ k) : lexC l l' = 0 := by
  unfold LexK at h
  rw [h, List.drop_eq_nil_of_le (by omega : l.length ≤ k), List.drop_eq_nil_of_le hk]
  rfl
/-- Shorter ones first. -/
def pcmp (l l' : List Int) : Int := orL [cmpI l.length l'.length, lexC l l']
theorem pcmp_lt {l l' : List Int} {n n' : Nat} (h : l.length = n) (h' : l'.length = n') (hl : n < n') : pcmp l l' = -1 := by
  unfold pcmp; rw [h, h', cmpI_lt (by omega)]; rfl
theorem pcmp_gt {l l' : List Int} {n n' : Nat} (h : l.length = n) (h' : l'.length = n') (hl : n' < n) : pcmp l l' = 1 := by
  unfold pcmp; rw [h, h', cmpI_gt (by omega)]; rfl
theorem pcmp_eq {l l' : List Int} {n : Nat} (h : l.length = n) (h' : l'.length = n) : pcmp l l' = lexC l l' := by
  unfold pcmp; rw [h, h', cmpI_eq]
  simp only [orL, if_true]
  split
  · exact (by assumption : lexC l l' = 0).symm
  · rfl
theorem pcmp_bd (l l' : List Int) : -1 ≤ pcmp l l' ∧ pcmp l l' ≤ 1 := by
  have h1 := cmpI_bd l.length l'.length
  have h2 := lexC_bd l l'
  unfold pcmp orL orL orL
  split
  · split <;> omega
  · exact h1

/-- The order of paths that are. -/
noncomputable def pathC (l l' : List Int) : Int := if pathB l = true ∧ pathB l' = true then pcmp l l' else 0

end Go.Proofs.YtlehcnfmagjilaaGreatDoor
