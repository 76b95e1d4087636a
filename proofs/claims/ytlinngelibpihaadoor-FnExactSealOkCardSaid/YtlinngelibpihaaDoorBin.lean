/- Where a thing stands in a sorted list, or would stand; slices.BinarySearchFunc. No condition. -/
import Derived.Test.YtlinngelibpihaaDoorRows
import Derived.Test.YtlinngelibpihaaDoorCopy
import Derived.Test.YtlinngelibpihaaDoorRow
import Derived.Test.YtlinngelibpihaaDoorSeq
namespace Go.Proofs.YtlinngelibpihaaDoor
open Go Go.RowKit

/-- Where the first stands for which p is not below 0. -/
def posC {α : Type} (p : α → Int) : List α → Nat
  | [] => 0
  | d :: l => if p d < 0 then posC p l + 1 else 0
def atC {α : Type} (p : α → Int) (l : List α) : Bool := match l[posC p l]? with
  | some d => p d == 0
  | none => false
/-- What is below 0 stands ahead. -/
def MonoC {α : Type} (p : α → Int) (l : List α) : Prop := ∀ (i j : Nat) (d e : α), i < j → l[i]? = some d → l[j]? = some e → p e < 0 → p d < 0
def BelowC {α : Type} (p : α → Int) (l : List α) (x : Nat) : Prop := ∀ (i : Nat) (d : α), i < x → l[i]? = some d → p d < 0
def AboveC {α : Type} (p : α → Int) (l : List α) (y : Nat) : Prop := ∀ (i : Nat) (d : α), y ≤ i → l[i]? = some d → 0 ≤ p d
section
variable {α : Type} {p : α → Int} {l : List α} {x y m : Nat} {d : α}
theorem BelowC.zero : BelowC p l 0 := fun _ _ h => absurd h (Nat.not_lt_zero _)
theorem AboveC.all (h : l.length = y) : AboveC p l y := fun i d hi hd => by
  have := (List.getElem?_eq_some_iff.1 hd).1
  omega
theorem BelowC.step (_h : BelowC p l x) (hm : MonoC p l) (hd : l[m]? = some d) (hn : p d < 0) : BelowC p l (m + 1) := fun i e hi he => by
  by_cases hie : i = m
  · subst hie; rw [hd] at he; exact Option.some.inj he ▸ hn
  · exact hm i m e d (by omega) he hd hn
theorem AboveC.step (_h : AboveC p l y) (hm : MonoC p l) (hd : l[m]? = some d) (hn : ¬ p d < 0) : AboveC p l m := fun i e hi he => by
  by_cases hie : i = m
  · subst hie; rw [hd] at he; have := Option.some.inj he ▸ hn; omega
  · have h1 : ¬ p e < 0 := fun hc => hn (hm m i d e (by omega) hd he hc)
    omega
theorem posC_eq (hx : BelowC p l x) (hy : AboveC p l x) (hl : x ≤ l.length) : posC p l = x := by
  induction l generalizing x with
  | nil => simp at hl; subst hl; rfl
  | cons a l ih =>
    cases x with
    | zero =>
      have := hy 0 a (Nat.le_refl _) rfl
      simp [posC]; omega
    | succ x =>
      have h0 := hx 0 a (by omega) rfl
      simp only [posC, h0, if_true]
      rw [ih (x := x) (fun i d hi hd => hx (i + 1) d (by omega) (by simpa using hd)) (fun i d hi hd => hy (i + 1) d (by omega) (by simpa using hd)) (by simpa using hl)]
theorem atC_eq (h : posC p l = x) (hd : l[x]? = some d) : atC p l = (p d == 0) := by unfold atC; rw [h, hd]
theorem atC_end (h : posC p l = x) (hl : l.length ≤ x) : atC p l = false := by unfold atC; rw [h, List.getElem?_eq_none hl]
theorem posC_le (p : α → Int) : ∀ l : List α, posC p l ≤ l.length
  | [] => Nat.le_refl _
  | d :: l => by
    simp only [posC, List.length_cons]
    split
    · have := posC_le p l; omega
    · omega
end





end Go.Proofs.YtlinngelibpihaaDoor
