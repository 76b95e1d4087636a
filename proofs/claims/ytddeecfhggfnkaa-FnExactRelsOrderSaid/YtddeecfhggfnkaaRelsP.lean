/- What houses are to each other, as plain data: which tables are valid. No condition. -/
import Derived.Test.YtddeecfhggfnkaaOpen
import Derived.Test.YtddeecfhggfnkaaRp
namespace Go.Proofs.Ytddeecfhggfnkaa
open Go Go.RowKit

/-- What one house is to another one (from 0). -/
def gI (m : List (List Int)) (i k : Nat) : Int := (m.getD i []).getD k 0
/-- What the first house is to the second, if that is so much to it. -/
def bk (r : Int) : Int := if r = 1 then 3 else if r = 3 then 1 else r
/-- One place of the table stands. -/
def cg (m : List (List Int)) (i k : Nat) : Prop :=
  (m.getD k []).length = m.length ∧ 0 ≤ gI m i k ∧ gI m i k ≤ 3 ∧ gI m k i = bk (gI m i k) ∧ (i = k → gI m i k = 0)
instance (m : List (List Int)) (i k : Nat) : Decidable (cg m i k) := by unfold cg; infer_instance
def rls (m : List (List Int)) : Bool := decide ((∀ i, i < m.length → (m.getD i []).length = m.length ∧ ∀ k, k < m.length → cg m i k) ∧ 1 ≤ m.length ∧ m.length ≤ 5)

theorem gI_at {m : List (List Int)} {i k : Nat} {d : List Int} {v : Int} (hd : m[i]? = some d) (hv : d[k]? = some v) : gI m i k = v := by
  simp [gI, List.getD, hd, hv]
theorem row_at {m : List (List Int)} {i : Nat} {d : List Int} (hd : m[i]? = some d) : m.getD i [] = d := by simp [List.getD, hd]

theorem rls_no_row {m : List (List Int)} {i : Nat} (hi : i < m.length) (h : ¬ (m.getD i []).length = m.length) : rls m = false := by
  unfold rls; rw [decide_eq_false_iff_not]; intro hh; exact h (hh.1 i hi).1
theorem rls_no {m : List (List Int)} {i k : Nat} (hi : i < m.length) (hk : k < m.length) (h : ¬ cg m i k) : rls m = false := by
  unfold rls; rw [decide_eq_false_iff_not]; intro hh; exact h ((hh.1 i hi).2 k hk)
theorem rls_all {m : List (List Int)} (h : ∀ i, i < m.length → (m.getD i []).length = m.length ∧ ∀ k, k < m.length → cg m i k) : rls m = inB m.length 1 5 := by
  unfold rls inB; rw [decide_eq_decide]
  constructor
  · rintro ⟨_, h1, h2⟩; omega
  · rintro ⟨h1, h2⟩; exact ⟨h, by omega, by omega⟩

theorem rls_parts {m : List (List Int)} (h : rls m = true) : 1 ≤ m.length ∧ m.length ≤ 5 ∧ ∀ i, i < m.length → (m.getD i []).length = m.length ∧ ∀ k, k < m.length → cg m i k := by
  have h' := of_decide_eq_true h; exact ⟨h'.2.1, h'.2.2, h'.1⟩
/-- What house b is to house a (from 1). -/
def gJ (m : List (List Int)) (a b : Int) : Int := gI m (a - 1).toNat (b - 1).toNat
theorem gJ_nat (m : List (List Int)) (i k : Nat) : gJ m ((i : Int) + 1) ((k : Int) + 1) = gI m i k := by
  unfold gJ; congr 1 <;> omega
/-- RelOf. -/
def relOf (m : List (List Int)) (a b : Int) : Int := if rls m = true ∧ inB a 1 m.length = true ∧ inB b 1 m.length = true then gJ m a b else 0
/-- What a house may tell. -/
def mayB (m : List (List Int)) (h o t : Int) : Bool := if gJ m h t = 0 then false else decide (o = 0) || (decide (gJ m h o = 1) || decide (gJ m h t = 1))
def relMay (m : List (List Int)) (h o t : Int) : Bool := rls m && (inB h 1 m.length && (inB o 0 m.length && (inB t 1 m.length && mayB m h o t)))

end Go.Proofs.Ytddeecfhggfnkaa
