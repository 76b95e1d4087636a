/- Plain functions on ranges: no program in sight. No condition. -/
import Derived.WalkKit
namespace Go.Proofs.Ytbjignakkkgpgaa
open Go Go.RowKit

theorem ret_bool {a b : Bool} (h : a = b) : Ending.returned (.bool a) = .returned (.bool b) := by rw [h]
theorem ret_int {k : IntKind} {a b : Int} (h : a = b) : Ending.returned (.int k a) = .returned (.int k b) := by rw [h]

/-- How many addresses agree in so many bits. -/
def rsz (b : Int) : Int := 2 ^ (8 - b).toNat
def rok (f b : Int) : Bool := decide (0 ≤ b ∧ b ≤ 8 ∧ 0 ≤ f ∧ f ≤ 255 ∧ f % rsz b = 0)
def inB (n lo hi : Int) : Bool := decide (lo ≤ n ∧ n ≤ hi)

theorem inB_true {n lo hi : Int} : inB n lo hi = true ↔ lo ≤ n ∧ n ≤ hi := by simp [inB]
theorem inB_false {n lo hi : Int} : inB n lo hi = false ↔ ¬ (lo ≤ n ∧ n ≤ hi) := by simp [inB]
theorem inB_t {n lo hi : Int} (h : lo ≤ n) (k : n ≤ hi) : inB n lo hi = true := inB_true.2 ⟨h, k⟩
theorem inB_f {n lo hi : Int} (h : ¬ (lo ≤ n ∧ n ≤ hi)) : inB n lo hi = false := inB_false.2 h

theorem eight {b : Int} (h0 : 0 ≤ b) (h1 : b ≤ 8) : b = 0 ∨ b = 1 ∨ b = 2 ∨ b = 3 ∨ b = 4 ∨ b = 5 ∨ b = 6 ∨ b = 7 ∨ b = 8 := by omega
theorem rsz_bd {b : Int} (h0 : 0 ≤ b) (h1 : b ≤ 8) : 1 ≤ rsz b ∧ rsz b ≤ 256 := by
  rcases eight h0 h1 with rfl | rfl | rfl | rfl | rfl | rfl | rfl | rfl | rfl <;> decide
theorem rsz_half {b : Int} (h0 : 0 ≤ b) (h1 : b ≤ 7) : rsz b / 2 = rsz (b + 1) := by
  rcases eight h0 (by omega) with rfl | rfl | rfl | rfl | rfl | rfl | rfl | rfl | rfl <;> first | decide | omega
theorem rsz_double {b : Int} (h0 : 0 ≤ b) (h1 : b ≤ 7) : rsz b = 2 * rsz (b + 1) := by
  rcases eight h0 (by omega) with rfl | rfl | rfl | rfl | rfl | rfl | rfl | rfl | rfl <;> first | decide | omega
theorem rsz_zero : rsz 0 = 256 := by decide
theorem rok_true {f b : Int} : rok f b = true ↔ 0 ≤ b ∧ b ≤ 8 ∧ 0 ≤ f ∧ f ≤ 255 ∧ f % rsz b = 0 := by simp [rok]
theorem rok_false {f b : Int} : rok f b = false ↔ ¬ (0 ≤ b ∧ b ≤ 8 ∧ 0 ≤ f ∧ f ≤ 255 ∧ f % rsz b = 0) := by
  unfold rok; exact decide_eq_false_iff_not
theorem rok_eq {f b : Int} (hb0 : 0 ≤ b) (hb : b ≤ 8) (hf0 : 0 ≤ f) (hf : f ≤ 255) : (f % rsz b == 0) = rok f b := by
  rw [Bool.eq_iff_iff, rok_true]; simp [*]
theorem wrap_rsz {b : Int} (h0 : 0 ≤ b) (h1 : b ≤ 8) : wrap64 (2 ^ (8 - b).toNat) = rsz b :=
  IntWalk.wrap64_in _ (by have := rsz_bd h0 h1; unfold rsz at this; omega)

def covB (f b addr : Int) : Bool := decide (f ≤ addr ∧ addr < f + rsz b)
def rhas (f b addr : Int) : Bool := rok f b && (inB addr 0 255 && covB f b addr)
def rin (f b f' b' : Int) : Bool := rok f b && (rok f' b' && (decide (b' ≤ b) && covB f' b' f))
theorem rok_bd {f b : Int} (h : rok f b = true) : 0 ≤ b ∧ b ≤ 8 ∧ 0 ≤ f ∧ f ≤ 255 := by
  have := rok_true.1 h
  exact ⟨this.1, this.2.1, this.2.2.1, this.2.2.2.1⟩
/-- The reference's test is the program's. -/
theorem cov_div {f b addr : Int} (h : rok f b = true) (h0 : 0 ≤ addr) : (addr / rsz b == f / rsz b) = covB f b addr := by
  obtain ⟨h1, h2, h3, h4, h5⟩ := rok_true.1 h
  rw [Bool.eq_iff_iff]
  simp only [beq_iff_eq, covB, decide_eq_true_eq]
  rcases eight h1 h2 with rfl | rfl | rfl | rfl | rfl | rfl | rfl | rfl | rfl <;> simp [rsz] at * <;> omega
theorem ge_true {a b : Int} (h : b ≤ a) : decide (b ≤ a) = true := by simpa using h
theorem ge_false {a b : Int} (h : ¬ b ≤ a) : decide (b ≤ a) = false := by simpa using h
theorem lt_true {a b : Int} (h : b < a) : decide (b < a) = true := by simpa using h
theorem lt_false {a b : Int} (h : ¬ b < a) : decide (b < a) = false := by simpa using h
/-- How numbers are ordered. -/
def cmpI (a b : Int) : Int := if a < b then -1 else if b < a then 1 else 0
/-- The first that is not 0. -/
def orL : List Int → Int
  | [] => 0
  | a :: l => if a = 0 then orL l else a
def rcmp (f b f' b' : Int) : Int := if rok f b = true ∧ rok f' b' = true then orL [cmpI f f', cmpI b b'] else 0
theorem cmpI_lt {a b : Int} (h : a < b) : cmpI a b = -1 := by simp [cmpI, h]
theorem cmpI_gt {a b : Int} (h : b < a) : cmpI a b = 1 := by
  have : ¬ a < b := by omega
  simp [cmpI, h, this]
theorem cmpI_eq (a : Int) : cmpI a a = 0 := by simp [cmpI]
theorem cmpI_bd (a b : Int) : -1 ≤ cmpI a b ∧ cmpI a b ≤ 1 := by unfold cmpI; split <;> (try split) <;> omega
theorem orL_drop {l : List Int} {k : Nat} (h : k < l.length) : orL (l.drop k) = if l[k] = 0 then orL (l.drop (k + 1)) else l[k] := by
  rw [List.drop_eq_getElem_cons h]; rfl
def rmany (f b : Int) : Int := if rok f b = true then rsz b else 0

end Go.Proofs.Ytbjignakkkgpgaa
