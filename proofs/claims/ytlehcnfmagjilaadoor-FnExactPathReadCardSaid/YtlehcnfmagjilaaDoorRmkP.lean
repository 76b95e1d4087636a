/- Marks with one more, and without one: plain. No condition. -/
import Derived.Test.YtlehcnfmagjilaaDoorRoute
import Derived.Test.YtlehcnfmagjilaaDoorBin
namespace Go.Proofs.YtlehcnfmagjilaaDoor
open Go Go.RowKit

/-- Marks with one more: where it stands in their order. -/
def insM (m : Int) : List Int → List Int
  | [] => [m]
  | d :: l => if d < m then d :: insM m l else if d = m then d :: l else m :: d :: l
def mkS (m : Int) (s : List Int × Bool) (d : Int) : List Int × Bool :=
  if d = m then (if s.2 = false ∧ m ≤ d then (s.1 ++ [m], true) else s) else if s.2 = false ∧ m ≤ d then (s.1 ++ [m] ++ [d], true) else (s.1 ++ [d], s.2)
theorem mkS_true (m : Int) : ∀ (l A : List Int), l.foldl (mkS m) (A, true) = (A ++ l.filter (fun d => d != m), true)
  | [], A => by simp
  | d :: l, A => by
    rw [List.foldl_cons]
    by_cases h : d = m
    · rw [show mkS m (A, true) d = (A, true) by simp [mkS, h], mkS_true m l A, List.filter_cons_of_neg (by simp [h])]
    · rw [show mkS m (A, true) d = (A ++ [d], true) by simp [mkS, h], mkS_true m l (A ++ [d]), List.filter_cons_of_pos (by simp [h])]
      simp
def mkEnd (m : Int) (s : List Int × Bool) : List Int := if s.2 = true then s.1 else s.1 ++ [m]
theorem mkS_false (m : Int) : ∀ (l A : List Int), l.Pairwise (· < ·) → mkEnd m (l.foldl (mkS m) (A, false)) = A ++ insM m l
  | [], A, _ => by simp [mkEnd, insM]
  | d :: l, A, hp => by
    rw [List.pairwise_cons] at hp
    rw [List.foldl_cons, insM]
    by_cases h1 : d < m
    · rw [show mkS m (A, false) d = (A ++ [d], false) by unfold mkS; rw [if_neg (by omega), if_neg (by simp; omega)], mkS_false m l (A ++ [d]) hp.2, if_pos h1]
      simp
    · have hf : d ≤ m ∨ m < d → l.filter (fun x => x != m) = l := fun _ => List.filter_eq_self.2 fun x hx => by
        have := hp.1 x hx
        simp; omega
      have hf := hf (by omega)
      by_cases h2 : d = m
      · rw [show mkS m (A, false) d = (A ++ [m], true) by unfold mkS; rw [if_pos h2, if_pos ⟨rfl, by omega⟩], mkS_true, hf, if_neg h1, if_pos h2, h2]
        simp [mkEnd]
      · rw [show mkS m (A, false) d = (A ++ [m] ++ [d], true) by unfold mkS; rw [if_neg h2, if_pos ⟨rfl, by omega⟩], mkS_true, hf, if_neg h1, if_neg h2]
        simp [mkEnd]
theorem insM_pos (m : Int) : ∀ l : List Int, insM m l = if atC (fun d => d - m) l = true then l else l.take (posC (fun d => d - m) l) ++ [m] ++ l.drop (posC (fun d => d - m) l)
  | [] => by simp [insM, atC, posC]
  | d :: l => by
    rw [insM]
    by_cases h1 : d < m
    · have e1 : posC (fun d => d - m) (d :: l) = posC (fun d => d - m) l + 1 := by simp only [posC]; rw [if_pos (by omega)]
      have e2 : atC (fun d => d - m) (d :: l) = atC (fun d => d - m) l := by unfold atC; rw [e1]; simp
      rw [if_pos h1, e1, e2, insM_pos m l]
      split
      · rfl
      · simp
    · have e1 : posC (fun d => d - m) (d :: l) = 0 := by simp only [posC]; rw [if_neg (by omega)]
      have e2 : atC (fun d => d - m) (d :: l) = (d - m == 0) := by unfold atC; rw [e1]; rfl
      rw [if_neg h1, e1, e2]
      by_cases h2 : d = m
      · rw [if_pos h2, if_pos (by simp; omega)]
      · rw [if_neg h2, if_neg (by simp; omega)]
        simp
theorem insM_len (m : Int) : ∀ l : List Int, (insM m l).length ≤ l.length + 1
  | [] => by simp [insM]
  | d :: l => by
    have := insM_len m l
    rw [insM]
    split
    · simp; omega
    · split <;> simp
theorem marks_pw {l : List Int} (h : marksB l = true) : l.Pairwise (· < ·) := by
  have hk := (ascB_iff.1 h).2
  rw [List.pairwise_iff_getElem]
  intro i j hi hj hij
  induction j with
  | zero => omega
  | succ j ih =>
    have h1 := hk j _ _ hj (List.getElem?_eq_getElem (by omega)) (List.getElem?_eq_getElem hj)
    simp only [markLt, decide_eq_true_eq] at h1
    by_cases hji : i = j
    · subst hji; exact h1
    · exact Int.lt_trans (ih (by omega) (by omega)) h1
theorem pw_mono {l : List Int} (h : l.Pairwise (· < ·)) (m : Int) : MonoC (fun d => d - m) l := by
  intro i j d e hij hd he hlt
  rw [List.pairwise_iff_getElem] at h
  obtain ⟨h1, rfl⟩ := List.getElem?_eq_some_iff.1 hd
  obtain ⟨h2, rfl⟩ := List.getElem?_eq_some_iff.1 he
  have := h i j h1 h2 hij
  have hlt' : l[j] - m < 0 := hlt
  show l[i] - m < 0
  omega
theorem fold_snoc {α β : Type} {f : β → α → β} {b : β} {l : List α} {k : Nat} {d : α} (hd : l[k]? = some d) : (l.take (k + 1)).foldl f b = f ((l.take k).foldl f b) d := by
  rw [List.take_add_one, hd, List.foldl_append]; rfl
theorem marks_le {l : List Int} (h : marksB l = true) : l.length ≤ 9 := by
  have h1 := len_le 9 l ((marks_pw h).imp (fun h => by omega)) (fun d hd => by
    have := ascB_oks h hd
    exact inB_true.1 this)
  exact h1

/-- RouteMark, RouteClear. -/
def rt0 : Rt := ⟨⟨0, 0⟩, [], 0, []⟩
noncomputable def rmark (d : Rt) (m : Int) : Rt × Bool := if (rtOk d && inB m 1 9) = true then ({ d with marks := insM m d.marks }, true) else (rt0, false)
noncomputable def rclear (d : Rt) (m : Int) : Rt × Bool := if (rtOk d && inB m 1 9) = true then ({ d with marks := d.marks.filter (fun x => x != m) }, true) else (rt0, false)
theorem rmark_no {d : Rt} {m : Int} (h : (rtOk d && inB m 1 9) = false) : rmark d m = (rt0, false) := by unfold rmark; rw [h]; rfl
theorem rmark_yes {d : Rt} {m : Int} (h : rtOk d = true) (h' : inB m 1 9 = true) : rmark d m = ({ d with marks := insM m d.marks }, true) := by unfold rmark; rw [h, h']; rfl
theorem rclear_no {d : Rt} {m : Int} (h : (rtOk d && inB m 1 9) = false) : rclear d m = (rt0, false) := by unfold rclear; rw [h]; rfl
theorem rclear_yes {d : Rt} {m : Int} (h : rtOk d = true) (h' : inB m 1 9 = true) : rclear d m = ({ d with marks := d.marks.filter (fun x => x != m) }, true) := by unfold rclear; rw [h, h']; rfl
theorem rtOk_marks {d : Rt} (h : rtOk d = true) : marksB d.marks = true := by simp only [rtOk, Bool.and_eq_true] at h; exact h.2.2.2.2
theorem rtOk_pathB {d : Rt} (h : rtOk d = true) : pathB d.path = true := by simp only [rtOk, Bool.and_eq_true] at h; exact h.2.1

end Go.Proofs.YtlehcnfmagjilaaDoor
