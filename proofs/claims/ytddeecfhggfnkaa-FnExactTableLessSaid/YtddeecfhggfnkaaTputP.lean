/- Tables with an entry, and without one: plain. No condition. -/
import Derived.Test.YtddeecfhggfnkaaBin
import Derived.Test.YtddeecfhggfnkaaTab
namespace Go.Proofs.Ytddeecfhggfnkaa
open Go Go.RowKit

theorem rc_lt {a b : Rg} : rc a b < 0 ↔ a.f < b.f ∨ (a.f = b.f ∧ a.b < b.b) := by
  simp only [rc, orL, cmpI]
  repeat' split
  all_goals omega
theorem rc_zero {a b : Rg} : rc a b = 0 ↔ a = b := by
  rw [Rg_eq]
  simp only [rc, orL, cmpI]
  repeat' split
  all_goals omega
theorem rc_pos {a b : Rg} : 0 < rc a b ↔ rc b a < 0 := by
  rw [rc_lt]
  simp only [rc, orL, cmpI]
  repeat' split
  all_goals omega
theorem rc_trans {a b c : Rg} (h : rc a b < 0) (k : rc b c < 0) : rc a c < 0 := by
  rw [rc_lt] at *
  omega
section
variable {t : List En} {e : En}
/-- Strictly ascending: any two. -/
def SortedR (t : List En) : Prop := ∀ (i j : Nat) (d d' : En), i < j → t[i]? = some d → t[j]? = some d' → rc d.r d'.r < 0
theorem asc_sorted {k : Nat} (h : AscK enOk elt t k) : ∀ (j i : Nat) (d d' : En), i < j → j < k → t[i]? = some d → t[j]? = some d' → rc d.r d'.r < 0
  | 0, i, _, _, hi, _, _, _ => by omega
  | j + 1, i, d, d', hi, hj, hd, hd' => by
    obtain ⟨p, hp⟩ : ∃ p, t[j]? = some p := ⟨_, List.getElem?_eq_getElem (by have := (List.getElem?_eq_some_iff.1 hd').1; omega)⟩
    have h1 : rc p.r d'.r < 0 := by simpa [elt, rlt] using h.2 j p d' hj hp hd'
    by_cases hij : i = j
    · subst hij; rw [hp] at hd; obtain rfl := Option.some.inj hd; exact h1
    · exact rc_trans (asc_sorted h j i d p (by omega) (by omega) hd hp) h1
theorem tbl_asc (h : tbl t = true) : AscK enOk elt t t.length := by
  unfold tbl at h
  simp only [Bool.and_eq_true] at h
  exact ascB_iff.1 h.1
theorem tbl_sorted (h : tbl t = true) : SortedR t := fun i j d d' hi hd hd' => asc_sorted (tbl_asc h) j i d d' hi (List.getElem?_eq_some_iff.1 hd').1 hd hd'
theorem tbl_le (h : tbl t = true) : t.length ≤ 12 := by
  unfold tbl at h
  simp only [Bool.and_eq_true, decide_eq_true_eq] at h
  exact h.2
theorem tbl_en (h : tbl t = true) {d : En} (hd : d ∈ t) : enOk d = true := by
  obtain ⟨i, hi, rfl⟩ := List.mem_iff_getElem.1 hd
  exact (tbl_asc h).1 i _ hi (List.getElem?_eq_getElem hi)
theorem sorted_mono (h : SortedR t) (r : Rg) : MonoC (fun d => rc d.r r) t := fun i j d e hij hd he hn => rc_trans (h i j d e hij hd he) hn
theorem SortedR.tail {d : En} (h : SortedR (d :: t)) : SortedR t := fun i j a b hij ha hb => h (i + 1) (j + 1) a b (by omega) (by simpa using ha) (by simpa using hb)
theorem SortedR.head {d d' : En} (h : SortedR (d :: t)) (hd : d' ∈ t) : rc d.r d'.r < 0 := by
  obtain ⟨i, hi, rfl⟩ := List.mem_iff_getElem.1 hd
  exact h 0 (i + 1) d _ (by omega) rfl (by simp)

/-- A table with an entry. -/
def putL (t : List En) (e : En) : List En := if atC (fun d => rc d.r e.r) t = true then t.set (posC (fun d => rc d.r e.r) t) e else t.take (posC (fun d => rc d.r e.r) t) ++ [e] ++ t.drop (posC (fun d => rc d.r e.r) t)
noncomputable def tput (t : List En) (e : En) : List En × Bool := if (tbl t && enOk e) = true then (if atC (fun d => rc d.r e.r) t = true then (putL t e, true) else if t.length = 12 then (t, false) else (putL t e, true)) else ([], false)

/-- How the reference goes. -/
def putS (e : En) (s : List En × Bool) (d : En) : List En × Bool :=
  ((s.1 ++ (if (!s.2 && decide (0 ≤ rc d.r e.r)) = true then [e] else [])) ++ (if rc d.r e.r = 0 then [] else [d]), s.2 || decide (0 ≤ rc d.r e.r))
def putE (e : En) (s : List En × Bool) : List En := if s.2 = true then s.1 else s.1 ++ [e]
theorem putS_after (h : ∀ d ∈ t, 0 < rc d.r e.r) : ∀ L, t.foldl (putS e) (L, true) = (L ++ t, true) := by
  induction t with
  | nil => intro L; simp
  | cons d t ih =>
    intro L
    have hd := h d (by simp)
    rw [List.foldl_cons]
    have : putS e (L, true) d = (L ++ [d], true) := by simp [putS, show ¬ rc d.r e.r = 0 by omega]
    rw [this, ih (fun x hx => h x (by simp [hx]))]
    simp
theorem posC_cons_lt {d : En} (h : rc d.r e.r < 0) : posC (fun x => rc x.r e.r) (d :: t) = posC (fun x => rc x.r e.r) t + 1 := by simp [posC, h]
theorem posC_cons_ge {d : En} (h : ¬ rc d.r e.r < 0) : posC (fun x => rc x.r e.r) (d :: t) = 0 := by simp [posC, h]
theorem atC_cons_lt {d : En} (h : rc d.r e.r < 0) : atC (fun x => rc x.r e.r) (d :: t) = atC (fun x => rc x.r e.r) t := by
  unfold atC; rw [posC_cons_lt h]; simp
theorem atC_cons_ge {d : En} (h : ¬ rc d.r e.r < 0) : atC (fun x => rc x.r e.r) (d :: t) = (rc d.r e.r == 0) := by
  unfold atC; rw [posC_cons_ge h]; simp
theorem putS_all (h : SortedR t) : ∀ L, putE e (t.foldl (putS e) (L, false)) = L ++ putL t e := by
  induction t with
  | nil => intro L; simp [putE, putL, atC, posC]
  | cons d t ih =>
    intro L
    rw [List.foldl_cons]
    by_cases h1 : rc d.r e.r < 0
    · have e1 : putS e (L, false) d = (L ++ [d], false) := by simp [putS, show ¬ 0 ≤ rc d.r e.r by omega, show ¬ rc d.r e.r = 0 by omega]
      rw [e1, ih h.tail]
      unfold putL
      rw [posC_cons_lt h1, atC_cons_lt h1]
      split <;> simp
    · have hp : ∀ x ∈ t, 0 < rc x.r e.r := fun x hx => by
        have h2 := h.head hx
        rw [rc_pos]
        by_cases h3 : rc d.r e.r = 0
        · rw [rc_zero] at h3; rw [← h3]; exact h2
        · have h4 : rc e.r d.r < 0 := by rw [← rc_pos]; omega
          exact rc_trans h4 h2
      unfold putL
      rw [posC_cons_ge h1, atC_cons_ge h1]
      by_cases h3 : rc d.r e.r = 0
      · have e1 : putS e (L, false) d = (L ++ [e], true) := by simp [putS, h3]
        rw [e1, putS_after hp]
        simp [putE, h3]
      · have e1 : putS e (L, false) d = (L ++ [e] ++ [d], true) := by simp [putS, h3, show 0 ≤ rc d.r e.r by omega]
        rw [e1, putS_after hp]
        simp [putE, h3]
theorem putL_len : (putL t e).length = if atC (fun d => rc d.r e.r) t = true then t.length else t.length + 1 := by
  unfold putL
  have := posC_le (fun d : En => rc d.r e.r) t
  split
  · simp
  · simp only [List.length_append, List.length_take, List.length_drop, List.length_cons, List.length_nil]; omega
theorem fold_take {α β : Type} {f : β → α → β} {b : β} {l : List α} {k : Nat} {d : α} (hd : l[k]? = some d) : (l.take (k + 1)).foldl f b = f ((l.take k).foldl f b) d := by
  rw [List.take_add_one, hd, List.foldl_append]; rfl

/-- A table without a range. -/
def dropL (t : List En) (r : Rg) : List En := t.filter fun d => !decide (d.r = r)
noncomputable def tdrop (t : List En) (r : Rg) : List En × Bool := if (tbl t && rok r.f r.b) = true then (dropL t r, atC (fun d => rc d.r r) t) else ([], false)
theorem dropL_at (h : SortedR t) (r : Rg) : dropL t r = if atC (fun d => rc d.r r) t = true then t.take (posC (fun d => rc d.r r) t) ++ t.drop (posC (fun d => rc d.r r) t + 1) else t := by
  induction t with
  | nil => simp [dropL, atC, posC]
  | cons d t ih =>
    have ih := ih h.tail
    unfold dropL at ih ⊢
    by_cases h1 : rc d.r r < 0
    · have hne : ¬ d.r = r := fun e => by rw [← rc_zero] at e; omega
      have e1 := posC_cons_lt (e := ⟨r, 0⟩) (t := t) h1
      have e2 := atC_cons_lt (e := ⟨r, 0⟩) (t := t) h1
      simp only at e1 e2
      rw [e1, e2, List.filter_cons_of_pos (by simp [hne]), ih]
      split <;> simp
    · have e1 := posC_cons_ge (e := ⟨r, 0⟩) (t := t) h1
      have e2 := atC_cons_ge (e := ⟨r, 0⟩) (t := t) h1
      simp only at e1 e2
      rw [e1, e2]
      have hp : ∀ x ∈ t, ¬ x.r = r := fun x hx e => by
        have h2 := h.head hx
        rw [e] at h2
        exact h1 h2
      have hf : t.filter (fun d => !decide (d.r = r)) = t := List.filter_eq_self.2 fun x hx => by simp [hp x hx]
      by_cases h3 : d.r = r
      · have h4 := rc_zero.2 h3
        rw [List.filter_cons_of_neg (by simp [h3]), hf]; simp [h4]
      · have h4 : ¬ rc d.r r = 0 := fun e => h3 (rc_zero.1 e)
        rw [List.filter_cons_of_pos (by simp [h3]), hf]; simp [h4]
end

end Go.Proofs.Ytddeecfhggfnkaa
