/- Updates of route lists: plain. No condition. -/
import Derived.Test.YtlehcnfmagjilaaDoorCmpR
import Derived.Test.YtlehcnfmagjilaaDoorRcP
import Derived.Test.YtlehcnfmagjilaaDoorBin
import Derived.Test.YtlehcnfmagjilaaDoorPush
namespace Go.Proofs.YtlehcnfmagjilaaDoor
open Go Go.RowKit

theorem lexC_zero2 : ∀ {l m : List Int}, lexC l m = 0 → l = m
  | [], [], _ => rfl
  | [], _ :: _, h => by simp [lexC] at h
  | _ :: _, [], h => by simp [lexC] at h
  | x :: a, y :: b, h => by
    rw [lexC] at h
    split at h
    · omega
    · split at h
      · omega
      · rw [lexC_zero2 h, show x = y by omega]
theorem lexC_self2 : ∀ (l : List Int), lexC l l = 0
  | [] => rfl
  | x :: a => by rw [lexC, if_neg (by omega), if_neg (by omega), lexC_self2 a]
theorem pcmp_zero2 {l m : List Int} : pcmp l m = 0 ↔ l = m := by
  constructor
  · intro h
    unfold pcmp at h
    simp only [orL] at h
    split at h
    · split at h
      · exact lexC_zero2 (by assumption)
      · exact absurd h (by assumption)
    · exact absurd h (by assumption)
  · rintro rfl
    unfold pcmp
    rw [cmpI_eq]
    simp [orL, lexC_self2]
theorem cmpI_zero {a b : Int} : cmpI a b = 0 ↔ a = b := by
  unfold cmpI
  repeat' split
  all_goals omega
theorem rtC_zero {d e : Rt} : rtC d e = 0 ↔ d = e := by
  rw [Rt_eq]
  constructor
  · intro h
    unfold rtC at h
    simp only [orL] at h
    repeat' split at h
    all_goals first
      | (exfalso; contradiction)
      | (rename_i h1 h2 h3 h4
         exact ⟨rc_zero.1 h3, pcmp_zero2.1 h2, (cmpI_zero.1 h1).symm, pcmp_zero2.1 h4⟩)
      | (rename_i h1 h2 h3
         exact ⟨rc_zero.1 h3, pcmp_zero2.1 h2, (cmpI_zero.1 h1).symm, pcmp_zero2.1 h⟩)
  · rintro ⟨h1, h2, h3, h4⟩
    have h1' := rc_zero.2 h1
    have h2' := pcmp_zero2.2 h2
    have h4' := pcmp_zero2.2 h4
    unfold rtC
    rw [h3, cmpI_eq, h2', h1', h4']
    simp [orL]

def rtR (x : Rg) (d : Rt) : Bool := decide (d.r = x)
section
variable {t : List Rt} {e : Rt} {r : Rg}
/-- Strictly ascending: any two. -/
def SortedT (t : List Rt) : Prop := ∀ (i j : Nat) (d d' : Rt), i < j → t[i]? = some d → t[j]? = some d' → rc d.r d'.r < 0
theorem rts_sortedK {k : Nat} (h : AscK rtOk rtLt t k) : ∀ (j i : Nat) (d d' : Rt), i < j → j < k → t[i]? = some d → t[j]? = some d' → rc d.r d'.r < 0
  | 0, i, _, _, hi, _, _, _ => by omega
  | j + 1, i, d, d', hi, hj, hd, hd' => by
    obtain ⟨p, hp⟩ : ∃ p, t[j]? = some p := ⟨_, List.getElem?_eq_getElem (by have := (List.getElem?_eq_some_iff.1 hd').1; omega)⟩
    have h1 : rc p.r d'.r < 0 := by simpa [rtLt, rlt] using h.2 j p d' hj hp hd'
    by_cases hij : i = j
    · subst hij; rw [hp] at hd; obtain rfl := Option.some.inj hd; exact h1
    · exact rc_trans (rts_sortedK h j i d p (by omega) (by omega) hd hp) h1
theorem rts_asc (h : rtsOk t = true) : AscK rtOk rtLt t t.length := by
  unfold rtsOk at h
  simp only [Bool.and_eq_true] at h
  exact ascB_iff.1 h.1
theorem rts_sorted (h : rtsOk t = true) : SortedT t := fun i j d d' hi hd hd' => rts_sortedK (rts_asc h) j i d d' hi (List.getElem?_eq_some_iff.1 hd').1 hd hd'
theorem rts_le (h : rtsOk t = true) : t.length ≤ 12 := by
  unfold rtsOk at h
  simp only [Bool.and_eq_true, decide_eq_true_eq] at h
  exact h.2
theorem rts_rt (h : rtsOk t = true) {d : Rt} (hd : d ∈ t) : rtOk d = true := by
  obtain ⟨i, hi, rfl⟩ := List.mem_iff_getElem.1 hd
  exact (rts_asc h).1 i _ hi (List.getElem?_eq_getElem hi)
theorem sortedT_mono (h : SortedT t) (r : Rg) : MonoC (fun d => rc d.r r) t := fun i j d e hij hd he hn => rc_trans (h i j d e hij hd he) hn
theorem SortedT.tail {d : Rt} (h : SortedT (d :: t)) : SortedT t := fun i j a b hij ha hb => h (i + 1) (j + 1) a b (by omega) (by simpa using ha) (by simpa using hb)
theorem SortedT.head {d d' : Rt} (h : SortedT (d :: t)) (hd : d' ∈ t) : rc d.r d'.r < 0 := by
  obtain ⟨i, hi, rfl⟩ := List.mem_iff_getElem.1 hd
  exact h 0 (i + 1) d _ (by omega) rfl (by simp)
theorem SortedT.inj (h : SortedT t) {i j : Nat} {d d' : Rt} (hd : t[i]? = some d) (hd' : t[j]? = some d') (he : d.r = d'.r) : i = j := by
  rcases Nat.lt_trichotomy i j with k | k | k
  · have := h i j d d' k hd hd'; rw [he, rc_zero.2 rfl] at this; omega
  · exact k
  · have := h j i d' d k hd' hd; rw [he, rc_zero.2 rfl] at this; omega
/-- Where a range stands: the search in the order, and the search one by one. -/
theorem atT (h : SortedT t) (r : Rg) : atC (fun d => rc d.r r) t = t.any (rtR r) ∧ (t.any (rtR r) = true → findI (rtR r) t = (posC (fun d => rc d.r r) t : Int)) := by
  induction t with
  | nil => exact ⟨rfl, fun h => by cases h⟩
  | cons d t ih =>
    obtain ⟨i1, i2⟩ := ih h.tail
    by_cases h1 : rc d.r r < 0
    · have hne : ¬ d.r = r := fun e => by rw [← rc_zero] at e; omega
      have e1 : posC (fun x : Rt => rc x.r r) (d :: t) = posC (fun x : Rt => rc x.r r) t + 1 := by simp [posC, h1]
      have e2 : atC (fun x : Rt => rc x.r r) (d :: t) = atC (fun x : Rt => rc x.r r) t := by unfold atC; rw [e1]; simp
      have e3 : (d :: t).any (rtR r) = t.any (rtR r) := by simp [rtR, hne]
      rw [e1, e2, e3]
      refine ⟨i1, fun hh => ?_⟩
      obtain ⟨k, g, hk, hg, hp⟩ : ∃ (k : Nat) (g : Rt), findI (rtR r) t = (k : Int) ∧ t[k]? = some g ∧ (t.take k).any (rtR r) = false ∧ rtR r g = true := by
        have hlt : t.findIdx (rtR r) < t.length := List.findIdx_lt_length.2 (List.any_eq_true.1 hh)
        refine ⟨t.findIdx (rtR r), t[t.findIdx (rtR r)], by unfold findI; rw [if_pos hh], List.getElem?_eq_getElem hlt, ?_, List.findIdx_getElem⟩
        rw [List.any_eq_false]
        intro x hx
        obtain ⟨j, hj, rfl⟩ := List.mem_take_iff_getElem.1 hx
        have := List.not_of_lt_findIdx (show j < t.findIdx (rtR r) by omega)
        simpa using this
      have hf : findI (rtR r) (d :: t) = ((k + 1 : Nat) : Int) := findI_at (d := g) (by simp [rtR, hne, hp.1]) (by simpa using hg) hp.2
      rw [hf]
      have := i2 hh
      omega
    · have e1 : posC (fun x : Rt => rc x.r r) (d :: t) = 0 := by simp [posC, h1]
      have e2 : atC (fun x : Rt => rc x.r r) (d :: t) = (rc d.r r == 0) := by unfold atC; rw [e1]; simp
      rw [e1, e2]
      by_cases h3 : rc d.r r = 0
      · have hq : d.r = r := rc_zero.1 h3
        refine ⟨by rw [h3]; simp [rtR, hq], fun _ => findI_at (k := 0) (d := d) rfl rfl (by simp [rtR, hq])⟩
      · have hq : ¬ d.r = r := fun e => h3 (rc_zero.2 e)
        have hno : t.any (rtR r) = false := by
          rw [List.any_eq_false]
          intro x hx hc
          have h4 := h.head hx
          rw [of_decide_eq_true hc] at h4
          exact h1 h4
        refine ⟨by simp [rtR, h3, hq, hno], fun hh => ?_⟩
        simp [rtR, hq] at hh
        obtain ⟨x, hx, hxr⟩ := hh
        have := List.any_eq_false.1 hno x hx
        simp [rtR, hxr] at this
end

/-- The update from one route list to another one. -/
def dropQ (b : List Rt) (r : Rt) : Option Rg := if b.any (rtR r.r) = true then none else some r.r
def tellQ (a : List Rt) (r : Rt) : Option Rt := if a.any (fun d => decide (d = r)) = true then none else some r
noncomputable def deltaOf (a b : List Rt) : Dl := if (rtsOk a && rtsOk b) = true then ⟨a.filterMap (dropQ b), b.filterMap (tellQ a)⟩ else ⟨[], []⟩
section
variable {a b : List Rt} {r d : Rt} {k : Nat}
theorem deltaOf_yes (h : rtsOk a = true) (h' : rtsOk b = true) : deltaOf a b = ⟨a.filterMap (dropQ b), b.filterMap (tellQ a)⟩ := by unfold deltaOf; rw [h, h']; rfl
theorem deltaOf_no (h : (rtsOk a && rtsOk b) = false) : deltaOf a b = ⟨[], []⟩ := by unfold deltaOf; rw [h]; rfl
theorem dropQ_no (h : b.any (rtR r.r) = true) : dropQ b r = none := by unfold dropQ; rw [if_pos h]
theorem dropQ_yes (h : b.any (rtR r.r) = false) : dropQ b r = some r.r := by unfold dropQ; rw [h]; rfl
theorem tellQ_new (h : a.any (rtR r.r) = false) : tellQ a r = some r := by
  unfold tellQ
  rw [if_neg]
  intro hh
  obtain ⟨x, hx, hq⟩ := List.any_eq_true.1 hh
  have := List.any_eq_false.1 h x hx
  rw [of_decide_eq_true hq] at this
  simp [rtR] at this
theorem tellQ_at (h : SortedT a) (hd : a[k]? = some d) (hr : d.r = r.r) : tellQ a r = if d = r then none else some r := by
  unfold tellQ
  by_cases hq : d = r
  · rw [if_pos hq, if_pos]
    exact any_at hd (decide_eq_true hq)
  · rw [if_neg hq, if_neg]
    intro hh
    obtain ⟨x, hx, hq2⟩ := List.any_eq_true.1 hh
    obtain ⟨i, hi, rfl⟩ := List.mem_iff_getElem.1 hx
    have hxr := of_decide_eq_true hq2
    have e := h.inj (List.getElem?_eq_getElem hi) hd (by rw [hxr, hr])
    subst e
    rw [List.getElem?_eq_getElem hi] at hd
    exact hq ((Option.some.inj hd).symm.trans hxr)
end

end Go.Proofs.YtlehcnfmagjilaaDoor
