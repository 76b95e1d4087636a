/- The best of routes: plain. No condition. -/
import Derived.Test.YtlehcnfmagjilaaDoorDlP
namespace Go.Proofs.YtlehcnfmagjilaaDoor
open Go Go.RowKit

/-- A comparison that can be relied on. -/
structure Good {α : Type} (c : α → α → Int) : Prop where
  anti : ∀ x y, c x y = - c y x
  tr : ∀ x y z, c x y ≤ 0 → c y z ≤ 0 → c x z ≤ 0
section
variable {α β : Type} {c c1 c2 : α → α → Int}
theorem Good.self (h : Good c) (x : α) : c x x = 0 := by have := h.anti x x; omega
theorem Good.lt1 (h : Good c) {x y z : α} (h1 : c x y < 0) (h2 : c y z ≤ 0) : c x z < 0 := by
  have h3 := h.tr x y z (by omega) h2
  rcases Int.lt_or_eq_of_le h3 with h4 | h4
  · exact h4
  · have h5 := h.anti z x
    have h6 := h.tr y z x h2 (by omega)
    have h7 := h.anti x y
    omega
theorem Good.lt2 (h : Good c) {x y z : α} (h1 : c x y ≤ 0) (h2 : c y z < 0) : c x z < 0 := by
  have h3 := h.tr x y z h1 (by omega)
  rcases Int.lt_or_eq_of_le h3 with h4 | h4
  · exact h4
  · have h5 := h.anti z x
    have h6 := h.tr z x y (by omega) h1
    have h7 := h.anti y z
    omega
theorem Good.nil : Good (fun _ _ : α => (0 : Int)) := ⟨fun _ _ => rfl, fun _ _ _ _ _ => Int.le_refl _⟩
theorem Good.lex (h1 : Good c1) (h2 : Good c2) : Good (fun x y => if c1 x y = 0 then c2 x y else c1 x y) := by
  refine ⟨fun x y => ?_, fun x y z hxy hyz => ?_⟩
  · have a1 := h1.anti x y
    have a2 := h2.anti x y
    split <;> split <;> omega
  · have p1 : c1 x y ≤ 0 := by split at hxy <;> omega
    have p2 : c1 y z ≤ 0 := by split at hyz <;> omega
    have p3 := h1.tr x y z p1 p2
    split
    · rename_i h0
      have q1 : c1 x y = 0 := by
        rcases Int.lt_or_eq_of_le p1 with q | q
        · have := h1.lt1 q p2; omega
        · exact q
      have q2 : c1 y z = 0 := by
        rcases Int.lt_or_eq_of_le p2 with q | q
        · have := h1.lt2 p1 q; omega
        · exact q
      rw [if_pos q1] at hxy
      rw [if_pos q2] at hyz
      exact h2.tr x y z hxy hyz
    · exact p3
theorem Good.of (f : β → α) (h : Good c) : Good (fun x y => c (f x) (f y)) := ⟨fun _ _ => h.anti _ _, fun _ _ _ => h.tr _ _ _⟩
theorem Good.rev (h : Good c) : Good (fun x y => c y x) := ⟨fun _ _ => h.anti _ _, fun x y z h1 h2 => h.tr z y x h2 h1⟩
theorem Good.cons {L : α → α → List Int} (h1 : Good c1) (h2 : Good fun x y => orL (L x y)) : Good (fun x y => orL (c1 x y :: L x y)) := h1.lex h2
end
theorem good_cmpI : Good cmpI := by
  refine ⟨fun x y => ?_, fun x y z => ?_⟩
  · unfold cmpI; repeat' split
    all_goals omega
  · unfold cmpI; repeat' split
    all_goals omega
theorem lexC_anti : ∀ l m : List Int, lexC l m = - lexC m l
  | [], [] => rfl
  | [], _ :: _ => rfl
  | _ :: _, [] => rfl
  | x :: a, y :: b => by
    rw [lexC, lexC, lexC_anti a b]
    repeat' split
    all_goals omega
theorem lexC_tr : ∀ l m n : List Int, lexC l m ≤ 0 → lexC m n ≤ 0 → lexC l n ≤ 0
  | [], _, [] => by simp [lexC]
  | [], _, _ :: _ => by simp [lexC]
  | _ :: _, [], _ => by simp [lexC]
  | _ :: _, _ :: _, [] => by simp [lexC]
  | x :: a, y :: b, z :: d => by
    have := lexC_tr a b d
    simp only [lexC]
    repeat' split
    all_goals omega
theorem good_lexC : Good lexC := ⟨lexC_anti, lexC_tr⟩
theorem good_pcmp : Good pcmp := by
  have h : Good (fun l m : List Int => orL [cmpI (l.length : Int) m.length, lexC l m]) := (good_cmpI.of fun l : List Int => (l.length : Int)).cons (good_lexC.cons Good.nil)
  exact h
theorem good_rc : Good rc := by
  have h : Good (fun a b : Rg => orL [cmpI a.f b.f, cmpI a.b b.b]) := (good_cmpI.of fun a : Rg => a.f).cons ((good_cmpI.of fun a : Rg => a.b).cons Good.nil)
  exact h
theorem good_rtC : Good rtC := by
  have h : Good (fun d e : Rt => orL [cmpI e.like d.like, pcmp d.path e.path, rc d.r e.r, pcmp d.marks e.marks]) :=
    (good_cmpI.rev.of fun d : Rt => d.like).cons ((good_pcmp.of fun d : Rt => d.path).cons ((good_rc.of fun d : Rt => d.r).cons ((good_pcmp.of fun d : Rt => d.marks).cons Good.nil)))
  exact h

/-- Index i is ahead of index j. -/
def lessC (l : List Rt) (i j : Int) : Int := match l[i.toNat]?, l[j.toNat]? with
  | some d, some e => orL [rtC d e, cmpI i j]
  | _, _ => cmpI i j
noncomputable def lessI (l : List Rt) (i j : Int) : Bool := decide (lessC l i j < 0)
section
variable {l : List Rt} {i j : Int} {d e : Rt}
theorem lessC_eq (hd : l[i.toNat]? = some d) (he : l[j.toNat]? = some e) : lessC l i j = orL [rtC d e, cmpI i j] := by unfold lessC; rw [hd, he]
theorem lessI_eq (hd : l[i.toNat]? = some d) (he : l[j.toNat]? = some e) : decide (orL [rtC d e, cmpI i j] < 0) = lessI l i j := by unfold lessI; rw [lessC_eq hd he]
theorem get_of {l : List Rt} {i : Int} (h : i.toNat < l.length) : ∃ d, l[i.toNat]? = some d := ⟨_, List.getElem?_eq_getElem h⟩
theorem good_pair : Good (fun x y : Rt × Int => orL [rtC x.1 y.1, cmpI x.2 y.2]) :=
  (good_rtC.of fun x : Rt × Int => x.1).cons ((good_cmpI.of fun x : Rt × Int => x.2).cons Good.nil)
theorem less_self {x : Int} (h : x.toNat < l.length) : lessI l x x = false := by
  obtain ⟨d, hd⟩ := get_of h
  unfold lessI
  rw [lessC_eq hd hd]
  have := good_pair.self (d, x)
  simp only at this
  rw [this]; rfl
/-- The new one is ahead of the root, so it is ahead of all old ones. -/
theorem less_old {n r x : Int} (hn : n.toNat < l.length) (hr : r.toNat < l.length) (hx : x.toNat < l.length) (h1 : lessI l n r = true) (h2 : lessI l x r = false) : lessI l n x = true ∧ lessI l x n = false := by
  obtain ⟨a, ha⟩ := get_of hn
  obtain ⟨b, hb⟩ := get_of hr
  obtain ⟨c, hc⟩ := get_of hx
  unfold lessI at *
  rw [lessC_eq ha hb] at h1
  rw [lessC_eq hc hb] at h2
  rw [lessC_eq ha hc, lessC_eq hc ha]
  simp only [decide_eq_true_eq, decide_eq_false_iff_not] at *
  have g1 := good_pair.anti (b, r) (c, x)
  have g2 := good_pair.lt1 (x := (a, n)) (y := (b, r)) (z := (c, x)) h1 (by simp only at g1 ⊢; omega)
  have g3 := good_pair.anti (a, n) (c, x)
  simp only at g2 g3
  exact ⟨g2, by omega⟩

/-- The best of the first k. -/
noncomputable def bst (l : List Rt) : Nat → Nat
  | 0 => 0
  | k + 1 => if lessI l k (bst l k) = true then k else bst l k
theorem bst_le : ∀ k, bst l k ≤ k
  | 0 => Nat.le_refl _
  | k + 1 => by
    have := bst_le k
    rw [bst]
    split <;> omega
theorem bst_lt : ∀ k, 0 < k → bst l k < k
  | 0, h => by omega
  | k + 1, _ => by
    have := bst_le (l := l) k
    rw [bst]
    split <;> omega
theorem bst_one : bst l 1 = 0 := by
  have := bst_lt (l := l) 1 (by omega); omega
theorem bst_yes {k : Nat} (h : lessI l k (bst l k) = true) : bst l (k + 1) = k := by rw [bst, if_pos h]
theorem bst_no {k : Nat} (h : lessI l k (bst l k) = false) : bst l (k + 1) = bst l k := by rw [bst, h]; rfl
theorem less_spec {k b : Nat} (hd : l[k]? = some d) (he : l[b]? = some e) (hb : b < k) : lessI l k b = decide (rtC d e < 0) := by
  rw [← lessI_eq (by simpa using hd) (by simpa using he), cmpI_gt (by omega)]
  simp only [orL]
  split
  · rename_i h; rw [h]; rfl
  · rfl
theorem bst_spec_yes {k : Nat} (hd : l[k]? = some d) (he : l[bst l k]? = some e) (hk : 0 < k) (h : rtC d e < 0) : bst l (k + 1) = k :=
  bst_yes (by rw [less_spec hd he (bst_lt k hk)]; exact decide_eq_true h)
theorem bst_spec_no {k : Nat} (hd : l[k]? = some d) (he : l[bst l k]? = some e) (hk : 0 < k) (h : ¬ rtC d e < 0) : bst l (k + 1) = bst l k :=
  bst_no (by rw [less_spec hd he (bst_lt k hk)]; exact decide_eq_false h)
end
/-- Which of the first n, with none -1. -/
noncomputable def bstQ (l : List Rt) (n : Nat) : Int := if 0 < n then (bst l n : Int) else -1
theorem bstQ_pos {l : List Rt} {n : Nat} (h : 0 < n) : bstQ l n = (bst l n : Int) := by unfold bstQ; rw [if_pos h]
theorem bstQ_zero {l : List Rt} : bstQ l 0 = -1 := rfl
/-- Which route is best. -/
noncomputable def rbest (l : List Rt) : Int := if l.all rtOk = true ∧ 0 < l.length then (bst l l.length : Int) else -1
theorem rbest_no {l : List Rt} (h : l.all rtOk = false) : rbest l = -1 := by unfold rbest; rw [h]; rfl
theorem rbest_nil : rbest [] = -1 := by unfold rbest; rw [if_neg (by simp)]
theorem rbest_yes {l : List Rt} (h : l.all rtOk = true) (h0 : 0 < l.length) : rbest l = (bst l l.length : Int) := by unfold rbest; rw [if_pos ⟨h, h0⟩]
/-- The root when x has come in. -/
noncomputable def topI (l : List Rt) (x r : Int) : Int := if lessI l x r = true then x else r
theorem bst_cast {l : List Rt} {k : Nat} : topI l (k : Int) (bst l k : Int) = (bst l (k + 1) : Int) := by
  unfold topI
  rw [bst]
  split <;> rfl

/-- What the entries of the heap are: n at j, the root r elsewhere ahead of all. -/
structure Upp (l : List Rt) (idx : List Int) (j : Nat) (n r : Int) : Prop where
  at_ : idx[j]? = some n
  bd : ∀ (p : Nat) (x : Int), idx[p]? = some x → 0 ≤ x ∧ x.toNat < l.length
  old : ∀ (p : Nat) (x : Int), p ≠ j → idx[p]? = some x → lessI l x r = false
  root : 0 < j → idx[0]? = some r
section
variable {l : List Rt} {idx : List Int} {j i : Nat} {n r x : Int}
theorem Upp.swap (h : Upp l idx j n r) (hi : i < j) (hx : idx[i]? = some x) : Upp l ((idx.set i n).set j x) i n r := by
  have hj := (List.getElem?_eq_some_iff.1 h.at_).1
  refine ⟨?_, fun p y hy => ?_, fun p y hp hy => ?_, fun h0 => ?_⟩
  · rw [List.getElem?_set_ne (by omega), List.getElem?_set_self (by omega)]
  · by_cases hpj : p = j
    · subst hpj
      rw [List.getElem?_set_self (by simpa using hj)] at hy
      obtain rfl := Option.some.inj hy
      exact h.bd i _ hx
    · rw [List.getElem?_set_ne (by omega)] at hy
      by_cases hpi : p = i
      · subst hpi
        rw [List.getElem?_set_self (by omega)] at hy
        obtain rfl := Option.some.inj hy
        exact h.bd j _ h.at_
      · rw [List.getElem?_set_ne (by omega)] at hy
        exact h.bd p _ hy
  · by_cases hpj : p = j
    · subst hpj
      rw [List.getElem?_set_self (by simpa using hj)] at hy
      obtain rfl := Option.some.inj hy
      exact h.old i _ (by omega) hx
    · rw [List.getElem?_set_ne (by omega), List.getElem?_set_ne (by omega)] at hy
      exact h.old p _ hpj hy
  · rw [List.getElem?_set_ne (by omega), List.getElem?_set_ne (by omega)]
    exact h.root (by omega)
/-- The heap in order. -/
structure Hp (l : List Rt) (idx : List Int) (r : Int) : Prop where
  root : idx[0]? = some r
  bd : ∀ (p : Nat) (x : Int), idx[p]? = some x → 0 ≤ x ∧ x.toNat < l.length
  all : ∀ (p : Nat) (x : Int), idx[p]? = some x → lessI l x r = false
theorem Upp.done (h : Upp l idx j n r) (hr : r.toNat < l.length) (h1 : j = 0 → lessI l n r = true) (h2 : 0 < j → lessI l n r = false) : Hp l idx (topI l n r) := by
  unfold topI
  have hn := (h.bd j n h.at_).2
  rcases Nat.eq_zero_or_pos j with h0 | h0
  · subst h0
    rw [if_pos (h1 rfl)]
    refine ⟨h.at_, h.bd, fun p x hp => ?_⟩
    by_cases hp0 : p = 0
    · subst hp0
      have := Option.some.inj (h.at_.symm.trans hp)
      subst this
      exact less_self hn
    · exact (less_old hn hr (h.bd p x hp).2 (h1 rfl) (h.old p x hp0 hp)).2
  · rw [h2 h0]
    refine ⟨h.root h0, h.bd, fun p x hp => ?_⟩
    by_cases hpj : p = j
    · subst hpj
      have := Option.some.inj (h.at_.symm.trans hp)
      subst this
      exact h2 h0
    · exact h.old p x hpj hp
theorem Hp.push {k : Int} (h : Hp l idx r) (hk : 0 ≤ k) (hl : k.toNat < l.length) (h0 : 0 < idx.length) : Upp l (idx ++ [k]) idx.length k r := by
  refine ⟨by simp, fun p x hp => ?_, fun p x hne hp => ?_, fun _ => ?_⟩
  · rw [List.getElem?_append] at hp
    split at hp
    · exact h.bd p x hp
    · have hs := (List.getElem?_eq_some_iff.1 hp).1
      simp at hs
      have e : p - idx.length = 0 := by omega
      rw [e] at hp
      obtain rfl := Option.some.inj hp
      exact ⟨hk, hl⟩
  · rw [List.getElem?_append] at hp
    split at hp
    · exact h.all p x hp
    · have hs := (List.getElem?_eq_some_iff.1 hp).1
      simp at hs
      omega
  · rw [List.getElem?_append_left h0]; exact h.root
theorem Hp.first {k : Int} (hk : 0 ≤ k) (hl : k.toNat < l.length) : Hp l [k] k := by
  have hx : ∀ (p : Nat) (x : Int), [k][p]? = some x → x = k := fun p x hp => by
    have hs := (List.getElem?_eq_some_iff.1 hp).1
    simp at hs
    subst hs
    exact (Option.some.inj hp).symm
  exact ⟨rfl, fun p x hp => by rw [hx p x hp]; exact ⟨hk, hl⟩, fun p x hp => by rw [hx p x hp]; exact less_self hl⟩
end
end Go.Proofs.YtlehcnfmagjilaaDoor
