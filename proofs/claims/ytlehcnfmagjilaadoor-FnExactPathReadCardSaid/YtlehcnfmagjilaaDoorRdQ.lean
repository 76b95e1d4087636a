/- Reading a path's text: plain. No condition. -/
import Derived.Test.YtlehcnfmagjilaaDoorRdR
import Derived.Test.YtlehcnfmagjilaaDoorPathA
import Derived.Lib.AtoiAllCases
namespace Go.Proofs.YtlehcnfmagjilaaDoor
open Go Go.RowKit

theorem split_miss1 {x : UInt8} {l : List UInt8} (h : x ∉ l) : Lib.split l [x] = [l] := by
  unfold Lib.split
  rw [Lib.count_miss (index_miss1 h)]
  rfl
theorem split_hit1 {x : UInt8} {A B : List UInt8} (h : x ∉ A) : Lib.split (A ++ x :: B) [x] = A :: Lib.split B [x] := by
  have h1 := index_hit1 (B := B) h
  unfold Lib.split
  have hd : (A ++ x :: B).drop (A.length + 1) = B := by simp
  rw [Lib.count_hit (by simp) h1, List.length_singleton, hd, Nat.add_comm 1, Lib.splitK, if_neg (by rw [h1]; simp), h1]
  simp
theorem split_ne {x : UInt8} {l : List UInt8} : Lib.split l [x] ≠ [] := by
  by_cases h : x ∈ l
  · obtain ⟨A, B, rfl, hA⟩ := List.eq_append_cons_of_mem h
    rw [split_hit1 hA]; simp
  · rw [split_miss1 h]; simp
theorem join_cons2 {x : UInt8} {A : List UInt8} {r : List (List UInt8)} (h : r ≠ []) : Lib.join (A :: r) [x] = A ++ x :: Lib.join r [x] := by
  cases r with
  | nil => exact absurd rfl h
  | cons y r => rw [Lib.join_cons, Lib.join_cons]; simp [Lib.joinTail]
theorem join_split {x : UInt8} : ∀ (n : Nat) (l : List UInt8), l.length ≤ n → Lib.join (Lib.split l [x]) [x] = l
  | 0, l, h => by
    obtain rfl := List.eq_nil_of_length_eq_zero (Nat.le_zero.1 h)
    rw [split_miss1 (by simp), Lib.join_one]
  | n + 1, l, h => by
    by_cases hm : x ∈ l
    · obtain ⟨A, B, rfl, hA⟩ := List.eq_append_cons_of_mem hm
      rw [split_hit1 hA, join_cons2 split_ne, join_split n B (by simp at h; omega)]
    · rw [split_miss1 hm, Lib.join_one]
theorem dig_no {y : Int} (h : y.toNat < 1000) : (45 : UInt8) ∉ dig y := dec_no h (by decide)
theorem ptx_cons2 {x y : Int} {r : List Int} : ptxS (x :: y :: r) = dig x ++ 45 :: ptxS (y :: r) := by simp [ptxS]
theorem split_ptx : ∀ (p : List Int), p ≠ [] → (∀ y ∈ p, y.toNat < 1000) → Lib.split (ptxS p) [45] = p.map dig
  | [], h, _ => absurd rfl h
  | [x], _, h => by rw [ptx_one, split_miss1 (dig_no (h x (by simp)))]; rfl
  | x :: y :: r, _, h => by
    rw [ptx_cons2, split_hit1 (dig_no (h x (by simp))), split_ptx (y :: r) (by simp) (fun z hz => h z (List.mem_cons_of_mem _ hz))]
    rfl

theorem path_small {p : List Int} (h : pathB p = true) : ∀ y ∈ p, ∃ n : Nat, y = (n : Int) ∧ 1 ≤ n ∧ n ≤ 5 := fun y hy => by
  obtain ⟨i, hi, he⟩ := List.mem_iff_getElem.1 hy
  have := inB_true.1 ((pathB_iff.1 h) i y hi (List.getElem?_eq_some_iff.2 ⟨hi, he⟩)).1
  obtain ⟨n, rfl⟩ := Int.eq_ofNat_of_zero_le (show 0 ≤ y by omega)
  exact ⟨n, rfl, by omega, by omega⟩
/-- Every second byte, as a figure. -/
def evs : List UInt8 → List Int
  | [] => []
  | [c] => [(c.toNat : Int) - 48]
  | c :: _ :: r => ((c.toNat : Int) - 48) :: evs r
theorem evs_ptx : ∀ (p : List Int), (∀ y ∈ p, ∃ n : Nat, y = (n : Int) ∧ 1 ≤ n ∧ n ≤ 5) → evs (ptxS p) = p
  | [], _ => rfl
  | [x], h => by
    obtain ⟨n, rfl, h1, h2⟩ := h x (by simp)
    rw [ptx_one]
    simp only [dig, Int.toNat_natCast, dec_lt (show n < 10 by omega), evs, u8n (48 + n) (by omega)]
    congr 1; omega
  | x :: y :: r, h => by
    obtain ⟨n, rfl, h1, h2⟩ := h x (by simp)
    rw [ptx_cons2]
    simp only [dig, Int.toNat_natCast, dec_lt (show n < 10 by omega), List.cons_append, List.nil_append, evs, u8n (48 + n) (by omega)]
    rw [evs_ptx (y :: r) (fun z hz => h z (List.mem_cons_of_mem _ hz))]
    congr 1; omega
theorem ptx_head {p : List Int} (h : pathB p = true) : ptxS p ≠ [46] := fun e => by
  have h1 := evs_ptx p (path_small h)
  rw [e] at h1
  obtain ⟨n, e2, h2, _⟩ := path_small h (-2) (by rw [← h1]; decide)
  omega
theorem ptx_len2 : ∀ (p : List Int), (∀ y ∈ p, ∃ n : Nat, y = (n : Int) ∧ 1 ≤ n ∧ n ≤ 5) → (ptxS p).length ≤ 2 * p.length - 1
  | [], _ => by simp [ptxS]
  | [x], h => by
    obtain ⟨n, rfl, h1, h2⟩ := h x (by simp)
    rw [ptx_one]
    simp only [dig, Int.toNat_natCast, dec_lt (show n < 10 by omega)]
    simp
  | x :: y :: r, h => by
    obtain ⟨n, rfl, h1, h2⟩ := h x (by simp)
    have ih := ptx_len2 (y :: r) (fun z hz => h z (List.mem_cons_of_mem _ hz))
    rw [ptx_cons2]
    simp only [dig, Int.toNat_natCast, dec_lt (show n < 10 by omega), List.length_append, List.length_cons, List.length_nil] at ih ⊢
    omega

open Classical in
/-- The path that a text is of. -/
noncomputable def rdP (l : List UInt8) : List Int × Bool := if h : ∃ p : List Int, pathB p = true ∧ ptB p = l then (h.choose, true) else ([], false)
/-- What a text can be of alone. -/
noncomputable def cand (l : List UInt8) : List Int := if l = [46] then [] else evs l
theorem ptB_cand {p : List Int} (h : pathB p = true) : cand (ptB p) = p := by
  unfold ptB
  by_cases hp : p = []
  · rw [if_pos hp, hp]; rfl
  · rw [if_neg hp]
    unfold cand
    rw [if_neg (ptx_head h)]
    exact evs_ptx p (path_small h)
theorem rdP_yes {l : List UInt8} {p : List Int} (h : pathB p = true) (e : ptB p = l) : rdP l = (p, true) := by
  have hx : ∃ p : List Int, pathB p = true ∧ ptB p = l := ⟨p, h, e⟩
  unfold rdP
  rw [dif_pos hx]
  have hc := hx.choose_spec
  have h2 : cand l = hx.choose := (congrArg cand hc.2).symm.trans (ptB_cand hc.1)
  have h3 : cand l = p := (congrArg cand e).symm.trans (ptB_cand h)
  rw [show hx.choose = p from h2.symm.trans h3]
theorem rdP_no {l : List UInt8} (h : ∀ p : List Int, pathB p = true → ptB p ≠ l) : rdP l = ([], false) := by
  unfold rdP
  rw [dif_neg]
  rintro ⟨p, h1, h2⟩
  exact h p h1 h2
theorem ptB_len {p : List Int} (h : pathB p = true) : (ptB p).length ≤ 9 := by
  have h1 := path_le h
  have h2 := ptx_len2 p (path_small h)
  unfold ptB
  split
  · simp
  · omega
theorem ptB_ne {p : List Int} : ptB p ≠ [] := by
  unfold ptB
  split
  · simp
  · rename_i h; exact ptx_ne h
theorem rdP_long {l : List UInt8} (h : 9 < l.length) : rdP l = ([], false) := rdP_no fun p hp e => by have := ptB_len hp; rw [e] at this; omega
theorem rdP_nil : rdP [] = ([], false) := rdP_no fun _ _ e => ptB_ne e
theorem rdP_dot : rdP [46] = ([], true) := rdP_yes (p := []) (by rw [pathB_iff]; exact PathK.zero _) rfl
/-- The reference: what stands at every second place. -/
theorem rdP_cand {l : List UInt8} (hl : l ≠ []) : rdP l = if ((pathText (cand l)).toList == (bs l).toList) = true then (cand l, true) else ([], false) := by
  cases h : pathB (cand l)
  · rw [pathText_no h, toList_bs, toList_bs, beq_eq_false_iff_ne.2 (Ne.symm hl)]
    refine rdP_no fun p hp e => ?_
    rw [← e, ptB_cand hp, hp] at h
    cases h
  · rw [pathText_yes h, toList_bs, toList_bs]
    by_cases e : ptB (cand l) = l
    · rw [e, beq_self_eq_true, if_pos rfl]
      exact rdP_yes h e
    · rw [beq_eq_false_iff_ne.2 e]
      refine rdP_no fun p hp e2 => ?_
      rw [← e2, ptB_cand hp] at e
      exact e rfl
/-- The program: all words are numbers' own texts. -/
theorem digV_bd {l : List UInt8} {n : Nat} (h : digV l = some n) : n ≤ 9223372036854775807 := by
  unfold digV at h
  split at h
  · rename_i v e
    have hb := Lib.atoiAll_bounds e
    split at h
    · have := Option.some.inj h; omega
    · cases h
  · cases h
theorem rdP_words {l : List UInt8} {p : List Int} (hl : l ≠ [46]) (hp : pathB p = true) (e : ptB p = l) : p ≠ [] ∧ Lib.split l [45] = p.map dig := by
  have hne : p ≠ [] := fun h => hl (by rw [← e, h]; rfl)
  have e2 : ptxS p = l := by unfold ptB at e; rwa [if_neg hne] at e
  refine ⟨hne, ?_⟩
  rw [← e2]
  exact split_ptx p hne (fun y hy => by obtain ⟨n, rfl, _, h2⟩ := path_small hp y hy; rw [Int.toNat_natCast]; omega)
theorem rdP_bad {l : List UInt8} (hl : l ≠ [46]) {k : Nat} {x : List UInt8} (hk : (Lib.split l [45])[k]? = some x) (hx : digV x = none) : rdP l = ([], false) := rdP_no fun p hp e => by
  obtain ⟨_, h1⟩ := rdP_words hl hp e
  rw [h1, List.getElem?_map] at hk
  cases hy : p[k]? with
  | none => rw [hy] at hk; cases hk
  | some y =>
    rw [hy] at hk
    obtain ⟨n, rfl, _, h2⟩ := path_small hp y (List.mem_of_getElem? hy)
    rw [← Option.some.inj hk] at hx
    have h3 := digV_dec (show n < 1000 by omega)
    simp only [dig, Int.toNat_natCast] at hx
    rw [h3] at hx
    cases hx
def Digs (L : List Int) : Prop := ∀ d ∈ L, ∃ n : Nat, d = (n : Int) ∧ digV (dig d) = some n
theorem digs_inj : ∀ {L p : List Int}, Digs L → Digs p → L.map dig = p.map dig → L = p
  | [], [], _, _, _ => rfl
  | [], _ :: _, _, _, h => by cases h
  | _ :: _, [], _, _, h => by cases h
  | a :: L, b :: p, h1, h2, h => by
    simp only [List.map_cons, List.cons.injEq] at h
    obtain ⟨n, rfl, e1⟩ := h1 a (by simp)
    obtain ⟨m, rfl, e2⟩ := h2 b (by simp)
    rw [h.1, e2] at e1
    rw [Option.some.inj e1, digs_inj (fun d hd => h1 d (by simp [hd])) (fun d hd => h2 d (by simp [hd])) h.2]
theorem rdP_all {l : List UInt8} (hl : l ≠ [46]) {L : List Int} (hd : Digs L) (hs : Lib.split l [45] = L.map dig) : rdP l = if pathB L = true then (L, true) else ([], false) := by
  have hne : L ≠ [] := fun h => split_ne (l := l) (x := 45) (by rw [hs, h]; rfl)
  have hj : ptxS L = l := by
    have h1 := join_split (x := 45) l.length l (Nat.le_refl _)
    rw [hs, ptx_join] at h1
    exact h1
  cases hp : pathB L
  · refine rdP_no fun p hpp e => ?_
    obtain ⟨_, h1⟩ := rdP_words hl hpp e
    have h2 : L = p := digs_inj hd (fun y hy => by
      obtain ⟨n, rfl, _, h2⟩ := path_small hpp y hy
      exact ⟨n, rfl, by have := digV_dec (show n < 1000 by omega); simpa [dig] using this⟩) (hs.symm.trans h1)
    rw [h2, hpp] at hp
    cases hp
  · rw [if_pos rfl]
    exact rdP_yes hp (by unfold ptB; rw [if_neg hne, hj])

end Go.Proofs.YtlehcnfmagjilaaDoor
