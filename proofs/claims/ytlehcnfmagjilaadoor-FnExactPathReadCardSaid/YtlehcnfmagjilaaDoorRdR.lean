/- Reading texts of ranges and paths: plain. No condition. -/
import Derived.Test.YtlehcnfmagjilaaDoorTxt
import Derived.Lib.AtoiAll
import Derived.Lib.SplitLaws
import Derived.Lib.CutLaws
namespace Go.Proofs.YtlehcnfmagjilaaDoor
open Go Go.RowKit

/-- The number that a text of figures is, if it is the number's own text. -/
def digV (l : List UInt8) : Option Nat := match Lib.atoiAll l with
  | .ok v => if 0 ≤ v ∧ Lib.decDigits v.toNat = l then some v.toNat else none
  | _ => none
theorem digV_eq {l : List UInt8} {n : Nat} (h : digV l = some n) : l = Lib.decDigits n := by
  unfold digV at h
  split at h
  · split at h
    · rename_i hk
      rw [← Option.some.inj h]; exact hk.2.symm
    · cases h
  · cases h
theorem u8n (k : Nat) (h : k < 256) : (UInt8.ofNat k).toNat = k := by simp; omega
theorem atoi_fig {c : UInt8} {r : List UInt8} {n : Nat} (hc : 48 ≤ c.toNat ∧ c.toNat ≤ 57) (h : Lib.parseUint10 0 (c :: r) = .ok n) (hn : n < 1000) : Lib.atoiAll (c :: r) = .ok (n : Int) := by
  have h1 : ¬ (c.toNat = 43 ∨ c.toNat = 45) := by omega
  have h2 : ¬ c.toNat = 45 := by omega
  have hm : Lib.parseMag (c :: r) = .ok n := by unfold Lib.parseMag; rw [if_neg (by simp)]; exact h
  unfold Lib.atoiAll
  simp only []
  rw [if_neg h1, hm]
  simp [h2]
  omega
theorem digV_dec {n : Nat} (h : n < 1000) : digV (Lib.decDigits n) = some n := by
  have key : ∀ m, Lib.decDigits n = m → Lib.atoiAll m = .ok (n : Int) := by
    intro m hm
    by_cases h1 : n < 10
    · rw [dec_lt h1] at hm
      subst hm
      have e0 := u8n (48 + n) (by omega)
      refine atoi_fig (by omega) ?_ h
      simp only [Lib.parseUint10, e0]
      rw [if_pos (by omega), if_neg (by omega), if_neg (by omega)]
      congr 1; omega
    · rw [dec_ge h1] at hm
      by_cases h2 : n / 10 < 10
      · rw [dec_lt h2] at hm
        subst hm
        have e0 := u8n (48 + n / 10) (by omega)
        have e1 := u8n (48 + n % 10) (by omega)
        refine atoi_fig (by omega) ?_ h
        simp only [Lib.parseUint10, List.append_eq, List.nil_append, e0, e1]
        rw [if_pos (by omega), if_neg (by omega), if_neg (by omega), if_pos (by omega), if_neg (by omega), if_neg (by omega)]
        congr 1; omega
      · rw [dec_ge h2, dec_lt (by omega)] at hm
        subst hm
        have e0 := u8n (48 + n / 10 / 10) (by omega)
        have e1 := u8n (48 + n / 10 % 10) (by omega)
        have e2 := u8n (48 + n % 10) (by omega)
        refine atoi_fig (by omega) ?_ h
        simp only [Lib.parseUint10, List.append_eq, List.nil_append, List.cons_append, e0, e1, e2]
        rw [if_pos (by omega), if_neg (by omega), if_neg (by omega), if_pos (by omega), if_neg (by omega), if_neg (by omega), if_pos (by omega), if_neg (by omega), if_neg (by omega)]
        congr 1; omega
  unfold digV
  rw [key _ rfl]
  simp
/-- Figures alone. -/
theorem dec_fig : ∀ (n : Nat), n < 1000 → ∀ c ∈ Lib.decDigits n, 48 ≤ c.toNat ∧ c.toNat ≤ 57 := by
  intro n h c hc
  by_cases h1 : n < 10
  · rw [dec_lt h1] at hc
    simp only [List.mem_singleton] at hc
    rw [hc, u8n _ (by omega)]; omega
  · rw [dec_ge h1] at hc
    by_cases h2 : n / 10 < 10
    · rw [dec_lt h2] at hc
      simp only [List.mem_append, List.mem_singleton] at hc
      rcases hc with hc | hc <;> rw [hc, u8n _ (by omega)] <;> omega
    · rw [dec_ge h2, dec_lt (by omega)] at hc
      simp only [List.mem_append, List.mem_singleton] at hc
      rcases hc with (hc | hc) | hc <;> rw [hc, u8n _ (by omega)] <;> omega
theorem dec_no {n : Nat} (h : n < 1000) {x : UInt8} (hx : x.toNat < 48) : x ∉ Lib.decDigits n := fun hm => by have := dec_fig n h x hm; omega

/-- A number of at most three figures; -1, if it is none. -/
def numF (n : Nat) : List UInt8 → Int
  | [] => n
  | c :: r => if 48 ≤ c.toNat ∧ c.toNat ≤ 57 then numF (10 * n + (c.toNat - 48)) r else -1
def numV (l : List UInt8) : Int := if 1 ≤ l.length ∧ l.length ≤ 3 then numF 0 l else -1
theorem numV_dec {n : Nat} (h : n < 1000) : numV (Lib.decDigits n) = n := by
  have h3 := dec_len n h
  have h0 := List.length_pos_iff.2 (dec_ne n)
  unfold numV
  rw [if_pos ⟨h0, h3⟩]
  by_cases h1 : n < 10
  · rw [dec_lt h1]
    simp only [numF, u8n (48 + n) (by omega)]
    rw [if_pos (by omega)]; omega
  · rw [dec_ge h1]
    by_cases h2 : n / 10 < 10
    · rw [dec_lt h2]
      simp only [numF, List.nil_append, List.cons_append, u8n (48 + n / 10) (by omega), u8n (48 + n % 10) (by omega)]
      rw [if_pos (by omega), if_pos (by omega)]; omega
    · rw [dec_ge h2, dec_lt (by omega)]
      simp only [numF, List.nil_append, List.cons_append, u8n (48 + n / 10 / 10) (by omega), u8n (48 + n / 10 % 10) (by omega), u8n (48 + n % 10) (by omega)]
      rw [if_pos (by omega), if_pos (by omega), if_pos (by omega)]; omega
theorem numF_bd : ∀ (l : List UInt8) (n : Nat), -1 ≤ numF n l ∧ numF n l < (((n + 1) * 10 ^ l.length : Nat) : Int)
  | [], n => by simp only [numF, List.length_nil, Nat.pow_zero, Nat.mul_one]; omega
  | c :: r, n => by
    have h0 : 0 < (n + 1) * 10 ^ (c :: r).length := Nat.mul_pos (by omega) (Nat.pow_pos (by omega))
    simp only [numF]
    split
    · rename_i hc
      have ih := numF_bd r (10 * n + (c.toNat - 48))
      have h1 : (10 * n + (c.toNat - 48) + 1) * 10 ^ r.length ≤ (n + 1) * 10 ^ (c :: r).length := by
        rw [List.length_cons, Nat.pow_succ, Nat.mul_comm (10 ^ r.length) 10, ← Nat.mul_assoc]
        exact Nat.mul_le_mul_right _ (by omega)
      omega
    · omega
theorem numV_bd (l : List UInt8) : -1 ≤ numV l ∧ numV l < 1000 := by
  unfold numV
  split
  · rename_i h
    have h1 := numF_bd l 0
    have h2 : 10 ^ l.length ≤ 10 ^ 3 := Nat.pow_le_pow_right (by omega) h.2
    omega
  · omega

/-- Cuts. -/
theorem index_hit1 {x : UInt8} : ∀ {A B : List UInt8}, x ∉ A → Lib.index (A ++ x :: B) [x] = A.length
  | [], B, _ => by simp [Lib.index, List.isPrefixOf]
  | a :: A, B, h => by
    have h1 : ¬ x = a := fun e => h (by simp [e])
    have ih := index_hit1 (B := B) (fun hm => h (List.mem_cons_of_mem a hm))
    rw [List.cons_append, Lib.index, ih]
    have h2 : ((A.length : Int) == -1) = false := by rw [beq_eq_false_iff_ne]; omega
    have h3 : List.isPrefixOf [x] (a :: (A ++ x :: B)) = false := by simp [List.isPrefixOf, h1]
    rw [h3, h2]
    simp
theorem index_miss1 {x : UInt8} : ∀ {l : List UInt8}, x ∉ l → Lib.index l [x] = -1
  | [], _ => by simp [Lib.index]
  | a :: A, h => by
    have h1 : ¬ x = a := fun e => h (by simp [e])
    have ih := index_miss1 (fun hm => h (List.mem_cons_of_mem a hm))
    rw [Lib.index, ih]
    have h3 : List.isPrefixOf [x] (a :: A) = false := by simp [List.isPrefixOf, h1]
    rw [h3]
    simp
theorem cut_hit1 {x : UInt8} {A B : List UInt8} (h : x ∉ A) : Lib.cut (A ++ x :: B) [x] = (A, B, true) := by
  unfold Lib.cut
  rw [index_hit1 h, if_pos (by omega)]
  simp
theorem cut_miss1 {x : UInt8} {l : List UInt8} (h : x ∉ l) : Lib.cut l [x] = (l, [], false) := by
  unfold Lib.cut
  rw [index_miss1 h, if_neg (by omega)]

open Classical in
/-- The range that a text is of. -/
noncomputable def rdR (l : List UInt8) : Rg × Bool := if h : ∃ r : Rg, rok r.f r.b = true ∧ rtx r = l then (h.choose, true) else (⟨0, 0⟩, false)
theorem rok_lt {r : Rg} (h : rok r.f r.b = true) : ∃ n m : Nat, r = ⟨(n : Int), (m : Int)⟩ ∧ n < 1000 ∧ m < 10 := rok_nat h
theorem rtx_cut {r : Rg} (h : rok r.f r.b = true) {A B : List UInt8} (hA : (47 : UInt8) ∉ A) (e : rtx r = A ++ 47 :: B) : A = dig r.f ∧ B = dig r.b := by
  obtain ⟨n, m, rfl, hn, hm⟩ := rok_nat h
  have h1 : (47 : UInt8) ∉ dig (n : Int) := dec_no (by simpa [dig] using hn) (by decide)
  have e1 := cut_hit1 (B := dig (m : Int)) h1
  have e2 := cut_hit1 (B := B) hA
  rw [← e] at e2
  rw [show dig (n : Int) ++ 47 :: dig (m : Int) = rtx ⟨n, m⟩ from rfl, e2] at e1
  simp only [Prod.mk.injEq] at e1
  exact ⟨e1.1, e1.2.1⟩
theorem dig_inj {n m : Nat} (hn : n < 1000) (hm : m < 1000) (h : dig (n : Int) = dig (m : Int)) : n = m := by
  have h1 := digV_dec hn
  have h2 := digV_dec hm
  simp only [dig, Int.toNat_natCast] at h
  rw [h, h2] at h1
  exact (Option.some.inj h1).symm
theorem rtx_inj {r r' : Rg} (h : rok r.f r.b = true) (h' : rok r'.f r'.b = true) (e : rtx r = rtx r') : r = r' := by
  obtain ⟨n, m, rfl, hn, hm⟩ := rok_nat h
  obtain ⟨n', m', rfl, hn', hm'⟩ := rok_nat h'
  have h1 : (47 : UInt8) ∉ dig (n' : Int) := dec_no (by simpa [dig] using hn') (by decide)
  obtain ⟨e1, e2⟩ := rtx_cut h h1 e
  rw [dig_inj hn hn' e1.symm, dig_inj (by omega) (by omega) e2.symm]
theorem rdR_yes {l : List UInt8} {r : Rg} (h : rok r.f r.b = true) (e : rtx r = l) : rdR l = (r, true) := by
  have hx : ∃ r : Rg, rok r.f r.b = true ∧ rtx r = l := ⟨r, h, e⟩
  unfold rdR
  rw [dif_pos hx]
  have hc := hx.choose_spec
  rw [rtx_inj hc.1 h (hc.2.trans e.symm)]
theorem rdR_no {l : List UInt8} (h : ∀ r : Rg, rok r.f r.b = true → rtx r ≠ l) : rdR l = (⟨0, 0⟩, false) := by
  unfold rdR
  rw [dif_neg]
  rintro ⟨r, h1, h2⟩
  exact h r h1 h2
theorem rtx_len {r : Rg} (h : rok r.f r.b = true) : (rtx r).length ≤ 5 := by
  obtain ⟨n, m, rfl, hn, hm⟩ := rok_nat h
  have h1 := dec_len n hn
  have h2 : (Lib.decDigits m).length = 1 := by rw [dec_lt hm]; rfl
  simp only [rtx, dig, Int.toNat_natCast, List.length_append, List.length_cons, h2]
  omega
theorem rtx_47 (r : Rg) : (47 : UInt8) ∈ rtx r := by simp [rtx]
/-- The reference: what stands ahead of the first stroke, and behind it. -/
theorem rdR_at {A B : List UInt8} (hA : (47 : UInt8) ∉ A) (h : (rok (numV A) (numV B) && decide (rtx ⟨numV A, numV B⟩ = A ++ 47 :: B)) = false) : rdR (A ++ 47 :: B) = (⟨0, 0⟩, false) := by
  refine rdR_no fun r hr e => ?_
  obtain ⟨e1, e2⟩ := rtx_cut hr hA e
  obtain ⟨n, m, rfl, hn, hm⟩ := rok_nat hr
  have f1 : numV A = n := by rw [e1]; exact numV_dec (n := n) hn
  have f2 : numV B = m := by rw [e2]; exact numV_dec (n := m) (by omega)
  rw [f1, f2] at h
  simp only [] at hr
  rw [hr, Bool.true_and, decide_eq_false_iff_not] at h
  exact h e
/-- The program: both parts are numbers' own texts. -/
theorem rdR_dig {A B : List UInt8} (hA : (47 : UInt8) ∉ A) (h : ∀ n m : Nat, digV A = some n → digV B = some m → rok (n : Int) (m : Int) = true → False) : rdR (A ++ 47 :: B) = (⟨0, 0⟩, false) := by
  refine rdR_no fun r hr e => ?_
  obtain ⟨e1, e2⟩ := rtx_cut hr hA e
  obtain ⟨n, m, rfl, hn, hm⟩ := rok_nat hr
  exact h n m (by rw [e1]; exact digV_dec (n := n) hn) (by rw [e2]; exact digV_dec (n := m) (by omega)) hr
theorem rdR_both {A B : List UInt8} {n m : Nat} (h1 : digV A = some n) (h2 : digV B = some m) (hr : rok (n : Int) (m : Int) = true) : rdR (A ++ 47 :: B) = (⟨n, m⟩, true) := by
  refine rdR_yes hr ?_
  rw [digV_eq h1, digV_eq h2]
  simp [rtx, dig]
theorem rdR_none {l : List UInt8} (h : (47 : UInt8) ∉ l) : rdR l = (⟨0, 0⟩, false) := rdR_no fun r _ e => h (e ▸ rtx_47 r)
theorem rdR_long {l : List UInt8} (h : 5 < l.length) : rdR l = (⟨0, 0⟩, false) := rdR_no fun r hr e => by have := rtx_len hr; rw [e] at this; omega

end Go.Proofs.YtlehcnfmagjilaaDoor
