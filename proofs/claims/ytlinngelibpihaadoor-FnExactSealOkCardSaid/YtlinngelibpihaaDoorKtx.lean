/- How a list of numbers is written within a key: equal texts, equal lists. No condition. -/
import Derived.Test.YtlinngelibpihaaDoorStr
import Derived.Lib.ItoaLen
namespace Go.Proofs.YtlinngelibpihaaDoor
open Go Go.RowKit

def vDec (l : List UInt8) : Nat := l.foldl (fun a b => 10 * a + (b.toNat - 48)) 0
theorem dig_toNat {n : Nat} (h : n < 10) : (UInt8.ofNat (48 + n)).toNat = 48 + n := by
  rw [UInt8.toNat_ofNat']; omega
theorem vDec_dec : ∀ (N n : Nat), n < N → vDec (Lib.decDigits n) = n
  | 0, n, h => absurd h (Nat.not_lt_zero _)
  | N + 1, n, h => by
    by_cases h1 : n < 10
    · rw [dec_lt h1]
      show 10 * 0 + ((UInt8.ofNat (48 + n)).toNat - 48) = n
      rw [dig_toNat h1]; omega
    · rw [dec_ge h1]
      have ih := vDec_dec N (n / 10) (by omega)
      unfold vDec at ih ⊢
      rw [List.foldl_append, ih]
      show 10 * (n / 10) + ((UInt8.ofNat (48 + n % 10)).toNat - 48) = n
      rw [dig_toNat (by omega)]; omega
theorem dec_inj {n m : Nat} (h : Lib.decDigits n = Lib.decDigits m) : n = m := by
  have h1 := vDec_dec (n + 1) n (by omega)
  have h2 := vDec_dec (m + 1) m (by omega)
  rw [h] at h1
  omega
theorem dec_no45 : ∀ (N n : Nat), n < N → ∀ b ∈ Lib.decDigits n, b ≠ 45
  | 0, n, h => absurd h (Nat.not_lt_zero _)
  | N + 1, n, h => by
    have key : ∀ m, m < 10 → UInt8.ofNat (48 + m) ≠ 45 := fun m hm e => by
      have := congrArg UInt8.toNat e
      rw [dig_toNat hm] at this
      have h45 : (45 : UInt8).toNat = 45 := rfl
      omega
    intro b hb
    by_cases h1 : n < 10
    · rw [dec_lt h1] at hb
      simp only [List.mem_singleton] at hb
      rw [hb]; exact key n h1
    · rw [dec_ge h1, List.mem_append] at hb
      rcases hb with hb | hb
      · exact dec_no45 N (n / 10) (by omega) b hb
      · simp only [List.mem_singleton] at hb
        rw [hb]; exact key _ (by omega)
theorem cut45 : ∀ (d d' r r' : List UInt8), (∀ b ∈ d, b ≠ 45) → (∀ b ∈ d', b ≠ 45) → d ++ 45 :: r = d' ++ 45 :: r' → d = d' ∧ r = r'
  | [], [], _, _, _, _, h => by simp only [List.nil_append, List.cons.injEq, true_and] at h; exact ⟨rfl, h⟩
  | [], b :: d', _, _, _, h', h => by simp only [List.nil_append, List.cons_append, List.cons.injEq] at h; exact absurd h.1.symm (h' b (by simp))
  | b :: d, [], _, _, h1, _, h => by simp only [List.nil_append, List.cons_append, List.cons.injEq] at h; exact absurd h.1 (h1 b (by simp))
  | b :: d, b' :: d', r, r', h1, h2, h => by
    simp only [List.cons_append, List.cons.injEq] at h
    obtain ⟨e1, e2⟩ := cut45 d d' r r' (fun x hx => h1 x (by simp [hx])) (fun x hx => h2 x (by simp [hx])) h.2
    exact ⟨by rw [h.1, e1], e2⟩
theorem itoa_neg' {x : Int} (h : x < 0) : Lib.itoa x = 45 :: Lib.decDigits x.natAbs := by unfold Lib.itoa; rw [if_pos h]
theorem itoa_pos' {x : Int} (h : ¬ x < 0) : Lib.itoa x = Lib.decDigits x.toNat := by unfold Lib.itoa; rw [if_neg h]
theorem dec_head {n : Nat} {r s : List UInt8} (h : Lib.decDigits n ++ 45 :: r = 45 :: s) : False := by
  cases e : Lib.decDigits n with
  | nil => exact dec_ne n e
  | cons b t =>
    rw [e] at h
    simp only [List.cons_append, List.cons.injEq] at h
    exact dec_no45 (n + 1) n (by omega) b (by rw [e]; simp) h.1
theorem itoa_cut {x y : Int} {r s : List UInt8} (h : Lib.itoa x ++ 45 :: r = Lib.itoa y ++ 45 :: s) : x = y ∧ r = s := by
  by_cases hx : x < 0 <;> by_cases hy : y < 0
  · rw [itoa_neg' hx, itoa_neg' hy] at h
    simp only [List.cons_append, List.cons.injEq, true_and] at h
    obtain ⟨e1, e2⟩ := cut45 _ _ _ _ (dec_no45 _ _ (Nat.lt_succ_self _)) (dec_no45 _ _ (Nat.lt_succ_self _)) h
    exact ⟨by have := dec_inj e1; omega, e2⟩
  · rw [itoa_neg' hx, itoa_pos' hy] at h
    exact (dec_head h.symm).elim
  · rw [itoa_pos' hx, itoa_neg' hy] at h
    exact (dec_head h).elim
  · rw [itoa_pos' hx, itoa_pos' hy] at h
    obtain ⟨e1, e2⟩ := cut45 _ _ _ _ (dec_no45 _ _ (Nat.lt_succ_self _)) (dec_no45 _ _ (Nat.lt_succ_self _)) h
    exact ⟨by have := dec_inj e1; omega, e2⟩

/-- What a list of numbers reads as within a key. -/
def ktx (l : List Int) : List UInt8 := l.flatMap fun x => Lib.itoa x ++ [45]
theorem ktx_cons (x : Int) (l : List Int) : ktx (x :: l) = Lib.itoa x ++ 45 :: ktx l := by unfold ktx; simp
theorem ktx_nil : ktx [] = [] := rfl
theorem itoa_ne (x : Int) (r : List UInt8) : ¬ Lib.itoa x ++ 45 :: r = [] := by simp
theorem ktx_inj : ∀ {l m : List Int}, ktx l = ktx m → l = m
  | [], [], _ => rfl
  | [], y :: m, h => by rw [ktx_cons, ktx_nil] at h; exact (itoa_ne _ _ h.symm).elim
  | x :: l, [], h => by rw [ktx_cons, ktx_nil] at h; exact (itoa_ne _ _ h).elim
  | x :: l, y :: m, h => by
    rw [ktx_cons, ktx_cons] at h
    obtain ⟨e1, e2⟩ := itoa_cut h
    rw [e1, ktx_inj e2]
theorem ktx_snoc {l : List Int} {k : Nat} {d : Int} (hd : l[k]? = some d) : ktx (l.take (k + 1)) = ktx (l.take k) ++ (Lib.itoa d ++ [45]) := by
  rw [List.take_add_one, hd]; simp [ktx, List.flatMap_append]
theorem ktx_len : ∀ {l : List Int}, (∀ x ∈ l, I64 x) → (ktx l).length ≤ 22 * l.length
  | [], _ => Nat.zero_le _
  | x :: l, h => by
    have h1 := h x (by simp)
    have h2 := Lib.itoa_length_le x (I64.bd h1).1 (I64.bd h1).2
    have h3 := ktx_len (l := l) (fun y hy => h y (by simp [hy]))
    rw [ktx_cons, List.length_append, List.length_cons, List.length_cons]
    omega

end Go.Proofs.YtlinngelibpihaaDoor
