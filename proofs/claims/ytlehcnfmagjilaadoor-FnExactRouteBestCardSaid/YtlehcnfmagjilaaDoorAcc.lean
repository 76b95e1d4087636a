/- Clone, Insert and Concat over lists. No condition. -/
import Derived.Test.YtlehcnfmagjilaaDoorIns
import Derived.Test.YtlehcnfmagjilaaDoorCat
namespace Go.Proofs.YtlehcnfmagjilaaDoor
open Go Go.RowKit

/-- Parts of a slice. -/
theorem SlRd.pre {α : Type} [Lay α] {w : World} {a : Option Addr} {len cap : Nat} {l : List α} (h : SlRd w a len cap l) {k : Nat} (hk : k ≤ len) : SlRd w a k cap (l.take k) := by
  obtain ⟨h1, h2, h3, h4, h5⟩ := h
  refine ⟨by rw [List.length_take]; omega, by omega, h3, h4, fun i d hd => ?_⟩
  rw [List.getElem?_take] at hd
  split at hd
  · exact h5 i d hd
  · cases hd
theorem SlRd.suf {α : Type} [Lay α] {w : World} {b off len cap : Nat} {l : List α} (h : SlRd w (some ⟨b, off, none⟩) len cap l) {i : Nat} (hi : i ≤ len) : SlRd w (some ⟨b, off + i * Lay.n α, none⟩) (len - i) (cap - i) (l.drop i) := by
  obtain ⟨h1, h2, h3, h4, h5⟩ := h
  refine ⟨by rw [List.length_drop]; omega, by omega, by omega, (fun h => by cases h), fun k d hd => ?_⟩
  rw [List.getElem?_drop] at hd
  obtain ⟨b', off', ys, r1, r2, r3, r4⟩ := h5 _ d hd
  simp only [Option.some.injEq, Addr.mk.injEq, and_true] at r1
  obtain ⟨rfl, rfl⟩ := r1
  refine ⟨_, _, ys, rfl, r2, fun t u hu => ?_, r4⟩
  have := r3 t u hu
  rw [Nat.add_mul, ← Nat.add_assoc] at this
  exact this
theorem SlRd.none {α : Type} [Lay α] {w : World} {a : Option Addr} {c : Nat} (hc : c ≤ maxLen) (ha : a = .none → c = 0) : SlRd w a 0 c ([] : List α) :=
  ⟨rfl, Nat.zero_le _, hc, ha, fun i d h => by simp at h⟩

theorem cloneA_int (a : Option Addr) (len cap : Nat) (l : List Int) (w : World) (h : SlRd w a len cap l) (hm : len ≤ 1000000000) :
    Calls Tryd.prog 64 #[.slice a len cap] w fun e w' => ∃ v, e = .returned v ∧ AccF w.heap.size 3 w' v l ∧ Ext w w' := by
  obtain ⟨xs, hs, hr⟩ := h.row
  have hl : xs.length = len * 1 := by have := hr.1; rw [h.1] at this; exact this
  refine (clone_int a len cap xs w hs hl hr.one h.2.1 h.2.2.2.1 hm).mono ?_
  rintro _ w' ⟨v, rfl, ho, hE⟩
  exact ⟨v, rfl, AccF.of ho (hr.any _) h.1, hE⟩



end Go.Proofs.YtlehcnfmagjilaaDoor
