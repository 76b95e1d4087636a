/- Clone, Insert and Concat over lists. No condition. -/
import Derived.Test.YtddeecfhggfnkaaIns
import Derived.Test.YtddeecfhggfnkaaCat
namespace Go.Proofs.Ytddeecfhggfnkaa
open Go Go.RowKit

/-- Parts of a slice. -/
theorem SlRd.pre {α : Type} [Lay α] {w : World} {a : Option Addr} {len cap : Nat} {l : List α} (h : SlRd w a len cap l) {k : Nat} (hk : k ≤ len) : SlRd w a k cap (l.take k) := by
  obtain ⟨h1, h2, h3, h4, h5⟩ := h
  refine ⟨by rw [List.length_take]; omega, by omega, h3, h4, fun i d hd => ?_⟩
  rw [List.getElem?_take] at hd
  split at hd
  · exact h5 i d hd
  · cases hd
theorem SlRd.suf {α : Type} [Lay α] {w : World} {b off len cap : Nat} {l : List α} (h : SlRd w (some ⟨b, off, none⟩) len cap l) {i : Nat} (hi : i ≤ len) : SlRd w (some ⟨b, off + i * Lay.n α, none⟩) (len - i) (cap - i) (l.drop i) := by
  obtain ⟨h1, h2, h3, h4, h5⟩ := h
  refine ⟨by rw [List.length_drop]; omega, by omega, by omega, (fun h => by cases h), fun k d hd => ?_⟩
  rw [List.getElem?_drop] at hd
  obtain ⟨b', off', ys, r1, r2, r3, r4⟩ := h5 _ d hd
  simp only [Option.some.injEq, Addr.mk.injEq, and_true] at r1
  obtain ⟨rfl, rfl⟩ := r1
  refine ⟨_, _, ys, rfl, r2, fun t u hu => ?_, r4⟩
  have := r3 t u hu
  rw [Nat.add_mul, ← Nat.add_assoc] at this
  exact this
theorem SlRd.none {α : Type} [Lay α] {w : World} {a : Option Addr} {c : Nat} (hc : c ≤ maxLen) (ha : a = .none → c = 0) : SlRd w a 0 c ([] : List α) :=
  ⟨rfl, Nat.zero_le _, hc, ha, fun i d h => by simp at h⟩



theorem cloneA_En (a : Option Addr) (len cap : Nat) (l : List En) (w : World) (h : SlRd w a len cap l) (hm : len ≤ 1000000000) :
    Calls Try.prog 68 #[.slice a len cap] w fun e w' => ∃ v, e = .returned v ∧ AccF w.heap.size 50 w' v l ∧ Ext w w' := by
  obtain ⟨xs, hs, hr⟩ := h.row
  have hl : xs.length = len * 3 := by have := hr.1; rw [h.1] at this; exact this
  refine (clone_En a len cap xs w hs hl hr.one h.2.1 h.2.2.2.1 hm).mono ?_
  rintro _ w' ⟨v, rfl, ho, hE⟩
  exact ⟨v, rfl, AccF.of ho (hr.any _) h.1, hE⟩
theorem insertA_En (N : Nat) (v : Value) (l : List En) (d : En) (ys : List Value) (i B : Nat) (w : World) (h : AccF N 50 w v l) (hN : N ≤ w.heap.size) (hi : i ≤ l.length) (hB : w.heap.size = B) (hd : Lay.rd w ys d) (hy : ys.length = 3) (hm : l.length ≤ 1000000000) :
    Calls Try.prog 70 #[v, .int .i64 i, .slice (some ⟨B, 0, none⟩) 1 1] (w.alloc (.cells ys.toArray 50)) fun e w' => ∃ v', e = .returned v' ∧ AccF N 50 w' v' (l.take i ++ [d] ++ l.drop i) ∧ Below N w w' := by
  subst hB
  obtain ⟨xs, h1, h2⟩ := h
  have hne : v.ownBlock ≠ some w.heap.size := fun hj => Nat.lt_irrefl _ (h1.lt _ hj).2
  have hE : Ext w (w.alloc (.cells ys.toArray 50)) := Ext.alloc (Ext.refl w) _
  refine (insert_En N v l.length xs ys i w.heap.size _ (ownsRow_ext h1 hE) (Nat.le_trans hN hE.size) hi (by simpa using Blk.new w ys.toArray 50) hy hne h2.one (OneC.one hd) hm).mono ?_
  rintro _ w' ⟨v', rfl, ho, hb⟩
  refine ⟨v', rfl, AccF.of ho (((h2.any w').take i).append (RowRd.single (FlO.any hd) hy) |>.append ((h2.any w').drop i)) ?_, (hE.below.mono hN).trans hb⟩
  simp only [List.length_append, List.length_take, List.length_drop, List.length_cons, List.length_nil]
  omega
theorem concatA_En (B : Nat) (a1 a2 : Option Addr) (n1 c1 n2 c2 : Nat) (l1 l2 : List En) (w : World) (b0 : w.cell? ⟨B, 0, none⟩ = some (.slice a1 n1 c1)) (b1 : w.cell? ⟨B, 1, none⟩ = some (.slice a2 n2 c2)) (h1 : SlRd w a1 n1 c1 l1) (h2 : SlRd w a2 n2 c2 l2) (hm1 : n1 ≤ 1000000000) (hm2 : n2 ≤ 1000000000) :
    Calls Try.prog 74 #[.slice (some ⟨B, 0, none⟩) 2 2] w fun e w' => ∃ v, e = .returned v ∧ AccF w.heap.size 50 w' v (l1 ++ l2) ∧ Ext w w' := by
  obtain ⟨xs, hs, hr⟩ := h1.row
  obtain ⟨ys, ks, kr⟩ := h2.row
  have hl : xs.length = n1 * 3 := by have := hr.1; rw [h1.1] at this; exact this
  have kl : ys.length = n2 * 3 := by have := kr.1; rw [h2.1] at this; exact this
  refine (concat_En B a1 a2 n1 c1 n2 c2 xs ys w b0 b1 hs ks hl kl hr.one kr.one h1.2.1 h2.2.1 h1.2.2.2.1 h2.2.2.2.1 hm1 hm2).mono ?_
  rintro _ w' ⟨v, rfl, ho, hE⟩
  exact ⟨v, rfl, AccF.of ho ((hr.any _).append (kr.any _)) (by rw [List.length_append, h1.1, h2.1]), hE⟩
theorem concatN_En (t : TypeId) (B : Nat) (a1 a2 : Option Addr) (n1 c1 n2 c2 : Nat) (l1 l2 : List En) (w : World) (hB : w.heap.size = B) (h1 : SlRd w a1 n1 c1 l1) (h2 : SlRd w a2 n2 c2 l2) (hm1 : n1 ≤ 1000000000) (hm2 : n2 ≤ 1000000000) :
    Calls Try.prog 74 #[.slice (some ⟨B, 0, none⟩) 2 2] (w.alloc (.cells #[.slice a1 n1 c1, .slice a2 n2 c2] t)) fun e w' => ∃ v, e = .returned v ∧ AccF w.heap.size 50 w' v (l1 ++ l2) ∧ Ext w w' := by
  subst hB
  have hE : Ext w (w.alloc (.cells #[.slice a1 n1 c1, .slice a2 n2 c2] t)) := Ext.alloc (Ext.refl w) _
  refine (concatA_En _ a1 a2 n1 c1 n2 c2 l1 l2 _ ((Blk.new w _ t).cell rfl) ((Blk.new w _ t).cell rfl) (h1.stays hE.below) (h2.stays hE.below) hm1 hm2).mono ?_
  rintro _ w' ⟨v, rfl, ha, hE'⟩
  exact ⟨v, rfl, ha.base hE.size, hE.trans hE'⟩

end Go.Proofs.Ytddeecfhggfnkaa
