/- Clone, Insert and Concat over lists. No condition. -/
import Derived.Test.YtjeofgalgfopdaaGreatDoorIns
import Derived.Test.YtjeofgalgfopdaaGreatDoorCat
namespace Go.Proofs.YtjeofgalgfopdaaGreatDoor
open Go Go.RowKit

/-- Parts of a slice. -/
theorem SlRd.pre {α : Type} [Lay α] {w : World} {a : Option Addr} {len cap : Nat} {l : List α} (h : SlRd w a len cap l) {k : Nat} (hk : k ≤ len) : SlRd w a k cap (l.take k) := by
  obtain ⟨h1, h2, h3, h4, h5⟩ := h
  refine ⟨by rw [List.length_take]; omega, by omega, h3, h4, fun i d hd => ?_⟩
  rw [List.getElem?_take] at hd
  split at hd
  · exact h5 i d hd
  · cases hd
theorem SlRd.suf {α : Type} [Lay α] {w : World} {b off len cap : Nat} {l : List α} (h : SlRd w (some ⟨b, off, none⟩) len cap l) {i : Nat} (hi : i ≤ len) : SlRd w (some ⟨b, off + i * Lay.n α, none⟩) (len - i) (cap - i) (l.drop i) := by
  obtain ⟨h1, h2, h3, h4, h5⟩ := h
  refine ⟨by rw [List.length_drop]; omega, by omega, by omega, (fun h => by cases h), fun k d hd => ?_⟩
  rw [List.getElem?_drop] at hd
  obtain ⟨b', off', ys, r1, r2, r3, r4⟩ := h5 _ d hd
  simp only [Option.some.injEq, Addr.mk.injEq, and_true] at r1
  obtain ⟨rfl, rfl⟩ := r1
  refine ⟨_, _, ys, rfl, r2, fun t u hu => ?_, r4⟩
  have := r3 t u hu
  rw [Nat.add_mul, ← Nat.add_assoc] at this
  exact this
theorem SlRd.none {α : Type} [Lay α] {w : World} {a : Option Addr} {c : Nat} (hc : c ≤ maxLen) (ha : a = .none → c = 0) : SlRd w a 0 c ([] : List α) :=
  ⟨rfl, Nat.zero_le _, hc, ha, fun i d h => by simp at h⟩

theorem cloneA_int (a : Option Addr) (len cap : Nat) (l : List Int) (w : World) (h : SlRd w a len cap l) (hm : len ≤ 1000000000) :
    Calls Tryz.prog 108 #[.slice a len cap] w fun e w' => ∃ v, e = .returned v ∧ AccF w.heap.size 3 w' v l ∧ Ext w w' := by
  obtain ⟨xs, hs, hr⟩ := h.row
  have hl : xs.length = len * 1 := by have := hr.1; rw [h.1] at this; exact this
  refine (clone_int a len cap xs w hs hl hr.one h.2.1 h.2.2.2.1 hm).mono ?_
  rintro _ w' ⟨v, rfl, ho, hE⟩
  exact ⟨v, rfl, AccF.of ho (hr.any _) h.1, hE⟩
theorem insertG_int (N : Nat) (v : Value) (l : List Int) (d : Int) (ys : List Value) (i B : Nat) (w : World) (h : AccF N 3 w v l) (hN : N ≤ w.heap.size) (hi : i ≤ l.length) (hB : w.heap.size = B) (hd : Lay.rd w ys d) (hy : ys.length = 1) (hm : l.length ≤ 1000000000) :
    Calls Tryz.prog 111 #[v, .int .i64 i, .slice (some ⟨B, 0, none⟩) 1 1] (w.alloc (.cells ys.toArray 3)) fun e w' => ∃ v', e = .returned v' ∧ AccF N 3 w' v' (l.take i ++ [d] ++ l.drop i) ∧ w.grownBy w' v.ownBlock ∧ NewB v v' w := by
  subst hB
  obtain ⟨xs, h1, h2⟩ := h
  have hne : v.ownBlock ≠ some w.heap.size := fun hj => Nat.lt_irrefl _ (h1.lt _ hj).2
  have hE : Ext w (w.alloc (.cells ys.toArray 3)) := Ext.alloc (Ext.refl w) _
  refine (insert_int N v l.length xs ys i w.heap.size _ (ownsRow_ext h1 hE) (Nat.le_trans hN hE.size) hi (by simpa using Blk.new w ys.toArray 3) hy hne h2.one (OneC.one hd) hm).mono ?_
  rintro _ w' ⟨v', rfl, ho, hb, hnb⟩
  have hb2 : w.grownBy w' v.ownBlock := grownBy_tr (hE.grownBy v.ownBlock) hb (fun b e => .inl e) (fun b e => .inl e)
  refine ⟨v', rfl, AccF.of ho (by have h9 := (((h2.any w').take i).append (RowRd.single (FlO.any hd) hy) |>.append ((h2.any w').drop i)); rw [show i * Lay.n Int = i from Nat.mul_one i] at h9; exact h9) ?_, hb2, fun b e => (hnb b e).imp id (fun h => Nat.le_trans hE.size h)⟩
  simp only [List.length_append, List.length_take, List.length_drop, List.length_cons, List.length_nil]
  omega
theorem insertA_int (N : Nat) (v : Value) (l : List Int) (d : Int) (ys : List Value) (i B : Nat) (w : World) (h : AccF N 3 w v l) (hN : N ≤ w.heap.size) (hi : i ≤ l.length) (hB : w.heap.size = B) (hd : Lay.rd w ys d) (hy : ys.length = 1) (hm : l.length ≤ 1000000000) :
    Calls Tryz.prog 111 #[v, .int .i64 i, .slice (some ⟨B, 0, none⟩) 1 1] (w.alloc (.cells ys.toArray 3)) fun e w' => ∃ v', e = .returned v' ∧ AccF N 3 w' v' (l.take i ++ [d] ++ l.drop i) ∧ Below N w w' := by
  obtain ⟨xs, h1, _⟩ := id h
  refine (insertG_int N v l d ys i B w h hN hi hB hd hy hm).mono ?_
  rintro _ w' ⟨v', rfl, ha, hb, _⟩
  exact ⟨v', rfl, ha, (Below.refl N w).grown hb hN (fun j hj => (h1.lt j hj).1)⟩



end Go.Proofs.YtjeofgalgfopdaaGreatDoor
