/- A path with a house ahead: what the functions do. No condition. -/
import Derived.Test.YtlehcnfmagjilaaDoorPathI
import Derived.Test.YtlehcnfmagjilaaDoorAcc
import Derived.Test.YtlehcnfmagjilaaDoorSeqS
namespace Go.Proofs.YtlehcnfmagjilaaDoor
open Go Go.RowKit

/-- append of a whole list to a slice of the call's own. -/
theorem wpList_pushL {α : Type} [Lay α] [Ow α] [OneC α] [FlO α] {N : Nat} {e : TypeId} {w : World} {v : Value} {l l' : List α} {P : Program} {ops : Array Oper} {rest : List Oper} {o : Oper} {a : Act} {Q : Exit → Act → World → Prop} (hgd : o.guard = none) (s x : Operand) {t : TypeId} (ho : o.op = .call { callee := .builtin .append, args := #[s, x], argTypes := #[t, t] })
    {bytes m c : Nat} {ax : Option Addr} (hT : TyI P t e (Lay.n α) bytes) (hby : bytes ≤ 1000) (hs : a.eval s = v) (h : AccF N e w v l) (hlen : l.length ≤ 1000000000) (hx : a.eval x = .slice ax m c) (hm : m ≤ 1000000000) (hd : SlRd w ax m c l') (hN : N ≤ w.heap.size)
    (h : ∀ v' w', AccF N e w' v' (l ++ l') → w.grownBy w' v.ownBlock → (∀ w0, Ext w0 w → w0.heap.size ≤ N → Ext w0 w') → wpList P ops Q rest (a.put o.dst v') w') : wpList P ops Q (o :: rest) a w := by
  obtain ⟨xs, h1, h2⟩ := ‹AccF N e w v l›
  obtain ⟨ys, k1, k2⟩ := hd.row
  have hcl : ys.length = m * Lay.n α := by rw [k2.1, hd.1]
  refine wpList_app hgd s x ho hT hs h1 hx hd.2.1 hd.2.2.2.1 hcl k1 k2.one (by unfold maxLen; omega) ?_ hN fun v1 w1 hw1 hg1 hb1 => h v1 w1 ⟨_, by rw [List.length_append, hd.1]; exact hw1, (h2.any w1).append (k2.any w1)⟩ hg1 fun w0 hE0 hb0 => Ext.by hE0 hg1 fun j hj => Nat.le_trans hb0 (h1.lt j hj).1
  have h1 := Nat.mul_le_mul_left (l.length + m) hby
  have h2 := Nat.mul_le_mul_right 1000 (show l.length + m ≤ 2000000000 by omega)
  omega
theorem AccF.lit {α : Type} [Lay α] [Ow α] [OneC α] [FlO α] {N : Nat} {e : TypeId} {w : World} {C : Array Value} {d : α} (hd : Lay.rd w C.toList d) (hN : N ≤ w.heap.size) : AccF N e (w.alloc (.cells C e)) (.slice (some ⟨w.heap.size, 0, none⟩) 1 1) [d] := by
  refine ⟨C.toList, ownsRow_of hN (Blk.new w C e) (by rw [OneC.len hd]; simp) (Nat.le_refl _) (by unfold maxLen; omega) (by rw [OneC.len hd]; simp) ?_, RowRd.single (FlO.any hd) (OneC.len hd)⟩
  exact List.take_of_length_le (by rw [OneC.len hd]; simp)
theorem AccF.litAt {α : Type} [Lay α] [Ow α] [OneC α] [FlO α] {N B : Nat} {e : TypeId} {w : World} {C : Array Value} {d : α} (hd : Lay.rd w C.toList d) (hN : N ≤ w.heap.size) (hB : w.heap.size = B) : AccF N e (w.alloc (.cells C e)) (.slice (some ⟨B, 0, none⟩) 1 1) [d] := hB ▸ AccF.lit hd hN

theorem AccF.madeAt {α : Type} [Lay α] {N B : Nat} {e : TypeId} {w : World} (hN : N ≤ w.heap.size) (hB : w.heap.size = B) : AccF N e (w.alloc (.cells #[] e)) (.slice (some ⟨B, 0, none⟩) 0 0) ([] : List α) := hB ▸ AccF.made hN
/-- PathAdd. -/
noncomputable def pathAdd (l : List Int) (h : Int) : List Int × Bool := if (pathB l && (inB h 1 5 && !hasI l h)) = true then (h :: l, true) else ([], false)
theorem pathAdd_no {l : List Int} {h : Int} (k : (pathB l && (inB h 1 5 && !hasI l h)) = false) : pathAdd l h = ([], false) := by unfold pathAdd; rw [k]; rfl
theorem pathAdd_yes {l : List Int} {h : Int} (k1 : pathB l = true) (k2 : inB h 1 5 = true) (k3 : hasI l h = false) : pathAdd l h = (h :: l, true) := by unfold pathAdd; rw [k1, k2, k3]; rfl
theorem path_le {l : List Int} (h : pathB l = true) : l.length ≤ 5 := (pathB_iff.1 h).le (Nat.le_refl _)

theorem trailHas_all (S : Int) (h : Int) (l : List Int) (len : Nat) (a : Option Addr) (n c : Nat) (w : World) (hl : l.length = len) (hI : SI S (l.take len)) (hP : pathB l = true) :
    Calls Tryd.prog 95 #[.agg #[.int .u64 S, .slice a n c], .int .i64 h] w fun e w' => e = .returned (.bool (hasI l h)) ∧ Ext w w' := by
  have := trailHas_any S h l len a n c w hI (hl ▸ pathB_iff.1 hP)
  rwa [List.take_of_length_le (Nat.le_of_eq hl)] at this

end Go.Proofs.YtlehcnfmagjilaaDoor
