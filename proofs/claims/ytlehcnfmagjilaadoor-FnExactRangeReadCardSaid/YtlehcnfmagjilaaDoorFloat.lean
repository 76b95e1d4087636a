/- A region that draws where a new block is laid: both ways meet again behind it. No condition. -/
import Derived.Test.YtlehcnfmagjilaaDoorKeep
import Derived.Test.YtlehcnfmagjilaaDoorSeqF
import Derived.Deep.Cut
namespace Go.Proofs.YtlehcnfmagjilaaDoor
open Go Go.RowKit

theorem wp_name {P : Program} {s : Code} {Q : Exit → Act → World → Prop} {a : Act} {w : World} (h : ∀ W, W = w → s.wp P Q a W) : s.wp P Q a w := h w rfl
section
variable {α : Type} [Lay α] [Ow α] {w w' w0 : World} {cs : List Value} {d : α} {lo hi : Nat}
theorem Own2.setLow (h : Own2 lo w cs d hi) {b o : Nat} (hb : b < lo) (u : Value) : Own2 lo (w.setCell ⟨b, o, none⟩ u) cs d hi := by
  obtain ⟨fp, h1, h2, h3, h4⟩ := h
  exact ⟨fp, Ow.frame h1 (fun x hx => Below.heap_setCell _ _ _ _ (fun e => by have := h3 x hx; have e : x = b := e; omega)), h2, h3, h4⟩
theorem Own2.allocs (h : Own2 lo w cs d hi) (o : Obj) : Own2 lo (w.alloc o) cs d hi := h.later (Ext.alloc (Ext.refl _) _)
theorem Own2.exts (h : Own2 lo w cs d hi) (x : Nx) : Own2 lo (Go.Proofs.YtlehcnfmagjilaaDoor.ext w x) cs d hi := h.later (Ext.ext (Ext.refl _) _)
theorem Own2.setB (h : Own2 lo w cs d hi) {b o : Nat} (hb : b < lo ∨ hi ≤ b) (u : Value) : Own2 lo (w.setCell ⟨b, o, none⟩ u) cs d hi := by
  obtain ⟨fp, h1, h2, h3, h4⟩ := h
  exact ⟨fp, Ow.frame h1 (fun x hx => Below.heap_setCell _ _ _ _ (fun e => by have := h3 x hx; have := h4 x hx; have e : x = b := e; omega)), h2, h3, h4⟩
theorem Own2.fill {b : Nat} {v0 v1 v2 v3 v4 : Value} (h : Own2 lo w cs d hi) (k : Ext w w') (hb : b < lo ∨ hi ≤ b) : Own2 lo (((((w'.setCell ⟨b, 0, none⟩ v0).setCell ⟨b, 1, none⟩ v1).setCell ⟨b, 2, none⟩ v2).setCell ⟨b, 3, none⟩ v3).setCell ⟨b, 4, none⟩ v4) cs d hi :=
  (((((h.later k).setB hb _).setB hb _).setB hb _).setB hb _).setB hb _
theorem Own2.fill3 {b : Nat} {v0 v1 v2 : Value} (h : Own2 lo w cs d hi) (k : Ext w w') (hb : b < lo ∨ hi ≤ b) : Own2 lo (((w'.setCell ⟨b, 0, none⟩ v0).setCell ⟨b, 1, none⟩ v1).setCell ⟨b, 2, none⟩ v2) cs d hi :=
  (((h.later k).setB hb _).setB hb _).setB hb _
theorem own_lh (h : Fresh w0 w cs d) : ∃ lo hi, Own2 lo w cs d hi ∧ w0.heap.size = lo ∧ w.heap.size = hi := ⟨_, _, Own2.of h, rfl, rfl⟩
end
section
variable {w : World} {b : Nat} {e : TypeId} {z0 z1 z2 z3 z4 v0 v1 v2 v3 v4 : Value}
theorem Blk.fill5 (h : Blk w b e [z0, z1, z2, z3, z4]) : Blk (((((w.setCell ⟨b, 0, none⟩ v0).setCell ⟨b, 1, none⟩ v1).setCell ⟨b, 2, none⟩ v2).setCell ⟨b, 3, none⟩ v3).setCell ⟨b, 4, none⟩ v4) b e [v0, v1, v2, v3, v4] :=
  ((((h.set 0 v0).set 1 v1).set 2 v2).set 3 v3).set 4 v4
theorem Blk.fill3 (h : Blk w b e [z0, z1, z2]) : Blk (((w.setCell ⟨b, 0, none⟩ v0).setCell ⟨b, 1, none⟩ v1).setCell ⟨b, 2, none⟩ v2) b e [v0, v1, v2] :=
  ((h.set 0 v0).set 1 v1).set 2 v2
end

end Go.Proofs.YtlehcnfmagjilaaDoor
