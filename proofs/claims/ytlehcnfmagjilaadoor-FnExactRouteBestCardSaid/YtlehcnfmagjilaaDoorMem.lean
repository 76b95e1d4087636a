/- Memory of the call's own: rows that grow, blocks that are known whole, while other blocks turn. No condition. -/
import Derived.Test.YtlehcnfmagjilaaDoorSz
namespace Go.Proofs.YtlehcnfmagjilaaDoor
open Go Go.RowKit

theorem Blk.grown {w w' : World} {b : Nat} {e : TypeId} {cs : List Value} {row : Option Nat} (h : Blk w b e cs) (hg : w.grownBy w' row) (hne : some b ≠ row) : Blk w' b e cs := h.of_heap (hg.block b h.lt hne)
theorem grownBy_set (w : World) (a : Addr) (v : Value) : w.grownBy (w.setCell a v) (some a.block) :=
  ⟨rfl, rfl, rfl, by simp [World.setCell], fun i _ hne => Below.heap_setCell w a v i (fun e => hne (by rw [e]))⟩
theorem ownsRow_set {w : World} {base : Nat} {e : TypeId} {size n : Nat} {v : Value} {xs : List Value} (h : w.ownsRow base e size v n xs) (a : Addr) (u : Value) (hne : v.ownBlock ≠ some a.block) : (w.setCell a u).ownsRow base e size v n xs :=
  h.kept (grownBy_set w a u) (.inr hne)
theorem Ext.by {a w w' : World} {row : Option Nat} (h : Ext a w) (hg : w.grownBy w' row) (hr : ∀ j, row = some j → a.heap.size ≤ j) : Ext a w' := Ext.of (h.below.grown hg h.below.size hr)
theorem Ext.grownBy {w w' : World} (h : Ext w w') (row : Option Nat) : w.grownBy w' row := ⟨h.below.os, h.below.tape, h.below.output, h.below.size, fun i hi _ => h.below.block i hi⟩
theorem ownsRow_ext {w w' : World} {base : Nat} {e : TypeId} {size n : Nat} {v : Value} {xs : List Value} (h : w.ownsRow base e size v n xs) (he : Ext w w') : w'.ownsRow base e size v n xs :=
  h.kept (he.grownBy none) (by cases hv : v.ownBlock <;> simp)

end Go.Proofs.YtlehcnfmagjilaaDoor
