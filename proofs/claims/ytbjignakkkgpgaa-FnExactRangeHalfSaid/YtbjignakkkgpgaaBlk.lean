/- A block that is known whole; data of the call's own in memory. No condition. -/
import Derived.Test.YtbjignakkkgpgaaData
namespace Go.Proofs.Ytbjignakkkgpgaa
open Go Go.RowKit

/-- Block b holds just these cells, and none is shared with a string. -/
def Blk (w : World) (b : Nat) (e : TypeId) (cs : List Value) : Prop := w.heap[b]? = some (.cells cs.toArray e (0, 0))

section
variable {w : World} {b : Nat} {e : TypeId} {cs : List Value}
theorem Blk.cell? (h : Blk w b e cs) (j : Nat) : w.cell? ⟨b, j, none⟩ = cs[j]? := by
  unfold Blk at h
  simp [World.cell?, h]
theorem Blk.cell (h : Blk w b e cs) {j : Nat} {u : Value} (hu : cs[j]? = some u) : w.cell? ⟨b, j, none⟩ = some u := (h.cell? j).trans hu
theorem Blk.frozen (h : Blk w b e cs) (j : Nat) : w.frozen? ⟨b, j, none⟩ = false := by
  unfold Blk at h
  simp [World.frozen?, h]
theorem Blk.get (h : Blk w b e cs) {j : Nat} (hj : j < cs.length) : ∃ z, w.cell? ⟨b, j, none⟩ = some z := ⟨_, h.cell (List.getElem?_eq_getElem hj)⟩
theorem Blk.lt (h : Blk w b e cs) : b < w.heap.size := by
  unfold Blk at h
  exact (Array.getElem?_eq_some_iff.1 h).1
theorem Blk.of_heap {w' : World} (h : Blk w b e cs) (k : w'.heap[b]? = w.heap[b]?) : Blk w' b e cs := k.trans h
theorem Blk.ext (h : Blk w b e cs) (x : Nx) : Blk (Go.Proofs.Ytbjignakkkgpgaa.ext w x) b e cs := h.of_heap (ext_heap w x b h.lt)
theorem Blk.alloc (h : Blk w b e cs) (o : Obj) : Blk (w.alloc o) b e cs := h.of_heap (Below.heap_alloc w o b h.lt)
theorem Blk.drew (h : Blk w b e cs) : Blk w.drew b e cs := h
theorem Blk.setOther (h : Blk w b e cs) {a : Addr} (u : Value) (hne : b ≠ a.block) : Blk (w.setCell a u) b e cs := h.of_heap (Below.heap_setCell w a u b hne)
theorem Blk.set (h : Blk w b e cs) (j : Nat) (u : Value) : Blk (w.setCell ⟨b, j, none⟩ u) b e (cs.set j u) := by
  unfold Blk at *
  simp only [World.setCell, Array.getElem?_modify, if_true, h]
  simp
theorem Blk.new (w : World) (C : Array Value) (e : TypeId) : Blk (w.alloc (.cells C e)) w.heap.size e C.toList := by
  unfold Blk
  show (w.heap.push _)[w.heap.size]? = _
  simp
theorem Blk.below {w' : World} (h : Blk w b e cs) (hb : Below w.heap.size w w') : Blk w' b e cs := h.of_heap (hb.block b h.lt)
theorem Blk.extends {w' : World} (h : Blk w b e cs) (hb : Ext w w') : Blk w' b e cs := h.below hb.below
end

end Go.Proofs.Ytbjignakkkgpgaa
