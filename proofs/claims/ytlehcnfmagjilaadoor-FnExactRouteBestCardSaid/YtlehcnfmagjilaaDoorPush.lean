/- Appending to slices of the call's own, of data with memory of its own. No condition. -/
import Derived.Test.YtlehcnfmagjilaaDoorCopyR
import Derived.Test.YtlehcnfmagjilaaDoorOwnL
import Derived.Test.YtlehcnfmagjilaaDoorSlc
namespace Go.Proofs.YtlehcnfmagjilaaDoor
open Go Go.RowKit

theorem Cp.rt {w : World} {lo : Nat} {a1 a2 : Option Addr} {n1 c1 n2 c2 : Nat} {d : Rt} (h : Cp lo w (.slice a1 n1 c1) (.slice a2 n2 c2) d.path d.marks) (i1 : I64 d.r.f) (i2 : I64 d.r.b) (i3 : I64 d.like) :
    ∃ f, Ow.own w [.int .i64 d.r.f, .int .i64 d.r.b, .slice a1 n1 c1, .int .i64 d.like, .slice a2 n2 c2] d f ∧ f.Nodup ∧ ∀ b ∈ f, lo ≤ b := by
  obtain ⟨fp1, o1, nd1, b1⟩ := h.1.own
  obtain ⟨fp2, o2, nd2, b2⟩ := h.2.1.own
  refine ⟨fp1 ++ fp2, ⟨_, _, _, _, _, _, fp1, fp2, rfl, i1, i2, o1, i3, o2, rfl⟩, ?_, fun b hb => ?_⟩
  · exact List.nodup_append.2 ⟨nd1, nd2, fun x hx y hy e => by subst e; exact h.2.2 x (b1 x hx) (b2 x hy)⟩
  · rcases List.mem_append.1 hb with hb | hb
    · exact (h.1.low b (b1 b hb)).1
    · exact (h.2.1.low b (b2 b hb)).1
theorem wpList_pushO' {α : Type} [Lay α] [Ow α] [OneC α] {N : Nat} {e : TypeId} {w : World} {v : Value} {l : List α} {fps : List (List Nat)} {P : Program} {ops : Array Oper} {rest : List Oper} {o : Oper} {a : Act} {Q : Exit → Act → World → Prop} (hgd : o.guard = none) (s x : Operand) {t : TypeId} (ho : o.op = .call { callee := .builtin .append, args := #[s, x], argTypes := #[t, t] })
    {bytes B : Nat} (hT : TyI P t e (Lay.n α) bytes) (hby : bytes ≤ 1000) (hs : a.eval s = v) (h : AccO N e w v l fps) (hlen : l.length ≤ 1000000000) {C : Array Value} {d : α} {f : List Nat} (hx : a.eval x = .slice (some ⟨B, 0, none⟩) 1 1) (hB : Blk w B e C.toList) (hd : Ow.own w C.toList d f) (hf : f.Nodup)
    (hf' : ∀ b ∈ f, v.ownBlock ≠ some b ∧ b ∉ fps.flatten) (hN : N ≤ w.heap.size)
    (h : ∀ v' w', AccO N e w' v' (l ++ [d]) (fps ++ [f]) → w.grownBy w' v.ownBlock → (∀ w0, Ext w0 w → w0.heap.size ≤ N → Ext w0 w') → (v'.ownBlock = v.ownBlock ∨ v'.ownBlock = some w.heap.size) → wpList P ops Q rest (a.put o.dst v') w') : wpList P ops Q (o :: rest) a w := by
  obtain ⟨xs, h1, h2, h3, h4⟩ := ‹AccO N e w v l fps›
  have hcl : C.toList.length = 1 * Lay.n α := by rw [Nat.one_mul]; exact OneC.len (Ow.rd hd)
  refine wpList_app hgd s x ho hT hs h1 hx (Nat.le_refl 1) (fun h => by cases h) hcl (Src.blk hB) (OneC.one (Ow.rd hd)) (by unfold maxLen; omega) ?_ hN fun v1 w1 hw1 hg1 hb1 =>
    h v1 w1 (AccO.app hw1 h2 h3 h4 hg1 hb1 hd (OneC.len (Ow.rd hd)) hf hf') hg1 (fun w0 hE0 hb0 => Ext.by hE0 hg1 fun j hj => Nat.le_trans hb0 (h1.lt j hj).1) hb1
  have := Nat.mul_le_mul_left (l.length + 1) hby
  omega
theorem AccO.madeAt {α : Type} [Lay α] [Ow α] {N B : Nat} {e : TypeId} {w : World} (hN : N ≤ w.heap.size) (hB : w.heap.size = B) : AccO N e (w.alloc (.cells #[] e)) (.slice (some ⟨B, 0, none⟩) 0 0) ([] : List α) [] := hB ▸ AccO.made hN
theorem take_snoc {α : Type} {l : List α} {k : Nat} {d : α} (hd : l[k]? = some d) : l.take (k + 1) = l.take k ++ [d] := by rw [List.take_add_one, hd]; rfl

theorem AccO.setNe {α : Type} [Lay α] [Ow α] {N : Nat} {e : TypeId} {w : World} {v : Value} {l : List α} {fps : List (List Nat)} (h : AccO N e w v l fps) {b o : Nat} (hb : v.ownBlock ≠ some b) (hf : b ∉ fps.flatten) (u : Value) : AccO N e (w.setCell ⟨b, o, none⟩ u) v l fps :=
  h.kept (grownBy_set w ⟨b, o, none⟩ u) fun b' e => by
    obtain rfl := Option.some.inj e
    exact ⟨hb, hf⟩
theorem AccO.allocs {α : Type} [Lay α] [Ow α] {N : Nat} {e : TypeId} {w : World} {v : Value} {l : List α} {fps : List (List Nat)} (h : AccO N e w v l fps) (o : Obj) : AccO N e (w.alloc o) v l fps := h.ext (Ext.alloc (Ext.refl _) _)
theorem AccO.exts {α : Type} [Lay α] [Ow α] {N : Nat} {e : TypeId} {w : World} {v : Value} {l : List α} {fps : List (List Nat)} (h : AccO N e w v l fps) (x : Nx) : AccO N e (Go.Proofs.YtlehcnfmagjilaaDoor.ext w x) v l fps := h.ext (Ext.ext (Ext.refl _) _)
theorem all_snoc {p : Nat → Prop} {fps : List (List Nat)} {f : List Nat} (h : ∀ b ∈ fps.flatten, p b) (h' : ∀ b ∈ f, p b) : ∀ b ∈ (fps ++ [f]).flatten, p b := fun b hb => by
  rw [flatten_snoc] at hb
  rcases List.mem_append.1 hb with hb | hb
  · exact h b hb
  · exact h' b hb

theorem len_sz {α : Type} [Sz α] {l : List α} {n : Nat} (h : Sz.sz l ≤ n) : l.length ≤ n := Nat.le_trans (Nat.le_add_right _ _) h
theorem all_take {α : Type} {p : α → Bool} {l : List α} {k : Nat} {d : α} (h : (l.take k).all p = true) (hd : l[k]? = some d) (hp : p d = true) : (l.take (k + 1)).all p = true := by
  rw [List.take_add_one, hd, List.all_append, h]; simp [hp]
theorem all_not {α : Type} {p : α → Bool} {l : List α} {k : Nat} {d : α} (hd : l[k]? = some d) (hp : p d = false) : l.all p = false := by
  cases e : l.all p
  · rfl
  · have := List.all_eq_true.1 e d (List.mem_of_getElem? hd)
    rw [hp] at this
    cases this
theorem map_take {α β : Type} {f : α → β} {l : List α} {k : Nat} {d : α} (hd : l[k]? = some d) : (l.take (k + 1)).map f = (l.take k).map f ++ [f d] := by
  rw [List.take_add_one, hd, List.map_append]; rfl
theorem rt_path' {r : Rt} (h : rtOk r = true) : 0 < r.path.length := by simp only [rtOk, Bool.and_eq_true, decide_eq_true_eq] at h; exact h.2.2.1
section
variable {α : Type} [Lay α] [Ow α] {w w1 : World} {cs : List Value} {d : α}
theorem Fresh.ownAt (h : Fresh w w1 cs d) : ∃ f, Ow.own w1 cs d f ∧ f.Nodup ∧ ∀ b ∈ f, w.heap.size ≤ b := h.2
theorem fin_acco [OneC α] {e : TypeId} {N : Nat} {a : Option Addr} {n c : Nat} {l : List α} {fps : List (List Nat)} (h : AccO N e w1 (.slice a n c) l fps) (hN : w.heap.size ≤ N) (hf : ∀ b ∈ fps.flatten, w.heap.size ≤ b) (hE : Ext w w1) : ∃ x, w1 = Go.Proofs.YtlehcnfmagjilaaDoor.ext w x ∧ Hid (Fresh w (Go.Proofs.YtlehcnfmagjilaaDoor.ext w x) [.slice a n c] l) := by
  obtain ⟨a', n', c', e1, h2⟩ := (h.base hN).fresh hE hf
  simp only [Value.slice.injEq] at e1
  obtain ⟨rfl, rfl, rfl⟩ := e1
  obtain ⟨x, rfl⟩ := hE
  exact ⟨x, rfl, h2⟩
theorem fin_acco_made [OneC α] (e : TypeId) {B : Nat} (hE : Ext w w1) (hB : w1.heap.size = B) : ∃ x, w1.alloc (.cells #[] e) = Go.Proofs.YtlehcnfmagjilaaDoor.ext w x ∧ Hid (Fresh w (Go.Proofs.YtlehcnfmagjilaaDoor.ext w x) [.slice (some ⟨B, 0, none⟩) 0 0] ([] : List α)) :=
  fin_acco (AccO.madeAt (N := w.heap.size) hE.size hB) (Nat.le_refl _) (by simp) (hE.alloc _)
end
theorem fm_some {α β : Type} {f : α → Option β} {l : List α} {k : Nat} {d : α} {e : β} (hd : l[k]? = some d) (h : f d = some e) : (l.take (k + 1)).filterMap f = (l.take k).filterMap f ++ [e] := by
  rw [List.take_add_one, hd, List.filterMap_append]; simp [h]
theorem fm_none {α β : Type} {f : α → Option β} {l : List α} {k : Nat} {d : α} (hd : l[k]? = some d) (h : f d = none) : (l.take (k + 1)).filterMap f = (l.take k).filterMap f := by
  rw [List.take_add_one, hd, List.filterMap_append]; simp [h]

end Go.Proofs.YtlehcnfmagjilaaDoor
