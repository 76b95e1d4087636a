/- Slices of the call's own that grow, of data with memory of its own. No condition. -/
import Derived.Test.YtlehcnfmagjilaaDoorRow
namespace Go.Proofs.YtlehcnfmagjilaaDoor
open Go Go.RowKit

/-- A row of cells that is a list of the call's own; each element's blocks. -/
def RowOw {α : Type} [Lay α] [Ow α] (w : World) (xs : List Value) (l : List α) (fps : List (List Nat)) : Prop :=
  xs.length = l.length * Lay.n α ∧ fps.length = l.length ∧ ∀ (i : Nat) (d : α) (f : List Nat), l[i]? = some d → fps[i]? = some f → ∃ ys, ys.length = Lay.n α ∧ Elt xs (Lay.n α) i ys ∧ Ow.own w ys d f

section
variable {α : Type} [Lay α] [Ow α] {w w' : World} {xs ys : List Value} {l m : List α} {fps fqs : List (List Nat)}
theorem RowOw.rd (h : RowOw w xs l fps) : RowRd w xs l := ⟨h.1, fun i d hd => by
  have hi := (List.getElem?_eq_some_iff.1 hd).1
  obtain ⟨ys, z1, z2, z3⟩ := h.2.2 i d _ hd (List.getElem?_eq_getElem (by rw [h.2.1]; exact hi))
  exact ⟨ys, z1, z2, Ow.rd z3⟩⟩
theorem RowOw.nil : RowOw w [] ([] : List α) [] := ⟨by simp, rfl, fun i d f h => by simp at h⟩
theorem RowOw.frame (h : RowOw w xs l fps) (k : ∀ b ∈ fps.flatten, w'.heap[b]? = w.heap[b]?) : RowOw w' xs l fps :=
  ⟨h.1, h.2.1, fun i d f hd hf => by
    obtain ⟨ys, z1, z2, z3⟩ := h.2.2 i d f hd hf
    exact ⟨ys, z1, z2, Ow.frame z3 fun b hb => k b (List.mem_flatten.2 ⟨f, List.mem_of_getElem? hf, hb⟩)⟩⟩
theorem RowOw.lt (h : RowOw w xs l fps) : ∀ b ∈ fps.flatten, b < w.heap.size := fun b hb => by
  obtain ⟨f, hf, hb⟩ := List.mem_flatten.1 hb
  obtain ⟨i, hi, rfl⟩ := List.mem_iff_getElem.1 hf
  obtain ⟨ys, _, _, z3⟩ := h.2.2 i _ _ (List.getElem?_eq_getElem (by rw [← h.2.1]; exact hi)) (List.getElem?_eq_getElem hi)
  exact Ow.lt z3 b hb
theorem RowOw.single {d : α} {f : List Nat} (h : Ow.own w ys d f) (hl : ys.length = Lay.n α) : RowOw w ys [d] [f] := ⟨by simp [hl], rfl, fun i d' f' hd hf => by
  have : i = 0 := by have := (List.getElem?_eq_some_iff.1 hd).1; simp at this; exact this
  subst this
  simp only [List.getElem?_cons_zero, Option.some.injEq] at hd hf
  subst hd hf
  exact ⟨ys, hl, Elt.one, h⟩⟩
theorem RowOw.append (h : RowOw w xs l fps) (k : RowOw w ys m fqs) : RowOw w (xs ++ ys) (l ++ m) (fps ++ fqs) := by
  refine ⟨by rw [List.length_append, List.length_append, h.1, k.1, Nat.add_mul], by rw [List.length_append, List.length_append, h.2.1, k.2.1], fun i d f hd hf => ?_⟩
  rw [List.getElem?_append] at hd hf
  rw [h.2.1] at hf
  split at hd
  · rename_i hi
    rw [if_pos hi] at hf
    obtain ⟨zs, z1, z2, z3⟩ := h.2.2 i d f hd hf
    exact ⟨zs, z1, z2.app_left, z3⟩
  · rename_i hi
    rw [if_neg hi] at hf
    obtain ⟨zs, z1, z2, z3⟩ := k.2.2 _ d f hd hf
    refine ⟨zs, z1, ?_, z3⟩
    have := z2.app_right (k := l.length) h.1
    rwa [show l.length + (i - l.length) = i by omega] at this
theorem RowOw.take (h : RowOw w xs l fps) (k : Nat) : RowOw w (xs.take (k * Lay.n α)) (l.take k) (fps.take k) := by
  refine ⟨(h.rd.take k).1, by rw [List.length_take, List.length_take, h.2.1], fun i d f hd hf => ?_⟩
  rw [List.getElem?_take] at hd hf
  split at hd
  · rename_i hik
    rw [if_pos hik] at hf
    obtain ⟨zs, z1, z2, z3⟩ := h.2.2 i d f hd hf
    refine ⟨zs, z1, fun t u hu => ?_, z3⟩
    have ht := (List.getElem?_eq_some_iff.1 hu).1
    rw [List.getElem?_take, if_pos (mul_lt_of hik (by omega))]
    exact z2 t u hu
  · cases hd
theorem RowOw.drop (h : RowOw w xs l fps) (k : Nat) : RowOw w (xs.drop (k * Lay.n α)) (l.drop k) (fps.drop k) := by
  refine ⟨(h.rd.drop k).1, by rw [List.length_drop, List.length_drop, h.2.1], fun i d f hd hf => ?_⟩
  rw [List.getElem?_drop] at hd hf
  obtain ⟨zs, z1, z2, z3⟩ := h.2.2 _ d f hd hf
  refine ⟨zs, z1, fun t u hu => ?_, z3⟩
  rw [List.getElem?_drop]
  have := z2 t u hu
  rwa [Nat.add_mul, Nat.add_assoc] at this
theorem RowOw.set (h : RowOw w xs l fps) {i : Nat} (hi : i < l.length) {d : α} {f : List Nat} (hd : Ow.own w ys d f) (hy : ys.length = Lay.n α) : RowOw w (setL xs (i * Lay.n α) ys) (l.set i d) (fps.set i f) := by
  have hroom : i * Lay.n α + Lay.n α ≤ xs.length := by
    have := Nat.mul_le_mul_right (Lay.n α) (show i + 1 ≤ l.length from hi)
    rw [h.1]
    rwa [Nat.add_mul, Nat.one_mul] at this
  refine ⟨by rw [length_setL, h.1, List.length_set], by rw [List.length_set, List.length_set, h.2.1], fun k d' f' hk hf => ?_⟩
  by_cases hki : k = i
  · subst hki
    rw [List.getElem?_set_self hi] at hk
    rw [List.getElem?_set_self (by rw [h.2.1]; exact hi)] at hf
    obtain rfl := Option.some.inj hk
    obtain rfl := Option.some.inj hf
    exact ⟨ys, hy, Elt.set_self hy hroom, hd⟩
  · rw [List.getElem?_set_ne (Ne.symm hki)] at hk hf
    obtain ⟨zs, z1, z2, z3⟩ := h.2.2 k d' f' hk hf
    exact ⟨zs, z1, z2.set_other hy z1 hki, z3⟩
end

/-- A slice of the call's own, of data with memory of its own; its row lies from block N on. -/
def AccO {α : Type} [Lay α] [Ow α] (N : Nat) (e : TypeId) (w : World) (v : Value) (l : List α) (fps : List (List Nat)) : Prop :=
  ∃ xs, w.ownsRow N e (Lay.n α) v l.length xs ∧ RowOw w xs l fps ∧ fps.flatten.Nodup ∧ ∀ b ∈ fps.flatten, v.ownBlock ≠ some b
section
variable {α : Type} [Lay α] [Ow α] {N M : Nat} {e : TypeId} {w w' : World} {v : Value} {l : List α} {fps : List (List Nat)}
theorem AccO.ext (h : AccO N e w v l fps) (k : Ext w w') : AccO N e w' v l fps := by
  obtain ⟨xs, h1, h2, h3, h4⟩ := h
  exact ⟨xs, ownsRow_ext h1 k, h2.frame (fun b hb => k.below.block b (h2.lt b hb)), h3, h4⟩
theorem AccO.base (h : AccO N e w v l fps) (hb : M ≤ N) : AccO M e w v l fps := by
  obtain ⟨xs, h1, h2⟩ := h
  exact ⟨xs, ownsRow_base h1 hb, h2⟩
theorem AccO.nil : AccO N e w (.slice none 0 0) ([] : List α) [] := ⟨[], World.ownsRow_nil _ _ _ _, RowOw.nil, by simp, by simp⟩
theorem AccO.made (hN : N ≤ w.heap.size) : AccO N e (w.alloc (.cells #[] e)) (.slice (some ⟨w.heap.size, 0, none⟩) 0 0) ([] : List α) [] :=
  ⟨[], World.ownsRow_made w #[] 0 hN (Nat.zero_le _) (by simp), RowOw.nil, by simp, by simp⟩
theorem AccO.flen (h : AccO N e w v l fps) : fps.length = l.length := by
  obtain ⟨xs, h1, h2, _⟩ := h
  exact h2.2.1
theorem AccO.fresh_lt (h : AccO N e w v l fps) : ∀ b ∈ fps.flatten, b < w.heap.size := by
  obtain ⟨xs, h1, h2, _⟩ := h
  exact h2.lt
theorem AccO.shape (h : AccO N e w v l fps) : ∃ a cap, v = .slice a l.length cap := by
  obtain ⟨xs, h1, h2⟩ := h
  obtain ⟨a, cap, rfl, _⟩ := ownsRow_shape h1
  exact ⟨a, cap, rfl⟩
theorem AccO.shapeL (h : AccO N e w v l fps) : ∃ a n c, v = .slice a n c := by
  obtain ⟨a, c, rfl⟩ := h.shape
  exact ⟨_, _, _, rfl⟩
theorem AccO.addr {a : Option Addr} {n c : Nat} (h : AccO N e w (.slice a n c) l fps) (h0 : 0 < n) : ∃ g, a = some ⟨g, 0, none⟩ := by
  obtain ⟨xs, h1, h2⟩ := h
  obtain ⟨a', c', e1, _⟩ := ownsRow_shape h1
  simp only [Value.slice.injEq] at e1
  obtain ⟨rfl, rfl, rfl⟩ := e1
  obtain ⟨g, _, e, _⟩ := ownsRow_cur h1 h0
  exact ⟨g, e⟩
theorem AccO.sl [OneC α] {a : Option Addr} {n cap : Nat} (h : AccO N e w (.slice a n cap) l fps) : SlRd w a n cap l := by
  obtain ⟨xs, h1, h2, _⟩ := h
  obtain ⟨a', cap', e1, _⟩ := ownsRow_shape h1
  simp only [Value.slice.injEq] at e1
  obtain ⟨rfl, rfl, rfl⟩ := e1
  exact ownsRow_sl h1 h2.rd rfl
theorem AccO.low (h : AccO N e w v l fps) : ∀ b, v.ownBlock = some b → N ≤ b ∧ b < w.heap.size := by
  obtain ⟨xs, h1, _⟩ := h
  exact h1.lt
/-- A change of other blocks. -/
theorem AccO.kept (h : AccO N e w v l fps) {row : Option Nat} (hg : w.grownBy w' row) (h1 : ∀ b, row = some b → v.ownBlock ≠ some b ∧ b ∉ fps.flatten) : AccO N e w' v l fps := by
  obtain ⟨xs, k1, k2, k3, k4⟩ := h
  refine ⟨xs, k1.kept hg ?_, k2.frame (fun b hb => hg.block b (k2.lt b hb) (fun e => (h1 b e.symm).2 hb)), k3, k4⟩
  cases hv : v.ownBlock with
  | none => exact .inl rfl
  | some g => exact .inr (fun e => (h1 g e.symm).1 hv)
theorem AccO.fresh [OneC α] {w0 : World} (h : AccO w0.heap.size e w v l fps) (hE : Ext w0 w) (hf : ∀ b ∈ fps.flatten, w0.heap.size ≤ b) : ∃ a n cap, v = .slice a n cap ∧ Fresh w0 w [.slice a n cap] l := by
  obtain ⟨xs, h1, h2, h3, h4⟩ := h
  obtain ⟨a, cap, rfl, hlc, hcm, ha, _⟩ := ownsRow_shape h1
  refine ⟨a, _, cap, rfl, hE, ?_⟩
  rcases Nat.eq_zero_or_pos l.length with h0 | h0
  · obtain rfl := List.eq_nil_of_length_eq_zero h0
    exact ⟨[], ⟨_, _, _, rfl, rfl, hlc, hcm, ha, .inl ⟨rfl, rfl⟩⟩, by simp, by simp⟩
  · obtain ⟨g, cur, rfl, hb, hl, ht⟩ := ownsRow_cur h1 h0
    have hN := (h1.lt g rfl).1
    refine ⟨g :: fps.flatten, ⟨_, _, _, rfl, rfl, hlc, hcm, (fun h => by cases h), .inr ⟨g, e, cur, fps, rfl, hb, hl, h2.2.1, rfl, fun i d f hd hf => ?_⟩⟩, ?_, ?_⟩
    · obtain ⟨ys, z1, z2, z3⟩ := h2.2.2 i d f hd hf
      refine ⟨ys, z1, fun t u hu => ?_, z3⟩
      have := z2 t u hu
      rw [← ht, List.getElem?_take] at this
      split at this
      · exact this
      · cases this
    · exact List.nodup_cons.2 ⟨fun hg => h4 g hg rfl, h3⟩
    · intro b hb
      rcases List.mem_cons.1 hb with rfl | hb
      · exact hN
      · exact hf b hb
theorem flatten_snoc {L : List (List Nat)} {f : List Nat} : (L ++ [f]).flatten = L.flatten ++ f := by simp
theorem AccO.app {v' : Value} {xs : List Value} {C : List Value} {d : α} {f : List Nat} (h1 : w'.ownsRow N e (Lay.n α) v' (l.length + 1) (xs ++ C)) (h2 : RowOw w xs l fps) (h3 : fps.flatten.Nodup) (h4 : ∀ b ∈ fps.flatten, v.ownBlock ≠ some b)
    (hg : w.grownBy w' v.ownBlock) (hv : v'.ownBlock = v.ownBlock ∨ v'.ownBlock = some w.heap.size) (hd : Ow.own w C d f) (hC : C.length = Lay.n α) (hf : f.Nodup) (hf' : ∀ b ∈ f, v.ownBlock ≠ some b ∧ b ∉ fps.flatten) : AccO N e w' v' (l ++ [d]) (fps ++ [f]) := by
  have hall : ∀ b ∈ (fps ++ [f]).flatten, v.ownBlock ≠ some b ∧ b < w.heap.size := fun b hb => by
    rw [flatten_snoc, List.mem_append] at hb
    rcases hb with hb | hb
    · exact ⟨h4 b hb, h2.lt b hb⟩
    · exact ⟨(hf' b hb).1, Ow.lt hd b hb⟩
  refine ⟨xs ++ C, by rw [List.length_append]; exact h1, ((h2.append (RowOw.single hd hC)).frame fun b hb => hg.block b (hall b hb).2 (fun e => (hall b hb).1 e.symm)), ?_, fun b hb e => ?_⟩
  · rw [flatten_snoc]
    exact List.nodup_append.2 ⟨h3, hf, fun a ha b hb e => (hf' b hb).2 (e ▸ ha)⟩
  · obtain ⟨k1, k2⟩ := hall b hb
    rcases hv with hv | hv
    · exact k1 (hv.symm.trans e)
    · rw [hv] at e
      have := Option.some.inj e
      omega
theorem wpList_pushO [OneC α] {P : Program} {ops : Array Oper} {rest : List Oper} {o : Oper} {a : Act} {Q : Exit → Act → World → Prop} (hgd : o.guard = none) (s x : Operand) {t : TypeId} (ho : o.op = .call { callee := .builtin .append, args := #[s, x], argTypes := #[t, t] })
    {bytes B : Nat} (hT : TyI P t e (Lay.n α) bytes) (hby : bytes ≤ 1000) (hs : a.eval s = v) (h : AccO N e w v l fps) (hlen : l.length ≤ 1000000000) {C : Array Value} {d : α} {f : List Nat} (hx : a.eval x = .slice (some ⟨B, 0, none⟩) 1 1) (hB : Blk w B e C.toList) (hd : Ow.own w C.toList d f) (hf : f.Nodup)
    (hf' : ∀ b ∈ f, v.ownBlock ≠ some b ∧ b ∉ fps.flatten) (hN : N ≤ w.heap.size)
    (h : ∀ v' w', AccO N e w' v' (l ++ [d]) (fps ++ [f]) → w.grownBy w' v.ownBlock → (∀ w0, Ext w0 w → w0.heap.size ≤ N → Ext w0 w') → wpList P ops Q rest (a.put o.dst v') w') : wpList P ops Q (o :: rest) a w := by
  obtain ⟨xs, h1, h2, h3, h4⟩ := ‹AccO N e w v l fps›
  have hcl : C.toList.length = 1 * Lay.n α := by rw [Nat.one_mul]; exact OneC.len (Ow.rd hd)
  refine wpList_app hgd s x ho hT hs h1 hx (Nat.le_refl 1) (fun h => by cases h) hcl (Src.blk hB) (OneC.one (Ow.rd hd)) (by unfold maxLen; omega) ?_ hN fun v1 w1 hw1 hg1 hb1 =>
    h v1 w1 (AccO.app hw1 h2 h3 h4 hg1 hb1 hd (OneC.len (Ow.rd hd)) hf hf') hg1 fun w0 hE0 hb0 => Ext.by hE0 hg1 fun j hj => Nat.le_trans hb0 (h1.lt j hj).1
  have := Nat.mul_le_mul_left (l.length + 1) hby
  omega
/-- What was made behind the slice is apart from it. -/
theorem AccO.apart {w1 : World} (h : AccO N e w1 v l fps) {f : List Nat} (hf : ∀ b ∈ f, w1.heap.size ≤ b) : ∀ b ∈ f, v.ownBlock ≠ some b ∧ b ∉ fps.flatten := fun b hb => by
  have := hf b hb
  refine ⟨fun e => ?_, fun hm => ?_⟩
  · have := (h.low b e).2; omega
  · have := h.fresh_lt b hm; omega
/-- An element of its own. -/
theorem AccO.elt (h : AccO N e w v l fps) {i : Nat} {d : α} (hd : l[i]? = some d) : ∃ f ys, fps[i]? = some f ∧ f.Nodup ∧ (∀ b ∈ f, b ∈ fps.flatten) ∧ ys.length = Lay.n α ∧ Ow.own w ys d f ∧ ∃ g c, v = .slice (some ⟨g, 0, none⟩) l.length c ∧ ∀ (t : Nat) (u : Value), ys[t]? = some u → w.cell? ⟨g, i * Lay.n α + t, none⟩ = some u := by
  obtain ⟨xs, h1, h2, h3, h4⟩ := h
  have hi := (List.getElem?_eq_some_iff.1 hd).1
  have hf : fps[i]? = some (fps[i]'(by rw [h2.2.1]; exact hi)) := List.getElem?_eq_getElem _
  obtain ⟨ys, z1, z2, z3⟩ := h2.2.2 i d _ hd hf
  obtain ⟨a, c, rfl, _⟩ := ownsRow_shape h1
  obtain ⟨g, cur, rfl, hb, hl, ht⟩ := ownsRow_cur h1 (by omega)
  refine ⟨_, ys, hf, ?_, fun b hb => List.mem_flatten.2 ⟨_, List.mem_of_getElem? hf, hb⟩, z1, z3, g, c, rfl, fun t u hu => ?_⟩
  · exact (List.pairwise_flatten.1 h3).1 _ (List.mem_of_getElem? hf)
  · have := z2 t u hu
    rw [← ht, List.getElem?_take] at this
    split at this
    · exact hb.cell this
    · cases this
end

theorem fin_own {α : Type} [Lay α] [Ow α] [OneC α] {e : TypeId} {w w0 w1 : World} {N : Nat} {a : Option Addr} {n c : Nat} {l : List α} {fps : List (List Nat)} (h : AccO N e w0 (.slice a n c) l fps) (h0 : Ext w0 w1) (hN : w.heap.size ≤ N) (hE : Ext w w1) (hf : ∀ b ∈ fps.flatten, w.heap.size ≤ b) :
    ∃ x, w1 = Go.Proofs.YtlehcnfmagjilaaDoor.ext w x ∧ Hid (Fresh w (Go.Proofs.YtlehcnfmagjilaaDoor.ext w x) [.slice a n c] l) := by
  obtain ⟨a', n', c', e1, hf⟩ := ((h.ext h0).base hN).fresh hE hf
  simp only [Value.slice.injEq] at e1
  obtain ⟨rfl, rfl, rfl⟩ := e1
  obtain ⟨x, rfl⟩ := hE
  exact ⟨x, rfl, hf⟩

end Go.Proofs.YtlehcnfmagjilaaDoor
