/- Linked lists of told routes in memory. No condition. -/
import Derived.Test.YtlehcnfmagjilaaGreatDoorOwnL
namespace Go.Proofs.YtlehcnfmagjilaaGreatDoor
open Go Go.RowKit

/-- A node: its block, what it holds, the blocks of that. -/
structure Nd where
  b : Nat
  d : Gt
  f : List Nat

/-- The link ahead of nodes; v, if there are none. -/
def hdv : List Nd → Value → Value
  | [], v => v
  | n :: _, _ => .pointer (some ⟨n.b, 0, none⟩)
/-- The links behind nodes; the last one is v. -/
def Tl (w : World) : List Nd → Value → Prop
  | [], _ => True
  | n :: t, v => w.cell? ⟨n.b, 6, none⟩ = some (hdv t v) ∧ Tl w t v
def NodeOk (w : World) (n : Nd) : Prop := ∃ ys nx, ys.length = 6 ∧ Blk w n.b 117 (ys ++ [nx]) ∧ Ow.own w ys n.d n.f
/-- Where the last link of nodes lies. -/
def lastL (s : Nat) (A : List Nd) : Addr := match A.getLast? with | none => ⟨s, 2, none⟩ | some n => ⟨n.b, 6, none⟩
def allB (L : List Nd) : List Nat := L.map Nd.b ++ (L.map Nd.f).flatten
def nilp : Value := .pointer none

/-- A session: the nodes L, in blocks from N on. -/
def Ses (N : Nat) (w : World) (s : Nat) (hs : Int) (up : Bool) (many : Int) (L : List Nd) : Prop :=
  Blk w s 113 [.int .i64 hs, .bool up, hdv L nilp, .int .i64 many] ∧ Tl w L nilp ∧ (∀ n ∈ L, NodeOk w n) ∧ (s :: allB L).Nodup ∧ ∀ b ∈ s :: allB L, N ≤ b

section
variable {w w' : World} {A B C L : List Nd} {n : Nd} {v u : Value} {s N : Nat} {hs many : Int} {up : Bool}
theorem hdv_append : hdv (A ++ B) v = hdv A (hdv B v) := by cases A <;> rfl
theorem Tl_append : Tl w (A ++ B) v ↔ Tl w A (hdv B v) ∧ Tl w B v := by
  induction A with
  | nil => simp [Tl]
  | cons n A ih => simp only [List.cons_append, Tl, ih, hdv_append, and_assoc]
theorem Tl.frame (h : Tl w L v) (k : ∀ n ∈ L, w'.heap[n.b]? = w.heap[n.b]?) : Tl w' L v := by
  induction L with
  | nil => trivial
  | cons n L ih => exact ⟨(World.cell?_of_block (w := w) (k n (by simp))).trans h.1, ih h.2 fun m hm => k m (by simp [hm])⟩
theorem NodeOk.frame (h : NodeOk w n) (k : w'.heap[n.b]? = w.heap[n.b]?) (k' : ∀ b ∈ n.f, w'.heap[b]? = w.heap[b]?) : NodeOk w' n := by
  obtain ⟨ys, nx, h1, h2, h3⟩ := h
  exact ⟨ys, nx, h1, h2.of_heap k, Ow.frame h3 k'⟩
theorem NodeOk.link (h : NodeOk w n) (hn : n.b ∉ n.f) (u : Value) : NodeOk (w.setCell ⟨n.b, 6, none⟩ u) n ∧ (w.setCell ⟨n.b, 6, none⟩ u).cell? ⟨n.b, 6, none⟩ = some u := by
  obtain ⟨ys, nx, h1, h2, h3⟩ := h
  have h4 := h2.set 6 u
  have e : (ys ++ [nx]).set 6 u = ys ++ [u] := by rw [← h1, List.set_append_right _ _ (Nat.le_refl _)]; simp
  rw [e] at h4
  exact ⟨⟨ys, u, h1, h4, Ow.frame h3 fun b hb => Below.heap_setCell _ _ _ _ (fun e => by subst e; exact hn hb)⟩, h4.cell (by rw [← h1]; simp)⟩
theorem allB_append : allB (A ++ B) = A.map Nd.b ++ B.map Nd.b ++ ((A.map Nd.f).flatten ++ (B.map Nd.f).flatten) := by simp [allB]
theorem mem_allB_b (h : n ∈ L) : n.b ∈ allB L := List.mem_append.2 (.inl (List.mem_map_of_mem h))
theorem mem_allB_f {b : Nat} (h : n ∈ L) (hb : b ∈ n.f) : b ∈ allB L := List.mem_append.2 (.inr (List.mem_flatten.2 ⟨_, List.mem_map_of_mem h, hb⟩))
theorem allB_cons : (allB (n :: L)).Perm ((n.b :: n.f) ++ allB L) := by
  simp only [allB, List.map_cons, List.flatten_cons, List.cons_append]
  refine List.Perm.cons _ ?_
  rw [← List.append_assoc, ← List.append_assoc]
  exact List.Perm.append_right _ List.perm_append_comm
theorem allB_perm : (allB (A ++ B)).Perm (allB A ++ allB B) := by
  induction A with
  | nil => simp [allB]
  | cons n A ih =>
    refine allB_cons.trans ?_
    refine (List.Perm.append_left _ ih).trans ?_
    rw [← List.append_assoc]
    exact (List.Perm.append_right _ allB_cons.symm)
theorem allB_one : allB [n] = n.b :: n.f := by simp [allB]
/-- Writing the last link of A: the nodes C behind it. -/
theorem Ses.relink (h : Ses N w s hs up many (A ++ B)) (hC : ∀ n ∈ C, NodeOk w n) (hT : Tl w C nilp) (hn : (s :: (allB A ++ allB C)).Nodup) (hN : ∀ b ∈ allB C, N ≤ b) :
    Ses N (w.setCell (lastL s A) (hdv C nilp)) s hs up many (A ++ C) := by
  obtain ⟨h1, h2, h3, h4, h5⟩ := h
  have hnd : (s :: allB (A ++ C)).Nodup := (List.Perm.cons s allB_perm).nodup_iff.2 hn
  have hbd : ∀ b ∈ s :: allB (A ++ C), N ≤ b := fun b hb => by
    rcases List.mem_cons.1 hb with rfl | hb
    · exact h5 _ (by simp)
    · rcases List.mem_append.1 (allB_perm.mem_iff.1 hb) with hb | hb
      · exact h5 b (List.mem_cons_of_mem _ (allB_perm.mem_iff.2 (List.mem_append.2 (.inl hb))))
      · exact hN b hb
  rcases List.eq_nil_or_concat A with rfl | ⟨A', a, rfl⟩
  · have e : lastL s [] = ⟨s, 2, none⟩ := rfl
    rw [e]
    have h1' := h1.set 2 (hdv C nilp)
    have hs' : ∀ b ∈ allB C, (w.setCell ⟨s, 2, none⟩ (hdv C nilp)).heap[b]? = w.heap[b]? := fun b hb => Below.heap_setCell _ _ _ _ (fun e => by
      have := (List.nodup_cons.1 hn).1
      subst e; exact this (List.mem_append.2 (.inr hb)))
    exact ⟨h1', hT.frame fun n hn => hs' _ (mem_allB_b hn), fun n hn => (hC n hn).frame (hs' _ (mem_allB_b hn)) fun _ hb => hs' _ (mem_allB_f hn hb), hnd, hbd⟩
  · rw [List.concat_eq_append] at *
    have e : lastL s (A' ++ [a]) = ⟨a.b, 6, none⟩ := by simp [lastL]
    rw [e]
    have hn1 := List.nodup_cons.1 hn
    have hn2 := List.nodup_append.1 hn1.2
    have hp : (allB (A' ++ [a])).Perm (allB A' ++ (a.b :: a.f)) := by have := allB_perm (A := A') (B := [a]); rwa [allB_one] at this
    have hn3 := List.nodup_append.1 (hp.nodup_iff.1 hn2.1)
    have ha : a.b ∈ allB (A' ++ [a]) := mem_allB_b (by simp)
    have hsa : s ≠ a.b := fun e => hn1.1 (List.mem_append.2 (.inl (by rw [e]; exact ha)))
    have haf : a.b ∉ a.f := (List.nodup_cons.1 hn3.2.1).1
    have fr : ∀ b, b ≠ a.b → (w.setCell ⟨a.b, 6, none⟩ (hdv C nilp)).heap[b]? = w.heap[b]? := fun b hb => Below.heap_setCell _ _ _ _ hb
    have frA : ∀ b ∈ allB A', b ≠ a.b := fun b hb e => hn3.2.2 b hb a.b (by simp) e
    have frC : ∀ b ∈ allB C, b ≠ a.b := fun b hb e => hn2.2.2 a.b ha b hb e.symm
    obtain ⟨k1, k2⟩ := (h3 a (by simp)).link haf (hdv C nilp)
    rw [List.append_assoc, Tl_append] at h2
    have e2 : hdv (A' ++ [a] ++ C) nilp = hdv (A' ++ [a] ++ B) nilp := by
      cases A' <;> rfl
    refine ⟨?_, ?_, ?_, hnd, hbd⟩
    · rw [e2]
      exact h1.setOther _ hsa
    · rw [List.append_assoc, Tl_append]
      exact ⟨h2.1.frame fun n hn => fr _ (frA _ (mem_allB_b hn)), k2, hT.frame fun n hn => fr _ (frC _ (mem_allB_b hn))⟩
    · intro n hn'
      rcases List.mem_append.1 hn' with hn' | hn'
      · rcases List.mem_append.1 hn' with hn'' | hn''
        · exact (h3 n (by simp [hn''])).frame (fr _ (frA _ (mem_allB_b hn''))) fun _ hb => fr _ (frA _ (mem_allB_f hn'' hb))
        · simp only [List.mem_singleton] at hn''
          subst hn''
          exact k1
      · exact (hC n hn').frame (fr _ (frC _ (mem_allB_b hn'))) fun _ hb => fr _ (frC _ (mem_allB_f hn' hb))
theorem Ses.frame (h : Ses N w s hs up many L) (k : ∀ b ∈ s :: allB L, w'.heap[b]? = w.heap[b]?) : Ses N w' s hs up many L := by
  obtain ⟨h1, h2, h3, h4, h5⟩ := h
  exact ⟨h1.of_heap (k s (by simp)), h2.frame fun n hn => k _ (List.mem_cons_of_mem _ (mem_allB_b hn)), fun n hn => (h3 n hn).frame (k _ (List.mem_cons_of_mem _ (mem_allB_b hn))) fun _ hb => k _ (List.mem_cons_of_mem _ (mem_allB_f hn hb)), h4, h5⟩
theorem NodeOk.lt (h : NodeOk w n) : n.b < w.heap.size ∧ ∀ b ∈ n.f, b < w.heap.size := by
  obtain ⟨ys, nx, _, h2, h3⟩ := h
  exact ⟨h2.lt, Ow.lt h3⟩
theorem Ses.lt (h : Ses N w s hs up many L) : ∀ b ∈ s :: allB L, b < w.heap.size := fun b hb => by
  obtain ⟨h1, h2, h3, h4, h5⟩ := h
  rcases List.mem_cons.1 hb with rfl | hb
  · exact h1.lt
  · rcases List.mem_append.1 hb with hb | hb
    · obtain ⟨n, hn, rfl⟩ := List.mem_map.1 hb
      exact (h3 n hn).lt.1
    · obtain ⟨f, hf, hb⟩ := List.mem_flatten.1 hb
      obtain ⟨n, hn, rfl⟩ := List.mem_map.1 hf
      exact (h3 n hn).lt.2 b hb
theorem Ses.ext (h : Ses N w s hs up many L) (k : Ext w w') : Ses N w' s hs up many L := h.frame fun b hb => k.below.block b (h.lt b hb)
theorem Ses.base {M : Nat} (h : Ses N w s hs up many L) (k : M ≤ N) : Ses M w s hs up many L := ⟨h.1, h.2.1, h.2.2.1, h.2.2.2.1, fun b hb => Nat.le_trans k (h.2.2.2.2 b hb)⟩
theorem Ses.other (h : Ses N w s hs up many L) {a : Addr} (ha : a.block ∉ s :: allB L) (u : Value) : Ses N (w.setCell a u) s hs up many L := h.frame fun b hb => Below.heap_setCell _ _ _ _ (fun e => by subst e; exact ha hb)
theorem Ses.low (h : Ses N w s hs up many L) {a : Addr} (ha : a.block < N) (u : Value) : Ses N (w.setCell a u) s hs up many L := h.other (fun hb => by have := h.2.2.2.2 _ hb; omega) u
theorem Ses.start {M : Nat} (hM : M ≤ N) (hb : Blk w N 113 [.int .i64 hs, .bool up, .pointer none, .int .i64 many]) : Ses M w N hs up many [] :=
  ⟨hb, trivial, by simp, by simp [allB], fun b hb => by simp [allB] at hb; omega⟩
/-- A node more, behind A. -/
theorem Ses.insert (h : Ses N w s hs up many (A ++ B)) {ys : List Value} (hl : ys.length = 6) (hb : Blk w n.b 117 (ys ++ [hdv B nilp])) (ho : Ow.own w ys n.d n.f) (hf : n.f.Nodup) (hbf : n.b ∉ n.f) (hd : ∀ b ∈ n.b :: n.f, b ∉ s :: allB (A ++ B)) (hN : ∀ b ∈ n.b :: n.f, N ≤ b) :
    Ses N (w.setCell (lastL s A) (.pointer (some ⟨n.b, 0, none⟩))) s hs up many (A ++ n :: B) := by
  have hT := (Tl_append.1 h.2.1).2
  have hp := (List.Perm.cons s (allB_perm (A := A) (B := B))).nodup_iff.1 h.2.2.2.1
  refine h.relink (C := n :: B) (fun m hm => ?_) ⟨hb.cell (by rw [← hl]; simp), hT⟩ ?_ fun b hb' => ?_
  · rcases List.mem_cons.1 hm with rfl | hm
    · exact ⟨ys, _, hl, hb, ho⟩
    · exact h.2.2.1 m (by simp [hm])
  · have hq : (s :: (allB A ++ allB (n :: B))).Perm ((n.b :: n.f) ++ (s :: (allB A ++ allB B))) := by
      refine (List.Perm.cons s (List.Perm.append_left _ allB_cons)).trans ?_
      rw [← List.cons_append]
      refine (List.perm_append_comm_assoc _ _ _).trans ?_
      simp
    refine hq.nodup_iff.2 (List.nodup_append.2 ⟨List.nodup_cons.2 ⟨hbf, hf⟩, hp, fun x hx y hy e => hd x hx ?_⟩)
    subst e
    exact (List.Perm.cons s (allB_perm (A := A) (B := B))).mem_iff.2 hy
  · rcases List.mem_append.1 (allB_cons.mem_iff.1 hb') with hb' | hb'
    · exact hN b hb'
    · exact h.2.2.2.2 b (List.mem_cons_of_mem _ (allB_perm.mem_iff.2 (List.mem_append.2 (.inr hb'))))
/-- A node less, behind A. -/
theorem Ses.remove (h : Ses N w s hs up many (A ++ n :: B)) : Ses N (w.setCell (lastL s A) (hdv B nilp)) s hs up many (A ++ B) := by
  have hT := (Tl_append.1 h.2.1).2
  have hp := (List.Perm.cons s (allB_perm (A := A) (B := n :: B))).nodup_iff.1 h.2.2.2.1
  have hq : (s :: (allB A ++ allB (n :: B))).Perm ((n.b :: n.f) ++ (s :: (allB A ++ allB B))) := by
    refine (List.Perm.cons s (List.Perm.append_left _ allB_cons)).trans ?_
    rw [← List.cons_append]
    refine (List.perm_append_comm_assoc _ _ _).trans ?_
    simp
  refine h.relink (C := B) (fun m hm => h.2.2.1 m (by simp [hm])) hT.2 (List.nodup_append.1 (hq.nodup_iff.1 hp)).2.1 fun b hb' => ?_
  exact h.2.2.2.2 b (List.mem_cons_of_mem _ (allB_perm.mem_iff.2 (List.mem_append.2 (.inr (allB_cons.mem_iff.2 (List.mem_append.2 (.inr hb')))))))
/-- The node behind A. -/
theorem Ses.node (h : Ses N w s hs up many (A ++ n :: B)) : ∃ ys, ys.length = 6 ∧ Blk w n.b 117 (ys ++ [hdv B nilp]) ∧ Ow.own w ys n.d n.f ∧ w.cell? (lastL s A) = some (.pointer (some ⟨n.b, 0, none⟩)) := by
  obtain ⟨h1, h2, h3, h4, h5⟩ := h
  obtain ⟨k1, k2, _⟩ := Tl_append.1 h2
  obtain ⟨ys, nx, z1, z2, z3⟩ := h3 n (by simp)
  have e := z2.cell? 6
  rw [k2] at e
  have e' : (ys ++ [nx])[6]? = some nx := by rw [← z1]; simp
  rw [e'] at e
  obtain rfl := Option.some.inj e
  refine ⟨ys, z1, z2, z3, ?_⟩
  rcases List.eq_nil_or_concat A with rfl | ⟨A', a, rfl⟩
  · exact h1.cell (j := 2) rfl
  · rw [List.concat_eq_append] at *
    have e : lastL s (A' ++ [a]) = ⟨a.b, 6, none⟩ := by simp [lastL]
    rw [e]
    exact (Tl_append.1 k1).2.1
theorem Ses.at_end (h : Ses N w s hs up many A) : w.cell? (lastL s A) = some (.pointer none) := by
  obtain ⟨h1, h2, h3, h4, h5⟩ := h
  rcases List.eq_nil_or_concat A with rfl | ⟨A', a, rfl⟩
  · exact h1.cell (j := 2) rfl
  · rw [List.concat_eq_append] at *
    have e : lastL s (A' ++ [a]) = ⟨a.b, 6, none⟩ := by simp [lastL]
    rw [e]
    exact (Tl_append.1 h2).2.1
theorem lastL_snoc : lastL s (A ++ [n]) = ⟨n.b, 6, none⟩ := by simp [lastL]
theorem lastL_nil : lastL s [] = ⟨s, 2, none⟩ := rfl
end

end Go.Proofs.YtlehcnfmagjilaaGreatDoor
