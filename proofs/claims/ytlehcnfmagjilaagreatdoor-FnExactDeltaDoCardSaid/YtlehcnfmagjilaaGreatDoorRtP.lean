/- Routing tables with a route more: facts. No condition. -/
import Derived.Test.YtlehcnfmagjilaaGreatDoorRdP
namespace Go.Proofs.YtlehcnfmagjilaaGreatDoor
open Go Go.RowKit

/-- x, put ahead of the first element with the mark q; nothing, if there is none. -/
def insB {α : Type} (q : α → Bool) (x : α) : List α → List α
  | [] => []
  | g :: t => if q g = true then x :: g :: t else g :: insB q x t
def insR {α : Type} (q : α → Bool) (x : α) (l : List α) : List α := if l.any q = true then insB q x l else l ++ [x]
section
variable {α : Type} {q : α → Bool} {x g : α} {l m A B : List α}
theorem insB_no (h : l.any q = false) : insB q x l = l := by
  induction l with
  | nil => rfl
  | cons g t ih =>
    rw [List.any_cons, Bool.or_eq_false_iff] at h
    rw [insB, if_neg (by rw [h.1]; simp), ih h.2]
theorem insB_app_no (h : l.any q = false) : insB q x (l ++ m) = l ++ insB q x m := by
  induction l with
  | nil => rfl
  | cons g t ih =>
    rw [List.any_cons, Bool.or_eq_false_iff] at h
    rw [List.cons_append, insB, if_neg (by rw [h.1]; simp), ih h.2, List.cons_append]
theorem insB_app_yes (h : l.any q = true) : insB q x (l ++ m) = insB q x l ++ m := by
  induction l with
  | nil => simp at h
  | cons g t ih =>
    cases hq : q g
    · rw [List.any_cons, hq, Bool.false_or] at h
      rw [List.cons_append, insB, if_neg (by rw [hq]; simp), ih h, insB, if_neg (by rw [hq]; simp), List.cons_append]
    · rw [List.cons_append, insB, if_pos hq, insB, if_pos hq]; rfl
theorem insB_one (h : q g = true) : insB q x [g] = [x, g] := by rw [insB, if_pos h]
theorem insB_len : (insB q x l).length ≤ l.length + 1 := by
  induction l with
  | nil => simp [insB]
  | cons g t ih => rw [insB]; split <;> simp <;> omega
theorem insR_len : (insR q x l).length ≤ l.length + 1 := by
  unfold insR; split
  · exact insB_len
  · simp
theorem insR_nil (hA : A.any q = false) : insR q x A = A ++ [x] := by unfold insR; rw [hA]; rfl
theorem insR_cons (hA : A.any q = false) (hg : q g = true) : insR q x (A ++ g :: B) = A ++ x :: g :: B := by
  unfold insR
  rw [List.any_append, List.any_cons, hg, hA]
  simp only [Bool.false_or, Bool.true_or, if_true]
  rw [insB_app_no hA, insB, if_pos hg]
end
/-- Behind x, by their ranges. -/
def gtR (x : Rg) (g : Gt) : Bool := decide (0 < rc g.route.r x)

noncomputable def ribTell (d : Rb) (x : Rt) : Rb × Bool :=
  if (ribOk d && (rtOk x && decide (x.path[0]? = some d.house))) = true then
    (if (!d.up || (!d.all.any (gotR x.r) && decide (6 ≤ d.all.length))) = true then (d, false)
     else if d.all.any (gotR x.r) = true then (⟨d.house, d.up, d.all.set (findI (gotR x.r) d.all).toNat ⟨x, false⟩⟩, true)
     else (⟨d.house, d.up, insR (gtR x.r) ⟨x, false⟩ d.all⟩, true))
  else (rb0, false)
section
variable {d : Rb} {x : Rt} {i : Nat}
theorem tell_no (h : (ribOk d && (rtOk x && decide (x.path[0]? = some d.house))) = false) : ribTell d x = (rb0, false) := by unfold ribTell; rw [h]; rfl
theorem tell_same (h : (ribOk d && (rtOk x && decide (x.path[0]? = some d.house))) = true) (h' : (!d.up || (!d.all.any (gotR x.r) && decide (6 ≤ d.all.length))) = true) : ribTell d x = (d, false) := by unfold ribTell; rw [h, h']; rfl
theorem tell_set (h : (ribOk d && (rtOk x && decide (x.path[0]? = some d.house))) = true) (hu : d.up = true) (ha : d.all.any (gotR x.r) = true) (hi : findI (gotR x.r) d.all = (i : Int)) : ribTell d x = (⟨d.house, true, d.all.set i ⟨x, false⟩⟩, true) := by
  unfold ribTell; rw [h, hu, ha, hi]; rfl
theorem tell_ins (h : (ribOk d && (rtOk x && decide (x.path[0]? = some d.house))) = true) (hu : d.up = true) (ha : d.all.any (gotR x.r) = false) (h6 : d.all.length < 6) : ribTell d x = (⟨d.house, true, insR (gtR x.r) ⟨x, false⟩ d.all⟩, true) := by
  unfold ribTell
  rw [h, hu, ha, decide_eq_false (show ¬ 6 ≤ d.all.length by omega)]; rfl
end

theorem take_setL {cs ys : List Value} {o m : Nat} (h : o + ys.length ≤ m) (hm : m ≤ cs.length) : (setL cs o ys).take m = setL (cs.take m) o ys := by
  refine List.ext_getElem? fun j => ?_
  rw [List.getElem?_take]
  have hlen : (cs.take m).length = m := by rw [List.length_take]; omega
  split
  · rename_i hj
    rcases Nat.lt_or_ge j o with h1 | h1
    · rw [setL_lt _ _ _ _ h1, setL_lt _ _ _ _ h1, List.getElem?_take, if_pos hj]
    · rcases Nat.lt_or_ge j (o + ys.length) with h2 | h2
      · obtain ⟨t, rfl⟩ : ∃ t, j = o + t := ⟨j - o, by omega⟩
        rw [setL_at _ _ _ _ (by omega) (by omega), setL_at _ _ _ _ (by omega) (by omega)]
      · rw [setL_ge _ _ _ _ h2, setL_ge _ _ _ _ h2, List.getElem?_take, if_pos hj]
  · rename_i hj
    exact (List.getElem?_eq_none (by rw [length_setL, hlen]; omega)).symm
theorem setL_head {us bs ys : List Value} (h : us.length = ys.length) : setL (us ++ bs) 0 ys = ys ++ bs := by
  refine List.ext_getElem? fun j => ?_
  rcases Nat.lt_or_ge j ys.length with h1 | h1
  · have := setL_at ys (us ++ bs) 0 j (by rw [List.length_append]; omega) h1
    rw [Nat.zero_add] at this
    rw [this, List.getElem?_append_left h1]
  · rw [setL_ge _ _ _ _ (by omega), List.getElem?_append_right (by omega), List.getElem?_append_right h1, h]
theorem fl_set {fps : List (List Nat)} {i : Nat} {f : List Nat} (hi : i < fps.length) (h : fps.flatten.Nodup) (hf : f.Nodup) (hd : ∀ b ∈ f, b ∉ fps.flatten) : (fps.set i f).flatten.Nodup ∧ ∀ b ∈ (fps.set i f).flatten, b ∈ f ∨ b ∈ fps.flatten := by
  have e : fps.set i f = fps.take i ++ f :: fps.drop (i + 1) := by rw [List.set_eq_take_append_cons_drop, if_pos hi]
  obtain ⟨k1, k2, k3⟩ := fl_split h i
  rw [e, List.flatten_append, List.flatten_cons]
  refine ⟨List.nodup_append.2 ⟨k1, List.nodup_append.2 ⟨hf, k2, fun a ha b hb e => ?_⟩, fun a ha b hb e => ?_⟩, fun b hb => ?_⟩
  · subst e; exact hd a ha (fl_drop _ _ a hb)
  · subst e
    rcases List.mem_append.1 hb with hb | hb
    · exact hd a hb (fl_take _ _ a ha)
    · exact k3 a hb ha
  · rcases List.mem_append.1 hb with hb | hb
    · exact .inr (fl_take _ _ b hb)
    · rcases List.mem_append.1 hb with hb | hb
      · exact .inl hb
      · exact .inr (fl_drop _ _ b hb)

theorem AccO.put {α : Type} [Lay α] [Ow α] {N : Nat} {e : TypeId} {w : World} {l : List α} {fps : List (List Nat)} {g n c i : Nat} (h : AccO N e w (.slice (some ⟨g, 0, none⟩) n c) l fps) (hi : i < l.length) {d : α} {f : List Nat} {ys : List Value} (hy : ys.length = Lay.n α) (ho : Ow.own w ys d f) (hf : f.Nodup) (hd : ∀ b ∈ f, b ≠ g ∧ b ∉ fps.flatten) :
    AccO N e (setW w g (i * Lay.n α) ys) (.slice (some ⟨g, 0, none⟩) n c) (l.set i d) (fps.set i f) := by
  have hlow := (h.low g rfl).1
  obtain ⟨xs, h1, h2, h3, h4⟩ := h
  obtain ⟨a', c', e1, hlc, hcm, _⟩ := ownsRow_shape h1
  simp only [Value.slice.injEq] at e1
  obtain ⟨rfl, rfl, rfl⟩ := e1
  obtain ⟨g', cur, e2, hb, hl, ht⟩ := ownsRow_cur h1 (by omega)
  simp only [Option.some.injEq, Addr.mk.injEq, and_true] at e2
  subst e2
  have hxl : xs.length = l.length * Lay.n α := h2.1
  have hroom : i * Lay.n α + ys.length ≤ l.length * Lay.n α := by
    have := Nat.mul_le_mul_right (Lay.n α) (show i + 1 ≤ l.length from hi)
    rw [Nat.add_mul, Nat.one_mul] at this
    rw [hy]
    exact this
  have hcur : l.length * Lay.n α ≤ cur.length := by rw [hl]; exact Nat.mul_le_mul_right _ hlc
  have hne : ∀ b ∈ fps.flatten, b ≠ g := fun b hb e => h4 b hb (by rw [e]; rfl)
  obtain ⟨k1, k2⟩ := fl_set (by rw [h2.2.1]; exact hi) h3 hf (fun b hb => (hd b hb).2)
  have h2' := RowOw.set (h2.frame (w' := setW w g (i * Lay.n α) ys) fun b hb => heap_setW ys _ b (hne b hb)) hi (Ow.frame ho fun b hb => heap_setW ys _ b (hd b hb).1) hy
  refine ⟨setL xs (i * Lay.n α) ys, ?_, h2', k1, fun b hb e => ?_⟩
  · rw [List.length_set]
    refine ownsRow_of hlow (hb.setW ys _) (by rw [length_setL]; exact hl) hlc hcm (by rw [length_setL]; exact hxl) ?_
    rw [take_setL hroom hcur, ht]
  · have e : g = b := Option.some.inj e
    rcases k2 b hb with hb | hb
    · exact (hd b hb).1 e.symm
    · exact hne b hb e.symm

theorem Ses.setGot {N : Nat} {w : World} {s : Nat} {hs many : Int} {up : Bool} {A B : List Nd} {n : Nd} {d : Gt} {f : List Nat} {ys : List Value} (h : Ses N w s hs up many (A ++ n :: B)) (hl : ys.length = 6) (ho : Ow.own w ys d f) (hf : f.Nodup) (hd : ∀ b ∈ f, b ∉ s :: allB (A ++ n :: B)) (hN : ∀ b ∈ f, N ≤ b) :
    Ses N (setW w n.b 0 ys) s hs up many (A ++ ⟨n.b, d, f⟩ :: B) := by
  obtain ⟨h1, h2, h3, h4, h5⟩ := h
  have hq : (s :: allB (A ++ n :: B)).Perm (s :: (allB A ++ ((n.b :: n.f) ++ allB B))) := List.Perm.cons s (allB_perm.trans (List.Perm.append_left _ allB_cons))
  have hq' : (s :: allB (A ++ ⟨n.b, d, f⟩ :: B)).Perm (s :: (allB A ++ ((n.b :: f) ++ allB B))) := List.Perm.cons s (allB_perm.trans (List.Perm.append_left _ allB_cons))
  have hnd := hq.nodup_iff.1 h4
  have n1 := List.nodup_cons.1 hnd
  have n2 := List.nodup_append.1 n1.2
  have n3 := List.nodup_append.1 n2.2.1
  have n4 := List.nodup_cons.1 n3.1
  have hd' : ∀ b ∈ f, b ≠ s ∧ b ∉ allB A ∧ b ≠ n.b ∧ b ∉ allB B := fun b hb => by
    have hm := hd b hb
    rw [hq.mem_iff] at hm
    simp only [List.mem_cons, List.mem_append, not_or] at hm
    exact ⟨hm.1, hm.2.1, hm.2.2.1.1, hm.2.2.2⟩
  have hsn : s ≠ n.b := fun e => n1.1 (by rw [e]; simp)
  have frA : ∀ b ∈ allB A, b ≠ n.b := fun b hb e => n2.2.2 b hb n.b (by simp) e
  have frB : ∀ b ∈ allB B, b ≠ n.b := fun b hb e => n3.2.2 n.b (by simp) b hb e.symm
  have fr : ∀ b, b ≠ n.b → (setW w n.b 0 ys).heap[b]? = w.heap[b]? := fun b hb => heap_setW ys 0 b hb
  obtain ⟨zs, nx, k1, k2, k3⟩ := h3 n (by simp)
  have k2' := k2.setW ys 0
  rw [setL_head (by rw [k1, hl])] at k2'
  obtain ⟨t1, t2, t3⟩ : Tl w A (hdv (n :: B) nilp) ∧ w.cell? ⟨n.b, 6, none⟩ = some (hdv B nilp) ∧ Tl w B nilp := Tl_append.1 h2
  have enx : nx = hdv B nilp := by
    have := k2.cell (j := 6) (show (zs ++ [nx])[6]? = some nx by rw [← k1]; simp)
    exact Option.some.inj (this.symm.trans t2)
  have eh : hdv (A ++ ⟨n.b, d, f⟩ :: B) nilp = hdv (A ++ n :: B) nilp := by cases A <;> rfl
  refine ⟨?_, Tl_append.2 ⟨t1.frame fun m hm => fr _ (frA _ (mem_allB_b hm)), ?_, t3.frame fun m hm => fr _ (frB _ (mem_allB_b hm))⟩, fun m hm => ?_, ?_, fun b hb => ?_⟩
  · rw [eh]; exact h1.of_heap (fr s hsn)
  · exact (k2'.cell (j := 6) (show (ys ++ [nx])[6]? = some nx by rw [← hl]; simp)).trans (by rw [enx])
  · rcases List.mem_append.1 hm with hm | hm
    · exact (h3 m (by simp [hm])).frame (fr _ (frA _ (mem_allB_b hm))) fun b hb => fr _ (frA _ (mem_allB_f hm hb))
    · rcases List.mem_cons.1 hm with rfl | hm
      · exact ⟨ys, nx, hl, k2', Ow.frame ho fun b hb => fr _ (hd' b hb).2.2.1⟩
      · exact (h3 m (by simp [hm])).frame (fr _ (frB _ (mem_allB_b hm))) fun b hb => fr _ (frB _ (mem_allB_f hm hb))
  · refine hq'.nodup_iff.2 (List.nodup_cons.2 ⟨fun hm => ?_, List.nodup_append.2 ⟨n2.1, List.nodup_append.2 ⟨List.nodup_cons.2 ⟨fun hm => (hd' _ hm).2.2.1 rfl, hf⟩, n3.2.1, fun a ha b hb e => ?_⟩, fun a ha b hb e => ?_⟩⟩)
    · simp only [List.mem_append, List.mem_cons] at hm
      rcases hm with hm | (hm | hm) | hm
      · exact n1.1 (by simp [hm])
      · exact hsn hm
      · exact (hd' _ hm).1 rfl
      · exact n1.1 (by simp [hm])
    · subst e
      rcases List.mem_cons.1 ha with rfl | ha
      · exact frB _ hb rfl
      · exact (hd' a ha).2.2.2 hb
    · subst e
      simp only [List.mem_append, List.mem_cons] at hb
      rcases hb with (hb | hb) | hb
      · exact frA a ha hb
      · exact (hd' a hb).2.1 ha
      · exact n2.2.2 a ha a (by simp [hb]) rfl
  · rw [hq'.mem_iff] at hb
    simp only [List.mem_cons, List.mem_append] at hb
    rcases hb with rfl | hb | (hb | hb) | hb
    · exact h5 _ (by simp)
    · exact h5 b (by rw [hq.mem_iff]; simp [hb])
    · exact h5 b (by rw [hq.mem_iff]; simp [hb])
    · exact hN b hb
    · exact h5 b (by rw [hq.mem_iff]; simp [hb])

end Go.Proofs.YtlehcnfmagjilaaGreatDoor
