/- Routing tables without a route: facts. No condition. -/
import Derived.Test.YtlehcnfmagjilaaGreatDoorRibU
import Derived.Test.YtlehcnfmagjilaaGreatDoorRcP
import Derived.Test.YtlehcnfmagjilaaGreatDoorFloat
namespace Go.Proofs.YtlehcnfmagjilaaGreatDoor
open Go Go.RowKit

theorem neqS_Rg' (d d' : Rg) (w : World) : (binOp .neq 38 (.agg #[.int .i64 d.f, .int .i64 d.b]) (.agg #[.int .i64 d'.f, .int .i64 d'.b])).run Tryz.prog w = .ok (.bool (!decide (d = d'))) w := by
  rw [run_neq_struct]
  simp [go_sem]
  by_cases h1 : d.f = d'.f <;> by_cases h2 : d.b = d'.b <;> simp [h1, h2, Rg_eq]

noncomputable def ribDrop (d : Rb) (x : Rg) : Rb × Bool :=
  if (ribOk d && rok x.f x.b) = true then
    (if (d.up && d.all.any (gotR x)) = true then (⟨d.house, d.up, d.all.take (findI (gotR x) d.all).toNat ++ d.all.drop ((findI (gotR x) d.all).toNat + 1)⟩, true) else (d, false))
  else (rb0, false)
section
variable {d : Rb} {x : Rg} {i : Nat}
theorem drop_no (h : (ribOk d && rok x.f x.b) = false) : ribDrop d x = (rb0, false) := by unfold ribDrop; rw [h]; rfl
theorem drop_same (h : (ribOk d && rok x.f x.b) = true) (h' : (d.up && d.all.any (gotR x)) = false) : ribDrop d x = (d, false) := by unfold ribDrop; rw [h, h']; rfl
theorem drop_yes (h : (ribOk d && rok x.f x.b) = true) (h' : (d.up && d.all.any (gotR x)) = true) (hi : findI (gotR x) d.all = (i : Int)) : ribDrop d x = (⟨d.house, d.up, d.all.take i ++ d.all.drop (i + 1)⟩, true) := by unfold ribDrop; rw [h, h', hi]; rfl
end
section
variable {α : Type} [Lay α] [Ow α] {N : Nat} {e : TypeId} {w w' : World} {v : Value} {l l' : List α} {fps fqs : List (List Nat)}
theorem AccO.apps {v' : Value} {xs C : List Value} (h1 : w'.ownsRow N e (Lay.n α) v' (l.length + l'.length) (xs ++ C)) (h2 : RowOw w xs l fps) (h3 : fps.flatten.Nodup) (h4 : ∀ b ∈ fps.flatten, v.ownBlock ≠ some b)
    (hg : w.grownBy w' v.ownBlock) (hv : v'.ownBlock = v.ownBlock ∨ v'.ownBlock = some w.heap.size) (hd : RowOw w C l' fqs) (hf : fqs.flatten.Nodup) (hf' : ∀ b ∈ fqs.flatten, v.ownBlock ≠ some b ∧ b ∉ fps.flatten) : AccO N e w' v' (l ++ l') (fps ++ fqs) := by
  have hall : ∀ b ∈ (fps ++ fqs).flatten, v.ownBlock ≠ some b ∧ b < w.heap.size := fun b hb => by
    rw [List.flatten_append, List.mem_append] at hb
    rcases hb with hb | hb
    · exact ⟨h4 b hb, h2.lt b hb⟩
    · exact ⟨(hf' b hb).1, hd.lt b hb⟩
  refine ⟨xs ++ C, by rw [List.length_append]; exact h1, ((h2.append hd).frame fun b hb => hg.block b (hall b hb).2 (fun e => (hall b hb).1 e.symm)), ?_, fun b hb e => ?_⟩
  · rw [List.flatten_append]
    exact List.nodup_append.2 ⟨h3, hf, fun a ha b hb e => (hf' b hb).2 (e ▸ ha)⟩
  · obtain ⟨k1, k2⟩ := hall b hb
    rcases hv with hv | hv
    · exact k1 (hv.symm.trans e)
    · rw [hv] at e
      have := Option.some.inj e
      omega
theorem wpList_pushR [OneC α] {P : Program} {ops : Array Oper} {rest : List Oper} {o : Oper} {a : Act} {Q : Exit → Act → World → Prop} (hgd : o.guard = none) (s x : Operand) {t : TypeId} (ho : o.op = .call { callee := .builtin .append, args := #[s, x], argTypes := #[t, t] })
    {bytes m c : Nat} {ax : Option Addr} (hT : TyI P t e (Lay.n α) bytes) (hby : bytes ≤ 1000) (hs : a.eval s = v) (h : AccO N e w v l fps) (hlen : l.length ≤ 1000000) {C : List Value} (hx : a.eval x = .slice ax m c) (hmc : m ≤ c) (hc : ax = none → c = 0) (hC : Src w ax C) (hd : RowOw w C l' fqs) (hm : l'.length = m) (hm2 : m ≤ 1000000)
    (hf : fqs.flatten.Nodup) (hf' : ∀ b ∈ fqs.flatten, v.ownBlock ≠ some b ∧ b ∉ fps.flatten) (hN : N ≤ w.heap.size)
    (h : ∀ v' w', AccO N e w' v' (l ++ l') (fps ++ fqs) → w.grownBy w' v.ownBlock → (∀ w0, Ext w0 w → w0.heap.size ≤ N → Ext w0 w') → (v'.ownBlock = v.ownBlock ∨ v'.ownBlock = some w.heap.size) → wpList P ops Q rest (a.put o.dst v') w') : wpList P ops Q (o :: rest) a w := by
  obtain ⟨xs, h1, h2, h3, h4⟩ := ‹AccO N e w v l fps›
  have hcl : C.length = m * Lay.n α := by rw [hd.1, hm]
  refine wpList_app hgd s x ho hT hs h1 hx hmc hc hcl hC hd.rd.one (by unfold maxLen; omega) ?_ hN fun v1 w1 hw1 hg1 hb1 =>
    h v1 w1 (AccO.apps (by rw [hm]; exact hw1) h2 h3 h4 hg1 hb1 hd hf hf') hg1 (fun w0 hE0 hb0 => Ext.by hE0 hg1 fun j hj => Nat.le_trans hb0 (h1.lt j hj).1) hb1
  have h1 := Nat.mul_le_mul_left (l.length + m) hby
  have h2 := Nat.mul_le_mul_right 1000 (show l.length + m ≤ 2000000 by omega)
  omega
/-- Parts of an own slice, to be moved. -/
theorem AccO.part {a : Option Addr} {n c : Nat} (h : AccO N e w (.slice a n c) l fps) (h0 : 0 < l.length) : ∃ (g : Nat) (xs : List Value), a = some ⟨g, 0, none⟩ ∧ n = l.length ∧ n ≤ c ∧ N ≤ g ∧ g < w.heap.size ∧ Src w (some ⟨g, 0, none⟩) xs ∧ RowOw w xs l fps ∧ fps.flatten.Nodup ∧ (∀ b ∈ fps.flatten, g ≠ b) := by
  obtain ⟨xs, h1, h2, h3, h4⟩ := h
  obtain ⟨a', c', e1, hlc, hcm, _⟩ := ownsRow_shape h1
  simp only [Value.slice.injEq] at e1
  obtain ⟨rfl, rfl, rfl⟩ := e1
  obtain ⟨g, cur, rfl, hb, hl, ht⟩ := ownsRow_cur h1 h0
  have hlow := h1.lt g rfl
  refine ⟨g, xs, rfl, rfl, hlc, hlow.1, hlow.2, ?_, h2, h3, fun b hb e => h4 b hb (by rw [e]; rfl)⟩
  intro j u hu
  refine ⟨g, 0, rfl, ?_⟩
  rw [Nat.zero_add]
  refine hb.cell (j := j) ?_
  rw [← ht, List.getElem?_take] at hu
  split at hu
  · exact hu
  · cases hu
theorem fl_take (fps : List (List Nat)) (k : Nat) : ∀ b ∈ (fps.take k).flatten, b ∈ fps.flatten := fun b hb => by
  obtain ⟨f, hf, hb⟩ := List.mem_flatten.1 hb
  exact List.mem_flatten.2 ⟨f, List.mem_of_mem_take hf, hb⟩
theorem fl_drop (fps : List (List Nat)) (k : Nat) : ∀ b ∈ (fps.drop k).flatten, b ∈ fps.flatten := fun b hb => by
  obtain ⟨f, hf, hb⟩ := List.mem_flatten.1 hb
  exact List.mem_flatten.2 ⟨f, List.mem_of_mem_drop hf, hb⟩
theorem fl_split {fps : List (List Nat)} (h : fps.flatten.Nodup) (k : Nat) : (fps.take k).flatten.Nodup ∧ (fps.drop (k + 1)).flatten.Nodup ∧ ∀ b ∈ (fps.drop (k + 1)).flatten, b ∉ (fps.take k).flatten := by
  have e : fps.flatten = (fps.take (k + 1)).flatten ++ (fps.drop (k + 1)).flatten := by rw [← List.flatten_append, List.take_append_drop]
  have e2 : fps.flatten = (fps.take k).flatten ++ (fps.drop k).flatten := by rw [← List.flatten_append, List.take_append_drop]
  have h1 := List.nodup_append.1 (e ▸ h)
  have h2 := List.nodup_append.1 (e2 ▸ h)
  refine ⟨h2.1, h1.2.1, fun b hb hb' => h1.2.2 b ?_ b hb rfl⟩
  obtain ⟨f, hf, hb2⟩ := List.mem_flatten.1 hb'
  refine List.mem_flatten.2 ⟨f, ?_, hb2⟩
  obtain ⟨i, hi, rfl⟩ := List.mem_take_iff_getElem.1 hf
  exact List.mem_take_iff_getElem.2 ⟨i, by omega, rfl⟩
end

end Go.Proofs.YtlehcnfmagjilaaGreatDoor
