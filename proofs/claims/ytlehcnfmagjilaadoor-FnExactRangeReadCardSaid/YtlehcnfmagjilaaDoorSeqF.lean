/- Regions that draw where a new block is laid: walked in the order of the text, each call in whatever later world. No condition. -/
import Derived.Test.YtlehcnfmagjilaaDoorSeqS
import Derived.Test.YtlehcnfmagjilaaDoorBlk
namespace Go.Proofs.YtlehcnfmagjilaaDoor
open Go Go.RowKit

def allocB : Op → Bool
  | .alloc _ => true
  | _ => false
/-- A call: neither a reading, nor a new block, nor a store. -/
def actB (o : Op) : Bool := !pureB o && (!allocB o && !brkB o)
/-- No block to come is barred. -/
def Dok (D : Nat → Prop) (w : World) : Prop := ∀ B, w.heap.size ≤ B → D B

section
variable {P : Program} {ops : Array Oper} {md : Region.Mode} {W : World}

/-- Operation o comes up. -/
def fStep (P : Program) (ops : Array Oper) (W : World) (o : Oper) (K : Act → (Nat → Prop) → World → Prop) (a : Act) (D : Nat → Prop) (w : World) : Prop :=
  if Region.wanted o (yielded ops a.tmps) then
    (if pureB o.op then ∃ v, sits P o a (Ext W) v ∧ K (a.put o.dst v) D w
    else if allocB o.op then ∃ (t : TypeId) (Z : Array Value), (∀ w, (execOp a.eval o).run P w = .ok (.value (.pointer (some ⟨w.heap.size, 0, none⟩))) (w.alloc (.cells Z t))) ∧
      ∀ B w', Ext w w' → Blk w' B t Z.toList → W.heap.size ≤ B → D B → K (a.put o.dst (.pointer (some ⟨B, 0, none⟩))) D w'
    else if brkB o.op then goes P o a w fun v w' => Ext W w' ∧ K (a.put o.dst v) (fun _ => True) w'
    else ∀ w1, Ext w w1 → goes P o a w1 fun v w2 => Ext w1 w2 ∧ K (a.put o.dst v) (fun B => D B ∧ (B < w1.heap.size ∨ w2.heap.size ≤ B)) w2)
  else K (a.put o.dst undef) D w
def fOp (P : Program) (ops : Array Oper) (W : World) (i : Nat) (K : Act → (Nat → Prop) → World → Prop) (a : Act) (D : Nat → Prop) (w : World) : Prop :=
  match ops[i]? with
  | none => K a D w
  | some o => fStep P ops W o K a D w
def wpAnyF (P : Program) (md : Region.Mode) (ops : Array Oper) (W : World) (Q : Act → World → Prop) : Nat → Array Bool → Act → (Nat → Prop) → World → Prop
  | 0, listed, a, _, w => Region.ready md ops listed = [] ∧ Q a w
  | fuel + 1, listed, a, D, w => (Region.ready md ops listed = [] → Q a w) ∧ ∀ i ∈ Region.ready md ops listed, fOp P ops W i (wpAnyF P md ops W Q fuel (listed.setIfInBounds i true)) a D w

theorem Dok.later {D : Nat → Prop} {w w' : World} (h : Dok D w) (k : Ext w w') : Dok D w' := fun B hB => h B (Nat.le_trans k.size hB)
theorem fStep_mono {o : Oper} {a : Act} {D : Nat → Prop} {w : World} {K K' : Act → (Nat → Prop) → World → Prop} (hC : Ext W w) (hD : Dok D w) (h : ∀ a D w, Ext W w → Dok D w → K a D w → K' a D w) (hh : fStep P ops W o K a D w) : fStep P ops W o K' a D w := by
  unfold fStep at *
  split
  · rename_i hw
    rw [if_pos hw] at hh
    split
    · rename_i hp; rw [if_pos hp] at hh; obtain ⟨v, h1, h2⟩ := hh; exact ⟨v, h1, h _ _ _ hC hD h2⟩
    · rename_i hp; rw [if_neg hp] at hh
      split
      · rename_i ha; rw [if_pos ha] at hh
        obtain ⟨t, Z, h1, h2⟩ := hh
        exact ⟨t, Z, h1, fun B w' he hb hwb hd => h _ _ _ (hC.trans he) (hD.later he) (h2 B w' he hb hwb hd)⟩
      · rename_i ha; rw [if_neg ha] at hh
        split
        · rename_i hb; rw [if_pos hb] at hh
          exact goes_mono (fun v w' ⟨h1, h2⟩ => ⟨h1, h _ _ _ h1 (fun _ _ => trivial) h2⟩) hh
        · rename_i hb; rw [if_neg hb] at hh
          exact fun w1 he => goes_mono (fun v w2 ⟨h1, h2⟩ => ⟨h1, h _ _ _ ((hC.trans he).trans h1) (fun B hB => ⟨hD B (Nat.le_trans (he.trans h1).size hB), .inr hB⟩) h2⟩) (hh w1 he)
  · rename_i hw; rw [if_neg hw] at hh; exact h _ _ _ hC hD hh
theorem fOp_mono {i : Nat} {a : Act} {D : Nat → Prop} {w : World} {K K' : Act → (Nat → Prop) → World → Prop} (hC : Ext W w) (hD : Dok D w) (h : ∀ a D w, Ext W w → Dok D w → K a D w → K' a D w) (hh : fOp P ops W i K a D w) : fOp P ops W i K' a D w := by
  unfold fOp at *
  split
  · rename_i ho; rw [ho] at hh; exact h _ _ _ hC hD hh
  · rename_i o ho; rw [ho] at hh; exact fStep_mono hC hD h hh
theorem fStep_some {o : Oper} {a : Act} {D : Nat → Prop} {w : World} {K : Act → (Nat → Prop) → World → Prop} (hC : Ext W w) (hD : Dok D w) (hh : fStep P ops W o K a D w) : ∃ v D' w', Ext W w' ∧ K (a.put o.dst v) D' w' := by
  unfold fStep at hh
  split at hh
  · split at hh
    · obtain ⟨v, _, h⟩ := hh; exact ⟨_, _, _, hC, h⟩
    · split at hh
      · obtain ⟨t, Z, _, h⟩ := hh
        exact ⟨_, _, _, hC.alloc _, h w.heap.size _ ((Ext.refl w).alloc _) (Blk.new w Z t) hC.size (hD _ (Nat.le_refl _))⟩
      · split at hh
        · obtain ⟨v, w', h1, h⟩ := goes_some hh; exact ⟨_, _, _, h1, h⟩
        · obtain ⟨v, w', h1, h⟩ := goes_some (hh w (Ext.refl w)); exact ⟨_, _, _, hC.trans h1, h⟩
  · exact ⟨_, _, _, hC, hh⟩
theorem fOp_some {i : Nat} {a : Act} {D : Nat → Prop} {w : World} {K : Act → (Nat → Prop) → World → Prop} (hC : Ext W w) (hD : Dok D w) (hh : fOp P ops W i K a D w) : ∃ a' D' w', K a' D' w' := by
  unfold fOp at hh
  split at hh
  · exact ⟨_, _, _, hh⟩
  · obtain ⟨v, D', w', _, h⟩ := fStep_some hC hD hh
    exact ⟨_, _, _, h⟩

theorem wpOp_of_fOp {Q' : Exit → Act → World → Prop} {i : Nat} {a : Act} {D : Nat → Prop} {w : World} {K : Act → (Nat → Prop) → World → Prop} {K' : Act → World → Prop} (hC : Ext W w) (hD : Dok D w) (h : ∀ a D w, Ext W w → Dok D w → K a D w → K' a w) (hh : fOp P ops W i K a D w) : wpOp P ops Q' i K' a w := by
  unfold fOp at hh
  unfold wpOp
  split
  · rename_i ho; rw [ho] at hh; exact h _ _ _ hC hD hh
  · rename_i o ho
    rw [ho] at hh
    have hh : fStep P ops W o K a D w := hh
    unfold fStep at hh
    split
    · rename_i hw
      rw [if_pos hw] at hh
      refine .inl ?_
      unfold Oper.wp
      split at hh
      · obtain ⟨v, h1, h2⟩ := hh
        have h3 := h1 w hC
        generalize (execOp a.eval o).run P w = r at *
        cases r with
        | ok n w' =>
          cases n <;> simp only [sitsUpon] at h3 <;> simp only [Oper.upon]
          · rw [h3.1, h3.2]; exact h _ _ _ hC hD h2
          · rw [h3.1, ← h3.2]; exact h _ _ _ hC hD h2
        | halt x w' => simp only [sitsUpon] at h3
      · split at hh
        · obtain ⟨t, Z, h1, h2⟩ := hh
          rw [h1 w]
          simp only [Oper.upon]
          exact h _ _ _ (hC.alloc _) (hD.later ((Ext.refl w).alloc _)) (h2 _ _ ((Ext.refl w).alloc _) (Blk.new w Z t) hC.size (hD _ (Nat.le_refl _)))
        · split at hh
          · unfold goes at hh
            generalize (execOp a.eval o).run P w = r at *
            cases r with
            | ok n w' =>
              cases n <;> simp only [goesUpon] at hh <;> simp only [Oper.upon]
              · exact h _ _ _ hh.1 (fun _ _ => trivial) hh.2
              · exact h _ _ _ hh.1 (fun _ _ => trivial) hh.2
              · exact hh.mono fun e w'' ⟨v, he, h1, h2⟩ => by subst he; exact h _ _ _ h1 (fun _ _ => trivial) h2
              · exact Rows.mono hh fun v w'' ⟨h1, h2⟩ => h _ _ _ h1 (fun _ _ => trivial) h2
            | halt x w' => simp only [goesUpon] at hh
          · have hh := hh w (Ext.refl w)
            have hd : ∀ w2, Ext w w2 → Dok (fun B => D B ∧ (B < w.heap.size ∨ w2.heap.size ≤ B)) w2 := fun w2 he B hB => ⟨hD B (Nat.le_trans he.size hB), .inr hB⟩
            unfold goes at hh
            generalize (execOp a.eval o).run P w = r at *
            cases r with
            | ok n w' =>
              cases n <;> simp only [goesUpon] at hh <;> simp only [Oper.upon]
              · exact h _ _ _ (hC.trans hh.1) (hd _ hh.1) hh.2
              · exact h _ _ _ (hC.trans hh.1) (hd _ hh.1) hh.2
              · exact hh.mono fun e w'' ⟨v, he, h1, h2⟩ => by subst he; exact h _ _ _ (hC.trans h1) (hd _ h1) h2
              · exact Rows.mono hh fun v w'' ⟨h1, h2⟩ => h _ _ _ (hC.trans h1) (hd _ h1) h2
            | halt x w' => simp only [goesUpon] at hh
    · rename_i hw; rw [if_neg hw] at hh; exact h _ _ _ hC hD hh
theorem wpAny_of_F {Q : Act → World → Prop} {Q' : Exit → Act → World → Prop} (hQ : ∀ a w, Q a w → Q' .normal a w) : ∀ (fuel : Nat) (listed : Array Bool) (a : Act) (D : Nat → Prop) (w : World), Ext W w → Dok D w →
    wpAnyF P md ops W Q fuel listed a D w → wpAny P md ops Q' fuel listed a w
  | 0, _, _, _, _, _, _, h => ⟨h.1, hQ _ _ h.2⟩
  | fuel + 1, _, _, _, _, hw, hd, h => ⟨fun h0 => hQ _ _ (h.1 h0), fun i hi => wpOp_of_fOp hw hd (fun a' D' w' hw' hd' => wpAny_of_F hQ fuel _ a' D' w' hw' hd') (h.2 i hi)⟩

theorem fStep_of_yl {o : Oper} {v : Value} {a : Act} {D : Nat → Prop} {w : World} {K : Act → (Nat → Prop) → World → Prop} (hy : yl P ops (Ext W) o v a) (h : K (a.put o.dst v) D w) : fStep P ops W o K a D w := by
  unfold fStep
  rcases hy with ⟨h1, h2, h3⟩ | ⟨h1, rfl⟩
  · simp only [h1, h2, if_true]; exact ⟨v, h3, h⟩
  · simp only [h1, Bool.false_eq_true, if_false]; exact h
theorem fStep_yl {o : Oper} {a : Act} {D : Nat → Prop} {w : World} {K : Act → (Nat → Prop) → World → Prop} (hh : fStep P ops W o K a D w) (hq : Region.wanted o (yielded ops a.tmps) = false ∨ pureB o.op = true) : ∃ v, yl P ops (Ext W) o v a ∧ K (a.put o.dst v) D w := by
  unfold fStep at hh
  by_cases hw : Region.wanted o (yielded ops a.tmps) = true
  · rw [if_pos hw] at hh
    have hp := hq.resolve_left (by simp [hw])
    rw [if_pos hp] at hh
    obtain ⟨v, h1, h2⟩ := hh
    exact ⟨v, .inl ⟨hw, hp, h1⟩, h2⟩
  · rw [if_neg hw] at hh
    exact ⟨undef, .inr ⟨by simpa using hw, rfl⟩, hh⟩
theorem yl_one {o : Oper} {v v' : Value} {a : Act} (h : yl P ops (Ext W) o v a) (h' : yl P ops (Ext W) o v' a) : v = v' := by
  rcases h with ⟨h1, h2, h3⟩ | ⟨h1, rfl⟩ <;> rcases h' with ⟨k1, k2, k3⟩ | ⟨k1, rfl⟩
  · exact sits_one (Ext.refl W) h3 k3
  · rw [h1] at k1; cases k1
  · rw [h1] at k1; cases k1
  · rfl
/-- A step of an operation that does not look at a slot: whatever lies there. -/
theorem fStep_put {o : Oper} (hs : ∀ cs b, o.op ≠ .select cs b) {a : Act} {dst : Option Tmp} {u : Value} {D : Nat → Prop} {w : World} {K K' : Act → (Nat → Prop) → World → Prop} (h : ∀ d, dst = some d → d ∉ o.looksAt ops)
    (hK : ∀ v D w, K ((a.put dst u).put o.dst v) D w → K' (a.put o.dst v) D w) (hh : fStep P ops W o K (a.put dst u) D w) : fStep P ops W o K' a D w := by
  unfold fStep at *
  rw [wanted_put o a dst u h] at hh
  split
  · rename_i hw
    rw [if_pos hw] at hh
    split
    · rename_i hp; rw [if_pos hp] at hh; obtain ⟨v, h1, h2⟩ := hh; exact ⟨v, (sits_put hs h).1 h1, hK _ _ _ h2⟩
    · rename_i hp; rw [if_neg hp] at hh
      split
      · rename_i ha; rw [if_pos ha] at hh
        obtain ⟨t, Z, h1, h2⟩ := hh
        exact ⟨t, Z, fun w => by rw [← execOp_put o hs a dst u h]; exact h1 w, fun B w' he hb hwb hd' => hK _ _ _ (h2 B w' he hb hwb hd')⟩
      · rename_i ha; rw [if_neg ha] at hh
        split
        · rename_i hb; rw [if_pos hb] at hh
          exact goes_mono (fun v w' ⟨h1, h2⟩ => ⟨h1, hK _ _ _ h2⟩) ((goes_put hs h).1 hh)
        · rename_i hb; rw [if_neg hb] at hh
          exact fun w1 he => goes_mono (fun v w2 ⟨h1, h2⟩ => ⟨h1, hK _ _ _ h2⟩) ((goes_put hs h).1 (hh w1 he))
  · rename_i hw; rw [if_neg hw] at hh; exact hK _ _ _ hh
theorem fStep_put' {o : Oper} (hs : ∀ cs b, o.op ≠ .select cs b) {a : Act} {dst : Option Tmp} {u : Value} {D : Nat → Prop} {w : World} {K K' : Act → (Nat → Prop) → World → Prop} (h : ∀ d, dst = some d → d ∉ o.looksAt ops)
    (hK : ∀ v D w, K (a.put o.dst v) D w → K' ((a.put dst u).put o.dst v) D w) (hh : fStep P ops W o K a D w) : fStep P ops W o K' (a.put dst u) D w := by
  unfold fStep at *
  rw [wanted_put o a dst u h]
  split
  · rename_i hw
    rw [if_pos hw] at hh
    split
    · rename_i hp; rw [if_pos hp] at hh; obtain ⟨v, h1, h2⟩ := hh; exact ⟨v, (sits_put hs h).2 h1, hK _ _ _ h2⟩
    · rename_i hp; rw [if_neg hp] at hh
      split
      · rename_i ha; rw [if_pos ha] at hh
        obtain ⟨t, Z, h1, h2⟩ := hh
        exact ⟨t, Z, fun w => by rw [execOp_put o hs a dst u h]; exact h1 w, fun B w' he hb hwb hd' => hK _ _ _ (h2 B w' he hb hwb hd')⟩
      · rename_i ha; rw [if_neg ha] at hh
        split
        · rename_i hb; rw [if_pos hb] at hh
          exact (goes_put hs h).2 (goes_mono (fun v w' ⟨h1, h2⟩ => ⟨h1, hK _ _ _ h2⟩) hh)
        · rename_i hb; rw [if_neg hb] at hh
          exact fun w1 he => (goes_put hs h).2 (goes_mono (fun v w2 ⟨h1, h2⟩ => ⟨h1, hK _ _ _ h2⟩) (hh w1 he))
  · rename_i hw; rw [if_neg hw] at hh; exact hK _ _ _ hh
theorem yl_unput {o : Oper} (hs : ∀ cs b, o.op ≠ .select cs b) {v u : Value} {a : Act} {dst : Option Tmp} (h : ∀ d, dst = some d → d ∉ o.looksAt ops) (hy : yl P ops (Ext W) o v (a.put dst u)) : yl P ops (Ext W) o v a := by
  unfold yl at *
  rw [wanted_put o a dst u h, sits_put hs h] at hy
  exact hy
theorem alloc_inj {w : World} {Z Z' : Array Value} {t t' : TypeId} (h : w.alloc (.cells Z t) = w.alloc (.cells Z' t')) : Z = Z' ∧ t = t' := by
  have h1 := Blk.new w Z t
  have h2 := Blk.new w Z' t'
  rw [h] at h1
  unfold Blk at h1 h2
  rw [h1] at h2
  simp only [Option.some.injEq, Obj.cells.injEq, and_true] at h2
  exact ⟨by simpa using h2.1, h2.2⟩
theorem fStep_swap {oi oj : Oper} (hap : oi.apart ops oj = true) (hsi : ∀ cs b, oi.op ≠ .select cs b) (hsj : ∀ cs b, oj.op ≠ .select cs b) (hp : pureB oi.op = true ∨ pureB oj.op = true ∨ (actB oi.op = true ∧ allocB oj.op = true))
    {K : Act → (Nat → Prop) → World → Prop} {a : Act} {D : Nat → Prop} {w : World} (hC : Ext W w) (hD : Dok D w) (H : fStep P ops W oi (fStep P ops W oj K) a D w) : fStep P ops W oj (fStep P ops W oi K) a D w := by
  obtain ⟨h1, h2, h3⟩ := Oper.apart_spec hap
  by_cases hqi : Region.wanted oi (yielded ops a.tmps) = false ∨ pureB oi.op = true
  · obtain ⟨v, hy, H'⟩ := fStep_yl H hqi
    exact fStep_put hsj h1 (fun u D' w' hk => fStep_of_yl (yl_put hsi h3 hy) (by rw [← Act.put_comm a v u h2]; exact hk)) H'
  · have hwi : Region.wanted oi (yielded ops a.tmps) = true := by
      cases h : Region.wanted oi (yielded ops a.tmps)
      · exact absurd (.inl h) hqi
      · rfl
    have hpi : ¬ pureB oi.op = true := fun h => hqi (.inr h)
    by_cases hqj : Region.wanted oj (yielded ops a.tmps) = false ∨ pureB oj.op = true
    · obtain ⟨v0, D0, w0, c0, s0⟩ := fStep_some hC hD H
      obtain ⟨u, hu, _⟩ := fStep_yl s0 (by rw [wanted_put oj a oi.dst v0 h1]; exact hqj)
      have hu := yl_unput hsj h1 hu
      refine fStep_of_yl hu (fStep_put' hsi h3 (fun v D' w' hk => ?_) H)
      obtain ⟨u', hu', hk⟩ := fStep_yl hk (by rw [wanted_put oj a oi.dst v h1]; exact hqj)
      obtain rfl := yl_one (yl_unput hsj h1 hu') hu
      rw [← Act.put_comm a v u' h2]; exact hk
    · have hwj : Region.wanted oj (yielded ops a.tmps) = true := by
        cases h : Region.wanted oj (yielded ops a.tmps)
        · exact absurd (.inl h) hqj
        · rfl
      have hpj : ¬ pureB oj.op = true := fun h => hqj (.inr h)
      obtain ⟨hai, haj⟩ := (hp.resolve_left hpi).resolve_left hpj
      simp only [actB, Bool.and_eq_true, Bool.not_eq_true'] at hai
      obtain ⟨_, hai1, hai2⟩ := hai
      unfold fStep at H
      rw [if_pos hwi, if_neg hpi, if_neg (by simp [hai1]), if_neg (by simp [hai2])] at H
      have inner : ∀ {v : Value} {D' : Nat → Prop} {w' : World}, fStep P ops W oj K (a.put oi.dst v) D' w' → ∃ (t : TypeId) (Z : Array Value), (∀ w, (execOp a.eval oj).run P w = .ok (.value (.pointer (some ⟨w.heap.size, 0, none⟩))) (w.alloc (.cells Z t))) ∧
          ∀ B w'', Ext w' w'' → Blk w'' B t Z.toList → W.heap.size ≤ B → D' B → K ((a.put oi.dst v).put oj.dst (.pointer (some ⟨B, 0, none⟩))) D' w'' := fun {v D' w'} hh => by
        unfold fStep at hh
        rw [wanted_put oj a oi.dst v h1, if_pos hwj, if_neg hpj, if_pos haj] at hh
        obtain ⟨t, Z, k1, k2⟩ := hh
        exact ⟨t, Z, fun w => by rw [← execOp_put oj hsj a oi.dst v h1]; exact k1 w, k2⟩
      obtain ⟨v0, w0, _, s0⟩ := goes_some (H w (Ext.refl w))
      obtain ⟨t, Z, k1, _⟩ := inner s0
      unfold fStep
      rw [if_pos hwj, if_neg hpj, if_pos haj]
      refine ⟨t, Z, k1, fun B w' he hb hwb hd => ?_⟩
      rw [wanted_put oi a oj.dst _ h3, if_pos hwi, if_neg hpi, if_neg (by simp [hai1]), if_neg (by simp [hai2])]
      intro w1 he1
      refine (goes_put hsi h3).2 (goes_mono (fun v w2 ⟨e2, hk⟩ => ⟨e2, ?_⟩) (H w1 (he.trans he1)))
      obtain ⟨t', Z', k1', k2'⟩ := inner hk
      have ee := (k1 w).symm.trans (k1' w)
      simp only [Result.ok.injEq, true_and] at ee
      obtain ⟨rfl, rfl⟩ := alloc_inj ee
      have := k2' B w2 (Ext.refl _) ((hb.extends he1).extends e2) hwb ⟨hd, .inl (Nat.lt_of_lt_of_le hb.lt he1.size)⟩
      rw [Act.put_comm a v _ h2] at this
      exact this

def serFB (md : Region.Mode) (ops : Array Oper) : Bool :=
  (List.range ops.size).all fun i => (List.range ops.size).all fun j => match ops[i]?, ops[j]? with
    | some oi, some oj => !decide (i < j) || pureB oi.op || pureB oj.op || reachB md ops ops.size i j || (actB oi.op && allocB oj.op)
    | _, _ => true
theorem wpAnyF_first {Q : Act → World → Prop} {i : Nat} {oi : Oper} (hi : ops[i]? = some oi) (hsel : ∀ (j : Nat) (o : Oper) cs b, ops[j]? = some o → o.op ≠ .select cs b) :
    ∀ (fuel : Nat) (listed : Array Bool) (a : Act) (D : Nat → Prop) (w : World), Ext W w → Dok D w → Closed md ops listed →
      (∀ j oj, ops[j]? = some oj → j ≠ i → listed.getD j true = false → (∀ e ∈ oj.after, Region.binds md e = true → e.on ≠ i) → oi.apart ops oj = true) →
      (∀ j oj, ops[j]? = some oj → j ≠ i → listed.getD j true = false → (pureB oi.op = true ∨ pureB oj.op = true ∨ (actB oi.op = true ∧ allocB oj.op = true)) ∨ reachB md ops ops.size i j = true) →
      i ∈ Region.ready md ops listed → fOp P ops W i (wpAnyF P md ops W Q fuel (listed.setIfInBounds i true)) a D w → wpAnyF P md ops W Q (fuel + 1) listed a D w := by
  intro fuel
  induction fuel with
  | zero =>
    intro listed a D w hC hD _ _ _ hr H
    refine ⟨fun h => (by rw [h] at hr; cases hr), fun j hj => ?_⟩
    by_cases hji : j = i
    · subst hji; exact H
    · obtain ⟨_, _, _, h⟩ := fOp_some hC hD H
      have := ready_mono hj hji
      rw [h.1] at this
      cases this
  | succ fuel ih =>
    intro listed a D w hC hD hcl hfree hser hr H
    refine ⟨fun h => (by rw [h] at hr; cases hr), fun j hj => ?_⟩
    by_cases hji : j = i
    · subst hji; exact H
    · obtain ⟨hjun, oj, hoj, hall⟩ := mem_ready.1 hj
      have hi0 := (mem_ready.1 hr).1
      have hnot : ∀ e ∈ oj.after, Region.binds md e = true → e.on ≠ i := fun e he hb heq => by
        have h1 := hall e he hb
        rw [heq] at h1
        rcases Nat.lt_or_ge i listed.size with h' | h'
        · simp [h'] at hi0 h1; rw [hi0] at h1; cases h1
        · simp [Array.getElem?_eq_none h'] at h1
      have hp := (hser j oj hoj hji hjun).resolve_right (fun h => absurd hj (not_ready hcl h hi0))
      have H1 : fStep P ops W oi (fStep P ops W oj (wpAnyF P md ops W Q fuel ((listed.setIfInBounds i true).setIfInBounds j true))) a D w := by
        have := fOp_mono hC hD (fun a' D' w' _ _ h => h.2 j (ready_mono hj hji)) H
        unfold fOp at this
        simp only [hi, hoj] at this
        exact this
      have H2 := fStep_swap (hfree j oj hoj hji hjun hnot) (fun cs b => hsel i oi cs b hi) (fun cs b => hsel j oj cs b hoj) hp hC hD H1
      have H3 : fOp P ops W j (fOp P ops W i (wpAnyF P md ops W Q fuel ((listed.setIfInBounds i true).setIfInBounds j true))) a D w := by
        unfold fOp
        simp only [hi, hoj]
        exact H2
      refine fOp_mono hC hD (fun a' D' w' hC' hD' h => ih (listed.setIfInBounds j true) a' D' w' hC' hD' (hcl.set hj) ?_ ?_ (ready_mono hr (Ne.symm hji)) ?_) H3
      · intro k ok hk hki hun hno
        refine hfree k ok hk hki ?_ hno
        by_cases hjk : j = k
        · subst hjk; exact hjun
        · rw [getD_set_ne true hjk] at hun; exact hun
      · intro k ok hk hki hun
        refine hser k ok hk hki ?_
        by_cases hjk : j = k
        · subst hjk; exact hjun
        · rw [getD_set_ne true hjk] at hun; exact hun
      · rw [Array.setIfInBounds_comm _ _ hji]; exact h

/-- The walk in the order of the text. -/
def wpSeqF (P : Program) (ops : Array Oper) (W : World) (Q : Act → World → Prop) : List Oper → Act → (Nat → Prop) → World → Prop
  | [], a, _, w => Q a w
  | o :: rest, a, D, w => fStep P ops W o (wpSeqF P ops W Q rest) a D w

theorem wpAnyF_lex {Q : Act → World → Prop} (hs : Region.noSelect ops = true) (hser : serFB md ops = true) : ∀ (l : List Oper) (k : Nat) (listed : Array Bool) (a : Act) (D : Nat → Prop) (w : World), Ext W w → Dok D w → Closed md ops listed →
    (∀ j, l[j]? = ops[k + j]?) → (∀ j, listed.getD j true = false → k ≤ j) → Region.lexFrom md ops l.length k listed = true → wpSeqF P ops W Q l a D w → wpAnyF P md ops W Q l.length listed a D w
  | [], _, _, _, _, _, _, _, _, _, _, hB, h => ⟨by simpa [Region.lexFrom] using hB, h⟩
  | o :: l, k, listed, a, D, w, hC, hD, hcl, hl, hun, hB, h => by
    have h0 : ops[k]? = some o := by simpa using (hl 0).symm
    simp only [List.length_cons, Region.lexFrom, Bool.and_eq_true] at hB
    obtain ⟨⟨hr, hf⟩, hB'⟩ := hB
    have hr : k ∈ Region.ready md ops listed := by simpa using hr
    have hst : fOp P ops W k (wpSeqF P ops W Q l) a D w := by unfold fOp; simp only [h0]; exact h
    refine wpAnyF_first h0 (Region.noSelect_spec hs) l.length listed a D w hC hD hcl (Region.free_spec h0 hf) ?_ hr (fOp_mono hC hD (fun a' D' w' hC' hD' h' => wpAnyF_lex hs hser l (k + 1) _ a' D' w' hC' hD' (hcl.set hr) ?_ ?_ hB' h') hst)
    · intro j oj hj hjk hju
      have hkj : k < j := by have := hun j hju; omega
      have h1 := List.all_eq_true.1 hser k (List.mem_range.2 (Array.getElem?_eq_some_iff.1 h0).1)
      have h2 := List.all_eq_true.1 h1 j (List.mem_range.2 (Array.getElem?_eq_some_iff.1 hj).1)
      simp only [Bool.or_eq_true, Bool.and_eq_true, Bool.not_eq_true', decide_eq_false_iff_not, h0, hj] at h2
      rcases h2 with (((h2 | h2) | h2) | h2) | h2
      · exact absurd hkj h2
      · exact .inl (.inl h2)
      · exact .inl (.inr (.inl h2))
      · exact .inr h2
      · exact .inl (.inr (.inr h2))
    · intro j; have := hl (j + 1); simpa [Nat.add_assoc, Nat.add_comm 1 j] using this
    · intro j hj
      by_cases hkj : k = j
      · subst hkj
        exfalso
        rcases Nat.lt_or_ge k listed.size with h' | h'
        · simp [h'] at hj
        · simp at hj
      · rw [getD_set_ne true hkj] at hj
        have := hun j hj
        omega

def seqFB (ops : Array Oper) : Bool := Region.lexB .any ops && serFB .any ops
theorem wp_region_seqF {id : Nat} {Q : Exit → Act → World → Prop} {a : Act} {w : World} {l : List Oper} (hm : P.follows .mixedOrders = true) (hB : seqFB l.toArray = true)
    (h : ∀ w0, Ext w w0 → w0.heap.size = w.heap.size → (∀ b : Nat, w0.heap[b]? = w.heap[b]?) → wpSeqF P l.toArray w (fun a' w' => Q .normal a' w') l a (fun _ => True) w0) : (Code.region id l.toArray true).wp P Q a w := by
  simp only [seqFB, Region.lexB, Bool.and_eq_true] at hB
  refine wp_region_any hm (wpAny_of_F (W := w) (Q := fun a' w' => Q .normal a' w') (fun _ _ h => h) _ _ _ (fun _ => True) _ (Ext.refl w).drew (fun _ _ => trivial) ?_)
  have h := h w.drew (Ext.refl w).drew rfl (fun _ => rfl)
  have := wpAnyF_lex (W := w) (md := .any) hB.1.1 hB.2 l 0 (Array.replicate l.toArray.size false) a (fun _ => True) w.drew (Ext.refl w).drew (fun _ _ => trivial) (by
    intro j o _ hj
    exfalso
    rcases Nat.lt_or_ge j l.length with h' | h'
    · simp [h'] at hj
    · simp [Nat.not_lt.2 h'] at hj) (by simp) (fun j _ => Nat.zero_le _) (by simpa using hB.1.2) h
  simpa using this

section
variable {Q : Act → World → Prop} {a : Act} {D : Nat → Prop} {w : World} {o : Oper} {rest : List Oper}
theorem wpSeqF_nil (h : Q a w) : wpSeqF P ops W Q [] a D w := h
theorem wpSeqF_pure (hp : pureB o.op = true) (h : ∀ Kq : Act → Prop, (∀ a', wpSeqF P ops W Q rest a' D w → Kq a') → wpQuiet P ops (fun w' => ∃ x, w' = Go.Proofs.YtlehcnfmagjilaaDoor.ext W x) Kq [o] a) : wpSeqF P ops W Q (o :: rest) a D w := by
  have h := h (fun a' => wpSeqF P ops W Q rest a' D w) (fun _ h => h)
  unfold wpQuiet at h
  unfold wpSeqF fStep
  split
  · rename_i hw
    rw [if_pos hw] at h
    obtain ⟨v, h1, h2⟩ := h
    first | (rw [if_pos hp]; exact ⟨v, sits_of_quiet hp h1, h2⟩) | exact ⟨v, sits_of_quiet hp h1, h2⟩
  · rename_i hw
    rw [if_neg hw] at h
    exact h
theorem wpSeqF_alloc (hw : Region.wanted o (yielded ops a.tmps) = true) (ha : allocB o.op = true) (hp : pureB o.op = false) (t : TypeId) (Z : Array Value) (hr : ∀ w, (execOp a.eval o).run P w = .ok (.value (.pointer (some ⟨w.heap.size, 0, none⟩))) (w.alloc (.cells Z t)))
    (h : ∀ B w', Ext w w' → Blk w' B t Z.toList → W.heap.size ≤ B → D B → wpSeqF P ops W Q rest (a.put o.dst (.pointer (some ⟨B, 0, none⟩))) D w') : wpSeqF P ops W Q (o :: rest) a D w := by
  unfold wpSeqF fStep
  rw [if_pos hw, if_neg (by simp [hp]), if_pos ha]
  exact ⟨t, Z, hr, h⟩
/-- A step as in a region that does not draw. -/
theorem goes_of_list {w : World} {K : Act → World → Prop} (h : ∀ Q' : Exit → Act → World → Prop, (∀ a' w', a'.defers = a.defers → K a' w' → Q' .normal a' w') → wpList P ops Q' [o] a w) (hw : Region.wanted o (yielded ops a.tmps) = true) : goes P o a w fun v w' => K (a.put o.dst v) w' := by
  have h := h (fun e a' w' => e = .normal ∧ a'.defers = a.defers ∧ K a' w') (fun a' w' h1 h2 => ⟨rfl, h1, h2⟩)
  unfold wpList at h
  rw [if_pos hw] at h
  rcases h with h | ⟨_, a', w', h, _⟩
  · unfold Oper.wp at h
    unfold goes
    generalize (execOp a.eval o).run P w = r at *
    cases r with
    | ok n w' =>
      cases n <;> simp only [Oper.upon] at h <;> simp only [goesUpon]
      case value v => exact h.2.2
      case skip => exact h.2.2
      case defer d =>
        have := h.2.1
        exfalso
        have e1 : (({ a with defers := d :: a.defers } : Act).put o.dst undef).defers = d :: a.defers := by unfold Act.put; split <;> rfl
        rw [e1] at this
        exact absurd (congrArg List.length this) (by simp)
      case enter f args =>
        refine h.mono fun e w'' he => ?_
        cases e with
        | returned v => exact ⟨v, rfl, he.2.2⟩
        | panicked c => cases he.1
        | outgrown => obtain ⟨_, _, he, _⟩ := he; cases he
      case row row args => exact Rows.mono h fun v w'' he => he.2.2
    | halt x w' => cases x <;> simp only [Oper.upon] at h <;> cases h.1
  · cases h
theorem wpSeqF_act (hb : actB o.op = true) (hw : Region.wanted o (yielded ops a.tmps) = true)
    (h : ∀ w1, Ext w w1 → ∀ Q' : Exit → Act → World → Prop, (∀ a' w2, a'.defers = a.defers → Ext w1 w2 → wpSeqF P ops W Q rest a' (fun B => D B ∧ (B < w1.heap.size ∨ w2.heap.size ≤ B)) w2 → Q' .normal a' w2) → wpList P ops Q' [o] a w1) : wpSeqF P ops W Q (o :: rest) a D w := by
  simp only [actB, Bool.and_eq_true, Bool.not_eq_true'] at hb
  unfold wpSeqF fStep
  rw [if_pos hw, if_neg (by simp [hb.1]), if_neg (by simp [hb.2.1]), if_neg (by simp [hb.2.2])]
  exact fun w1 he => goes_of_list (K := fun a' w2 => Ext w1 w2 ∧ wpSeqF P ops W Q rest a' (fun B => D B ∧ (B < w1.heap.size ∨ w2.heap.size ≤ B)) w2) (fun Q' hQ => h w1 he Q' (fun a' w2 h1 h2 h3 => hQ a' w2 h1 ⟨h2, h3⟩)) hw
theorem wpSeqF_brk (hb : brkB o.op = true) (ha : allocB o.op = false) (hp : pureB o.op = false) (hw : Region.wanted o (yielded ops a.tmps) = true)
    (h : ∀ Q' : Exit → Act → World → Prop, (∀ a' w2, a'.defers = a.defers → Ext W w2 → wpSeqF P ops W Q rest a' (fun _ => True) w2 → Q' .normal a' w2) → wpList P ops Q' [o] a w) : wpSeqF P ops W Q (o :: rest) a D w := by
  unfold wpSeqF fStep
  rw [if_pos hw, if_neg (by simp [hp]), if_neg (by simp [ha]), if_pos hb]
  exact goes_of_list (K := fun a' w2 => Ext W w2 ∧ wpSeqF P ops W Q rest a' (fun _ => True) w2) (fun Q' hQ => h Q' (fun a' w2 h1 h2 h3 => hQ a' w2 h1 ⟨h2, h3⟩)) hw
end
end

end Go.Proofs.YtlehcnfmagjilaaDoor
