/- Lemmas for it, part 3. No condition. -/
import Derived.Lib.Overlaps
import Derived.WalkKit
import Derived.Test.YtngehfhcnfobbaaRows
import Derived.Test.YtngehfhcnfobbaaPk1
import Derived.Test.YtngehfhcnfobbaaPk2
namespace Go.Proofs.Ytngehfhcnfobbaa
open Go Go.RowKit

/-- Operations that only reckon, or read a cell. -/
def pureB : Op → Bool
  | .move _ | .assign _ | .pick .. | .load .. | .build .. | .nilCheck _ | .binOp .. | .unOp .. | .fieldAddr .. | .field .. | .indexAddr .. | .index .. | .extract .. | .slice .. => true
  | .call c => match c.callee with
    | .builtin .len | .builtin .cap => true
    | _ => false
  | _ => false

/-- What such an operation yields in a world: a value, and that very world. -/
def sitsUpon (w : World) (v : Value) : Result Next → Prop
  | .ok (.value u) w' => w' = w ∧ u = v
  | .ok .skip w' => w' = w ∧ v = undef
  | _ => False
def sits (P : Program) (o : Oper) (a : Act) (C : World → Prop) (v : Value) : Prop := ∀ w, C w → sitsUpon w v ((execOp a.eval o).run P w)

/-- What an operation that acts leaves: some value in some world. -/
def goesUpon (P : Program) (K : Value → World → Prop) : Result Next → Prop
  | .ok (.value v) w' => K v w'
  | .ok .skip w' => K undef w'
  | .ok (.enter f args) w' => Calls P f args w' fun e w'' => ∃ v, e = .returned v ∧ K v w''
  | .ok (.row row args) w' => Rows P row args w' fun v w'' => K v w''
  | _ => False
def goes (P : Program) (o : Oper) (a : Act) (w : World) (K : Value → World → Prop) : Prop := goesUpon P K ((execOp a.eval o).run P w)

section
variable {P : Program} {ops : Array Oper} {md : Region.Mode} {C : World → Prop}

theorem goes_mono {o : Oper} {a : Act} {w : World} {K K' : Value → World → Prop} (h : ∀ v w', K v w' → K' v w') (hh : goes P o a w K) : goes P o a w K' := by
  unfold goes at *
  generalize (execOp a.eval o).run P w = r at *
  cases r with
  | ok n w' =>
    cases n <;> simp only [goesUpon] at hh ⊢ <;> first | exact h _ _ hh | exact Rows.mono hh (fun _ _ he => h _ _ he) | exact hh.mono fun e w'' ⟨v, he, hk⟩ => ⟨v, he, h _ _ hk⟩
  | halt x w' => simp only [goesUpon] at hh
theorem goes_some {o : Oper} {a : Act} {w : World} {K : Value → World → Prop} (hh : goes P o a w K) : ∃ v w', K v w' := by
  unfold goes at hh
  generalize (execOp a.eval o).run P w = r at *
  cases r with
  | ok n w' =>
    cases n <;> simp only [goesUpon] at hh <;> first | exact ⟨_, _, hh⟩ | skip
    · obtain ⟨e, w'', fr, ⟨v, _, hk⟩, _⟩ := hh []
      exact ⟨v, w'', hk⟩
    · obtain ⟨v, w'', hk, _⟩ := hh default []
      exact ⟨v, w'', hk⟩
  | halt x w' => simp only [goesUpon] at hh
theorem sits_one {o : Oper} {a : Act} {w : World} {v v' : Value} (hw : C w) (h : sits P o a C v) (h' : sits P o a C v') : v = v' := by
  have h1 := h w hw
  have h2 := h' w hw
  generalize (execOp a.eval o).run P w = r at *
  cases r with
  | ok n w' => cases n <;> simp only [sitsUpon] at h1 h2 <;> first | (rw [← h1.2, ← h2.2]) | (rw [h1.2, h2.2])
  | halt x w' => simp only [sitsUpon] at h1

/-- Operation number i comes up. -/
def sOp (P : Program) (ops : Array Oper) (C : World → Prop) (i : Nat) (K : Act → World → Prop) (a : Act) (w : World) : Prop :=
  match ops[i]? with
  | none => K a w
  | some o => if Region.wanted o (yielded ops a.tmps) then (if pureB o.op then ∃ v, sits P o a C v ∧ K (a.put o.dst v) w else goes P o a w fun v w' => C w' ∧ K (a.put o.dst v) w') else K (a.put o.dst undef) w
def wpAnyS (P : Program) (md : Region.Mode) (ops : Array Oper) (C : World → Prop) (Q : Act → World → Prop) : Nat → Array Bool → Act → World → Prop
  | 0, listed, a, w => Region.ready md ops listed = [] ∧ Q a w
  | fuel + 1, listed, a, w => (Region.ready md ops listed = [] → Q a w) ∧ ∀ i ∈ Region.ready md ops listed, sOp P ops C i (wpAnyS P md ops C Q fuel (listed.setIfInBounds i true)) a w

theorem sOp_mono {i : Nat} {a : Act} {w : World} {K K' : Act → World → Prop} (h : ∀ a w, K a w → K' a w) (hh : sOp P ops C i K a w) : sOp P ops C i K' a w := by
  unfold sOp at *
  split
  · exact h _ _ (by simpa [*] using hh)
  · rename_i o ho
    simp only [ho] at hh
    split
    · rename_i hw
      simp only [hw, if_true] at hh
      split
      · rename_i hp; simp only [hp, if_true] at hh; obtain ⟨v, h1, h2⟩ := hh; exact ⟨v, h1, h _ _ h2⟩
      · rename_i hp; simp only [hp] at hh; exact goes_mono (fun v w' ⟨h1, h2⟩ => ⟨h1, h _ _ h2⟩) hh
    · rename_i hw; simp only [hw] at hh; exact h _ _ hh

theorem wpOp_of_sOp {Q' : Exit → Act → World → Prop} {i : Nat} {a : Act} {w : World} {K K' : Act → World → Prop} (hC : C w) (h : ∀ a w, C w → K a w → K' a w) (hh : sOp P ops C i K a w) : wpOp P ops Q' i K' a w := by
  unfold sOp at hh
  unfold wpOp
  split
  · rename_i ho; simp only [ho] at hh; exact h _ _ hC hh
  · rename_i o ho
    simp only [ho] at hh
    split
    · rename_i hw
      simp only [hw, if_true] at hh
      refine .inl ?_
      unfold Oper.wp
      split at hh
      · obtain ⟨v, h1, h2⟩ := hh
        have h3 := h1 w hC
        generalize (execOp a.eval o).run P w = r at *
        cases r with
        | ok n w' =>
          cases n <;> simp only [sitsUpon] at h3 <;> simp only [Oper.upon]
          · rw [h3.1, h3.2]; exact h _ _ hC h2
          · rw [h3.1, ← h3.2]; exact h _ _ hC h2
        | halt x w' => simp only [sitsUpon] at h3
      · unfold goes at hh
        generalize (execOp a.eval o).run P w = r at *
        cases r with
        | ok n w' =>
          cases n <;> simp only [goesUpon] at hh <;> simp only [Oper.upon]
          · exact h _ _ hh.1 hh.2
          · exact h _ _ hh.1 hh.2
          · exact hh.mono fun e w'' ⟨v, he, h1, h2⟩ => by subst he; exact h _ _ h1 h2
          · exact Rows.mono hh fun v w'' ⟨h1, h2⟩ => h _ _ h1 h2
        | halt x w' => simp only [goesUpon] at hh
    · rename_i hw; simp only [hw] at hh; exact h _ _ hC hh

theorem wpAny_of_S {Q : Act → World → Prop} {Q' : Exit → Act → World → Prop} (hQ : ∀ a w, C w → Q a w → Q' .normal a w) : ∀ (fuel : Nat) (listed : Array Bool) (a : Act) (w : World), C w →
    wpAnyS P md ops C Q fuel listed a w → wpAny P md ops Q' fuel listed a w
  | 0, _, _, _, hw, h => ⟨h.1, hQ _ _ hw h.2⟩
  | fuel + 1, _, _, _, hw, h => ⟨fun h0 => hQ _ _ hw (h.1 h0), fun i hi => wpOp_of_sOp hw (fun a' w' hw' => wpAny_of_S hQ fuel _ a' w' hw') (h.2 i hi)⟩

theorem sOp_monoC {i : Nat} {a : Act} {w : World} {K K' : Act → World → Prop} (hC : C w) (h : ∀ a w, C w → K a w → K' a w) (hh : sOp P ops C i K a w) : sOp P ops C i K' a w := by
  unfold sOp at *
  split
  · exact h _ _ hC (by simpa [*] using hh)
  · rename_i o ho
    simp only [ho] at hh
    split
    · rename_i hw
      simp only [hw, if_true] at hh
      split
      · rename_i hp; simp only [hp, if_true] at hh; obtain ⟨v, h1, h2⟩ := hh; exact ⟨v, h1, h _ _ hC h2⟩
      · rename_i hp; simp only [hp] at hh; exact goes_mono (fun v w' ⟨h1, h2⟩ => ⟨h1, h _ _ h1 h2⟩) hh
    · rename_i hw; simp only [hw] at hh; exact h _ _ hC hh
theorem sOp_some {i : Nat} {a : Act} {w : World} {K : Act → World → Prop} (hh : sOp P ops C i K a w) : ∃ a' w', K a' w' := by
  unfold sOp at hh
  split at hh
  · exact ⟨_, _, hh⟩
  · split at hh
    · split at hh
      · obtain ⟨v, _, h⟩ := hh; exact ⟨_, _, h⟩
      · obtain ⟨v, w', _, h⟩ := goes_some hh; exact ⟨_, _, h⟩
    · exact ⟨_, _, hh⟩

theorem sits_put {o : Oper} (hs : ∀ cs b, o.op ≠ .select cs b) {a : Act} {dst : Option Tmp} {u v : Value} (h : ∀ d, dst = some d → d ∉ o.looksAt ops) : sits P o (a.put dst u) C v ↔ sits P o a C v := by
  unfold sits; rw [execOp_put o hs a dst u h]
theorem goes_put {o : Oper} (hs : ∀ cs b, o.op ≠ .select cs b) {a : Act} {dst : Option Tmp} {u : Value} {w : World} {K : Value → World → Prop} (h : ∀ d, dst = some d → d ∉ o.looksAt ops) : goes P o (a.put dst u) w K ↔ goes P o a w K := by
  unfold goes; rw [execOp_put o hs a dst u h]

/-- Operation i yields v where the frame is a: it is pure, or it is passed over. -/
def yl (P : Program) (ops : Array Oper) (C : World → Prop) (o : Oper) (v : Value) (a : Act) : Prop :=
  (Region.wanted o (yielded ops a.tmps) = true ∧ pureB o.op = true ∧ sits P o a C v) ∨ (Region.wanted o (yielded ops a.tmps) = false ∧ v = undef)
theorem yl_put {o : Oper} (hs : ∀ cs b, o.op ≠ .select cs b) {v u : Value} {a : Act} {dst : Option Tmp} (h : ∀ d, dst = some d → d ∉ o.looksAt ops) (hy : yl P ops C o v a) : yl P ops C o v (a.put dst u) := by
  unfold yl at *
  rw [wanted_put o a dst u h, sits_put hs h]
  exact hy
theorem sOp_of_yl {i : Nat} {o : Oper} {v : Value} {a : Act} {w : World} {K : Act → World → Prop} (hi : ops[i]? = some o) (hy : yl P ops C o v a) (h : K (a.put o.dst v) w) : sOp P ops C i K a w := by
  unfold sOp
  simp only [hi]
  rcases hy with ⟨h1, h2, h3⟩ | ⟨h1, rfl⟩
  · simp only [h1, h2, if_true]; exact ⟨v, h3, h⟩
  · simp only [h1, Bool.false_eq_true, if_false]; exact h

theorem sOp_swap {i j : Nat} {oi oj : Oper} (hi : ops[i]? = some oi) (hj : ops[j]? = some oj) (hap : oi.apart ops oj = true) (hsi : ∀ cs b, oi.op ≠ .select cs b) (hsj : ∀ cs b, oj.op ≠ .select cs b)
    (hp : pureB oi.op = true ∨ pureB oj.op = true) {K : Act → World → Prop} {a : Act} {w : World} (hC : C w) (H : sOp P ops C i (fun a' w' => sOp P ops C j K a' w') a w) : sOp P ops C j (fun a' w' => sOp P ops C i K a' w') a w := by
  obtain ⟨h1, h2, h3⟩ := Oper.apart_spec hap
  by_cases hq : ∃ v, yl P ops C oi v a ∧ sOp P ops C j K (a.put oi.dst v) w
  · obtain ⟨v, hy, H'⟩ := hq
    unfold sOp at H'
    unfold sOp
    simp only [hj] at H' ⊢
    rw [wanted_put oj a oi.dst v h1] at H'
    split
    · rename_i hw
      simp only [hw, if_true] at H'
      split
      · rename_i hpj
        simp only [hpj, if_true] at H'
        obtain ⟨u, hu, hk⟩ := H'
        exact ⟨u, (sits_put hsj h1).1 hu, sOp_of_yl hi (yl_put hsi h3 hy) (by rw [← Act.put_comm a v u h2]; exact hk)⟩
      · rename_i hpj
        simp only [hpj] at H'
        exact goes_mono (fun u w' ⟨c, hk⟩ => ⟨c, sOp_of_yl hi (yl_put hsi h3 hy) (by rw [← Act.put_comm a v u h2]; exact hk)⟩) ((goes_put hsj h1).1 H')
    · rename_i hw
      simp only [hw] at H'
      exact sOp_of_yl hi (yl_put hsi h3 hy) (by rw [← Act.put_comm a v undef h2]; exact H')
  · unfold sOp at H
    simp only [hi] at H
    by_cases hw : Region.wanted oi (yielded ops a.tmps) = true
    · simp only [hw, if_true] at H
      by_cases hpi : pureB oi.op = true
      · simp only [hpi, if_true] at H
        obtain ⟨v, h, k⟩ := H
        exact absurd ⟨v, .inl ⟨hw, hpi, h⟩, k⟩ hq
      · simp only [hpi] at H
        have hpj := hp.resolve_left hpi
        by_cases hwj : Region.wanted oj (yielded ops a.tmps) = true
        · obtain ⟨v0, w0, c0, s0⟩ := goes_some H
          simp only [hj] at s0
          rw [wanted_put oj a oi.dst v0 h1] at s0
          simp only [hwj, hpj, if_true] at s0
          obtain ⟨u, hu, _⟩ := s0
          have hu := (sits_put hsj h1).1 hu
          unfold sOp
          simp only [hj, hwj, hpj, if_true]
          refine ⟨u, hu, ?_⟩
          simp only [hi]
          rw [wanted_put oi a oj.dst u h3]
          simp only [hw, if_true, hpi]
          refine (goes_put hsi h3).2 (goes_mono (fun v w' ⟨c, hk⟩ => ⟨c, ?_⟩) H)
          simp only [hj] at hk
          rw [wanted_put oj a oi.dst v h1] at hk
          simp only [hwj, hpj, if_true] at hk
          obtain ⟨u', hu', hk⟩ := hk
          obtain rfl := sits_one hC ((sits_put hsj h1).1 hu') hu
          rw [← Act.put_comm a v u' h2]; exact hk
        · unfold sOp
          simp only [hj, hwj]
          simp only [hi]
          rw [wanted_put oi a oj.dst undef h3]
          simp only [hw, if_true, hpi]
          refine (goes_put hsi h3).2 (goes_mono (fun v w' ⟨c, hk⟩ => ⟨c, ?_⟩) H)
          simp only [hj] at hk
          rw [wanted_put oj a oi.dst v h1] at hk
          simp only [hwj] at hk
          rw [← Act.put_comm a v undef h2]; exact hk
    · simp only [hw] at H
      exact absurd ⟨undef, .inr ⟨by simpa using hw, rfl⟩, H⟩ hq

/-- Operation j waits, in the end, for operation i. -/
def reachB (md : Region.Mode) (ops : Array Oper) : Nat → Nat → Nat → Bool
  | 0, _, _ => false
  | n + 1, i, j => match ops[j]? with
    | none => false
    | some oj => oj.after.any fun e => Region.binds md e && (e.on == i || reachB md ops n i e.on)
def opPure (ops : Array Oper) (i : Nat) : Bool := match ops[i]? with
  | none => true
  | some o => pureB o.op
def serB (md : Region.Mode) (ops : Array Oper) : Bool :=
  (List.range ops.size).all fun i => (List.range ops.size).all fun j => !decide (i < j) || opPure ops i || opPure ops j || reachB md ops ops.size i j
def Closed (md : Region.Mode) (ops : Array Oper) (listed : Array Bool) : Prop :=
  ∀ j o, ops[j]? = some o → listed.getD j false = true → ∀ e ∈ o.after, Region.binds md e = true → listed.getD e.on false = true

theorem Closed.set {listed : Array Bool} {j : Nat} (h : Closed md ops listed) (hj : j ∈ Region.ready md ops listed) : Closed md ops (listed.setIfInBounds j true) := by
  intro k o ho hk e he hb
  by_cases hkj : j = k
  · subst hkj
    obtain ⟨_, o', ho', hall⟩ := mem_ready.1 hj
    rw [ho] at ho'
    obtain rfl := Option.some.inj ho'
    exact getD_set_true (hall e he hb)
  · rw [getD_set_ne false hkj] at hk
    exact getD_set_true (h k o ho hk e he hb)
theorem reach_listed {listed : Array Bool} (h : Closed md ops listed) : ∀ {n i j : Nat}, reachB md ops n i j = true → listed.getD j false = true → listed.getD i false = true
  | 0, _, _, hr, _ => by cases hr
  | n + 1, i, j, hr, hl => by
    unfold reachB at hr
    cases ho : ops[j]? with
    | none => simp [ho] at hr
    | some o =>
      simp only [ho] at hr
      obtain ⟨e, he, hb⟩ := Array.any_eq_true'.1 hr
      simp only [Bool.and_eq_true, Bool.or_eq_true, beq_iff_eq] at hb
      have hl' := h j o ho hl e he hb.1
      rcases hb.2 with h2 | h2
      · exact h2 ▸ hl'
      · exact reach_listed h h2 hl'
theorem not_ready {listed : Array Bool} (h : Closed md ops listed) {n i j : Nat} (hr : reachB md ops n i j = true) (hi : listed.getD i true = false) : j ∉ Region.ready md ops listed := by
  intro hj
  have hi' : listed.getD i false ≠ true := by
    intro h'
    rcases Nat.lt_or_ge i listed.size with hlt | hge
    · simp [hlt] at hi h'; rw [hi] at h'; cases h'
    · simp [Array.getElem?_eq_none hge] at h'
  obtain ⟨_, o, ho, hall⟩ := mem_ready.1 hj
  cases n with
  | zero => cases hr
  | succ n =>
    unfold reachB at hr
    simp only [ho] at hr
    obtain ⟨e, he, hb⟩ := Array.any_eq_true'.1 hr
    simp only [Bool.and_eq_true, Bool.or_eq_true, beq_iff_eq] at hb
    have hl := hall e he hb.1
    rcases hb.2 with h2 | h2
    · exact hi' (h2 ▸ hl)
    · exact hi' (reach_listed h h2 hl)

theorem wpAnyS_first {Q : Act → World → Prop} {i : Nat} {oi : Oper} (hi : ops[i]? = some oi) (hsel : ∀ (j : Nat) (o : Oper) cs b, ops[j]? = some o → o.op ≠ .select cs b) :
    ∀ (fuel : Nat) (listed : Array Bool) (a : Act) (w : World), C w → Closed md ops listed →
      (∀ j oj, ops[j]? = some oj → j ≠ i → listed.getD j true = false → (∀ e ∈ oj.after, Region.binds md e = true → e.on ≠ i) → oi.apart ops oj = true) →
      (∀ j oj, ops[j]? = some oj → j ≠ i → listed.getD j true = false → pureB oi.op = true ∨ pureB oj.op = true ∨ reachB md ops ops.size i j = true) →
      i ∈ Region.ready md ops listed → sOp P ops C i (wpAnyS P md ops C Q fuel (listed.setIfInBounds i true)) a w → wpAnyS P md ops C Q (fuel + 1) listed a w := by
  intro fuel
  induction fuel with
  | zero =>
    intro listed a w _ _ _ _ hr H
    refine ⟨fun h => (by rw [h] at hr; cases hr), fun j hj => ?_⟩
    by_cases hji : j = i
    · subst hji; exact H
    · obtain ⟨_, _, h⟩ := sOp_some H
      have := ready_mono hj hji
      rw [h.1] at this
      cases this
  | succ fuel ih =>
    intro listed a w hC hcl hfree hser hr H
    refine ⟨fun h => (by rw [h] at hr; cases hr), fun j hj => ?_⟩
    by_cases hji : j = i
    · subst hji; exact H
    · obtain ⟨hjun, oj, hoj, hall⟩ := mem_ready.1 hj
      have hi0 := (mem_ready.1 hr).1
      have hnot : ∀ e ∈ oj.after, Region.binds md e = true → e.on ≠ i := fun e he hb heq => by
        have h1 := hall e he hb
        rw [heq] at h1
        rcases Nat.lt_or_ge i listed.size with h' | h'
        · simp [h'] at hi0 h1; rw [hi0] at h1; cases h1
        · simp [Array.getElem?_eq_none h'] at h1
      have hp : pureB oi.op = true ∨ pureB oj.op = true := by
        rcases hser j oj hoj hji hjun with h | h | h
        · exact .inl h
        · exact .inr h
        · exact absurd hj (not_ready hcl h hi0)
      have H1 : sOp P ops C i (fun a' w' => sOp P ops C j (wpAnyS P md ops C Q fuel ((listed.setIfInBounds i true).setIfInBounds j true)) a' w') a w :=
        sOp_mono (fun a' w' h => h.2 j (ready_mono hj hji)) H
      have H2 := sOp_swap hi hoj (hfree j oj hoj hji hjun hnot) (fun cs b => hsel i oi cs b hi) (fun cs b => hsel j oj cs b hoj) hp hC H1
      refine sOp_monoC hC (fun a' w' hC' h => ih (listed.setIfInBounds j true) a' w' hC' (hcl.set hj) ?_ ?_ (ready_mono hr (Ne.symm hji)) ?_) H2
      · intro k ok hk hki hun hno
        refine hfree k ok hk hki ?_ hno
        by_cases hjk : j = k
        · subst hjk; exact hjun
        · rw [getD_set_ne true hjk] at hun; exact hun
      · intro k ok hk hki hun
        refine hser k ok hk hki ?_
        by_cases hjk : j = k
        · subst hjk; exact hjun
        · rw [getD_set_ne true hjk] at hun; exact hun
      · rw [Array.setIfInBounds_comm _ _ hji]; exact h

/-- The walk in the order of the text. -/
def wpSeq (P : Program) (ops : Array Oper) (C : World → Prop) (Q : Act → World → Prop) : List Oper → Act → World → Prop
  | [], a, w => Q a w
  | o :: rest, a, w => if Region.wanted o (yielded ops a.tmps) then (if pureB o.op then ∃ v, sits P o a C v ∧ wpSeq P ops C Q rest (a.put o.dst v) w else goes P o a w fun v w' => C w' ∧ wpSeq P ops C Q rest (a.put o.dst v) w') else wpSeq P ops C Q rest (a.put o.dst undef) w

theorem wpAnyS_lex {Q : Act → World → Prop} (hs : Region.noSelect ops = true) (hser : serB md ops = true) : ∀ (l : List Oper) (k : Nat) (listed : Array Bool) (a : Act) (w : World), C w → Closed md ops listed →
    (∀ j, l[j]? = ops[k + j]?) → (∀ j, listed.getD j true = false → k ≤ j) → Region.lexFrom md ops l.length k listed = true → wpSeq P ops C Q l a w → wpAnyS P md ops C Q l.length listed a w
  | [], _, _, _, _, _, _, _, _, hB, h => ⟨by simpa [Region.lexFrom] using hB, h⟩
  | o :: l, k, listed, a, w, hC, hcl, hl, hun, hB, h => by
    have h0 : ops[k]? = some o := by simpa using (hl 0).symm
    simp only [List.length_cons, Region.lexFrom, Bool.and_eq_true] at hB
    obtain ⟨⟨hr, hf⟩, hB'⟩ := hB
    have hr : k ∈ Region.ready md ops listed := by simpa using hr
    have hst : sOp P ops C k (wpSeq P ops C Q l) a w := by unfold sOp; simp only [h0]; exact h
    refine wpAnyS_first h0 (Region.noSelect_spec hs) l.length listed a w hC hcl (Region.free_spec h0 hf) ?_ hr (sOp_monoC hC (fun a' w' hC' h' => wpAnyS_lex hs hser l (k + 1) _ a' w' hC' (hcl.set hr) ?_ ?_ hB' h') hst)
    · intro j oj hj hjk hju
      have hkj : k < j := by have := hun j hju; omega
      have h1 := List.all_eq_true.1 hser k (List.mem_range.2 (Array.getElem?_eq_some_iff.1 h0).1)
      have h2 := List.all_eq_true.1 h1 j (List.mem_range.2 (Array.getElem?_eq_some_iff.1 hj).1)
      simp only [Bool.or_eq_true, Bool.not_eq_true', decide_eq_false_iff_not, opPure, h0, hj] at h2
      rcases h2 with ((h2 | h2) | h2) | h2
      · exact absurd hkj h2
      · exact .inl h2
      · exact .inr (.inl h2)
      · exact .inr (.inr h2)
    · intro j; have := hl (j + 1); simpa [Nat.add_assoc, Nat.add_comm 1 j] using this
    · intro j hj
      by_cases hkj : k = j
      · subst hkj
        exfalso
        rcases Nat.lt_or_ge k listed.size with h' | h'
        · simp [h'] at hj
        · simp at hj
      · rw [getD_set_ne true hkj] at hj
        have := hun j hj
        omega

def seqB (ops : Array Oper) : Bool := Region.lexB .any ops && serB .any ops
/-- A region that draws its order, whatever acts in it standing in one order: the walk in the order of the text serves. -/
theorem wp_region_seq {id : Nat} {Q : Exit → Act → World → Prop} {a : Act} {w : World} (hm : P.follows .mixedOrders = true) (hB : seqB ops = true) (hC : C w.drew)
    (h : wpSeq P ops C (fun a' w' => Q .normal a' w') ops.toList a w.drew) : (Code.region id ops true).wp P Q a w := by
  simp only [seqB, Region.lexB, Bool.and_eq_true] at hB
  refine wp_region_any hm (wpAny_of_S (C := C) (Q := fun a' w' => Q .normal a' w') (fun _ _ _ h => h) _ _ _ _ hC ?_)
  have := wpAnyS_lex (C := C) (md := .any) hB.1.1 hB.2 ops.toList 0 (Array.replicate ops.size false) a w.drew hC (by
    intro j o _ hj
    rcases Nat.lt_or_ge j ops.size with h' | h'
    · simp [h'] at hj
    · simp [Nat.not_lt.2 h'] at hj) (by simp) (fun j _ => Nat.zero_le _) (by simpa using hB.1.2) h
  simpa using this

/-! The steps of that walk. -/
/-- Never hands over to a function. -/
def NE (P : Program) (s : Sem Next) : Prop := ∀ w f args w', s.run P w ≠ .ok (.enter f args) w'
theorem NE.val (x : Sem Value) : NE P (do pure (.value (← x))) := by
  intro w f args w' h
  simp only [Sem.run_bind] at h
  cases hx : x.run P w with
  | ok v w2 => rw [hx] at h; simp at h
  | halt y w2 => rw [hx] at h; simp at h
theorem NE.bind {α : Type} (x : Sem α) (k : α → Sem Next) (h : ∀ a, NE P (k a)) : NE P (x >>= k) := by
  intro w f args w' he
  rw [Sem.run_bind] at he
  cases hx : x.run P w with
  | ok v w2 => rw [hx] at he; exact h v w2 f args w' he
  | halt y w2 => rw [hx] at he; simp at he
theorem NE.pureVal (v : Value) : NE P (pure (.value v)) := by
  intro w f args w' h; simp at h
theorem NE.halting {s : Sem Next} (h : ∀ w, ∃ x w', s.run P w = .halt x w') : NE P s := by
  intro w f args w' he
  obtain ⟨x, w2, hx⟩ := h w
  rw [hx] at he; cases he
theorem pure_NE {ρ : Operand → Value} {o : Oper} (hp : pureB o.op = true) : NE P (execOp ρ o) := by
  unfold execOp
  cases hop : o.op <;> simp only [hop, pureB, Bool.false_eq_true] at hp ⊢
  case nilCheck x =>
    repeat' (first | exact NE.pureVal _ | (intro w f args w' h; simp at h; done) | split | refine NE.bind _ _ (fun _ => ?_))
  case call c =>
    cases hc : c.callee <;> simp only [hc, Bool.false_eq_true] at hp
    case builtin b =>
      cases b <;> simp only [Bool.false_eq_true] at hp <;> (simp only [resolve, hc, pure_bind]; exact NE.val _)
  all_goals first | exact NE.val _ | exact NE.pureVal _ | exact NE.bind _ _ (fun _ => NE.pureVal _)

theorem sits_of_quiet {o : Oper} {a : Act} {v : Value} (hp : pureB o.op = true) (h : ∀ w, C w → o.quietAt P a C w v) : sits P o a C v := by
  intro w hw
  have h1 := h w hw
  unfold Oper.quietAt at h1
  have h2 := pure_NE (P := P) (ρ := a.eval) hp w
  generalize (execOp a.eval o).run P w = r at *
  cases r with
  | ok n w' =>
    cases n <;> simp only [Oper.quietUpon] at h1 <;> simp only [sitsUpon]
    · exact h1
    · exact h1
    · exact (h2 _ _ _ rfl).elim
  | halt x w' => simp only [Oper.quietUpon] at h1

section
variable {Q : Act → World → Prop} {a : Act} {w : World} {o : Oper} {rest : List Oper}
theorem wpSeq_nil (h : Q a w) : wpSeq P ops C Q [] a w := h
/-- An operation that only reckons or reads: as in a quiet region. -/
theorem wpSeq_pure (hp : pureB o.op = true) (h : ∀ Kq : Act → Prop, (∀ a', wpSeq P ops C Q rest a' w → Kq a') → wpQuiet P ops C Kq [o] a) : wpSeq P ops C Q (o :: rest) a w := by
  have h := h (fun a' => wpSeq P ops C Q rest a' w) (fun _ h => h)
  unfold wpQuiet at h
  unfold wpSeq
  split
  · rename_i hw
    rw [if_pos hw] at h
    obtain ⟨v, h1, h2⟩ := h
    first | (rw [if_pos hp]; exact ⟨v, sits_of_quiet hp h1, h2⟩) | exact ⟨v, sits_of_quiet hp h1, h2⟩
  · rename_i hw
    rw [if_neg hw] at h
    exact h
/-- An operation that acts: as in a region that does not draw. -/
theorem wpSeq_act (hp : pureB o.op = false) (h : ∀ Q' : Exit → Act → World → Prop, (∀ a' w', a'.defers = a.defers → C w' → wpSeq P ops C Q rest a' w' → Q' .normal a' w') → wpList P ops Q' [o] a w) : wpSeq P ops C Q (o :: rest) a w := by
  have h := h (fun e a' w' => e = .normal ∧ a'.defers = a.defers ∧ C w' ∧ wpSeq P ops C Q rest a' w') (fun a' w' h1 h2 h3 => ⟨rfl, h1, h2, h3⟩)
  unfold wpList at h
  unfold wpSeq
  split
  · rename_i hw
    rw [if_pos hw] at h
    simp only [hp, Bool.false_eq_true, if_false]
    rcases h with h | ⟨_, a', w', h, _⟩
    · unfold Oper.wp at h
      unfold goes
      generalize (execOp a.eval o).run P w = r at *
      cases r with
      | ok n w' =>
        cases n <;> simp only [Oper.upon] at h <;> simp only [goesUpon]
        case value v => exact ⟨h.2.2.1, h.2.2.2⟩
        case skip => exact ⟨h.2.2.1, h.2.2.2⟩
        case defer d =>
          have := h.2.1
          exfalso
          have e1 : (({ a with defers := d :: a.defers } : Act).put o.dst undef).defers = d :: a.defers := by unfold Act.put; split <;> rfl
          rw [e1] at this
          exact absurd (congrArg List.length this) (by simp)
        case enter f args =>
          refine h.mono fun e w'' he => ?_
          cases e with
          | returned v => exact ⟨v, rfl, he.2.2.1, he.2.2.2⟩
          | panicked c => cases he.1
          | outgrown => obtain ⟨_, _, he, _⟩ := he; cases he
        case row row args => exact Rows.mono h fun v w'' he => ⟨he.2.2.1, he.2.2.2⟩
      | halt x w' => cases x <;> simp only [Oper.upon] at h <;> cases h.1
    · cases h
  · rename_i hw
    rw [if_neg hw] at h
    exact h.2.2.2
end
theorem wp_region_seqw {id : Nat} {Q : Exit → Act → World → Prop} {a : Act} {w : World} {l : List Oper} (hm : P.follows .mixedOrders = true) (hB : seqB l.toArray = true)
    (h : wpSeq P l.toArray (fun w' => ∃ x, w' = ext w x) (fun a' w' => Q .normal a' w') l a w.drew) : (Code.region id l.toArray true).wp P Q a w :=
  wp_region_seq (C := fun w' => ∃ x, w' = ext w x) hm hB (Ext.refl w).drew (by simpa using h)
theorem wp_region_seqe {id : Nat} {Q : Exit → Act → World → Prop} {a : Act} {W : World} {z : Nx} {l : List Oper} (hm : P.follows .mixedOrders = true) (hB : seqB l.toArray = true)
    (h : wpSeq P l.toArray (fun w' => ∃ x, w' = ext W x) (fun a' w' => Q .normal a' w') l a (ext W z.drew)) : (Code.region id l.toArray true).wp P Q a (ext W z) :=
  wp_region_seq (C := fun w' => ∃ x, w' = ext W x) hm hB ⟨z.drew, rfl⟩ (by simpa using h)
/-- Where no operation reads a cell: nothing need be said of the worlds. -/
theorem wp_region_seqT {id : Nat} {Q : Exit → Act → World → Prop} {a : Act} {w : World} {l : List Oper} (hm : P.follows .mixedOrders = true) (hB : seqB l.toArray = true)
    (h : wpSeq P l.toArray (fun _ => True) (fun a' w' => Q .normal a' w') l a w.drew) : (Code.region id l.toArray true).wp P Q a w :=
  wp_region_seq (C := fun _ => True) hm hB trivial (by simpa using h)

end
end Go.Proofs.Ytngehfhcnfobbaa
namespace Go.Proofs.Ytngehfhcnfobbaa
open Go Go.RowKit





end Go.Proofs.Ytngehfhcnfobbaa
namespace Go.Proofs.Ytngehfhcnfobbaa
open Go Go.RowKit





end Go.Proofs.Ytngehfhcnfobbaa
namespace Go.Proofs.Ytngehfhcnfobbaa
open Go Go.RowKit

/-- Parts of a slice. -/
theorem SlRd.pre {α : Type} [Lay α] {w : World} {a : Option Addr} {len cap : Nat} {l : List α} (h : SlRd w a len cap l) {k : Nat} (hk : k ≤ len) : SlRd w a k cap (l.take k) := by
  obtain ⟨h1, h2, h3, h4, h5⟩ := h
  refine ⟨by rw [List.length_take]; omega, by omega, h3, h4, fun i d hd => ?_⟩
  rw [List.getElem?_take] at hd
  split at hd
  · exact h5 i d hd
  · cases hd
theorem SlRd.suf {α : Type} [Lay α] {w : World} {b off len cap : Nat} {l : List α} (h : SlRd w (some ⟨b, off, none⟩) len cap l) {i : Nat} (hi : i ≤ len) : SlRd w (some ⟨b, off + i * Lay.n α, none⟩) (len - i) (cap - i) (l.drop i) := by
  obtain ⟨h1, h2, h3, h4, h5⟩ := h
  refine ⟨by rw [List.length_drop]; omega, by omega, by omega, (fun h => by cases h), fun k d hd => ?_⟩
  rw [List.getElem?_drop] at hd
  obtain ⟨b', off', ys, r1, r2, r3, r4⟩ := h5 _ d hd
  simp only [Option.some.injEq, Addr.mk.injEq, and_true] at r1
  obtain ⟨rfl, rfl⟩ := r1
  refine ⟨_, _, ys, rfl, r2, fun t u hu => ?_, r4⟩
  have := r3 t u hu
  rw [Nat.add_mul, ← Nat.add_assoc] at this
  exact this
theorem SlRd.none {α : Type} [Lay α] {w : World} {a : Option Addr} {c : Nat} (hc : c ≤ maxLen) (ha : a = .none → c = 0) : SlRd w a 0 c ([] : List α) :=
  ⟨rfl, Nat.zero_le _, hc, ha, fun i d h => by simp at h⟩

theorem cloneA_int (a : Option Addr) (len cap : Nat) (l : List Int) (w : World) (h : SlRd w a len cap l) (hm : len ≤ 1000000000) :
    Calls Try.prog 31 #[.slice a len cap] w fun e w' => ∃ v, e = .returned v ∧ AccF w.heap.size 3 w' v l ∧ Ext w w' := by
  obtain ⟨xs, hs, hr⟩ := h.row
  have hl : xs.length = len * 1 := by have := hr.1; rw [h.1] at this; exact this
  refine (clone_int a len cap xs w hs hl hr.one h.2.1 h.2.2.2.1 hm).mono ?_
  rintro _ w' ⟨v, rfl, ho, hE⟩
  exact ⟨v, rfl, AccF.of ho (hr.any _) h.1, hE⟩



end Go.Proofs.Ytngehfhcnfobbaa
namespace Go.Proofs.Ytngehfhcnfobbaa
open Go Go.RowKit

/-- Operations that read memory. -/
def loadB : Op → Bool
  | .load .. => true
  | .call c => match c.callee with
    | .builtin .len | .builtin .cap => true
    | _ => false
  | _ => false
/-- Operations behind which the world need not be of the class. -/
def brkB : Op → Bool
  | .store .. => true
  | .call c => match c.callee with
    | .builtin .append | .builtin .copy => true
    | _ => false
  | _ => false
/-- In which worlds an operation that only reckons or reads is to yield its value. -/
def clsOf (C : World → Prop) (o : Oper) : World → Prop := if loadB o.op = true then C else fun _ => True

section
variable {P : Program} {ops : Array Oper} {md : Region.Mode} {C : World → Prop}

def tOp (P : Program) (ops : Array Oper) (C : World → Prop) (i : Nat) (K : Act → World → Prop) (a : Act) (w : World) : Prop :=
  match ops[i]? with
  | none => K a w
  | some o => if Region.wanted o (yielded ops a.tmps) then (if pureB o.op then ∃ v, sits P o a (clsOf C o) v ∧ K (a.put o.dst v) w else goes P o a w fun v w' => (brkB o.op = false → C w') ∧ K (a.put o.dst v) w') else K (a.put o.dst undef) w
def wpAnyT (P : Program) (md : Region.Mode) (ops : Array Oper) (C : World → Prop) (Q : Act → World → Prop) : Nat → Array Bool → Act → World → Prop
  | 0, listed, a, w => Region.ready md ops listed = [] ∧ Q a w
  | fuel + 1, listed, a, w => (Region.ready md ops listed = [] → Q a w) ∧ ∀ i ∈ Region.ready md ops listed, tOp P ops C i (wpAnyT P md ops C Q fuel (listed.setIfInBounds i true)) a w

/-- What reading operation is still to come holds the world in the class. -/
def Pend (ops : Array Oper) (C : World → Prop) (listed : Array Bool) (w : World) : Prop := ∀ l o, ops[l]? = some o → loadB o.op = true → listed.getD l true = false → C w
def tailB (md : Region.Mode) (ops : Array Oper) : Bool :=
  (List.range ops.size).all fun i => (List.range ops.size).all fun j => match ops[i]?, ops[j]? with
    | some oi, some oj => !(loadB oi.op && brkB oj.op) || reachB md ops ops.size i j
    | _, _ => true
theorem tailB_spec (h : tailB md ops = true) {i j : Nat} {oi oj : Oper} (hi : ops[i]? = some oi) (hj : ops[j]? = some oj) (hl : loadB oi.op = true) (hb : brkB oj.op = true) : reachB md ops ops.size i j = true := by
  have h1 := List.all_eq_true.1 h i (List.mem_range.2 (Array.getElem?_eq_some_iff.1 hi).1)
  have h2 := List.all_eq_true.1 h1 j (List.mem_range.2 (Array.getElem?_eq_some_iff.1 hj).1)
  simpa [hi, hj, hl, hb] using h2
theorem Pend.next {listed : Array Bool} {w w' : World} {i : Nat} {oi : Oper} (h : Pend ops C listed w) (ht : tailB md ops = true) (hcl : Closed md ops listed) (hi : ops[i]? = some oi) (hr : i ∈ Region.ready md ops listed)
    (hw : C w → brkB oi.op = false → C w') : Pend ops C (listed.setIfInBounds i true) w' := by
  intro l o ho hl hu
  by_cases hli : i = l
  · subst hli
    exfalso
    rcases Nat.lt_or_ge i listed.size with h' | h'
    · simp [h'] at hu
    · simp at hu
  · rw [getD_set_ne true hli] at hu
    have hc := h l o ho hl hu
    cases hb : brkB oi.op
    · exact hw hc hb
    · exact absurd hr (not_ready hcl (tailB_spec ht ho hi hl hb) hu)

theorem tOp_mono {i : Nat} {a : Act} {w : World} {K K' : Act → World → Prop} (h : ∀ a w, K a w → K' a w) (hh : tOp P ops C i K a w) : tOp P ops C i K' a w := by
  unfold tOp at *
  split
  · exact h _ _ (by simpa [*] using hh)
  · rename_i o ho
    simp only [ho] at hh
    split
    · rename_i hw
      simp only [hw, if_true] at hh
      split
      · rename_i hp; simp only [hp, if_true] at hh; obtain ⟨v, h1, h2⟩ := hh; exact ⟨v, h1, h _ _ h2⟩
      · rename_i hp; simp only [hp] at hh; exact goes_mono (fun v w' ⟨h1, h2⟩ => ⟨h1, h _ _ h2⟩) hh
    · rename_i hw; simp only [hw] at hh; exact h _ _ hh
theorem tOp_monoC {i : Nat} {oi : Oper} (hi : ops[i]? = some oi) {a : Act} {w : World} {K K' : Act → World → Prop} (h : ∀ a w', (C w → brkB oi.op = false → C w') → K a w' → K' a w') (hh : tOp P ops C i K a w) : tOp P ops C i K' a w := by
  unfold tOp at *
  simp only [hi] at hh ⊢
  split
  · rename_i hw
    simp only [hw, if_true] at hh
    split
    · rename_i hp; simp only [hp, if_true] at hh; obtain ⟨v, h1, h2⟩ := hh; exact ⟨v, h1, h _ _ (fun c _ => c) h2⟩
    · rename_i hp; simp only [hp] at hh; exact goes_mono (fun v w' ⟨h1, h2⟩ => ⟨h1, h _ _ (fun _ b => h1 b) h2⟩) hh
  · rename_i hw; simp only [hw] at hh; exact h _ _ (fun c _ => c) hh

theorem clsOf_at {o : Oper} {w : World} (h : loadB o.op = true → C w) : clsOf C o w := by
  unfold clsOf
  split
  · exact h (by assumption)
  · trivial
theorem wpOp_of_tOp {Q' : Exit → Act → World → Prop} {i : Nat} {oi : Oper} (hi : ops[i]? = some oi) {a : Act} {w : World} {K K' : Act → World → Prop} (hC : loadB oi.op = true → C w) (h : ∀ a w', (C w → brkB oi.op = false → C w') → K a w' → K' a w') (hh : tOp P ops C i K a w) : wpOp P ops Q' i K' a w := by
  unfold tOp at hh
  unfold wpOp
  simp only [hi] at hh ⊢
  split
  · rename_i hw
    simp only [hw, if_true] at hh
    refine .inl ?_
    unfold Oper.wp
    split at hh
    · obtain ⟨v, h1, h2⟩ := hh
      have h3 := h1 w (clsOf_at hC)
      generalize (execOp a.eval oi).run P w = r at *
      cases r with
      | ok n w' =>
        cases n <;> simp only [sitsUpon] at h3 <;> simp only [Oper.upon]
        · rw [h3.1, h3.2]; exact h _ _ (fun c _ => c) h2
        · rw [h3.1, ← h3.2]; exact h _ _ (fun c _ => c) h2
      | halt x w' => simp only [sitsUpon] at h3
    · unfold goes at hh
      generalize (execOp a.eval oi).run P w = r at *
      cases r with
      | ok n w' =>
        cases n <;> simp only [goesUpon] at hh <;> simp only [Oper.upon]
        · exact h _ _ (fun _ b => hh.1 b) hh.2
        · exact h _ _ (fun _ b => hh.1 b) hh.2
        · exact hh.mono fun e w'' ⟨v, he, h1, h2⟩ => by subst he; exact h _ _ (fun _ b => h1 b) h2
        · exact Rows.mono hh fun v w'' ⟨h1, h2⟩ => h _ _ (fun _ b => h1 b) h2
      | halt x w' => simp only [goesUpon] at hh
  · rename_i hw; simp only [hw] at hh; exact h _ _ (fun c _ => c) hh

theorem ready_some {listed : Array Bool} {i : Nat} (h : i ∈ Region.ready md ops listed) : ∃ o, ops[i]? = some o := by
  obtain ⟨_, o, ho, _⟩ := mem_ready.1 h
  exact ⟨o, ho⟩
theorem ready_un {listed : Array Bool} {i : Nat} (h : i ∈ Region.ready md ops listed) : listed.getD i true = false := (mem_ready.1 h).1

theorem wpAny_of_T {Q : Act → World → Prop} {Q' : Exit → Act → World → Prop} (ht : tailB md ops = true) (hQ : ∀ a w, Q a w → Q' .normal a w) : ∀ (fuel : Nat) (listed : Array Bool) (a : Act) (w : World), Pend ops C listed w → Closed md ops listed →
    wpAnyT P md ops C Q fuel listed a w → wpAny P md ops Q' fuel listed a w
  | 0, _, _, _, _, _, h => ⟨h.1, hQ _ _ h.2⟩
  | fuel + 1, _, _, _, hw, hcl, h => ⟨fun h0 => hQ _ _ (h.1 h0), fun i hi => by
      obtain ⟨oi, ho⟩ := ready_some hi
      exact wpOp_of_tOp ho (fun hl => hw i oi ho hl (ready_un hi)) (fun a' w' hw' hk => wpAny_of_T ht hQ fuel _ a' w' (hw.next ht hcl ho hi hw') (hcl.set hi) hk) (h.2 i hi)⟩

theorem tOp_some {i : Nat} {a : Act} {w : World} {K : Act → World → Prop} (hh : tOp P ops C i K a w) : ∃ a' w', K a' w' := by
  unfold tOp at hh
  split at hh
  · exact ⟨_, _, hh⟩
  · split at hh
    · split at hh
      · obtain ⟨v, _, h⟩ := hh; exact ⟨_, _, h⟩
      · obtain ⟨v, w', _, h⟩ := goes_some hh; exact ⟨_, _, h⟩
    · exact ⟨_, _, hh⟩

theorem tOp_of_yl {i : Nat} {o : Oper} {v : Value} {a : Act} {w : World} {K : Act → World → Prop} (hi : ops[i]? = some o) (hy : yl P ops (clsOf C o) o v a) (h : K (a.put o.dst v) w) : tOp P ops C i K a w := by
  unfold tOp
  simp only [hi]
  rcases hy with ⟨h1, h2, h3⟩ | ⟨h1, rfl⟩
  · simp only [h1, h2, if_true]; exact ⟨v, h3, h⟩
  · simp only [h1, Bool.false_eq_true, if_false]; exact h

theorem tOp_swap {i j : Nat} {oi oj : Oper} (hi : ops[i]? = some oi) (hj : ops[j]? = some oj) (hap : oi.apart ops oj = true) (hsi : ∀ cs b, oi.op ≠ .select cs b) (hsj : ∀ cs b, oj.op ≠ .select cs b)
    (hp : pureB oi.op = true ∨ pureB oj.op = true) {K : Act → World → Prop} {a : Act} {w : World} (hC : loadB oj.op = true → C w) (H : tOp P ops C i (fun a' w' => tOp P ops C j K a' w') a w) : tOp P ops C j (fun a' w' => tOp P ops C i K a' w') a w := by
  obtain ⟨h1, h2, h3⟩ := Oper.apart_spec hap
  by_cases hq : ∃ v, yl P ops (clsOf C oi) oi v a ∧ tOp P ops C j K (a.put oi.dst v) w
  · obtain ⟨v, hy, H'⟩ := hq
    unfold tOp at H'
    unfold tOp
    simp only [hj] at H' ⊢
    rw [wanted_put oj a oi.dst v h1] at H'
    split
    · rename_i hw
      simp only [hw, if_true] at H'
      split
      · rename_i hpj
        simp only [hpj, if_true] at H'
        obtain ⟨u, hu, hk⟩ := H'
        exact ⟨u, (sits_put hsj h1).1 hu, tOp_of_yl hi (yl_put hsi h3 hy) (by rw [← Act.put_comm a v u h2]; exact hk)⟩
      · rename_i hpj
        simp only [hpj] at H'
        exact goes_mono (fun u w' ⟨c, hk⟩ => ⟨c, tOp_of_yl hi (yl_put hsi h3 hy) (by rw [← Act.put_comm a v u h2]; exact hk)⟩) ((goes_put hsj h1).1 H')
    · rename_i hw
      simp only [hw] at H'
      exact tOp_of_yl hi (yl_put hsi h3 hy) (by rw [← Act.put_comm a v undef h2]; exact H')
  · unfold tOp at H
    simp only [hi] at H
    by_cases hw : Region.wanted oi (yielded ops a.tmps) = true
    · simp only [hw, if_true] at H
      by_cases hpi : pureB oi.op = true
      · simp only [hpi, if_true] at H
        obtain ⟨v, h, k⟩ := H
        exact absurd ⟨v, .inl ⟨hw, hpi, h⟩, k⟩ hq
      · simp only [hpi] at H
        have hpj := hp.resolve_left hpi
        by_cases hwj : Region.wanted oj (yielded ops a.tmps) = true
        · obtain ⟨v0, w0, c0, s0⟩ := goes_some H
          simp only [hj] at s0
          rw [wanted_put oj a oi.dst v0 h1] at s0
          simp only [hwj, hpj, if_true] at s0
          obtain ⟨u, hu, _⟩ := s0
          have hu := (sits_put hsj h1).1 hu
          unfold tOp
          simp only [hj, hwj, hpj, if_true]
          refine ⟨u, hu, ?_⟩
          simp only [hi]
          rw [wanted_put oi a oj.dst u h3]
          simp only [hw, if_true, hpi]
          refine (goes_put hsi h3).2 (goes_mono (fun v w' ⟨c, hk⟩ => ⟨c, ?_⟩) H)
          simp only [hj] at hk
          rw [wanted_put oj a oi.dst v h1] at hk
          simp only [hwj, hpj, if_true] at hk
          obtain ⟨u', hu', hk⟩ := hk
          obtain rfl := sits_one (clsOf_at hC) ((sits_put hsj h1).1 hu') hu
          rw [← Act.put_comm a v u' h2]; exact hk
        · unfold tOp
          simp only [hj, hwj]
          simp only [hi]
          rw [wanted_put oi a oj.dst undef h3]
          simp only [hw, if_true, hpi]
          refine (goes_put hsi h3).2 (goes_mono (fun v w' ⟨c, hk⟩ => ⟨c, ?_⟩) H)
          simp only [hj] at hk
          rw [wanted_put oj a oi.dst v h1] at hk
          simp only [hwj] at hk
          rw [← Act.put_comm a v undef h2]; exact hk
    · simp only [hw] at H
      exact absurd ⟨undef, .inr ⟨by simpa using hw, rfl⟩, H⟩ hq

theorem wpAnyT_first {Q : Act → World → Prop} (ht : tailB md ops = true) {i : Nat} {oi : Oper} (hi : ops[i]? = some oi) (hsel : ∀ (j : Nat) (o : Oper) cs b, ops[j]? = some o → o.op ≠ .select cs b) :
    ∀ (fuel : Nat) (listed : Array Bool) (a : Act) (w : World), Pend ops C listed w → Closed md ops listed →
      (∀ j oj, ops[j]? = some oj → j ≠ i → listed.getD j true = false → (∀ e ∈ oj.after, Region.binds md e = true → e.on ≠ i) → oi.apart ops oj = true) →
      (∀ j oj, ops[j]? = some oj → j ≠ i → listed.getD j true = false → pureB oi.op = true ∨ pureB oj.op = true ∨ reachB md ops ops.size i j = true) →
      i ∈ Region.ready md ops listed → tOp P ops C i (wpAnyT P md ops C Q fuel (listed.setIfInBounds i true)) a w → wpAnyT P md ops C Q (fuel + 1) listed a w := by
  intro fuel
  induction fuel with
  | zero =>
    intro listed a w _ _ _ _ hr H
    refine ⟨fun h => (by rw [h] at hr; cases hr), fun j hj => ?_⟩
    by_cases hji : j = i
    · subst hji; exact H
    · obtain ⟨_, _, h⟩ := tOp_some H
      have := ready_mono hj hji
      rw [h.1] at this
      cases this
  | succ fuel ih =>
    intro listed a w hC hcl hfree hser hr H
    refine ⟨fun h => (by rw [h] at hr; cases hr), fun j hj => ?_⟩
    by_cases hji : j = i
    · subst hji; exact H
    · obtain ⟨hjun, oj, hoj, hall⟩ := mem_ready.1 hj
      have hi0 := (mem_ready.1 hr).1
      have hnot : ∀ e ∈ oj.after, Region.binds md e = true → e.on ≠ i := fun e he hb heq => by
        have h1 := hall e he hb
        rw [heq] at h1
        rcases Nat.lt_or_ge i listed.size with h' | h'
        · simp [h'] at hi0 h1; rw [hi0] at h1; cases h1
        · simp [Array.getElem?_eq_none h'] at h1
      have hp : pureB oi.op = true ∨ pureB oj.op = true := by
        rcases hser j oj hoj hji hjun with h | h | h
        · exact .inl h
        · exact .inr h
        · exact absurd hj (not_ready hcl h hi0)
      have H1 : tOp P ops C i (fun a' w' => tOp P ops C j (wpAnyT P md ops C Q fuel ((listed.setIfInBounds i true).setIfInBounds j true)) a' w') a w :=
        tOp_mono (fun a' w' h => h.2 j (ready_mono hj hji)) H
      have H2 := tOp_swap hi hoj (hfree j oj hoj hji hjun hnot) (fun cs b => hsel i oi cs b hi) (fun cs b => hsel j oj cs b hoj) hp (fun hl => hC j oj hoj hl hjun) H1
      refine tOp_monoC hoj (fun a' w' hC' h => ih (listed.setIfInBounds j true) a' w' (hC.next ht hcl hoj hj hC') (hcl.set hj) ?_ ?_ (ready_mono hr (Ne.symm hji)) ?_) H2
      · intro k ok hk hki hun hno
        refine hfree k ok hk hki ?_ hno
        by_cases hjk : j = k
        · subst hjk; exact hjun
        · rw [getD_set_ne true hjk] at hun; exact hun
      · intro k ok hk hki hun
        refine hser k ok hk hki ?_
        by_cases hjk : j = k
        · subst hjk; exact hjun
        · rw [getD_set_ne true hjk] at hun; exact hun
      · rw [Array.setIfInBounds_comm _ _ hji]; exact h

/-- The walk in the order of the text. -/
def wpSeqS (P : Program) (ops : Array Oper) (C : World → Prop) (Q : Act → World → Prop) : List Oper → Act → World → Prop
  | [], a, w => Q a w
  | o :: rest, a, w => if Region.wanted o (yielded ops a.tmps) then (if pureB o.op then ∃ v, sits P o a (clsOf C o) v ∧ wpSeqS P ops C Q rest (a.put o.dst v) w else goes P o a w fun v w' => (brkB o.op = false → C w') ∧ wpSeqS P ops C Q rest (a.put o.dst v) w') else wpSeqS P ops C Q rest (a.put o.dst undef) w

theorem wpAnyT_lex {Q : Act → World → Prop} (ht : tailB md ops = true) (hs : Region.noSelect ops = true) (hser : serB md ops = true) : ∀ (l : List Oper) (k : Nat) (listed : Array Bool) (a : Act) (w : World), Pend ops C listed w → Closed md ops listed →
    (∀ j, l[j]? = ops[k + j]?) → (∀ j, listed.getD j true = false → k ≤ j) → Region.lexFrom md ops l.length k listed = true → wpSeqS P ops C Q l a w → wpAnyT P md ops C Q l.length listed a w
  | [], _, _, _, _, _, _, _, _, hB, h => ⟨by simpa [Region.lexFrom] using hB, h⟩
  | o :: l, k, listed, a, w, hC, hcl, hl, hun, hB, h => by
    have h0 : ops[k]? = some o := by simpa using (hl 0).symm
    simp only [List.length_cons, Region.lexFrom, Bool.and_eq_true] at hB
    obtain ⟨⟨hr, hf⟩, hB'⟩ := hB
    have hr : k ∈ Region.ready md ops listed := by simpa using hr
    have hst : tOp P ops C k (wpSeqS P ops C Q l) a w := by unfold tOp; simp only [h0]; exact h
    refine wpAnyT_first ht h0 (Region.noSelect_spec hs) l.length listed a w hC hcl (Region.free_spec h0 hf) ?_ hr (tOp_monoC h0 (fun a' w' hC' h' => wpAnyT_lex ht hs hser l (k + 1) _ a' w' (hC.next ht hcl h0 hr hC') (hcl.set hr) ?_ ?_ hB' h') hst)
    · intro j oj hj hjk hju
      have hkj : k < j := by have := hun j hju; omega
      have h1 := List.all_eq_true.1 hser k (List.mem_range.2 (Array.getElem?_eq_some_iff.1 h0).1)
      have h2 := List.all_eq_true.1 h1 j (List.mem_range.2 (Array.getElem?_eq_some_iff.1 hj).1)
      simp only [Bool.or_eq_true, Bool.not_eq_true', decide_eq_false_iff_not, opPure, h0, hj] at h2
      rcases h2 with ((h2 | h2) | h2) | h2
      · exact absurd hkj h2
      · exact .inl h2
      · exact .inr (.inl h2)
      · exact .inr (.inr h2)
    · intro j; have := hl (j + 1); simpa [Nat.add_assoc, Nat.add_comm 1 j] using this
    · intro j hj
      by_cases hkj : k = j
      · subst hkj
        exfalso
        rcases Nat.lt_or_ge k listed.size with h' | h'
        · simp [h'] at hj
        · simp at hj
      · rw [getD_set_ne true hkj] at hj
        have := hun j hj
        omega

def seqSB (ops : Array Oper) : Bool := seqB ops && tailB .any ops
/-- A region that draws its order, whatever acts in it standing in one order, its stores behind what is read. -/
theorem wp_region_seqS {id : Nat} {Q : Exit → Act → World → Prop} {a : Act} {w : World} (hm : P.follows .mixedOrders = true) (hB : seqSB ops = true) (hC : C w.drew)
    (h : wpSeqS P ops C (fun a' w' => Q .normal a' w') ops.toList a w.drew) : (Code.region id ops true).wp P Q a w := by
  simp only [seqSB, seqB, Region.lexB, Bool.and_eq_true] at hB
  obtain ⟨hB, ht⟩ := hB
  have hcl : Closed .any ops (Array.replicate ops.size false) := by
    intro j o _ hj
    rcases Nat.lt_or_ge j ops.size with h' | h'
    · simp [h'] at hj
    · simp [Nat.not_lt.2 h'] at hj
  refine wp_region_any hm (wpAny_of_T (C := C) (Q := fun a' w' => Q .normal a' w') ht (fun _ _ h => h) _ _ _ _ (fun _ _ _ _ _ => hC) hcl ?_)
  have := wpAnyT_lex (C := C) (md := .any) ht hB.1.1 hB.2 ops.toList 0 (Array.replicate ops.size false) a w.drew (fun _ _ _ _ _ => hC) hcl (by simp) (fun j _ => Nat.zero_le _) (by simpa using hB.1.2) h
  simpa using this

section
variable {Q : Act → World → Prop} {a : Act} {w : World} {o : Oper} {rest : List Oper}
theorem wpSeqS_nil (h : Q a w) : wpSeqS P ops C Q [] a w := h
theorem wpSeqS_cls {D : World → Prop} (hp : pureB o.op = true) (hD : clsOf C o = D) (h : ∀ Kq : Act → Prop, (∀ a', wpSeqS P ops C Q rest a' w → Kq a') → wpQuiet P ops D Kq [o] a) : wpSeqS P ops C Q (o :: rest) a w := by
  subst hD
  have h := h (fun a' => wpSeqS P ops C Q rest a' w) (fun _ h => h)
  unfold wpQuiet at h
  unfold wpSeqS
  split
  · rename_i hw
    rw [if_pos hw] at h
    obtain ⟨v, h1, h2⟩ := h
    first | (rw [if_pos hp]; exact ⟨v, sits_of_quiet hp h1, h2⟩) | exact ⟨v, sits_of_quiet hp h1, h2⟩
  · rename_i hw
    rw [if_neg hw] at h
    exact h
/-- An operation that only reckons. -/
theorem wpSeqS_pure (hp : (pureB o.op && !loadB o.op) = true) (h : ∀ Kq : Act → Prop, (∀ a', wpSeqS P ops C Q rest a' w → Kq a') → wpQuiet P ops (fun _ => True) Kq [o] a) : wpSeqS P ops C Q (o :: rest) a w := by
  simp only [Bool.and_eq_true, Bool.not_eq_true'] at hp
  exact wpSeqS_cls hp.1 (by unfold clsOf; rw [hp.2]; simp) h
/-- An operation that reads. -/
theorem wpSeqS_load (hp : (pureB o.op && loadB o.op) = true) (h : ∀ Kq : Act → Prop, (∀ a', wpSeqS P ops C Q rest a' w → Kq a') → wpQuiet P ops C Kq [o] a) : wpSeqS P ops C Q (o :: rest) a w := by
  simp only [Bool.and_eq_true] at hp
  exact wpSeqS_cls hp.1 (by unfold clsOf; rw [hp.2]; simp) h
/-- An operation that acts: as in a region that does not draw. -/
theorem wpSeqS_act (hp : pureB o.op = false) (h : ∀ Q' : Exit → Act → World → Prop, (∀ a' w', a'.defers = a.defers → (brkB o.op = false → C w') → wpSeqS P ops C Q rest a' w' → Q' .normal a' w') → wpList P ops Q' [o] a w) : wpSeqS P ops C Q (o :: rest) a w := by
  have h := h (fun e a' w' => e = .normal ∧ a'.defers = a.defers ∧ (brkB o.op = false → C w') ∧ wpSeqS P ops C Q rest a' w') (fun a' w' h1 h2 h3 => ⟨rfl, h1, h2, h3⟩)
  unfold wpList at h
  unfold wpSeqS
  split
  · rename_i hw
    rw [if_pos hw] at h
    simp only [hp, Bool.false_eq_true, if_false]
    rcases h with h | ⟨_, a', w', h, _⟩
    · unfold Oper.wp at h
      unfold goes
      generalize (execOp a.eval o).run P w = r at *
      cases r with
      | ok n w' =>
        cases n <;> simp only [Oper.upon] at h <;> simp only [goesUpon]
        case value v => exact ⟨h.2.2.1, h.2.2.2⟩
        case skip => exact ⟨h.2.2.1, h.2.2.2⟩
        case defer d =>
          have := h.2.1
          exfalso
          have e1 : (({ a with defers := d :: a.defers } : Act).put o.dst undef).defers = d :: a.defers := by unfold Act.put; split <;> rfl
          rw [e1] at this
          exact absurd (congrArg List.length this) (by simp)
        case enter f args =>
          refine h.mono fun e w'' he => ?_
          cases e with
          | returned v => exact ⟨v, rfl, he.2.2.1, he.2.2.2⟩
          | panicked c => cases he.1
          | outgrown => obtain ⟨_, _, he, _⟩ := he; cases he
        case row row args => exact Rows.mono h fun v w'' he => ⟨he.2.2.1, he.2.2.2⟩
      | halt x w' => cases x <;> simp only [Oper.upon] at h <;> cases h.1
    · cases h
  · rename_i hw
    rw [if_neg hw] at h
    exact h.2.2.2
end
theorem wp_region_seqSw {id : Nat} {Q : Exit → Act → World → Prop} {a : Act} {w : World} {l : List Oper} (hm : P.follows .mixedOrders = true) (hB : seqSB l.toArray = true)
    (h : wpSeqS P l.toArray (fun w' => ∃ x, w' = ext w x) (fun a' w' => Q .normal a' w') l a w.drew) : (Code.region id l.toArray true).wp P Q a w :=
  wp_region_seqS (C := fun w' => ∃ x, w' = ext w x) hm hB (Ext.refl w).drew (by simpa using h)
theorem wp_region_seqSe {id : Nat} {Q : Exit → Act → World → Prop} {a : Act} {W : World} {z : Nx} {l : List Oper} (hm : P.follows .mixedOrders = true) (hB : seqSB l.toArray = true)
    (h : wpSeqS P l.toArray (fun w' => ∃ x, w' = ext W x) (fun a' w' => Q .normal a' w') l a (ext W z.drew)) : (Code.region id l.toArray true).wp P Q a (ext W z) :=
  wp_region_seqS (C := fun w' => ∃ x, w' = ext W x) hm hB ⟨z.drew, rfl⟩ (by simpa using h)
end
end Go.Proofs.Ytngehfhcnfobbaa
namespace Go.Proofs.Ytngehfhcnfobbaa
open Go Go.RowKit

theorem ret_bool {a b : Bool} (h : a = b) : Ending.returned (.bool a) = .returned (.bool b) := by rw [h]
theorem ret_int {k : IntKind} {a b : Int} (h : a = b) : Ending.returned (.int k a) = .returned (.int k b) := by rw [h]

/-- How many addresses agree in so many bits. -/
def rsz (b : Int) : Int := 2 ^ (8 - b).toNat
def rok (f b : Int) : Bool := decide (0 ≤ b ∧ b ≤ 8 ∧ 0 ≤ f ∧ f ≤ 255 ∧ f % rsz b = 0)
def inB (n lo hi : Int) : Bool := decide (lo ≤ n ∧ n ≤ hi)

theorem inB_true {n lo hi : Int} : inB n lo hi = true ↔ lo ≤ n ∧ n ≤ hi := by simp [inB]
theorem inB_false {n lo hi : Int} : inB n lo hi = false ↔ ¬ (lo ≤ n ∧ n ≤ hi) := by simp [inB]
theorem inB_t {n lo hi : Int} (h : lo ≤ n) (k : n ≤ hi) : inB n lo hi = true := inB_true.2 ⟨h, k⟩
theorem inB_f {n lo hi : Int} (h : ¬ (lo ≤ n ∧ n ≤ hi)) : inB n lo hi = false := inB_false.2 h

theorem eight {b : Int} (h0 : 0 ≤ b) (h1 : b ≤ 8) : b = 0 ∨ b = 1 ∨ b = 2 ∨ b = 3 ∨ b = 4 ∨ b = 5 ∨ b = 6 ∨ b = 7 ∨ b = 8 := by omega
theorem rsz_bd {b : Int} (h0 : 0 ≤ b) (h1 : b ≤ 8) : 1 ≤ rsz b ∧ rsz b ≤ 256 := by
  rcases eight h0 h1 with rfl | rfl | rfl | rfl | rfl | rfl | rfl | rfl | rfl <;> decide
theorem rsz_half {b : Int} (h0 : 0 ≤ b) (h1 : b ≤ 7) : rsz b / 2 = rsz (b + 1) := by
  rcases eight h0 (by omega) with rfl | rfl | rfl | rfl | rfl | rfl | rfl | rfl | rfl <;> first | decide | omega
theorem rsz_double {b : Int} (h0 : 0 ≤ b) (h1 : b ≤ 7) : rsz b = 2 * rsz (b + 1) := by
  rcases eight h0 (by omega) with rfl | rfl | rfl | rfl | rfl | rfl | rfl | rfl | rfl <;> first | decide | omega
theorem rsz_zero : rsz 0 = 256 := by decide
theorem rok_true {f b : Int} : rok f b = true ↔ 0 ≤ b ∧ b ≤ 8 ∧ 0 ≤ f ∧ f ≤ 255 ∧ f % rsz b = 0 := by simp [rok]
theorem rok_false {f b : Int} : rok f b = false ↔ ¬ (0 ≤ b ∧ b ≤ 8 ∧ 0 ≤ f ∧ f ≤ 255 ∧ f % rsz b = 0) := by
  unfold rok; exact decide_eq_false_iff_not
theorem rok_eq {f b : Int} (hb0 : 0 ≤ b) (hb : b ≤ 8) (hf0 : 0 ≤ f) (hf : f ≤ 255) : (f % rsz b == 0) = rok f b := by
  rw [Bool.eq_iff_iff, rok_true]; simp [*]
theorem wrap_rsz {b : Int} (h0 : 0 ≤ b) (h1 : b ≤ 8) : wrap64 (2 ^ (8 - b).toNat) = rsz b :=
  IntWalk.wrap64_in _ (by have := rsz_bd h0 h1; unfold rsz at this; omega)

def covB (f b addr : Int) : Bool := decide (f ≤ addr ∧ addr < f + rsz b)
def rhas (f b addr : Int) : Bool := rok f b && (inB addr 0 255 && covB f b addr)
def rin (f b f' b' : Int) : Bool := rok f b && (rok f' b' && (decide (b' ≤ b) && covB f' b' f))
theorem rok_bd {f b : Int} (h : rok f b = true) : 0 ≤ b ∧ b ≤ 8 ∧ 0 ≤ f ∧ f ≤ 255 := by
  have := rok_true.1 h
  exact ⟨this.1, this.2.1, this.2.2.1, this.2.2.2.1⟩
/-- The reference's test is the program's. -/
theorem cov_div {f b addr : Int} (h : rok f b = true) (h0 : 0 ≤ addr) : (addr / rsz b == f / rsz b) = covB f b addr := by
  obtain ⟨h1, h2, h3, h4, h5⟩ := rok_true.1 h
  rw [Bool.eq_iff_iff]
  simp only [beq_iff_eq, covB, decide_eq_true_eq]
  rcases eight h1 h2 with rfl | rfl | rfl | rfl | rfl | rfl | rfl | rfl | rfl <;> simp [rsz] at * <;> omega
theorem ge_true {a b : Int} (h : b ≤ a) : decide (b ≤ a) = true := by simpa using h
theorem ge_false {a b : Int} (h : ¬ b ≤ a) : decide (b ≤ a) = false := by simpa using h
theorem lt_true {a b : Int} (h : b < a) : decide (b < a) = true := by simpa using h
theorem lt_false {a b : Int} (h : ¬ b < a) : decide (b < a) = false := by simpa using h
/-- How numbers are ordered. -/
def cmpI (a b : Int) : Int := if a < b then -1 else if b < a then 1 else 0
/-- The first that is not 0. -/
def orL : List Int → Int
  | [] => 0
  | a :: l => if a = 0 then orL l else a
def rcmp (f b f' b' : Int) : Int := if rok f b = true ∧ rok f' b' = true then orL [cmpI f f', cmpI b b'] else 0
theorem cmpI_lt {a b : Int} (h : a < b) : cmpI a b = -1 := by simp [cmpI, h]
theorem cmpI_gt {a b : Int} (h : b < a) : cmpI a b = 1 := by
  have : ¬ a < b := by omega
  simp [cmpI, h, this]
theorem cmpI_eq (a : Int) : cmpI a a = 0 := by simp [cmpI]
theorem cmpI_bd (a b : Int) : -1 ≤ cmpI a b ∧ cmpI a b ≤ 1 := by unfold cmpI; split <;> (try split) <;> omega
theorem orL_drop {l : List Int} {k : Nat} (h : k < l.length) : orL (l.drop k) = if l[k] = 0 then orL (l.drop (k + 1)) else l[k] := by
  rw [List.drop_eq_getElem_cons h]; rfl
def rmany (f b : Int) : Int := if rok f b = true then rsz b else 0

end Go.Proofs.Ytngehfhcnfobbaa
namespace Go.Proofs.Ytngehfhcnfobbaa
open Go Go.RowKit

set_option maxHeartbeats 400000 in
theorem toRange_any (f b : Int) (w : World) :
    Calls Try.prog 29 #[.agg #[.int .i64 f, .int .i64 b]] w fun e w' => e = .returned (.agg #[.int .i64 f, .int .i64 b]) ∧ Ext w w' := by
  go_enter Try.func29, Try.ntmps29
  go_wp2
  exact bodyPost_ret (v := .agg #[.int .i64 f, .int .i64 b]) (by simp [results, Try.results29, go_sem]) rfl ⟨rfl, (by repeat (first | with_reducible exact Ext.refl _ | with_reducible apply Ext.and | with_reducible apply Ext.drewx | with_reducible apply Ext.alloc | with_reducible apply Ext.ext | with_reducible apply Ext.drew | with_reducible refine Ext.setCell ?_ (by simp) _))⟩



end Go.Proofs.Ytngehfhcnfobbaa
