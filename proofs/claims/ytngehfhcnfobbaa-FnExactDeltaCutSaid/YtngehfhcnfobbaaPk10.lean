/- Lemmas for it, part 10. No condition. -/
import Derived.Test.YtngehfhcnfobbaaPk9
namespace Go.Proofs.Ytngehfhcnfobbaa
open Go

section
variable {P : Program} {c : Cx} {ρ ρ' : Nat → Nat → Prop} {α β : Type}

theorem Sim.of_wr {R : (Nat → Nat → Prop) → α → β → Prop} {s : Sem α} {s' : Sem β} (h : (∀ a b d, ρ a b → ρ a d → b = d) → (∀ a b d, ρ a d → ρ b d → a = b) → (∀ b, b < c.G → ρ b b) → Sim P c ρ R s s') : Sim P c ρ R s s' :=
  fun w W es' hw he => h hw.fn hw.inj hw.glob w W es' hw he

theorem sim_viewAt {b b' : Nat} (h : ρ b b') : Sim P c ρ (fun _ a b => a = none ∧ b = none) (viewAt b) (viewAt b') := by
  unfold viewAt
  refine Sim.bind (Sim.shape h) ?_
  rintro ρ1 g1 x _ rfl
  split
  · exact .pure ⟨rfl, rfl⟩
  · refine Sim.bind (Sim.getObj (g1 _ _ h)) ?_
    rintro ρ2 g2 _ _ ⟨a, a', l, _, rfl, rfl⟩
    exact .pure ⟨rfl, rfl⟩
theorem sim_noView {a a' : Addr} (h : AdR ρ a a') : Sim P c ρ (fun _ _ _ => True) (noView a) (noView a') := by
  unfold noView
  refine Sim.bind (sim_viewAt h.blk) ?_
  rintro ρ1 g1 x y ⟨rfl, rfl⟩
  exact .pure trivial
inductive NumR (ρ : Nat → Nat → Prop) : Option (Addr × Bool) → Option (Addr × Bool) → Prop
  | none : NumR ρ none none
  | some {a a' : Addr} (h : AdR ρ a a') (l : Bool) : NumR ρ (some (a, l)) (some (a', l))
theorem sim_numberAt {b b' : Nat} (h : ρ b b') : Sim P c ρ NumR (numberAt b) (numberAt b') := by
  unfold numberAt
  refine Sim.bind (Sim.shape h) ?_
  rintro ρ1 g1 x _ rfl
  split
  · exact .pure .none
  · refine Sim.bind (Sim.getObj (g1 _ _ h)) ?_
    rintro ρ2 g2 _ _ ⟨a, a', l, hA, rfl, rfl⟩
    exact .pure (.some hA l)
theorem sim_behindNumber {a a' : Addr} (h : AdR ρ a a') : Sim P c ρ (fun ρ1 x y => AdR ρ1 x.1 y.1 ∧ x.2 = y.2) (behindNumber a) (behindNumber a') := by
  unfold behindNumber
  refine Sim.bind (sim_numberAt h.blk) ?_
  rintro ρ1 g1 x y hxy
  cases hxy with
  | none => exact .pure ⟨h.mono g1, rfl⟩
  | some hA l => exact .pure ⟨hA, rfl⟩

theorem sim_stringish {a a' : Addr} (h : AdR ρ a a') : Sim P c ρ (fun _ x y => y = true → x = true) (stringish a) (stringish a') := by
  unfold stringish
  refine Sim.bind (Sim.frozenA h) ?_
  rintro ρ1 g1 x y hxy
  have tail : Sim P c ρ1 (fun _ x y => y = true → x = true)
      (do match ← shape a.block with | some (_, n) => frozen { block := a.block, off := n } | none => pure false)
      (do match ← shape a'.block with | some (_, n) => frozen { block := a'.block, off := n } | none => pure false) := by
    refine Sim.bind (Sim.shape (h.mono g1).blk) ?_
    rintro ρ2 g2 z _ rfl
    cases z with
    | none => exact .pure fun h => h
    | some z => exact Sim.frozen ((h.mono g1).mono g2).blk
  cases y with
  | true => simp only [hxy rfl, if_true]; exact .pure fun _ => rfl
  | false => cases x with
    | false => exact tail
    | true =>
      simp only [if_true, Bool.false_eq_true, if_false]
      refine .quiet fun w W es' hw he => ⟨.ok true w, fun _ _ => rfl, ?_⟩
      have e2 := Sem.runT_bind' P (Go.shape a'.block) (fun z => match z with | some (_, n) => Go.frozen { block := a'.block, off := n } | none => pure false) W es'
      have e3 : ∃ b, ((Go.shape a'.block).bind (fun z => match z with | some (_, n) => Go.frozen { block := a'.block, off := n } | none => pure false)).runT P W es' = (.ok b W, es') := by
        rw [e2]
        show ∃ b, Sem.runT P (match W.shape? a'.block with | some (_, n) => Go.frozen { block := a'.block, off := n } | none => pure false) W es' = _
        cases W.shape? a'.block with
        | none => exact ⟨_, rfl⟩
        | some z => exact ⟨_, rfl⟩
      obtain ⟨b, e3⟩ := e3
      exact ⟨ρ1, b, W, es', e3, .refl .., hw, he, fun _ => rfl⟩

theorem sim_isNone {a a' : Addr} (h : AdR ρ a a') : Sim P c ρ (fun _ x y => x = y) (do pure ((← shape a.block) matches some (_, 0))) (do pure ((← shape a'.block) matches some (_, 0))) := by
  refine Sim.bind (Sim.shape h.blk) ?_
  rintro ρ2 g2 z _ rfl
  exact .pure rfl

theorem sim_mayBeOne {a a' b b' : Addr} (h : AdR ρ a a') (k : AdR ρ b b') : Sim P c ρ (fun _ x y => y = true → x = true) (mayBeOne a b) (mayBeOne a' b') := by
  unfold mayBeOne
  refine Sim.bind (sim_stringish h) ?_
  rintro ρ1 g1 x1 y1 h1
  refine Sim.bind (sim_stringish (k.mono g1)) ?_
  rintro ρ2 g2 x2 y2 h2
  dsimp only
  refine Sim.bind (sim_isNone ((h.mono g1).mono g2)) ?_
  rintro ρ3 g3 n1 _ rfl
  refine Sim.bind (sim_isNone (((k.mono g1).mono g2).mono g3)) ?_
  rintro ρ4 g4 n2 _ rfl
  refine .pure ?_
  cases y1 <;> cases y2 <;> cases n1 <;> cases n2 <;> simp_all

theorem AdR.beq (hf : ∀ a b d, ρ a b → ρ a d → b = d) (hi : ∀ a b d, ρ a d → ρ b d → a = b) {a a' b b' : Addr} (h : AdR ρ a a') (k : AdR ρ b b') : (a.block == b.block) = (a'.block == b'.block) ∧ (a == b) = (a' == b') := by
  have e : (a.block = b.block) ↔ (a'.block = b'.block) := ⟨fun e => hf _ _ _ h.blk (e ▸ k.blk), fun e => hi _ _ _ h.blk (e ▸ k.blk)⟩
  refine ⟨by rw [Bool.eq_iff_iff]; simpa using e, ?_⟩
  rw [Bool.eq_iff_iff]
  obtain ⟨x, y, z⟩ := a
  obtain ⟨x', y', z'⟩ := a'
  obtain ⟨u, v, w⟩ := b
  obtain ⟨u', v', w'⟩ := b'
  obtain ⟨p1, p2, p3⟩ := h
  obtain ⟨q1, q2, q3⟩ := k
  simp only at e p2 p3 q2 q3
  subst p2 p3 q2 q3
  simp [e]

/-- The lone world asks (and is answered 'no'); the company does not. -/
theorem sim_askL {q : String} : Sim P c ρ (fun _ a b => a = b) (do return (← choose (.extern q 2)) == 1) (pure false) := by
  intro w W es' hw he
  refine ⟨fun _ _ => 0, 1, .ok false w, fun τ d ht => ?_, ρ, false, W, es', rfl, .refl .., hw, he, rfl⟩
  have h3 : τ d (.extern q 2) = 0 := ht 0 _ (by omega)
  show Result.ok (((Question.extern q 2).cut (τ d (.extern q 2))) == 1) _ = _
  rw [h3]
  rfl

theorem sim_sameAddr {a a' b b' : Addr} (h : AdR ρ a a') (k : AdR ρ b b') : Sim P c ρ (fun _ x y => x = y) (sameAddr a b) (sameAddr a' b') := by
  refine Sim.of_wr fun hf hi _ => ?_
  obtain ⟨e1, e2⟩ := AdR.beq hf hi h k
  unfold sameAddr
  rw [e1, e2]
  split
  · exact .pure rfl
  have tail : ∀ ρ1, (∀ x y, ρ x y → ρ1 x y) → Sim P c ρ1 (fun _ x y => x = y)
      (do
        noView a
        noView b
        if ← mayBeOne a b then return (← choose (.extern "sameAddr.stringBytes" 2)) == 1
        pure false)
      (do
        noView a'
        noView b'
        if ← mayBeOne a' b' then return (← choose (.extern "sameAddr.stringBytes" 2)) == 1
        pure false) := by
    intro ρ1 g1
    refine Sim.bind (sim_noView (h.mono g1)) ?_
    rintro ρ2 g2 _ _ _
    refine Sim.bind (sim_noView ((k.mono g1).mono g2)) ?_
    rintro ρ3 g3 _ _ _
    refine Sim.bind (sim_mayBeOne (((h.mono g1).mono g2).mono g3) (((k.mono g1).mono g2).mono g3)) ?_
    rintro ρ4 g4 x y hxy
    cases y with
    | true =>
      rw [hxy rfl]
      simp only [if_true]
      refine Sim.bind (Sim.choose _) ?_
      rintro ρ5 g5 n _ rfl
      exact .pure rfl
    | false => cases x with
      | false => exact .pure rfl
      | true =>
        simp only [if_true, Bool.false_eq_true, if_false]
        exact sim_askL
  refine Sim.bind (Sim.frozenA h) ?_
  rintro ρ1 g1 x1 y1 h1
  refine Sim.bind (Sim.frozenA (k.mono g1)) ?_
  rintro ρ2 g2 x2 y2 h2
  by_cases hx : (x1 && x2) = true
  · rw [if_pos hx]
    exact .dead (Lone.bind (Q := fun _ => False) (.halt trivial) fun _ h => h.elim)
  · have hy : ¬ (y1 && y2) = true := by
      cases y1 <;> cases y2 <;> simp_all
    rw [if_neg hx, if_neg hy]
    exact tail ρ2 fun x y h => g2 _ _ (g1 _ _ h)

theorem Sim.forList {γ σ : Type} {f g : γ → σ → Sem (ForInStep σ)} (hf : ∀ x s ρ1, (∀ a b, ρ a b → ρ1 a b) → Sim P c ρ1 (fun _ a b => a = b) (f x s) (g x s)) :
    ∀ (l : List γ) (s : σ) (ρ1 : Nat → Nat → Prop), (∀ a b, ρ a b → ρ1 a b) → Sim P c ρ1 (fun _ a b => a = b) (forIn l s f) (forIn l s g)
  | [], _, _, _ => .pure rfl
  | x :: l, s, ρ1, h1 => by
    rw [List.forIn_cons, List.forIn_cons]
    refine Sim.bind (hf x s ρ1 h1) ?_
    rintro ρ2 g2 a _ rfl
    cases a with
    | done b => exact .pure rfl
    | yield b => exact Sim.forList hf l b ρ2 fun a b h => g2 _ _ (h1 _ _ h)

/-- Types whose values are compared: no number that may be an address; nothing that a channel, a map .. is. -/
def _root_.Go.Program.noCopyChecker (P : Program) : Prop := ∀ t i, P.info? t = some i → ∀ u, i.desc ≠ .named "sync.copyChecker" u

theorem sim_byteOf {a a' : Addr} (h : AdR ρ a a') : Sim P c ρ (fun _ x y => x = y) (byteOf a) (byteOf a') := by
  unfold byteOf
  rw [← h.spot]
  cases a.spot with
  | some s => exact .pure rfl
  | none =>
    refine Sim.bind Sim.program ?_
    rintro ρ1 g1 p _ ⟨rfl, rfl⟩
    refine Sim.bind (sim_noView (h.mono g1)) ?_
    rintro ρ2 g2 _ _ _
    refine Sim.bind (Sim.shape ((h.mono g1).mono g2).blk) ?_
    rintro ρ3 g3 z _ rfl
    cases z with
    | none => exact .stuck
    | some z =>
      obtain ⟨e, n⟩ := z
      dsimp only
      rw [← h.off]
      split
      · exact .pure rfl
      · split
        · exact .pure rfl
        · exact .stuck

theorem sim_equalIn (hk : ¬ c.Tk) (hP : P.noCopyChecker) (hG : P.globals.size ≤ c.G) : ∀ (d : Nat) (t : TypeId) (ρ : Nat → Nat → Prop) {x x' y y' : Value} (_ : VR c ρ x x') (_ : VR c ρ y y'), Sim P c ρ (fun _ a b => a = b) (Op.equalIn d t x y) (Op.equalIn d t x' y') := by
  intro d
  induction d with
  | zero => intro t ρ x x' y y' _ _; exact .halt trivial
  | succ d ih =>
    intro t ρ x x' y y' hx hy
    unfold Op.equalIn
    refine Sim.bind (same_underlying t).sim ?_
    rintro ρ1 g1 k _ ⟨rfl, _⟩
    have hx1 := hx.mono g1
    have hy1 := hy.mono g1
    clear hx hy
    cases k with
    | bool => cases hx1 <;> cases hy1 <;> first | exact .stuck | exact .pure rfl
    | string => cases hx1 <;> cases hy1 <;> first | exact .stuck | exact .pure rfl
    | func => cases hx1 <;> cases hy1 <;> first | exact absurd ‹c.Tk› hk | exact .stuck | exact .pure rfl
    | slice e => cases hx1 <;> cases hy1 <;> first | exact .stuck | exact .pure rfl
    | map => cases hx1 <;> cases hy1 <;> exact .stuck
    | chan => cases hx1 <;> cases hy1 <;> exact .stuck
    | unsafePointer =>
      cases hx1 <;> cases hy1 <;> first | exact .stuck | exact .pure rfl | exact sim_sameAddr (adR _ _ ‹_›) (adR _ _ ‹_›)
    | pointer e =>
      cases hx1 with
      | nilp => cases hy1 <;> first | exact .stuck | exact .pure rfl
      | ptr o s h => cases hy1 with
        | nilp => exact .pure rfl
        | ptr o' s' h' =>
          dsimp only
          refine Sim.bind (same_sizeOf e).sim ?_
          rintro ρ2 g2 n _ ⟨rfl, _⟩
          split
          · exact sim_sameAddr ((adR _ _ h).mono g2) ((adR _ _ h').mono g2)
          · refine Sim.of_wr fun hf hi _ => ?_
            have e2 := (AdR.beq hf hi ((adR o s h).mono g2) ((adR o' s' h').mono g2)).2
            rw [e2]
            split
            · exact .pure rfl
            · refine Sim.bind (Sim.choose _) ?_
              rintro ρ5 g5 n _ rfl
              exact .pure rfl
        | _ => exact .stuck
      | _ => cases hy1 <;> exact .stuck
    | interface ms =>
      cases hx1 with
      | nilIface => cases hy1 <;> first | exact .stuck | exact .pure rfl
      | @iface tx vx vx' hM h => cases hy1 with
        | nilIface => exact .pure rfl
        | @iface ty vy vy' hM' h' =>
          dsimp only
          split
          · exact .pure rfl
          · refine Sim.bind (same_typeInfo tx).sim ?_
            rintro ρ2 g2 i _ ⟨rfl, _⟩
            split
            · refine .dead ?_
              have hh : Lone P (fun _ => False) (do runtimePanic (.error ("comparing uncomparable type " ++ (← typeStr tx))) : Sem Bool) := by
                refine Lone.bind (Q := fun _ => True) ?_ fun _ _ => dead_runtimePanic _
                unfold typeStr
                refine Lone.bind (Q := fun _ => True) ?_ fun i _ => ?_
                · unfold typeInfo
                  refine Lone.bind Lone.program fun p _ => ?_
                  split
                  · exact .pure trivial
                  · exact .halt trivial
                · dsimp only
                  split
                  · exact .halt trivial
                  · exact .pure trivial
              refine Lone.bind Lone.program ?_
              intro p _
              refine Lone.bind Lone.program ?_
              intro p2 _
              split
              · exact Lone.bind (Q := fun _ => False) (.halt trivial) fun _ h => h.elim
              · exact hh
            · exact ih tx ρ2 (h.mono g2) (h'.mono g2)
        | _ => exact .stuck
      | _ => cases hy1 <;> exact .stuck
    | int k =>
      cases hx1 with
      | int k1 a => cases hy1 with
        | int k2 b =>
          dsimp only
          split
          · exact .pure rfl
          · exact .stuck
        | ptr o s h =>
          by_cases hz : a = 0
          · subst hz; exact .pure rfl
          · refine .dead ?_
            dsimp only
            split <;> first | exact .halt trivial | (exfalso; simp_all; done)
        | nilp => exact .halt trivial
        | _ => exact .stuck
      | nilp => cases hy1 <;> exact .halt trivial
      | @ptr b1 b1' o s h => cases hy1 with
        | int k2 b =>
          by_cases hz : b = 0
          · subst hz; exact .pure rfl
          · refine .dead ?_
            dsimp only
            split <;> first | exact .halt trivial | (exfalso; simp_all; done)
        | @ptr b2 b2' o' s' h' =>
          dsimp only
          refine Sim.bind (sim_behindNumber (adR o s h)) ?_
          rintro ρ2 g2 ⟨a1, l1⟩ ⟨a1', _⟩ ⟨q1, _⟩
          refine Sim.bind (sim_behindNumber ((adR o' s' h').mono g2)) ?_
          rintro ρ3 g3 ⟨a2, l2⟩ ⟨a2', _⟩ ⟨q2, _⟩
          refine Sim.bind Sim.program ?_
          rintro ρ4 g4 p _ ⟨e1, rfl⟩
          subst e1
          have k1 := (q1.mono g3).mono g4
          have k2 := q2.mono g4
          refine Sim.of_wr fun hf hi hg => ?_
          obtain ⟨e1, e2⟩ := AdR.beq hf hi k1 k2
          dsimp only
          dsimp only at e1 e2
          have e3 : decide (a1.block < p.globals.size) = decide (a1'.block < p.globals.size) := by
            rw [decide_eq_decide]
            have kb : ρ4 a1.block a1'.block := k1.blk
            refine ⟨fun hx => ?_, fun hx => ?_⟩
            · have : a1.block = a1'.block := hf a1.block a1.block a1'.block (hg _ (Nat.lt_of_lt_of_le hx hG)) kb
              omega
            · have : a1'.block = a1.block := hi a1'.block a1.block a1'.block (hg _ (Nat.lt_of_lt_of_le hx hG)) kb
              omega
          rw [e1, e3]
          split
          · refine Sim.bind (sim_byteOf k1) ?_
            rintro ρ5 g5 x _ rfl
            refine Sim.bind (sim_byteOf (k2.mono g5)) ?_
            rintro ρ6 g6 y _ rfl
            exact .pure rfl
          · refine Sim.bind (same_typeInfo t).sim ?_
            rintro ρ5 g5 i _ ⟨rfl, hi⟩
            refine .dead ?_
            split
            · next u hu => exact absurd hu (hP t i hi u)
            · exact .halt trivial
        | _ => exact .halt trivial
      | _ => cases hy1 <;> first | exact .stuck | exact .halt trivial
    | struct fields =>
      cases hx1 with
      | agg hq hr => cases hy1 with
        | agg hs ht =>
          dsimp only
          refine Sim.bind Sim.program ?_
          rintro ρ2 g2 p _ ⟨rfl, rfl⟩
          split
          · exact .dead (Lone.bind (Q := fun _ => False) (.halt trivial) fun _ h => h.elim)
          · rw [← Array.forIn_toList, ← Array.forIn_toList]
            refine Sim.bind (Sim.forList (fun f s ρ3 g3 => ?_) _ _ ρ2 fun _ _ h => h) ?_
            rotate_left
            · rintro ρ3 _ s _ rfl
              cases s.fst <;> exact .pure rfl
            split
            · refine Sim.bind (sim_part f.type (((show AR c ρ1 _ _ from ⟨hq, hr⟩).mono g2).mono g3) f.offset) ?_
              rintro ρ4 g4 u u' hu
              refine Sim.bind (sim_part f.type ((((show AR c ρ1 _ _ from ⟨hs, ht⟩).mono g2).mono g3).mono g4) f.offset) ?_
              rintro ρ5 g5 v v' hv
              refine Sim.bind (ih f.type ρ5 (hu.mono g5) hv) ?_
              rintro ρ6 g6 b _ rfl
              cases b <;> exact .pure rfl
            · exact .pure rfl
        | _ => exact .stuck
      | _ => cases hy1 <;> exact .stuck
    | array len elem =>
      cases hx1 with
      | agg hq hr => cases hy1 with
        | agg hs ht =>
          dsimp only
          refine Sim.bind (same_sizeOf elem).sim ?_
          rintro ρ2 g2 n _ ⟨rfl, _⟩
          rw [Std.Legacy.Range.forIn_eq_forIn_range', Std.Legacy.Range.forIn_eq_forIn_range']
          refine Sim.bind (Sim.forList (fun f s ρ3 g3 => ?_) _ _ ρ2 fun _ _ h => h) ?_
          rotate_left
          · rintro ρ3 _ s _ rfl
            cases s.fst <;> exact .pure rfl
          refine Sim.bind (sim_part elem (((show AR c ρ1 _ _ from ⟨hq, hr⟩).mono g2).mono g3) _) ?_
          rintro ρ4 g4 u u' hu
          refine Sim.bind (sim_part elem ((((show AR c ρ1 _ _ from ⟨hs, ht⟩).mono g2).mono g3).mono g4) _) ?_
          rintro ρ5 g5 v v' hv
          refine Sim.bind (ih elem ρ5 (hu.mono g5) hv) ?_
          rintro ρ6 g6 b _ rfl
          cases b <;> exact .pure rfl
        | _ => exact .stuck
      | _ => cases hy1 <;> exact .stuck
    | _ => cases hx1 <;> cases hy1 <;> exact .stuck

theorem dead_equalIn_l (d : Nat) (t : TypeId) (y : Value) : DeadS P (Op.equalIn (d + 1) t (.tuple #[]) y) := by
  unfold Op.equalIn
  refine Lone.bind (lone_underlying t) fun k _ => ?_
  cases k <;> cases y <;> first | exact .halt trivial | (rename_i a; cases a <;> exact .halt trivial)
theorem dead_equalIn_r (d : Nat) (t : TypeId) (y : Value) : DeadS P (Op.equalIn (d + 1) t y (.tuple #[])) := by
  unfold Op.equalIn
  refine Lone.bind (lone_underlying t) fun k _ => ?_
  cases k <;> cases y <;> first | exact .halt trivial | (rename_i a; cases a <;> exact .halt trivial) | (rename_i a _ _; cases a <;> exact .halt trivial)
theorem dead_equal_l (t : TypeId) (y : Value) : DeadS P (Op.equal t (.tuple #[]) y) := dead_equalIn_l 9999 t y
theorem dead_equal_r (t : TypeId) (y : Value) : DeadS P (Op.equal t y (.tuple #[])) := dead_equalIn_r 9999 t y
end
end Go.Proofs.Ytngehfhcnfobbaa
namespace Go.Proofs.Ytngehfhcnfobbaa
open Go

section
variable {P : Program} {c : Cx} {ρ ρ' : Nat → Nat → Prop} {α β : Type}

theorem lone_stuckBind {γ δ : Type} {why : String} {f : γ → Sem δ} : DeadS P (stuck why >>= f) := Lone.bind (Q := fun _ => False) (.halt trivial) fun _ h => h.elim

theorem sim_unsafeAdd {t : TypeId} {v v' l l' : Value} (hv : VR c ρ v v') (hl : VR c ρ l l') : Sim P c ρ (fun ρ1 u u' => ∃ a a', AdR ρ1 a a' ∧ u = .pointer (some a) ∧ u' = .pointer (some a')) (Builtin.unsafeAdd_ #[] t #[v, l]) (Builtin.unsafeAdd_ #[] t #[v', l']) := by
  unfold Builtin.unsafeAdd_
  have key : ∀ (a a' : Option Addr), OA ρ a a' → Sim P c ρ (fun ρ1 u u' => ∃ a a', AdR ρ1 a a' ∧ u = .pointer (some a) ∧ u' = .pointer (some a')) (Builtin.unsafeAdd_ #[] t #[.pointer a, l]) (Builtin.unsafeAdd_ #[] t #[.pointer a', l']) := by
    intro a a' ha
    unfold Builtin.unsafeAdd_
    dsimp only
    refine Sim.bind (Sim.asInt hl) ?_
    rintro ρ1 g1 n _ rfl
    have ha1 := ha.mono g1
    split
    · cases ha1 with
      | none => exact .halt trivial
      | some h =>
        refine Sim.bind (sim_viewAt h.blk) ?_
        rintro ρ2 g2 _ _ ⟨rfl, rfl⟩
        exact .pure ⟨_, _, h.mono g2, rfl, rfl⟩
    · split
      · exact .halt trivial
      · cases ha1 with
        | none => exact .halt trivial
        | some h =>
          refine Sim.bind (Sim.shape h.blk) ?_
          rintro ρ2 g2 z _ rfl
          cases z with
          | none => exact .halt trivial
          | some z =>
            obtain ⟨e, k⟩ := z
            dsimp only
            refine Sim.bind Sim.program ?_
            rintro ρ3 g3 p _ ⟨rfl, rfl⟩
            rw [h.off]
            split
            · next off _ =>
              have hA : AdR ρ3 { block := _, off := off, spot := _ } { block := _, off := off, spot := _ } := ⟨g3 _ _ (g2 _ _ h.blk), rfl, h.spot⟩
              exact .pure ⟨_, _, hA, rfl, rfl⟩
            · exact .halt trivial
  cases hv with
  | nilp => exact key none none .none
  | ptr o s h => exact key _ _ (.some (adR o s h))
  | _ => exact .stuck

theorem sim_movedNumber (t : TypeId) {v v' l l' : Value} (hv : VR c ρ v v') (hl : VR c ρ l l') : Sim P c ρ (VR c) (movedNumber t v l) (movedNumber t v' l') := by
  unfold movedNumber
  refine Sim.bind (same_underlying t).sim ?_
  rintro ρ1 g1 d _ ⟨rfl, _⟩
  have fin : ∀ {ρ1}, (∀ x y, ρ x y → ρ1 x y) → ∀ (a a' : Addr), AdR ρ1 a a' → Sim P c ρ1 (VR c)
      (do let (a, lost) ← behindNumber a
          match ← Builtin.unsafeAdd_ #[] t #[.pointer (some a), l] with
          | .pointer (some b) => asNumber b lost
          | v => pure v)
      (do let (a, lost) ← behindNumber a'
          match ← Builtin.unsafeAdd_ #[] t #[.pointer (some a), l'] with
          | .pointer (some b) => asNumber b lost
          | v => pure v) := by
    intro ρ1 g1 a a' ha
    refine Sim.bind (sim_behindNumber ha) ?_
    rintro ρ2 g2 ⟨b, l1⟩ ⟨b', l2⟩ ⟨hb, h2⟩
    simp only at h2 hb
    subst h2
    refine Sim.bind (sim_unsafeAdd (.ptrA hb) ((hl.mono g1).mono g2)) ?_
    rintro ρ3 g3 _ _ ⟨a, a', h, rfl, rfl⟩
    unfold asNumber
    refine Sim.bind (Sim.new (.number h l1)) ?_
    rintro ρ4 g4 n n' hn
    exact .pure (.ptr _ _ hn)
  dsimp only
  split
  · exact .dead (Lone.bind (Q := fun _ => False) (.halt trivial) fun _ h => h.elim)
  · cases (hv.mono g1) with
    | ptr o s h => exact fin g1 _ _ (adR o s h)
    | nilp => exact (sim_unsafeAdd (t := t) .nilp (hl.mono g1)).mono fun ρ1 u u' _ ⟨a, a', h, e1, e2⟩ => by rw [e1, e2]; exact .ptrA h
    | _ => exact .stuck

theorem sim_movedPointer (t : TypeId) {v v' l l' : Value} (hv : VR c ρ v v') (hl : VR c ρ l l') : Sim P c ρ (VR c) (movedPointer t v l) (movedPointer t v' l') := by
  have fin : ∀ {ρ1}, (∀ x y, ρ x y → ρ1 x y) → Sim P c ρ1 (VR c) (Builtin.unsafeAdd_ #[] t #[v, l]) (Builtin.unsafeAdd_ #[] t #[v', l']) := by
    intro ρ1 g1
    exact (sim_unsafeAdd (hv.mono g1) (hl.mono g1)).mono fun ρ1 u u' _ ⟨a, a', h, e1, e2⟩ => by rw [e1, e2]; exact .ptrA h
  unfold movedPointer
  cases hv with
  | ptr o s h =>
    refine Sim.bind (sim_numberAt h) ?_
    rintro ρ1 g1 x y hxy
    cases hxy with
    | none => exact fin g1
    | some hA l => exact .dead (Lone.bind (Q := fun _ => False) (.halt trivial) fun _ h => h.elim)
  | junk u h => exact .halt (h := .stuck _) trivial
  | _ => exact fin fun _ _ h => h

theorem sim_twoPlaces (hG : P.globals.size ≤ c.G) {a a' b b' : Addr} (h : AdR ρ a a') (k : AdR ρ b b') : Sim P c ρ (fun _ x y => x = y) (Op.twoPlaces a b) (Op.twoPlaces a' b') := by
  unfold Op.twoPlaces
  refine Sim.bind Sim.program ?_
  rintro ρ1 g1 p _ ⟨e1, rfl⟩
  subst e1
  refine Sim.of_wr fun hf hi hg => ?_
  obtain ⟨e1, _⟩ := AdR.beq hf hi (h.mono g1) (k.mono g1)
  have kb : ρ1 a.block a'.block := g1 _ _ h.blk
  have e3 : decide (a.block ≥ p.globals.size) = decide (a'.block ≥ p.globals.size) := by
    rw [decide_eq_decide]
    refine ⟨fun hx => ?_, fun hx => ?_⟩
    · refine Nat.le_of_not_lt fun hlt => ?_
      have : a'.block = a.block := hi a'.block a.block a'.block (hg _ (Nat.lt_of_lt_of_le hlt hG)) kb
      omega
    · refine Nat.le_of_not_lt fun hlt => ?_
      have : a.block = a'.block := hf a.block a.block a'.block (hg _ (Nat.lt_of_lt_of_le hlt hG)) kb
      omega
  have e4 : (a.block != b.block) = (a'.block != b'.block) := by simp only [bne, e1]
  rw [e3, e4]
  split
  · exact .dead (Lone.bind (Q := fun _ => False) (.halt trivial) fun _ h => h.elim)
  · refine Sim.bind (sim_byteOf (h.mono g1)) ?_
    rintro ρ5 g5 x _ rfl
    refine Sim.bind (sim_byteOf ((k.mono g1).mono g5)) ?_
    rintro ρ6 g6 y _ rfl
    exact .pure rfl
theorem sim_addrSub (hG : P.globals.size ≤ c.G) (n : IntKind) {a a' b b' : Addr} (h : AdR ρ a a') (k : AdR ρ b b') : Sim P c ρ (VR c) (Op.addrSub n a b) (Op.addrSub n a' b') := by
  unfold Op.addrSub
  refine Sim.bind (sim_twoPlaces hG h k) ?_
  rintro ρ1 g1 ⟨x, y⟩ _ rfl
  exact .pure (.int _ _)
theorem sim_addrCmp (hG : P.globals.size ≤ c.G) (op : BinOp) {a a' b b' : Addr} (h : AdR ρ a a') (k : AdR ρ b b') : Sim P c ρ (VR c) (Op.addrCmp op a b) (Op.addrCmp op a' b') := by
  unfold Op.addrCmp
  refine Sim.bind (sim_twoPlaces hG h k) ?_
  rintro ρ1 g1 ⟨x, y⟩ _ rfl
  cases op <;> first | exact .pure (.bool _) | exact .halt trivial
theorem sim_addrMod (n : IntKind) (m : Int) {a a' : Addr} (h : AdR ρ a a') : Sim P c ρ (VR c) (Op.addrMod n a m) (Op.addrMod n a' m) := by
  unfold Op.addrMod
  refine Sim.bind (Sim.shape h.blk) ?_
  rintro ρ2 g2 z _ rfl
  cases z with
  | none => exact .halt trivial
  | some z =>
    obtain ⟨e, k⟩ := z
    dsimp only
    refine Sim.bind (same_typeInfo e).sim ?_
    rintro ρ3 g3 i _ ⟨rfl, _⟩
    split
    · exact .dead (Lone.bind (Q := fun _ => False) (.halt trivial) fun _ h => h.elim)
    · refine Sim.bind (sim_byteOf ((h.mono g2).mono g3)) ?_
      rintro ρ5 g5 x _ rfl
      exact .pure (.int _ _)

theorem sim_eql (hk : ¬ c.Tk) (hP : P.noCopyChecker) (hG : P.globals.size ≤ c.G) (t : TypeId) {x x' y y' : Value} (hx : VR c ρ x x') (hy : VR c ρ y y') : Sim P c ρ (VR c) (do pure (.bool (← Op.equal t x y))) (do pure (.bool (← Op.equal t x' y'))) := by
  refine Sim.bind (sim_equalIn hk hP hG _ t ρ hx hy) ?_
  rintro ρ1 g1 b _ rfl
  exact .pure (.bool _)
theorem sim_neq (hk : ¬ c.Tk) (hP : P.noCopyChecker) (hG : P.globals.size ≤ c.G) (t : TypeId) {x x' y y' : Value} (hx : VR c ρ x x') (hy : VR c ρ y y') : Sim P c ρ (VR c) (do pure (.bool (!(← Op.equal t x y)))) (do pure (.bool (!(← Op.equal t x' y')))) := by
  refine Sim.bind (sim_equalIn hk hP hG _ t ρ hx hy) ?_
  rintro ρ1 g1 b _ rfl
  exact .pure (.bool _)
theorem dead_eql_l (t : TypeId) (y : Value) : DeadS P (do pure (.bool (← Op.equal t (.tuple #[]) y)) : Sem Value) := Lone.bind (dead_equal_l t y) fun _ h => h.elim
theorem dead_neq_l (t : TypeId) (y : Value) : DeadS P (do pure (.bool (!(← Op.equal t (.tuple #[]) y))) : Sem Value) := Lone.bind (dead_equal_l t y) fun _ h => h.elim
theorem dead_eql_r (t : TypeId) (y : Value) : DeadS P (do pure (.bool (← Op.equal t y (.tuple #[]))) : Sem Value) := Lone.bind (dead_equal_r t y) fun _ h => h.elim
theorem dead_neq_r (t : TypeId) (y : Value) : DeadS P (do pure (.bool (!(← Op.equal t y (.tuple #[])))) : Sem Value) := Lone.bind (dead_equal_r t y) fun _ h => h.elim

theorem sim_intOp (op : BinOp) (k k' : IntKind) (a b : Int) (t : TypeId) : Sim P c ρ (VR c) (binOp op t (.int k a) (.int k' b)) (binOp op t (.int k a) (.int k' b)) := by
  unfold binOp
  cases op <;> dsimp only <;> first
    | exact num_shift _ _ _ _ _
    | (split <;> first | exact .stuck | exact num_arith _ _ _ _ | exact num_bits _ _ _ _ | exact num_div _ _ _ _ | exact num_cmp _ _ _)

theorem sim_mod1 {b b' o : Nat} {s : Option Nat} (h : ρ b b') (k : IntKind) (n : Int) : Sim P c ρ (VR c) (do Op.addrMod k (← behindNumber ⟨b, o, s⟩).1 n) (do Op.addrMod k (← behindNumber ⟨b', o, s⟩).1 n) := by
  refine Sim.bind (sim_behindNumber (adR o s h)) ?_
  rintro ρ1 g1 x y ⟨hA, _⟩
  exact sim_addrMod k n hA
theorem sim_two {f : Addr → Addr → Sem Value} (hf : ∀ ρ1 (a a' b b' : Addr), AdR ρ1 a a' → AdR ρ1 b b' → Sim P c ρ1 (VR c) (f a b) (f a' b')) {b b' o d d' u : Nat} {s v : Option Nat} (h : ρ b b') (k : ρ d d') :
    Sim P c ρ (VR c) (do f (← behindNumber ⟨b, o, s⟩).1 (← behindNumber ⟨d, u, v⟩).1) (do f (← behindNumber ⟨b', o, s⟩).1 (← behindNumber ⟨d', u, v⟩).1) := by
  refine Sim.bind (sim_behindNumber (adR o s h)) ?_
  rintro ρ1 g1 x y ⟨hA, _⟩
  refine Sim.bind (sim_behindNumber ((adR u v k).mono g1)) ?_
  rintro ρ2 g2 x2 y2 ⟨hB, _⟩
  exact hf _ _ _ _ _ (hA.mono g2) hB

theorem dead_binOp_l (op : BinOp) (t : TypeId) (y : Value) : DeadS P (binOp op t (.tuple #[]) y) := by
  cases op with
  | eql => exact dead_eql_l t y
  | neq => exact dead_neq_l t y
  | _ => cases y <;> first | exact Lone.halt trivial | (rename_i a; cases a <;> first | exact Lone.halt trivial | skip)
theorem dead_binOp_r (op : BinOp) (t : TypeId) (x : Value) (hx : ∀ k n, x ≠ .int k n) : DeadS P (binOp op t x (.tuple #[])) := by
  cases op with
  | eql => cases x <;> first | exact dead_eql_r t _ | exact absurd rfl (hx _ _)
  | neq => cases x <;> first | exact dead_neq_r t _ | exact absurd rfl (hx _ _)
  | _ => cases x <;> first | exact Lone.halt trivial | exact absurd rfl (hx _ _) | (rename_i a; cases a <;> exact Lone.halt trivial)
theorem dead_binOp_ri (op : BinOp) (t : TypeId) (k : IntKind) (n : Int) : DeadS P (binOp op t (.int k n) (.tuple #[])) := by
  cases op with
  | eql => exact dead_eql_r t _
  | neq => exact dead_neq_r t _
  | _ => exact Lone.halt trivial
theorem dead_binOp_r' (op : BinOp) (t : TypeId) (x : Value) : DeadS P (binOp op t x (.tuple #[])) := by
  by_cases h : ∃ k n, x = .int k n
  · obtain ⟨k, n, rfl⟩ := h
    exact dead_binOp_ri op t k n
  · exact dead_binOp_r op t x fun k n e => h ⟨k, n, e⟩

section
variable (hk : ¬ c.Tk) (hP : P.noCopyChecker) (hG : P.globals.size ≤ c.G) (op : BinOp) (t : TypeId)
include hk hP hG
theorem sim_binOp_int (k : IntKind) (a : Int) {y y' : Value} (hy : VR c ρ y y') : Sim P c ρ (VR c) (binOp op t (.int k a) y) (binOp op t (.int k a) y') := by
  have e1 := sim_eql hk hP hG t (.int k a) hy
  have e2 := sim_neq hk hP hG t (.int k a) hy
  cases hy with
  | int k' b => exact sim_intOp op k k' a b t
  | junk u h => exact .dead (dead_binOp_r' op t _)
  | ptr o s h =>
    cases op <;> first | exact e1 | exact e2 | exact .halt trivial | exact sim_movedNumber t (.ptr o s h) (.int k _) | exact sim_mod1 h k _
  | nilp =>
    cases op <;> first | exact e1 | exact e2 | exact .halt trivial | exact sim_movedNumber t .nilp (.int k _)
  | _ => cases op <;> first | exact e1 | exact e2 | exact .stuck
theorem sim_binOp_string (a : ByteArray) {y y' : Value} (hy : VR c ρ y y') : Sim P c ρ (VR c) (binOp op t (.string a) y) (binOp op t (.string a) y') := by
  have e1 := sim_eql hk hP hG t (.string a) hy
  have e2 := sim_neq hk hP hG t (.string a) hy
  cases hy with
  | string b => cases op <;> (unfold binOp; exact num_string _ _ _)
  | junk u h => exact .dead (dead_binOp_r' op t _)
  | _ => cases op <;> first | exact e1 | exact e2 | exact .stuck | exact .halt trivial
theorem sim_binOp_ptr {b b' : Nat} (o : Nat) (s : Option Nat) (h : ρ b b') {y y' : Value} (hy : VR c ρ y y') : Sim P c ρ (VR c) (binOp op t (.pointer (some ⟨b, o, s⟩)) y) (binOp op t (.pointer (some ⟨b', o, s⟩)) y') := by
  have e1 := sim_eql hk hP hG t (.ptr o s h) hy
  have e2 := sim_neq hk hP hG t (.ptr o s h) hy
  cases hy with
  | int k n =>
    cases op <;> first | exact e1 | exact e2 | exact .halt trivial | exact sim_movedNumber t (.ptr o s h) (.int k _) | exact sim_mod1 h k _ | skip
    refine Sim.bind (same_underlying t).sim ?_
    rintro ρ1 g1 d _ ⟨rfl, _⟩
    split
    · exact sim_movedPointer t (.ptr o s (g1 _ _ h)) (.int k _)
    · exact sim_movedNumber t (.ptr o s (g1 _ _ h)) (.int k _)
  | ptr o' s' h' =>
    cases op <;> first | exact e1 | exact e2 | exact .halt trivial | exact sim_two (fun ρ1 a a' b b' h k => sim_addrSub hG _ h k) h h' | exact sim_two (fun ρ1 a a' b b' h k => sim_addrCmp hG _ h k) h h'
  | junk u hu => exact .dead (dead_binOp_r' op t _)
  | _ => cases op <;> first | exact e1 | exact e2 | exact .halt trivial
theorem sim_binOp_nil {y y' : Value} (hy : VR c ρ y y') : Sim P c ρ (VR c) (binOp op t (.pointer none) y) (binOp op t (.pointer none) y') := by
  have e1 := sim_eql hk hP hG t .nilp hy
  have e2 := sim_neq hk hP hG t .nilp hy
  cases hy with
  | int k n =>
    cases op <;> first | exact e1 | exact e2 | exact .halt trivial | exact sim_movedNumber t .nilp (.int k _) | skip
    refine Sim.bind (same_underlying t).sim ?_
    rintro ρ1 g1 d _ ⟨rfl, _⟩
    cases d <;> first | exact sim_movedPointer t .nilp (.int k _) | exact sim_movedNumber t .nilp (.int k _) | (rw [if_pos rfl]; exact sim_movedPointer t .nilp (.int k _))
  | junk u hu => exact .dead (dead_binOp_r' op t _)
  | _ => cases op <;> first | exact e1 | exact e2 | exact .halt trivial
end

/-- Neither a number, a string, nor an address. -/
def Odd (x : Value) : Prop := (∀ k n, x ≠ .int k n) ∧ (∀ s, x ≠ .string s) ∧ (∀ a, x ≠ .pointer a) ∧ (∀ k n, x ≠ .float k n) ∧ ∀ k n m, x ≠ .complex k n m

theorem dead_binOp_odd {op : BinOp} (h1 : op ≠ .eql) (h2 : op ≠ .neq) (t : TypeId) {x : Value} (hx : Odd x) (y : Value) : DeadS P (binOp op t x y) := by
  obtain ⟨o1, o2, o3, o4, o5⟩ := hx
  unfold binOp
  split <;> first | exact Lone.halt trivial | (exfalso; simp_all; done)
theorem binOp_eql_odd (t : TypeId) {x : Value} (hx : Odd x) (y : Value) : binOp .eql t x y = (do pure (.bool (← Op.equal t x y))) := by
  obtain ⟨o1, o2, o3, o4, o5⟩ := hx
  unfold binOp
  split <;> first | rfl | (exfalso; simp_all; done)
theorem binOp_neq_odd (t : TypeId) {x : Value} (hx : Odd x) (y : Value) : binOp .neq t x y = (do pure (.bool (!(← Op.equal t x y)))) := by
  obtain ⟨o1, o2, o3, o4, o5⟩ := hx
  unfold binOp
  split <;> first | rfl | (exfalso; simp_all; done)
theorem sim_binOp_odd (hk : ¬ c.Tk) (hP : P.noCopyChecker) (hG : P.globals.size ≤ c.G) (op : BinOp) (t : TypeId) {x x' y y' : Value} (hx : VR c ρ x x') (hy : VR c ρ y y') (ho : Odd x) (ho' : Odd x') : Sim P c ρ (VR c) (binOp op t x y) (binOp op t x' y') := by
  by_cases h1 : op = .eql
  · subst h1
    rw [binOp_eql_odd t ho, binOp_eql_odd t ho']
    exact sim_eql hk hP hG t hx hy
  · by_cases h2 : op = .neq
    · subst h2
      rw [binOp_neq_odd t ho, binOp_neq_odd t ho']
      exact sim_neq hk hP hG t hx hy
    · exact .dead (dead_binOp_odd h1 h2 t ho y)

theorem sim_binOp (hk : ¬ c.Tk) (hP : P.noCopyChecker) (hG : P.globals.size ≤ c.G) (op : BinOp) (t : TypeId) {x x' y y' : Value} (hx : VR c ρ x x') (hy : VR c ρ y y') : Sim P c ρ (VR c) (binOp op t x y) (binOp op t x' y') := by
  have hx0 := hx
  cases hx with
  | junk u h => exact .dead (dead_binOp_l op t _)
  | int k a => exact sim_binOp_int hk hP hG op t k a hy
  | string a => exact sim_binOp_string hk hP hG op t a hy
  | ptr o s h => exact sim_binOp_ptr hk hP hG op t o s h hy
  | nilp => exact sim_binOp_nil hk hP hG op t hy
  | _ => exact sim_binOp_odd hk hP hG op t hx0 hy ⟨fun _ _ h => (by cases h), fun _ h => (by cases h), fun _ h => (by cases h), fun _ _ h => (by cases h), fun _ _ _ h => (by cases h)⟩ ⟨fun _ _ h => (by cases h), fun _ h => (by cases h), fun _ h => (by cases h), fun _ _ h => (by cases h), fun _ _ _ h => (by cases h)⟩

/-- Types whose comparison takes no guard. -/
def EqOk (P : Program) (t : TypeId) : Prop := P.eqGuardType P.depth t = false ∨ ∃ ms, P.underlying t = some (.interface ms)

theorem sim_guardNil (d : Nat) (t : TypeId) : Same P (Op.eqGuardIn (d + 1) t .nilIface .nilIface) (fun _ => True) := fun c ρ => by
  unfold Op.eqGuardIn
  refine Sim.bind (same_underlying t).sim ?_
  rintro ρ1 g1 k _ ⟨rfl, _⟩
  cases k <;> exact .pure ⟨rfl, trivial⟩

theorem sim_binOpG (hk : ¬ c.Tk) (hP : P.noCopyChecker) (hG : P.globals.size ≤ c.G) (op : BinOp) (t : TypeId) (u v : Operand) (ht : op = .eql ∨ op = .neq → P.eqGuardType P.depth t = false ∨ ∃ ms, P.underlying t = some (.interface ms)) {x x' y y' : Value} (hx : VR c ρ x x') (hy : VR c ρ y y') :
    Sim P c ρ (VR c) (do eqGuard op t u v x y; binOp op t x y) (do eqGuard op t u v x' y'; binOp op t x' y') := by
  have plain : ∀ s : Sem Unit, s = pure () → ∀ s' : Sem Unit, s' = pure () → Sim P c ρ (VR c) (do s; binOp op t x y) (do s'; binOp op t x' y') := by
    rintro _ rfl _ rfl
    refine Sim.bind (Sim.pure (R := fun _ _ _ => True) trivial) ?_
    rintro ρ1 g1 _ _ _
    exact sim_binOp hk hP hG op t (hx.mono g1) (hy.mono g1)
  have after : ∀ {s s' : Sem Unit}, (Sim P c ρ (fun _ _ _ => True) s s') → Sim P c ρ (VR c) (do s; binOp op t x y) (do s'; binOp op t x' y') := by
    intro s s' hs
    refine Sim.bind hs ?_
    rintro ρ1 g1 _ _ _
    exact sim_binOp hk hP hG op t (hx.mono g1) (hy.mono g1)
  by_cases hop : op = .eql ∨ op = .neq
  · by_cases hj : x = .tuple #[]
    · subst hj
      refine .dead (Lone.bind (Q := fun _ => True) ?_ fun _ _ => dead_binOp_l op t y)
      unfold eqGuard
      rcases hop with rfl | rfl <;> exact .pure trivial
    · by_cases hj2 : y = .tuple #[]
      · subst hj2
        refine .dead (Lone.bind (Q := fun _ => True) ?_ fun _ _ => dead_binOp_r' op t x)
        unfold eqGuard
        rcases hop with rfl | rfl <;> cases x <;> exact .pure trivial
      · refine after ?_
        have guardNil : ∀ (b : Bool) (z : Sem Unit), DeadS P z → Sim P c ρ (fun _ _ _ => True)
            (if b = true then pure () else do if ← Op.eqGuardIn Op.maxDepth t .nilIface .nilIface then z)
            (if b = true then pure () else do if ← Op.eqGuardIn Op.maxDepth t .nilIface .nilIface then z) := by
          intro b z hz
          split
          · exact .pure trivial
          · refine Sim.bind (sim_guardNil 9999 t).sim ?_
            rintro ρ1 g1 k _ ⟨rfl, _⟩
            split
            · exact .dead hz
            · exact .pure trivial
        have guardAgg : ∀ (a b a' b' : Array Value) (z : Sem Unit), Sim P c ρ (fun _ _ _ => True)
            (do
              if !(← program).eqGuardType (← program).depth t then return
              if ← Op.eqGuardIn Op.maxDepth t (.agg a) (.agg b) then z)
            (do
              if !(← program).eqGuardType (← program).depth t then return
              if ← Op.eqGuardIn Op.maxDepth t (.agg a') (.agg b') then z) := by
          intro a b a' b' z
          refine Sim.bind Sim.program ?_
          rintro ρ1 g1 p p' ⟨e1, e2⟩
          refine Sim.bind Sim.program ?_
          rintro ρ2 g2 q q' ⟨e3, e4⟩
          rw [e1, e2, e3, e4]
          rcases ht hop with h | ⟨ms, hms⟩
          · simp only [h, Bool.not_false, if_true]
            exact .pure trivial
          · split
            · exact .pure trivial
            · refine Sim.bind (R := fun _ a b => a = false ∧ b = false) ?_ ?_
              · rw [show Op.maxDepth = 9999 + 1 from rfl]
                unfold Op.eqGuardIn
                refine Sim.bind (same_underlying t).sim ?_
                rintro ρ3 g3 d _ ⟨rfl, hd⟩
                rw [hms] at hd
                cases hd
                exact .pure ⟨rfl, rfl⟩
              · rintro ρ3 g3 _ _ ⟨rfl, rfl⟩
                exact .pure trivial
        rcases hop with rfl | rfl
        all_goals
          unfold eqGuard
          cases hx with
          | junk => exact absurd rfl hj
          | nilIface => cases hy with
            | junk => exact absurd rfl hj2
            | nilIface => exact guardNil _ _ (.halt trivial)
            | _ => exact .pure trivial
          | agg h1 h2 => cases hy with
            | junk => exact absurd rfl hj2
            | agg h3 h4 => exact guardAgg _ _ _ _ _
            | _ => exact .pure trivial
          | _ => cases hy <;> exact .pure trivial
  · refine plain _ ?_ _ ?_ <;> (unfold eqGuard; cases op <;> first | rfl | exact absurd (.inl rfl) hop | exact absurd (.inr rfl) hop)
end
end Go.Proofs.Ytngehfhcnfobbaa
namespace Go.Proofs.Ytngehfhcnfobbaa
open Go

section
variable {P : Program} {c : Cx} {ρ ρ' : Nat → Nat → Prop} {α β : Type}

/-- Conversions that are served: to a kind of numbers; a string; bytes to a string. -/
def CvK (P : Program) (s d : TypeId) : Prop :=
  ∃ x y, P.underlying s = some x ∧ P.underlying d = some y ∧ (((∃ k, x = .int k) ∧ ∃ k, y = .int k) ∨ (x = .string ∧ y = .string) ∨ ((∃ e, x = .slice e ∧ P.underlying e = some (.int .u8)) ∧ y = .string))

theorem sim_convert {s d : TypeId} (h : CvK P s d) {v v' : Value} (hv : VR c ρ v v') : Sim P c ρ (VR c) (convert s d v) (convert s d v') := by
  obtain ⟨x, y, hx, hy, h⟩ := h
  unfold convert
  refine Sim.bind (same_underlying s).sim ?_
  rintro ρ1 g1 a _ ⟨rfl, ha⟩
  refine Sim.bind (same_underlying d).sim ?_
  rintro ρ2 g2 b _ ⟨rfl, hb⟩
  rw [hx] at ha
  rw [hy] at hb
  cases ha
  cases hb
  have hv2 := (hv.mono g1).mono g2
  clear hv
  rcases h with ⟨⟨k, rfl⟩, k', rfl⟩ | ⟨rfl, rfl⟩ | ⟨⟨e, rfl, he⟩, rfl⟩
  · cases hv2 <;> first | exact .pure (.int _ _) | exact .halt trivial
  · cases hv2 with
    | int k n => exact .pure (.string _)
    | string a => exact .pure (.string a)
    | _ => exact .halt trivial
  · have key : ∀ {ρ3} {u u' : Value} (f f' g : Sem Value), VR c ρ3 u u' → Sim P c ρ3 (VR c)
        (do match ← underlying e with | .int .u8 => Conv.bytesToString u | .int .i32 => f | _ => g)
        (do match ← underlying e with | .int .u8 => Conv.bytesToString u' | .int .i32 => f' | _ => g) := by
      intro ρ3 u u' f f' g hu
      refine Sim.bind (same_underlying e).sim ?_
      rintro ρ4 g4 z _ ⟨rfl, hz⟩
      rw [he] at hz
      cases hz
      exact sim_bytesToString (hu.mono g4)
    cases hv2 with
    | int k n => exact .pure (.string _)
    | string a => exact .pure (.string a)
    | bool b => exact key _ _ _ (.bool b)
    | nilp => exact key _ _ _ .nilp
    | ptr o s h => exact key _ _ _ (.ptr o s h)
    | nils n m => exact key _ _ _ (.nils n m)
    | slice o s n m h => exact key _ _ _ (.slice o s n m h)
    | void a => exact key _ _ _ (.void a)
    | nilFunc => exact key _ _ _ .nilFunc
    | nilIface => exact key _ _ _ .nilIface
    | func a b c d e => exact key _ _ _ (.func a b c d e)
    | iface a b => exact key _ _ _ (.iface a b)
    | agg a b => exact key _ _ _ (.agg a b)
    | tuple a b => exact key _ _ _ (.tuple a b)
    | tok hk a n m => exact key _ _ _ (.tok hk a n m)
    | tokc hk r => exact key _ _ _ (.tokc hk r)
    | junk u h =>
      refine .dead ?_
      refine Lone.bind (lone_underlying e) fun z _ => ?_
      cases z with
      | int k => cases k <;> exact Lone.halt trivial
      | _ => exact Lone.halt trivial

theorem Lone.shape (r : Nat) : Lone P (fun _ => True) (Go.shape r) := fun w => ⟨fun _ _ => 0, 0, .ok (w.shape? r) w, fun _ _ _ => rfl, trivial⟩
theorem Lone.frozen (a : Addr) : Lone P (fun _ => True) (Go.frozen a) := fun w => ⟨fun _ _ => 0, 0, .ok (w.frozen? a) w, fun _ _ _ => rfl, trivial⟩
theorem Lone.mark (m : Mark) : Lone P (fun _ => True) (Go.mark m) := fun w => ⟨fun _ _ => 0, 0, .ok () w, fun _ _ _ => rfl, trivial⟩
theorem lone_holdsCells (a : Addr) (n : Nat) : Lone P (fun _ => True) (Builtin.holdsCells a n) := by
  unfold Builtin.holdsCells
  refine Lone.bind (Lone.shape _) fun z _ => ?_
  split <;> exact .pure trivial
theorem lone_mayShare (size sLen n : Nat) (base : Option Addr) (x : Value) : Lone P (fun _ => True) (Builtin.mayShare size sLen n base x) := by
  have fin : ∀ there : Bool, Lone P (fun _ => True) (do
      if !there then return true
      match x with
      | .slice (some b) _ _ => do pure (!(← Builtin.holdsCells b (n * size)) || base.any (·.block == b.block))
      | _ => pure false : Sem Bool) := by
    intro there
    split
    · exact .pure trivial
    · split
      · exact Lone.bind (lone_holdsCells _ _) fun _ _ => .pure trivial
      · exact .pure trivial
  unfold Builtin.mayShare
  cases base with
  | none => exact Lone.bind (Q := fun _ => True) (.pure trivial) fun there _ => fin there
  | some a => exact Lone.bind (lone_holdsCells _ _) fun _ _ => Lone.bind (Lone.frozen _) fun _ _ => Lone.bind (Q := fun _ => True) (.pure trivial) fun there _ => fin there

theorem sim_lenOf {v v' : Value} (hv : VR c ρ v v') : Sim P c ρ (fun _ a b => a = b ∧ ∀ ad, v = .slice ad 0 0 → a = 0) (Builtin.lenOf v) (Builtin.lenOf v') := by
  cases hv <;> first | exact .stuck | exact .pure ⟨rfl, fun _ e => by cases e <;> rfl⟩
theorem loadCells_zero (a : Addr) (size : Nat) : loadCells a (0 * size) = Pure.pure #[] := by rw [Nat.zero_mul]; rfl
theorem firstCells_zero {size : Nat} {v v' : Value} (hv : VR c ρ v v') : Sim P c ρ (fun _ a b => a = #[] ∧ b = #[]) (Builtin.firstCells size 0 v) (Builtin.firstCells size 0 v') := by
  cases hv with
  | nils n m => exact .pure ⟨rfl, rfl⟩
  | slice o s k m h =>
    show Sim P c ρ _ (loadCells _ (0 * size)) (loadCells _ (0 * size))
    rw [loadCells_zero, loadCells_zero]
    exact .pure ⟨rfl, rfl⟩
  | void a =>
    show Sim P c ρ _ (loadCells _ (0 * size)) (loadCells _ (0 * size))
    rw [loadCells_zero]
    exact .pure ⟨rfl, rfl⟩
  | string s => exact .pure ⟨by simp, by simp⟩
  | _ => exact .stuck
theorem sim_firstCells (size n : Nat) {v v' : Value} (hv : VR c ρ v v') (h0 : ∀ ad, v = .slice ad 0 0 → n = 0) : Sim P c ρ (fun ρ a b => AR c ρ a b ∧ (n = 0 → a = #[] ∧ b = #[])) (Builtin.firstCells size n v) (Builtin.firstCells size n v') := by
  by_cases hn : n = 0
  · subst hn
    exact (firstCells_zero hv).mono fun _ a b _ h => by
      obtain ⟨rfl, rfl⟩ := h
      exact ⟨.nil, fun _ => ⟨rfl, rfl⟩⟩
  cases hv with
  | nils n m => exact .pure ⟨.nil, fun _ => ⟨rfl, rfl⟩⟩
  | slice o s k m h => exact (Sim.loadCells (adR o s h) _).mono fun _ a b _ h => ⟨h, fun e => absurd e hn⟩
  | void a => exact absurd (h0 _ rfl) hn
  | string s =>
    refine .pure ⟨AR.plain fun v hv => ?_, fun e => absurd e hn⟩
    obtain ⟨b, _, rfl⟩ := Array.mem_map.1 hv
    exact fun _ _ => .int _ _
  | _ => exact .stuck
theorem sim_askRoom (n : Nat) : Sim P c ρ (fun _ _ _ => True) (askRoom n) (askRoom n) := by
  unfold askRoom
  split
  · exact Sim.mark (.inl rfl)
  · exact .pure trivial

theorem AR.args {xs xs' : Array Value} (h : AR c ρ xs xs') : OV c ρ xs[0]? xs'[0]? ∧ OV c ρ xs[1]? xs'[1]? := by
  constructor
  · rcases h.get? 0 with ⟨e1, e2⟩ | ⟨u, u', e1, e2, e3⟩ <;> rw [e1, e2]
    · exact .none
    · exact .some e3
  · rcases h.get? 1 with ⟨e1, e2⟩ | ⟨u, u', e1, e2, e3⟩ <;> rw [e1, e2]
    · exact .none
    · exact .some e3

/-- An append whose second argument is no count. -/
structure AppOk (P : Program) (argTypes : Array TypeId) : Prop where
  elem : ∀ t e, argTypes[0]? = some t → P.underlying t = some (.slice e) → ZOk P e
  more : ∀ t k, argTypes[1]? = some t → P.underlying t ≠ some (.int k)

theorem sim_append {ts : Array TypeId} (hA : AppOk P ts) (t : TypeId) {xs xs' : Array Value} (hx : AR c ρ xs xs') : Sim P c ρ (VR c) (Builtin.append_ ts t xs) (Builtin.append_ ts t xs') := by
  obtain ⟨h0, h1⟩ := hx.args
  unfold Builtin.append_
  cases hs : ts[0]? with
  | none => exact .stuck
  | some sType =>
    generalize xs[0]? = a at h0 ⊢
    generalize xs'[0]? = a' at h0 ⊢
    generalize xs[1]? = b at h1 ⊢
    generalize xs'[1]? = b' at h1 ⊢
    cases h0 with
    | none => exact .stuck
    | some hs0 => cases h1 with
      | none => exact .stuck
      | @some x x' hx0 =>
        dsimp only
        refine Sim.bind (same_underlying sType).sim ?_
        rintro ρ1 g1 d _ ⟨rfl, hd⟩
        cases d with
        | slice elem =>
          have hz := hA.elem _ _ hs hd
          have hs1 := hs0.mono g1
          rcases hs1.asSlice with ⟨base, base', sLen, sCap, rfl, rfl, hb⟩ | hno
          · refine Sim.bind (same_sizeOf elem).sim ?_
            rintro ρ2 g2 size _ ⟨rfl, _⟩
            cases ht : ts[1]?
            case' none =>
              refine Sim.bind (Sim.pure (R := fun _ a b => a = false ∧ b = false) ⟨rfl, rfl⟩) ?_
              rintro ρ9 g3 _ _ ⟨rfl, rfl⟩
              have hg : ∀ a b, ρ1 a b → ρ9 a b := fun a b h => g3 _ _ (g2 _ _ h)
            case' some u =>
              refine Sim.bind (same_underlying u).sim ?_
              rintro ρ3 g3 d _ ⟨rfl, hd⟩
              have hne : ∀ z, P.underlying u = some z → (match z with | .int _ => true | _ => false) = false := by
                intro z hz
                cases z <;> first | rfl | exact absurd hz (hA.more _ _ ht)
              refine Sim.bind (Sim.pure (R := fun _ a b => a = false ∧ b = false) ⟨hne d hd, hne d hd⟩) ?_
              rintro ρ9 g4 _ _ ⟨rfl, rfl⟩
              have hg : ∀ a b, ρ1 a b → ρ9 a b := fun a b h => g4 _ _ (g3 _ _ (g2 _ _ h))
            all_goals
              refine Sim.bind (sim_lenOf ((hx0.mono g1).mono hg)) ?_
              rintro ρA gA n _ ⟨rfl, hn0⟩
              have hsA : VR c ρA (.slice base sLen sCap) (.slice base' sLen sCap) := by
                rcases hb with hb | ⟨a, rfl, rfl, rfl, rfl⟩
                · exact ((hb.mono hg).mono gA).slice _ _
                · exact .void a
              have hsB : ∀ ad, Value.slice base sLen sCap = .slice ad 0 0 → sLen = 0 := fun _ e => by cases e; rfl
              have hxA := ((hx0.mono g1).mono hg).mono gA
              have hbA := hb.imp (fun hb => (hb.mono hg).mono gA) id
              clear hb hs0 hs1
              split
              · rename_i hle
                refine Sim.bind (sim_firstCells size n hxA hn0) ?_
                rintro ρB gB xs xs' ⟨hxs, hx1⟩
                rcases hbA with hb | ⟨a, rfl, rfl, rfl, rfl⟩
                · cases hb with
                  | none => exact .pure (.nils _ _)
                  | some h =>
                    refine Sim.bind (Sim.storeCells hxs.list ((h.mono gB).add _) 0) ?_
                    rintro ρC gC _ _ _
                    exact .pure (.sliceA ((h.mono gB).mono gC) _ _)
                · obtain rfl : n = 0 := by omega
                  obtain ⟨rfl, rfl⟩ := hx1 rfl
                  exact Sim.bind (R := fun _ _ _ => True) (.pure trivial) fun _ _ _ _ _ => .pure (.void a)
              · refine Sim.bind (same_typeInfo elem).sim ?_
                rintro ρB gB i _ ⟨rfl, _⟩
                split
                · exact .dead (Lone.bind (dead_runtimePanic _) fun _ h => h.elim)
                · refine Sim.bind (same_typeInfo elem).sim ?_
                  rintro ρC gC i2 _ ⟨rfl, _⟩
                  split
                  · refine .dead ?_
                    refine Lone.bind (Q := fun _ => False) (Lone.bind (lone_mayShare _ _ _ _ _) fun b _ => ?_) fun _ h => h.elim
                    split
                    · exact Lone.bind (Lone.mark _) fun _ _ => .halt trivial
                    · exact .halt trivial
                  · have hsC := (hsA.mono gB).mono gC
                    have hxC := (hxA.mono gB).mono gC
                    refine Sim.bind (Sim.choose _) ?_
                    rintro ρ3 g3 k _ rfl
                    refine Sim.bind (same_typeInfo elem).sim ?_
                    rintro ρ4 g4 i _ ⟨rfl, _⟩
                    refine Sim.bind (sim_askRoom _) ?_
                    rintro ρ5 g5 _ _ _
                    refine Sim.bind (sim_firstCells size sLen (((hsC.mono g3).mono g4).mono g5) hsB) ?_
                    rintro ρ6 g6 os os' ⟨ho, _⟩
                    refine Sim.bind (sim_firstCells size n ((((hxC.mono g3).mono g4).mono g5).mono g6) hn0) ?_
                    rintro ρ7 g7 ns ns' ⟨hn, _⟩
                    refine Sim.bind (same_zeroValue hz).sim ?_
                    rintro ρ8 g8 z _ ⟨rfl, hpl⟩
                    refine Sim.bind (Sim.newRow (((ho.mono g7).mono g8 |>.append (hn.mono g8)).append (AR.zeros hpl _)) elem) ?_
                    rintro ρ10 g10 r r' hr
                    exact .pure (.sliceA hr _ _)
          · cases hs1 <;> first | exact absurd rfl (hno _ _ _) | exact .stuck
        | _ => exact .stuck

theorem sim_copy (ts : Array TypeId) (t : TypeId) {xs xs' : Array Value} (hx : AR c ρ xs xs') : Sim P c ρ (VR c) (Builtin.copy_ ts t xs) (Builtin.copy_ ts t xs') := by
  obtain ⟨h0, h1⟩ := hx.args
  unfold Builtin.copy_
  cases hs : ts[0]? with
  | none => exact .stuck
  | some sType =>
    generalize xs[0]? = a at h0 ⊢
    generalize xs'[0]? = a' at h0 ⊢
    generalize xs[1]? = b at h1 ⊢
    generalize xs'[1]? = b' at h1 ⊢
    cases h0 with
    | none => exact .stuck
    | some hs0 => cases h1 with
      | none => exact .stuck
      | @some x x' hx0 =>
        dsimp only
        refine Sim.bind (same_underlying sType).sim ?_
        rintro ρ1 g1 d _ ⟨rfl, hd⟩
        cases d with
        | slice elem =>
          have hs1 := hs0.mono g1
          rcases hs1.asSlice with ⟨base, base', dLen, dCap, rfl, rfl, hb⟩ | hno
          · refine Sim.bind (sim_lenOf (hx0.mono g1)) ?_
            rintro ρ3 g3 n _ ⟨rfl, hn0⟩
            refine Sim.bind (same_sizeOf elem).sim ?_
            rintro ρ4 g4 size _ ⟨rfl, _⟩
            refine Sim.bind (sim_firstCells _ _ (((hx0.mono g1).mono g3).mono g4) (fun ad e => by rw [hn0 ad e]; exact Nat.zero_min _)) ?_
            rintro ρ5 g5 cs cs' ⟨hc, hc0⟩
            rcases hb with hb | ⟨a, rfl, rfl, rfl, rfl⟩
            · cases hb with
              | none => exact .pure (.int _ _)
              | some h =>
                refine Sim.bind (Sim.storeCells hc.list (((h.mono g3).mono g4).mono g5) 0) ?_
                rintro ρ6 g6 _ _ _
                exact .pure (.int _ _)
            · obtain ⟨rfl, rfl⟩ := hc0 (Nat.min_zero _)
              exact Sim.bind (R := fun _ _ _ => True) (.pure trivial) fun _ _ _ _ _ => .pure (.int _ _)
          · cases hs1 <;> first | exact absurd rfl (hno _ _ _) | exact .stuck
        | _ => exact .stuck

theorem sim_len (ts : Array TypeId) (t : TypeId) {xs xs' : Array Value} (hx : AR c ρ xs xs') : Sim P c ρ (VR c) (Builtin.len_ ts t xs) (Builtin.len_ ts t xs') := by
  obtain ⟨h0, _⟩ := hx.args
  unfold Builtin.len_
  cases hs : ts[0]? with
  | none => exact .stuck
  | some sType =>
    generalize xs[0]? = a at h0 ⊢
    generalize xs'[0]? = a' at h0 ⊢
    cases h0 with
    | none => exact .stuck
    | some hs0 =>
      dsimp only
      refine Sim.bind (same_underlying sType).sim ?_
      rintro ρ1 g1 d _ ⟨rfl, hd⟩
      have h1 := hs0.mono g1
      clear hs0
      cases d with
      | array n e => exact .pure (.int _ _)
      | pointer p =>
        refine Sim.bind (same_underlying p).sim ?_
        rintro ρ2 g2 d _ ⟨rfl, _⟩
        cases d <;> first | exact .pure (.int _ _) | exact .stuck
      | slice e => cases h1 <;> first | exact .pure (.int _ _) | exact .stuck
      | string => cases h1 <;> first | exact .pure (.int _ _) | exact .stuck
      | _ => cases h1 <;> exact .stuck

theorem sim_cap (ts : Array TypeId) (t : TypeId) {xs xs' : Array Value} (hx : AR c ρ xs xs') : Sim P c ρ (VR c) (Builtin.cap_ ts t xs) (Builtin.cap_ ts t xs') := by
  obtain ⟨h0, _⟩ := hx.args
  unfold Builtin.cap_
  cases hs : ts[0]? with
  | none => exact .stuck
  | some sType =>
    generalize xs[0]? = a at h0 ⊢
    generalize xs'[0]? = a' at h0 ⊢
    cases h0 with
    | none => exact .stuck
    | some hs0 =>
      dsimp only
      refine Sim.bind (same_underlying sType).sim ?_
      rintro ρ1 g1 d _ ⟨rfl, hd⟩
      have h1 := hs0.mono g1
      clear hs0
      cases d with
      | array n e => exact .pure (.int _ _)
      | pointer p =>
        refine Sim.bind (same_underlying p).sim ?_
        rintro ρ2 g2 d _ ⟨rfl, _⟩
        cases d <;> first | exact .pure (.int _ _) | exact .stuck
      | slice e => cases h1 <;> first | exact .pure (.int _ _) | exact .stuck
      | _ => cases h1 <;> exact .stuck

/-- A slice that is cleared. -/
def ClrOk (P : Program) (ts : Array TypeId) : Prop := ∀ t, ts[0]? = some t → ∃ e, P.underlying t = some (.slice e) ∧ ZOk P e

theorem sim_clear {ts : Array TypeId} (hC : ClrOk P ts) (t : TypeId) {xs xs' : Array Value} (hx : AR c ρ xs xs') : Sim P c ρ (VR c) (Builtin.clear_ ts t xs) (Builtin.clear_ ts t xs') := by
  obtain ⟨h0, _⟩ := hx.args
  unfold Builtin.clear_
  cases hs : ts[0]? with
  | none => exact .stuck
  | some sType =>
    generalize xs[0]? = a at h0 ⊢
    generalize xs'[0]? = a' at h0 ⊢
    cases h0 with
    | none => exact .stuck
    | some hs0 =>
      dsimp only
      refine Sim.bind (same_underlying sType).sim ?_
      rintro ρ1 g1 d _ ⟨rfl, hd⟩
      obtain ⟨e, he, hz⟩ := hC _ hs
      rw [he] at hd
      cases hd
      have h1 := hs0.mono g1
      clear hs0
      have unit : Sim P c ρ1 (VR c) (pure (.tuple #[])) (pure (.tuple #[])) := .pure (VR.tuple (xs := #[]) (xs' := #[]) rfl (fun i v v' h => by simp at h))
      cases h1 with
      | nils n m => exact unit
      | void a => exact unit
      | slice o s n m h =>
        cases n with
        | zero => exact unit
        | succ n =>
          refine Sim.bind (same_zeroValue hz).sim ?_
          rintro ρ2 g2 z _ ⟨rfl, hpl⟩
          refine Sim.bind (Sim.storeCells (AR.zeros hpl _).list ((adR o s h).mono g2) 0) ?_
          rintro ρ3 g3 _ _ _
          exact .pure (VR.tuple (xs := #[]) (xs' := #[]) rfl (fun i v v' h => by simp at h))
      | _ => exact .dead (Lone.bind (Q := fun _ => False) (.halt trivial) fun _ h => h.elim)
end
end Go.Proofs.Ytngehfhcnfobbaa
