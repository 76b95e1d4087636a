/- Lemmas for it, part 12. No condition. -/
import Derived.Conc.Walk
import Derived.Conc.Own5
import Derived.Conc.Beside
import Derived.Test.YtngehfhcnfobbaaPk1
import Derived.Test.YtngehfhcnfobbaaPk7
import Derived.Test.YtngehfhcnfobbaaPk11
namespace Go.Proofs.Ytngehfhcnfobbaa
open Go Go.Conc

section
variable {P : Program} {c : Cx}

/-- What has become since the call of what was there. -/
structure Since0 (Vis : Nat → Prop) (ρ0 : Nat → Nat → Prop) (w0 W0 : World) (O0 : Nat → Prop) (ρ : Nat → Nat → Prop) (w W : World) (O : Nat → Prop) : Prop where
  sub : ∀ b b', ρ0 b b' → ρ b b'
  new : ∀ b b', ρ b b' → ρ0 b b' ∨ (w0.heap.size ≤ b ∧ W0.heap.size ≤ b')
  lsz : w0.heap.size ≤ w.heap.size
  csz : W0.heap.size ≤ W.heap.size
  own : ∀ b, O0 b → O b
  ownNew : ∀ b, O b → O0 b ∨ W0.heap.size ≤ b
  tape : W.tape = W0.tape
  os : W.os = W0.os
  output : W.output = W0.output
  keep : ∀ b, b < W0.heap.size → Vis b → ¬ O0 b → W.heap[b]? = W0.heap[b]?

/-- The call has come back. -/
def Back (c : Cx) (Vis : Nat → Prop) (Q : Value → World → Prop) (ρ0 : Nat → Nat → Prop) (w0 W0 : World) (O0 : Nat → Prop) (c1 : Frame) (cs1 : List Frame) (O : Nat → Prop) (g : Goroutine) (W : World) : Prop :=
  ∃ v v' w ρ τ d, g = G (c1.finish v') cs1 ∧ Q v (td w τ d) ∧ VR c ρ v v' ∧ WR c ρ w W ∧ (∀ b b', ρ b b' → Vis b' ∨ O b') ∧ (∀ b b', ρ b b' → ¬ c.Fz b → O b') ∧ Since0 Vis ρ0 w0 W0 O0 ρ w W O

theorem c0_finish (v : Value) : c0.finish v = c0 := rfl

/-- Behind the leaving of the last frame nothing more comes. -/
theorem fin_next {fr : Frame} {w : World} (hm : fr.mode = .returning) (hd : fr.defers = []) (hk : fr.kind = .normal) :
    (∃ o w1, step P (lone fr [c0] w) = .ended o w1) ∨ ∃ w1, step P (lone fr [c0] w) = .next (lone c0 [] w1) := by
  have e : stepG P true (G fr [c0]) w = unwind P true fr [c0] none w := stepG_ret hm
  cases hf : P.funcs[fr.fn]? with
  | none =>
    right
    refine ⟨w, step_lone_go ?_⟩
    show (stepG P true (G fr [c0]) w).bare = _
    rw [e]
    simp only [unwind, hd, hm, hf, doReturn, hk]
    rfl
  | some fn =>
    cases hs : (results fn fr.tmps).run P w with
    | ok v w1 =>
      right
      refine ⟨w1, step_lone_go ?_⟩
      show (stepG P true (G fr [c0]) w).bare = _
      rw [e]
      simp only [unwind, hd, hm, hf, Sem.runT_fst, hs, doReturn, hk]
      rfl
    | halt h w1 =>
      left
      have : ∃ o, (stepG P true (G fr [c0]) w).bare = .ended o w1 := by
        rw [e]
        simp only [unwind, hd, hm, hf, Sem.runT_fst, hs]
        cases h <;> exact ⟨_, rfl⟩
      obtain ⟨o, ho⟩ := this
      exact ⟨o, w1, step_lone_ended ho⟩


theorem runN_succ' (n : Nat) (m : Machine) : runN P (n + 1) m = match step P m with | .next m' => runN P n m' | e => e := rfl

/-- Behind the leaving of the last frame there is no moment at which a frame stands upon 'c0'. -/
theorem fin_gone {fr fr2 : Frame} {w w2 : World} (hm : fr.mode = .returning) (hd : fr.defers = []) (hk : fr.kind = .normal) {k : Nat} {cs2 : List Frame} : runN P (k + 1) (lone fr [c0] w) ≠ .next (lone fr2 (cs2 ++ [c0]) w2) := by
  intro h2
  simp only [runN_succ'] at h2
  rcases fin_next (P := P) (w := w) hm hd hk with ⟨o, w1, hs⟩ | ⟨w1, hs⟩
  · rw [hs] at h2; cases h2
  · rw [hs] at h2
    cases k with
    | zero =>
      simp only [runN, Stepped.next.injEq] at h2
      have := (lone_frame h2).2.1
      cases cs2 <;> cases this
    | succ k =>
      obtain ⟨o, ho⟩ := c0_ends (P := P) (fr := c0) rfl (ch := []) rfl w1
      simp only [runN_succ', ho] at h2
      cases h2

/-- Where the lone run comes to its end: true: the last frame leaves; false: the piece of code is through. -/
def FinF (call : Bool) (fr : Frame) : Prop := if call then fr.mode = .returning else fr.mode = .run ∧ fr.todo = []

theorem fin_once {call : Bool} {fr fr2 : Frame} {w w2 : World} (hf : FinF call fr) (hd : fr.defers = []) (hk : fr.kind = .normal) (hr : fr.roundOf = none) (hf2 : FinF call fr2) {k : Nat} : runN P (k + 1) (lone fr [c0] w) ≠ .next (lone fr2 [c0] w2) := by
  intro h2
  cases call with
  | true => exact fin_gone (cs2 := []) hf hd hk h2
  | false =>
    obtain ⟨h1, h3⟩ := hf
    have hs : step P (lone fr [c0] w) = .next (lone { fr with mode := .returning } [c0] w) := by
      refine step_lone_go ?_
      show (stepG P true (G fr [c0]) w).bare = _
      rw [stepG_run h1]
      unfold stepG.exec
      simp only [h3, hr]
      rfl
    rw [runN_succ', hs] at h2
    cases k with
    | zero =>
      simp only [runN, Stepped.next.injEq] at h2
      have h4 := (lone_frame h2).1
      have h5 : fr2.mode = .run := hf2.1
      rw [← h4] at h5
      cases h5
    | succ k => exact fin_gone (fr := { fr with mode := .returning }) (cs2 := []) rfl hd hk h2

/-- Both runs, so many steps behind the beginning. -/
structure Pt (P : Program) (c : Cx) (main : Bool) (Vis : Nat → Prop) (Stop : (Nat → Prop) → Goroutine → World → Prop) (call : Bool) (b0 : List Deferred → CallKind → List Item → Prop) (k' : List Item) (f0 : Frame) (ρ0 : Nat → Nat → Prop) (w0 W0 : World) (O0 : Nat → Prop) (cs' : List Frame) (σ0 : Nat → Question → Nat) (D0 : Nat) where
  fr : Frame
  frs : List Frame
  fr' : Frame
  frs' : List Frame
  ρ : Nat → Nat → Prop
  O : Nat → Prop
  w : World
  W : World
  n : Nat
  D : Nat
  σ : Nat → Question → Nat
  st : ST P c b0 k' ρ fr frs fr' frs'
  wr : WR c ρ w W
  vis : ∀ b b', ρ b b' → Vis b' ∨ O b'
  own : ∀ b b', ρ b b' → ¬ c.Fz b → O b'
  since : Since0 Vis ρ0 w0 W0 O0 ρ w W O
  le : D0 ≤ D
  ag : ∀ i q, i < D0 → σ i q = σ0 i q
  run : ∀ τ, (∀ i q, i < D → τ i q = σ i q) → runN P n (lone f0 [c0] (td w0 τ D0)) = .next (lone fr (frs ++ [c0]) (td w τ D))
  nofin : ∀ τ, (∀ i q, i < D → τ i q = σ i q) → ∀ m, m < n → ∀ fr2 w2, runN P m (lone f0 [c0] (td w0 τ D0)) = .next (lone fr2 [c0] w2) → ¬ FinF call fr2
  bad : ¬ Co P main Vis Stop O (G fr' (frs' ++ cs')) W

theorem Since0.rely {Vis : Nat → Prop} {ρ0 : Nat → Nat → Prop} {w0 W0 : World} {O0 : Nat → Prop} {ρ : Nat → Nat → Prop} {w W W1 : World} {O : Nat → Prop} (h : Since0 Vis ρ0 w0 W0 O0 ρ w W O) (k : Rely Vis O W W1) : Since0 Vis ρ0 w0 W0 O0 ρ w W1 O :=
  ⟨h.sub, h.new, h.lsz, Nat.le_trans h.csz k.size, h.own, h.ownNew, k.tape.trans h.tape, k.os.trans h.os, k.output.trans h.output, fun b hb hv ho => (k.keep b (.inl hv)).trans (h.keep b hb hv ho)⟩
theorem Since0.step {Vis : Nat → Prop} {ρ0 : Nat → Nat → Prop} {w0 W0 : World} {O0 : Nat → Prop} {ρ ρ1 : Nat → Nat → Prop} {w W w1 W1 : World} {O : Nat → Prop} (h : Since0 Vis ρ0 w0 W0 O0 ρ w W O) (g : Gr c ρ w W ρ1 w1 W1) (own : ∀ b b', ρ b b' → ¬ c.Fz b → O b') : Since0 Vis ρ0 w0 W0 O0 ρ1 w1 W1 (fun b => O b ∨ (W.heap.size ≤ b ∧ b < W1.heap.size)) :=
  ⟨fun b b' x => g.sub _ _ (h.sub _ _ x), fun b b' x => by
    rcases g.new b b' x with y | ⟨y, z⟩
    · exact h.new _ _ y
    · exact .inr ⟨Nat.le_trans h.lsz y, Nat.le_trans h.csz z⟩, Nat.le_trans h.lsz g.lsz, Nat.le_trans h.csz g.csz, fun b x => .inl (h.own b x), fun b x => by
    rcases x with x | ⟨x, _⟩
    · exact h.ownNew b x
    · exact .inr (Nat.le_trans h.csz x), g.tape.trans h.tape, g.os.trans h.os, g.output.trans h.output, fun b hb hv ho => (g.keep b (Nat.lt_of_lt_of_le hb h.csz) fun a ha => Classical.byContradiction fun hz => by
      rcases h.ownNew b (own a b ha hz) with x | x
      · exact ho x
      · omega).trans (h.keep b hb hv ho)⟩

section
variable {main : Bool} {Vis : Nat → Prop} {Stop : (Nat → Prop) → Goroutine → World → Prop} {call : Bool} {b0 : List Deferred → CallKind → List Item → Prop} {k' : List Item} {f0 : Frame} {ρ0 : Nat → Nat → Prop} {w0 W0 : World} {O0 : Nat → Prop} {cs' : List Frame} {Good : Frame → World → Prop} {σ0 : Nat → Question → Nat} {D0 : Nat}

/-- The lone contract. -/
def Con (P : Program) (call : Bool) (f0 : Frame) (w0 : World) (σ0 : Nat → Question → Nat) (D0 : Nat) (Good : Frame → World → Prop) : Prop :=
  ∀ τ, (∀ i q, i < D0 → τ i q = σ0 i q) → ∃ N fr w', runN P N (lone f0 [c0] (td w0 τ D0)) = .next (lone fr [c0] w') ∧ FinF call fr ∧ Good fr w'

/-- At the end of the lone run the contract speaks of this very moment. -/
theorem pt_good (con : Con P call f0 w0 σ0 D0 Good) (p : Pt P c main Vis Stop call b0 k' f0 ρ0 w0 W0 O0 cs' σ0 D0) (hfs : p.frs = []) (hf : FinF call p.fr) (σ2 : Nat → Question → Nat) : Good p.fr (td p.w (fun i q => if i < p.D then p.σ i q else σ2 (i - p.D) q) p.D) := by
  obtain ⟨N, fr2, w', hN, h1, h2⟩ := con (fun i q => if i < p.D then p.σ i q else σ2 (i - p.D) q) (fun i q hi => (if_pos (Nat.lt_of_lt_of_le hi p.le)).trans (p.ag i q hi))
  have hag : ∀ i q, i < p.D → (fun i q => if i < p.D then p.σ i q else σ2 (i - p.D) q) i q = p.σ i q := fun i q hi => if_pos hi
  have hp := p.run _ hag
  rw [hfs, List.nil_append] at hp
  obtain ⟨b, k1, hfr, _⟩ := p.st.top
  rcases Nat.lt_trichotomy N p.n with h | h | h
  · exact absurd h1 (p.nofin _ hag N h _ _ hN)
  · subst h
    rw [hp] at hN
    obtain ⟨rfl, _, rfl⟩ := lone_frame (Stepped.next.inj hN)
    exact h2
  · obtain ⟨k, rfl⟩ : ∃ k, N = p.n + (k + 1) := ⟨N - p.n - 1, by omega⟩
    rw [runN_add, hp] at hN
    exact absurd hN (fin_once hf hfr.ldefers hfr.lkind hfr.round.1 h1)

/-- A moment that is not the last is followed by another. -/
theorem pt_next (hC : COk P c) (hF : FnsOk P c) (hk' : call = true → k' = []) (con : Con P call f0 w0 σ0 D0 Good) (p : Pt P c main Vis Stop call b0 k' f0 ρ0 w0 W0 O0 cs' σ0 D0) (hnf : ¬ (p.frs = [] ∧ FinF call p.fr)) :
    ∃ q : Pt P c main Vis Stop call b0 k' f0 ρ0 w0 W0 O0 cs' σ0 D0, q.n = p.n + 1 ∧ p.D ≤ q.D ∧ ∀ i x, i < p.D → q.σ i x = p.σ i x := by
  obtain ⟨_, _, hfr, _⟩ := p.st.top
  -- the contract's end lies behind this moment
  have later : ∀ τ, (∀ i q, i < p.D → τ i q = p.σ i q) → ∃ j fr2 w', FinF call fr2 ∧ runN P (j + 1) (lone p.fr (p.frs ++ [c0]) (td p.w τ p.D)) = .next (lone fr2 [c0] w') := by
    intro τ hτ
    obtain ⟨N, fr2, w', hN, h1, _⟩ := con τ (fun i q hi => (hτ i q (Nat.lt_of_lt_of_le hi p.le)).trans (p.ag i q hi))
    have hp := p.run τ hτ
    rcases Nat.lt_trichotomy N p.n with h | h | h
    · exact absurd h1 (p.nofin τ hτ N h _ _ hN)
    · subst h
      rw [hp] at hN
      obtain ⟨e1, e2, _⟩ := lone_frame (Stepped.next.inj hN)
      refine absurd ⟨?_, e1 ▸ h1⟩ hnf
      have := congrArg List.length e2
      simp at this
      exact this
    · obtain ⟨k, rfl⟩ : ∃ k, N = p.n + (k + 1) := ⟨N - p.n - 1, by omega⟩
      rw [runN_add, hp] at hN
      exact ⟨k, fr2, w', h1, hN⟩
  have hnot : p.frs = [] → p.fr.mode ≠ .returning ∧ (p.fr.todo ≠ [] ∨ k' = []) := by
    intro hfs
    have hret : p.fr.mode ≠ .returning := by
      intro hm
      obtain ⟨j, fr2, w', _, hj⟩ := later (fun i q => if i < p.D then p.σ i q else 0) (fun i q hi => if_pos hi)
      rw [hfs, List.nil_append] at hj
      exact fin_gone (cs2 := []) hm hfr.ldefers hfr.lkind hj
    refine ⟨hret, ?_⟩
    cases call with
    | true => exact .inr (hk' rfl)
    | false =>
      left
      intro ht
      refine hnf ⟨hfs, ?_, ht⟩
      rcases hfr.mode with ⟨h, _⟩ | ⟨h, _⟩
      · exact h
      · exact absurd h hret
  apply Classical.byContradiction
  intro hno
  refine p.bad (Co.step rfl fun W1 hr => ?_)
  have hw1 := p.wr.rely p.vis hr
  obtain ⟨σ2, k, hs⟩ := step_any (main := true) (main' := main) (cs := [c0]) (cs' := cs') hC hF hw1 p.st hnot
  have hp : ∀ τ : Nat → Question → Nat, (∀ i q, i < p.D + k → τ i q = if i < p.D then p.σ i q else σ2 (i - p.D) q) → (∀ i q, i < p.D → τ i q = p.σ i q) ∧ ∀ i q, i < k → τ (p.D + i) q = σ2 i q := fun τ hτ =>
    ⟨fun i q hi => (hτ i q (by omega)).trans (if_pos hi), fun i q hi => by
      have := (hτ (p.D + i) q (by omega)).trans (if_neg (by omega))
      rwa [Nat.add_sub_cancel_left] at this⟩
  rcases hs with hdoom | ⟨fr1, frs1, w1, fr1', frs1', ρ1, W2, es, h1, h2, h3, h5, h6, h7⟩
  · exfalso
    obtain ⟨ha, hb⟩ := hp (fun i q => if i < p.D then p.σ i q else σ2 (i - p.D) q) fun i q _ => rfl
    have hd : Doom (p.frs ++ [c0]) (stepG P true (G p.fr (p.frs ++ [c0])) (td p.w (fun i q => if i < p.D then p.σ i q else σ2 (i - p.D) q) p.D)) := hdoom (fun i q => if i < p.D then p.σ i q else σ2 (i - p.D) q) p.D hb
    obtain ⟨j, fr2, w', hf2, hN⟩ := later _ ha
    simp only [runN_succ'] at hN
    generalize hst : stepG P true (G p.fr (p.frs ++ [c0])) (td p.w (fun i q => if i < p.D then p.σ i q else σ2 (i - p.D) q) p.D) = st at hd
    cases st with
    | ended o w2 es =>
      have := step_lone_ended (P := P) (fr := p.fr) (cs := p.frs ++ [c0]) (w := td p.w (fun i q => if i < p.D then p.σ i q else σ2 (i - p.D) q) p.D) (o := o) (w' := w2) (by
        show (stepG P true (G p.fr (p.frs ++ [c0])) _).bare = _
        rw [hst]; rfl)
      rw [this] at hN
      cases hN
    | go g w2 es =>
      obtain ⟨fr3, ch, rfl, hm3, hd3⟩ := hd
      have := step_lone_go (P := P) (fr := p.fr) (cs := p.frs ++ [c0]) (w := td p.w (fun i q => if i < p.D then p.σ i q else σ2 (i - p.D) q) p.D) (fr' := fr3) (cs' := p.frs ++ [c0]) (w' := w2) (by
        show (stepG P true (G p.fr (p.frs ++ [c0])) _).bare = _
        rw [hst]; rfl)
      rw [this] at hN
      refine doomed p.frs fr3 w2 ch hm3 hd3 p.st.defers j fr2 w' ?_ hN
      cases call with
      | true => exact .inl hf2
      | false => exact .inr hf2.1
    | _ => exact hd
  · obtain ⟨q1, q2, q3⟩ := guar_of h5 h6 p.vis p.own h7
    refine ⟨_, W2, es, _, h2, q1, ?_⟩
    apply Classical.byContradiction
    intro hb
    refine hno ⟨⟨fr1, frs1, fr1', frs1', ρ1, _, w1, W2, p.n + 1, p.D + k, fun i q => if i < p.D then p.σ i q else σ2 (i - p.D) q, h3, h6, q2, q3, (p.since.rely hr).step h5 p.own, Nat.le_trans p.le (Nat.le_add_right _ _), fun i q hi => (if_pos (Nat.lt_of_lt_of_le hi p.le)).trans (p.ag i q hi), fun τ hτ => ?_, fun τ hτ m hm fr2 w2 hrun => ?_, hb⟩, rfl, Nat.le_add_right _ _, fun i x hi => if_pos hi⟩
    · obtain ⟨ha, hb⟩ := hp τ hτ
      rw [runN_add, p.run τ ha]
      have := step_lone_go (P := P) (h1 τ p.D hb)
      simp only [runN, this]
    · obtain ⟨ha, _⟩ := hp τ hτ
      rcases Nat.lt_or_ge m p.n with h | h
      · exact p.nofin τ ha m h fr2 w2 hrun
      · have e : m = p.n := by omega
        subst e
        rw [p.run τ ha] at hrun
        obtain ⟨rfl, e2, _⟩ := lone_frame (Stepped.next.inj hrun)
        intro hfin
        refine hnf ⟨?_, hfin⟩
        have := congrArg List.length e2
        simp at this
        exact this

/-- THE LONE CONTRACT, LIFTED: the general form. 'hend': what the company does where the lone run has come to its end. -/
theorem liftG (hC : COk P c) (hF : FnsOk P c) (hk' : call = true → k' = []) (con : Con P call f0 w0 σ0 D0 Good) {f0' : Frame} (hst : FR P c b0 k' ρ0 f0 f0') (hw : WR c ρ0 w0 W0) (hv : ∀ b b', ρ0 b b' → Vis b' ∨ O0 b') (ho : ∀ b b', ρ0 b b' → ¬ c.Fz b → O0 b')
    (hend : ∀ (ρ : Nat → Nat → Prop) (O : Nat → Prop) (fr fr' : Frame) (w W : World) (D : Nat) (σ : Nat → Question → Nat), FR P c b0 k' ρ fr fr' → FinF call fr → WR c ρ w W → (∀ b b', ρ b b' → Vis b' ∨ O b') → (∀ b b', ρ b b' → ¬ c.Fz b → O b') → Since0 Vis ρ0 w0 W0 O0 ρ w W O → D0 ≤ D → (∀ i q, i < D0 → σ i q = σ0 i q) →
      (∀ σ2 : Nat → Question → Nat, Good fr (td w (fun i q => if i < D then σ i q else σ2 (i - D) q) D)) → Co P main Vis Stop O (G fr' cs') W) :
    Co P main Vis Stop O0 (G f0' cs') W0 := by
  classical
  apply Classical.byContradiction
  intro hbad
  have hnf : ∀ p : Pt P c main Vis Stop call b0 k' f0 ρ0 w0 W0 O0 cs' σ0 D0, ¬ (p.frs = [] ∧ FinF call p.fr) := by
    rintro p ⟨hfs, hf⟩
    refine p.bad ?_
    have hgood := pt_good con p hfs hf
    obtain ⟨fr, frs, fr', frs', ρ, O, w, W, n, D, σ, st, wr, vis, own, since, le, ag, run, nofin, bad⟩ := p
    simp only at hfs hf hgood ⊢
    subst hfs
    cases st with
    | bottom h => exact hend ρ O fr fr' w W D σ h hf wr vis own since le ag hgood
  let p0 : Pt P c main Vis Stop call b0 k' f0 ρ0 w0 W0 O0 cs' σ0 D0 :=
    ⟨f0, [], f0', [], ρ0, O0, w0, W0, 0, D0, σ0, .bottom hst, hw, hv, ho,
      ⟨fun _ _ h => h, fun _ _ h => .inl h, Nat.le_refl _, Nat.le_refl _, fun _ h => h, fun _ h => .inl h, rfl, rfl, rfl, fun _ _ _ _ => rfl⟩, Nat.le_refl _, fun _ _ _ => rfl, fun _ _ => rfl, fun _ _ m hm => absurd hm (Nat.not_lt_zero m), hbad⟩
  let nx := fun p : Pt P c main Vis Stop call b0 k' f0 ρ0 w0 W0 O0 cs' σ0 D0 => Classical.choose (pt_next hC hF hk' con p (hnf p))
  have hnx : ∀ p, (nx p).n = p.n + 1 ∧ p.D ≤ (nx p).D ∧ ∀ i x, i < p.D → (nx p).σ i x = p.σ i x := fun p => Classical.choose_spec (pt_next hC hF hk' con p (hnf p))
  let s : Nat → Pt P c main Vis Stop call b0 k' f0 ρ0 w0 W0 O0 cs' σ0 D0 := fun n => Nat.rec p0 (fun _ p => nx p) n
  have hs : ∀ n, s (n + 1) = nx (s n) := fun n => rfl
  have hn : ∀ n, (s n).n = n := by
    intro n
    induction n with
    | zero => rfl
    | succ n ih => rw [hs, (hnx _).1, ih]
  have hmono : ∀ m k, (s m).D ≤ (s (m + k)).D ∧ ∀ i x, i < (s m).D → (s (m + k)).σ i x = (s m).σ i x := by
    intro m k
    induction k with
    | zero => exact ⟨Nat.le_refl _, fun _ _ _ => rfl⟩
    | succ k ih =>
      rw [← Nat.add_assoc, hs]
      obtain ⟨_, h2, h3⟩ := hnx (s (m + k))
      exact ⟨Nat.le_trans ih.1 h2, fun i x hi => (h3 i x (by omega)).trans (ih.2 i x hi)⟩
  have hagree : ∀ m m' i x, i < (s m).D → i < (s m').D → (s m).σ i x = (s m').σ i x := by
    intro m m' i x h1 h2
    rcases Nat.le_total m m' with h | h
    · obtain ⟨k, rfl⟩ := Nat.exists_eq_add_of_le h
      exact ((hmono m k).2 i x h1).symm
    · obtain ⟨k, rfl⟩ := Nat.exists_eq_add_of_le h
      exact (hmono m' k).2 i x h2
  let τ : Nat → Question → Nat := fun i x => if h : ∃ m, i < (s m).D then (s (Classical.choose h)).σ i x else 0
  have hτ : ∀ m i x, i < (s m).D → τ i x = (s m).σ i x := by
    intro m i x hi
    have hex : ∃ m, i < (s m).D := ⟨m, hi⟩
    show (if h : ∃ m, i < (s m).D then (s (Classical.choose h)).σ i x else 0) = _
    rw [dif_pos hex]
    exact hagree _ _ i x (Classical.choose_spec hex) hi
  obtain ⟨N, fr2, w', hN, hf, _⟩ := con τ (fun i q hi => hτ 0 i q hi)
  have hrun := (s N).run τ (hτ N)
  rw [hn N, hN] at hrun
  obtain ⟨e1, e2, _⟩ := lone_frame (Stepped.next.inj hrun)
  refine hnf (s N) ⟨?_, e1 ▸ hf⟩
  have := congrArg List.length e2
  simp at this
  exact this
end

section
variable {main : Bool} {Vis : Nat → Prop} {Q : Value → World → Prop} {f : FuncId} {args args' : Array Value} {ρ0 : Nat → Nat → Prop} {w0 W0 : World} {O0 : Nat → Prop} {c1 : Frame} {cs1 : List Frame}

/-- A CALL. -/
theorem lift (hC : COk P c) (hF : FnsOk P c) (hT : c.T f) (hb : ∃ fn, P.funcs[f]? = some fn ∧ fn.body.isSome = true) (hargs : AR c ρ0 args args') (hw : WR c ρ0 w0 W0) (hv : ∀ b b', ρ0 b b' → Vis b' ∨ O0 b') (ho : ∀ b b', ρ0 b b' → ¬ c.Fz b → O0 b')
    (con : ∀ τ, Calls P f args (td w0 τ 0) fun e w' => ∃ v, e = .returned v ∧ Q v w') : Co P main Vis (Back c Vis Q ρ0 w0 W0 O0 c1 cs1) O0 (G (Frame.enter P f args' .normal) (c1 :: cs1)) W0 := by
  have con' : Con P true (Frame.enter P f args .normal) w0 (fun _ _ => 0) 0 fun fr w' => ∃ v, Q v w' ∧ fr.leaving P w' (.returned v) ∧ fr.fn = f := by
    intro τ _
    obtain ⟨e, w', fr, ⟨v, rfl, hQ⟩, ⟨N, hN⟩, hfn, hl⟩ := con τ [c0]
    exact ⟨N, fr, w', hN, hl.1, v, hQ, hl, hfn⟩
  have henter := enter_fr hF hT hb hargs
  refine liftG (k' := []) hC hF (fun _ => rfl) con' henter hw hv ho ?_
  intro ρ O fr fr' w W D σ hfr hfin hwr hvis hown hsince _ _ hgood
  have hm : fr.mode = .returning := hfin
  have hm' : fr'.mode = .returning := by
    rcases hfr.mode with ⟨h, _⟩ | ⟨_, h⟩
    · rw [hm] at h; cases h
    · exact h
  obtain ⟨_, hd', hk'⟩ := hfr.top
  refine Co.step rfl fun W1 hr => ?_
  have hw1 := hwr.rely hvis hr
  obtain ⟨_, _, ⟨_, _, _, fn, hfn, _⟩, _⟩ := hgood fun _ _ => 0
  obtain ⟨σ2, k, r, h0, h1⟩ := sim_results (P := P) fn hfr.tmps w W1 #[] hw1 (fun e he => by simp at he)
  obtain ⟨v, hQ, ⟨_, _, _, fn2, hfn2, hres⟩, _⟩ := hgood σ2
  rw [hfn] at hfn2
  cases hfn2
  have h3 := h0 (fun i q => if i < D then σ i q else σ2 (i - D) q) D fun i q hi => by
    show (if D + i < D then _ else _) = _
    rw [if_neg (by omega), Nat.add_sub_cancel_left]
  rw [h3] at hres
  cases r with
  | halt h w1 => cases hres
  | ok v1 w1 =>
    simp only [tdR, Result.ok.injEq] at hres
    obtain ⟨rfl, hww⟩ := hres
    obtain ⟨ρ1, v', W2, es1, g1, g2, g3, g4, hv⟩ := h1
    obtain ⟨q1, q2, q3⟩ := guar_of (es := seen P fr'.fn es1 ++ #[]) g2 g3 hvis hown (fun e he => g4 e (mem_seen (by simpa using he)))
    refine ⟨G (c1.finish v') cs1, W2, _, _, ?_, q1, .stop fun W3 hr3 => ?_⟩
    · rw [stepG_ret hm']
      have hfn' : P.funcs[fr'.fn]? = some fn := hfr.fn ▸ hfn
      simp only [unwind, hd', hm', hfn', g1, doReturn, hk']
      rfl
    · refine ⟨v1, v', w1, ρ1, (fun i q => if i < D then σ i q else σ2 (i - D) q), D + k, rfl, ?_, hv, g3.rely q2 hr3, q2, q3, ((hsince.rely hr).step g2 hown).rely hr3⟩
      rw [hww]; exact hQ
end
end
end Go.Proofs.Ytngehfhcnfobbaa
namespace Go.Proofs.Ytngehfhcnfobbaa
open Go Go.Conc

section
variable {P : Program} {main : Bool} {Vis : Nat → Prop} {Stop : (Nat → Prop) → Goroutine → World → Prop} {O : Nat → Prop} {g g' : Goroutine} {W : World}

theorem Guar.refl (Vis O : Nat → Prop) (W : World) : Guar Vis O W W #[] O :=
  ⟨fun _ _ _ => rfl, Nat.le_refl _, fun b => ⟨.inl, fun h => h.elim id fun h => absurd h.2 (Nat.not_lt.2 h.1)⟩, fun e he => by simp at he, rfl, rfl, rfl⟩

/-- A move of control. -/
theorem Co.ctl (hr : g.status = .running) (h : ∀ W1, stepG P main g W1 = .go g' W1 #[]) (k : Co P main Vis Stop O g' W) : Co P main Vis Stop O g W :=
  Co.step hr fun W1 hrel => ⟨g', W1, #[], O, h W1, .refl .., k.rely hrel⟩
end

/-- Where a frame stands in company, and what is said of the way from there. -/
structure Pl where
  main : Bool
  Vis : Nat → Prop
  Stop : (Nat → Prop) → Goroutine → World → Prop
  ρ0 : Nat → Nat → Prop
  w0 : World
  W0 : World
  O0 : Nat → Prop
  b : Frame
  ds : List Deferred
  cs : List Frame

/-- Both worlds, on the way. -/
structure Here (c : Cx) (p : Pl) (ρ : Nat → Nat → Prop) (O : Nat → Prop) (w W : World) : Prop where
  wr : WR c ρ w W
  vis : ∀ b b', ρ b b' → p.Vis b' ∨ O b'
  own : ∀ b b', ρ b b' → ¬ c.Fz b → O b'
  since : Since0 p.Vis p.ρ0 p.w0 p.W0 p.O0 ρ w W O

/-- THE GOROUTINE, IN COMPANY, IS ON ITS WAY TO ITS STOP, wherever its frame stands in a state that is related to this lone one. -/
def Tri (P : Program) (c : Cx) (p : Pl) (k : List Item) (a : Act) (w : World) : Prop :=
  ∀ ρ O tmps' W, AR c ρ a.tmps tmps' → a.defers = [] → Here c p ρ O w W → Co P p.main p.Vis p.Stop O (G (p.b.at ⟨tmps', p.ds⟩ k) p.cs) W

section
variable {P : Program} {c : Cx} {p : Pl} {k : List Item} {a : Act} {w : World}

theorem Here.tape {ρ : Nat → Nat → Prop} {O : Nat → Prop} {W : World} (τ : Nat → Question → Nat) (d : Nat) : Here c p ρ O (td w τ d) W ↔ Here c p ρ O w W :=
  ⟨fun h => ⟨⟨h.wr.fn, h.wr.inj, h.wr.obj, h.wr.glob, h.wr.fz⟩, h.vis, h.own, ⟨h.since.sub, h.since.new, h.since.lsz, h.since.csz, h.since.own, h.since.ownNew, h.since.tape, h.since.os, h.since.output, h.since.keep⟩⟩,
    fun h => ⟨⟨h.wr.fn, h.wr.inj, h.wr.obj, h.wr.glob, h.wr.fz⟩, h.vis, h.own, ⟨h.since.sub, h.since.new, h.since.lsz, h.since.csz, h.since.own, h.since.ownNew, h.since.tape, h.since.os, h.since.output, h.since.keep⟩⟩⟩
theorem Tri.tape (τ : Nat → Question → Nat) (d : Nat) : Tri P c p k a (td w τ d) ↔ Tri P c p k a w :=
  ⟨fun h ρ O t W h1 h2 h3 => h ρ O t W h1 h2 ((Here.tape τ d).2 h3), fun h ρ O t W h1 h2 h3 => h ρ O t W h1 h2 ((Here.tape τ d).1 h3)⟩

theorem Since0.trans {Vis : Nat → Prop} {ρ0 ρ1 ρ2 : Nat → Nat → Prop} {w0 W0 w1 W1 w2 W2 : World} {O0 O1 O2 : Nat → Prop} (h : Since0 Vis ρ0 w0 W0 O0 ρ1 w1 W1 O1) (k : Since0 Vis ρ1 w1 W1 O1 ρ2 w2 W2 O2) : Since0 Vis ρ0 w0 W0 O0 ρ2 w2 W2 O2 :=
  ⟨fun b b' x => k.sub _ _ (h.sub _ _ x), fun b b' x => by
    rcases k.new b b' x with y | ⟨y, z⟩
    · exact h.new b b' y
    · exact .inr ⟨Nat.le_trans h.lsz y, Nat.le_trans h.csz z⟩, Nat.le_trans h.lsz k.lsz, Nat.le_trans h.csz k.csz, fun b x => k.own b (h.own b x), fun b x => by
    rcases k.ownNew b x with y | y
    · exact h.ownNew b y
    · exact .inr (Nat.le_trans h.csz y), k.tape.trans h.tape, k.os.trans h.os, k.output.trans h.output, fun b hb hv ho => (k.keep b (Nat.lt_of_lt_of_le hb h.csz) hv fun x => by
      rcases h.ownNew b x with y | y
      · exact ho y
      · omega).trans (h.keep b hb hv ho)⟩
theorem Since0.refl (Vis : Nat → Prop) (ρ : Nat → Nat → Prop) (w W : World) (O : Nat → Prop) : Since0 Vis ρ w W O ρ w W O :=
  ⟨fun _ _ h => h, fun _ _ h => .inl h, Nat.le_refl _, Nat.le_refl _, fun _ h => h, fun _ h => .inl h, rfl, rfl, rfl, fun _ _ _ _ => rfl⟩

/-- .. wherever 'K' holds, for each of the answers that may come. -/
def Fam (K : Act → World → Prop) (a : Act) (w : World) (σ : Nat → Question → Nat) (D : Nat) : Prop := ∀ τ : Nat → Question → Nat, (∀ i q, i < D → τ i q = σ i q) → K a (td w τ D)
def Tri2 (P : Program) (c : Cx) (p : Pl) (k : List Item) (K : Act → World → Prop) : Prop := ∀ a w σ D, Fam K a w σ D → Tri P c p k a w

theorem Tri2.tri : Tri2 P c p k (fun a w => Tri P c p k a w) := fun _ _ σ D h => (Tri.tape σ D).1 (h σ fun _ _ _ => rfl)
theorem Tri2.mono {K K' : Act → World → Prop} (h : Tri2 P c p k K) (hk : ∀ a w, K' a w → K a w) : Tri2 P c p k K' := fun a w σ D hf => h a w σ D fun τ ht => hk _ _ (hf τ ht)
/-- The beginning. -/
theorem Tri2.start {K : Act → World → Prop} (h : Tri2 P c p k K) (hk : ∀ τ, K a (td w τ 0)) : Tri P c p k a w := h a w (fun _ _ => 0) 0 fun τ _ => hk τ

/-- A PIECE OF CODE, walked alone. -/
theorem Tri2.code (hC : COk P c) (hF : FnsOk P c) (hk : (p.b.kind == .early) = false) {x : Code} (hx : CdOk P c x) {K : Act → World → Prop} (hK : Tri2 P c p k K) : Tri2 P c p (.code x :: k) (fun a w => x.wp P (fun e a1 w1 => e = .normal ∧ K a1 w1) a w) := by
  intro a w σ0 D0 hfam ρ O tmps' W hA hd hh
  refine liftG (call := false) (b0 := fun d kd t => d = p.ds ∧ kd = p.b.kind) (k' := k) (ρ0 := ρ) (O0 := O) (w0 := w) (f0 := RunF p.b.fn a.tmps [.code x]) (f0' := p.b.at ⟨tmps', p.ds⟩ (.code x :: k))
    (Good := fun fr w1 => ∃ a1, fr = { p.b with kind := .normal }.at a1 [] ∧ K a1 w1) (σ0 := σ0) (D0 := D0) hC hF (fun h => by cases h) ?_ ?_ hh.wr hh.vis hh.own ?_
  · intro τ hτ
    obtain ⟨e, a1, w1, ⟨rfl, hT⟩, n, hn⟩ := hfam τ hτ { p.b with kind := .normal } [] [c0]
    refine ⟨n, { p.b with kind := .normal }.at a1 [], w1, ?_, ⟨rfl, rfl⟩, a1, rfl, hT⟩
    have e1 : RunF p.b.fn a.tmps [.code x] = { p.b with kind := .normal }.at a [.code x] := by
      obtain ⟨t, d⟩ := a
      simp only at hd
      subst hd
      rfl
    rw [e1]
    exact hn
  · refine ⟨rfl, hA, rfl, fun i hi => ?_, rfl, .inl ⟨rfl, rfl⟩, rfl, hk, ⟨rfl, rfl⟩, ⟨rfl, rfl⟩⟩
    simp only [RunF, List.mem_singleton] at hi
    subst hi
    exact hx
  · intro ρ1 O1 fr fr' w1 W1 D σ hfr hfin hwr hvis hown hsince hle hag hgood
    obtain ⟨a1, rfl, _⟩ := hgood fun _ _ => 0
    have hK1 : Fam K a1 w1 σ D := fun τ ht => by
      obtain ⟨a2, h1, h2⟩ := hgood fun i q => τ (i + D) q
      have e1 : (fun (i : Nat) (q : Question) => if i < D then σ i q else τ (i - D + D) q) = τ := by
        funext i q
        by_cases hi : i < D
        · rw [if_pos hi, ht i q hi]
        · rw [if_neg hi, Nat.sub_add_cancel (by omega)]
      rw [e1] at h2
      have e2 : a2 = a1 := by
        obtain ⟨t1, d1⟩ := a1
        obtain ⟨t2, d2⟩ := a2
        simp only [Frame.at, Frame.mk.injEq] at h1
        obtain ⟨_, rfl, _, rfl, _⟩ := h1
        rfl
      exact e2 ▸ h2
    obtain ⟨fn', tm', todo', defers', mode', kind', round'⟩ := fr'
    obtain ⟨q1, q2, q3, q4, q5, q6, q7, q8, ⟨q9, q9'⟩, q10, q11⟩ := hfr
    simp only [Frame.at] at q1 q2 q3 q5 q6 q9 q9' q10 q11
    subst q1 q3 q9' q10 q11
    rcases q6 with ⟨_, q6⟩ | ⟨q6, _⟩
    · subst q6
      exact hK a1 w1 σ D hK1 ρ1 O1 tm' W1 q2 q5 ⟨hwr, hvis, hown, hh.since.trans hsince⟩
    · cases q6

theorem Tri.code (hC : COk P c) (hF : FnsOk P c) (hk : (p.b.kind == .early) = false) {x : Code} (hx : CdOk P c x) (h : ∀ τ, x.wp P (fun e a1 w1 => e = .normal ∧ Tri P c p k a1 w1) a (td w τ 0)) : Tri P c p (.code x :: k) a w :=
  (Tri2.code hC hF hk hx Tri2.tri).start h

theorem Tri.ctl {k1 : List Item} (h : ∀ tmps' W, stepG P p.main (G (p.b.at ⟨tmps', p.ds⟩ k1) p.cs) W = .go (G (p.b.at ⟨tmps', p.ds⟩ k) p.cs) W #[]) (hT : Tri P c p k a w) : Tri P c p k1 a w :=
  fun ρ O tmps' W hA hd hh => .ctl rfl (fun W1 => h tmps' W1) (hT ρ O tmps' W hA hd hh)
theorem Tri2.seq {x y : Code} {K : Act → World → Prop} (h : Tri2 P c p (.code x :: .code y :: k) K) : Tri2 P c p (.code (.seq x y) :: k) K := fun a w σ D hf => .ctl (fun _ _ => stepG_seq) (h a w σ D hf)
/-- A step along the spine. -/
theorem Tri2.spine (hC : COk P c) (hF : FnsOk P c) (hk : (p.b.kind == .early) = false) {x y : Code} (hx : CdOk P c x) {K : Act → World → Prop} (hK : Tri2 P c p (.code y :: k) K) : Tri2 P c p (.code (.seq x y) :: k) (fun a w => x.wp P (fun e a1 w1 => e = .normal ∧ K a1 w1) a w) := .seq (.code hC hF hk hx hK)
theorem Tri.skip (h : Tri P c p k a w) : Tri P c p (.code .skip :: k) a w := .ctl (fun _ _ => stepG_skip) h
theorem Tri.label {l : Nat} (h : Tri P c p k a w) : Tri P c p (.code (.label l) :: k) a w := .ctl (fun _ _ => stepG_label) h
theorem Tri.seq {x y : Code} (h : Tri P c p (.code x :: .code y :: k) a w) : Tri P c p (.code (.seq x y) :: k) a w := .ctl (fun _ _ => stepG_seq) h
theorem Tri.block {id : Nat} {x : Code} (h : Tri P c p (.code x :: .inBlock id :: k) a w) : Tri P c p (.code (.block id x) :: k) a w := .ctl (fun _ _ => stepG_block) h
theorem Tri.inBlock {id : Nat} (h : Tri P c p k a w) : Tri P c p (.inBlock id :: k) a w := .ctl (fun _ _ => stepG_inBlock) h
theorem Tri.loop {x : Code} (h : Tri P c p (.code x :: .inLoop x :: k) a w) : Tri P c p (.code (.loop x) :: k) a w := .ctl (fun _ _ => stepG_loop) h
theorem Tri.inLoop {x : Code} (h : Tri P c p (.code x :: .inLoop x :: k) a w) : Tri P c p (.inLoop x :: k) a w := .ctl (fun _ _ => stepG_inLoop) h
theorem Tri.exit {id : Nat} {k' : List Item} (he : exitTo id k = some k') (h : Tri P c p k' a w) : Tri P c p (.code (.exit id) :: k) a w := .ctl (fun _ _ => stepG_exit he) h
theorem Tri.region {id : Nat} {ops : Array Oper} (h : Tri P c p (.inRegion ops (List.range ops.size) :: k) a w) : Tri P c p (.code (.region id ops false) :: k) a w := .ctl (fun _ _ => stepG_region) h
theorem Tri.regionEnd {ops : Array Oper} (h : Tri P c p k a w) : Tri P c p (.inRegion ops [] :: k) a w := .ctl (fun _ _ => stepG_region_end) h

theorem evA {ρ : Nat → Nat → Prop} {W : World} {tmps' : Array Value} (hw : WR c ρ w W) (hA : AR c ρ a.tmps tmps') (ds : List Deferred) : EvR c ρ a.eval (Act.mk tmps' ds).eval := by
  have h := evR_frame hw hA (fn := 0) (fn' := 0) [] [] ds .normal
  intro x hx
  have := h x hx
  cases x <;> exact this

theorem Tri.cond {x : Operand} {y z : Code} {t : Bool} (hx : OdOk c x) (hc : a.eval x = .bool t) (h : Tri P c p (.code (if t then y else z) :: k) a w) : Tri P c p (.code (.cond x y z) :: k) a w := by
  intro ρ O tmps' W hA hd hh
  have hv := evA hh.wr hA p.ds x hx
  rw [hc] at hv
  have hc' : (Act.mk tmps' p.ds).eval x = .bool t := by
    generalize (Act.mk tmps' p.ds).eval x = v' at hv
    cases hv; rfl
  exact .ctl rfl (fun W1 => stepG_cond hc') (h ρ O tmps' W hA hd hh)

theorem AR.put' {ρ : Nat → Nat → Prop} {tmps' : Array Value} (h : AR c ρ a.tmps tmps') {v v' : Value} (hv : VR c ρ v v') (d : Option Tmp) (ds : List Deferred) : AR c ρ (a.put d v).tmps ((Act.mk tmps' ds).put d v').tmps := by
  cases d with
  | none => exact h
  | some t => exact h.set t hv

theorem put_mk {tmps : Array Value} {ds : List Deferred} {d : Option Tmp} {v : Value} : (Act.mk tmps ds).put d v = ⟨((Act.mk tmps ds).put d v).tmps, ds⟩ := by
  cases d <;> rfl
theorem put_defers {d : Option Tmp} {v : Value} : (a.put d v).defers = a.defers := by
  cases d <;> rfl

/-- ONE OPERATION (no call of a function with a body). -/
theorem Tri.op (hC : COk P c) (hk : (p.b.kind == .early) = false) {ops : Array Oper} {i : Nat} {rest : List Nat} {o : Oper} (ho : ops[i]? = some o) (hw : Region.wanted o (yielded ops a.tmps) = true) (hop : OpOk P c o.op)
    (h : ∀ τ, uponK o a (fun a1 w1 => Tri P c p (.inRegion ops rest :: k) a1 w1) ((execOp a.eval o).run P (td w τ 0))) : Tri P c p (.inRegion ops (i :: rest) :: k) a w := by
  intro ρ O tmps' W hA hd hh
  refine Co.step rfl fun W1 hr => ?_
  have hw1 := hh.wr.rely hh.vis hr
  obtain ⟨σ, m, r, h0, h1⟩ := sim_execOp hC (evA (a := a) hw1 hA p.ds) hop w W1 #[] hw1 (fun e he => by simp at he)
  have hy : Region.wanted o (yielded ops (Act.mk tmps' p.ds).tmps) = true := by
    have e : yielded ops tmps' = yielded ops a.tmps := funext fun j => (yielded_rel hA j).symm
    show Region.wanted o (yielded ops tmps') = true
    rw [e]; exact hw
  have hkd : p.b.kind ≠ .early := by simpa using hk
  have e0 := h0 σ 0 (fun i q _ => by rw [Nat.zero_add])
  have hu := h σ
  rw [e0] at hu
  cases r with
  | halt h w1 => exact hu.elim
  | ok n w1 =>
    obtain ⟨ρ1, n', W2, es1, g1, g2, g3, g4, g5⟩ := h1
    have hrun : (execOp (Act.mk tmps' p.ds).eval o).run P W1 = .ok n' W2 := by rw [← Sem.runT_fst P _ W1 #[], g1]
    have hevs : (execOp (Act.mk tmps' p.ds).eval o).events P W1 #[] = es1 := by rw [Sem.events, g1]
    have hl : ∀ e ∈ listed P p.b.fn (Act.mk tmps' p.ds) o W1, EvC c ρ1 e := fun e he => g4 e (by
      have := mem_seen he
      rwa [hevs] at this)
    obtain ⟨q1, q2, q3⟩ := guar_of g2 g3 hh.vis hh.own hl
    have hsi := (hh.since.rely hr).step g2 hh.own
    cases g5 with
    | @value v v' hv =>
      refine ⟨_, W2, _, _, stepG_value ho hy hkd hrun, q1, ?_⟩
      have hT : Tri P c p (.inRegion ops rest :: k) (a.put o.dst v) (td w1 σ (0 + m)) := hu
      rw [put_mk]
      exact hT ρ1 _ _ W2 (AR.put' (hA.mono g2.sub) hv _ _) (put_defers.trans hd) ((Here.tape _ _).2 ⟨g3, q2, q3, hsi⟩)
    | skip =>
      refine ⟨_, W2, _, _, stepG_none ho hy hkd hrun, q1, ?_⟩
      have hT : Tri P c p (.inRegion ops rest :: k) (a.put o.dst undef) (td w1 σ (0 + m)) := hu
      rw [put_mk]
      exact hT ρ1 _ _ W2 (AR.put' (hA.mono g2.sub) (.junk undef trivial) _ _) (put_defers.trans hd) ((Here.tape _ _).2 ⟨g3, q2, q3, hsi⟩)
    | enter hT hb h => exact hu.elim
end
end Go.Proofs.Ytngehfhcnfobbaa
namespace Go.Proofs.Ytngehfhcnfobbaa
open Go Go.Conc Go.RowKit

def frzO : Obj → Obj
  | .cells xs e (_, hi) => .cells xs e (0, max hi xs.size)
  | o => o
/-- All blocks frozen. -/
def frz (w : World) : World := { w with heap := w.heap.map frzO }

theorem frz_heap (w : World) (b : Nat) : (frz w).heap[b]? = (w.heap[b]?).map frzO := by simp [frz]
@[simp] theorem frz_size (w : World) : (frz w).heap.size = w.heap.size := by simp [frz]
theorem frz_cell (w : World) (a : Addr) : (frz w).cell? a = w.cell? a := by
  unfold World.cell?
  rw [frz_heap]
  cases w.heap[a.block]? with
  | none => rfl
  | some o => cases o <;> rfl

/-- What stands in cells stands there still. -/
def Cle (w w' : World) : Prop := ∀ a v, w.cell? a = some v → w'.cell? a = some v
theorem Cle.frz (w : World) : Cle w (frz w) := fun a v h => by rw [frz_cell]; exact h
theorem Cle.unfrz (w : World) : Cle (Go.Proofs.Ytngehfhcnfobbaa.frz w) w := fun a v h => by rw [frz_cell] at h; exact h

class LayC (α : Type) [Lay α] : Prop where
  stc : ∀ {w w' : World} {cs : List Value} {d : α}, Lay.rd w cs d → Cle w w' → Lay.rd w' cs d
instance : LayC Int := ⟨fun h _ => h⟩
instance : LayC Bool := ⟨fun h _ => h⟩
theorem SlRd.stc {α : Type} [Lay α] [LayC α] {w w' : World} {a : Option Addr} {len cap : Nat} {l : List α} (h : SlRd w a len cap l) (k : Cle w w') : SlRd w' a len cap l := by
  obtain ⟨h1, h2, h3, h4, h5⟩ := h
  refine ⟨h1, h2, h3, h4, fun i d hi => ?_⟩
  obtain ⟨b, off, cs, r1, r2, r3, r4⟩ := h5 i d hi
  exact ⟨b, off, cs, r1, r2, fun j u hu => k _ _ (r3 j u hu), LayC.stc r4 k⟩
instance {α : Type} [Lay α] [LayC α] : LayC (List α) := ⟨fun ⟨a, len, cap, e, h⟩ k => ⟨a, len, cap, e, h.stc k⟩⟩
instance : LayC Rg := ⟨fun h _ => h⟩
instance : LayC Rt := ⟨fun h k => by
  obtain ⟨a, n, c, a', n', c', rfl, i1, i2, h1, i3, h2⟩ := h
  exact ⟨a, n, c, a', n', c', rfl, i1, i2, h1.stc k, i3, h2.stc k⟩⟩
instance : LayC Dl := ⟨fun h k => by
  obtain ⟨a, n, c, a', n', c', rfl, h1, h2⟩ := h
  exact ⟨a, n, c, a', n', c', rfl, h1.stc k, h2.stc k⟩⟩

section
variable {c c' : Cx} {ρ : Nat → Nat → Prop} {w W : World}

theorem Solid.mono {J J' : Prop} (h : J → J') {v : Value} (k : Solid J v) : Solid J' v := by
  cases v with
  | func f a b => cases f <;> first | exact trivial | exact h k
  | pointer a => cases a <;> exact k
  | slice a n m => cases a <;> exact k
  | _ => exact k
theorem VR.cx (hJ : c.J → c'.J) (hT : ∀ f, c.T f → c'.T f) (hM : ∀ t, c.M t → c'.M t) (hk : c.Tk → c'.Tk ∧ c.K = c'.K) {v v' : Value} (h : VR c ρ v v') : VR c' ρ v v' := by
  induction h with
  | junk v h => exact .junk v (h.mono hJ)
  | tok hk' a n m => rw [(hk hk').2]; exact .tok (hk hk').1 a n m
  | tokc hk' r => rw [(hk hk').2]; exact .tokc (hk hk').1 r
  | bool b => exact .bool b
  | int k n => exact .int k n
  | string s => exact .string s
  | nilp => exact .nilp
  | ptr o s h => exact .ptr o s h
  | nils n m => exact .nils n m
  | slice o s n m h => exact .slice o s n m h
  | void a => exact .void a
  | nilFunc => exact .nilFunc
  | nilIface => exact .nilIface
  | func hf hx _ hy _ i1 i2 => exact .func (hT _ hf) hx i1 hy i2
  | iface ht _ ih => exact .iface (hM _ ht) ih
  | agg hx _ ih => exact .agg hx ih
  | tuple hx _ ih => exact .tuple hx ih
theorem AR.cx (hJ : c.J → c'.J) (hT : ∀ f, c.T f → c'.T f) (hM : ∀ t, c.M t → c'.M t) (hk : c.Tk → c'.Tk ∧ c.K = c'.K) {xs xs' : Array Value} (h : AR c ρ xs xs') : AR c' ρ xs xs' := ⟨h.1, fun i v v' h1 h2 => (h.2 i v v' h1 h2).cx hJ hT hM hk⟩

/-- The relation, with the lone blocks frozen. -/
theorem WR.frz (hG : c'.G ≤ c.G) (hJ : c.J → c'.J) (hT : ∀ f, c.T f → c'.T f) (hM : ∀ t, c.M t → c'.M t) (hk : c.Tk → c'.Tk ∧ c.K = c'.K) (hz : ∀ b, c'.Fz b → ∃ b', ρ b b') (h : WR c ρ w W) : WR c' ρ (Go.Proofs.Ytngehfhcnfobbaa.frz w) W := by
  refine ⟨h.fn, h.inj, fun b b' hb => ?_, fun b hb => h.glob b (Nat.lt_of_lt_of_le hb hG), fun b hb => ?_⟩
  · obtain ⟨o, o', h1, h2, h3⟩ := h.obj b b' hb
    refine ⟨frzO o, o', by rw [frz_heap, h1]; rfl, h2, ?_⟩
    cases h3 with
    | cells e hA hf => exact .cells e (hA.cx hJ hT hM hk) fun o x y => ⟨Nat.zero_le _, by have := hf o x y; omega⟩
    | number hA l => exact .number hA l
  · obtain ⟨b', hb'⟩ := hz b hb
    obtain ⟨o, o', h1, h2, h3⟩ := h.obj b b' hb'
    refine ⟨frzO o, by rw [frz_heap, h1]; rfl, ?_⟩
    cases h3 with
    | cells e hA hf => exact ⟨rfl, Nat.le_max_right _ _⟩
    | number hA l => trivial
end
end Go.Proofs.Ytngehfhcnfobbaa
namespace Go.Proofs.Ytngehfhcnfobbaa
open Go Go.RowKit

section
variable {N X : Nat} {w w' w0 : World} {v1 v2 v : Value} {L1 : List Rg} {L2 : List Rt} {xs : List Value} {L : List Dl} {fps2 fps : List (List Nat)} (τ : Nat → Question → Nat) (d : Nat)
theorem Cle.td (w : World) : Cle w (td w τ d) := fun _ _ h => h
theorem Ext.td {d' : Nat} (h : Ext w w') : Ext (td w τ d) (td w' τ d') := by
  obtain ⟨x, rfl⟩ := h
  exact ⟨⟨x.objs, d'⟩, rfl⟩
theorem Blk.td {b : Nat} {e : TypeId} {cs : List Value} (h : Blk w b e cs) : Blk (td w τ d) b e cs := h
theorem AccF.td {e : TypeId} (h : AccF N e w v L1) : AccF N e (td w τ d) v L1 := h
theorem AccO.td {e : TypeId} (h : AccO N e w v L2 fps2) : AccO N e (td w τ d) v L2 fps2 := h
theorem RowOw.td (h : RowOw w xs L fps) : RowOw (td w τ d) xs L fps := h
theorem CI.td (h : CI N X w v1 v2 L1 L2 xs L fps2 fps) : CI N X (td w τ d) v1 v2 L1 L2 xs L fps2 fps :=
  ⟨h.a1.td τ d, h.x1, h.a2.td τ d, h.x2, h.x3, h.ap, h.row.td τ d, h.nd, h.lo⟩
end
end Go.Proofs.Ytngehfhcnfobbaa
namespace Go.Proofs.Ytngehfhcnfobbaa
open Go Go.Conc
open Go.ConcN (sumTo upd sumTo_upd upd_ne upd_same)

/-- No place is shunned. -/
abbrev NoShun : Loc → Prop := fun _ => False

/-- The run from here ends well. -/
def Wins (P : Program) (Post : Value → World → Prop) (m : Machine) (t : Trace) : Prop :=
  ∃ N last o w' t', runNT P (N + 1) m t = (.ended o w', t') ∧ runN P N m = .next last ∧ step P last = .ended o w' ∧ Go.Conc.Good P Post last o w' t'

section
variable {P : Program} {Post : Value → World → Prop} {Vis O : Nat → Prop} {Stop : (Nat → Prop) → Goroutine → World → Prop}

theorem Wins.step {m m' : Machine} {t : Trace} {ops : Array MemOp} (h : stepT P m = (.next m', ops)) (k : Wins P Post m' (t ++ ops)) : Wins P Post m t := by
  obtain ⟨n, last, o, w, t', h1, h2, h3, h4⟩ := k
  exact ⟨n + 1, last, o, w, t', by rw [runNT_succ_next h]; exact h1, by rw [runN_succ_next h]; exact h2, h3, h4⟩
theorem Wins.ends {m : Machine} {t : Trace} {o : Outcome} {w : World} {ops : Array MemOp} (h : stepT P m = (.ended o w, ops)) (k : Go.Conc.Good P Post m o w (t ++ ops)) : Wins P Post m t :=
  ⟨0, m, o, w, t ++ ops, by simp [runNT, h], rfl, by simp [Go.step, h], k⟩

theorem evL_of {B : Nat} {e : Event} (h : EvO Vis O e) (hB : ∀ b, Vis b ∨ O b → b < B) : EvL NoShun B e := by
  rcases h with ⟨a, wr, rfl, h1, _⟩ | ⟨b, rfl, h1⟩ | rfl | ⟨f, rfl⟩
  · exact evL_cell a wr id (hB _ h1)
  · exact ⟨fun x _ h => h.elim, by simp, by simp, hB _ h1⟩
  · exact ⟨fun x _ h => h.elim, by simp, by simp, trivial⟩
  · exact ⟨fun x _ h => h.elim, by simp, by simp, trivial⟩

/-- Goroutine 0 stands here, the others are only leaving: the run ends well. -/
def Free (P : Program) (Post : Value → World → Prop) (Vis : Nat → Prop) (O : Nat → Prop) (a : Goroutine) (w : World) : Prop :=
  ∀ gs sl t q, gs[0]? = some a → Leavers P t gs q → Past NoShun w.heap.size t → (∀ b, Vis b ∨ O b → b < w.heap.size) → Wins P Post (crowd gs w sl) t

theorem Rely.at (Vis O : Nat → Prop) (w : World) (d : Nat) : Rely Vis O w (w.at d) := ⟨fun _ _ => rfl, Nat.le_refl _, rfl, rfl, rfl⟩

theorem ofEvents_g {g : Nat} {fn : FuncId} {pos : String} {es : Array Event} : ∀ op ∈ MemOp.ofEvents g fn pos es, op.g = g := fun op hop => by
  obtain ⟨e, _, rfl⟩ := Go.Conc.mem_ofEvents hop
  rfl

/-- A leaver's step. -/
theorem leavers_slip {t : Trace} {gs : Array Goroutine} {q : Nat → Nat} (hL : Leavers P t gs q) {i : Nat} {g g' : Goroutine} {es : Array Event} {k : Nat} {w : World} (hi : gs[i]? = some g) (hq' : QuitsD P k (deafBehind (Deaf t i) es) g') (fn : FuncId) (pos : String) :
    Leavers P (t ++ MemOp.ofEvents i fn pos es) ((gs.map (woken P g g' w)).setIfInBounds i g') (upd q i k) := by
  have hlt : i < gs.size := (Array.getElem?_eq_some_iff.1 hi).1
  refine ⟨fun j x hj hx => ?_, fun j hj => ?_⟩
  · by_cases hji : i = j
    · subst hji
      rw [Array.getElem?_setIfInBounds_self_of_lt (by simpa using hlt)] at hx
      obtain rfl := Option.some.inj hx
      rw [upd_same, Deaf_own]
      exact hq'
    · rw [Array.getElem?_setIfInBounds_ne hji, Array.getElem?_map] at hx
      obtain ⟨y, hy, rfl⟩ := Option.map_eq_some_iff.1 hx
      have hqj := hL.old j y hj hy
      rw [woken_quitsD hqj, upd_ne q k (Ne.symm hji), Deaf_other t hji (MemOp.ofEvents i fn pos es) ofEvents_g]
      exact hqj
  · rw [Deaf_other t (g' := i) (by simp at hj; omega) (MemOp.ofEvents i fn pos es) ofEvents_g]
    exact hL.above j (by simpa using hj)

/-- Goroutine 0's step. -/
theorem leavers_main {t : Trace} {gs : Array Goroutine} {q : Nat → Nat} (hL : Leavers P t gs q) {g g' : Goroutine} {es : Array Event} {w : World} (h0 : gs[0]? = some g) (fn : FuncId) (pos : String) :
    Leavers P (t ++ MemOp.ofEvents 0 fn pos es) ((gs.map (woken P g g' w)).setIfInBounds 0 g') q := by
  have hlt : 0 < gs.size := (Array.getElem?_eq_some_iff.1 h0).1
  refine ⟨fun j x hj hx => ?_, fun j hj => ?_⟩
  · have hne : 0 ≠ j := by omega
    rw [Array.getElem?_setIfInBounds_ne hne, Array.getElem?_map] at hx
    obtain ⟨y, hy, rfl⟩ := Option.map_eq_some_iff.1 hx
    have hq := hL.old j y hj hy
    rw [woken_quitsD hq, Deaf_other t (g' := 0) (by omega) (MemOp.ofEvents 0 fn pos es) ofEvents_g]
    exact hq
  · rw [Deaf_other t (g' := 0) (by simp at hj; omega) (MemOp.ofEvents 0 fn pos es) ofEvents_g]
    exact hL.above j (by simpa using hj)

theorem leavers_awake {t : Trace} {gs : Array Goroutine} {q : Nat → Nat} (hL : Leavers P t gs q) {a : Goroutine} (h0 : gs[0]? = some a) (ha : awake a) : ∀ g ∈ gs, awake g := by
  intro g hg
  obtain ⟨i, hi, rfl⟩ := Array.mem_iff_getElem.1 hg
  rcases Nat.eq_zero_or_pos i with rfl | hpos
  · have : gs[0] = a := by simpa [Array.getElem?_eq_getElem hi] using h0
    rw [this]; exact ha
  · exact awake_of ((hL.old i _ hpos (Array.getElem?_eq_getElem hi)).status.elim .inl fun x => .inr (.inr x))

/-- THE WALK BESIDE LEAVERS. -/
theorem wins_of_co {a : Goroutine} {W : World} (h : Co P true Vis Stop O a W) (hS : ∀ O a W, (∀ W1, Rely Vis O W W1 → Stop O a W1) → Free P Post Vis O a W) : Free P Post Vis O a W := by
  induction h with
  | stop h => exact hS _ _ _ h
  | @step' O g W hr nx h1 _ ih =>
    have key : ∀ M gs sl t q w, Rely Vis O W w → sumTo gs.size q ≤ M → gs[0]? = some g → Leavers P t gs q → Past NoShun w.heap.size t → (∀ b, Vis b ∨ O b → b < w.heap.size) → Wins P Post (crowd gs w sl) t := by
      intro M
      induction M with
      | zero =>
        intro gs sl t q w hrel hM h0 hL hP hB
        obtain ⟨i, x, d, sl', hi, hg, hst⟩ := crowd_pick (P := P) (w := w) (sl := sl) (leavers_awake hL h0 (awake_of (.inl hr))) ⟨0, g, h0, hr⟩
        rcases Nat.eq_zero_or_pos i with rfl | hpos
        · obtain rfl : x = g := by rw [h0] at hi; exact (Option.some.inj hi).symm
          obtain ⟨hgo, hgu⟩ := h1 (w.at d) (hrel.trans (.at ..))
          have hrunT := runT_crowd_go (P := P) (sl := sl') (i := 0) hi (show stepG P (0 == 0) x (w.at d) = _ from hgo)
          have hsz := hgu.size
          have hB' : ∀ b, Vis b ∨ (nx (w.at d)).o b → b < (nx (w.at d)).w.heap.size := fun b hb => by
            rcases hb with hb | hb
            · exact Nat.lt_of_lt_of_le (hB b (.inl hb)) hsz
            · rcases (hgu.own b).1 hb with hb | hb
              · exact Nat.lt_of_lt_of_le (hB b (.inr hb)) hsz
              · exact hb.2
          exact .step (hst.trans hrunT) (ih (w.at d) (hrel.trans (.at ..)) _ sl' _ q (by simp [(Array.getElem?_eq_some_iff.1 h0).1]) (leavers_main hL h0 _ _)
            ((hP.mono hsz).own fun e he => evL_of (hgu.evs e he) hB') hB')
        · have hq := hL.old i x hpos hi
          have hlt : i < gs.size := (Array.getElem?_eq_some_iff.1 hi).1
          have hqi : q i = 0 := by
            have : sumTo gs.size (upd q i 0) + q i = sumTo gs.size q + 0 := by simpa using sumTo_upd q 0 id hlt
            omega
          rw [hqi] at hq
          rw [hq.1] at hg; cases hg
      | succ M ihM =>
        intro gs sl t q w hrel hM h0 hL hP hB
        obtain ⟨i, x, d, sl', hi, hg, hst⟩ := crowd_pick (P := P) (w := w) (sl := sl) (leavers_awake hL h0 (awake_of (.inl hr))) ⟨0, g, h0, hr⟩
        rcases Nat.eq_zero_or_pos i with rfl | hpos
        · obtain rfl : x = g := by rw [h0] at hi; exact (Option.some.inj hi).symm
          obtain ⟨hgo, hgu⟩ := h1 (w.at d) (hrel.trans (.at ..))
          have hrunT := runT_crowd_go (P := P) (sl := sl') (i := 0) hi (show stepG P (0 == 0) x (w.at d) = _ from hgo)
          have hsz := hgu.size
          have hB' : ∀ b, Vis b ∨ (nx (w.at d)).o b → b < (nx (w.at d)).w.heap.size := fun b hb => by
            rcases hb with hb | hb
            · exact Nat.lt_of_lt_of_le (hB b (.inl hb)) hsz
            · rcases (hgu.own b).1 hb with hb | hb
              · exact Nat.lt_of_lt_of_le (hB b (.inr hb)) hsz
              · exact hb.2
          exact .step (hst.trans hrunT) (ih (w.at d) (hrel.trans (.at ..)) _ sl' _ q (by simp [(Array.getElem?_eq_some_iff.1 h0).1]) (leavers_main hL h0 _ _)
            ((hP.mono hsz).own fun e he => evL_of (hgu.evs e he) hB') hB')
        · have hq := hL.old i x hpos hi
          have hi0 : (i == 0) = false := by simp; omega
          have hlt : i < gs.size := (Array.getElem?_eq_some_iff.1 hi).1
          cases hqi : q i with
          | zero => rw [hqi] at hq; rw [hq.1] at hg; cases hg
          | succ k =>
            rw [hqi] at hq
            rcases hq with ⟨hf, _⟩ | ⟨_, g', es, hm, hstp, hq'⟩
            · rw [hf] at hg; cases hg
            have hrunT := runT_crowd_go (P := P) (sl := sl') (i := i) hi (by rw [hi0]; exact hstp (w.at d))
            have hsum : sumTo gs.size (upd q i k) + (k + 1) = sumTo gs.size q + k := by
              have := sumTo_upd q k id hlt
              simpa [hqi] using this
            refine .step (hst.trans hrunT) (ihM _ sl' _ (upd q i k) (w.at d) (hrel.trans (.at ..)) (by simp; omega) ?_ (leavers_slip hL hi hq' _ _) (hP.mute (by omega) hm) hB)
            have hne : i ≠ 0 := by omega
            rw [Array.getElem?_setIfInBounds_ne hne, Array.getElem?_map, h0]
            simp [woken_run hr]
    intro gs sl t q h0 hL hP hB
    exact key _ gs sl t q W (Rely.refl ..) (Nat.le_refl _) h0 hL hP hB
end
end Go.Proofs.Ytngehfhcnfobbaa
