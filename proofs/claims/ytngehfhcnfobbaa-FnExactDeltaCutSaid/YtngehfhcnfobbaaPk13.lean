/- Lemmas for it, part 13. No condition. -/
import Derived.Conc.CrowdComm
import Derived.Conc.DeferLaws
import Derived.Conc.EventLaws
import Derived.Test.YtngehfhcnfobbaaPk12
namespace Go.Proofs.Ytngehfhcnfobbaa
open Go Go.Conc

/-- What a goroutine touches that sees 'V' and owns 'O'. -/
def Tch (V O : Nat → Prop) (x : Touch) : Prop :=
  (∃ a : Addr, x.loc = .cell a ∧ (V a.block ∨ O a.block) ∧ (x.write = true → O a.block)) ∨ ((∃ b, x.loc = .obj b) ∧ x.write = false) ∨ x.loc.isMemory = false

section
variable {V O O1 O2 O1' : Nat → Prop}

theorem Tch.mono (h : ∀ b, O b → O1 b) {x : Touch} (hx : Tch V O x) : Tch V O1 x := by
  rcases hx with ⟨a, h1, h2, h3⟩ | hx
  · exact .inl ⟨a, h1, h2.imp id (h _), fun w => h _ (h3 w)⟩
  · exact .inr hx

theorem tch_evO {e : Event} (h : EvO V O e) {x : Touch} (hx : (MemAct.ofEvent e).touch? = some x) : Tch V O x := by
  rcases h with ⟨a, wr, rfl, h1, h2⟩ | ⟨b, rfl, _⟩ | rfl | ⟨f, rfl⟩
  · simp only [ofEvent_cell0, MemAct.touch?, Option.some.injEq] at hx
    subst hx
    exact .inl ⟨a, rfl, h1, h2⟩
  · simp only [MemAct.ofEvent, MemAct.touch?, Option.some.injEq] at hx
    subst hx
    exact .inr (.inl ⟨⟨b, rfl⟩, rfl⟩)
  · simp [MemAct.ofEvent, MemAct.touch?] at hx
  · simp [MemAct.ofEvent, MemAct.touch?] at hx

theorem tch_apart {x y : Touch} (hx : Tch V O1 x) (hy : Tch V O2 y) (h12 : ∀ b, O1 b → ¬ O2 b) (h1 : ∀ b, V b → ¬ O1 b) (h2 : ∀ b, V b → ¬ O2 b) (said : Bool) : ¬ x.conflicts said y := by
  rintro ⟨hl, hm, hw, _⟩
  rcases hx with ⟨a, q1, q2, q3⟩ | ⟨⟨b, q1⟩, q2⟩ | q
  · rcases hy with ⟨a', r1, r2, r3⟩ | ⟨⟨b, r1⟩, r2⟩ | r
    · rw [q1, r1] at hl
      cases hl
      rcases hw with hw | hw
      · have := q3 hw
        rcases r2 with r2 | r2
        · exact h1 _ r2 this
        · exact h12 _ this r2
      · have := r3 hw
        rcases q2 with q2 | q2
        · exact h2 _ q2 this
        · exact h12 _ q2 this
    · rw [q1, r1] at hl; cases hl
    · rw [← hl] at r; rw [hm] at r; cases r
  · rcases hy with ⟨a', r1, r2, r3⟩ | ⟨⟨b, r1⟩, r2⟩ | r
    · rw [q1, r1] at hl; cases hl
    · rcases hw with hw | hw
      · rw [q2] at hw; cases hw
      · rw [r2] at hw; cases hw
    · rw [← hl] at r; rw [hm] at r; cases r
  · rw [hm] at q; cases q
end

/-- Each of two goroutines knows what has been touched, but for what the other touches. -/
structure Tr2 (V O1 O2 : Nat → Prop) (g1 g2 : Nat) (B : Nat) (t : Trace) : Prop where
  ne : g1 ≠ g2
  clean : ∀ said, ¬ Race said t
  kn1 : ∀ i a, touchAt t i = some a → a.loc.isMemory = true → Knows t g1 i ∨ (t.g? i = some g2 ∧ Tch V O2 a)
  kn2 : ∀ i a, touchAt t i = some a → a.loc.isMemory = true → Knows t g2 i ∨ (t.g? i = some g1 ∧ Tch V O1 a)
  h1 : Deaf t g1 = 0
  h2 : Deaf t g2 = 0
  seen : ∀ op ∈ t, op.act.low B

section
variable {V O1 O2 O1' : Nat → Prop} {g1 g2 B B' : Nat} {t : Trace}

theorem Tr2.swap (h : Tr2 V O1 O2 g1 g2 B t) : Tr2 V O2 O1 g2 g1 B t := ⟨h.ne.symm, h.clean, h.kn2, h.kn1, h.h2, h.h1, h.seen⟩
theorem Tr2.low (h : Tr2 V O1 O2 g1 g2 B t) (hB : B ≤ B') : Tr2 V O1 O2 g1 g2 B' t := ⟨h.ne, h.clean, h.kn1, h.kn2, h.h1, h.h2, fun op hop => MemAct.low_mono hB (h.seen op hop)⟩

theorem gAt_app {t u : Trace} {i g : Nat} {a : Touch} (h : t.g? i = some g) (_ : touchAt t i = some a) : (t ++ u).g? i = some g := by
  have hi : i < t.size := by
    unfold Trace.g? at h
    obtain ⟨z, hz, _⟩ := Option.map_eq_some_iff.1 h
    exact lt_size_of_getElem? hz
  rw [g?_old hi]; exact h

/-- Operations of the first one: each that touches touches what it may. -/
theorem Tr2.app1 (h : Tr2 V O1 O2 g1 g2 B t) (hO : ∀ b, O1 b → O1' b) (h12 : ∀ b, O1' b → ¬ O2 b) (hv1 : ∀ b, V b → ¬ O1' b) (hv2 : ∀ b, V b → ¬ O2 b) {u : Trace} (hu : ∀ op ∈ u, op.g = g1) (hx : ∀ op ∈ u, ∀ x, op.act.touch? = some x → Tch V O1' x)
    (hd : Deaf (t ++ u) g1 = Deaf t g1) (hl : ∀ op ∈ u, op.act.low B) : Tr2 V O1' O2 g1 g2 B (t ++ u) := by
  refine ⟨h.ne, fun said => noRace_append (h.clean said) hu fun i a ha op hop b hb hc => ?_, fun i a ha hm => ?_, fun i a ha hm => ?_, hd.trans h.h1, (Deaf_other t h.ne u hu).trans h.h2, seen_app h.seen hl⟩
  · rcases h.kn1 i a ha hc.2.1 with hk | ⟨_, hk⟩
    · exact hk
    · exact absurd hc (tch_apart hk (hx op hop b hb) (fun b h2 h1 => h12 b h1 h2) hv2 hv1 said)
  · obtain ⟨x, hx', hxa⟩ := touch_of ha
    rcases getElem?_append_cases hx' with ⟨hi, hx0⟩ | ⟨_, hxu⟩
    · have ha0 : touchAt t i = some a := by rw [touchAt_of hx0]; exact hxa
      rcases h.kn1 i a ha0 hm with hk | ⟨hk, hk2⟩
      · exact .inl (hk.app u)
      · exact .inr ⟨gAt_app hk ha0, hk2⟩
    · have := knows_own hx'
      rw [hu x hxu] at this
      exact .inl this
  · obtain ⟨x, hx', hxa⟩ := touch_of ha
    rcases getElem?_append_cases hx' with ⟨hi, hx0⟩ | ⟨_, hxu⟩
    · have ha0 : touchAt t i = some a := by rw [touchAt_of hx0]; exact hxa
      rcases h.kn2 i a ha0 hm with hk | ⟨hk, hk2⟩
      · exact .inl (hk.app u)
      · exact .inr ⟨gAt_app hk ha0, hk2.mono hO⟩
    · exact .inr ⟨by simp [Trace.g?, hx', hu x hxu], hx x hxu a hxa⟩

/-- Operations that touch nothing and are no words. -/
theorem Tr2.talk (h : Tr2 V O1 O2 g1 g2 B t) {u : Trace} (hx : ∀ op ∈ u, op.act.touch? = none) (hd1 : Deaf (t ++ u) g1 = Deaf t g1) (hd2 : Deaf (t ++ u) g2 = Deaf t g2) (hl : ∀ op ∈ u, op.act.low B) : Tr2 V O1 O2 g1 g2 B (t ++ u) := by
  have old : ∀ i a, touchAt (t ++ u) i = some a → i < t.size ∧ touchAt t i = some a := fun i a ha => by
    obtain ⟨x, hx', hxa⟩ := touch_of ha
    rcases getElem?_append_cases hx' with ⟨hi, hx0⟩ | ⟨_, hxu⟩
    · exact ⟨hi, by rw [touchAt_of hx0]; exact hxa⟩
    · rw [hx x hxu] at hxa; cases hxa
  refine ⟨h.ne, fun said => ?_, fun i a ha hm => ?_, fun i a ha hm => ?_, hd1.trans h.h1, hd2.trans h.h2, seen_app h.seen hl⟩
  · rintro ⟨i, j, hij, ⟨a, b, ha, hb, hc⟩, n1, n2⟩
    obtain ⟨hi, ha'⟩ := old i a ha
    obtain ⟨hj, hb'⟩ := old j b hb
    exact h.clean said ⟨i, j, hij, ⟨a, b, ha', hb', hc⟩, fun e => n1 (hb_app u e), fun e => n2 (hb_app u e)⟩
  · obtain ⟨hi, ha'⟩ := old i a ha
    exact (h.kn1 i a ha' hm).imp (·.app u) fun x => ⟨gAt_app x.1 ha', x.2⟩
  · obtain ⟨hi, ha'⟩ := old i a ha
    exact (h.kn2 i a ha' hm).imp (·.app u) fun x => ⟨gAt_app x.1 ha', x.2⟩

theorem deaf_still {es : Array Event} (h : ∀ e ∈ es, EvO V O1 e) (d : Nat) : deafBehind d es = d := deafBehind_still (fun e he => by
  rcases h e he with ⟨a, wr, rfl, _⟩ | ⟨b, rfl, _⟩ | rfl | ⟨f, rfl⟩ <;> simp) d

/-- A step of the first one. -/
theorem Tr2.own1 (h : Tr2 V O1 O2 g1 g2 B t) (hB : B ≤ B') (hO : ∀ b, O1 b → O1' b) (h12 : ∀ b, O1' b → ¬ O2 b) (hv1 : ∀ b, V b → ¬ O1' b) (hv2 : ∀ b, V b → ¬ O2 b) {es : Array Event} (he : ∀ e ∈ es, EvO V O1' e) (hl : ∀ b, V b ∨ O1' b → b < B') (fn : FuncId) (pos : String) :
    Tr2 V O1' O2 g1 g2 B' (t ++ MemOp.ofEvents g1 fn pos es) :=
  (h.low hB).app1 hO h12 hv1 hv2 ofEvents_g (fun op hop x hx => by obtain ⟨e, h1, rfl⟩ := Go.Conc.mem_ofEvents hop; exact tch_evO (he e h1) hx)
    (by rw [Deaf_own]; exact deaf_still he _) (fun op hop => by obtain ⟨e, h1, rfl⟩ := Go.Conc.mem_ofEvents hop; exact (evL_of (he e h1) hl).2.2.2)

/-- A third one's mute words. -/
theorem Tr2.mute (h : Tr2 V O1 O2 g1 g2 B t) {g : Nat} (n1 : g ≠ g1) (n2 : g ≠ g2) {es : Array Event} (hm : ∀ e ∈ es, e.mute = true) (fn : FuncId) (pos : String) : Tr2 V O1 O2 g1 g2 B (t ++ MemOp.ofEvents g fn pos es) :=
  h.talk (fun op hop => by obtain ⟨e, he, rfl⟩ := Go.Conc.mem_ofEvents hop; exact touch_mute (hm e he)) (Deaf_other t n1 _ ofEvents_g) (Deaf_other t n2 _ ofEvents_g) (fun op hop => by obtain ⟨e, he, rfl⟩ := Go.Conc.mem_ofEvents hop; exact low_mute (hm e he) B)

/-- Words of a communication. -/
def Talk (ch : Nat) (op : MemOp) : Prop := (∃ k, op.act = .send ch k) ∨ (∃ k, op.act = .sendDone ch k) ∨ (∃ k n, op.act = .recv ch k n) ∨ (∃ k, op.act = .recvDone ch k) ∨ op.act = .recvClosed ch ∨ op.act = .close ch

theorem deaf_talk {ch : Nat} {t u : Trace} (hu : ∀ op ∈ u, Talk ch op) (g : Nat) : Deaf (t ++ u) g = Deaf t g := by
  have := Deaf_append t g u.toList
  rw [show u.toList.toArray = u by simp] at this
  rw [this]
  have : ∀ (l : List MemOp) d, (∀ op ∈ l, Talk ch op) → l.foldl (deafStep g) d = d := by
    intro l
    induction l with
    | nil => intro d _; rfl
    | cons x l ih =>
      intro d hl
      rw [List.foldl_cons]
      have e : deafStep g d x = d := by
        rcases hl x (by simp) with ⟨_, h⟩ | ⟨_, h⟩ | ⟨_, _, h⟩ | ⟨_, h⟩ | h | h <;> simp [deafStep, h]
      rw [e]
      exact ih d fun op hop => hl op (by simp [hop])
  exact this _ _ fun op hop => hu op (by simpa using hop)

theorem Tr2.comm (h : Tr2 V O1 O2 g1 g2 B t) {ch : Nat} (hc : ch < B) {u : Trace} (hu : ∀ op ∈ u, Talk ch op) : Tr2 V O1 O2 g1 g2 B (t ++ u) :=
  h.talk (fun op hop => by rcases hu op hop with ⟨_, e⟩ | ⟨_, e⟩ | ⟨_, _, e⟩ | ⟨_, e⟩ | e | e <;> rw [e] <;> rfl) (deaf_talk hu _) (deaf_talk hu _)
    (fun op hop => by rcases hu op hop with ⟨_, e⟩ | ⟨_, e⟩ | ⟨_, _, e⟩ | ⟨_, e⟩ | e | e <;> rw [e] <;> exact hc)

theorem heard_of {t : Trace} {i : Nat} {op : MemOp} (h : t[i]? = some op) (hd : t.deaf op.g i = 0) : t.heard i := ⟨op.g, by simp [Trace.g?, h], hd⟩

/-- All that goroutine 0 is to know it knows: then all is handed over. -/
theorem handed {t : Trace} (h : ∀ i a, touchAt t i = some a → a.loc.isMemory = true → Knows t 0 i) : t.HandedOver := by
  rintro i g hg hne ⟨x, hx, hm, _⟩
  obtain ⟨q, z, h1, h2, h3⟩ := h i x hx hm
  refine ⟨q, by simp [Trace.g?, h1, h2], ?_⟩
  rcases h3 with rfl | h3
  · rw [show t.g? i = some 0 by simp [Trace.g?, h1, h2]] at hg
    exact absurd (Option.some.inj hg).symm hne
  · exact h3

theorem past_of {t : Trace} {B : Nat} (hc : ∀ said, ¬ Race said t) (h : ∀ i a, touchAt t i = some a → a.loc.isMemory = true → Knows t 0 i) (hd : Deaf t 0 = 0) (hs : ∀ op ∈ t, op.act.low B) : Past NoShun B t :=
  ⟨hc, fun i a ha hm => .inl (h i a ha hm), handed h, hd, hs⟩

/-- THE FORK: goroutine k starts. -/
theorem Tr2.fork {t : Trace} {B : Nat} (h : Past NoShun B t) {k : Nat} (hk : k ≠ 0) (hdk : Deaf t k = 0) (V : Nat → Prop) {x y : MemOp} (hx : x.g = 0 ∧ x.act = .go k) (hy : y.g = k ∧ y.act = .start) :
    Tr2 V (fun _ => False) (fun _ => False) 0 k B (t ++ #[x, y]) := by
  have hd : ∀ g, Deaf (t ++ #[x, y]) g = Deaf t g := fun g => by
    have := Deaf_append t g [x, y]
    rw [this]
    simp [deafStep, hx.2, hy.2]
  have ex : (t ++ #[x, y])[t.size]? = some x := by rw [Array.getElem?_append_right (Nat.le_refl _)]; simp
  have ey : (t ++ #[x, y])[t.size + 1]? = some y := by rw [Array.getElem?_append_right (by omega)]; simp
  have old : ∀ i a, touchAt (t ++ #[x, y]) i = some a → i < t.size ∧ touchAt t i = some a := fun i a ha => by
    obtain ⟨z, hz, hza⟩ := touch_of ha
    rcases getElem?_append_cases hz with ⟨hi, hx0⟩ | ⟨_, hzu⟩
    · exact ⟨hi, by rw [touchAt_of hx0]; exact hza⟩
    · simp only [List.mem_toArray, List.mem_cons, List.not_mem_nil, or_false] at hzu
      rcases hzu with rfl | rfl
      · rw [hx.2] at hza; cases hza
      · rw [hy.2] at hza; cases hza
  have kn : ∀ i a, touchAt t i = some a → a.loc.isMemory = true → Knows t 0 i := fun i a ha hm => (h.known i a ha hm).resolve_right fun x => x.1
  refine ⟨hk.symm, fun said => ?_, fun i a ha hm => .inl ((kn i a (old i a ha).2 hm).app _), fun i a ha hm => .inl ?_, (hd 0).trans h.hears, (hd k).trans hdk, seen_app h.seen fun op hop => ?_⟩
  · rintro ⟨i, j, hij, ⟨a, b, ha, hb, hc⟩, n1, n2⟩
    obtain ⟨hi, ha'⟩ := old i a ha
    obtain ⟨hj, hb'⟩ := old j b hb
    exact h.clean said ⟨i, j, hij, ⟨a, b, ha', hb', hc⟩, fun e => n1 (hb_app _ e), fun e => n2 (hb_app _ e)⟩
  · obtain ⟨hi, ha'⟩ := old i a ha
    have e1 : HappensBefore (t ++ #[x, y]) i t.size := (kn i a ha' hm).hb_new (Nat.le_refl _) ex hx.1
    have hx0 : (t ++ #[x, y]).deaf x.g t.size = 0 := by rw [hx.1, deaf_old (Nat.le_refl _)]; exact h.hears
    have hy0 : (t ++ #[x, y]).deaf y.g (t.size + 1) = 0 := by
      rw [deaf_succ ex, deaf_old (Nat.le_refl _), hy.1]
      have : t.deaf k t.size = 0 := hdk
      simp [deafStep, hx.2, this]
    have e2 : HappensBefore (t ++ #[x, y]) t.size (t.size + 1) := .single (.inr ⟨.spawn (child := k) (by simp [Trace.act?, hx.2]) (by simp [Trace.act?, hy.2]) (by simp [Trace.g?, hy.1]), heard_of ex hx0, heard_of ey hy0⟩)
    exact ⟨t.size + 1, y, ey, hy.1, .inr (e1.trans e2)⟩
  · simp only [List.mem_toArray, List.mem_cons, List.not_mem_nil, or_false] at hop
    rcases hop with rfl | rfl
    · rw [hx.2]; trivial
    · rw [hy.2]; trivial

/-- Behind the close: all that the other has touched is before it. -/
structure Tr1 (V O2 : Nat → Prop) (ch ic B : Nat) (t : Trace) : Prop where
  clean : ∀ said, ¬ Race said t
  kn : ∀ i a, touchAt t i = some a → a.loc.isMemory = true → Knows t 0 i ∨ (Before t i ic ∧ Tch V O2 a)
  close : ∃ op, t[ic]? = some op ∧ op.act = .close ch ∧ t.deaf op.g ic = 0
  h0 : Deaf t 0 = 0
  seen : ∀ op ∈ t, op.act.low B

theorem Tr1.shut {t u : Trace} {ch ic : Nat} (h : ∃ op, t[ic]? = some op ∧ op.act = .close ch ∧ t.deaf op.g ic = 0) : ∃ op, (t ++ u)[ic]? = some op ∧ op.act = .close ch ∧ (t ++ u).deaf op.g ic = 0 := by
  obtain ⟨op, h1, h2, h3⟩ := h
  have hi := lt_size_of_getElem? h1
  exact ⟨op, by rw [getElem?_append_old hi]; exact h1, h2, by rw [deaf_old (Nat.le_of_lt hi)]; exact h3⟩

/-- Goroutine k closes. -/
theorem Tr2.close {t : Trace} {k ch : Nat} (h : Tr2 V O1 O2 0 k B t) (hc : ch < B) (h12 : ∀ b, O1 b → ¬ O2 b) (hv1 : ∀ b, V b → ¬ O1 b) (hv2 : ∀ b, V b → ¬ O2 b) (fn : FuncId) (pos : String) :
    Tr1 V O2 ch (t.size + 1) B (t ++ MemOp.ofEvents k fn pos #[⟨.obj ch, false, true⟩, ⟨.obj ch, true, true⟩]) := by
  have hu : MemOp.ofEvents k fn pos #[⟨.obj ch, false, true⟩, ⟨.obj ch, true, true⟩] = #[({ g := k, fn, pos, act := .access ⟨.obj ch, false, true⟩ } : MemOp), { g := k, fn, pos, act := .close ch }] := by
    rw [ofEvents_eq]; simp [MemAct.ofEvent]
  rw [hu]
  have k1 := (h.swap).app1 (u := #[({ g := k, fn, pos, act := .access ⟨.obj ch, false, true⟩ } : MemOp), { g := k, fn, pos, act := .close ch }]) (O1' := O2) (fun _ x => x) (fun b x y => h12 b y x) hv2 hv1
    (fun op hop => by
      simp only [List.mem_toArray, List.mem_cons, List.not_mem_nil, or_false] at hop
      rcases hop with rfl | rfl <;> rfl)
    (fun op hop x hx => by
      simp only [List.mem_toArray, List.mem_cons, List.not_mem_nil, or_false] at hop
      rcases hop with rfl | rfl
      · simp only [MemAct.touch?, Option.some.injEq] at hx
        subst hx
        exact .inr (.inl ⟨⟨ch, rfl⟩, rfl⟩)
      · cases hx)
    (by
      have := Deaf_append t k [({ g := k, fn, pos, act := .access ⟨.obj ch, false, true⟩ } : MemOp), { g := k, fn, pos, act := .close ch }]
      rw [this]
      simp [deafStep])
    (fun op hop => by
      simp only [List.mem_toArray, List.mem_cons, List.not_mem_nil, or_false] at hop
      rcases hop with rfl | rfl <;> exact hc)
  have ey : (t ++ #[({ g := k, fn, pos, act := .access ⟨.obj ch, false, true⟩ } : MemOp), { g := k, fn, pos, act := .close ch }])[t.size + 1]? = some { g := k, fn, pos, act := .close ch } := by rw [Array.getElem?_append_right (by omega)]; simp
  have ex : (t ++ #[({ g := k, fn, pos, act := .access ⟨.obj ch, false, true⟩ } : MemOp), { g := k, fn, pos, act := .close ch }])[t.size]? = some { g := k, fn, pos, act := .access ⟨.obj ch, false, true⟩ } := by rw [Array.getElem?_append_right (by omega)]; simp
  refine ⟨k1.clean, fun i a ha hm => ?_, ⟨_, ey, rfl, ?_⟩, k1.h2, k1.seen⟩
  · rcases k1.kn2 i a ha hm with hk | ⟨hg, hx⟩
    · exact .inl hk
    · refine .inr ⟨?_, hx⟩
      unfold Trace.g? at hg
      obtain ⟨z, hz, hzg⟩ := Option.map_eq_some_iff.1 hg
      have hlt := lt_size_of_getElem? hz
      simp at hlt
      by_cases e : i = t.size + 1
      · exact .inl e
      · exact .inr (hb_po (by omega) hz ey hzg)
  · rw [deaf_succ ex, deaf_old (Nat.le_refl _)]
    have : t.deaf k t.size = 0 := h.h2
    simp [deafStep, this]

theorem Tr1.app0 {t : Trace} {ch ic : Nat} (h : Tr1 V O2 ch ic B t) (hB : B ≤ B') (h12 : ∀ b, O1' b → ¬ O2 b) (hv1 : ∀ b, V b → ¬ O1' b) (hv2 : ∀ b, V b → ¬ O2 b) {u : Trace} (hu : ∀ op ∈ u, op.g = 0) (hx : ∀ op ∈ u, ∀ x, op.act.touch? = some x → Tch V O1' x)
    (hd : Deaf (t ++ u) 0 = Deaf t 0) (hl : ∀ op ∈ u, op.act.low B') : Tr1 V O2 ch ic B' (t ++ u) := by
  refine ⟨fun said => noRace_append (h.clean said) hu fun i a ha op hop b hb hc => ?_, fun i a ha hm => ?_, Tr1.shut h.close, hd.trans h.h0, seen_app (fun op hop => MemAct.low_mono hB (h.seen op hop)) hl⟩
  · rcases h.kn i a ha hc.2.1 with hk | ⟨_, hk⟩
    · exact hk
    · exact absurd hc (tch_apart hk (hx op hop b hb) (fun b h2 h1 => h12 b h1 h2) hv2 hv1 said)
  · obtain ⟨x, hx', hxa⟩ := touch_of ha
    rcases getElem?_append_cases hx' with ⟨hi, hx0⟩ | ⟨_, hxu⟩
    · have ha0 : touchAt t i = some a := by rw [touchAt_of hx0]; exact hxa
      exact (h.kn i a ha0 hm).imp (·.app u) fun x => ⟨x.1.app u, x.2⟩
    · have := knows_own hx'
      rw [hu x hxu] at this
      exact .inl this

theorem Tr1.own {t : Trace} {ch ic : Nat} (h : Tr1 V O2 ch ic B t) (hB : B ≤ B') (h12 : ∀ b, O1' b → ¬ O2 b) (hv1 : ∀ b, V b → ¬ O1' b) (hv2 : ∀ b, V b → ¬ O2 b) {es : Array Event} (he : ∀ e ∈ es, EvO V O1' e) (hl : ∀ b, V b ∨ O1' b → b < B') (fn : FuncId) (pos : String) :
    Tr1 V O2 ch ic B' (t ++ MemOp.ofEvents 0 fn pos es) :=
  h.app0 hB h12 hv1 hv2 ofEvents_g (fun op hop x hx => by obtain ⟨e, h1, rfl⟩ := Go.Conc.mem_ofEvents hop; exact tch_evO (he e h1) hx)
    (by rw [Deaf_own]; exact deaf_still he _) (fun op hop => by obtain ⟨e, h1, rfl⟩ := Go.Conc.mem_ofEvents hop; exact (evL_of (he e h1) hl).2.2.2)

theorem Tr1.talk {t : Trace} {ch ic : Nat} (h : Tr1 V O2 ch ic B t) {u : Trace} (hx : ∀ op ∈ u, op.act.touch? = none) (hd : Deaf (t ++ u) 0 = Deaf t 0) (hl : ∀ op ∈ u, op.act.low B) : Tr1 V O2 ch ic B (t ++ u) := by
  have old : ∀ i a, touchAt (t ++ u) i = some a → i < t.size ∧ touchAt t i = some a := fun i a ha => by
    obtain ⟨x, hx', hxa⟩ := touch_of ha
    rcases getElem?_append_cases hx' with ⟨hi, hx0⟩ | ⟨_, hxu⟩
    · exact ⟨hi, by rw [touchAt_of hx0]; exact hxa⟩
    · rw [hx x hxu] at hxa; cases hxa
  refine ⟨fun said => ?_, fun i a ha hm => ?_, Tr1.shut h.close, hd.trans h.h0, seen_app h.seen hl⟩
  · rintro ⟨i, j, hij, ⟨a, b, ha, hb, hc⟩, n1, n2⟩
    obtain ⟨hi, ha'⟩ := old i a ha
    obtain ⟨hj, hb'⟩ := old j b hb
    exact h.clean said ⟨i, j, hij, ⟨a, b, ha', hb', hc⟩, fun e => n1 (hb_app u e), fun e => n2 (hb_app u e)⟩
  · obtain ⟨hi, ha'⟩ := old i a ha
    exact (h.kn i a ha' hm).imp (·.app u) fun x => ⟨x.1.app u, x.2⟩
theorem Tr1.mute {t : Trace} {ch ic : Nat} (h : Tr1 V O2 ch ic B t) {g : Nat} (n : g ≠ 0) {es : Array Event} (hm : ∀ e ∈ es, e.mute = true) (fn : FuncId) (pos : String) : Tr1 V O2 ch ic B (t ++ MemOp.ofEvents g fn pos es) :=
  h.talk (fun op hop => by obtain ⟨e, he, rfl⟩ := Go.Conc.mem_ofEvents hop; exact touch_mute (hm e he)) (Deaf_other t n _ ofEvents_g) (fun op hop => by obtain ⟨e, he, rfl⟩ := Go.Conc.mem_ofEvents hop; exact low_mute (hm e he) B)
theorem Tr1.comm {t : Trace} {ch ic : Nat} (h : Tr1 V O2 ch ic B t) (hc : ch < B) {u : Trace} (hu : ∀ op ∈ u, Talk ch op) : Tr1 V O2 ch ic B (t ++ u) :=
  h.talk (fun op hop => by rcases hu op hop with ⟨_, e⟩ | ⟨_, e⟩ | ⟨_, _, e⟩ | ⟨_, e⟩ | e | e <;> rw [e] <;> rfl) (deaf_talk hu _)
    (fun op hop => by rcases hu op hop with ⟨_, e⟩ | ⟨_, e⟩ | ⟨_, _, e⟩ | ⟨_, e⟩ | e | e <;> rw [e] <;> exact hc)

/-- Goroutine 0 finds the channel closed. -/
theorem Tr1.past {t : Trace} {ch ic : Nat} (h : Tr1 V O2 ch ic B t) (hc : ch < B) {x : MemOp} (hx : x.g = 0 ∧ x.act = .recvClosed ch) : Past NoShun B (t ++ #[x]) := by
  have ht : ∀ op ∈ #[x], Talk ch op := fun op hop => by
    simp only [List.mem_toArray, List.mem_cons, List.not_mem_nil, or_false] at hop
    subst hop
    exact .inr (.inr (.inr (.inr (.inl hx.2))))
  have k := h.comm hc ht
  obtain ⟨op, h1, h2, h3⟩ := k.close
  have ex : (t ++ #[x])[t.size]? = some x := by rw [Array.getElem?_append_right (Nat.le_refl _)]; simp
  have hxd : (t ++ #[x]).deaf x.g t.size = 0 := by rw [hx.1, deaf_old (Nat.le_refl _)]; exact h.h0
  have e2 : HappensBefore (t ++ #[x]) ic t.size := .single (.inr ⟨.closed (c := ch) (by simp only [Trace.act?, h1, Option.map_some, h2]) (by simp only [Trace.act?, ex, Option.map_some, hx.2]), heard_of h1 h3, heard_of ex hxd⟩)
  refine past_of k.clean (fun i a ha hm => ?_) k.h0 k.seen
  rcases k.kn i a ha hm with hk | ⟨hk, _⟩
  · exact hk
  · exact ⟨t.size, x, ex, hx.1, hk.trans (.inr e2)⟩
end
end Go.Proofs.Ytngehfhcnfobbaa
namespace Go.Proofs.Ytngehfhcnfobbaa
open Go Go.Conc
open Go.ConcN (sumTo upd sumTo_upd upd_ne upd_same)

section
variable {P : Program} {gs : Array Goroutine} {w w₁ : World} {sl : Option (Nat × Nat)} {i j : Nat} {g g₂ gj : Goroutine} {es : Array Event} {shape shj : CommShape} {blocking : Bool}
  {c cap s r : Nat} {buf : Array Value} {closed tm : Bool} {v z zj : Value}

/-- A receive takes from the buffer where a sender is parked: that one's value is laid into the buffer. -/
theorem crowd_recv_buf_parked (hi : gs[i]? = some g) (h : stepG P (i == 0) g w = .comm g₂ #[rcase c z] blocking shape w₁ es) (hc : w₁.heap[c]? = some (.chan cap buf closed s r tm)) (hsome : 0 < buf.size)
    (hij : j ≠ i) (hj : gs[j]? = some (parked gj #[scase c v zj] shj)) (hp : partners (gs.setIfInBounds i ph) c true = [(j, 0)]) :
    runT P (crowd gs w sl) i = (.next (crowd ((gs.setIfInBounds j (gj.finishComm P #[scase c v zj] shj 0 undef false)).setIfInBounds i (g₂.finishComm P #[rcase c z] shape 0 (buf.getD 0 undef) true)) (w₁.setChan c cap ((buf.extract 1 buf.size).push v) closed (s + 1) (r + 1) tm) sl),
      MemOp.ofEvents i g.frame.fn g.frame.place es ++ #[{ g := i, fn := g₂.frame.fn, pos := g₂.frame.place, act := .recv c r cap }, { g := i, fn := g₂.frame.fn, pos := g₂.frame.place, act := .recvDone c r },
        { g := j, fn := gj.frame.fn, pos := gj.frame.place, act := .send c s }, { g := j, fn := gj.frame.fn, pos := gj.frame.place, act := .sendDone c s }]) := by
  rw [runT_crowd_comm hi h]
  have hj' := stand_get (i := i) hij hj
  have hfp := finishPartner_at P (gs.setIfInBounds i ph) hj' (cs := #[scase c v zj]) (sh := shj) rfl 0 undef
  have hgd : (gs.setIfInBounds i ph).getD j default = parked gj #[scase c v zj] shj := by rw [Array.getD_eq_getD_getElem?, hj']; rfl
  have hov : offeredValue (gs.setIfInBounds i ph) j 0 = v := by simp [offeredValue, hj', parked, scase]
  simp [communicate, ways, rcase, hc, hp, hsome, choose, Sem.run, Question.forced, bind, Sem.bind, pure, World.setChan, crowd, hfp, hgd, hov, set_stand2, scase, parked]
  rfl
end

/-! ### what each of the two does -/
section
variable (P : Program) (V : Nat → Prop) (ch : Nat)

def SendAt (b g : Goroutine) (v z : Value) : Prop := b.status = .running ∧ ∀ W, stepG P false b W = .comm g #[scase ch v z] true .send W #[]
def RecvAt (a g : Goroutine) (z : Value) : Prop := a.status = .running ∧ (∀ W, stepG P true a W = .comm g #[rcase ch z] true (.recv true) W #[]) ∧ g.frame = a.frame ∧ g.callers = a.callers ∧ g.dying = a.dying

/-- It closes, and is only leaving. -/
def Shuts (Done : List Value → (Nat → Prop) → World → Prop) (ms : List Value) (O : Nat → Prop) (b : Goroutine) (W : World) : Prop :=
  b.status = .running ∧ mayWake P b = true ∧ (∃ g2 k, QuitsD P k 0 g2 ∧ ∀ W cap buf s r tm, W.heap[ch]? = some (.chan cap buf false s r tm) → stepG P false b W = .go g2 (W.setChan ch cap buf true s r tm) #[⟨.obj ch, false, true⟩, ⟨.obj ch, true, true⟩]) ∧
    ∀ W2, Rely V O W W2 → Done ms O W2

/-- The child: it sends (so many times at most), and closes. -/
def Ch (Ok : Value → Prop) (Done : List Value → (Nat → Prop) → World → Prop) : Nat → List Value → (Nat → Prop) → Goroutine → World → Prop
  | 0, ms, O, b, W => Co P false V (fun O b W => Shuts P V ch Done ms O b W) O b W
  | n + 1, ms, O, b, W => Co P false V (fun O b W => Shuts P V ch Done ms O b W ∨ ∃ g v z, SendAt P ch b g v z ∧ Ok v ∧ ∀ W2, Rely V O W W2 → Ch Ok Done n (ms ++ [v]) O (Go.Conc.served g undef) W2) O b W

/-- Goroutine 0 stands at a receive. -/
def AtR (Rc : List Value → (Nat → Prop) → Goroutine → Value → World → Prop) (ms : List Value) (O : Nat → Prop) (a : Goroutine) (W : World) : Prop :=
  ∃ g z, RecvAt P ch a g z ∧ Rc ms O g z W

/-- What goroutine 0 does with what it gets, and behind the end. -/
structure Prot (Post : Value → World → Prop) (VisL : Nat → Prop) (Ok : Value → Prop) (Done : List Value → (Nat → Prop) → World → Prop) (Rc : List Value → (Nat → Prop) → Goroutine → Value → World → Prop) (Lim : Nat) : Prop where
  rely : ∀ ms O g z W W1, Rc ms O g z W → Rely V O W W1 → Rc ms O g z W1
  recv : ∀ ms O g z W m, ms.length < Lim → Rc ms O g z W → Ok m → Co P true V (AtR P ch Rc (ms ++ [m])) O (Go.Conc.served g (.tuple #[m, .bool true])) W
  fin : ∀ ms Om Oc g z W, Rc ms Om g z W → Done ms Oc W → (∀ b, Om b → ¬ Oc b) → (∀ b, V b → ¬ Om b) → (∀ b, V b → ¬ Oc b) → ch < W.heap.size → (∀ b, V b ∨ Om b ∨ Oc b → b < W.heap.size) →
    ∃ O', (∀ b, VisL b ∨ O' b → b < W.heap.size) ∧ Free P Post VisL O' (Go.Conc.served g (.tuple #[z, .bool false])) W
end

/-- Where all stand while the channel is open. -/
structure Sit (P : Program) (V : Nat → Prop) (ch k : Nat) (gs : Array Goroutine) (w : World) (t : Trace) (q : Nat → Nat) (Om Oc : Nat → Prop) (b : Goroutine) (cap : Nat) (buf : Array Value) : Prop where
  kpos : 0 < k
  hb : gs[k]? = some b
  old : ∀ i g, 0 < i → i ≠ k → gs[i]? = some g → QuitsD P (q i) (Deaf t i) g
  above : ∀ j, gs.size ≤ j → Deaf t j = 0
  tr : Tr2 V Om Oc 0 k w.heap.size t
  dis : ∀ b, Om b → ¬ Oc b
  v1 : ∀ b, V b → ¬ Om b
  v2 : ∀ b, V b → ¬ Oc b
  nV : ¬ V ch
  nM : ¬ Om ch
  nC : ¬ Oc ch
  low : ∀ b, V b ∨ Om b ∨ Oc b → b < w.heap.size
  chan : ∃ s r tm, w.heap[ch]? = some (.chan cap buf false s r tm)

section
variable {P : Program} {V : Nat → Prop} {ch k : Nat} {gs : Array Goroutine} {w : World} {t : Trace} {q : Nat → Nat} {Om Oc Om' Oc' : Nat → Prop} {b : Goroutine} {cap : Nat} {buf : Array Value}

theorem Sit.at (h : Sit P V ch k gs w t q Om Oc b cap buf) (d : Nat) : Sit P V ch k gs (w.at d) t q Om Oc b cap buf := ⟨h.kpos, h.hb, h.old, h.above, h.tr, h.dis, h.v1, h.v2, h.nV, h.nM, h.nC, h.low, h.chan⟩
theorem Sit.chlt (h : Sit P V ch k gs w t q Om Oc b cap buf) : ch < w.heap.size := by
  obtain ⟨s, r, tm, hc⟩ := h.chan
  exact (Array.getElem?_eq_some_iff.1 hc).1

/-- Whoever is neither blocked nor waiting is not turned by being let try again. -/
def Calm (b : Goroutine) : Prop := b.status = .running ∨ b.status = .finished
theorem woken_calm {x x' b : Goroutine} {w : World} (h : Calm b) : woken P x x' w b = b := by
  unfold woken
  split
  · exact again_running _ h
  · rfl

theorem guar_rely {V Om Oc Om' : Nat → Prop} {w w' : World} {es : Array Event} (g : Guar V Om w w' es Om') (dis : ∀ b, Om b → ¬ Oc b) (v1 : ∀ b, V b → ¬ Om b) (low : ∀ b, V b ∨ Om b ∨ Oc b → b < w.heap.size) : Rely V Oc w w' :=
  ⟨fun b hb => g.keep b (low b (hb.imp id .inr)) fun ho => by
    rcases hb with hb | hb
    · exact v1 b hb ho
    · exact dis b ho hb, g.size, g.tape, g.os, g.output⟩

theorem getElem?_map_woken {x x' : Goroutine} {w' : World} (f : ∀ (i : Nat) (g : Goroutine), gs[i]? = some g → woken P x x' w' g = g) (i : Nat) : (gs.map (woken P x x' w'))[i]? = gs[i]? := by
  rw [Array.getElem?_map]
  cases e : gs[i]? with
  | none => rfl
  | some g => simp [f i g e]

/-- Goroutine 0 takes a step of its own. -/
theorem Sit.main (h : Sit P V ch k gs w t q Om Oc b cap buf) {a a' : Goroutine} {w' : World} {es : Array Event} (h0 : gs[0]? = some a) (hb : woken P a a' w' b = b) (g : Guar V Om w w' es Om') (fn : FuncId) (pos : String) :
    Sit P V ch k ((gs.map (woken P a a' w')).setIfInBounds 0 a') w' (t ++ MemOp.ofEvents 0 fn pos es) q Om' Oc b cap buf := by
  have hk := h.kpos
  have hlow := h.low
  have nM' : ∀ b, b < w.heap.size → ¬ Om b → ¬ Om' b := fun b hlt hn ho => by
    rcases (g.own b).1 ho with ho | ho
    · exact hn ho
    · omega
  have dis' : ∀ b, Om' b → ¬ Oc b := fun b ho hc => by
    rcases (g.own b).1 ho with ho | ho
    · exact h.dis b ho hc
    · have := hlow b (.inr (.inr hc)); omega
  have v1' : ∀ b, V b → ¬ Om' b := fun b hv => nM' b (hlow b (.inl hv)) (h.v1 b hv)
  have low' : ∀ b, V b ∨ Om' b ∨ Oc b → b < w'.heap.size := fun b hb => by
    rcases hb with hb | hb | hb
    · exact Nat.lt_of_lt_of_le (hlow b (.inl hb)) g.size
    · rcases (g.own b).1 hb with hb | hb
      · exact Nat.lt_of_lt_of_le (hlow b (.inr (.inl hb))) g.size
      · exact hb.2
    · exact Nat.lt_of_lt_of_le (hlow b (.inr (.inr hb))) g.size
  refine ⟨hk, ?_, fun i x hi hne hx => ?_, fun j hj => ?_, h.tr.own1 g.size (fun b hb => (g.own b).2 (.inl hb)) dis' v1' h.v2 g.evs (fun b hb => low' b (hb.imp id .inl)) fn pos, dis', v1', h.v2, h.nV, nM' ch h.chlt h.nM, h.nC, low', ?_⟩
  · rw [Array.getElem?_setIfInBounds_ne (by omega), Array.getElem?_map, h.hb]
    simp [hb]
  · rw [Array.getElem?_setIfInBounds_ne (by omega), Array.getElem?_map] at hx
    obtain ⟨y, hy, rfl⟩ := Option.map_eq_some_iff.1 hx
    have hqj := h.old i y hi hne hy
    rw [woken_quitsD hqj, Deaf_other t (g' := 0) (by omega) (MemOp.ofEvents 0 fn pos es) ofEvents_g]
    exact hqj
  · have hlt : 0 < gs.size := (Array.getElem?_eq_some_iff.1 h0).1
    rw [Deaf_other t (g' := 0) (by simp at hj; omega) (MemOp.ofEvents 0 fn pos es) ofEvents_g]
    exact h.above j (by simpa using hj)
  · obtain ⟨s, r, tm, hc⟩ := h.chan
    exact ⟨s, r, tm, by rw [g.keep ch h.chlt h.nM]; exact hc⟩

/-- The child takes a step of its own. -/
theorem Sit.child (h : Sit P V ch k gs w t q Om Oc b cap buf) {b' : Goroutine} {w' : World} {es : Array Event} (g : Guar V Oc w w' es Oc') (fn : FuncId) (pos : String) :
    Sit P V ch k ((gs.map (woken P b b' w')).setIfInBounds k b') w' (t ++ MemOp.ofEvents k fn pos es) q Om Oc' b' cap buf := by
  have hk := h.kpos
  have hlow := h.low
  have hlt : k < gs.size := (Array.getElem?_eq_some_iff.1 h.hb).1
  have nC' : ∀ b, b < w.heap.size → ¬ Oc b → ¬ Oc' b := fun b hlt hn ho => by
    rcases (g.own b).1 ho with ho | ho
    · exact hn ho
    · omega
  have dis' : ∀ b, Om b → ¬ Oc' b := fun b hm hc => by
    rcases (g.own b).1 hc with hc | hc
    · exact h.dis b hm hc
    · have := hlow b (.inr (.inl hm)); omega
  have v2' : ∀ b, V b → ¬ Oc' b := fun b hv => nC' b (hlow b (.inl hv)) (h.v2 b hv)
  have low' : ∀ b, V b ∨ Om b ∨ Oc' b → b < w'.heap.size := fun b hb => by
    rcases hb with hb | hb | hb
    · exact Nat.lt_of_lt_of_le (hlow b (.inl hb)) g.size
    · exact Nat.lt_of_lt_of_le (hlow b (.inr (.inl hb))) g.size
    · rcases (g.own b).1 hb with hb | hb
      · exact Nat.lt_of_lt_of_le (hlow b (.inr (.inr hb))) g.size
      · exact hb.2
  refine ⟨hk, ?_, fun i x hi hne hx => ?_, fun j hj => ?_, (h.tr.swap.own1 g.size (fun b hb => (g.own b).2 (.inl hb)) (fun b x y => dis' b y x) v2' h.v1 g.evs (fun b hb => low' b (hb.imp id .inr)) fn pos).swap, dis', h.v1, v2', h.nV, h.nM, nC' ch h.chlt h.nC, low', ?_⟩
  · rw [Array.getElem?_setIfInBounds_self_of_lt (by simpa using hlt)]
  · rw [Array.getElem?_setIfInBounds_ne (Ne.symm hne), Array.getElem?_map] at hx
    obtain ⟨y, hy, rfl⟩ := Option.map_eq_some_iff.1 hx
    have hqj := h.old i y hi hne hy
    rw [woken_quitsD hqj, Deaf_other t (g' := k) (Ne.symm hne) (MemOp.ofEvents k fn pos es) ofEvents_g]
    exact hqj
  · rw [Deaf_other t (g' := k) (by simp at hj; omega) (MemOp.ofEvents k fn pos es) ofEvents_g]
    exact h.above j (by simpa using hj)
  · obtain ⟨s, r, tm, hc⟩ := h.chan
    exact ⟨s, r, tm, by rw [g.keep ch h.chlt h.nC]; exact hc⟩

/-- A leaver slips. -/
theorem Sit.slip (h : Sit P V ch k gs w t q Om Oc b cap buf) {i : Nat} {x x' : Goroutine} {es : Array Event} {n : Nat} (hpos : 0 < i) (hne : i ≠ k) (hi : gs[i]? = some x) (hm : ∀ e ∈ es, e.mute = true) (hq' : QuitsD P n (deafBehind (Deaf t i) es) x') (hb : woken P x x' w b = b) (fn : FuncId) (pos : String) :
    Sit P V ch k ((gs.map (woken P x x' w)).setIfInBounds i x') w (t ++ MemOp.ofEvents i fn pos es) (upd q i n) Om Oc b cap buf := by
  have hlt : i < gs.size := (Array.getElem?_eq_some_iff.1 hi).1
  refine ⟨h.kpos, ?_, fun j y hj hjk hy => ?_, fun j hj => ?_, h.tr.mute (by omega) hne hm fn pos, h.dis, h.v1, h.v2, h.nV, h.nM, h.nC, h.low, h.chan⟩
  · rw [Array.getElem?_setIfInBounds_ne hne, Array.getElem?_map, h.hb]
    simp [hb]
  · by_cases hji : i = j
    · subst hji
      rw [Array.getElem?_setIfInBounds_self_of_lt (by simpa using hlt)] at hy
      obtain rfl := Option.some.inj hy
      rw [upd_same, Deaf_own]
      exact hq'
    · rw [Array.getElem?_setIfInBounds_ne hji, Array.getElem?_map] at hy
      obtain ⟨z, hz, rfl⟩ := Option.map_eq_some_iff.1 hy
      have hqj := h.old j z hj hjk hz
      rw [woken_quitsD hqj, upd_ne q n (Ne.symm hji), Deaf_other t hji (MemOp.ofEvents i fn pos es) ofEvents_g]
      exact hqj
  · rw [Deaf_other t (g' := i) (by simp at hj; omega) (MemOp.ofEvents i fn pos es) ofEvents_g]
    exact h.above j (by simpa using hj)

/-- A communication. -/
theorem Sit.talk (h : Sit P V ch k gs w t q Om Oc b cap buf) {gs' : Array Goroutine} {b' : Goroutine} {buf' : Array Value} {s r : Nat} {tm : Bool} {u : Trace} (hb : gs'[k]? = some b') (hs : gs'.size = gs.size) (ho : ∀ i, 0 < i → i ≠ k → gs'[i]? = gs[i]?) (hu : ∀ op ∈ u, Talk ch op) :
    Sit P V ch k gs' (w.setChan ch cap buf' false s r tm) (t ++ u) q Om Oc b' cap buf' := by
  refine ⟨h.kpos, hb, fun i g hi hne hg => ?_, fun j hj => ?_, ?_, h.dis, h.v1, h.v2, h.nV, h.nM, h.nC, fun b hb => by simpa [World.setChan] using h.low b hb, ⟨s, r, tm, ?_⟩⟩
  · rw [deaf_talk hu]; exact h.old i g hi hne (by rw [← ho i hi hne]; exact hg)
  · rw [deaf_talk hu]; exact h.above j (by rw [← hs]; exact hj)
  · have := h.tr.comm h.chlt hu
    simpa [World.setChan] using this
  · have := h.chlt
    simp [World.setChan, this]

theorem rely_setChan (V O : Nat → Prop) (w : World) {ch : Nat} (nV : ¬ V ch) (nO : ¬ O ch) (cap : Nat) (buf : Array Value) (cl : Bool) (s r : Nat) (tm : Bool) : Rely V O w (w.setChan ch cap buf cl s r tm) :=
  ⟨fun b hb => by
    have : ch ≠ b := fun e => by subst e; exact hb.elim nV nO
    simp [World.setChan, this], by simp [World.setChan], rfl, rfl, rfl⟩

/-- One is parked with a communication: its record, under another's step while the channel is open. -/
theorem Sit.woken_recv (h : Sit P V ch k gs w t q Om Oc b cap buf) (x x' g : Goroutine) (z : Value) (sh : CommShape) : woken P x x' w (parked g #[rcase ch z] sh) = parked g #[rcase ch z] sh := by
  obtain ⟨s, r, tm, hc⟩ := h.chan
  exact woken_recv_open x x' hc
theorem Sit.woken_send (h : Sit P V ch k gs w t q Om Oc b cap buf) (x x' g : Goroutine) (v z : Value) (sh : CommShape) : woken P x x' w (parked g #[scase ch v z] sh) = parked g #[scase ch v z] sh := by
  obtain ⟨s, r, tm, hc⟩ := h.chan
  exact woken_send_open x x' hc

theorem Sit.awake (h : Sit P V ch k gs w t q Om Oc b cap buf) {a : Goroutine} (h0 : gs[0]? = some a) (ha : awake a) (hb : awake b) : ∀ g ∈ gs, awake g := by
  intro g hg
  obtain ⟨i, hi, rfl⟩ := Array.mem_iff_getElem.1 hg
  by_cases hi0 : i = 0
  · subst hi0
    have : gs[0] = a := by simpa [Array.getElem?_eq_getElem hi] using h0
    rw [this]; exact ha
  · by_cases hik : i = k
    · subst hik
      have : gs[i] = b := by simpa [Array.getElem?_eq_getElem hi] using h.hb
      rw [this]; exact hb
    · exact awake_of ((h.old i _ (by omega) hik (Array.getElem?_eq_getElem hi)).status.elim .inl fun x => .inr (.inr x))

/-- Who offers: the leavers nothing. -/
theorem Sit.offers (h : Sit P V ch k gs w t q Om Oc b cap buf) {i : Nat} {g : Goroutine} (hi : 0 < i) (hk : i ≠ k) (hg : gs[i]? = some g) (c : Nat) (send : Bool) : offersAt g c send = [] :=
  offersAt_of_not_blocked (by rcases (h.old i g hi hk hg).status with e | e <;> rw [e] <;> exact fun x => by cases x) c send

/-- Goroutine 0 looks for partners. -/
theorem Sit.partners0 (h : Sit P V ch k gs w t q Om Oc b cap buf) (hb : b.status ≠ .blocked) (send : Bool) : partners (gs.setIfInBounds 0 ph) ch send = [] :=
  partners_nil fun j g hj => by
    rcases getElem?_stand gs 0 j g hj with ⟨_, rfl⟩ | ⟨hj0, hg⟩
    · rfl
    · by_cases hjk : j = k
      · subst hjk
        rw [h.hb] at hg
        cases hg
        exact offersAt_of_not_blocked hb _ _
      · exact h.offers (by omega) hjk hg _ _
theorem Sit.partners0P (h : Sit P V ch k gs w t q Om Oc b cap buf) {g : Goroutine} {v z : Value} {sh : CommShape} (hb : b = parked g #[scase ch v z] sh) : partners (gs.setIfInBounds 0 ph) ch true = [(k, 0)] := by
  have hk := h.kpos
  rw [partners_one (j := k) (g := b) (by rw [Array.getElem?_setIfInBounds_ne (by omega)]; exact h.hb) fun j g' hjk hg => ?_]
  · subst hb
    simp [offersAt_parked_send]
  · rcases getElem?_stand gs 0 j g' hg with ⟨_, rfl⟩ | ⟨hj0, hg⟩
    · rfl
    · exact h.offers (by omega) hjk hg _ _
/-- The child looks for partners. -/
theorem Sit.partnersK (h : Sit P V ch k gs w t q Om Oc b cap buf) {a : Goroutine} (h0 : gs[0]? = some a) (ha : a.status ≠ .blocked) (send : Bool) : partners (gs.setIfInBounds k ph) ch send = [] :=
  partners_nil fun j g hj => by
    rcases getElem?_stand gs k j g hj with ⟨_, rfl⟩ | ⟨hjk, hg⟩
    · rfl
    · by_cases hj0 : j = 0
      · subst hj0
        rw [h0] at hg
        cases hg
        exact offersAt_of_not_blocked ha _ _
      · exact h.offers (by omega) hjk hg _ _
theorem Sit.partnersKP (h : Sit P V ch k gs w t q Om Oc b cap buf) {a g : Goroutine} {z : Value} {sh : CommShape} (h0 : gs[0]? = some a) (ha : a = parked g #[rcase ch z] sh) : partners (gs.setIfInBounds k ph) ch false = [(0, 0)] := by
  have hk := h.kpos
  rw [partners_one (j := 0) (g := a) (by rw [Array.getElem?_setIfInBounds_ne (by omega)]; exact h0) fun j g' hj0 hg => ?_]
  · subst ha
    simp [offersAt_parked_recv]
  · rcases getElem?_stand gs k j g' hg with ⟨_, rfl⟩ | ⟨hjk, hg⟩
    · rfl
    · exact h.offers (by omega) hjk hg _ _
end
end Go.Proofs.Ytngehfhcnfobbaa
namespace Go.Proofs.Ytngehfhcnfobbaa
open Go Go.Conc

section
variable {P : Program} {c : Cx} {p : Pl} {k : List Item} {a : Act} {w : World}

/-- ONE OPERATION THAT HANDS BACK A VALUE, on both sides. -/
theorem hand_value (hC : COk P c) (hk : (p.b.kind == .early) = false) {ops : Array Oper} {i : Nat} {rest : List Nat} {o : Oper} (ho : ops[i]? = some o) (hw : Region.wanted o (yielded ops a.tmps) = true) (hop : OpOk P c o.op)
    {v : Value} {w1 : World} (h : ∀ τ, ∃ d, (execOp a.eval o).run P (td w τ 0) = .ok (.value v) (td w1 τ d))
    {ρ : Nat → Nat → Prop} {O : Nat → Prop} {tmps' : Array Value} {W W1 : World} (hA : AR c ρ a.tmps tmps') (hh : Here c p ρ O w W) (hr : Rely p.Vis O W W1) :
    ∃ v' ρ1 O1 W2 es, (execOp (Act.mk tmps' p.ds).eval o).run P W1 = .ok (.value v') W2 ∧
      stepG P p.main (G (p.b.at ⟨tmps', p.ds⟩ (.inRegion ops (i :: rest) :: k)) p.cs) W1 = .go (G (p.b.at ((Act.mk tmps' p.ds).put o.dst v') (.inRegion ops rest :: k)) p.cs) W2 es ∧
      Guar p.Vis O W1 W2 es O1 ∧ (∀ b b', ρ b b' → ρ1 b b') ∧ VR c ρ1 v v' ∧ AR c ρ1 (a.put o.dst v).tmps ((Act.mk tmps' p.ds).put o.dst v').tmps ∧ Here c p ρ1 O1 w1 W2 := by
  have hw1 := hh.wr.rely hh.vis hr
  obtain ⟨σ, m, r, h0, h1⟩ := sim_execOp hC (evA (a := a) hw1 hA p.ds) hop w W1 #[] hw1 (fun e he => by simp at he)
  have hy : Region.wanted o (yielded ops (Act.mk tmps' p.ds).tmps) = true := by
    have e : yielded ops tmps' = yielded ops a.tmps := funext fun j => (yielded_rel hA j).symm
    show Region.wanted o (yielded ops tmps') = true
    rw [e]; exact hw
  have hkd : p.b.kind ≠ .early := by simpa using hk
  have e0 := h0 σ 0 (fun i q _ => by rw [Nat.zero_add])
  obtain ⟨d, hd⟩ := h σ
  rw [hd] at e0
  cases r with
  | halt h w2 => cases e0
  | ok n w2 =>
    simp only [tdR, Result.ok.injEq] at e0
    obtain ⟨rfl, e2⟩ := e0
    obtain ⟨ρ1, n', W2, es1, g1, g2, g3, g4, g5⟩ := h1
    have hrun : (execOp (Act.mk tmps' p.ds).eval o).run P W1 = .ok n' W2 := by rw [← Sem.runT_fst P _ W1 #[], g1]
    have hevs : (execOp (Act.mk tmps' p.ds).eval o).events P W1 #[] = es1 := by rw [Sem.events, g1]
    have hl : ∀ e ∈ listed P p.b.fn (Act.mk tmps' p.ds) o W1, EvC c ρ1 e := fun e he => g4 e (by
      have := mem_seen he
      rwa [hevs] at this)
    obtain ⟨q1, q2, q3⟩ := guar_of g2 g3 hh.vis hh.own hl
    have hsi := (hh.since.rely hr).step g2 hh.own
    cases g5 with
    | @value v v' hv =>
      refine ⟨v', ρ1, _, W2, _, hrun, stepG_value ho hy hkd hrun, q1, g2.sub, hv, AR.put' (hA.mono g2.sub) hv _ _, ?_⟩
      have hH : Here c p ρ1 (fun b => O b ∨ (W1.heap.size ≤ b ∧ b < W2.heap.size)) w2 W2 := ⟨g3, q2, q3, hsi⟩
      have h2 := (Here.tape σ d).2 hH
      have e3 : td w2 σ d = td w1 σ d := by
        have := congrArg (fun x => td x σ d) e2
        simpa [td] using this.symm
      rw [e3] at h2
      exact (Here.tape σ d).1 h2

theorem Here.cell {ρ : Nat → Nat → Prop} {O : Nat → Prop} {W W1 : World} (hh : Here c p ρ O w W) (hr : Rely p.Vis O W W1) {b : Nat} (hb : b < p.W0.heap.size) (hv : p.Vis b) (ho : ¬ p.O0 b) : W1.heap[b]? = p.W0.heap[b]? :=
  (hr.keep b (.inl hv)).trans (hh.since.keep b hb hv ho)

/-- A SEND: the channel is loaded from its variable (which stands as it stood), then what is sent, then the send. -/
theorem Tri.send (hC : COk P c) (hk : (p.b.kind == .early) = false) {ops : Array Oper} {o0 o1 o2 : Oper} {d0 d1 : Tmp} {x0 : Operand} {ch bx bx' : Nat} {v : Value}
    (ho : ops[0]? = some o0 ∧ ops[1]? = some o1 ∧ ops[2]? = some o2) (hg : ∀ y : Nat → Option Bool, Region.wanted o0 y = true ∧ Region.wanted o1 y = true ∧ Region.wanted o2 y = true) (hd : o0.dst = some d0 ∧ o1.dst = some d1) (hs : o2.op = .send (.tmp d0) (.tmp d1)) (hp0 : OpOk P c o0.op) (hp1 : OpOk P c o1.op) (hne : d0 ≠ d1)
    (hlt : d0 < a.tmps.size ∧ d1 < a.tmps.size)
    (e0 : ∀ τ, ∃ d, (execOp a.eval o0).run P (td w τ 0) = .ok (.value undef) (td w τ d))
    (e1 : ∀ τ, ∃ d, (execOp (a.put (some d0) undef).eval o1).run P (td w τ 0) = .ok (.value v) (td w τ d))
    (hx : OdOk c x0) (hxe : a.eval x0 = .pointer (some ⟨bx, 0, none⟩)) (hld : ∀ (a' : Act) (b : Nat) (W : World) (u : Value), a'.eval x0 = .pointer (some ⟨b, 0, none⟩) → W.cell? ⟨b, 0, none⟩ = some u → (execOp a'.eval o0).run P W = .ok (.value u) W)
    (hbx : p.ρ0 bx bx') (hV : p.Vis bx') (hO : ¬ p.O0 bx') (hch : p.W0.cell? ⟨bx', 0, none⟩ = some (.chan (some ch)))
    (hstop : ∀ ρ O tmps' v' W, (∀ b b', p.ρ0 b b' → ρ b b') → VR c ρ v v' → AR c ρ ((a.put (some d0) undef).put (some d1) v).tmps tmps' → Here c p ρ O w W →
      SendAt P ch (G (p.b.at ⟨tmps', p.ds⟩ (.inRegion ops [2] :: k)) p.cs) (G (p.b.at ⟨tmps', p.ds⟩ (.inRegion ops [2] :: k)) p.cs) v' (.tuple #[]) → Go.Conc.served (G (p.b.at ⟨tmps', p.ds⟩ (.inRegion ops [2] :: k)) p.cs) undef = G (p.b.at ((Act.mk tmps' p.ds).put o2.dst undef) (.inRegion ops [] :: k)) p.cs → p.Stop O (G (p.b.at ⟨tmps', p.ds⟩ (.inRegion ops [2] :: k)) p.cs) W) :
    Tri P c p (.inRegion ops [0, 1, 2] :: k) a w := by
  intro ρ O tmps' W hA hdf hh
  refine Co.step rfl fun W1 hr => ?_
  obtain ⟨v', ρ1, O1, W2, es, hrun, hst, hgu, hs1, _, hA1, hh1⟩ := hand_value (k := k) (rest := [1, 2]) hC hk ho.1 (hg _).1 hp0 e0 hA hh hr
  have hblt : bx' < p.W0.heap.size := cell_lt hch
  have hcell : W1.cell? ⟨bx', 0, none⟩ = some (.chan (some ch)) := by
    rw [← hch]
    exact World.cell?_of_block (hh.cell hr hblt hV hO)
  have hptr : (Act.mk tmps' p.ds).eval x0 = .pointer (some ⟨bx', 0, none⟩) := by
    have hw1 := hh.wr.rely hh.vis hr
    have hv := evA hw1 hA p.ds x0 hx
    rw [hxe] at hv
    generalize (Act.mk tmps' p.ds).eval x0 = y at hv
    cases hv with
    | ptr o s h => rw [hw1.fn _ _ _ h (hh.since.sub _ _ hbx)]
  have hr0 := hld _ _ W1 _ hptr hcell
  rw [hrun] at hr0
  simp only [Result.ok.injEq, Next.value.injEq] at hr0
  obtain ⟨rfl, rfl⟩ := hr0
  refine ⟨_, _, _, _, hst, hgu, Co.step rfl fun W3 hr3 => ?_⟩
  obtain ⟨v', ρ2, O2, W4, es2, hrun2, hst2, hgu2, hs2, hv2, hA2, hh2⟩ := hand_value (k := k) (rest := [2]) (a := a.put o0.dst undef) hC hk ho.2.1 (hg _).2.1 hp1 (by rw [hd.1]; exact e1) (tmps' := ((Act.mk tmps' p.ds).put o0.dst (.chan (some ch))).tmps) hA1 hh1 hr3
  have hpm : ((Act.mk tmps' p.ds).put o0.dst (.chan (some ch))) = ⟨((Act.mk tmps' p.ds).put o0.dst (.chan (some ch))).tmps, p.ds⟩ := put_mk
  rw [← hpm] at hst2
  refine ⟨_, _, _, _, hst2, hgu2, .stop fun W5 hr5 => ?_⟩
  have hszA : tmps'.size = a.tmps.size := hA.1.symm
  have hB : (((Act.mk tmps' p.ds).put o0.dst (.chan (some ch))).put o1.dst v') = ⟨(tmps'.setIfInBounds d0 (.chan (some ch))).setIfInBounds d1 v', p.ds⟩ := by
    rw [hd.1, hd.2]; rfl
  rw [hB]
  have hev0 : (Act.mk ((tmps'.setIfInBounds d0 (.chan (some ch))).setIfInBounds d1 v') p.ds).eval (.tmp d0) = .chan (some ch) := by
    have h1 := hlt.1
    show (((tmps'.setIfInBounds d0 (.chan (some ch))).setIfInBounds d1 v').getD d0 undef) = _
    rw [Array.getD_eq_getD_getElem?, Array.getElem?_setIfInBounds_ne (Ne.symm hne), Array.getElem?_setIfInBounds_self_of_lt (show d0 < tmps'.size by rw [hszA]; exact h1)]
    rfl
  have hev1 : (Act.mk ((tmps'.setIfInBounds d0 (.chan (some ch))).setIfInBounds d1 v') p.ds).eval (.tmp d1) = v' := by
    simp [Act.eval, Array.getD_eq_getD_getElem?, hszA, hlt.2]
  have hkd : p.b.kind ≠ .early := by simpa using hk
  have hfin : Go.Conc.served (G (p.b.at ⟨(tmps'.setIfInBounds d0 (.chan (some ch))).setIfInBounds d1 v', p.ds⟩ (.inRegion ops [2] :: k)) p.cs) undef = G (p.b.at ((Act.mk ((tmps'.setIfInBounds d0 (.chan (some ch))).setIfInBounds d1 v') p.ds).put o2.dst undef) (.inRegion ops [] :: k)) p.cs := by
    rw [served_G]
    simp [ho.2.2]
  refine hstop ρ2 O2 _ v' W5 (fun b b' h => hs2 _ _ (hs1 _ _ (hh.since.sub _ _ h))) hv2 (by
    have e := hA2
    rw [hd.1, hd.2] at e
    exact e) ⟨hh2.wr.rely hh2.vis hr5, hh2.vis, hh2.own, hh2.since.rely hr5⟩ ⟨rfl, fun W6 => ?_⟩ hfin
  rw [stepG_comm (cases := #[scase ch v' (.tuple #[])]) (blocking := true) (shape := .send) (w' := W6) ho.2.2 (hg _).2.2 hkd (by simp [execOp, hs, hev0, hev1, scase])]
  have he : (execOp (Act.mk ((tmps'.setIfInBounds d0 (.chan (some ch))).setIfInBounds d1 v') p.ds).eval o2).events P W6 #[] = #[] := by
    unfold execOp
    simp only [hs]
    rfl
  unfold listed
  rw [he]
  simp [seen]
end
end Go.Proofs.Ytngehfhcnfobbaa
namespace Go.Proofs.Ytngehfhcnfobbaa
open Go Go.Conc

section
variable {P : Program}

/-- The frame from which a goroutine's first call is made. -/
def bornF (P : Program) : Frame := { (default : Frame) with fn := P.funcs.size, defers := [], mode := .panicking [goexitEntry] }

/-- The first step. -/
theorem born_enter {f : FuncId} {cap : Array Value} {fn : Func} {c : Code} (hf : P.funcs[f]? = some fn) (hname : (fn.name == "runtime.NumGoroutine") = false) (hb : fn.body = some c) (W : World) :
    stepG P false (born P { target := .fn (.func f) cap, args := #[] }) W = .go (G ((baseD f).at { tmps := cap ++ Array.replicate (fn.ntmps - cap.size) undef, defers := [] } [.code c]) [bornF P]) W := by
  have h1 : ¬ fn.name = "runtime.NumGoroutine" := by simpa using hname
  rw [← enter_atD cap hf hb]
  simp [born, G, bornF, stepG, unwind, callDeferred, invoke, callFunc, hf, h1, hb, GStep.after, seen_none]

variable {b : Frame} {a : Act} {k : List Item} {cs : List Frame} {w : World} {main : Bool}

/-- The deferred close of a channel. -/
def shutD (ats : Array TypeId) (ty : TypeId) (cb : Array Bool) (ch : Nat) : Deferred := { target := .builtin .close ats ty cb, args := #[.chan (some ch)] }

def cbOf (x : Operand) : Array Bool := (#[x] : Array Operand).map fun | .const _ => true | _ => false

theorem stepG_deferClose {ops : Array Oper} {i : Nat} {rest : List Nat} {o : Oper} {x : Operand} {ats : Array TypeId} {ch : Nat} (ho : ops[i]? = some o) (hw : Region.wanted o (yielded ops a.tmps) = true) (hk : b.kind ≠ .early)
    (hop : o.op = .defer { callee := .builtin .close, args := #[x], argTypes := ats }) (hx : a.eval x = .chan (some ch)) :
    stepG P main (G (b.at a (.inRegion ops (i :: rest) :: k)) cs) w = .go (G (b.at (Act.put ⟨a.tmps, shutD ats o.type (cbOf x) ch :: a.defers⟩ o.dst undef) (.inRegion ops rest :: k)) cs) w #[] := by
  have hr : (execOp a.eval o).run P w = .ok (.defer (shutD ats o.type (cbOf x) ch)) w := by
    unfold execOp
    simp [hop, resolve, shutD, hx, cbOf]
    cases x <;> rfl
  have he : (execOp a.eval o).events P w #[] = #[] := by
    unfold execOp
    simp [hop, resolve]
  have hfin : (b.at ⟨a.tmps, shutD ats o.type (cbOf x) ch :: a.defers⟩ (.inRegion ops (i :: rest) :: k)).finish undef = b.at (Act.put ⟨a.tmps, shutD ats o.type (cbOf x) ch :: a.defers⟩ o.dst undef) (.inRegion ops rest :: k) := by rw [Frame.finish_at, ho]; rfl
  have hk' : (b.kind == CallKind.early) = false := by simpa using hk
  rw [stepG_oper ho hw, ← hfin]
  simp [stepG.apply, hr, he, G, Frame.at, hk', GStep.after, seen_none]

/-- It leaves: from the return on. -/
theorem quits_leave {f : FuncId} {fn : Func} {tmps : Array Value} {todo : List Item} (hf : P.funcs[f]? = some fn) (hr : fn.results = #[]) :
    QuitsD P 2 0 (G { (baseD f).at ⟨tmps, []⟩ todo with mode := .returning } [bornF P]) := by
  refine .inr ⟨rfl, G (bornF P) [], #[], by simp, fun w => ?_, ?_⟩
  · have h1 := results_none hr tmps P w
    have h2 : (results fn tmps).events P w #[] = #[] := events_results_none hr _ _
    simp [G, stepG, unwind, doReturn, Frame.at, baseD, hf, h1, h2, seen, GStep.after, bornF, goexitEntry]
  · refine .inr ⟨rfl, { G (bornF P) [] with status := .finished }, #[], by simp, fun w => ?_, ⟨rfl, rfl⟩⟩
    simp [G, stepG, unwind, bornF, goexitEntry, Frame.catches]
    rfl

/-- It stands at its end, with one close deferred. -/
theorem shuts_of {V : Nat → Prop} {ch : Nat} {Done : List Value → (Nat → Prop) → World → Prop} {ms : List Value} {O : Nat → Prop} {f : FuncId} {fn : Func} {tmps : Array Value} {W : World} {ats : Array TypeId} {ty : TypeId} {cb : Array Bool} (hf : P.funcs[f]? = some fn) (hr : fn.results = #[]) (hq : (P.funcs[f]?).any (·.norace) = false)
    (hD : ∀ W2, Rely V O W W2 → Done ms O W2) : Shuts P V ch Done ms O (G { (baseD f).at ⟨tmps, [shutD ats ty cb ch]⟩ [] with mode := .returning } [bornF P]) W := by
  refine ⟨rfl, rfl, ⟨_, 2, quits_leave (tmps := tmps) (todo := []) hf hr, fun W cap buf s r tm hc => ?_⟩, hD⟩
  have h1 := run_close_open (P := P) ats ty hc
  have h2 := events_close_open (P := P) (es := #[]) ats ty hc
  have h3 : seen P f #[⟨.obj ch, false, true⟩, ⟨.obj ch, true, true⟩] = #[⟨.obj ch, false, true⟩, ⟨.obj ch, true, true⟩] := seen_eq hq (by simp)
  have h4 : (invoke (.builtin .close ats ty cb) #[.chan (some ch)]).runT P W #[] = (.ok (.value (.tuple #[])) (W.setChan ch cap buf true s r tm), #[⟨.obj ch, false, true⟩, ⟨.obj ch, true, true⟩]) := by
    refine Prod.ext ?_ ?_
    · show (Sem.runT P _ W #[]).1 = _
      rw [Sem.runT_fst]
      simp [invoke, builtin, h1, World.setChan]
    · show (Sem.events P _ W #[]) = _
      simp [invoke, builtin, h2]
  rw [stepG_ret rfl]
  show callDeferred P ({ (baseD f).at ⟨tmps, []⟩ [] with mode := .returning }) [bornF P] none (shutD ats ty cb ch) W = _
  unfold callDeferred
  rw [if_neg (by simp [shutD])]
  show GStep.after (seen P f _) _ = _
  simp only [shutD, h4]
  rw [h3]
  rfl
end
end Go.Proofs.Ytngehfhcnfobbaa
