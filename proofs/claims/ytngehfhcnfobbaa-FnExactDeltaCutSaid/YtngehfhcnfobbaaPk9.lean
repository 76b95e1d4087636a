/- Lemmas for it, part 9. No condition. -/
import Derived.Test.YtngehfhcnfobbaaPk8
namespace Go.Proofs.Ytngehfhcnfobbaa
open Go

section
variable {P : Program} {c : Cx} {ρ ρ' : Nat → Nat → Prop} {α β : Type}

/-- A value that bears no address: it is related to itself. -/
def Plain (v : Value) : Prop := ∀ c ρ, VR c ρ v v
/-- A type whose nought bears no address. -/
def ZOk (P : Program) (t : TypeId) : Prop := ∀ i v, P.info? t = some i → i.zero = some v → Plain v

theorem AdR.mono (hs : ∀ b b', ρ b b' → ρ' b b') {a a' : Addr} (h : AdR ρ a a') : AdR ρ' a a' := ⟨hs _ _ h.blk, h.off, h.spot⟩
theorem AdR.add {a a' : Addr} (h : AdR ρ a a') (n : Nat) : AdR ρ (a.add n) (a'.add n) := by
  obtain ⟨b, o, s⟩ := a
  obtain ⟨b', o', s'⟩ := a'
  obtain ⟨h1, h2, h3⟩ := h
  simp only at h1 h2 h3
  subst h2 h3
  by_cases hn : n = 0
  · simp only [Addr.add, hn, if_true]; exact ⟨h1, rfl, rfl⟩
  · simp only [Addr.add, hn, if_false]; exact ⟨h1, rfl, rfl⟩
theorem VR.ptrA {a a' : Addr} (h : AdR ρ a a') : VR c ρ (.pointer (some a)) (.pointer (some a')) := by
  obtain ⟨b, o, s⟩ := a
  obtain ⟨b', o', s'⟩ := a'
  obtain ⟨h1, h2, h3⟩ := h
  simp only at h1 h2 h3
  subst h2 h3
  exact .ptr _ _ h1
theorem VR.sliceA {a a' : Addr} (h : AdR ρ a a') (n m : Nat) : VR c ρ (.slice (some a) n m) (.slice (some a') n m) := by
  obtain ⟨b, o, s⟩ := a
  obtain ⟨b', o', s'⟩ := a'
  obtain ⟨h1, h2, h3⟩ := h
  simp only at h1 h2 h3
  subst h2 h3
  exact .slice _ _ _ _ h1
theorem adR {b b' : Nat} (o : Nat) (s : Option Nat) (h : ρ b b') : AdR ρ ⟨b, o, s⟩ ⟨b', o, s⟩ := ⟨h, rfl, rfl⟩

theorem AR.nil : AR c ρ #[] #[] := ⟨rfl, fun i v v' h => by simp at h⟩
theorem AR.push {xs xs' : Array Value} (h : AR c ρ xs xs') {v v' : Value} (hv : VR c ρ v v') : AR c ρ (xs.push v) (xs'.push v') := by
  refine ⟨by simp [h.1], fun i u u' h1 h2 => ?_⟩
  rw [Array.getElem?_push] at h1 h2
  by_cases hi : i = xs.size
  · rw [if_pos hi] at h1
    rw [if_pos (hi.trans h.1)] at h2
    cases h1; cases h2; exact hv
  · rw [if_neg hi] at h1
    rw [if_neg (fun e => hi (e.trans h.1.symm))] at h2
    exact h.2 i u u' h1 h2
theorem AR.one {v v' : Value} (hv : VR c ρ v v') : AR c ρ #[v] #[v'] := AR.nil.push hv
theorem AR.append {xs xs' ys ys' : Array Value} (h : AR c ρ xs xs') (k : AR c ρ ys ys') : AR c ρ (xs ++ ys) (xs' ++ ys') := by
  refine ⟨by simp [h.1, k.1], fun i u u' h1 h2 => ?_⟩
  rw [Array.getElem?_append] at h1 h2
  by_cases hi : i < xs.size
  · rw [if_pos hi] at h1
    rw [if_pos (h.1 ▸ hi)] at h2
    exact h.2 i u u' h1 h2
  · rw [if_neg hi] at h1
    rw [if_neg (h.1 ▸ hi)] at h2
    rw [← h.1] at h2
    exact k.2 _ u u' h1 h2
theorem AR.extract {xs xs' : Array Value} (h : AR c ρ xs xs') (i j : Nat) : AR c ρ (xs.extract i j) (xs'.extract i j) := by
  refine ⟨by simp [h.1], fun k u u' h1 h2 => ?_⟩
  rw [Array.getElem?_extract] at h1 h2
  rw [h.1] at h1
  split at h1
  · rw [if_pos ‹_›] at h2
    exact h.2 _ u u' h1 h2
  · cases h1
theorem AR.plain {xs : Array Value} (h : ∀ v ∈ xs, Plain v) : AR c ρ xs xs := ⟨rfl, fun i v v' h1 h2 => by
  rw [h1] at h2
  cases h2
  exact h v (Array.mem_of_getElem? h1) c ρ⟩
theorem AR.get? {xs xs' : Array Value} (h : AR c ρ xs xs') (i : Nat) : (xs[i]? = none ∧ xs'[i]? = none) ∨ ∃ v v', xs[i]? = some v ∧ xs'[i]? = some v' ∧ VR c ρ v v' := by
  by_cases hi : i < xs.size
  · have hi' : i < xs'.size := h.1 ▸ hi
    exact .inr ⟨_, _, Array.getElem?_eq_getElem hi, Array.getElem?_eq_getElem hi', h.2 i _ _ (Array.getElem?_eq_getElem hi) (Array.getElem?_eq_getElem hi')⟩
  · have hi' : ¬ i < xs'.size := h.1 ▸ hi
    exact .inl ⟨Array.getElem?_eq_none (by omega), Array.getElem?_eq_none (by omega)⟩
theorem AR.getD {xs xs' : Array Value} (h : AR c ρ xs xs') (i : Nat) : VR c ρ (xs.getD i undef) (xs'.getD i undef) := by
  rcases h.get? i with ⟨h1, h2⟩ | ⟨v, v', h1, h2, h3⟩
  · rw [Array.getD_eq_getD_getElem?, Array.getD_eq_getD_getElem?, h1, h2]; exact .junk _ trivial
  · rw [Array.getD_eq_getD_getElem?, Array.getD_eq_getD_getElem?, h1, h2]; exact h3

/-- The cells of a value that can be laid down. -/
theorem VR.cells {v v' : Value} (h : VR c ρ v v') : AR c ρ v.cells v'.cells := by
  cases h with
  | junk _ h =>
    have e : v'.cells = #[v'] := by
      cases v' <;> first | rfl | exact h.elim
    rw [e]
    exact .one (.junk _ h)
  | tok hk a n m => exact .one (.tok hk a n m)
  | tokc hk r => exact .one (.tokc hk r)
  | agg hx h1 => exact ⟨hx, h1⟩
  | bool b => exact .one (.bool b)
  | int k n => exact .one (.int k n)
  | string s => exact .one (.string s)
  | nilp => exact .one .nilp
  | ptr o s h => exact .one (.ptr o s h)
  | nils n m => exact .one (.nils n m)
  | slice o s n m h => exact .one (.slice o s n m h)
  | void a => exact .one (.void a)
  | nilFunc => exact .one .nilFunc
  | nilIface => exact .one .nilIface
  | func a b c d e => exact .one (.func a b c d e)
  | iface a b => exact .one (.iface a b)
  | tuple a b => exact .one (.tuple a b)

/-! ### what the program tells -/
/-- The same on both sides, out of the program alone. -/
def Same (P : Program) (s : Sem α) (Q : α → Prop) : Prop := ∀ c ρ, Sim P c ρ (fun _ a b => a = b ∧ Q a) s s

theorem Same.sim {s : Sem α} {Q : α → Prop} (h : Same P s Q) : Sim P c ρ (fun _ a b => a = b ∧ Q a) s s := h c ρ
theorem same_typeInfo (t : TypeId) : Same P (typeInfo t) (fun i => P.info? t = some i) := fun c ρ => by
  unfold typeInfo
  refine Sim.bind Sim.program ?_
  rintro ρ1 _ a b ⟨rfl, rfl⟩
  split
  · next i h => exact .pure ⟨rfl, h⟩
  · exact .stuck
theorem same_underlying (t : TypeId) : Same P (underlying t) (fun i => P.underlying t = some i) := fun c ρ => by
  unfold underlying
  refine Sim.bind Sim.program ?_
  rintro ρ1 _ a b ⟨rfl, rfl⟩
  split
  · next i h => exact .pure ⟨rfl, h⟩
  · exact .stuck
theorem same_sizeOf (t : TypeId) : Same P (sizeOf t) (fun n => P.cellsOf t = n) := fun c ρ => by
  unfold sizeOf
  refine Sim.bind (same_typeInfo t).sim ?_
  rintro ρ1 _ a b ⟨rfl, h⟩
  exact .pure ⟨rfl, by simp [Program.cellsOf, h]⟩
theorem same_isAgg (t : TypeId) : Same P (isAgg t) (fun _ => True) := fun c ρ => by
  unfold isAgg
  refine Sim.bind (same_underlying t).sim ?_
  rintro ρ1 _ a b ⟨rfl, h⟩
  split <;> exact .pure ⟨rfl, trivial⟩
theorem same_elemOf (t : TypeId) : Same P (elemOf t) (fun _ => True) := fun c ρ => by
  unfold elemOf
  refine Sim.bind (same_underlying t).sim ?_
  rintro ρ1 _ a b ⟨rfl, h⟩
  split
  · exact .pure ⟨rfl, trivial⟩
  · exact .stuck
theorem same_zeroValue {t : TypeId} (hz : ZOk P t) : Same P (zeroValue t) Plain := fun c ρ => by
  unfold zeroValue
  refine Sim.bind (same_typeInfo t).sim ?_
  rintro ρ1 _ a b ⟨rfl, h⟩
  split
  · next v hv => exact .pure ⟨rfl, hz _ _ h hv⟩
  · exact .halt trivial
theorem Plain.cells {v : Value} (h : Plain v) : AR c ρ v.cells v.cells := (h c ρ).cells

/-! ### what ends the run -/
/-- The lone run alone: it ends in 'Q', or it ends the run, or raises a panic. -/
def Lone (P : Program) (Q : α → Prop) (s : Sem α) : Prop :=
  ∀ w, ∃ (σ : Nat → Question → Nat) (k : Nat) (r : Result α), (∀ τ d, (∀ i q, i < k → τ (d + i) q = σ i q) → s.run P (td w τ d) = tdR r τ (d + k)) ∧
    match r with
    | .ok a _ => Q a
    | .halt h _ => h.dead
/-- It ends the lone run, or raises a panic: whatever the world. -/
abbrev DeadS (P : Program) (s : Sem α) : Prop := Lone P (fun _ => False) s
theorem Sim.dead {R : (Nat → Nat → Prop) → α → β → Prop} {s : Sem α} {s' : Sem β} (h : DeadS P s) : Sim P c ρ R s s' := by
  intro w W es' _ _
  obtain ⟨σ, k, r, h1, h2⟩ := h w
  refine ⟨σ, k, r, h1, ?_⟩
  cases r with
  | ok a w1 => exact h2.elim
  | halt h _ => exact h2
theorem Lone.pure {Q : α → Prop} {a : α} (h : Q a) : Lone P Q (Pure.pure a) := fun w => ⟨fun _ _ => 0, 0, .ok a w, fun _ _ _ => rfl, h⟩
theorem Lone.halt {Q : α → Prop} {h : Halt} (hd : h.dead) : Lone P Q (.halt h) := fun w => ⟨fun _ _ => 0, 0, .halt h w, fun _ _ _ => rfl, hd⟩
theorem Lone.bind {Q : α → Prop} {S : β → Prop} {s : Sem α} {f : α → Sem β} (h : Lone P Q s) (k : ∀ a, Q a → Lone P S (f a)) : Lone P S (s >>= f) := by
  intro w
  obtain ⟨σ, m, r, h0, h1⟩ := h w
  have e1 : ∀ x, (s >>= f).run P x = _ := Sem.run_bind' P s f
  cases r with
  | halt h w1 =>
    refine ⟨σ, m, .halt h w1, fun τ d ht => ?_, h1⟩
    rw [e1, h0 τ d ht]
    rfl
  | ok a w1 =>
    obtain ⟨σ2, m2, r2, k0, k1⟩ := k a h1 w1
    refine ⟨fun i q => if i < m then σ i q else σ2 (i - m) q, m + m2, r2, fun τ d ht => ?_, ?_⟩
    · have q1 : ∀ i q, i < m → τ (d + i) q = σ i q := fun i q hi => (ht i q (by omega)).trans (if_pos hi)
      have q2 : ∀ i q, i < m2 → τ (d + m + i) q = σ2 i q := fun i q hi => by
        have h3 := (ht (m + i) q (by omega)).trans (if_neg (by omega))
        rw [Nat.add_sub_cancel_left] at h3
        rw [Nat.add_assoc]; exact h3
      rw [e1, h0 τ d q1]
      show ((f a).run P (td w1 τ (d + m))) = _
      rw [k0 τ (d + m) q2, Nat.add_assoc]
    · cases r2 with
      | halt h _ => exact k1
      | ok a2 w2 => exact k1
theorem Lone.program : Lone P (fun p => p = P) Go.program := fun w => ⟨fun _ _ => 0, 0, .ok P w, fun _ _ _ => rfl, rfl⟩
theorem Lone.new (o : Obj) : Lone P (fun _ => True) (Go.newObj o) := fun w => ⟨fun _ _ => 0, 0, .ok w.heap.size { w with heap := w.heap.push o }, fun _ _ _ => rfl, trivial⟩
theorem Lone.choose (q : Question) : Lone P (fun _ => True) (Go.choose q) := fun w => by
  by_cases hq : q.forced = true
  · exact ⟨fun _ _ => 0, 0, .ok 0 w, fun τ d _ => by simp only [Go.choose, Sem.run, hq, if_true]; rfl, trivial⟩
  · refine ⟨fun _ _ => 0, 1, .ok (q.cut 0) w, fun τ d ht => ?_, trivial⟩
    have h3 : τ d q = 0 := ht 0 q (by omega)
    simp only [Go.choose, Sem.run, hq, if_false, Bool.false_eq_true]
    show Result.ok (q.cut (τ d q)) _ = _
    rw [h3]; rfl
theorem lone_underlying (t : TypeId) : Lone P (fun _ => True) (underlying t) := by
  unfold underlying
  refine Lone.bind Lone.program ?_
  rintro a rfl
  split
  · exact .pure trivial
  · exact .halt trivial
theorem lone_elemOf (t : TypeId) : Lone P (fun _ => True) (elemOf t) := by
  unfold elemOf
  refine Lone.bind (lone_underlying t) ?_
  rintro a _
  split
  · exact .pure trivial
  · exact .halt trivial
theorem dead_runtimePanic (e : RuntimeError) : DeadS P (runtimePanic e : Sem α) := by
  unfold runtimePanic
  refine Lone.bind Lone.program ?_
  rintro p rfl
  cases e with
  | typeAssertion i c a m =>
    refine Lone.bind (lone_elemOf _) fun t _ => Lone.bind (Q := fun _ => True) ?_ fun _ _ => .halt trivial
    unfold newVar newRow
    exact Lone.bind (Lone.new _) fun _ _ => .pure trivial
  | panicNil =>
    refine Lone.bind (lone_elemOf _) fun t _ => Lone.bind (Q := fun _ => True) ?_ fun _ _ => .halt trivial
    unfold newVar newRow
    exact Lone.bind (Lone.new _) fun _ _ => .pure trivial
  | _ => exact .halt trivial
theorem dead_boundsPanic (k : IntKind) (x y : Int) (code : BoundsCode) : DeadS P (boundsPanic k x y code : Sem α) := by
  unfold boundsPanic
  split
  · exact Lone.bind (Q := fun _ => True) (Lone.bind (f := fun a => Pure.pure (a == 1)) (Lone.choose _) fun _ _ => .pure trivial) fun _ _ => dead_runtimePanic _
  · exact Lone.bind (Q := fun _ => True) (.pure trivial) fun _ _ => dead_runtimePanic _

/-! ### cells -/
theorem Sim.loadA {a a' : Addr} (h : AdR ρ a a') : Sim P c ρ (VR c) (Go.load a) (Go.load a') := by
  obtain ⟨b, o, s⟩ := a
  obtain ⟨b', o', s'⟩ := a'
  obtain ⟨h1, h2, h3⟩ := h
  simp only at h1 h2 h3
  subst h2 h3
  exact .load h1
theorem Sim.storeA {a a' : Addr} (h : AdR ρ a a') {v v' : Value} (hv : VR c ρ v v') : Sim P c ρ (fun _ _ _ => True) (Go.store a v) (Go.store a' v') := by
  obtain ⟨b, o, s⟩ := a
  obtain ⟨b', o', s'⟩ := a'
  obtain ⟨h1, h2, h3⟩ := h
  simp only at h1 h2 h3
  subst h2 h3
  exact .store h1 hv
theorem Sim.frozenA {a a' : Addr} (h : AdR ρ a a') : Sim P c ρ (fun _ x y => y = true → x = true) (Go.frozen a) (Go.frozen a') := by
  obtain ⟨b, o, s⟩ := a
  obtain ⟨b', o', s'⟩ := a'
  obtain ⟨h1, h2, h3⟩ := h
  simp only at h1 h2 h3
  subst h2 h3
  exact .frozen h1
theorem Sim.loadCellsFrom {a a' : Addr} (n : Nat) : ∀ {ρ : Nat → Nat → Prop} (_ : AdR ρ a a') (i : Nat) {acc acc' : Array Value} (_ : AR c ρ acc acc'), Sim P c ρ (AR c) (loadCellsFrom a i n acc) (loadCellsFrom a' i n acc') := by
  induction n with
  | zero => intro ρ h i acc acc' hA; exact .pure hA
  | succ n ih =>
    intro ρ h i acc acc' hA
    unfold Go.loadCellsFrom
    refine Sim.bind (Sim.loadA (h.add i)) ?_
    intro ρ1 hs v v' hv
    exact ih (h.mono hs) (i + 1) ((hA.mono hs).push hv)
theorem Sim.loadCells {a a' : Addr} (h : AdR ρ a a') (n : Nat) : Sim P c ρ (AR c) (loadCells a n) (loadCells a' n) := Sim.loadCellsFrom n h 0 .nil
/-- Lists of values. -/
inductive LR (c : Cx) (ρ : Nat → Nat → Prop) : List Value → List Value → Prop
  | nil : LR c ρ [] []
  | cons {v v' : Value} {l l' : List Value} (hv : VR c ρ v v') (h : LR c ρ l l') : LR c ρ (v :: l) (v' :: l')
theorem LR.mono (hs : ∀ b b', ρ b b' → ρ' b b') {l l' : List Value} (h : LR c ρ l l') : LR c ρ' l l' := by
  induction h with
  | nil => exact .nil
  | cons hv _ ih => exact .cons (hv.mono hs) ih
theorem LR.of : ∀ (l l' : List Value), l.length = l'.length → (∀ (i : Nat) v v', l[i]? = some v → l'[i]? = some v' → VR c ρ v v') → LR c ρ l l'
  | [], [], _, _ => .nil
  | v :: l, v' :: l', h1, h2 => .cons (h2 0 v v' rfl rfl) (LR.of l l' (by simpa using h1) fun i u u' g1 g2 => h2 (i + 1) u u' (by simpa using g1) (by simpa using g2))
theorem AR.list {xs xs' : Array Value} (h : AR c ρ xs xs') : LR c ρ xs.toList xs'.toList := LR.of _ _ (by simpa using h.1) fun i v v' h1 h2 => h.2 i v v' (by simpa using h1) (by simpa using h2)
theorem Sim.storeCells {a a' : Addr} : ∀ {ρ : Nat → Nat → Prop} {l l' : List Value} (_ : LR c ρ l l') (_ : AdR ρ a a') (i : Nat), Sim P c ρ (fun _ _ _ => True) (storeCells a l i) (storeCells a' l' i) := by
  intro ρ l l' h
  induction l generalizing ρ l' with
  | nil => cases h; intro _ _; unfold Go.storeCells; exact .pure trivial
  | cons v l ih =>
    cases h with
    | cons hv h =>
      intro ha i
      unfold Go.storeCells
      refine Sim.bind (Sim.storeA (ha.add i) hv) ?_
      intro ρ1 hs _ _ _
      exact ih (h.mono hs) (ha.mono hs) (i + 1)
theorem Sim.loadVar {a a' : Addr} (h : AdR ρ a a') (t : TypeId) : Sim P c ρ (VR c) (loadVar t a) (loadVar t a') := by
  unfold Go.loadVar
  refine Sim.bind (same_isAgg t).sim ?_
  rintro ρ1 hs b _ ⟨rfl, _⟩
  split
  · refine Sim.bind (same_sizeOf t).sim ?_
    rintro ρ2 hs2 n _ ⟨rfl, _⟩
    refine Sim.bind (Sim.loadCells ((h.mono hs).mono hs2) _) ?_
    rintro ρ3 _ xs xs' hx
    exact .pure (.agg hx.1 hx.2)
  · exact Sim.loadA (h.mono hs)
theorem Sim.storeVar {a a' : Addr} (h : AdR ρ a a') (t : TypeId) {v v' : Value} (hv : VR c ρ v v') : Sim P c ρ (fun _ _ _ => True) (storeVar t a v) (storeVar t a' v') := by
  unfold Go.storeVar
  refine Sim.bind (same_sizeOf t).sim ?_
  rintro ρ1 hs n _ ⟨rfl, _⟩
  have hc := (hv.mono hs).cells
  rw [hc.1]
  split
  · exact .dead (Lone.bind (Q := fun _ => False) (.halt trivial) fun _ h => h.elim)
  · exact Sim.storeCells hc.list (h.mono hs) 0
theorem OR.row {xs xs' : Array Value} (h : AR c ρ xs xs') (e : TypeId) : OR c ρ (.cells xs e) (.cells xs' e) := .cells e h fun o _ h2 => absurd h2 (Nat.not_lt_zero o)
theorem Sim.newRow {xs xs' : Array Value} (h : AR c ρ xs xs') (e : TypeId) : Sim P c ρ AdR (newRow e xs) (newRow e xs') := by
  unfold Go.newRow
  refine Sim.bind (Sim.new (OR.row h e)) ?_
  intro ρ1 _ n n' hn
  exact .pure ⟨hn, rfl, rfl⟩

/-! ### the shapes of values -/
theorem Sim.asIntOf {v v' : Value} (h : VR c ρ v v') : Sim P c ρ (fun _ a b => a = b ∧ v = .int a.1 a.2 ∧ v' = .int a.1 a.2) (asIntOf v) (asIntOf v') := by
  cases h <;> first | exact .stuck | exact .halt trivial | exact .pure ⟨rfl, rfl, rfl⟩
theorem Sim.asInt {v v' : Value} (h : VR c ρ v v') : Sim P c ρ (fun _ a b => a = b) (asInt v) (asInt v') := by
  unfold Go.asInt
  refine Sim.bind (Sim.asIntOf h) ?_
  rintro _ _ a _ ⟨rfl, _⟩
  exact .pure rfl
theorem Sim.asBool {v v' : Value} (h : VR c ρ v v') : Sim P c ρ (fun _ a b => a = b) (asBool v) (asBool v') := by
  cases h <;> first | exact .stuck | exact .pure rfl
theorem Sim.sureAddr {v v' : Value} (h : VR c ρ v v') : Sim P c ρ AdR (Instr.sureAddr v) (Instr.sureAddr v') := by
  cases h <;> first | exact .stuck | exact .pure ⟨‹_›, rfl, rfl⟩
theorem Sim.asAddr {v v' : Value} (h : VR c ρ v v') : Sim P c ρ AdR (asAddr v) (asAddr v') := by
  cases h <;> first | exact .stuck | exact .pure ⟨‹_›, rfl, rfl⟩ | exact Sim.dead (s := runtimePanic .nilDeref) (dead_runtimePanic _)
end
end Go.Proofs.Ytngehfhcnfobbaa
namespace Go.Proofs.Ytngehfhcnfobbaa
open Go

section
variable {P : Program} {c : Cx} {ρ ρ' : Nat → Nat → Prop} {α β : Type}

theorem sim_alloc {elem : TypeId} (hz : ZOk P elem) : Sim P c ρ (VR c) (Instr.alloc elem true (.tuple #[])) (Instr.alloc elem true (.tuple #[])) := by
  unfold Instr.alloc
  refine Sim.bind (same_zeroValue hz).sim ?_
  rintro ρ1 _ z _ ⟨rfl, hp⟩
  refine Sim.bind (Sim.newRow hp.cells elem) ?_
  rintro ρ2 _ a a' ha
  exact .pure (.ptrA ha)

theorem sim_box (elem : TypeId) {v v' : Value} (hv : VR c ρ v v') : Sim P c ρ (VR c) (Instr.box elem v) (Instr.box elem v') := by
  unfold Instr.box
  refine Sim.bind (Sim.newRow hv.cells elem) ?_
  rintro ρ2 _ a a' ha
  exact .pure (.ptrA ha)

theorem AR.fold {l l' : List (Value × Nat)} (h : l.length = l'.length) (hl : ∀ (i : Nat) x x', l[i]? = some x → l'[i]? = some x' → VR c ρ x.1 x'.1 ∧ x.2 = x'.2) (off : Nat) {cs cs' : Array Value} (hc : AR c ρ cs cs') :
    AR c ρ (l.foldl (fun cs (c, j) => cs.setIfInBounds (off + j) c) cs) (l'.foldl (fun cs (c, j) => cs.setIfInBounds (off + j) c) cs') := by
  induction l generalizing l' cs cs' with
  | nil => cases l' with
    | nil => exact hc
    | cons => cases h
  | cons x l ih => cases l' with
    | nil => cases h
    | cons x' l' =>
      obtain ⟨v, j⟩ := x
      obtain ⟨v', j'⟩ := x'
      obtain ⟨h1, h2⟩ := hl 0 _ _ rfl rfl
      simp only at h1 h2
      subst h2
      simp only [List.foldl_cons]
      exact ih (by simpa using h) (fun i x x' g1 g2 => hl (i + 1) x x' (by simpa using g1) (by simpa using g2)) (hc.set _ h1)

/-- Parts by place. -/
inductive PR (c : Cx) (ρ : Nat → Nat → Prop) : List (Nat × Value) → List (Nat × Value) → Prop
  | nil : PR c ρ [] []
  | cons (i : Nat) {v v' : Value} {l l' : List (Nat × Value)} (hv : VR c ρ v v') (h : PR c ρ l l') : PR c ρ ((i, v) :: l) ((i, v') :: l')
theorem PR.mono (hs : ∀ b b', ρ b b' → ρ' b b') {l l' : List (Nat × Value)} (h : PR c ρ l l') : PR c ρ' l l' := by
  induction h with
  | nil => exact .nil
  | cons i hv _ ih => exact .cons i (hv.mono hs) ih

theorem fill_rel (place : Nat → Option (Nat × Nat)) {l l' : List (Nat × Value)} (h : PR c ρ l l') : ∀ {cs cs' : Array Value}, AR c ρ cs cs' →
    (Instr.fill place cs l = none ∧ Instr.fill place cs' l' = none) ∨ ∃ ds ds', Instr.fill place cs l = some ds ∧ Instr.fill place cs' l' = some ds' ∧ AR c ρ ds ds' := by
  induction h with
  | nil => intro cs cs' hc; exact .inr ⟨cs, cs', rfl, rfl, hc⟩
  | cons i hv h ih =>
    intro cs cs' hc
    unfold Instr.fill
    cases place i with
    | none => exact .inl ⟨rfl, rfl⟩
    | some os =>
      obtain ⟨off, size⟩ := os
      have hcl := hv.cells
      simp only [hcl.1, hc.1]
      split
      · exact .inl ⟨rfl, rfl⟩
      · rw [← Array.foldl_toList, ← Array.foldl_toList]
        refine ih (AR.fold (by simp [hcl.1]) (fun k x x' g1 g2 => ?_) off hc)
        simp only [Array.toList_zipIdx, List.getElem?_zipIdx, Array.getElem?_toList] at g1 g2
        obtain ⟨u, hu, rfl⟩ := Option.map_eq_some_iff.1 g1
        obtain ⟨u', hu', rfl⟩ := Option.map_eq_some_iff.1 g2
        exact ⟨hcl.2 k u u' hu hu', rfl⟩

theorem same_mapM {γ δ : Type} {f : γ → Sem δ} (hf : ∀ x, Same P (f x) (fun _ => True)) (xs : Array γ) : Same P (xs.mapM f) (fun _ => True) := by
  rw [Array.mapM_eq_mapM_toList]
  intro c ρ
  refine Sim.map (R := fun _ a b => a = b) ?_ fun ρ1 _ a b h => ⟨by rw [h], trivial⟩
  generalize xs.toList = l
  induction l generalizing ρ with
  | nil => exact .pure rfl
  | cons x l ih =>
    rw [List.mapM_cons]
    refine Sim.bind (hf x).sim ?_
    rintro ρ1 _ a _ ⟨rfl, _⟩
    refine Sim.bind (ih ρ1) ?_
    rintro ρ2 _ b _ rfl
    exact .pure rfl

theorem sim_build {t : TypeId} (hz : ZOk P t) {parts parts' : Array (Nat × Value)} (hp : PR c ρ parts.toList parts'.toList) : Sim P c ρ (VR c) (Instr.build t parts) (Instr.build t parts') := by
  unfold Instr.build
  refine Sim.bind (same_zeroValue hz).sim ?_
  rintro ρ1 h1 z _ ⟨rfl, hpl⟩
  refine Sim.bind (same_underlying t).sim ?_
  rintro ρ2 h2 d _ ⟨rfl, hd⟩
  have hp2 := (hp.mono h1).mono h2
  cases d with
  | struct fields =>
    refine Sim.bind (same_mapM (fun f => ?_) fields).sim ?_
    · intro c ρ
      refine Sim.bind (same_sizeOf _).sim ?_
      rintro ρ1 _ a _ ⟨rfl, _⟩
      exact .pure ⟨rfl, trivial⟩
    rintro ρ3 h3 pl _ ⟨rfl, _⟩
    rcases fill_rel (pl[·]?) (hp2.mono h3) hpl.cells with ⟨e1, e2⟩ | ⟨ds, ds', e1, e2, e3⟩
    · simp only [e1, e2]; exact .stuck
    · simp only [e1, e2]; exact .pure (.agg e3.1 e3.2)
  | array n elem =>
    refine Sim.bind (same_sizeOf _).sim ?_
    rintro ρ3 h3 size _ ⟨rfl, _⟩
    rcases fill_rel (fun i => some (i * size, size)) (hp2.mono h3) hpl.cells with ⟨e1, e2⟩ | ⟨ds, ds', e1, e2, e3⟩
    · simp only [e1, e2]; exact .stuck
    · simp only [e1, e2]; exact .pure (.agg e3.1 e3.2)
  | _ => exact .stuck

theorem Plain.mem {v : Value} (h : Plain v) {u : Value} (hu : u ∈ v.cells) : Plain u := fun c ρ => by
  obtain ⟨i, hi⟩ := Array.mem_iff_getElem?.1 hu
  exact (h.cells (c := c) (ρ := ρ)).2 i u u hi hi
theorem plain_junk : Plain (default : Value) := fun c ρ => by
  show VR c ρ (.bool default) (.bool default)
  exact .bool _
theorem AR.zeros {z : Value} (h : Plain z) (n : Nat) : AR c ρ ((Array.range n).map fun i => z.cells[i % z.cells.size]!) ((Array.range n).map fun i => z.cells[i % z.cells.size]!) := by
  refine AR.plain fun v hv => ?_
  obtain ⟨i, _, rfl⟩ := Array.mem_map.1 hv
  by_cases hi : i % z.cells.size < z.cells.size
  · rw [getElem!_pos z.cells _ hi]
    exact h.mem (Array.getElem_mem hi)
  · rw [getElem!_neg z.cells _ hi]
    exact plain_junk

theorem sim_buildSlice {t : TypeId} (hz : ∀ e, P.underlying t = some (.slice e) → ZOk P e) (len : Nat) {parts parts' : Array (Nat × Value)} (hp : PR c ρ parts.toList parts'.toList) :
    Sim P c ρ (VR c) (Instr.buildSlice t len parts) (Instr.buildSlice t len parts') := by
  unfold Instr.buildSlice
  refine Sim.bind (same_underlying t).sim ?_
  rintro ρ1 h1 d _ ⟨rfl, hd⟩
  cases d with
  | slice elem =>
    refine Sim.bind (same_sizeOf _).sim ?_
    rintro ρ2 h2 size _ ⟨rfl, hsz⟩
    simp only
    split
    · exact .dead (Lone.bind (Q := fun _ => False) (.halt trivial) fun _ h => h.elim)
    · have hp2 := (hp.mono h1).mono h2
      split
      · refine Sim.bind (Sim.pure (R := fun _ a b => a = b ∧ a = (#[] : Array Value)) ⟨rfl, rfl⟩) ?_
        rintro ρ3 h3 z _ ⟨rfl, rfl⟩
        have hz0 : AR c ρ3 ((Array.range (len * size)).map fun x => (#[] : Array Value)[x % (#[] : Array Value).size]!) ((Array.range (len * size)).map fun x => (#[] : Array Value)[x % (#[] : Array Value).size]!) := by
          refine AR.plain fun v hv => ?_
          obtain ⟨i, _, rfl⟩ := Array.mem_map.1 hv
          exact plain_junk
        rcases fill_rel (fun i => some (i * size, size)) (hp2.mono h3) hz0 with ⟨e1, e2⟩ | ⟨ds, ds', e1, e2, e3⟩
        · simp only [e1, e2]; exact .stuck
        · simp only [e1, e2]
          refine Sim.bind (Sim.newRow e3 elem) ?_
          rintro ρ4 _ a a' ha
          exact .pure (.sliceA ha _ _)
      · refine Sim.bind (same_zeroValue (hz _ hd)).sim ?_
        rintro ρ3 h3 z _ ⟨rfl, hpl⟩
        refine Sim.bind (Sim.pure (R := fun _ a b => a = b ∧ a = z.cells) ⟨rfl, rfl⟩) ?_
        rintro ρ4 h4 zz _ ⟨rfl, rfl⟩
        rcases fill_rel (fun i => some (i * size, size)) ((hp2.mono h3).mono h4) (AR.zeros hpl (len * size)) with ⟨e1, e2⟩ | ⟨ds, ds', e1, e2, e3⟩
        · simp only [e1, e2]; exact .stuck
        · simp only [e1, e2]
          refine Sim.bind (Sim.newRow e3 elem) ?_
          rintro ρ5 _ a a' ha
          exact .pure (.sliceA ha _ _)
  | _ => exact .stuck
end
end Go.Proofs.Ytngehfhcnfobbaa
namespace Go.Proofs.Ytngehfhcnfobbaa
open Go

section
variable {P : Program} {c : Cx} {ρ ρ' : Nat → Nat → Prop} {α β : Type}

theorem sim_loadAt (t : TypeId) {v v' : Value} (hv : VR c ρ v v') : Sim P c ρ (VR c) (Instr.loadAt t v) (Instr.loadAt t v') := by
  unfold Instr.loadAt
  exact Sim.bind (Sim.sureAddr hv) fun ρ1 _ a a' ha => Sim.loadVar ha t

theorem sim_storeAt (t : TypeId) {v v' u u' : Value} (hv : VR c ρ v v') (hu : VR c ρ u u') : Sim P c ρ (fun _ _ _ => True) (Instr.storeAt t v u) (Instr.storeAt t v' u') := by
  unfold Instr.storeAt
  exact Sim.bind (Sim.sureAddr hv) fun ρ1 h1 a a' ha => Sim.storeVar ha t (hu.mono h1)

theorem sim_fieldAt {s : TypeId} {k : Nat} (hf : ∀ fs f, P.underlying s = some (.struct fs) → fs[k]? = some f → P.cellsOf f.type ≠ 0) {v v' : Value} (hv : VR c ρ v v') : Sim P c ρ (VR c) (Instr.fieldAt s v k) (Instr.fieldAt s v' k) := by
  unfold Instr.fieldAt
  refine Sim.bind (same_underlying s).sim ?_
  rintro ρ1 h1 d _ ⟨rfl, hd⟩
  cases d with
  | struct fs =>
    cases he : fs[k]? with
    | none => simp only [he]; exact .stuck
    | some f =>
      simp only [he]
      refine Sim.bind (Sim.sureAddr (hv.mono h1)) ?_
      rintro ρ2 h2 a a' ha
      refine Sim.bind (R := AdR) ?_ fun ρ3 _ b b' hb => .pure (.ptrA hb)
      unfold fieldPlace
      refine Sim.bind (same_sizeOf _).sim ?_
      rintro ρ3 h3 n _ ⟨rfl, hn⟩
      have hne : ¬ n = 0 := hn ▸ hf fs f hd he
      rw [if_neg hne, if_neg hne]
      exact .pure ((ha.mono h3).add _)
  | _ => exact .stuck

/-- Where a slice begins. -/
inductive OA (ρ : Nat → Nat → Prop) : Option Addr → Option Addr → Prop
  | none : OA ρ none none
  | some {a a' : Addr} (h : AdR ρ a a') : OA ρ (some a) (some a')
theorem OA.mono (hs : ∀ b b', ρ b b' → ρ' b b') {a a' : Option Addr} (h : OA ρ a a') : OA ρ' a a' := by
  cases h with
  | none => exact .none
  | some h => exact .some (h.mono hs)
/-- A slice here stands for a slice there. -/
theorem VR.asSlice {v v' : Value} (h : VR c ρ v v') : (∃ base base' n m, v = .slice base n m ∧ v' = .slice base' n m ∧ (OA ρ base base' ∨ ∃ ad, base = some ad ∧ base' = some ad ∧ n = 0 ∧ m = 0)) ∨ ∀ base n m, v ≠ .slice base n m := by
  cases h with
  | nils n m => exact .inl ⟨none, none, n, m, rfl, rfl, .inl .none⟩
  | slice o s n m h => exact .inl ⟨_, _, n, m, rfl, rfl, .inl (.some (adR o s h))⟩
  | void a => exact .inl ⟨some a, some a, 0, 0, rfl, rfl, .inr ⟨a, rfl, rfl, rfl, rfl⟩⟩
  | _ => exact .inr fun _ _ _ e => by cases e
theorem OA.slice {a a' : Option Addr} (h : OA ρ a a') (n m : Nat) : VR c ρ (.slice a n m) (.slice a' n m) := by
  cases h with
  | none => exact .nils _ _
  | some h => exact .sliceA h _ _
theorem sim_indexAt (t : TypeId) {x x' i i' : Value} (hx : VR c ρ x x') (hi : VR c ρ i i') : Sim P c ρ (VR c) (Instr.indexAt t x i) (Instr.indexAt t x' i') := by
  unfold Instr.indexAt
  refine Sim.bind (Sim.asIntOf hi) ?_
  rintro ρ1 h1 ⟨k, n⟩ _ ⟨rfl, _, _⟩
  refine Sim.bind (same_underlying t).sim ?_
  rintro ρ2 h2 d _ ⟨rfl, hd⟩
  have hx2 := (hx.mono h1).mono h2
  cases d with
  | array len elem =>
    dsimp only
    refine Sim.bind (Sim.sureAddr hx2) ?_
    rintro ρ3 h3 a a' ha
    show Sim P c _ (VR c) (underlying t >>= _) (underlying t >>= _)
    refine Sim.bind (same_underlying t).sim ?_
    rintro ρ4 h4 d _ ⟨rfl, _⟩
    dsimp only
    split
    · refine Sim.bind (same_sizeOf _).sim ?_
      rintro ρ5 h5 m _ ⟨rfl, _⟩
      exact .pure (.ptrA ((((ha).mono h4).mono h5).add _))
    · (repeat' split) <;> first | exact .halt trivial | exact .dead (dead_boundsPanic _ _ _ _)
  | slice elem =>
    cases hx2 with
    | nils n m =>
      show Sim P c _ (VR c) (underlying t >>= _) (underlying t >>= _)
      refine Sim.bind (same_underlying t).sim ?_
      rintro ρ4 h4 d _ ⟨rfl, _⟩
      exact .dead (dead_boundsPanic _ _ _ _)
    | slice o s n m h =>
      show Sim P c _ (VR c) (underlying t >>= _) (underlying t >>= _)
      refine Sim.bind (same_underlying t).sim ?_
      rintro ρ4 h4 d _ ⟨rfl, _⟩
      dsimp only
      split
      · refine Sim.bind (same_sizeOf _).sim ?_
        rintro ρ5 h5 m _ ⟨rfl, _⟩
        exact .pure (.ptrA (((((adR o s h)).mono h4).mono h5).add _))
      · (repeat' split) <;> first | exact .halt trivial | exact .dead (dead_boundsPanic _ _ _ _)
    | void a =>
      show Sim P c _ (VR c) (underlying t >>= _) (underlying t >>= _)
      refine Sim.bind (same_underlying t).sim ?_
      rintro ρ3 h3 d _ ⟨rfl, _⟩
      dsimp only
      rw [if_neg (by omega)]
      (repeat' split) <;> first | exact .halt trivial | exact .dead (dead_boundsPanic _ _ _ _)
    | _ => exact .dead (Lone.bind (Q := fun _ => False) (.halt trivial) fun _ h => h.elim)
  | _ => exact .dead (Lone.bind (Q := fun _ => False) (.halt trivial) fun _ h => h.elim)

/-- A value that may be left out. -/
inductive OV (c : Cx) (ρ : Nat → Nat → Prop) : Option Value → Option Value → Prop
  | none : OV c ρ none none
  | some {v v' : Value} (h : VR c ρ v v') : OV c ρ (some v) (some v')
theorem OV.mono (hs : ∀ b b', ρ b b' → ρ' b b') {a a' : Option Value} (h : OV c ρ a a') : OV c ρ' a a' := by
  cases h with
  | none => exact .none
  | some h => exact .some (h.mono hs)

theorem sim_sliceBound {v v' : Value} (hv : VR c ρ v v') (y : Nat) (code : BoundsCode) (ρ1 : Nat → Nat → Prop) : Sim P c ρ1 (fun _ a b => a = b ∧ a ≤ y) (Instr.sliceBound v y code) (Instr.sliceBound v' y code) := by
  unfold Instr.sliceBound
  cases hv with
  | int k n =>
    refine Sim.bind (Sim.asIntOf (.int k n)) ?_
    rintro ρ2 h2 ⟨k, n⟩ _ ⟨rfl, _, _⟩
    dsimp only
    split
    · exact .pure ⟨rfl, by omega⟩
    · exact .dead (dead_boundsPanic _ _ _ _)
  | _ => exact .dead (Lone.bind (Q := fun _ => False) (.halt trivial) fun _ h => h.elim)

theorem sim_sliceBounds (isSlice : Bool) (len cap : Nat) {lo lo' hi hi' mx mx' : Option Value} (h1 : OV c ρ lo lo') (h2 : OV c ρ hi hi') (h3 : OV c ρ mx mx') :
    Sim P c ρ (fun _ a b => a = b ∧ (len = 0 → cap = 0 → a = (0, 0, 0))) (Instr.sliceBounds isSlice len cap lo hi mx) (Instr.sliceBounds isSlice len cap lo' hi' mx') := by
  unfold Instr.sliceBounds
  cases h3 with
  | none =>
    refine Sim.bind (R := fun _ a b => a = b ∧ a ≤ cap) (.pure ⟨rfl, Nat.le_refl _⟩) ?_
    rintro ρ1 g1 m _ ⟨rfl, hm⟩
    cases h2 with
    | none =>
      refine Sim.bind (R := fun _ a b => a = b ∧ a ≤ len) (.pure ⟨rfl, Nat.le_refl _⟩) ?_
      rintro ρ2 g2 h _ ⟨rfl, hh⟩
      cases h1 with
      | none =>
        refine Sim.bind (R := fun _ a b => a = b ∧ a ≤ 0) (.pure ⟨rfl, Nat.le_refl _⟩) ?_
        rintro ρ3 g3 l _ ⟨rfl, hl⟩
        exact .pure ⟨rfl, fun e1 e2 => by rw [show m = 0 by omega, show h = 0 by omega, show l = 0 by omega]⟩
      | some hv =>
        refine Sim.bind (sim_sliceBound hv _ _ _) ?_
        rintro ρ3 g3 l _ ⟨rfl, hl⟩
        exact .pure ⟨rfl, fun e1 e2 => by rw [show m = 0 by omega, show h = 0 by omega, show l = 0 by omega]⟩
    | some hw =>
      refine Sim.bind (sim_sliceBound hw _ _ _) ?_
      rintro ρ2 g2 h _ ⟨rfl, hh⟩
      cases h1 with
      | none =>
        refine Sim.bind (R := fun _ a b => a = b ∧ a ≤ 0) (.pure ⟨rfl, Nat.le_refl _⟩) ?_
        rintro ρ3 g3 l _ ⟨rfl, hl⟩
        exact .pure ⟨rfl, fun e1 e2 => by rw [show m = 0 by omega, show h = 0 by omega, show l = 0 by omega]⟩
      | some hv =>
        refine Sim.bind (sim_sliceBound hv _ _ _) ?_
        rintro ρ3 g3 l _ ⟨rfl, hl⟩
        exact .pure ⟨rfl, fun e1 e2 => by rw [show m = 0 by omega, show h = 0 by omega, show l = 0 by omega]⟩
  | some hx =>
    refine Sim.bind (sim_sliceBound hx _ _ _) ?_
    rintro ρ1 g1 m _ ⟨rfl, hm⟩
    cases h2 with
    | none => exact .dead (Lone.bind (Q := fun _ => False) (.halt trivial) fun _ h => h.elim)
    | some hw =>
      refine Sim.bind (sim_sliceBound hw _ _ _) ?_
      rintro ρ2 g2 h _ ⟨rfl, hh⟩
      cases h1 with
      | none =>
        refine Sim.bind (R := fun _ a b => a = b ∧ a ≤ 0) (.pure ⟨rfl, Nat.le_refl _⟩) ?_
        rintro ρ3 g3 l _ ⟨rfl, hl⟩
        exact .pure ⟨rfl, fun e1 e2 => by rw [show m = 0 by omega, show h = 0 by omega, show l = 0 by omega]⟩
      | some hv =>
        refine Sim.bind (sim_sliceBound hv _ _ _) ?_
        rintro ρ3 g3 l _ ⟨rfl, hl⟩
        exact .pure ⟨rfl, fun e1 e2 => by rw [show m = 0 by omega, show h = 0 by omega, show l = 0 by omega]⟩

theorem OA.map {a a' : Option Addr} (h : OA ρ a a') (n : Nat) : OA ρ (a.map (·.add n)) (a'.map (·.add n)) := by
  cases h with
  | none => exact .none
  | some h => exact .some (h.add n)

theorem sim_slice (t : TypeId) {x x' : Value} (hx : VR c ρ x x') {lo lo' hi hi' mx mx' : Option Value} (h1 : OV c ρ lo lo') (h2 : OV c ρ hi hi') (h3 : OV c ρ mx mx') :
    Sim P c ρ (VR c) (Instr.slice t x lo hi mx) (Instr.slice t x' lo' hi' mx') := by
  unfold Instr.slice
  have e3 : mx.isSome = mx'.isSome := by cases h3 <;> rfl
  refine Sim.bind (same_underlying t).sim ?_
  rintro ρ2 g2 d _ ⟨rfl, hd⟩
  have hx2 := hx.mono g2
  cases d with
  | string =>
    cases hx2 with
    | string s =>
      dsimp only
      rw [e3]
      split
      · exact .dead (Lone.bind (Q := fun _ => False) (.halt trivial) fun _ h => h.elim)
      · refine Sim.bind (sim_sliceBounds false s.size s.size (h1.mono g2) (h2.mono g2) .none) ?_
        rintro ρ3 g3 ⟨l, h, m⟩ _ ⟨rfl, _⟩
        exact .pure (.string _)
    | _ => exact .stuck
  | slice elem =>
    have key : ∀ (a a' : Option Addr) (n m : Nat), OA ρ2 a a' → Sim P c ρ2 (VR c)
        (do let (l, h, k) ← Instr.sliceBounds true n m lo hi mx; let size ← sizeOf elem; pure (.slice (if k = l then a else a.map (·.add (l * size))) (h - l) (k - l)))
        (do let (l, h, k) ← Instr.sliceBounds true n m lo' hi' mx'; let size ← sizeOf elem; pure (.slice (if k = l then a' else a'.map (·.add (l * size))) (h - l) (k - l))) := by
      intro a a' n m ha
      refine Sim.bind (sim_sliceBounds true n m (h1.mono g2) (h2.mono g2) (h3.mono g2)) ?_
      rintro ρ3 g3 ⟨l, h, k⟩ _ ⟨rfl, _⟩
      refine Sim.bind (same_sizeOf _).sim ?_
      rintro ρ4 g4 size _ ⟨rfl, _⟩
      have ha4 := (ha.mono g3).mono g4
      split
      · exact .pure (ha4.slice _ _)
      · exact .pure ((ha4.map _).slice _ _)
    cases hx2 with
    | nils n m => exact key none none n m .none
    | slice o s n m h => exact key _ _ n m (.some ⟨h, rfl, rfl⟩)
    | void a =>
      refine Sim.bind (sim_sliceBounds true 0 0 (h1.mono g2) (h2.mono g2) (h3.mono g2)) ?_
      rintro ρ3 g3 ⟨l, h, k⟩ _ ⟨rfl, hz⟩
      obtain ⟨rfl, rfl, rfl⟩ : l = 0 ∧ h = 0 ∧ k = 0 := by
        have := hz rfl rfl
        simp only [Prod.mk.injEq] at this
        exact this
      refine Sim.bind (same_sizeOf _).sim ?_
      rintro ρ4 g4 size _ ⟨rfl, _⟩
      exact .pure (.void a)
    | _ => exact .stuck
  | pointer arr =>
    refine Sim.bind (Sim.asAddr hx2) ?_
    rintro ρ3 g3 a a' ha
    refine Sim.bind (same_underlying arr).sim ?_
    rintro ρ4 g4 d _ ⟨rfl, hd⟩
    cases d with
    | array n elem =>
      refine Sim.bind (sim_sliceBounds false n n (((h1.mono g2).mono g3).mono g4) (((h2.mono g2).mono g3).mono g4) (((h3.mono g2).mono g3).mono g4)) ?_
      rintro ρ5 g5 ⟨l, h, k⟩ _ ⟨rfl, _⟩
      refine Sim.bind (same_sizeOf _).sim ?_
      rintro ρ6 g6 size _ ⟨rfl, _⟩
      have ha6 := ((ha.mono g4).mono g5).mono g6
      split
      · exact .pure (.sliceA ha6 _ _)
      · exact .pure (.sliceA (ha6.add _) _ _)
    | _ => exact .stuck
  | _ => exact .stuck

theorem sim_sliceAt (t : TypeId) {x x' : Value} (hx : VR c ρ x x') {lo lo' hi hi' mx mx' : Option Value} (h1 : OV c ρ lo lo') (h2 : OV c ρ hi hi') (h3 : OV c ρ mx mx') :
    Sim P c ρ (VR c) (Instr.sliceAt t x lo hi mx) (Instr.sliceAt t x' lo' hi' mx') := by
  unfold Instr.sliceAt
  refine Sim.bind (same_underlying t).sim ?_
  rintro ρ2 g2 d _ ⟨rfl, hd⟩
  have hx2 := hx.mono g2
  cases d with
  | array n elem =>
    dsimp only
    refine Sim.bind (Sim.sureAddr hx2) ?_
    rintro ρ4 g4 a a' ha
    refine Sim.bind (sim_sliceBounds false n n ((h1.mono g2).mono g4) ((h2.mono g2).mono g4) ((h3.mono g2).mono g4)) ?_
    rintro ρ5 g5 ⟨l, h, k⟩ _ ⟨rfl, _⟩
    refine Sim.bind (same_sizeOf _).sim ?_
    rintro ρ6 g6 size _ ⟨rfl, _⟩
    have ha6 := (ha.mono g5).mono g6
    dsimp only
    split
    · exact .pure (.sliceA ha6 _ _)
    · exact .pure (.sliceA (ha6.add _) _ _)
  | _ => exact sim_slice t hx2 (h1.mono g2) (h2.mono g2) (h3.mono g2)

theorem sim_extract {v v' : Value} (hv : VR c ρ v v') (k : Nat) : Sim P c ρ (VR c) (Instr.extract v k) (Instr.extract v' k) := by
  cases hv with
  | tuple hx h1 =>
    unfold Instr.extract
    rcases (show AR c ρ _ _ from ⟨hx, h1⟩).get? k with ⟨e1, e2⟩ | ⟨u, u', e1, e2, e3⟩
    · simp only [e1, e2]; exact .stuck
    · simp only [e1, e2]; exact .pure e3
  | junk u h =>
    unfold Instr.extract
    simp only [List.getElem?_toArray, List.getElem?_nil]
    exact .stuck
  | _ => exact .stuck

theorem sim_makeInterface {t : TypeId} (hM : c.M t) {v v' : Value} (hv : VR c ρ v v') : Sim P c ρ (VR c) (Instr.makeInterface t v) (Instr.makeInterface t v') := by
  unfold Instr.makeInterface
  refine Sim.bind (same_underlying t).sim ?_
  rintro ρ2 g2 d _ ⟨rfl, hd⟩
  cases d with
  | interface => exact .stuck
  | _ => exact .pure (.iface hM (hv.mono g2))

theorem sim_makeFunc {f : FuncId} (hT : c.T f) {xs xs' ys ys' : Array Value} (hx : AR c ρ xs xs') (hy : AR c ρ ys ys') : Sim P c ρ (VR c) (Instr.makeFunc (.func f) xs ys) (Instr.makeFunc (.func f) xs' ys') :=
  .pure (.func hT hx.1 hx.2 hy.1 hy.2)

theorem sim_part (t : TypeId) {xs xs' : Array Value} (hx : AR c ρ xs xs') (off : Nat) : Sim P c ρ (VR c) (part t xs off) (part t xs' off) := by
  unfold part
  refine Sim.bind (same_isAgg t).sim ?_
  rintro ρ1 g1 b _ ⟨rfl, _⟩
  split
  · refine Sim.bind (same_sizeOf _).sim ?_
    rintro ρ2 g2 n _ ⟨rfl, _⟩
    have := ((hx.mono g1).mono g2).extract off (off + n)
    exact .pure (.agg this.1 this.2)
  · rcases (hx.mono g1).get? off with ⟨e1, e2⟩ | ⟨u, u', e1, e2, e3⟩
    · simp only [e1, e2]; exact .stuck
    · simp only [e1, e2]; exact .pure e3

theorem sim_index (t : TypeId) {x x' i i' : Value} (hx : VR c ρ x x') (hi : VR c ρ i i') : Sim P c ρ (VR c) (Instr.index t x i) (Instr.index t x' i') := by
  unfold Instr.index
  refine Sim.bind (Sim.asIntOf hi) ?_
  rintro ρ1 h1 ⟨k, n⟩ _ ⟨rfl, _, _⟩
  refine Sim.bind (same_underlying t).sim ?_
  rintro ρ2 h2 d _ ⟨rfl, hd⟩
  have hx2 := (hx.mono h1).mono h2
  cases d with
  | array len elem =>
    cases hx2 with
    | agg hq hr =>
      dsimp only
      split
      · refine Sim.bind (same_sizeOf _).sim ?_
        rintro ρ3 h3 m _ ⟨rfl, _⟩
        exact sim_part elem ((show AR c ρ2 _ _ from ⟨hq, hr⟩).mono h3) _
      · exact .dead (dead_boundsPanic _ _ _ _)
    | _ => exact .stuck
  | string =>
    cases hx2 with
    | string s =>
      dsimp only
      split
      · exact .pure (.int _ _)
      · exact .dead (dead_boundsPanic _ _ _ _)
    | _ => exact .stuck
  | _ => exact .stuck
end
end Go.Proofs.Ytngehfhcnfobbaa
namespace Go.Proofs.Ytngehfhcnfobbaa
open Go

section
variable {P : Program} {c : Cx} {ρ ρ' : Nat → Nat → Prop} {α β : Type}

theorem perform_env (os : Os) : ∃ r, Kernel.perform .env os = .done r ∧ (∀ x, r.1 ≠ .wouldBlock ∨ x) := by
  refine ⟨_, rfl, fun x => .inl (by intro h; cases h)⟩

theorem lone_env : Lone P (fun _ => True) (Go.sys .env) := fun w => by
  obtain ⟨⟨r, os⟩, h1, h2⟩ := perform_env w.os
  refine ⟨fun _ _ => 0, 0, .ok r { w with os := os }, fun τ d _ => ?_, trivial⟩
  have e : (td w τ d).sys .env = (r, td { w with os := os } τ d) := by
    have h1' : Kernel.perform .env (td w τ d).os = .done (r, os) := h1
    unfold World.sys
    rw [h1']
    have hr : r ≠ .wouldBlock := (h2 False).elim id False.elim
    cases r <;> first | rfl | exact absurd rfl hr
  show Result.ok ((td w τ d).sys .env).1 ((td w τ d).sys .env).2 = _
  rw [e]
  rfl

theorem dead_panic (v : Value) : DeadS P (Instr.panic v) := by
  unfold Instr.panic
  cases v with
  | iface t v => exact .halt trivial
  | nilIface =>
    refine Lone.bind (Q := fun _ => True) ?_ fun _ _ => ?_
    · unfold Instr.panicnil
      refine Lone.bind lone_env fun r _ => ?_
      cases r with
      | strings env => exact Lone.bind Lone.program fun _ _ => .pure trivial
      | _ => exact .halt trivial
    · split
      · exact .halt trivial
      · exact dead_runtimePanic _
  | _ => exact .halt trivial

theorem sim_makeSlice {t : TypeId} (hz : ∀ e, P.underlying t = some (.slice e) → ZOk P e) {l l' m m' : Value} (hl : VR c ρ l l') (hm : VR c ρ m m') : Sim P c ρ (VR c) (Instr.makeSlice t l m) (Instr.makeSlice t l' m') := by
  unfold Instr.makeSlice
  refine Sim.bind (same_underlying t).sim ?_
  rintro ρ1 g1 d _ ⟨rfl, hd⟩
  cases d with
  | slice elem =>
    refine Sim.bind (Sim.asInt (hl.mono g1)) ?_
    rintro ρ2 g2 x _ rfl
    refine Sim.bind (Sim.asInt ((hm.mono g1).mono g2)) ?_
    rintro ρ3 g3 y _ rfl
    refine Sim.bind (same_typeInfo elem).sim ?_
    rintro ρ4 g4 i _ ⟨rfl, _⟩
    have fin : ∀ (ρ5 : Nat → Nat → Prop) (n a b : Nat), Sim P c ρ5 (VR c)
        (if n = 0 then do
            let zero ← pure (#[] : Array Value)
            let r ← newRow elem ((Array.range n).map (zero[· % zero.size]!))
            pure (.slice (some r) a b)
          else do
            let z ← zeroValue elem
            let zero ← pure z.cells
            let r ← newRow elem ((Array.range n).map (zero[· % zero.size]!))
            pure (.slice (some r) a b))
        (if n = 0 then do
            let zero ← pure (#[] : Array Value)
            let r ← newRow elem ((Array.range n).map (zero[· % zero.size]!))
            pure (.slice (some r) a b)
          else do
            let z ← zeroValue elem
            let zero ← pure z.cells
            let r ← newRow elem ((Array.range n).map (zero[· % zero.size]!))
            pure (.slice (some r) a b)) := by
      intro ρ5 n a b
      split
      · refine Sim.bind (Sim.pure (R := fun _ a b => a = b ∧ a = (#[] : Array Value)) ⟨rfl, rfl⟩) ?_
        rintro ρ6 h6 z _ ⟨rfl, rfl⟩
        refine Sim.bind (Sim.newRow (AR.plain fun v hv => ?_) elem) ?_
        · obtain ⟨i, _, rfl⟩ := Array.mem_map.1 hv
          exact plain_junk
        rintro ρ7 _ r r' hr
        exact .pure (.sliceA hr _ _)
      · refine Sim.bind (same_zeroValue (hz _ hd)).sim ?_
        rintro ρ6 h6 z _ ⟨rfl, hpl⟩
        refine Sim.bind (Sim.pure (R := fun _ a b => a = b ∧ a = z.cells) ⟨rfl, rfl⟩) ?_
        rintro ρ7 h7 zz _ ⟨rfl, rfl⟩
        refine Sim.bind (Sim.newRow (AR.zeros hpl n) elem) ?_
        rintro ρ8 _ r r' hr
        exact .pure (.sliceA hr _ _)
    dsimp only
    split
    · refine .dead ?_
      split
      · exact Lone.bind (dead_runtimePanic _) fun _ h => h.elim
      · split
        · exact Lone.bind (dead_runtimePanic _) fun _ h => h.elim
        · exact Lone.bind (Lone.choose _) fun _ _ => Lone.bind (dead_runtimePanic _) fun _ h => h.elim
    · refine Sim.bind (R := fun _ _ _ => True) ?_ ?_
      · unfold askRoom
        split
        · exact Sim.mark (.inl rfl)
        · exact .pure trivial
      rintro ρ5 g5 _ _ _
      refine Sim.bind (same_sizeOf _).sim ?_
      rintro ρ6 g6 n _ ⟨rfl, _⟩
      exact fin _ _ _ _
  | _ => exact .stuck

theorem sim_typeAssert {t u : TypeId} (hz : ZOk P u) {ok : Bool} {v v' : Value} (hv : VR c ρ v v') : Sim P c ρ (VR c) (Instr.typeAssert v t u ok) (Instr.typeAssert v' t u ok) := by
  have holds : ∀ (ρ1 : Nat → Nat → Prop) {x x' : Value}, VR c ρ1 x x' → Sim P c ρ1 (VR c) (pure (if ok then .tuple #[x, .bool true] else x)) (pure (if ok then .tuple #[x', .bool true] else x')) := by
    intro ρ1 x x' hx
    refine .pure ?_
    cases ok
    · exact hx
    · have := (AR.one hx).push (.bool (c := c) (ρ := ρ1) true)
      exact .tuple this.1 this.2
  have fails : ∀ (ρ1 : Nat → Nat → Prop) (a b : Option TypeId) (m : String), Sim P c ρ1 (VR c) (do if ok then pure (.tuple #[← zeroValue u, .bool false]) else runtimePanic (.typeAssertion a b u m))
      (do if ok then pure (.tuple #[← zeroValue u, .bool false]) else runtimePanic (.typeAssertion a b u m)) := by
    intro ρ1 a b m
    cases ok
    · exact Sim.dead (s := runtimePanic (.typeAssertion a b u m)) (dead_runtimePanic _)
    · refine Sim.bind (same_zeroValue hz).sim ?_
      rintro ρ6 h6 z _ ⟨rfl, hpl⟩
      have := (AR.one (hpl c ρ6)).push (.bool (c := c) (ρ := ρ6) false)
      exact .pure (.tuple this.1 this.2)
  unfold Instr.typeAssert
  refine Sim.bind (same_underlying u).sim ?_
  rintro ρ1 g1 d _ ⟨rfl, hd⟩
  have hv1 := hv.mono g1
  cases hv1 with
  | nilIface => cases d <;> exact fails _ _ _ _
  | @iface s w w' hM h =>
    cases d with
    | interface want =>
      dsimp only
      refine Sim.bind (same_typeInfo s).sim ?_
      rintro ρ2 g2 i _ ⟨rfl, _⟩
      cases Instr.missingMethod want i.methods with
      | none => exact holds _ (.iface hM (h.mono g2))
      | some m => exact fails _ _ _ _
    | _ =>
      dsimp only
      split
      · exact holds _ h
      · exact fails _ _ _ _
  | _ => cases d <;> exact .stuck

theorem sim_unary (op : UnOp) {v v' : Value} (hv : VR c ρ v v') : Sim P c ρ (VR c) (Op.unary op v) (Op.unary op v') := by
  cases hv <;> cases op <;> first | exact .stuck | exact .halt trivial | exact .pure (.int _ _) | exact .pure (.bool _)

/-! ### numbers -/
theorem sim_int (s : Sem Value) (h : (∃ k n, s = pure (.int k n)) ∨ (∃ b, s = pure (.bool b)) ∨ DeadS P s) : Sim P c ρ (VR c) s s := by
  rcases h with ⟨k, n, rfl⟩ | ⟨b, rfl⟩ | h
  · exact .pure (.int _ _)
  · exact .pure (.bool _)
  · exact .dead h
theorem num_arith (op : BinOp) (k : IntKind) (a b : Int) : Sim P c ρ (VR c) (Op.intArith op k a b) (Op.intArith op k a b) := by
  cases op <;> first | exact .pure (.int _ _) | exact .stuck
theorem num_bits (op : BinOp) (k : IntKind) (a b : Int) : Sim P c ρ (VR c) (Op.intBits op k a b) (Op.intBits op k a b) := by
  cases op <;> first | exact .pure (.int _ _) | exact .stuck
theorem num_cmp (op : BinOp) (a b : Int) : Sim P c ρ (VR c) (Op.intCmp op a b) (Op.intCmp op a b) := by
  cases op <;> first | exact .pure (.bool _) | exact .stuck
theorem num_div (op : BinOp) (k : IntKind) (a b : Int) : Sim P c ρ (VR c) (Op.intDiv op k a b) (Op.intDiv op k a b) := by
  unfold Op.intDiv
  split
  · exact .dead (dead_runtimePanic _)
  · cases op <;> first | exact .pure (.int _ _) | exact .stuck
theorem num_shift (op : BinOp) (k k' : IntKind) (a b : Int) : Sim P c ρ (VR c) (Op.shift op k a k' b) (Op.shift op k a k' b) := by
  unfold Op.shift
  split
  · exact .dead (dead_runtimePanic _)
  · cases op <;> first | exact .pure (.int _ _) | exact .stuck
theorem num_string (op : BinOp) (a b : ByteArray) : Sim P c ρ (VR c) (Op.stringOp op a b) (Op.stringOp op a b) := by
  unfold Op.stringOp
  cases op <;> first | exact .pure (.bool _) | exact .stuck | skip
  dsimp only
  split
  · exact .halt trivial
  · exact .pure (.string _)

/-! ### conversions -/
/-- Conversions that are served: between kinds of numbers; a string; bytes to a string. -/
def CvOk (P : Program) (s d : TypeId) : Prop :=
  ∃ x y, P.underlying s = some x ∧ P.underlying d = some y ∧ (((∃ k, x = .int k) ∧ ∃ k, y = .int k) ∨ (x = .string ∧ y = .string) ∨ ((∃ e, x = .slice e ∧ P.underlying e = some (.int .u8)) ∧ y = .string))

theorem sim_rounds {f f' : Value → ByteArray → Sem (ForInStep ByteArray)} (hf : ∀ (ρ : Nat → Nat → Prop) (v v' : Value) (acc : ByteArray), VR c ρ v v' → Sim P c ρ (fun _ a b => a = b) (f v acc) (f' v' acc)) : ∀ (l l' : List Value) (ρ : Nat → Nat → Prop) (_ : LR c ρ l l') (acc : ByteArray), Sim P c ρ (fun _ a b => a = b) (forIn l acc f) (forIn l' acc f')
  | _, _, _, .nil, _ => .pure rfl
  | _ :: l, _ :: l', ρ, .cons hv h, acc => by
    rw [List.forIn_cons, List.forIn_cons]
    refine Sim.bind (hf ρ _ _ acc hv) ?_
    rintro ρ2 g2 a _ rfl
    cases a with
    | done b => exact .pure rfl
    | yield b => exact sim_rounds hf l l' ρ2 (h.mono g2) b

theorem sim_bytesToString {v v' : Value} (hv : VR c ρ v v') : Sim P c ρ (VR c) (Conv.bytesToString v) (Conv.bytesToString v') := by
  unfold Conv.bytesToString
  cases hv with
  | nils n m => exact .pure (.string _)
  | void a =>
    show Sim P c ρ (VR c) (loadCells a 0 >>= _) (loadCells a 0 >>= _)
    exact Sim.bind (R := fun _ a b => a = #[] ∧ b = #[]) (.pure ⟨rfl, rfl⟩) fun _ _ _ _ e => by
      obtain ⟨rfl, rfl⟩ := e
      exact .pure (.string _)
  | slice o s n m h =>
    dsimp only
    refine Sim.bind (Sim.loadCells (adR o s h) n) ?_
    rintro ρ1 g1 xs xs' hx
    refine Sim.bind (R := fun _ a b => a = b) ?_ fun ρ2 _ a b e => by cases e; exact .pure (.string _)
    rw [← Array.forIn_toList, ← Array.forIn_toList]
    refine sim_rounds (fun ρ v v' acc hv => ?_) _ _ _ hx.list _
    cases hv with
    | int k n => cases k <;> first | exact .pure rfl | exact .stuck
    | _ => exact .stuck
  | _ => exact .stuck
end
end Go.Proofs.Ytngehfhcnfobbaa
