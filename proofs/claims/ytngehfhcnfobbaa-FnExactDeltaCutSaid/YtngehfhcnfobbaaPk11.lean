/- Lemmas for it, part 11. No condition. -/
import Derived.Conc.Own
import Derived.Test.YtngehfhcnfobbaaPk10
namespace Go.Proofs.Ytngehfhcnfobbaa
open Go

section
variable (P : Program) (c : Cx)

/-- What an operation hands on. -/
inductive NR (ρ : Nat → Nat → Prop) : Next → Next → Prop
  | value {v v' : Value} (h : VR c ρ v v') : NR ρ (.value v) (.value v')
  | skip : NR ρ .skip .skip
  | enter {f : FuncId} {xs xs' : Array Value} (hT : c.T f) (hb : ∃ fn, P.funcs[f]? = some fn ∧ fn.body.isSome = true) (h : AR c ρ xs xs') : NR ρ (.enter f xs) (.enter f xs')

/-- The methods of a type are served. -/
def MethOk (t : TypeId) : Prop := ∀ i, P.info? t = some i → ∀ m ∈ i.methods, m.path = #[] ∧ ∃ f pr, m.func = some (f, pr) ∧ c.T f

structure COk : Prop where
  tok : P.funcs[c.K]? = none
  tokT : ¬ c.T c.K
  noCopy : P.noCopyChecker
  glob : ¬ c.Tk → P.globals.size ≤ c.G
  func : ∀ f, c.T f → ∀ ρ xs xs', AR c ρ xs xs' → Sim P c ρ (NR P c) (callFunc f xs) (callFunc f xs')
  meth : ∀ t, c.M t → MethOk P c t

def OdOk : Operand → Prop
  | .tmp _ => True
  | .const v => Plain v
  | .global g => g < c.G
  | .func f => c.T f

def CallOk (k : Call) : Prop :=
  (∀ x ∈ k.args, OdOk c x) ∧
  match k.callee with
  | .value f => OdOk c f
  | .invoke r _ => OdOk c r
  | .builtin .append => AppOk P k.argTypes
  | .builtin .clear => ClrOk P k.argTypes
  | .builtin .len | .builtin .cap | .builtin .copy => True
  | .builtin _ => False

def OpOk : Op → Prop
  | .move x | .assign x => OdOk c x
  | .pick a b d => OdOk c a ∧ OdOk c b ∧ OdOk c d
  | .alloc e => ZOk P e
  | .box _ x => OdOk c x
  | .build t ps => ZOk P t ∧ ∀ p ∈ ps, OdOk c p.2
  | .buildSlice t _ ps => (∀ e, P.underlying t = some (.slice e) → ZOk P e) ∧ ∀ p ∈ ps, OdOk c p.2
  | .load _ x => OdOk c x
  | .store _ x y => OdOk c x ∧ OdOk c y
  | .nilCheck x => ¬ c.J ∧ OdOk c x
  | .binOp op t x y _ => ¬ c.Tk ∧ (op = .eql ∨ op = .neq → P.eqGuardType P.depth t = false ∨ ∃ ms, P.underlying t = some (.interface ms)) ∧ OdOk c x ∧ OdOk c y
  | .unOp _ _ x => OdOk c x
  | .convert s d x => CvK P s d ∧ OdOk c x
  | .makeInterface t x => c.M t ∧ OdOk c x
  | .makeFunc (.func f) xs ys => c.T f ∧ (∀ x ∈ xs, OdOk c x) ∧ ∀ x ∈ ys, OdOk c x
  | .makeSlice t x y => (∀ e, P.underlying t = some (.slice e) → ZOk P e) ∧ OdOk c x ∧ OdOk c y
  | .slice _ x lo hi mx => OdOk c x ∧ (∀ y, lo = some y → OdOk c y) ∧ (∀ y, hi = some y → OdOk c y) ∧ ∀ y, mx = some y → OdOk c y
  | .fieldAddr s x k => (∀ fs f, P.underlying s = some (.struct fs) → fs[k]? = some f → P.cellsOf f.type ≠ 0) ∧ OdOk c x
  | .indexAddr _ x y | .index _ x y => OdOk c x ∧ OdOk c y
  | .typeAssert x _ u _ => ZOk P u ∧ OdOk c x
  | .extract x _ => OdOk c x
  | .call k => CallOk P c k
  | .panic x => OdOk c x
  | _ => False
end

section
variable {P : Program} {c : Cx} {ρ ρ' : Nat → Nat → Prop} {α β : Type}

theorem NR.mono (hs : ∀ b b', ρ b b' → ρ' b b') {n n' : Next} (h : NR P c ρ n n') : NR P c ρ' n n' := by
  cases h with
  | value h => exact .value (h.mono hs)
  | skip => exact .skip
  | enter hT hb h => exact .enter hT hb (h.mono hs)

/-- A function that has a body is entered. -/
theorem sim_callBody {f : FuncId} (hT : c.T f) {fn : Func} (hf : P.funcs[f]? = some fn) (hn : (fn.name == "runtime.NumGoroutine") = false) (hb : fn.body.isSome = true) {xs xs' : Array Value} (hx : AR c ρ xs xs') :
    Sim P c ρ (NR P c) (callFunc f xs) (callFunc f xs') := by
  unfold callFunc
  refine Sim.bind Sim.program ?_
  rintro ρ1 g1 p p' ⟨e1, e2⟩
  subst e1
  subst e2
  have hb' : fn.body.isNone = false := by cases h : fn.body <;> simp_all
  simp only [hf, hn, hb', Bool.false_eq_true, if_false]
  exact .pure (.enter hT ⟨fn, hf, hb⟩ (hx.mono g1))

theorem Lone.ite {Q : α → Prop} {C : Prop} [Decidable C] {x y : Sem α} (h1 : C → Lone P Q x) (h2 : ¬ C → Lone P Q y) : Lone P Q (if C then x else y) := by
  split
  · exact h1 ‹_›
  · exact h2 ‹_›
theorem sim_wrapNil (t : TypeId) (name : String) {v v' : Value} (hv : VR c ρ v v') : Sim P c ρ (VR c) (Builtin.ssaWrapNilChk_ #[t] t #[v, strVal "", strVal name]) (Builtin.ssaWrapNilChk_ #[t] t #[v', strVal "", strVal name]) := by
  unfold Builtin.ssaWrapNilChk_
  cases hv with
  | ptr o s h => exact .pure (.ptr o s h)
  | nilp =>
    refine .dead ?_
    refine Lone.bind (Lone.choose _) fun k _ => ?_
    refine Lone.ite (fun _ => ?_) fun _ => ?_
    · exact Lone.bind (dead_runtimePanic _) fun _ h => h.elim
    · refine Lone.bind (lone_underlying _) fun d _ => ?_
      split
      · refine Lone.bind (Q := fun _ => True) ?_ fun i _ => ?_
        · unfold typeInfo
          refine Lone.bind Lone.program fun p _ => ?_
          split
          · exact .pure trivial
          · exact .halt trivial
        · split
          · split
            · dsimp only
              split
              · exact dead_runtimePanic _
              · exact .halt trivial
            · exact .halt trivial
          · exact .halt trivial
      · exact .halt trivial
  | _ => exact .stuck

theorem sim_receiverAt (t : TypeId) {v v' : Value} (hv : VR c ρ v v') (pr : Bool) (wr : Option String) : Sim P c ρ (VR c) (receiverAt t (.val v) pr wr) (receiverAt t (.val v') pr wr) := by
  unfold receiverAt
  refine Sim.bind (same_underlying t).sim ?_
  rintro ρ1 g1 d _ ⟨rfl, _⟩
  have h1 := hv.mono g1
  have ld : ∀ (elem : TypeId), Sim P c ρ1 (VR c)
      (do
        let ptr ← (Place.val v).get t
        let ptr ← match wr with
          | some name => Builtin.ssaWrapNilChk_ #[t] t #[ptr, strVal "", strVal name]
          | none => pure ptr
        loadVar elem (← asAddr ptr))
      (do
        let ptr ← (Place.val v').get t
        let ptr ← match wr with
          | some name => Builtin.ssaWrapNilChk_ #[t] t #[ptr, strVal "", strVal name]
          | none => pure ptr
        loadVar elem (← asAddr ptr)) := by
    intro elem
    refine Sim.bind (Sim.pure h1) ?_
    rintro ρ2 g2 u u' hu
    cases wr with
    | none => exact Sim.bind (Sim.pure hu) fun ρ3 _ x x' hx => Sim.bind (Sim.asAddr hx) fun ρ4 _ a a' ha => Sim.loadVar ha elem
    | some name => exact Sim.bind (sim_wrapNil t name hu) fun ρ3 _ x x' hx => Sim.bind (Sim.asAddr hx) fun ρ4 _ a a' ha => Sim.loadVar ha elem
  cases d <;> cases pr <;> first | exact ld _ | exact .pure h1 | exact .stuck

theorem sim_method {t : TypeId} (hM : MethOk P c t) {v v' : Value} (hv : VR c ρ v v') (name : String) (k : Nat) :
    Sim P c ρ (fun ρ1 a b => a.1 = b.1 ∧ c.T a.1 ∧ VR c ρ1 a.2 b.2) (method (k + 1) t v name) (method (k + 1) t v' name) := by
  unfold method
  refine Sim.bind (same_typeInfo t).sim ?_
  rintro ρ1 g1 i _ ⟨rfl, hi⟩
  cases hm : i.methods.find? (·.name == name) with
  | none => exact .stuck
  | some m =>
    obtain ⟨hp, f, pr, hf, hT⟩ := hM i hi m (Array.mem_of_find?_eq_some hm)
    dsimp only
    rw [hp, hf]
    refine Sim.bind (R := fun ρ1 a b => a.1 = t ∧ b.1 = t ∧ ∃ u u', a.2 = .val u ∧ b.2 = .val u' ∧ VR c ρ1 u u') (.pure ⟨rfl, rfl, v, v', rfl, rfl, hv.mono g1⟩) ?_
    rintro ρ2 g2 ⟨a1, a2⟩ ⟨b1, b2⟩ ⟨h1, h2, u, u', h3, h4, hu⟩
    simp only at h1 h2 h3 h4
    subst h1 h2 h3 h4
    refine Sim.bind (sim_receiverAt _ hu pr _) ?_
    rintro ρ3 g3 x x' hx
    exact .pure ⟨rfl, hT, hx⟩

theorem AR.cons {v v' : Value} (hv : VR c ρ v v') {xs xs' : Array Value} (h : AR c ρ xs xs') : AR c ρ (#[v] ++ xs) (#[v'] ++ xs') := (AR.one hv).append h

theorem sim_callMethod (hC : COk P c) {v v' : Value} (hv : VR c ρ v v') (name : String) {xs xs' : Array Value} (hx : AR c ρ xs xs') : Sim P c ρ (NR P c) (callMethod v name xs) (callMethod v' name xs') := by
  unfold callMethod
  cases hv with
  | @iface t u u' hM h =>
    dsimp only
    refine Sim.bind Sim.program ?_
    rintro ρ1 g1 p p' ⟨e1, e2⟩
    subst e1
    subst e2
    obtain ⟨k, hk⟩ : ∃ k, p'.types.size + Made.depth = k + 1 := ⟨p'.types.size + 99, rfl⟩
    rw [hk]
    refine Sim.bind (sim_method (hC.meth t hM) (h.mono g1) name k) ?_
    rintro ρ2 g2 ⟨f, r⟩ ⟨f', r'⟩ ⟨e, hT, hr⟩
    simp only at e hT hr
    subst e
    exact hC.func f hT _ _ _ (.cons hr ((hx.mono g1).mono g2))
  | nilIface => exact .dead (dead_runtimePanic _)
  | _ => exact .stuck

/-- What the operands yield on both sides. -/
def EvR (c : Cx) (ρ : Nat → Nat → Prop) (e e' : Operand → Value) : Prop := ∀ x, OdOk c x → VR c ρ (e x) (e' x)
theorem EvR.map {e e' : Operand → Value} (h : EvR c ρ e e') {xs : Array Operand} (hx : ∀ x ∈ xs, OdOk c x) : AR c ρ (xs.map e) (xs.map e') := by
  refine ⟨by simp, fun i v v' h1 h2 => ?_⟩
  rw [Array.getElem?_map] at h1 h2
  obtain ⟨x, hx1, rfl⟩ := Option.map_eq_some_iff.1 h1
  rw [hx1] at h2
  cases h2
  exact h x (hx x (Array.mem_of_getElem? hx1))
theorem EvR.opt {e e' : Operand → Value} (h : EvR c ρ e e') {x : Option Operand} (hx : ∀ y, x = some y → OdOk c y) : OV c ρ (x.map e) (x.map e') := by
  cases x with
  | none => exact .none
  | some y => exact .some (h y (hx y rfl))
theorem EvR.parts {e e' : Operand → Value} (h : EvR c ρ e e') {ps : Array (Nat × Operand)} (hx : ∀ p ∈ ps, OdOk c p.2) : PR c ρ (ps.map fun (i, x) => (i, e x)).toList (ps.map fun (i, x) => (i, e' x)).toList := by
  simp only [Array.toList_map]
  have : ∀ l : List (Nat × Operand), (∀ p ∈ l, OdOk c p.2) → PR c ρ (l.map fun (i, x) => (i, e x)) (l.map fun (i, x) => (i, e' x)) := by
    intro l hl
    induction l with
    | nil => exact .nil
    | cons p l ih => exact .cons p.1 (h p.2 (hl p (by simp))) (ih fun q hq => hl q (by simp [hq]))
  exact this _ fun p hp => hx p (by simpa using hp)

/-- A function that there is none. -/
theorem dead_nobody {f : FuncId} (h : P.funcs[f]? = none) (xs : Array Value) : DeadS P (callFunc f xs) := by
  unfold callFunc
  refine Lone.bind Lone.program ?_
  rintro p rfl
  rw [h]
  exact .halt trivial

theorem sim_value {s s' : Sem Value} (h : Sim P c ρ (VR c) s s') : Sim P c ρ (NR P c) (do pure (.value (← s))) (do pure (.value (← s'))) :=
  Sim.bind h fun _ _ _ _ hab => .pure (.value hab)
theorem sim_unit {s s' : Sem Unit} (h : Sim P c ρ (fun _ _ _ => True) s s') : Sim P c ρ (NR P c) (do s; pure .skip) (do s'; pure .skip) :=
  Sim.bind h fun _ _ _ _ _ => .pure .skip

theorem sim_call (hC : COk P c) {e e' : Operand → Value} (he : EvR c ρ e e') {k : Call} (hk : CallOk P c k) (t : TypeId) : Sim P c ρ (NR P c) (do let d ← resolve e k t; invoke d.target d.args) (do let d ← resolve e' k t; invoke d.target d.args) := by
  obtain ⟨hargs, hcal⟩ := hk
  have hA := he.map hargs
  cases hc : k.callee with
  | value f =>
    rw [hc] at hcal
    have hf := he f hcal
    have hr : ∀ e : Operand → Value, resolve e k t = Deferred.ofValue (e f) (k.args.map e) := fun e => by simp [resolve, hc]
    rw [hr, hr]
    generalize e f = v at hf
    generalize e' f = v' at hf
    cases hf with
    | tok hk a n m =>
      exact .dead (Lone.bind (Q := fun d => ∃ xs, d.target = .fn (.func c.K) xs) (.pure ⟨_, rfl⟩) fun d ⟨xs, hd⟩ => by rw [hd]; exact dead_nobody hC.tok _)
    | tokc hk r =>
      exact .dead (Lone.bind (Q := fun d => ∃ xs, d.target = .fn (.func c.K) xs) (.pure ⟨_, rfl⟩) fun d ⟨xs, hd⟩ => by rw [hd]; exact dead_nobody hC.tok _)
    | nilFunc => exact .dead (Lone.bind (Q := fun d => d.target = .nil) (.pure rfl) fun d hd => by rw [hd]; exact (dead_runtimePanic .nilDeref : DeadS P (runtimePanic .nilDeref : Sem Next)))
    | @func g xs xs' ys ys' hT hx h1 hy h2 =>
      exact hC.func g hT _ _ _ (((show AR c ρ xs xs' from ⟨hx, h1⟩).append hA).append ⟨hy, h2⟩)
    | _ => exact .dead (Lone.bind (Q := fun _ => False) (.halt trivial) fun _ h => h.elim)
  | invoke r name =>
    rw [hc] at hcal
    have hf := he r hcal
    have hr : ∀ e : Operand → Value, resolve e k t = pure { target := .fn (.method name) #[], args := #[e r] ++ k.args.map e } := fun e => by simp [resolve, hc]
    rw [hr, hr]
    refine Sim.bind (R := fun ρ1 a b => a = { target := .fn (.method name) #[], args := #[e r] ++ k.args.map e } ∧ b = { target := .fn (.method name) #[], args := #[e' r] ++ k.args.map e' }) (.pure ⟨rfl, rfl⟩) ?_
    rintro ρ1 g1 _ _ ⟨rfl, rfl⟩
    show Sim P c ρ1 (NR P c) (invoke (.fn (.method name) #[]) (#[e r] ++ k.args.map e)) (invoke (.fn (.method name) #[]) (#[e' r] ++ k.args.map e'))
    unfold invoke
    have e0 : ∀ e : Operand → Value, (#[e r] ++ k.args.map e)[0]? = some (e r) := fun e => by rw [Array.getElem?_append_left (by simp)]; rfl
    have e1 : ∀ e : Operand → Value, (#[e r] ++ k.args.map e).extract 1 (#[e r] ++ k.args.map e).size = k.args.map e := fun e => by
      apply Array.ext'
      simp [List.take_of_length_le]
    simp only [e0, e1]
    exact sim_callMethod hC (hf.mono g1) name (hA.mono g1)
  | builtin b =>
    rw [hc] at hcal
    have hr : ∀ e : Operand → Value, resolve e k t = pure { target := .builtin b k.argTypes t (k.args.map fun | .const _ => true | _ => false), args := k.args.map e } := fun e => by simp only [resolve, hc]; rfl
    rw [hr, hr]
    refine Sim.bind (R := fun ρ1 a b' => a = { target := .builtin b k.argTypes t (k.args.map fun | .const _ => true | _ => false), args := k.args.map e } ∧ b' = { target := .builtin b k.argTypes t (k.args.map fun | .const _ => true | _ => false), args := k.args.map e' }) (.pure ⟨rfl, rfl⟩) ?_
    rintro ρ1 g1 _ _ ⟨rfl, rfl⟩
    have hA1 := hA.mono g1
    cases b with
    | append => exact sim_value (sim_append hcal t hA1)
    | clear => exact sim_value (sim_clear hcal t hA1)
    | len => exact sim_value (sim_len _ t hA1)
    | cap => exact sim_value (sim_cap _ t hA1)
    | copy => exact sim_value (sim_copy _ t hA1)
    | _ => exact hcal.elim

theorem sim_execOp (hC : COk P c) {e e' : Operand → Value} (he : EvR c ρ e e') {o : Oper} (ho : OpOk P c o.op) : Sim P c ρ (NR P c) (execOp e o) (execOp e' o) := by
  unfold execOp
  generalize o.op = p at ho
  cases p with
  | move x => exact .pure (.value (he x ho))
  | assign x => exact .pure (.value (he x ho))
  | pick a b d =>
    refine Sim.bind (Sim.asBool (he a ho.1)) ?_
    rintro ρ1 g1 k _ rfl
    refine .pure (.value ?_)
    split
    · exact (he b ho.2.1).mono g1
    · exact (he d ho.2.2).mono g1
  | alloc t => exact sim_value (sim_alloc ho)
  | box t x => exact sim_value (sim_box t (he x ho))
  | build t ps => exact sim_value (sim_build ho.1 (he.parts ho.2))
  | buildSlice t n ps => exact sim_value (sim_buildSlice ho.1 n (he.parts ho.2))
  | load t x => exact sim_value (sim_loadAt t (he x ho))
  | store t x y => exact sim_unit (sim_storeAt t (he x ho.1) (he y ho.2))
  | nilCheck x =>
    obtain ⟨hj, ho⟩ := ho
    have hx := he x ho
    dsimp only
    generalize e x = v at hx
    generalize e' x = v' at hx
    cases hx with
    | junk u h =>
      cases v' <;> first | exact h.elim | exact .pure (.value (.junk _ h)) | (rename_i a; cases a <;> first | exact h.elim | exact .pure (.value (.junk _ h))) | (rename_i a _ _; cases a <;> first | exact absurd h hj | exact .pure (.value (.junk _ h)))
    | nilp => exact .dead (dead_runtimePanic _)
    | nilIface => exact .dead (dead_runtimePanic _)
    | nilFunc => exact .dead (dead_runtimePanic _)
    | bool b => exact .pure (.value (.bool b))
    | int k n => exact .pure (.value (.int k n))
    | string s => exact .pure (.value (.string s))
    | ptr o s h => exact .pure (.value (.ptr o s h))
    | nils n m => exact .pure (.value (.nils n m))
    | slice o s n m h => exact .pure (.value (.slice o s n m h))
    | void a => exact .pure (.value (.void a))
    | func a b c d e => exact .pure (.value (.func a b c d e))
    | iface a b => exact .pure (.value (.iface a b))
    | agg a b => exact .pure (.value (.agg a b))
    | tuple a b => exact .pure (.value (.tuple a b))
    | tok hk a n m => exact .pure (.value (.tok hk a n m))
    | tokc hk r => exact .pure (.value (.tokc hk r))
  | binOp op t x y u => exact sim_value (sim_binOpG ho.1 hC.noCopy (hC.glob ho.1) op t x y ho.2.1 (he x ho.2.2.1) (he y ho.2.2.2))
  | unOp op t x => exact sim_value (sim_unary op (he x ho))
  | convert s d x => exact sim_value (sim_convert ho.1 (he x ho.2))
  | makeInterface t x => exact sim_value (sim_makeInterface ho.1 (he x ho.2))
  | makeFunc fn xs ys =>
    cases fn with
    | func f => exact sim_value (sim_makeFunc ho.1 (he.map ho.2.1) (he.map ho.2.2))
    | _ => exact ho.elim
  | makeSlice t x y => exact sim_value (sim_makeSlice ho.1 (he x ho.2.1) (he y ho.2.2))
  | slice t x lo hi mx => exact sim_value (sim_sliceAt t (he x ho.1) (he.opt ho.2.1) (he.opt ho.2.2.1) (he.opt ho.2.2.2))
  | fieldAddr s x k => exact sim_value (sim_fieldAt ho.1 (he x ho.2))
  | indexAddr t x y => exact sim_value (sim_indexAt t (he x ho.1) (he y ho.2))
  | index t x y => exact sim_value (sim_index t (he x ho.1) (he y ho.2))
  | typeAssert x t u b => exact sim_value (sim_typeAssert ho.1 (he x ho.2))
  | extract x k => exact sim_value (sim_extract (he x ho) k)
  | call k => exact sim_call hC he ho _
  | panic x => exact sim_value (.dead (dead_panic _))
  | _ => exact ho.elim
end
end Go.Proofs.Ytngehfhcnfobbaa
namespace Go.Proofs.Ytngehfhcnfobbaa
open Go Go.Conc

section
variable (P : Program) (c : Cx)

/-- Code that is served. -/
def CdOk : Code → Prop
  | .skip | .ret | .label _ | .exit _ => True
  | .region _ ops _ => ∀ o ∈ ops, OpOk P c o.op
  | .seq a b => CdOk a ∧ CdOk b
  | .cond x a b => OdOk c x ∧ CdOk a ∧ CdOk b
  | .block _ a | .loop a => CdOk a
  | _ => False

def ItOk : Item → Prop
  | .code a | .inLoop a => CdOk P c a
  | .inBlock _ => True
  | .inRegion ops _ => ∀ o ∈ ops, OpOk P c o.op
  | _ => False

/-- The functions that may be entered bear code that is served; what they hand back stands in slots, or in variables. -/
def FnsOk : Prop := ∀ f fn, c.T f → P.funcs[f]? = some fn → ∀ b, fn.body = some b → CdOk P c b

/-- No call deferred, an ordinary call, nothing to do behind. -/
def NB (d : List Deferred) (k : CallKind) (t : List Item) : Prop := t = [] ∧ d = [] ∧ k = .normal

/-- Frames. 'b': what the company's deferred calls, kind, and what is to do behind (k') are: these do not turn. -/
structure FR (b : List Deferred → CallKind → List Item → Prop) (k' : List Item) (ρ : Nat → Nat → Prop) (fr fr' : Frame) : Prop where
  fn : fr.fn = fr'.fn
  tmps : AR c ρ fr.tmps fr'.tmps
  todo : fr'.todo = fr.todo ++ k'
  ok : ∀ i ∈ fr.todo, ItOk P c i
  ldefers : fr.defers = []
  mode : (fr.mode = .run ∧ fr'.mode = .run) ∨ (fr.mode = .returning ∧ fr'.mode = .returning)
  lkind : fr.kind = .normal
  early : (fr'.kind == .early) = false
  round : fr.roundOf = none ∧ fr'.roundOf = none
  top : b fr'.defers fr'.kind k'
/-- The frames from the top to the lowest one. -/
inductive ST (b0 : List Deferred → CallKind → List Item → Prop) (k' : List Item) (ρ : Nat → Nat → Prop) : Frame → List Frame → Frame → List Frame → Prop
  | bottom {fr fr' : Frame} (h : FR P c b0 k' ρ fr fr') : ST b0 k' ρ fr [] fr' []
  | push {fr fr' f1 f1' : Frame} {l l' : List Frame} (h : FR P c NB [] ρ fr fr') (hl : ST b0 k' ρ f1 l f1' l') (hn : f1.todo ≠ []) : ST b0 k' ρ fr (f1 :: l) fr' (f1' :: l')
end

section
variable {P : Program} {c : Cx} {ρ ρ' : Nat → Nat → Prop} {b0 : List Deferred → CallKind → List Item → Prop}

theorem FR.mono (hs : ∀ b b', ρ b b' → ρ' b b') {b : List Deferred → CallKind → List Item → Prop} {k' : List Item} {fr fr' : Frame} (h : FR P c b k' ρ fr fr') : FR P c b k' ρ' fr fr' := ⟨h.fn, h.tmps.mono hs, h.todo, h.ok, h.ldefers, h.mode, h.lkind, h.early, h.round, h.top⟩
theorem ST.mono (hs : ∀ b b', ρ b b' → ρ' b b') {k' : List Item} {fr fr' : Frame} {l l' : List Frame} (h : ST P c b0 k' ρ fr l fr' l') : ST P c b0 k' ρ' fr l fr' l' := by
  induction h with
  | bottom h => exact .bottom (h.mono hs)
  | push h _ hn ih => exact .push (h.mono hs) ih hn
theorem ST.defers {k' : List Item} {fr fr' : Frame} {l l' : List Frame} (h : ST P c b0 k' ρ fr l fr' l') : ∀ f ∈ l, f.defers = [] := by
  induction h with
  | bottom => intro f hf; cases hf
  | push _ h _ ih =>
    intro f hf
    rcases List.mem_cons.1 hf with rfl | hf
    · cases h with
      | bottom h => exact h.ldefers
      | push h _ _ => exact h.ldefers
    · exact ih f hf
/-- The top frame, with another in its place. -/
theorem ST.top {k' : List Item} {fr fr' : Frame} {l l' : List Frame} (h : ST P c b0 k' ρ fr l fr' l') : ∃ b k1, FR P c b k1 ρ fr fr' ∧ (k1 = [] ∨ k1 = k') ∧ (l = [] → k1 = k') ∧ (l ≠ [] → k1 = []) ∧ ∀ (ρ' : Nat → Nat → Prop) (f1 f1' : Frame), (∀ x y, ρ x y → ρ' x y) → FR P c b k1 ρ' f1 f1' → ST P c b0 k' ρ' f1 l f1' l' := by
  cases h with
  | bottom h => exact ⟨b0, k', h, .inr rfl, fun _ => rfl, fun h => absurd rfl h, fun ρ' f1 f1' _ hf => .bottom hf⟩
  | push h hl hn => exact ⟨NB, [], h, .inl rfl, fun h => (by cases h), fun _ => rfl, fun ρ' f1 f1' hs hf => .push hf (hl.mono hs) hn⟩

theorem mem_seen {p : Program} {fn : FuncId} {es : Array Event} {e : Event} (h : e ∈ seen p fn es) : e ∈ es := by
  unfold seen at h
  revert h
  refine Array.foldl_induction (motive := fun _ (x : Bool × Array Event) => e ∈ x.2 → e ∈ es) (by simp) (fun i x hx => ?_)
  obtain ⟨q, kept⟩ := x
  dsimp only
  split
  · exact hx
  · split
    · exact hx
    · intro hm
      rcases Array.mem_push.1 hm with h | rfl
      · exact hx h
      · exact Array.getElem_mem _

theorem stepG_run {main : Bool} {fr : Frame} {cs : List Frame} {w : World} (h : fr.mode = .run) : stepG P main (G fr cs) w = stepG.exec P main true fr cs none w := by
  unfold stepG G
  simp only [h]
theorem stepG_ret {main : Bool} {fr : Frame} {cs : List Frame} {w : World} (h : fr.mode = .returning) : stepG P main (G fr cs) w = unwind P main fr cs none w := by
  unfold stepG G
  simp only [h]

/-- The lone step ends the run, or raises a panic where no call is deferred. -/
def Doom (callers : List Frame) : GStep → Prop
  | .ended .. => True
  | .go g _ _ => ∃ fr ch, g = G fr callers ∧ fr.mode = .panicking ch ∧ fr.defers = []
  | _ => False

/-- One step on both sides: the lone one (on whatever tape whose first answers are the company's), and the company's. 'cs', 'cs'': the frames below, which are not looked at. -/
def StepR (P : Program) (c : Cx) (b0 : List Deferred → CallKind → List Item → Prop) (k' : List Item) (ρ : Nat → Nat → Prop) (w W : World) (cs cs' : List Frame) (s : World → GStep) (s' : GStep) (callers : List Frame) : Prop :=
  ∃ (σ : Nat → Question → Nat) (k : Nat),
    (∀ τ d, (∀ i q, i < k → τ (d + i) q = σ i q) → Doom callers (s (td w τ d))) ∨
    ∃ fr1 frs1 w1 fr1' frs1' ρ1 W1 es1, (∀ τ d, (∀ i q, i < k → τ (d + i) q = σ i q) → (s (td w τ d)).bare = .go (G fr1 (frs1 ++ cs)) (td w1 τ (d + k))) ∧
      s' = .go (G fr1' (frs1' ++ cs')) W1 es1 ∧ ST P c b0 k' ρ1 fr1 frs1 fr1' frs1' ∧ Gr c ρ w W ρ1 w1 W1 ∧ WR c ρ1 w1 W1 ∧ ∀ e ∈ es1, EvC c ρ1 e

section
variable {w W : World} {cs cs' : List Frame}

/-- A move of control. -/
theorem StepR.move {k' : List Item} {fr fr' : Frame} {frs frs' : List Frame} {s : World → GStep} {s' : GStep} {callers : List Frame} (hw : WR c ρ w W) (h1 : ∀ x, s x = .go (G fr (frs ++ cs)) x) (h2 : s' = .go (G fr' (frs' ++ cs')) W) (hf : ST P c b0 k' ρ fr frs fr' frs') :
    StepR P c b0 k' ρ w W cs cs' s s' callers :=
  ⟨fun _ _ => 0, 0, .inr ⟨fr, frs, w, fr', frs', ρ, W, #[], fun τ d _ => by rw [h1]; rfl, h2, hf, .refl .., hw, fun e he => by simp at he⟩⟩
theorem StepR.ended {k' : List Item} {s : World → GStep} {s' : GStep} {callers : List Frame} (h1 : ∀ x, ∃ o w es, s x = .ended o w es) : StepR P c b0 k' ρ w W cs cs' s s' callers :=
  ⟨fun _ _ => 0, 0, .inl fun τ d _ => by obtain ⟨o, w, es, e⟩ := h1 (td w τ d); rw [e]; trivial⟩

theorem exitTo_sub {id : Nat} : ∀ {k k' : List Item}, exitTo id k = some k' → ∀ i ∈ k', i ∈ k
  | [], _, h => by cases h
  | x :: k, k', h => by
    cases x with
    | inBlock id' =>
      simp only [exitTo] at h
      split at h
      · cases h
        exact fun i hi => List.mem_cons_of_mem _ hi
      · exact fun i hi => List.mem_cons_of_mem _ (exitTo_sub h i hi)
    | _ =>
      simp only [exitTo] at h
      exact fun i hi => List.mem_cons_of_mem _ (exitTo_sub h i hi)

theorem exitTo_app {id : Nat} (k2 : List Item) : ∀ {k k' : List Item}, exitTo id k = some k' → exitTo id (k ++ k2) = some (k' ++ k2)
  | [], _, h => by cases h
  | x :: k, k', h => by
    cases x with
    | inBlock id' =>
      simp only [exitTo, List.cons_append] at h ⊢
      split at h
      · cases h
        rw [if_pos ‹_›]
      · rw [if_neg ‹_›]
        exact exitTo_app k2 h
    | _ =>
      simp only [exitTo, List.cons_append] at h ⊢
      exact exitTo_app k2 h

/-- A frame that runs, among others. -/
def RunG (fn : FuncId) (tmps : Array Value) (todo : List Item) (ds : List Deferred) (kd : CallKind) : Frame := { fn, tmps, todo, defers := ds, mode := .run, kind := kd, roundOf := none }
/-- A frame that runs. -/
def RunF (fn : FuncId) (tmps : Array Value) (todo : List Item) : Frame := { fn, tmps, todo, defers := [], mode := .run, kind := .normal, roundOf := none }

theorem evR_frame (hw : WR c ρ w W) {fn fn' : FuncId} {tmps tmps' : Array Value} (ht : AR c ρ tmps tmps') (todo todo' : List Item) (ds : List Deferred) (kd : CallKind) : EvR c ρ (RunF fn tmps todo).eval (RunG fn' tmps' todo' ds kd).eval := by
  intro x hx
  cases x with
  | tmp t => exact ht.getD t
  | const v => exact hx c ρ
  | global g => exact .ptr _ _ (hw.glob g hx)
  | func f => exact .func (xs := #[]) (xs' := #[]) (ys := #[]) (ys' := #[]) hx rfl (fun i v v' h => by simp at h) rfl (fun i v v' h => by simp at h)

theorem yielded_rel {ops : Array Oper} {tmps tmps' : Array Value} (ht : AR c ρ tmps tmps') (j : Nat) : yielded ops tmps j = yielded ops tmps' j := by
  unfold yielded
  cases ((ops[j]?).bind (·.dst)) with
  | none => rfl
  | some d =>
    simp only [Option.bind_some]
    rcases ht.get? d with ⟨e1, e2⟩ | ⟨v, v', e1, e2, hv⟩
    · rw [e1, e2]
    · rw [e1, e2]
      cases hv with
      | junk u h => cases v' <;> first | rfl | exact h.elim
      | _ => rfl

theorem runF_fr {b : List Deferred → CallKind → List Item → Prop} {k' : List Item} {fn : FuncId} {tmps tmps' : Array Value} (ht : AR c ρ tmps tmps') {todo : List Item} (ho : ∀ i ∈ todo, ItOk P c i) {ds : List Deferred} {kd : CallKind} (he : (kd == .early) = false) (htop : b ds kd k') :
    FR P c b k' ρ (RunF fn tmps todo) (RunG fn tmps' (todo ++ k') ds kd) :=
  ⟨rfl, ht, rfl, ho, rfl, .inl ⟨rfl, rfl⟩, rfl, he, ⟨rfl, rfl⟩, htop⟩

def putT (ops : Array Oper) (i : Nat) (tmps : Array Value) (v : Value) : Array Value := match (ops[i]?).bind (·.dst) with | some d => tmps.setIfInBounds d v | none => tmps

theorem AR.put {tmps tmps' : Array Value} (ht : AR c ρ tmps tmps') {v v' : Value} (hv : VR c ρ v v') (d : Option Nat) :
    AR c ρ (match d with | some d => tmps.setIfInBounds d v | none => tmps) (match d with | some d => tmps'.setIfInBounds d v' | none => tmps') := by
  cases d with
  | none => exact ht
  | some d => exact ht.set d hv

theorem AR.replicate (n : Nat) : AR c ρ (Array.replicate n undef) (Array.replicate n undef) := AR.plain fun v hv => by
  rw [Array.mem_replicate] at hv
  rw [hv.2]
  exact fun c ρ => .junk _ trivial

theorem enter_fr (hF : FnsOk P c) {f : FuncId} (hT : c.T f) (hb : ∃ fn, P.funcs[f]? = some fn ∧ fn.body.isSome = true) {xs xs' : Array Value} (hx : AR c ρ xs xs') : FR P c NB [] ρ (Frame.enter P f xs .normal) (Frame.enter P f xs' .normal) := by
  obtain ⟨fn, hf, hb⟩ := hb
  obtain ⟨bd, hb'⟩ := Option.isSome_iff_exists.1 hb
  refine ⟨rfl, ?_, ?_, ?_, rfl, .inl ⟨rfl, rfl⟩, rfl, rfl, ⟨rfl, rfl⟩, ⟨rfl, rfl, rfl⟩⟩
  · show AR c ρ (xs ++ Array.replicate _ undef) (xs' ++ Array.replicate _ undef)
    rw [hx.1]
    exact hx.append (.replicate _)
  · simp only [List.append_nil]; rfl
  · intro i hi
    simp only [Frame.enter, hf, Option.bind_some, hb', Option.getD_some, List.mem_singleton] at hi
    subst hi
    exact hF f fn hT hf bd hb'

/-- A stack whose top frame runs. -/
theorem ST.run {k' : List Item} {fr fr' : Frame} {frs frs' : List Frame} (h : ST P c b0 k' ρ fr frs fr' frs') (hm : fr.mode = .run) :
    ∃ fn tmps tmps' todo k1 ds kd, fr = RunF fn tmps todo ∧ fr' = RunG fn tmps' (todo ++ k1) ds kd ∧ (kd == .early) = false ∧ AR c ρ tmps tmps' ∧ (∀ i ∈ todo, ItOk P c i) ∧ (frs = [] → k1 = k') ∧ (frs ≠ [] → k1 = []) ∧
      (∀ (ρ' : Nat → Nat → Prop) (t t' : Array Value) (todo' : List Item), (∀ x y, ρ x y → ρ' x y) → AR c ρ' t t' → (∀ i ∈ todo', ItOk P c i) → ST P c b0 k' ρ' (RunF fn t todo') frs (RunG fn t' (todo' ++ k1) ds kd) frs') ∧
      (ST P c b0 k' ρ { RunF fn tmps todo with mode := .returning } frs { RunG fn tmps' (todo ++ k1) ds kd with mode := .returning } frs') := by
  obtain ⟨b, k1, hf, _, hb, hk, hput⟩ := h.top
  obtain ⟨fn, tmps, todo, defers, mode, kind, round⟩ := fr
  obtain ⟨fn', tmps', todo', defers', mode', kind', round'⟩ := fr'
  obtain ⟨h1, h2, h3, h4, h5, h6, h7, h8, ⟨h9, h9'⟩, h10⟩ := hf
  simp only at h1 h2 h3 h4 h5 h6 h7 h8 h9 h9' h10 hm
  subst h1 h3 h5 h7 h9 h9' hm
  rcases h6 with ⟨_, h6⟩ | ⟨h6, _⟩
  · subst h6
    refine ⟨fn, tmps, tmps', todo, k1, defers', kind', rfl, rfl, h8, h2, h4, hb, hk, fun ρ' t t' todo' hs ht ho => hput ρ' _ _ hs (runF_fr ht ho h8 h10), hput ρ _ _ (fun _ _ h => h) ⟨rfl, h2, rfl, h4, rfl, .inr ⟨rfl, rfl⟩, rfl, h8, ⟨rfl, rfl⟩, h10⟩⟩
  · cases h6

theorem step_oper (hC : COk P c) (hF : FnsOk P c) (hw : WR c ρ w W) {k' k1 : List Item} {fn : FuncId} {tmps tmps' : Array Value} {ds : List Deferred} {kd : CallKind} (he : (kd == .early) = false) (ht : AR c ρ tmps tmps') {ops : Array Oper} {i : Nat} {rest : List Nat} {k : List Item} {o : Oper} (ho : ops[i]? = some o)
    (hok : ∀ it ∈ Item.inRegion ops (i :: rest) :: k, ItOk P c it) {frs frs' : List Frame}
    (hput : ∀ (ρ' : Nat → Nat → Prop) (t t' : Array Value) (todo' : List Item), (∀ x y, ρ x y → ρ' x y) → AR c ρ' t t' → (∀ i ∈ todo', ItOk P c i) → ST P c b0 k' ρ' (RunF fn t todo') frs (RunG fn t' (todo' ++ k1) ds kd) frs') :
    StepR P c b0 k' ρ w W cs cs' (fun x => stepG.apply P true (RunF fn tmps (.inRegion ops (i :: rest) :: k)) (frs ++ cs) none (execOp (RunF fn tmps (.inRegion ops (i :: rest) :: k)).eval o) x)
      (stepG.apply P true (RunG fn tmps' (.inRegion ops (i :: rest) :: k ++ k1) ds kd) (frs' ++ cs') none (execOp (RunG fn tmps' (.inRegion ops (i :: rest) :: k ++ k1) ds kd).eval o) W) (frs ++ cs) := by
  have hop : OpOk P c o.op := hok _ List.mem_cons_self o (Array.mem_of_getElem? ho)
  obtain ⟨σ, m, r, h0, h1⟩ := sim_execOp hC (evR_frame hw ht (fn := fn) (fn' := fn) (.inRegion ops (i :: rest) :: k) (.inRegion ops (i :: rest) :: k ++ k1) ds kd) hop w W #[] hw (fun e he => by simp at he)
  have hk : ∀ it ∈ Item.inRegion ops rest :: k, ItOk P c it := fun it hit => by
    rcases List.mem_cons.1 hit with rfl | hit
    · exact hok (.inRegion ops (i :: rest)) List.mem_cons_self
    · exact hok _ (List.mem_cons_of_mem _ hit)
  refine ⟨σ, m, ?_⟩
  cases r with
  | halt h w1 =>
    left
    intro τ d hτ
    have e := h0 τ d hτ
    dsimp only
    unfold stepG.apply
    simp only [if_true, Sem.runT_fst, e, tdR]
    cases h with
    | unsupported u => cases u <;> first | exact h1.elim | trivial
    | panic v => exact ⟨_, _, rfl, rfl, rfl⟩
    | _ => first | exact h1.elim | trivial
  | ok a w1 =>
    right
    obtain ⟨ρ1, b, W1, es1, g1, g2, g3, g4, g5⟩ := h1
    have hev : ∀ e ∈ seen P fn es1 ++ #[], EvC c ρ1 e := fun e he => g4 e (mem_seen (by simpa using he))
    have hkd : (if ((RunG fn tmps' (.inRegion ops (i :: rest) :: k ++ k1) ds kd).kind == CallKind.early) = true then (#[] : Array Event) else es1) = es1 := by
      show (if (kd == CallKind.early) = true then (#[] : Array Event) else es1) = es1
      rw [he]; rfl
    cases g5 with
    | @value v v' hv =>
      refine ⟨RunF fn (putT ops i tmps v) (.inRegion ops rest :: k), frs, w1, RunG fn (putT ops i tmps' v') (.inRegion ops rest :: k ++ k1) ds kd, frs', ρ1, W1, seen P fn es1 ++ #[], fun τ d hτ => ?_, ?_, hput ρ1 _ _ _ g2.sub ((ht.mono g2.sub).put hv ((ops[i]?).bind (·.dst))) hk, g2, g3, hev⟩
      · dsimp only
        unfold stepG.apply
        simp only [if_true, Sem.runT_fst, h0 τ d hτ, tdR]
        rfl
      · unfold stepG.apply
        simp only [if_true, g1, hkd]
        rfl
    | skip =>
      refine ⟨RunF fn (putT ops i tmps undef) (.inRegion ops rest :: k), frs, w1, RunG fn (putT ops i tmps' undef) (.inRegion ops rest :: k ++ k1) ds kd, frs', ρ1, W1, seen P fn es1 ++ #[], fun τ d hτ => ?_, ?_, hput ρ1 _ _ _ g2.sub ((ht.mono g2.sub).put (.junk undef trivial) ((ops[i]?).bind (·.dst))) hk, g2, g3, hev⟩
      · dsimp only
        unfold stepG.apply
        simp only [if_true, Sem.runT_fst, h0 τ d hτ, tdR]
        rfl
      · unfold stepG.apply
        simp only [if_true, g1, hkd]
        rfl
    | @enter f xs xs' hT hb hx =>
      refine ⟨Frame.enter P f xs .normal, RunF fn tmps (.inRegion ops (i :: rest) :: k) :: frs, w1, Frame.enter P f xs' .normal, RunG fn tmps' (.inRegion ops (i :: rest) :: k ++ k1) ds kd :: frs', ρ1, W1, seen P fn es1 ++ #[], fun τ d hτ => ?_, ?_, (.push (enter_fr hF hT hb hx) (hput ρ1 _ _ _ g2.sub (ht.mono g2.sub) hok) (fun h => by cases h)), g2, g3, hev⟩
      · dsimp only
        unfold stepG.apply
        simp only [if_true, Sem.runT_fst, h0 τ d hτ, tdR]
        rfl
      · unfold stepG.apply
        simp only [if_true, g1, hkd]
        rfl

theorem step_run (hC : COk P c) (hF : FnsOk P c) (hw : WR c ρ w W) {main main' : Bool} {k' k1 : List Item} {fn : FuncId} {tmps tmps' : Array Value} {ds : List Deferred} {kd : CallKind} (he : (kd == .early) = false) (ht : AR c ρ tmps tmps') {todo : List Item} (hok : ∀ it ∈ todo, ItOk P c it) {frs frs' : List Frame} (hnil : todo ≠ [] ∨ k1 = [])
    (hput : ∀ (ρ' : Nat → Nat → Prop) (t t' : Array Value) (todo' : List Item), (∀ x y, ρ x y → ρ' x y) → AR c ρ' t t' → (∀ i ∈ todo', ItOk P c i) → ST P c b0 k' ρ' (RunF fn t todo') frs (RunG fn t' (todo' ++ k1) ds kd) frs')
    (ret : ST P c b0 k' ρ { RunF fn tmps todo with mode := .returning } frs { RunG fn tmps' (todo ++ k1) ds kd with mode := .returning } frs') :
    StepR P c b0 k' ρ w W cs cs' (fun x => stepG P main (G (RunF fn tmps todo) (frs ++ cs)) x) (stepG P main' (G (RunG fn tmps' (todo ++ k1) ds kd) (frs' ++ cs')) W) (frs ++ cs) := by
  have e1 : ∀ x, stepG P main (G (RunF fn tmps todo) (frs ++ cs)) x = stepG.exec P main true (RunF fn tmps todo) (frs ++ cs) none x := fun x => stepG_run rfl
  have e2 : stepG P main' (G (RunG fn tmps' (todo ++ k1) ds kd) (frs' ++ cs')) W = stepG.exec P main' true (RunG fn tmps' (todo ++ k1) ds kd) (frs' ++ cs') none W := stepG_run rfl
  simp only [e1, e2]
  have go : ∀ {todo'}, (∀ it ∈ todo', ItOk P c it) → ST P c b0 k' ρ (RunF fn tmps todo') frs (RunG fn tmps' (todo' ++ k1) ds kd) frs' := fun h => hput ρ _ _ _ (fun _ _ h => h) ht h
  cases todo with
  | nil =>
    obtain rfl : k1 = [] := hnil.elim (fun h => absurd rfl h) id
    exact .move hw (fun x => rfl) rfl ret
  | cons it k =>
    have hit := hok it List.mem_cons_self
    have hk : ∀ i ∈ k, ItOk P c i := fun i hi => hok i (List.mem_cons_of_mem _ hi)
    cases it with
    | code a =>
      cases a with
      | skip => exact .move hw (fun x => rfl) rfl (go hk)
      | ret => exact .move hw (fun x => rfl) rfl ret
      | label l => exact .move hw (fun x => rfl) rfl (go hk)
      | exit id =>
        cases he : exitTo id k with
        | none => exact .ended fun x => ⟨_, _, _, by simp only [stepG.exec, RunF, he]; rfl⟩
        | some k2 =>
          have he' := exitTo_app k1 he
          refine .move hw (fun x => ?_) ?_ (go fun i hi => hk i (exitTo_sub he i hi))
          · simp only [stepG.exec, RunF, he]; rfl
          · simp only [stepG.exec, RunG, List.cons_append, he']; rfl
      | seq a b => exact .move hw (fun x => rfl) rfl (go (todo' := .code a :: .code b :: k) fun i hi => by
          rcases List.mem_cons.1 hi with rfl | hi
          · exact hit.1
          · rcases List.mem_cons.1 hi with rfl | hi
            · exact hit.2
            · exact hk i hi)
      | block id a => exact .move hw (fun x => rfl) rfl (go (todo' := .code a :: .inBlock id :: k) fun i hi => by
          rcases List.mem_cons.1 hi with rfl | hi
          · exact hit
          · rcases List.mem_cons.1 hi with rfl | hi
            · trivial
            · exact hk i hi)
      | loop a => exact .move hw (fun x => rfl) rfl (go (todo' := .code a :: .inLoop a :: k) fun i hi => by
          rcases List.mem_cons.1 hi with rfl | hi
          · exact hit
          · rcases List.mem_cons.1 hi with rfl | hi
            · exact hit
            · exact hk i hi)
      | cond x a b =>
        have hv := evR_frame hw ht (fn := fn) (fn' := fn) (.code (.cond x a b) :: k) (.code (.cond x a b) :: k ++ k1) ds kd x hit.1
        generalize hv1 : (RunF fn tmps (.code (.cond x a b) :: k)).eval x = v at hv
        generalize hv2 : (RunG fn tmps' (.code (.cond x a b) :: k ++ k1) ds kd).eval x = v' at hv
        cases hv with
        | bool t =>
          refine .move hw (fun y => ?_) ?_ (go (todo' := .code (if t then a else b) :: k) fun i hi => by
            rcases List.mem_cons.1 hi with rfl | hi
            · show CdOk P c (if t then a else b)
              cases t
              · exact hit.2.2
              · exact hit.2.1
            · exact hk i hi)
          · simp only [stepG.exec, RunF] at hv1 ⊢
            simp only [hv1]; rfl
          · simp only [stepG.exec, RunG, List.cons_append] at hv2 ⊢
            simp only [hv2]; rfl
        | _ => exact .ended fun y => ⟨_, _, _, by
            simp only [stepG.exec, RunF] at hv1 ⊢
            simp only [hv1]; rfl⟩
      | region id ops draw =>
        cases draw with
        | false => exact .move hw (fun x => rfl) rfl (go (todo' := .inRegion ops (List.range ops.size) :: k) fun i hi => by
            rcases List.mem_cons.1 hi with rfl | hi
            · exact hit
            · exact hk i hi)
        | true =>
          obtain ⟨σ, m, r, h0, h1⟩ := Sim.choose (P := P) (c := c) (ρ := ρ) (.order fn id) w W #[] hw (fun e he => by simp at he)
          cases r with
          | halt h w1 =>
            refine ⟨σ, m, .inl fun τ d hτ => ?_⟩
            have := h0 τ d hτ
            simp only [tdR] at this
            simp only [stepG.exec, RunF, Bool.not_true, Bool.false_eq_true, if_false, this]
            trivial
          | ok t w1 =>
            obtain ⟨ρ1, b, W1, es1, g1, g2, g3, g4, rfl⟩ := h1
            have g1' : (choose (.order fn id)).run P W = .ok t W1 := by rw [← Sem.runT_fst P _ W #[], g1]
            refine ⟨σ, m, .inr ⟨RunF fn tmps (.inRegion ops (Region.schedule (P.follows .mixedOrders) ops t) :: k), frs, w1, RunG fn tmps' (.inRegion ops (Region.schedule (P.follows .mixedOrders) ops t) :: k ++ k1) ds kd, frs', ρ1, W1, #[], fun τ d hτ => ?_, ?_, hput ρ1 _ _ _ g2.sub (ht.mono g2.sub) (fun i hi => ?_), g2, g3, fun e he => by simp at he⟩⟩
            · have := h0 τ d hτ
              simp only [tdR] at this
              simp only [stepG.exec, RunF, Bool.not_true, Bool.false_eq_true, if_false, this]
              rfl
            · simp only [stepG.exec, RunG, List.cons_append, Bool.not_true, Bool.false_eq_true, if_false, g1']
              rfl
            · rcases List.mem_cons.1 hi with rfl | hi
              · exact hit
              · exact hk i hi
      | _ => exact hit.elim
    | inBlock id => exact .move hw (fun x => rfl) rfl (go hk)
    | inLoop a => exact .move hw (fun x => rfl) rfl (go (todo' := .code a :: .inLoop a :: k) fun i hi => by
        rcases List.mem_cons.1 hi with rfl | hi
        · exact hit
        · rcases List.mem_cons.1 hi with rfl | hi
          · exact hit
          · exact hk i hi)
    | inRegion ops l =>
      cases l with
      | nil => exact .move hw (fun x => rfl) rfl (go hk)
      | cons i rest =>
        have hk2 : ∀ it ∈ Item.inRegion ops rest :: k, ItOk P c it := fun it h => by
          rcases List.mem_cons.1 h with rfl | h
          · exact hit
          · exact hk it h
        have hy : yielded ops tmps' = yielded ops tmps := funext fun j => (yielded_rel ht j).symm
        by_cases hwt : ((ops[i]?).map (Region.wanted · (yielded ops tmps))).getD false = true
        · have hwt' : ((ops[i]?).map (Region.wanted · (yielded ops tmps'))).getD false = true := by
            rw [hy]; exact hwt
          cases ho : ops[i]? with
          | none => rw [ho] at hwt; cases hwt
          | some o =>
            have h := step_oper hC hF hw he ht ho hok hput (cs := cs) (cs' := cs')
            have q1 : ∀ x, stepG.exec P main true (RunF fn tmps (.inRegion ops (i :: rest) :: k)) (frs ++ cs) none x = stepG.apply P true (RunF fn tmps (.inRegion ops (i :: rest) :: k)) (frs ++ cs) none (execOp (RunF fn tmps (.inRegion ops (i :: rest) :: k)).eval o) x := fun x => by
              rw [ho] at hwt
              simp only [stepG.exec, RunF, stepG.oper, Frame.oper?, ho, hwt, if_true]
            have q2 : stepG.exec P main' true (RunG fn tmps' (.inRegion ops (i :: rest) :: k ++ k1) ds kd) (frs' ++ cs') none W = stepG.apply P true (RunG fn tmps' (.inRegion ops (i :: rest) :: k ++ k1) ds kd) (frs' ++ cs') none (execOp (RunG fn tmps' (.inRegion ops (i :: rest) :: k ++ k1) ds kd).eval o) W := by
              rw [ho] at hwt'
              simp only [stepG.exec, RunG, List.cons_append, stepG.oper, Frame.oper?, ho, hwt', if_true]
            simp only [q1, q2]
            exact h
        · have hwt' : ¬ ((ops[i]?).map (Region.wanted · (yielded ops tmps'))).getD false = true := by
            rw [hy]; exact hwt
          refine .move hw (fun x => ?_) ?_ (hput ρ (putT ops i tmps undef) (putT ops i tmps' undef) (.inRegion ops rest :: k) (fun _ _ h => h) (ht.put (.junk undef trivial) ((ops[i]?).bind (·.dst))) hk2)
          · simp only [stepG.exec, RunF, hwt]; rfl
          · simp only [stepG.exec, RunG, List.cons_append, hwt']; rfl
    | _ => exact hit.elim

theorem FR.finish {b : List Deferred → CallKind → List Item → Prop} {k' : List Item} {fr fr' : Frame} (h : FR P c b k' ρ fr fr') (hne : fr.todo ≠ [] ∨ k' = []) {v v' : Value} (hv : VR c ρ v v') : FR P c b k' ρ (fr.finish v) (fr'.finish v') := by
  obtain ⟨fn, tmps, todo, defers, mode, kind, round⟩ := fr
  obtain ⟨fn', tmps', todo', defers', mode', kind', round'⟩ := fr'
  obtain ⟨h1, h2, h3, h4, h5, h6, h7, h8, h9, h10⟩ := h
  simp only at h1 h2 h3 h4 h5 h6 h7 h8 h9 h10 hne
  subst h1 h3
  cases todo with
  | nil =>
    obtain rfl : k' = [] := hne.elim (fun h => absurd rfl h) id
    exact ⟨rfl, h2, rfl, h4, h5, h6, h7, h8, h9, h10⟩
  | cons it k =>
    cases it with
    | inRegion ops l =>
      cases l with
      | nil => exact ⟨rfl, h2, rfl, h4, h5, h6, h7, h8, h9, h10⟩
      | cons i rest =>
        refine ⟨rfl, h2.put hv ((ops[i]?).bind (·.dst)), rfl, fun it hit => ?_, h5, h6, h7, h8, h9, h10⟩
        rcases List.mem_cons.1 hit with rfl | hit
        · exact h4 (.inRegion ops (i :: rest)) List.mem_cons_self
        · exact h4 _ (List.mem_cons_of_mem _ hit)
    | inRangeFunc l => exact (h4 _ List.mem_cons_self).elim
    | beginRound => exact (h4 _ List.mem_cons_self).elim
    | call _ _ _ _ => exact (h4 _ List.mem_cons_self).elim
    | extern _ _ => exact (h4 _ List.mem_cons_self).elim
    | _ => exact ⟨rfl, h2, rfl, h4, h5, h6, h7, h8, h9, h10⟩

theorem sim_results (fn : Func) {tmps tmps' : Array Value} (ht : AR c ρ tmps tmps') : Sim P c ρ (VR c) (results fn tmps) (results fn tmps') := by
  unfold results
  refine Sim.bind (R := AR c) ?_ ?_
  · rw [Array.mapM_eq_mapM_toList, Array.mapM_eq_mapM_toList]
    refine Sim.map (R := LR c) ?_ fun ρ1 _ l l' hl => ⟨?_, fun i v v' h1 h2 => ?_⟩
    · generalize fn.results.toList = l
      induction l generalizing ρ with
      | nil => exact .pure .nil
      | cons x l ih =>
        rw [List.mapM_cons, List.mapM_cons]
        refine Sim.bind (R := VR c) ?_ ?_
        · cases x with
          | tmp t => exact .pure (ht.getD t)
          | cell a t => exact Sim.bind (Sim.asAddr (ht.getD a)) fun ρ1 _ a a' ha => Sim.loadVar ha t
        · rintro ρ1 g1 v v' hv
          refine Sim.bind (ih (ht.mono g1)) ?_
          rintro ρ2 g2 l l' hl
          exact .pure (.cons (hv.mono g2) hl)
    · have : ∀ {l l' : List Value}, LR c ρ1 l l' → l.length = l'.length := by
        intro l l' h
        induction h with
        | nil => rfl
        | cons _ _ ih => simp [ih]
      simpa using this hl
    · have : ∀ {l l' : List Value}, LR c ρ1 l l' → ∀ (i : Nat) v v', l[i]? = some v → l'[i]? = some v' → VR c ρ1 v v' := by
        intro l l' h
        induction h with
        | nil => intro i v v' h; simp at h
        | cons hv _ ih =>
          intro i v v' h1 h2
          cases i with
          | zero => simp at h1 h2; subst h1 h2; exact hv
          | succ i => exact ih i v v' (by simpa using h1) (by simpa using h2)
      exact this hl i v v' (by simpa using h1) (by simpa using h2)
  · rintro ρ1 g1 vs vs' hvs
    refine .pure ?_
    by_cases h : vs.size = 1
    · have h' : vs'.size = 1 := hvs.1 ▸ h
      rw [dif_pos h, dif_pos h']
      exact hvs.2 0 _ _ (Array.getElem?_eq_getElem (by omega)) (Array.getElem?_eq_getElem (by omega))
    · have h' : ¬ vs'.size = 1 := hvs.1 ▸ h
      rw [dif_neg h, dif_neg h']
      exact .tuple hvs.1 hvs.2


theorem step_ret (hw : WR c ρ w W) {main main' : Bool} {k' : List Item} {fr fr' : Frame} (hf : FR P c NB [] ρ fr fr') (hm : fr.mode = .returning) {f1 f1' : Frame} {frs frs' : List Frame} (hl : ST P c b0 k' ρ f1 frs f1' frs') (hne : f1.todo ≠ []) :
    StepR P c b0 k' ρ w W cs cs' (fun x => stepG P main (G fr (f1 :: frs ++ cs)) x) (stepG P main' (G fr' (f1' :: frs' ++ cs')) W) (f1 :: frs ++ cs) := by
  obtain ⟨b, k1, h1, _, _, _, hput⟩ := hl.top
  obtain ⟨fn, tmps, todo, defers, mode, kind, round⟩ := fr
  obtain ⟨fn', tmps', todo', defers', mode', kind', round'⟩ := fr'
  obtain ⟨q1, q2, q3, q4, q5, q6, q7, _, ⟨q8, q8'⟩, q9⟩ := hf
  obtain ⟨_, q10, q11⟩ := q9
  simp only at q1 q2 q3 q4 q5 q6 q7 q8 q8' q10 q11 hm
  subst q1 q5 q7 q8 q8' q10 q11 hm
  rcases q6 with ⟨q6, _⟩ | ⟨_, q6⟩
  · cases q6
  subst q6
  have e1 : ∀ x, stepG P main (G { fn, tmps, todo, defers := [], mode := .returning, kind := .normal, roundOf := none } (f1 :: frs ++ cs)) x = unwind P main { fn, tmps, todo, defers := [], mode := .returning, kind := .normal, roundOf := none } (f1 :: frs ++ cs) none x := fun x => stepG_ret rfl
  have e2 : stepG P main' (G { fn, tmps := tmps', todo := todo', defers := [], mode := .returning, kind := .normal, roundOf := none } (f1' :: frs' ++ cs')) W = unwind P main' { fn, tmps := tmps', todo := todo', defers := [], mode := .returning, kind := .normal, roundOf := none } (f1' :: frs' ++ cs') none W := stepG_ret rfl
  simp only [e1, e2]
  cases hfn : P.funcs[fn]? with
  | none =>
    refine .move (fr := f1.finish (tmps.getD 0 undef)) (fr' := f1'.finish (tmps'.getD 0 undef)) hw (fun x => ?_) ?_ (hput ρ _ _ (fun _ _ h => h) (h1.finish (.inl hne) (q2.getD 0)))
    · simp only [unwind, hfn]; rfl
    · simp only [unwind, hfn]; rfl
  | some f =>
    obtain ⟨σ, m, r, h0, hr⟩ := sim_results (P := P) f q2 w W #[] hw (fun e he => by simp at he)
    cases r with
    | halt h w1 =>
      refine ⟨σ, m, .inl fun τ d hτ => ?_⟩
      have := h0 τ d hτ
      simp only [tdR] at this
      simp only [unwind, hfn, Sem.runT_fst, this]
      cases h <;> trivial
    | ok v w1 =>
      obtain ⟨ρ1, v', W1, es1, g1, g2, g3, g4, hv⟩ := hr
      refine ⟨σ, m, .inr ⟨f1.finish v, frs, w1, f1'.finish v', frs', ρ1, W1, seen P fn es1 ++ #[], fun τ d hτ => ?_, ?_, hput ρ1 _ _ g2.sub ((h1.mono g2.sub).finish (.inl hne) hv), g2, g3, fun e he => g4 e (mem_seen (by simpa using he))⟩⟩
      · have := h0 τ d hτ
        simp only [tdR] at this
        simp only [unwind, hfn, Sem.runT_fst, this]
        rfl
      · simp only [unwind, hfn, g1]
        rfl

/-- ONE STEP, wherever the frames stand, but where the lowest one comes to its end. -/
theorem step_any (hC : COk P c) (hF : FnsOk P c) (hw : WR c ρ w W) {main main' : Bool} {k' : List Item} {fr fr' : Frame} {frs frs' : List Frame} (hl : ST P c b0 k' ρ fr frs fr' frs') (hnot : frs = [] → fr.mode ≠ .returning ∧ (fr.todo ≠ [] ∨ k' = [])) :
    StepR P c b0 k' ρ w W cs cs' (fun x => stepG P main (G fr (frs ++ cs)) x) (stepG P main' (G fr' (frs' ++ cs')) W) (frs ++ cs) := by
  obtain ⟨b, k1, hf, _⟩ := hl.top
  rcases hf.mode with ⟨hm, _⟩ | ⟨hm, _⟩
  · obtain ⟨fn, tmps, tmps', todo, k1, ds, kd, rfl, rfl, he, ht, hok, hb, hk, hput, hret⟩ := hl.run hm
    refine step_run hC hF hw he ht hok ?_ hput hret
    by_cases hfs : frs = []
    · rw [hb hfs]
      exact (hnot hfs).2
    · exact .inr (hk hfs)
  · cases hl with
    | bottom h => exact absurd hm (hnot rfl).1
    | push h hl hn => exact step_ret hw h hm hl hn
end
end
end Go.Proofs.Ytngehfhcnfobbaa
namespace Go.Proofs.Ytngehfhcnfobbaa
open Go Go.Conc

/-! ### a goroutine among others: what it owns, what it sees -/

/-- What the others may do: the blocks that are seen or owned stand; blocks may be added. -/
structure Rely (Vis O : Nat → Prop) (W W1 : World) : Prop where
  keep : ∀ b, Vis b ∨ O b → W1.heap[b]? = W.heap[b]?
  size : W.heap.size ≤ W1.heap.size
  tape : W1.tape = W.tape
  os : W1.os = W.os
  output : W1.output = W.output

/-- What a step may list. -/
def EvO (Vis O : Nat → Prop) (e : Event) : Prop :=
  (∃ a wr, e = ⟨.cell a, wr, false⟩ ∧ (Vis a.block ∨ O a.block) ∧ (wr = true → O a.block)) ∨ (∃ b, e = ⟨.obj b, false, false⟩ ∧ (Vis b ∨ O b)) ∨ e = ⟨.mark .noRoom, false, true⟩ ∨ ∃ f, e = ⟨.mark (.extern f), false, true⟩

/-- What a step may do: what it owns may turn; new blocks are its own. -/
structure Guar (Vis O : Nat → Prop) (W W1 : World) (es : Array Event) (O' : Nat → Prop) : Prop where
  keep : ∀ b, b < W.heap.size → ¬ O b → W1.heap[b]? = W.heap[b]?
  size : W.heap.size ≤ W1.heap.size
  own : ∀ b, O' b ↔ O b ∨ (W.heap.size ≤ b ∧ b < W1.heap.size)
  evs : ∀ e ∈ es, EvO Vis O' e
  tape : W1.tape = W.tape
  os : W1.os = W.os
  output : W1.output = W.output

/-- Where a step leads. -/
structure StN where
  g : Goroutine
  w : World
  es : Array Event
  o : Nat → Prop

/-- A goroutine on its way to a stop, whatever the others do meanwhile. -/
inductive Co (P : Program) (main : Bool) (Vis : Nat → Prop) (Stop : (Nat → Prop) → Goroutine → World → Prop) : (Nat → Prop) → Goroutine → World → Prop
  | stop {O : Nat → Prop} {g : Goroutine} {W : World} (h : ∀ W1, Rely Vis O W W1 → Stop O g W1) : Co P main Vis Stop O g W
  | step' {O : Nat → Prop} {g : Goroutine} {W : World} (hr : g.status = .running) (nx : World → StN)
      (h1 : ∀ W1, Rely Vis O W W1 → stepG P main g W1 = .go (nx W1).g (nx W1).w (nx W1).es ∧ Guar Vis O W1 (nx W1).w (nx W1).es (nx W1).o)
      (h2 : ∀ W1, Rely Vis O W W1 → Co P main Vis Stop (nx W1).o (nx W1).g (nx W1).w) : Co P main Vis Stop O g W

section
variable {P : Program} {main : Bool} {Vis : Nat → Prop} {Stop Stop' : (Nat → Prop) → Goroutine → World → Prop} {O : Nat → Prop} {g : Goroutine} {W W1 : World}

theorem Co.step (hr : g.status = .running) (h : ∀ W1, Rely Vis O W W1 → ∃ g' W2 es O', stepG P main g W1 = .go g' W2 es ∧ Guar Vis O W1 W2 es O' ∧ Co P main Vis Stop O' g' W2) : Co P main Vis Stop O g W := by
  have h' : ∀ W1, ∃ n : StN, Rely Vis O W W1 → stepG P main g W1 = .go n.g n.w n.es ∧ Guar Vis O W1 n.w n.es n.o ∧ Co P main Vis Stop n.o n.g n.w := fun W1 => by
    by_cases hr : Rely Vis O W W1
    · obtain ⟨g', W2, es, O', h1, h2, h3⟩ := h W1 hr
      exact ⟨⟨g', W2, es, O'⟩, fun _ => ⟨h1, h2, h3⟩⟩
    · exact ⟨⟨g, W, #[], O⟩, fun h => absurd h hr⟩
  exact .step' hr (fun W1 => Classical.choose (h' W1)) (fun W1 k => ⟨(Classical.choose_spec (h' W1) k).1, (Classical.choose_spec (h' W1) k).2.1⟩) fun W1 k => (Classical.choose_spec (h' W1) k).2.2
theorem Rely.refl (Vis O : Nat → Prop) (W : World) : Rely Vis O W W := ⟨fun _ _ => rfl, Nat.le_refl _, rfl, rfl, rfl⟩
theorem Rely.trans {W2 : World} (h : Rely Vis O W W1) (k : Rely Vis O W1 W2) : Rely Vis O W W2 :=
  ⟨fun b hb => (k.keep b hb).trans (h.keep b hb), Nat.le_trans h.size k.size, k.tape.trans h.tape, k.os.trans h.os, k.output.trans h.output⟩
theorem Co.rely (h : Co P main Vis Stop O g W) (k : Rely Vis O W W1) : Co P main Vis Stop O g W1 := by
  cases h with
  | stop h => exact .stop fun W2 h2 => h W2 (k.trans h2)
  | step' hr nx h1 h2 => exact .step' hr nx (fun W2 r => h1 W2 (k.trans r)) fun W2 r => h2 W2 (k.trans r)
theorem Co.bind (h : Co P main Vis Stop O g W) (k : ∀ O g W, (∀ W1, Rely Vis O W W1 → Stop O g W1) → Co P main Vis Stop' O g W) : Co P main Vis Stop' O g W := by
  induction h with
  | stop h => exact k _ _ _ h
  | step' hr nx h1 _ ih => exact .step' hr nx h1 ih
end

/-! ### the lone run -/
section
variable {P : Program} {c : Cx} {ρ : Nat → Nat → Prop}

/-- A frame to which nobody comes back: a panic, or a return, into it ends the run. -/
def c0 : Frame := { fn := 0, tmps := #[], todo := [], defers := [{ target := .nil, args := #[] }], mode := .panicking [], kind := .normal, roundOf := none }

theorem stepG_pan {main : Bool} {fr : Frame} {cs : List Frame} {w : World} {ch : List PanicEntry} (h : fr.mode = .panicking ch) : stepG P main (G fr cs) w = unwind P main fr cs none w := by
  unfold stepG G
  simp only [h]

theorem c0_ends {fr : Frame} (h1 : fr.defers = [{ target := .nil, args := #[] }]) {ch : List PanicEntry} (h2 : fr.mode = .panicking ch) (w : World) : ∃ o, step P (lone fr [] w) = .ended o w := by
  have e : stepG P true (G fr []) w = unwind P true fr [] none w := stepG_pan h2
  exact ⟨_, step_lone_ended (by
    show (stepG P true (G fr []) w).bare = _
    rw [e]
    unfold unwind
    rw [h1]
    simp only [callDeferred, h2]
    rfl)⟩

theorem pan_step {fr : Frame} {w : World} {ch : List PanicEntry} (hm : fr.mode = .panicking ch) (hd : fr.defers = []) (f : Frame) (rest : List Frame) :
    (∃ o w1, step P (lone fr (f :: rest) w) = .ended o w1) ∨ step P (lone fr (f :: rest) w) = .next (lone (f.raise ch) rest w) := by
  by_cases hcat : fr.catches P = true
  · left
    exact ⟨_, w, step_lone_ended (by
      show (stepG P true (G fr (f :: rest)) w).bare = _
      rw [stepG_pan hm]
      unfold unwind
      rw [hd]
      simp only [hm, hcat, if_true]
      rfl)⟩
  · right
    refine step_lone_go ?_
    show (stepG P true (G fr (f :: rest)) w).bare = _
    rw [stepG_pan hm]
    unfold unwind
    rw [hd]
    simp only [hm, hcat]
    rfl

theorem lone_frame {fr fr2 : Frame} {cs cs2 : List Frame} {w w2 : World} (h : lone fr cs w = lone fr2 cs2 w2) : fr = fr2 ∧ cs = cs2 ∧ w = w2 := by
  have h1 := congrArg (fun m => (m.gs[0]?).map (·.frame)) h
  have h2 := congrArg (fun m => (m.gs[0]?).map (·.callers)) h
  have h3 := congrArg (fun m => m.world) h
  simp [lone] at h1 h2 h3
  exact ⟨h1, h2, h3⟩

/-- A panic that no call is deferred to meet never comes to the leaving. -/
theorem doomed : ∀ (frs : List Frame) (fr : Frame) (w : World) (ch : List PanicEntry), fr.mode = .panicking ch → fr.defers = [] → (∀ f ∈ frs, f.defers = []) → ∀ N fr2 w', (fr2.mode = .returning ∨ fr2.mode = .run) → runN P N (lone fr (frs ++ [c0]) w) ≠ .next (lone fr2 [c0] w') := by
  intro frs
  induction frs with
  | nil =>
    intro fr w ch hm hd _ N fr2 w' h2 hrun
    cases N with
    | zero =>
      simp only [runN, Stepped.next.injEq] at hrun
      rw [(lone_frame hrun).1] at hm
      rcases h2 with h2 | h2 <;> rw [h2] at hm <;> cases hm
    | succ N =>
      have hrun' : (match step P (lone fr ([] ++ [c0]) w) with | .next m => runN P N m | e => e) = .next (lone fr2 [c0] w') := hrun
      rcases pan_step (P := P) (w := w) hm hd c0 [] with ⟨o, w1, hs⟩ | hs
      · rw [List.nil_append, hs] at hrun'
        cases hrun'
      · rw [List.nil_append, hs] at hrun'
        cases N with
        | zero =>
          simp only [runN, Stepped.next.injEq] at hrun'
          have := (lone_frame hrun').2.1
          cases this
        | succ N =>
          obtain ⟨o, ho⟩ := c0_ends (P := P) (fr := c0.raise ch) rfl (ch := ch ++ []) rfl w
          have hrun2 : (match step P (lone (c0.raise ch) [] w) with | .next m => runN P N m | e => e) = .next (lone fr2 [c0] w') := hrun'
          rw [ho] at hrun2
          cases hrun2
  | cons f frs ih =>
    intro fr w ch hm hd hfs N fr2 w' h2 hrun
    cases N with
    | zero =>
      simp only [runN, Stepped.next.injEq] at hrun
      rw [(lone_frame hrun).1] at hm
      rcases h2 with h2 | h2 <;> rw [h2] at hm <;> cases hm
    | succ N =>
      have hrun' : (match step P (lone fr (f :: (frs ++ [c0])) w) with | .next m => runN P N m | e => e) = .next (lone fr2 [c0] w') := hrun
      rcases pan_step (P := P) (w := w) hm hd f (frs ++ [c0]) with ⟨o, w1, hs⟩ | hs
      · rw [hs] at hrun'
        cases hrun'
      · rw [hs] at hrun'
        have hr : ∃ ch', (f.raise ch).mode = .panicking ch' ∧ (f.raise ch).defers = [] := by
          have := hfs f List.mem_cons_self
          unfold Frame.raise
          split
          · exact ⟨_, rfl, this⟩
          · exact ⟨_, rfl, this⟩
        obtain ⟨ch', hm', hd'⟩ := hr
        exact ih _ w ch' hm' hd' (fun g hg => hfs g (List.mem_cons_of_mem _ hg)) N fr2 w' h2 hrun'

theorem WR.rely {Vis O : Nat → Prop} {w W W1 : World} (h : WR c ρ w W) (hv : ∀ b b', ρ b b' → Vis b' ∨ O b') (k : Rely Vis O W W1) : WR c ρ w W1 :=
  ⟨h.fn, h.inj, fun b b' hb => by
    obtain ⟨o, o', h1, h2, h3⟩ := h.obj b b' hb
    exact ⟨o, o', h1, by rw [k.keep b' (hv b b' hb)]; exact h2, h3⟩, h.glob, h.fz⟩

/-- The step of the company out of the lone one. -/
theorem guar_of {Vis O : Nat → Prop} {ρ1 : Nat → Nat → Prop} {w W w1 W1 : World} {es : Array Event} (hg : Gr c ρ w W ρ1 w1 W1) (hw1 : WR c ρ1 w1 W1) (hv : ∀ b b', ρ b b' → Vis b' ∨ O b') (ho : ∀ b b', ρ b b' → ¬ c.Fz b → O b') (he : ∀ e ∈ es, EvC c ρ1 e) :
    Guar Vis O W W1 es (fun b => O b ∨ (W.heap.size ≤ b ∧ b < W1.heap.size)) ∧ (∀ b b', ρ1 b b' → Vis b' ∨ (O b' ∨ (W.heap.size ≤ b' ∧ b' < W1.heap.size))) ∧ ∀ b b', ρ1 b b' → ¬ c.Fz b → (O b' ∨ (W.heap.size ≤ b' ∧ b' < W1.heap.size)) := by
  have v1 : ∀ b b', ρ1 b b' → Vis b' ∨ (O b' ∨ (W.heap.size ≤ b' ∧ b' < W1.heap.size)) := fun b b' hb => by
    rcases hg.new b b' hb with h | ⟨_, h⟩
    · exact (hv b b' h).imp id .inl
    · exact .inr (.inr ⟨h, (hw1.lt hb).2⟩)
  have o1 : ∀ b b', ρ1 b b' → ¬ c.Fz b → (O b' ∨ (W.heap.size ≤ b' ∧ b' < W1.heap.size)) := fun b b' hb hz => by
    rcases hg.new b b' hb with h | ⟨_, h⟩
    · exact .inl (ho b b' h hz)
    · exact .inr ⟨h, (hw1.lt hb).2⟩
  refine ⟨⟨fun b hb hn => hg.keep b hb fun a ha => ?_, hg.csz, fun b => Iff.rfl, fun e hm => ?_, hg.tape, hg.os, hg.output⟩, v1, o1⟩
  · exact Classical.byContradiction fun hz => hn (ho a b ha hz)
  · rcases he e hm with ⟨b, b', o, s, wr, rfl, h2, h3⟩ | ⟨b, b', rfl, h2⟩ | h | h
    · exact .inl ⟨⟨b', o, s⟩, wr, rfl, v1 b b' h2, fun hw => o1 b b' h2 (h3 hw)⟩
    · exact .inr (.inl ⟨b', rfl, v1 b b' h2⟩)
    · exact .inr (.inr (.inl h))
    · exact .inr (.inr (.inr h))
end
end Go.Proofs.Ytngehfhcnfobbaa
