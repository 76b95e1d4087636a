/- Lemmas for it, part 14. No condition. -/
import Derived.ChangeMade
import Derived.Test.YtngehfhcnfobbaaPk8
import Derived.Test.YtngehfhcnfobbaaPk11
import Derived.Test.YtngehfhcnfobbaaPk12
import Derived.Test.YtngehfhcnfobbaaPk13
namespace Go.Proofs.Ytngehfhcnfobbaa
open Go Go.Conc

def plainB : Nat → Value → Bool
  | n + 1, .agg xs => xs.all (plainB n)
  | _, .bool _ | _, .int .. | _, .string _ | _, .pointer none | _, .slice none _ _ | _, .nilFunc | _, .nilIface => true
  | _, _ => false
theorem plainB_ok : ∀ (n : Nat) (v : Value), plainB n v = true → Plain v := by
  intro n
  induction n with
  | zero =>
    intro v h c ρ
    cases v with
    | bool b => exact .bool b
    | int k n => exact .int k n
    | string s => exact .string s
    | pointer a => cases a with
      | none => exact .nilp
      | some _ => cases h
    | slice a n m => cases a with
      | none => exact .nils n m
      | some _ => cases h
    | nilFunc => exact .nilFunc
    | nilIface => exact .nilIface
    | _ => cases h
  | succ n ih =>
    intro v h c ρ
    cases v with
    | agg xs =>
      refine .agg rfl fun i v v' h1 h2 => ?_
      rw [h1] at h2
      cases h2
      simp only [plainB, Array.all_eq_true_iff_forall_mem] at h
      exact ih v (h v (Array.mem_of_getElem? h1)) c ρ
    | bool b => exact .bool b
    | int k n => exact .int k n
    | string s => exact .string s
    | pointer a => cases a with
      | none => exact .nilp
      | some _ => cases h
    | slice a n m => cases a with
      | none => exact .nils n m
      | some _ => cases h
    | nilFunc => exact .nilFunc
    | nilIface => exact .nilIface
    | _ => cases h

section
variable (P : Program) (G : Nat) (T : FuncId → Bool) (M : TypeId → Bool) (tk : Bool)

def zOkB (t : TypeId) : Bool := match P.info? t with
  | some i => match i.zero with
    | some v => plainB 4 v
    | none => true
  | none => true
theorem zOkB_ok {t : TypeId} (h : zOkB P t = true) : ZOk P t := fun i v h1 h2 => by
  simp only [zOkB, h1, h2] at h
  exact plainB_ok 4 v h
def slZB (t : TypeId) : Bool := match P.underlying t with
  | some (.slice e) => zOkB P e
  | _ => true
theorem slZB_ok {t : TypeId} (h : slZB P t = true) : ∀ e, P.underlying t = some (.slice e) → ZOk P e := fun e he => by
  simp only [slZB, he] at h
  exact zOkB_ok P h
def slZ1B (t : TypeId) : Bool := match P.underlying t with
  | some (.slice e) => zOkB P e
  | _ => false
def noIntB (t : TypeId) : Bool := match P.underlying t with
  | some (.int _) => false
  | _ => true
def odB : Operand → Bool
  | .tmp _ => true
  | .const v => plainB 4 v
  | .global g => decide (g < G)
  | .func f => T f
def fldB (s : TypeId) (k : Nat) : Bool := match P.underlying s with
  | some (.struct fs) => match fs[k]? with
    | some f => !(P.cellsOf f.type == 0)
    | none => true
  | _ => true
def eqB (t : TypeId) : Bool := !(P.eqGuardType P.depth t) || (match P.underlying t with | some (.interface _) => true | _ => false)
def callB (k : Call) : Bool := k.args.all (odB G T) && match k.callee with
  | .value f => odB G T f
  | .invoke r _ => odB G T r
  | .builtin .append => (k.argTypes[0]?).all (slZB P) && (k.argTypes[1]?).all (noIntB P)
  | .builtin .clear => (k.argTypes[0]?).all (slZ1B P)
  | .builtin .len | .builtin .cap | .builtin .copy => true
  | .builtin _ => false
def opB : Op → Bool
  | .move x | .assign x => odB G T x
  | .pick a b d => odB G T a && odB G T b && odB G T d
  | .alloc e => zOkB P e
  | .box _ x => odB G T x
  | .build t ps => zOkB P t && ps.all fun p => odB G T p.2
  | .buildSlice t _ ps => slZB P t && ps.all fun p => odB G T p.2
  | .load _ x => odB G T x
  | .store _ x y => odB G T x && odB G T y
  | .nilCheck _ => false
  | .binOp op t x y _ => !tk && (!(op == .eql || op == .neq) || eqB P t) && odB G T x && odB G T y
  | .unOp _ _ x => odB G T x
  | .makeInterface t x => M t && odB G T x
  | .makeSlice t x y => slZB P t && odB G T x && odB G T y
  | .slice _ x lo hi mx => odB G T x && lo.all (odB G T) && hi.all (odB G T) && mx.all (odB G T)
  | .fieldAddr s x k => fldB P s k && odB G T x
  | .indexAddr _ x y | .index _ x y => odB G T x && odB G T y
  | .typeAssert x _ u _ => zOkB P u && odB G T x
  | .extract x _ => odB G T x
  | .call k => callB P G T k
  | .panic x => odB G T x
  | _ => false
def cdB : Code → Bool
  | .skip | .ret | .label _ | .exit _ => true
  | .region _ ops _ => ops.all fun o => opB P G T M tk o.op
  | .seq a b => cdB a && cdB b
  | .cond x a b => odB G T x && cdB a && cdB b
  | .block _ a | .loop a => cdB a
  | _ => false
end

section
variable {P : Program} {G : Nat} {T : FuncId → Bool} {M : TypeId → Bool} {tk : Bool} {c : Cx} (hG : G ≤ c.G) (hT : ∀ f, T f = true → c.T f) (hM : ∀ t, M t = true → c.M t) (hk : tk = false → ¬ c.Tk)
include hG hT in
theorem odB_ok {x : Operand} (h : odB G T x = true) : OdOk c x := by
  cases x with
  | tmp _ => trivial
  | const v => exact plainB_ok 4 v h
  | global g => exact Nat.lt_of_lt_of_le (of_decide_eq_true h) hG
  | func f => exact hT f h
include hG hT in
theorem odsB_ok {xs : Array Operand} (h : xs.all (odB G T) = true) : ∀ x ∈ xs, OdOk c x := fun x hx => odB_ok hG hT ((Array.all_eq_true_iff_forall_mem.1 h) x hx)
include hG hT in
theorem psB_ok {ps : Array (Nat × Operand)} (h : (ps.all fun p => odB G T p.2) = true) : ∀ p ∈ ps, OdOk c p.2 := fun p hp => odB_ok hG hT ((Array.all_eq_true_iff_forall_mem.1 h) p hp)
include hG hT in
theorem opB_opt {x : Option Operand} (h : x.all (odB G T) = true) : ∀ y, x = some y → OdOk c y := fun y e => by
  subst e
  exact odB_ok hG hT (by simpa using h)
theorem slZ1B_ok {t : TypeId} (h : slZ1B P t = true) : ∃ e, P.underlying t = some (.slice e) ∧ ZOk P e := by
  unfold slZ1B at h
  split at h
  · exact ⟨_, ‹_›, zOkB_ok P h⟩
  · cases h
theorem fldB_ok {s : TypeId} {k : Nat} (h : fldB P s k = true) : ∀ fs f, P.underlying s = some (.struct fs) → fs[k]? = some f → P.cellsOf f.type ≠ 0 := fun fs f h1 h2 h3 => by
  simp [fldB, h1, h2, h3] at h
include hG hT in
theorem callB_ok {k : Call} (h : callB P G T k = true) : CallOk P c k := by
  simp only [callB, Bool.and_eq_true] at h
  obtain ⟨h1, h2⟩ := h
  refine ⟨odsB_ok hG hT h1, ?_⟩
  cases hc : k.callee with
  | value f => rw [hc] at h2; exact odB_ok hG hT h2
  | invoke r n => rw [hc] at h2; exact odB_ok hG hT h2
  | builtin b =>
    rw [hc] at h2
    cases b with
    | append =>
      simp only [Bool.and_eq_true] at h2
      refine ⟨fun t e ht he => ?_, fun t q ht he => ?_⟩
      · rw [ht] at h2
        exact slZB_ok P (by simpa using h2.1) e he
      · rw [ht] at h2
        have := h2.2
        simp [noIntB, he] at this
    | clear =>
      intro t ht
      rw [ht] at h2
      exact slZ1B_ok (by simpa using h2)
    | len => trivial
    | cap => trivial
    | copy => trivial
    | _ => cases h2
include hG hT hM hk in
theorem opB_ok {o : Op} (h : opB P G T M tk o = true) : OpOk P c o := by
  cases o with
  | move x => exact odB_ok hG hT h
  | assign x => exact odB_ok hG hT h
  | pick a b d => simp only [opB, Bool.and_eq_true] at h; exact ⟨odB_ok hG hT h.1.1, odB_ok hG hT h.1.2, odB_ok hG hT h.2⟩
  | alloc e => exact zOkB_ok P h
  | box t x => exact odB_ok hG hT h
  | build t ps => simp only [opB, Bool.and_eq_true] at h; exact ⟨zOkB_ok P h.1, psB_ok hG hT h.2⟩
  | buildSlice t n ps => simp only [opB, Bool.and_eq_true] at h; exact ⟨slZB_ok P h.1, psB_ok hG hT h.2⟩
  | load t x => exact odB_ok hG hT h
  | store t x y => simp only [opB, Bool.and_eq_true] at h; exact ⟨odB_ok hG hT h.1, odB_ok hG hT h.2⟩
  | nilCheck x => cases h
  | binOp op t x y u =>
    simp only [opB, Bool.and_eq_true] at h
    refine ⟨hk (by simpa using h.1.1.1), fun hop => ?_, odB_ok hG hT h.1.2, odB_ok hG hT h.2⟩
    have h2 := h.1.1.2
    have : (op == .eql || op == .neq) = true := by rcases hop with rfl | rfl <;> rfl
    simp only [this, Bool.not_true, Bool.false_or, eqB, Bool.or_eq_true, Bool.not_eq_true'] at h2
    rcases h2 with h2 | h2
    · exact .inl h2
    · right
      split at h2
      · exact ⟨_, ‹_›⟩
      · cases h2
  | unOp op t x => exact odB_ok hG hT h
  | makeInterface t x => simp only [opB, Bool.and_eq_true] at h; exact ⟨hM t h.1, odB_ok hG hT h.2⟩
  | makeSlice t x y => simp only [opB, Bool.and_eq_true] at h; exact ⟨slZB_ok P h.1.1, odB_ok hG hT h.1.2, odB_ok hG hT h.2⟩
  | slice t x lo hi mx => simp only [opB, Bool.and_eq_true] at h; exact ⟨odB_ok hG hT h.1.1.1, opB_opt hG hT h.1.1.2, opB_opt hG hT h.1.2, opB_opt hG hT h.2⟩
  | fieldAddr s x k => simp only [opB, Bool.and_eq_true] at h; exact ⟨fldB_ok h.1, odB_ok hG hT h.2⟩
  | indexAddr t x y => simp only [opB, Bool.and_eq_true] at h; exact ⟨odB_ok hG hT h.1, odB_ok hG hT h.2⟩
  | index t x y => simp only [opB, Bool.and_eq_true] at h; exact ⟨odB_ok hG hT h.1, odB_ok hG hT h.2⟩
  | typeAssert x t u b => simp only [opB, Bool.and_eq_true] at h; exact ⟨zOkB_ok P h.1, odB_ok hG hT h.2⟩
  | extract x i => exact odB_ok hG hT h
  | call k => exact callB_ok hG hT h
  | panic x => exact odB_ok hG hT h
  | _ => cases h
include hG hT hM hk in
theorem cdB_ok : ∀ {x : Code}, cdB P G T M tk x = true → CdOk P c x := by
  intro x
  induction x with
  | region id ops d =>
    intro h o ho
    simp only [cdB, Array.all_eq_true_iff_forall_mem] at h
    exact opB_ok hG hT hM hk (h o ho)
  | seq a b iha ihb => intro h; simp only [cdB, Bool.and_eq_true] at h; exact ⟨iha h.1, ihb h.2⟩
  | cond x a b iha ihb => intro h; simp only [cdB, Bool.and_eq_true] at h; exact ⟨odB_ok hG hT h.1.1, iha h.1.2, ihb h.2⟩
  | block id a ih => intro h; exact ih h
  | loop a ih => intro h; exact ih h
  | skip => intro _; trivial
  | ret => intro _; trivial
  | label _ => intro _; trivial
  | exit _ => intro _; trivial
  | _ => intro h; cases h
end

/-- No comparison of a copy checker's. -/
def noCopyB (P : Program) : Bool := P.types.all fun i => match i.desc with | .named n _ => !(n == "sync.copyChecker") | _ => true
theorem noCopyB_ok {P : Program} (h : noCopyB P = true) : P.noCopyChecker := by
  intro t i hi u he
  by_cases ht : t < P.types.size
  · have h1 : P.types[t]? = some i := by
      have h2 := hi
      unfold Tables.info? at h2
      rw [if_pos ht] at h2
      exact h2
    have := (Array.all_eq_true_iff_forall_mem.1 h) i (Array.mem_of_getElem? h1)
    simp [he] at this
  · have hb := Tables.info?_beyond ht hi
    rw [he] at hb
    cases hb
end Go.Proofs.Ytngehfhcnfobbaa
namespace Go.Proofs.Ytngehfhcnfobbaa
open Go Go.RowKit

def cdT : Code → Code
  | .cond _ a _ => a
  | c => c
def rgO : Code → Array Oper
  | .region _ ops _ => ops
  | _ => #[]

noncomputable def dcSnd : Array Oper := rgO (sq1 (cdT (sq2 dcY8)))
noncomputable def dcR10 : Code := sq2 (cdT (sq2 dcY8))
noncomputable def dcEndC : Code := sq2 (sq2 (sq2 dcKid))
noncomputable def dcSnd2 : Array Oper := rgO (cdT (sq2 dcEndC))
noncomputable def dcR3 : Code := sq1 dcKidRound
noncomputable def dcR11 : Code := sq2 (sq2 (sq2 dcKidRound))
noncomputable def dcR12 : Code := sq1 dcEndC
noncomputable def dcR1 : Code := sq1 (sq2 dcKid)
noncomputable def dcR2 : Code := sq1 (sq1 (sq2 (sq2 dcKid)))
noncomputable def dcDef : Array Oper := rgO (sq1 dcKid)

/-- The functions that may be called in company. -/
def cKL : List Nat := [4, 5, 6, 8, 9, 10, 11, 12, 13, 14, 15, 16, 17, 18, 20, 21, 22, 23, 24, 25, 26, 27, 28, 29, 30, 31, 32, 33, 34, 35, 36, 37, 38]
def cKT (f : FuncId) : Bool := cKL.contains f
noncomputable def cK (S : Nat → Prop) : Cx := { G := 0, Fz := S, T := fun f => cKT f = true, M := fun _ => False, K := Try.prog.funcs.size, Tk := False, J := True }

theorem kid_globals : Try.prog.globals.size = 0 := by kernel_rfl
theorem kid_noCopy : noCopyB Try.prog = true := by kernel_rfl
def fnB (P : Program) (f : FuncId) : Bool := match P.funcs[f]? with
  | some fn => !(fn.name == "runtime.NumGoroutine") && match fn.body with
    | some b => cdB P 0 cKT (fun _ => false) false b
    | none => false
  | none => false
theorem cKL_ok : cKL.all (fnB Try.prog) = true := by kernel_rfl
theorem cKT_ok (f : FuncId) (h : cKT f = true) : ∃ fn b, Try.prog.funcs[f]? = some fn ∧ (fn.name == "runtime.NumGoroutine") = false ∧ fn.body = some b ∧ cdB Try.prog 0 cKT (fun _ => false) false b = true := by
  have h1 := List.all_eq_true.1 cKL_ok f (by simpa [cKT] using h)
  unfold fnB at h1
  cases e : Try.prog.funcs[f]? with
  | none => rw [e] at h1; cases h1
  | some fn =>
    rw [e] at h1
    simp only [Bool.and_eq_true] at h1
    obtain ⟨h2, h3⟩ := h1
    cases e2 : fn.body with
    | none => rw [e2] at h3; cases h3
    | some b =>
      rw [e2] at h3
      exact ⟨fn, b, rfl, by simpa using h2, e2, h3⟩
theorem cK_ok (S : Nat → Prop) : COk Try.prog (cK S) where
  tok := Array.getElem?_eq_none (Nat.le_refl _)
  tokT := fun h => by
    obtain ⟨fn, _, h1, _⟩ := cKT_ok _ h
    have h2 : Try.prog.funcs[Try.prog.funcs.size]? = some fn := h1
    rw [Array.getElem?_eq_none (Nat.le_refl _)] at h2
    cases h2
  noCopy := noCopyB_ok kid_noCopy
  glob := fun _ => by rw [kid_globals]; exact Nat.le_refl _
  func := fun f hT ρ xs xs' hx => by
    obtain ⟨fn, b, h1, h2, h3, _⟩ := cKT_ok f hT
    exact sim_callBody hT h1 h2 (by rw [h3]; rfl) hx
  meth := fun t h => h.elim
theorem cK_cd {S : Nat → Prop} {x : Code} (h : cdB Try.prog 0 cKT (fun _ => false) false x = true) : CdOk Try.prog (cK S) x :=
  cdB_ok (Nat.le_refl _) (fun _ h => h) (fun _ h => by cases h) (fun _ h => h) h
theorem cK_fns (S : Nat → Prop) : FnsOk Try.prog (cK S) := fun f fn hT hf b hb => by
  obtain ⟨fn', b', h1, _, h3, h4⟩ := cKT_ok f hT
  rw [h1] at hf
  cases hf
  rw [h3] at hb
  cases hb
  exact cK_cd h4

theorem load_chan (a : Act) (b : Nat) (W : World) (u : Value) (h0 : a.eval (.tmp 0) = .pointer (some ⟨b, 0, none⟩)) (h1 : W.cell? ⟨b, 0, none⟩ = some u) (o : Oper) (ho : o.op = .load 50 (.tmp 0)) : (execOp a.eval o).run Try.prog W = .ok (.value u) W := by
  unfold execOp
  simp only [ho, h0]
  go_simp
end Go.Proofs.Ytngehfhcnfobbaa
namespace Go.Proofs.Ytngehfhcnfobbaa
open Go Go.RowKit

/-- The child's slots. -/
def KS (bm B X : Nat) (m k : Int) (z8 z42 : Value) (a : Act) : Prop := ∃ y3 y4 y5 y9 y10 y11 y12 y13 y14 y15 y16 y17 y18 y19 y20 y21 y22 y23 y24 y25 y26 y27 y28 y29 y30 y31 y32 y33 y34 y35 y36 y37 y38 y39 y40 y41 y43 y44 y45 y46 y47 y48 y49 y50 y51 : Value, a = ⟨#[.pointer (some ⟨bm, 0, none⟩), .pointer (some ⟨B, 0, none⟩), .pointer (some ⟨X, 0, none⟩), y3, y4, y5, .int .i64 m, .int .i64 k, z8, y9, y10, y11, y12, y13, y14, y15, y16, y17, y18, y19, y20, y21, y22, y23, y24, y25, y26, y27, y28, y29, y30, y31, y32, y33, y34, y35, y36, y37, y38, y39, y40, y41, z42, y43, y44, y45, y46, y47, y48, y49, y50, y51], []⟩

/-- What lies in memory at the loop's head, so many items behind: the two slices of the message named. -/
def KInvV (d : Dl) (bm B X : Nat) (H0 : Array Obj) (k : Nat) (p1 : Option Addr) (q1 r1 : Nat) (p2 : Option Addr) (q2 r2 : Nat) (L1 : List Rg) (L2 : List Rt) (xs : List Value) (L : List Dl) (w : World) : Prop :=
  ∃ (wb : World) (a1 : Option Addr) (n1 c1 : Nat) (a2 : Option Addr) (n2 c2 : Nat) (fps2 fps : List (List Nat)),
    SlRd wb a1 n1 c1 d.drop ∧ SlRd wb a2 n2 c2 d.tell ∧ Blf wb B 32 [.slice a1 n1 c1, .slice a2 n2 c2] ∧ Blf wb bm 50 [undef] ∧ wb.heap.size ≤ X ∧ Ext wb w ∧
    Blk w X 32 [.slice p1 q1 r1, .slice p2 q2 r2] ∧ CI (X + 1) X w (.slice p1 q1 r1) (.slice p2 q2 r2) L1 L2 xs L fps2 fps ∧ (k ≤ dcN d ∧ wb.heap = H0)
def KInv (d : Dl) (bm B X : Nat) (H0 : Array Obj) (k : Nat) (L1 : List Rg) (L2 : List Rt) (xs : List Value) (L : List Dl) (w : World) : Prop :=
  ∃ (p1 : Option Addr) (q1 r1 : Nat) (p2 : Option Addr) (q2 r2 : Nat), KInvV d bm B X H0 k p1 q1 r1 p2 q2 r2 L1 L2 xs L w

theorem KInvV.td {d : Dl} {bm B X k : Nat} {H0 : Array Obj} {p1 : Option Addr} {q1 r1 : Nat} {p2 : Option Addr} {q2 r2 : Nat} {L1 : List Rg} {L2 : List Rt} {xs : List Value} {L : List Dl} {w : World} (τ : Nat → Question → Nat) (e : Nat) (h : KInvV d bm B X H0 k p1 q1 r1 p2 q2 r2 L1 L2 xs L w) : KInvV d bm B X H0 k p1 q1 r1 p2 q2 r2 L1 L2 xs L (td w τ e) := by
  obtain ⟨wb, a1, n1, c1, a2, n2, c2, fps2, fps, h1, h2, h3, h4, h5, h6, h7, h8, h9⟩ := h
  exact ⟨Go.Proofs.Ytngehfhcnfobbaa.td wb τ e, a1, n1, c1, a2, n2, c2, fps2, fps, h1.stc (Cle.td τ e wb), h2.stc (Cle.td τ e wb), h3, h4, h5, h6.td τ e, h7, h8.td τ e, h9⟩
theorem KInv.td {d : Dl} {bm B X k : Nat} {H0 : Array Obj} {L1 : List Rg} {L2 : List Rt} {xs : List Value} {L : List Dl} {w : World} (τ : Nat → Question → Nat) (e : Nat) (h : KInv d bm B X H0 k L1 L2 xs L w) : KInv d bm B X H0 k L1 L2 xs L (td w τ e) := by
  obtain ⟨p1, q1, r1, p2, q2, r2, h⟩ := h
  exact ⟨p1, q1, r1, p2, q2, r2, h.td τ e⟩

set_option maxRecDepth 40000 in
set_option maxHeartbeats 8000000 in
/-- One item more. -/
theorem kid_item (d : Dl) (bm B X : Nat) (H0 : Array Obj) (m : Int) (k : Nat) (z8 z42 : Value) (L1 : List Rg) (L2 : List Rt) (xs : List Value) (L : List Dl) (a : Act) (w : World) (hS : KS bm B X m k z8 z42 a) (hI : KInv d bm B X H0 k L1 L2 xs L w) (hl : L1.length + L2.length ≤ 3) (hk : k < dcN d) (hz : Sz.sz d ≤ 1048576)
    (Q : Act → World → Prop) (hcont : ∀ a' w', KS bm B X m k z8 (.bool (decide ((dcAdd d k L1 L2).1.length + (dcAdd d k L1 L2).2.length = 3))) a' → KInv d bm B X H0 k (dcAdd d k L1 L2).1 (dcAdd d k L1 L2).2 xs L w' → Q a' w') :
    dcR4.wp Try.prog (fun e a1 w1 => e = .normal ∧ dcX5.wp Try.prog (fun e a2 w2 => e = .normal ∧ dcR8.wp Try.prog (fun e a3 w3 => e = .normal ∧ Q a3 w3) a2 w2) a1 w1) a w := by
  obtain ⟨y3, y4, y5, y9, y10, y11, y12, y13, y14, y15, y16, y17, y18, y19, y20, y21, y22, y23, y24, y25, y26, y27, y28, y29, y30, y31, y32, y33, y34, y35, y36, y37, y38, y39, y40, y41, y43, y44, y45, y46, y47, y48, y49, y50, y51, rfl⟩ := hS
  obtain ⟨p1, q1, r1, p2, q2, r2, wb, a1, n1, c1, a2, n2, c2, fps2, fps, h1, h2, h3, h4, h5, h6, h7, h8, h9⟩ := hI
  have e1 : n1 = d.drop.length := h1.1.symm
  have e2 : n2 = d.tell.length := h2.1.symm
  have g1 : q1 = L1.length := by obtain ⟨a', c', e⟩ := h8.a1.shape; simp only [Value.slice.injEq] at e; exact e.2.1
  have g2 : q2 = L2.length := by obtain ⟨a', c', e⟩ := h8.a2.shape; simp only [Value.slice.injEq] at e; exact e.2.1
  by_cases hkn : k < n1
  · have hd : d.drop[k]? = some (d.drop[k]'(by omega)) := List.getElem?_eq_getElem _
    refine kid_drop d B X (X + 1) m k a1 n1 c1 a2 n2 c2 p1 q1 r1 p2 q2 r2 L1 L2 xs L fps2 fps wb w _ _ _ _ _ _ _ _ _ _ _ _ _ _ _ _ _ _ _ _ _ _ _ _ _ _ _ _ _ _ _ _ _ _ _ _ _ _ _ _ _ _ _ _ _ _ _ _ h1 h2 h3 h5 rfl h6 h7 h8 hl hkn Q ?_
    intro r hr u3 u9 u10 u11 u12 u13 u14 u15 u16 u17 u18 u19 u20 u21 u22 u23 u24 u25 u26 u27 u28 u29 u30 u31 u32 u33 u34 u35 u36 u37 u38 u39 u40 u41 v n c w' hB hC hE
    have e3 : dcAdd d k L1 L2 = (L1 ++ [r], L2) := by unfold dcAdd; rw [hr]
    have g3 : n = L1.length + 1 := by obtain ⟨a', c', e⟩ := hC.a1.shape; simp only [Value.slice.injEq, List.length_append, List.length_singleton] at e; exact e.2.1
    have g4 : (((n : Int) + (q2 : Int)) == 3) = decide ((dcAdd d k L1 L2).1.length + (dcAdd d k L1 L2).2.length = 3) := by
      rw [e3, g3, g2]
      simp only [List.length_append, List.length_singleton]
      rw [Bool.eq_iff_iff]
      simp
      omega
    rw [g4]
    exact hcont _ _ ⟨_, _, _, _, _, _, _, _, _, _, _, _, _, _, _, _, _, _, _, _, _, _, _, _, _, _, _, _, _, _, _, _, _, _, _, _, _, _, _, _, _, _, _, _, _, rfl⟩ ⟨v, n, c, p2, q2, r2, wb, a1, n1, c1, a2, n2, c2, fps2, fps, h1, h2, h3, h4, h5, hE, hB, by rw [e3]; exact hC, h9⟩
  · obtain ⟨j, rfl⟩ : ∃ j, k = n1 + j := ⟨k - n1, by omega⟩
    have hj : j < n2 := by unfold dcN at hk; omega
    refine kid_tell d B X (X + 1) m j a1 n1 c1 a2 n2 c2 p1 q1 r1 p2 q2 r2 L1 L2 xs L fps2 fps wb w _ _ _ _ _ _ _ _ _ _ _ _ _ _ _ _ _ _ _ _ _ _ _ _ _ _ _ _ _ _ _ _ _ _ _ _ _ _ _ _ _ _ _ _ _ _ _ _ h1 h2 h3 h5 rfl h6 h7 h8 hl hj hz Q ?_
    intro r hr u3 u9 u10 u11 u12 u13 u14 u25 u26 u27 u28 u29 u30 u31 u32 u33 u34 u35 u36 u37 u38 u39 u40 u41 v n c f w' hB hC hE
    have e3 : dcAdd d (n1 + j) L1 L2 = (L1, L2 ++ [r]) := by
      unfold dcAdd
      rw [List.getElem?_eq_none (by omega), show n1 + j - d.drop.length = j by omega, hr]
    have g3 : n = L2.length + 1 := by obtain ⟨a', c', e⟩ := hC.a2.shape; simp only [Value.slice.injEq, List.length_append, List.length_singleton] at e; exact e.2.1
    have g4 : (((q1 : Int) + (n : Int)) == 3) = decide ((dcAdd d (n1 + j) L1 L2).1.length + (dcAdd d (n1 + j) L1 L2).2.length = 3) := by
      rw [e3, g3, g1]
      simp only [List.length_append, List.length_singleton]
      rw [Bool.eq_iff_iff]
      simp
      omega
    rw [g4]
    exact hcont _ _ ⟨_, _, _, _, _, _, _, _, _, _, _, _, _, _, _, _, _, _, _, _, _, _, _, _, _, _, _, _, _, _, _, _, _, _, _, _, _, _, _, _, _, _, _, _, _, rfl⟩ ⟨p1, q1, r1, v, n, c, wb, a1, n1, c1, a2, n2, c2, fps2 ++ [f], fps, h1, h2, h3, h4, h5, hE, hB, by rw [e3]; exact hC, h9⟩

set_option maxRecDepth 40000 in
set_option maxHeartbeats 4000000 in
/-- the loop's test -/
theorem kid_R3 (bm B X : Nat) (m k : Int) (z8 z42 : Value) (a : Act) (w : World) (hS : KS bm B X m k z8 z42 a)
    (Q : Act → World → Prop) (hcont : ∀ a', KS bm B X m k (.bool (decide (k < m))) z42 a' → Q a' w) :
    dcR3.wp Try.prog (fun e a1 w1 => e = .normal ∧ Q a1 w1) a w := by
  obtain ⟨y3, y4, y5, y9, y10, y11, y12, y13, y14, y15, y16, y17, y18, y19, y20, y21, y22, y23, y24, y25, y26, y27, y28, y29, y30, y31, y32, y33, y34, y35, y36, y37, y38, y39, y40, y41, y43, y44, y45, y46, y47, y48, y49, y50, y51, rfl⟩ := hS
  have HC := hidden hcont
  clear hcont
  show (Code.region _ _ _).wp _ _ _ _
  go_wp2_with fail
  exact HC.out _ ⟨_, _, _, _, _, _, _, _, _, _, _, _, _, _, _, _, _, _, _, _, _, _, _, _, _, _, _, _, _, _, _, _, _, _, _, _, _, _, _, _, _, _, _, _, _, rfl⟩

set_option maxRecDepth 40000 in
set_option maxHeartbeats 4000000 in
/-- the next index -/
theorem kid_R11 (bm B X : Nat) (m : Int) (k : Nat) (z8 z42 : Value) (a : Act) (w : World) (hk : k < 1048576) (hS : KS bm B X m k z8 z42 a)
    (Q : Act → World → Prop) (hcont : ∀ a', KS bm B X m ((k + 1 : Nat) : Int) z8 z42 a' → Q a' w) :
    dcR11.wp Try.prog (fun e a1 w1 => e = .normal ∧ Q a1 w1) a w := by
  obtain ⟨y3, y4, y5, y9, y10, y11, y12, y13, y14, y15, y16, y17, y18, y19, y20, y21, y22, y23, y24, y25, y26, y27, y28, y29, y30, y31, y32, y33, y34, y35, y36, y37, y38, y39, y40, y41, y43, y44, y45, y46, y47, y48, y49, y50, y51, rfl⟩ := hS
  have HC := hidden hcont
  clear hcont
  show (Code.region _ _ _).wp _ _ _ _
  go_wp2_with fail
  exact HC.out _ ⟨_, _, _, _, _, _, _, _, _, _, _, _, _, _, _, _, _, _, _, _, _, _, _, _, _, _, _, _, _, _, _, _, _, _, _, _, _, _, _, _, _, _, _, _, _, rfl⟩

end Go.Proofs.Ytngehfhcnfobbaa
namespace Go.Proofs.Ytngehfhcnfobbaa
open Go Go.RowKit

theorem dcN_le {d : Dl} (hz : Sz.sz d ≤ 1048576) : dcN d ≤ 1048576 := by
  have h1 : Sz.sz d = Sz.sz d.drop + Sz.sz d.tell := rfl
  have h2 : Sz.sz d.drop = d.drop.length + (d.drop.map Sz.sz).sum := rfl
  have h3 : Sz.sz d.tell = d.tell.length + (d.tell.map Sz.sz).sum := rfl
  unfold dcN
  omega
theorem load_now (a : Act) (b : Nat) (W : World) (u1 u2 : Value) (h0 : a.eval (.tmp 2) = .pointer (some ⟨b, 0, none⟩)) (h1 : W.cell? ⟨b, 0, none⟩ = some u1) (h2 : W.cell? ⟨b, 1, none⟩ = some u2) (o : Oper) (ho : o.op = .load 32 (.tmp 2)) : (execOp a.eval o).run Try.prog W = .ok (.value (.agg #[u1, u2])) W := by
  unfold execOp
  simp only [ho, h0]
  go_simp

set_option maxRecDepth 40000 in
set_option maxHeartbeats 4000000 in
/-- the message is begun anew -/
theorem kid_R10 (d : Dl) (bm B X : Nat) (H0 : Array Obj) (m : Int) (k : Nat) (z8 z42 : Value) (p1 : Option Addr) (q1 r1 : Nat) (p2 : Option Addr) (q2 r2 : Nat) (L1 : List Rg) (L2 : List Rt) (xs : List Value) (L : List Dl) (a : Act) (w : World) (hS : KS bm B X m k z8 z42 a) (hI : KInvV d bm B X H0 k p1 q1 r1 p2 q2 r2 L1 L2 xs L w)
    (Q : Act → World → Prop) (hcont : ∀ a' w', KS bm B X m k z8 z42 a' → KInv d bm B X H0 k [] [] (xs ++ [.slice p1 q1 r1, .slice p2 q2 r2]) (L ++ [⟨L1, L2⟩]) w' → Q a' w') :
    dcR10.wp Try.prog (fun e a1 w1 => e = .normal ∧ Q a1 w1) a w := by
  obtain ⟨y3, y4, y5, y9, y10, y11, y12, y13, y14, y15, y16, y17, y18, y19, y20, y21, y22, y23, y24, y25, y26, y27, y28, y29, y30, y31, y32, y33, y34, y35, y36, y37, y38, y39, y40, y41, y43, y44, y45, y46, y47, y48, y49, y50, y51, rfl⟩ := hS
  obtain ⟨wb, a1, n1, c1, a2, n2, c2, fps2, fps, h1, h2, h3, h4, h5, h6, h7, h8, h9⟩ := hI
  have HC := hidden hcont
  obtain ⟨f, _, _, hF⟩ := h8.flush
  have HF := hidden hF
  have H1 := hidden h1
  have H2 := hidden h2
  have H3 := hidden h3
  have H4 := hidden h4
  have H7 := hidden h7
  clear hcont h8 hF
  have x0 := h7.cell (j := 0) rfl
  have x1 := h7.cell (j := 1) rfl
  have xf0 := h7.frozen 0
  have xf1 := h7.frozen 1
  have xl := h7.lt
  clear h7 h1 h2 h3 h4
  show (Code.region _ _ _).wp _ _ _ _
  go_wp2_with fail
  exact HC.out _ _ ⟨_, _, _, _, _, _, _, _, _, _, _, _, _, _, _, _, _, _, _, _, _, _, _, _, _, _, _, _, _, _, _, _, _, _, _, _, _, _, _, _, _, _, _, _, _, rfl⟩ ⟨_, _, _, _, _, _, wb, a1, n1, c1, a2, n2, c2, [], fps ++ [f], H1.out, H2.out, H3.out, H4.out, h5, (h6.setCell (p := ⟨X, 0, none⟩) h5 _).setCell (p := ⟨X, 1, none⟩) h5 _, (H7.out.set 0 _).set 1 _, (HF.out.setX 0 _).setX 1 _, h9⟩

set_option maxRecDepth 40000 in
set_option maxHeartbeats 4000000 in
/-- Its beginning. -/
theorem kid_begin (d : Dl) (bm B : Nat) (a1 : Option Addr) (n1 c1 : Nat) (a2 : Option Addr) (n2 c2 : Nat) (y2 y3 y4 y5 y6 y7 y8 y9 y10 y11 y12 y13 y14 y15 y16 y17 y18 y19 y20 y21 y22 y23 y24 y25 y26 y27 y28 y29 y30 y31 y32 y33 y34 y35 y36 y37 y38 y39 y40 y41 y42 y43 y44 y45 y46 y47 y48 y49 y50 y51 : Value) (w : World) (h1 : SlRd w a1 n1 c1 d.drop) (h2 : SlRd w a2 n2 c2 d.tell) (h3 : Blf w B 32 [.slice a1 n1 c1, .slice a2 n2 c2]) (h4 : Blf w bm 50 [undef]) (hz : Sz.sz d ≤ 1048576)
    (Q : Act → World → Prop) (hcont : ∀ a' w', KS bm B w.heap.size (dcN d) 0 y8 y42 a' → KInv d bm B w.heap.size w.heap 0 [] [] [] [] w' → Q a' w') :
    dcR1.wp Try.prog (fun e a1 w1 => e = .normal ∧ dcR2.wp Try.prog (fun e a2 w2 => e = .normal ∧ Q a2 w2) a1 w1) ⟨#[.pointer (some ⟨bm, 0, none⟩), .pointer (some ⟨B, 0, none⟩), y2, y3, y4, y5, y6, y7, y8, y9, y10, y11, y12, y13, y14, y15, y16, y17, y18, y19, y20, y21, y22, y23, y24, y25, y26, y27, y28, y29, y30, y31, y32, y33, y34, y35, y36, y37, y38, y39, y40, y41, y42, y43, y44, y45, y46, y47, y48, y49, y50, y51], []⟩ w := by
  have HC := hidden hcont
  have H1 := hidden h1
  have H2 := hidden h2
  have H3 := hidden h3
  have H4 := hidden h4
  have b0 := h3.cell (j := 0) rfl
  have b1 := h3.cell (j := 1) rfl
  have bl := h3.lt
  have hN : dcN d ≤ 1048576 := dcN_le hz
  have e1 := h1.1
  have e2 := h2.1
  have hsm : n1 + n2 ≤ 1048576 := by unfold dcN at hN; omega
  have hNe : ((n1 : Int) + (n2 : Int)) = (dcN d : Nat) := by unfold dcN; omega
  clear e1 e2
  clear hcont h1 h2 h3 h4
  show (Code.region _ _ _).wp _ _ _ _
  go_wp2_with fail
  show (Code.region _ _ _).wp _ _ _ _
  go_wp2_with (first | (first | (go_at_call 20; (with_reducible refine (kid_many _ _ _ _ _ _ _ hsm).mono ?_); rintro _ _ ⟨rfl, x, rfl⟩)) | ((first | with_reducible refine wp_region_qe (by kernel_rfl) (by kernel_rfl) ?_ | with_reducible refine wp_region_q (by kernel_rfl) (by kernel_rfl) ?_); (repeat (go_big_quiet_step ((first | (go_at_call 20; first | with_reducible exact Calls.qb (by assumption) (kid_many _ _ _ _ _ _ _ hsm) | with_reducible exact Calls.q (kid_many _ _ _ _ _ _ _ hsm)))))); refine wpQuiet_nil ?_; intro x))
  exact HC.out _ _ ⟨_, _, _, _, _, _, _, _, _, _, _, _, _, _, _, _, _, _, _, _, _, _, _, _, _, _, _, _, _, _, _, _, _, _, _, _, _, _, _, _, _, _, _, _, _, rfl⟩ ⟨none, 0, 0, none, 0, 0, w, a1, n1, c1, a2, n2, c2, [], [], H1.out, H2.out, H3.out, H4.out, Nat.le_refl _, (by repeat (first | with_reducible exact Ext.refl _ | with_reducible apply Ext.and | with_reducible apply Ext.drewx | with_reducible apply Ext.alloc | with_reducible apply Ext.ext | with_reducible apply Ext.drew | with_reducible refine Ext.setCell ?_ (by simp) _)), (Blk.new _ _ _).extends ((by repeat (first | with_reducible exact Ext.refl _ | with_reducible apply Ext.and | with_reducible apply Ext.drewx | with_reducible apply Ext.alloc | with_reducible apply Ext.ext | with_reducible apply Ext.drew | with_reducible refine Ext.setCell ?_ (by simp) _)) : Ext (w.alloc (.cells #[.slice none 0 0, .slice none 0 0] 32)) _), CI.nil, ⟨Nat.zero_le _, rfl⟩⟩

set_option maxRecDepth 40000 in
set_option maxHeartbeats 4000000 in
/-- is there an open message? -/
theorem kid_R12 (d : Dl) (bm B X : Nat) (H0 : Array Obj) (m : Int) (k : Nat) (z8 z42 : Value) (p1 : Option Addr) (q1 r1 : Nat) (p2 : Option Addr) (q2 r2 : Nat) (L1 : List Rg) (L2 : List Rt) (xs : List Value) (L : List Dl) (a : Act) (w : World) (hS : KS bm B X m k z8 z42 a) (hI : KInvV d bm B X H0 k p1 q1 r1 p2 q2 r2 L1 L2 xs L w) (hl : L1.length + L2.length ≤ 3)
    (Q : Act → World → Prop) (hcont : ∀ a' w', KS bm B X m k z8 z42 a' → a'.eval (.tmp 49) = .bool (decide (0 < L1.length + L2.length)) → KInvV d bm B X H0 k p1 q1 r1 p2 q2 r2 L1 L2 xs L w' → Q a' w') :
    dcR12.wp Try.prog (fun e a1 w1 => e = .normal ∧ Q a1 w1) a w := by
  obtain ⟨y3, y4, y5, y9, y10, y11, y12, y13, y14, y15, y16, y17, y18, y19, y20, y21, y22, y23, y24, y25, y26, y27, y28, y29, y30, y31, y32, y33, y34, y35, y36, y37, y38, y39, y40, y41, y43, y44, y45, y46, y47, y48, y49, y50, y51, rfl⟩ := hS
  obtain ⟨wb, a1, n1, c1, a2, n2, c2, fps2, fps, h1, h2, h3, h4, h5, h6, h7, h8, h9⟩ := hI
  have hG := hidden (show q1 = L1.length ∧ q2 = L2.length by
    obtain ⟨a', c', e⟩ := h8.a1.shape
    obtain ⟨a2', c2', e2⟩ := h8.a2.shape
    simp only [Value.slice.injEq] at e e2
    exact ⟨e.2.1, e2.2.1⟩)
  have HC := hidden hcont
  have HF := hidden h8
  have H1 := hidden h1
  have H2 := hidden h2
  have H3 := hidden h3
  have H4 := hidden h4
  have H7 := hidden h7
  have x0 := h7.cell (j := 0) rfl
  have x1 := h7.cell (j := 1) rfl
  have xl := h7.lt
  have hsm : q1 + q2 ≤ 1048576 := by have := hG.out; omega
  clear hcont h8 h7 h1 h2 h3 h4
  show (Code.region _ _ _).wp _ _ _ _
  go_wp2_with (first | (first | (go_at_call 20; (with_reducible refine (kid_many _ _ _ _ _ _ _ hsm).mono ?_); rintro _ _ ⟨rfl, x, rfl⟩)) | ((first | with_reducible refine wp_region_qe (by kernel_rfl) (by kernel_rfl) ?_ | with_reducible refine wp_region_q (by kernel_rfl) (by kernel_rfl) ?_); (repeat (go_big_quiet_step ((first | (go_at_call 20; first | with_reducible exact Calls.qb (by assumption) (kid_many _ _ _ _ _ _ _ hsm) | with_reducible exact Calls.q (kid_many _ _ _ _ _ _ _ hsm)))))); refine wpQuiet_nil ?_; intro x))
  exact HC.out _ _ ⟨_, _, _, _, _, _, _, _, _, _, _, _, _, _, _, _, _, _, _, _, _, _, _, _, _, _, _, _, _, _, _, _, _, _, _, _, _, _, _, _, _, _, _, _, _, rfl⟩ (congrArg Value.bool (by have := hG.out; rw [Bool.eq_iff_iff]; simp; omega)) ⟨wb, a1, n1, c1, a2, n2, c2, fps2, fps, H1.out, H2.out, H3.out, H4.out, h5, h6.trans (by repeat (first | with_reducible exact Ext.refl _ | with_reducible apply Ext.and | with_reducible apply Ext.drewx | with_reducible apply Ext.alloc | with_reducible apply Ext.ext | with_reducible apply Ext.drew | with_reducible refine Ext.setCell ?_ (by simp) _)), H7.out.extends (by repeat (first | with_reducible exact Ext.refl _ | with_reducible apply Ext.and | with_reducible apply Ext.drewx | with_reducible apply Ext.alloc | with_reducible apply Ext.ext | with_reducible apply Ext.drew | with_reducible refine Ext.setCell ?_ (by simp) _)), HF.out.ext (by repeat (first | with_reducible exact Ext.refl _ | with_reducible apply Ext.and | with_reducible apply Ext.drewx | with_reducible apply Ext.alloc | with_reducible apply Ext.ext | with_reducible apply Ext.drew | with_reducible refine Ext.setCell ?_ (by simp) _)), h9⟩

end Go.Proofs.Ytngehfhcnfobbaa
