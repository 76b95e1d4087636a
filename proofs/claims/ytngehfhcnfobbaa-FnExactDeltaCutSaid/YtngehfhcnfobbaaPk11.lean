/- Lemmas for it, part 11. No condition. -/
import Derived.Test.YtngehfhcnfobbaaPk10
namespace Go.Proofs.Ytngehfhcnfobbaa
open Go

section
variable {P : Program} {c : Cx} {ρ ρ' : Nat → Nat → Prop} {α β : Type}

/-- Conversions that are served: to a kind of numbers; a string; bytes to a string. -/
def CvK (P : Program) (s d : TypeId) : Prop :=
  ∃ x y, P.underlying s = some x ∧ P.underlying d = some y ∧ (((∃ k, x = .int k) ∧ ∃ k, y = .int k) ∨ (x = .string ∧ y = .string) ∨ ((∃ e, x = .slice e ∧ P.underlying e = some (.int .u8)) ∧ y = .string))

theorem sim_convert {s d : TypeId} (h : CvK P s d) {v v' : Value} (hv : VR c ρ v v') : Sim P c ρ (VR c) (convert s d v) (convert s d v') := by
  obtain ⟨x, y, hx, hy, h⟩ := h
  unfold convert
  refine Sim.bind (same_underlying s).sim ?_
  rintro ρ1 g1 a _ ⟨rfl, ha⟩
  refine Sim.bind (same_underlying d).sim ?_
  rintro ρ2 g2 b _ ⟨rfl, hb⟩
  rw [hx] at ha
  rw [hy] at hb
  cases ha
  cases hb
  have hv2 := (hv.mono g1).mono g2
  clear hv
  rcases h with ⟨⟨k, rfl⟩, k', rfl⟩ | ⟨rfl, rfl⟩ | ⟨⟨e, rfl, he⟩, rfl⟩
  · cases hv2 <;> first | exact .pure (.int _ _) | exact .halt trivial
  · cases hv2 with
    | int k n => exact .pure (.string _)
    | string a => exact .pure (.string a)
    | _ => exact .halt trivial
  · have key : ∀ {ρ3} {u u' : Value}, VR c ρ3 u u' → Sim P c ρ3 (VR c)
        (do match ← underlying e with | .int .u8 => Conv.bytesToString u | .int .i32 => Conv.runesToString u | _ => stuck "Convert: a slice of what to string?")
        (do match ← underlying e with | .int .u8 => Conv.bytesToString u' | .int .i32 => Conv.runesToString u' | _ => stuck "Convert: a slice of what to string?") := by
      intro ρ3 u u' hu
      refine Sim.bind (same_underlying e).sim ?_
      rintro ρ4 g4 z _ ⟨rfl, hz⟩
      rw [he] at hz
      cases hz
      exact sim_bytesToString (hu.mono g4)
    cases hv2 with
    | int k n => exact .pure (.string _)
    | string a => exact .pure (.string a)
    | bool b => exact key (.bool b)
    | nilp => exact key .nilp
    | ptr o s h => exact key (.ptr o s h)
    | nils n m => exact key (.nils n m)
    | slice o s n m h => exact key (.slice o s n m h)
    | void a => exact key (.void a)
    | nilFunc => exact key .nilFunc
    | nilIface => exact key .nilIface
    | func a b c d e => exact key (.func a b c d e)
    | iface a b => exact key (.iface a b)
    | agg a b => exact key (.agg a b)
    | tuple a b => exact key (.tuple a b)
    | tok hk a n m => exact key (.tok hk a n m)
    | tokc hk r => exact key (.tokc hk r)
    | junk u h =>
      refine .dead ?_
      refine Lone.bind (lone_underlying e) fun z _ => ?_
      cases z with
      | int k => cases k <;> exact Lone.halt trivial
      | _ => exact Lone.halt trivial

theorem Lone.shape (r : Nat) : Lone P (fun _ => True) (Go.shape r) := fun w => ⟨fun _ _ => 0, 0, .ok (w.shape? r) w, fun _ _ _ => rfl, trivial⟩
theorem Lone.frozen (a : Addr) : Lone P (fun _ => True) (Go.frozen a) := fun w => ⟨fun _ _ => 0, 0, .ok (w.frozen? a) w, fun _ _ _ => rfl, trivial⟩
theorem Lone.mark (m : Mark) : Lone P (fun _ => True) (Go.mark m) := fun w => ⟨fun _ _ => 0, 0, .ok () w, fun _ _ _ => rfl, trivial⟩
theorem lone_holdsCells (a : Addr) (n : Nat) : Lone P (fun _ => True) (Builtin.holdsCells a n) := by
  unfold Builtin.holdsCells
  refine Lone.bind (Lone.shape _) fun z _ => ?_
  split <;> exact .pure trivial
theorem lone_mayShare (size sLen n : Nat) (base : Option Addr) (x : Value) : Lone P (fun _ => True) (Builtin.mayShare size sLen n base x) := by
  have fin : ∀ there : Bool, Lone P (fun _ => True) (do
      if !there then return true
      match x with
      | .slice (some b) _ _ => do pure (!(← Builtin.holdsCells b (n * size)) || base.any (·.block == b.block))
      | _ => pure false : Sem Bool) := by
    intro there
    split
    · exact .pure trivial
    · split
      · exact Lone.bind (lone_holdsCells _ _) fun _ _ => .pure trivial
      · exact .pure trivial
  unfold Builtin.mayShare
  cases base with
  | none => exact Lone.bind (Q := fun _ => True) (.pure trivial) fun there _ => fin there
  | some a => exact Lone.bind (lone_holdsCells _ _) fun _ _ => Lone.bind (Lone.frozen _) fun _ _ => Lone.bind (Q := fun _ => True) (.pure trivial) fun there _ => fin there

theorem sim_lenOf {v v' : Value} (hv : VR c ρ v v') : Sim P c ρ (fun _ a b => a = b ∧ ∀ ad, v = .slice ad 0 0 → a = 0) (Builtin.lenOf v) (Builtin.lenOf v') := by
  cases hv <;> first | exact .stuck | exact .pure ⟨rfl, fun _ e => by cases e <;> rfl⟩
theorem loadCells_zero (a : Addr) (size : Nat) : loadCells a (0 * size) = Pure.pure #[] := by rw [Nat.zero_mul]; rfl
theorem firstCells_zero {size : Nat} {v v' : Value} (hv : VR c ρ v v') : Sim P c ρ (fun _ a b => a = #[] ∧ b = #[]) (Builtin.firstCells size 0 v) (Builtin.firstCells size 0 v') := by
  cases hv with
  | nils n m => exact .pure ⟨rfl, rfl⟩
  | slice o s k m h =>
    show Sim P c ρ _ (loadCells _ (0 * size)) (loadCells _ (0 * size))
    rw [loadCells_zero, loadCells_zero]
    exact .pure ⟨rfl, rfl⟩
  | void a =>
    show Sim P c ρ _ (loadCells _ (0 * size)) (loadCells _ (0 * size))
    rw [loadCells_zero]
    exact .pure ⟨rfl, rfl⟩
  | string s => exact .pure ⟨by simp, by simp⟩
  | _ => exact .stuck
theorem sim_firstCells (size n : Nat) {v v' : Value} (hv : VR c ρ v v') (h0 : ∀ ad, v = .slice ad 0 0 → n = 0) : Sim P c ρ (fun ρ a b => AR c ρ a b ∧ (n = 0 → a = #[] ∧ b = #[])) (Builtin.firstCells size n v) (Builtin.firstCells size n v') := by
  by_cases hn : n = 0
  · subst hn
    exact (firstCells_zero hv).mono fun _ a b _ h => by
      obtain ⟨rfl, rfl⟩ := h
      exact ⟨.nil, fun _ => ⟨rfl, rfl⟩⟩
  cases hv with
  | nils n m => exact .pure ⟨.nil, fun _ => ⟨rfl, rfl⟩⟩
  | slice o s k m h => exact (Sim.loadCells (adR o s h) _).mono fun _ a b _ h => ⟨h, fun e => absurd e hn⟩
  | void a => exact absurd (h0 _ rfl) hn
  | string s =>
    refine .pure ⟨AR.plain fun v hv => ?_, fun e => absurd e hn⟩
    obtain ⟨b, _, rfl⟩ := Array.mem_map.1 hv
    exact fun _ _ => .int _ _
  | _ => exact .stuck
theorem sim_askRoom (n : Nat) : Sim P c ρ (fun _ _ _ => True) (askRoom n) (askRoom n) := by
  unfold askRoom
  split
  · exact Sim.mark (.inl rfl)
  · exact .pure trivial

theorem AR.args {xs xs' : Array Value} (h : AR c ρ xs xs') : OV c ρ xs[0]? xs'[0]? ∧ OV c ρ xs[1]? xs'[1]? := by
  constructor
  · rcases h.get? 0 with ⟨e1, e2⟩ | ⟨u, u', e1, e2, e3⟩ <;> rw [e1, e2]
    · exact .none
    · exact .some e3
  · rcases h.get? 1 with ⟨e1, e2⟩ | ⟨u, u', e1, e2, e3⟩ <;> rw [e1, e2]
    · exact .none
    · exact .some e3

/-- An append whose second argument is no count. -/
structure AppOk (P : Program) (argTypes : Array TypeId) : Prop where
  elem : ∀ t e, argTypes[0]? = some t → P.underlying t = some (.slice e) → ZOk P e
  more : ∀ t k, argTypes[1]? = some t → P.underlying t ≠ some (.int k)

def appTail (elem : TypeId) (size n : Nat) (base : Option Addr) (sLen sCap : Nat) (s x : Value) : Sem Value := do
  let need := sLen + n
  if need ≤ sCap then
    let new ← Builtin.firstCells size n x
    if let some a := base then storeCells (a.add (sLen * size)) new.toList
    pure (.slice base need sCap)
  else
    if (need : Int) > IntKind.i64.max ∧ (false = true ∨ (← typeInfo elem).bytes = 0) then runtimePanic (.error "growslice: len out of range")
    if Builtin.nextslicecap need sCap * (← typeInfo elem).bytes > 2 ^ 48 then (do
      if !(← Builtin.mayShare size sLen n base x) then mark .noRoom
      unsupported (.resourceLimit "append: a slice or a string whose bytes no memory bears"))
    let newCap ← choose (.appendCap need sCap elem)
    askRoom (newCap * (← typeInfo elem).bytes)
    let old ← Builtin.firstCells size sLen s
    let new ← Builtin.firstCells size n x
    let rest := Builtin.zeroCells (← zeroValue elem).cells (newCap - need)
    pure (.slice (some (← newRow elem (old ++ new ++ rest))) need newCap)

theorem sim_appTail {elem : TypeId} (hz : ZOk P elem) (size n : Nat) {base base' : Option Addr} (sLen sCap : Nat) (hb : OA ρ base base' ∨ ∃ a, base = some a ∧ base' = some a ∧ sLen = 0 ∧ sCap = 0) {s s' x x' : Value} (hs : VR c ρ s s') (hs0 : ∀ ad, s = .slice ad 0 0 → sLen = 0) (hx : VR c ρ x x') (hx0 : ∀ ad, x = .slice ad 0 0 → n = 0) :
    Sim P c ρ (VR c) (appTail elem size n base sLen sCap s x) (appTail elem size n base' sLen sCap s' x') := by
  unfold appTail
  dsimp only
  split
  · rename_i hle
    refine Sim.bind (sim_firstCells size n hx hx0) ?_
    rintro ρ1 g1 xs xs' ⟨hxs, hx1⟩
    rcases hb with hb | ⟨a, rfl, rfl, rfl, rfl⟩
    · cases hb with
      | none => exact .pure (.nils _ _)
      | some h =>
        refine Sim.bind (Sim.storeCells hxs.list ((h.mono g1).add _) 0) ?_
        rintro ρ2 g2 _ _ _
        exact .pure (.sliceA ((h.mono g1).mono g2) _ _)
    · obtain rfl : n = 0 := by omega
      obtain ⟨rfl, rfl⟩ := hx1 rfl
      exact Sim.bind (R := fun _ _ _ => True) (.pure trivial) fun _ _ _ _ _ => .pure (.void a)
  · refine Sim.bind (same_typeInfo elem).sim ?_
    rintro ρ1 g1 i _ ⟨rfl, _⟩
    have rest : ∀ {ρ2}, (∀ a b, ρ a b → ρ2 a b) → Sim P c ρ2 (VR c)
        (do
          let newCap ← choose (.appendCap (sLen + n) sCap elem)
          askRoom (newCap * (← typeInfo elem).bytes)
          let old ← Builtin.firstCells size sLen s
          let new ← Builtin.firstCells size n x
          let rest := Builtin.zeroCells (← zeroValue elem).cells (newCap - (sLen + n))
          pure (.slice (some (← newRow elem (old ++ new ++ rest))) (sLen + n) newCap))
        (do
          let newCap ← choose (.appendCap (sLen + n) sCap elem)
          askRoom (newCap * (← typeInfo elem).bytes)
          let old ← Builtin.firstCells size sLen s'
          let new ← Builtin.firstCells size n x'
          let rest := Builtin.zeroCells (← zeroValue elem).cells (newCap - (sLen + n))
          pure (.slice (some (← newRow elem (old ++ new ++ rest))) (sLen + n) newCap)) := by
      intro ρ2 g2
      refine Sim.bind (Sim.choose _) ?_
      rintro ρ3 g3 k _ rfl
      refine Sim.bind (same_typeInfo elem).sim ?_
      rintro ρ4 g4 i _ ⟨rfl, _⟩
      refine Sim.bind (sim_askRoom _) ?_
      rintro ρ5 g5 _ _ _
      refine Sim.bind (sim_firstCells size sLen ((((hs.mono g2).mono g3).mono g4).mono g5) hs0) ?_
      rintro ρ6 g6 os os' ⟨ho, _⟩
      refine Sim.bind (sim_firstCells size n (((((hx.mono g2).mono g3).mono g4).mono g5).mono g6) hx0) ?_
      rintro ρ7 g7 ns ns' ⟨hn, _⟩
      refine Sim.bind (same_zeroValue hz).sim ?_
      rintro ρ8 g8 z _ ⟨rfl, hpl⟩
      refine Sim.bind (Sim.newRow (((ho.mono g7).mono g8 |>.append (hn.mono g8)).append (AR.zeros hpl _)) elem) ?_
      rintro ρ9 g9 r r' hr
      exact .pure (.sliceA hr _ _)
    split
    · exact .dead (Lone.bind (dead_runtimePanic _) fun _ h => h.elim)
    · refine Sim.bind (same_typeInfo elem).sim ?_
      rintro ρ2 g2 i2 _ ⟨rfl, _⟩
      split
      · refine .dead ?_
        refine Lone.bind (Q := fun _ => False) (Lone.bind (lone_mayShare _ _ _ _ _) fun b _ => ?_) fun _ h => h.elim
        split
        · exact Lone.bind (Lone.mark _) fun _ _ => .halt trivial
        · exact .halt trivial
      · exact rest fun a b h => g2 _ _ (g1 _ _ h)

theorem sim_append {ts : Array TypeId} (hA : AppOk P ts) (t : TypeId) {xs xs' : Array Value} (hx : AR c ρ xs xs') : Sim P c ρ (VR c) (Builtin.append_ ts t xs) (Builtin.append_ ts t xs') := by
  obtain ⟨h0, h1⟩ := hx.args
  unfold Builtin.append_
  cases hs : ts[0]? with
  | none => exact .stuck
  | some sType =>
    generalize xs[0]? = a at h0 ⊢
    generalize xs'[0]? = a' at h0 ⊢
    generalize xs[1]? = b at h1 ⊢
    generalize xs'[1]? = b' at h1 ⊢
    cases h0 with
    | none => exact .stuck
    | some hs0 => cases h1 with
      | none => exact .stuck
      | @some x x' hx0 =>
        dsimp only
        refine Sim.bind (same_underlying sType).sim ?_
        rintro ρ1 g1 d _ ⟨rfl, hd⟩
        cases d with
        | slice elem =>
          have hz := hA.elem _ _ hs hd
          have key : ∀ {ρ2} (_ : ∀ a b, ρ1 a b → ρ2 a b) {base base' : Option Addr} (size sLen sCap : Nat) (_ : OA ρ1 base base' ∨ ∃ a, base = some a ∧ base' = some a ∧ sLen = 0 ∧ sCap = 0), Sim P c ρ2 (VR c)
              (do let n ← Builtin.lenOf x; appTail elem size n base sLen sCap (.slice base sLen sCap) x)
              (do let n ← Builtin.lenOf x'; appTail elem size n base' sLen sCap (.slice base' sLen sCap) x') := by
            intro ρ2 g2 base base' size sLen sCap hb
            refine Sim.bind (sim_lenOf ((hx0.mono g1).mono g2)) ?_
            rintro ρ3 g3 n _ ⟨rfl, hn0⟩
            refine sim_appTail hz size n sLen sCap (hb.imp (fun hb => (hb.mono g2).mono g3) id) ?_ (fun _ e => by cases e; rfl) (((hx0.mono g1).mono g2).mono g3) hn0
            rcases hb with hb | ⟨a, rfl, rfl, rfl, rfl⟩
            · exact ((hb.mono g2).mono g3).slice _ _
            · exact .void a
          cases (hs0.mono g1) with
          | nils n m =>
            refine Sim.bind (same_sizeOf elem).sim ?_
            rintro ρ2 g2 size _ ⟨rfl, _⟩
            cases ht : ts[1]? with
            | none =>
              refine Sim.bind (Sim.pure (R := fun _ a b => a = false ∧ b = false) ⟨rfl, rfl⟩) ?_
              rintro ρ3 g3 _ _ ⟨rfl, rfl⟩
              exact key (fun a b h => g3 _ _ (g2 _ _ h)) size n m (.inl .none)
            | some u =>
              refine Sim.bind (same_underlying u).sim ?_
              rintro ρ3 g3 d _ ⟨rfl, hd⟩
              have hne : ∀ z, P.underlying u = some z → (match z with | .int _ => true | _ => false) = false := by
                intro z hz
                cases z <;> first | rfl | exact absurd hz (hA.more _ _ ht)
              refine Sim.bind (Sim.pure (R := fun _ a b => a = false ∧ b = false) ⟨hne d hd, hne d hd⟩) ?_
              rintro ρ4 g4 _ _ ⟨rfl, rfl⟩
              exact key (fun a b h => g4 _ _ (g3 _ _ (g2 _ _ h))) size n m (.inl .none)
          | slice o s n m h =>
            refine Sim.bind (same_sizeOf elem).sim ?_
            rintro ρ2 g2 size _ ⟨rfl, _⟩
            cases ht : ts[1]? with
            | none =>
              refine Sim.bind (Sim.pure (R := fun _ a b => a = false ∧ b = false) ⟨rfl, rfl⟩) ?_
              rintro ρ3 g3 _ _ ⟨rfl, rfl⟩
              exact key (fun a b h => g3 _ _ (g2 _ _ h)) size n m (.inl (.some (adR o s h)))
            | some u =>
              refine Sim.bind (same_underlying u).sim ?_
              rintro ρ3 g3 d _ ⟨rfl, hd⟩
              have hne : ∀ z, P.underlying u = some z → (match z with | .int _ => true | _ => false) = false := by
                intro z hz
                cases z <;> first | rfl | exact absurd hz (hA.more _ _ ht)
              refine Sim.bind (Sim.pure (R := fun _ a b => a = false ∧ b = false) ⟨hne d hd, hne d hd⟩) ?_
              rintro ρ4 g4 _ _ ⟨rfl, rfl⟩
              exact key (fun a b h => g4 _ _ (g3 _ _ (g2 _ _ h))) size n m (.inl (.some (adR o s h)))
          | void a =>
            refine Sim.bind (same_sizeOf elem).sim ?_
            rintro ρ2 g2 size _ ⟨rfl, _⟩
            cases ht : ts[1]? with
            | none =>
              refine Sim.bind (Sim.pure (R := fun _ a b => a = false ∧ b = false) ⟨rfl, rfl⟩) ?_
              rintro ρ3 g3 _ _ ⟨rfl, rfl⟩
              exact key (fun a b h => g3 _ _ (g2 _ _ h)) size 0 0 (.inr ⟨a, rfl, rfl, rfl, rfl⟩)
            | some u =>
              refine Sim.bind (same_underlying u).sim ?_
              rintro ρ3 g3 d _ ⟨rfl, hd⟩
              have hne : ∀ z, P.underlying u = some z → (match z with | .int _ => true | _ => false) = false := by
                intro z hz
                cases z <;> first | rfl | exact absurd hz (hA.more _ _ ht)
              refine Sim.bind (Sim.pure (R := fun _ a b => a = false ∧ b = false) ⟨hne d hd, hne d hd⟩) ?_
              rintro ρ4 g4 _ _ ⟨rfl, rfl⟩
              exact key (fun a b h => g4 _ _ (g3 _ _ (g2 _ _ h))) size 0 0 (.inr ⟨a, rfl, rfl, rfl, rfl⟩)
          | _ => exact .stuck
        | _ => exact .stuck

theorem sim_copy (ts : Array TypeId) (t : TypeId) {xs xs' : Array Value} (hx : AR c ρ xs xs') : Sim P c ρ (VR c) (Builtin.copy_ ts t xs) (Builtin.copy_ ts t xs') := by
  obtain ⟨h0, h1⟩ := hx.args
  unfold Builtin.copy_
  cases hs : ts[0]? with
  | none => exact .stuck
  | some sType =>
    generalize xs[0]? = a at h0 ⊢
    generalize xs'[0]? = a' at h0 ⊢
    generalize xs[1]? = b at h1 ⊢
    generalize xs'[1]? = b' at h1 ⊢
    cases h0 with
    | none => exact .stuck
    | some hs0 => cases h1 with
      | none => exact .stuck
      | @some x x' hx0 =>
        dsimp only
        refine Sim.bind (same_underlying sType).sim ?_
        rintro ρ1 g1 d _ ⟨rfl, hd⟩
        cases d with
        | slice elem =>
          have key : ∀ {base base' : Option Addr} (dLen : Nat) (_ : OA ρ1 base base' ∨ ∃ a, base = some a ∧ base' = some a ∧ dLen = 0), Sim P c ρ1 (VR c)
              (do
                let n := Nat.min (← Builtin.lenOf x) dLen
                let cells ← Builtin.firstCells (← sizeOf elem) n x
                if let some a := base then storeCells a cells.toList
                pure (goInt n))
              (do
                let n := Nat.min (← Builtin.lenOf x') dLen
                let cells ← Builtin.firstCells (← sizeOf elem) n x'
                if let some a := base' then storeCells a cells.toList
                pure (goInt n)) := by
            intro base base' dLen hb
            refine Sim.bind (sim_lenOf (hx0.mono g1)) ?_
            rintro ρ3 g3 n _ ⟨rfl, hn0⟩
            refine Sim.bind (same_sizeOf elem).sim ?_
            rintro ρ4 g4 size _ ⟨rfl, _⟩
            refine Sim.bind (sim_firstCells _ _ (((hx0.mono g1).mono g3).mono g4) (fun ad e => by rw [hn0 ad e]; exact Nat.zero_min _)) ?_
            rintro ρ5 g5 cs cs' ⟨hc, hc0⟩
            rcases hb with hb | ⟨a, rfl, rfl, rfl⟩
            · cases hb with
              | none => exact .pure (.int _ _)
              | some h =>
                refine Sim.bind (Sim.storeCells hc.list (((h.mono g3).mono g4).mono g5) 0) ?_
                rintro ρ6 g6 _ _ _
                exact .pure (.int _ _)
            · obtain ⟨rfl, rfl⟩ := hc0 (Nat.min_zero _)
              exact Sim.bind (R := fun _ _ _ => True) (.pure trivial) fun _ _ _ _ _ => .pure (.int _ _)
          cases (hs0.mono g1) with
          | nils n m => exact key n (.inl .none)
          | slice o s n m h => exact key n (.inl (.some (adR o s h)))
          | void a => exact key 0 (.inr ⟨a, rfl, rfl, rfl⟩)
          | _ => exact .stuck
        | _ => exact .stuck

theorem sim_len (ts : Array TypeId) (t : TypeId) {xs xs' : Array Value} (hx : AR c ρ xs xs') : Sim P c ρ (VR c) (Builtin.len_ ts t xs) (Builtin.len_ ts t xs') := by
  obtain ⟨h0, _⟩ := hx.args
  unfold Builtin.len_
  cases hs : ts[0]? with
  | none => exact .stuck
  | some sType =>
    generalize xs[0]? = a at h0 ⊢
    generalize xs'[0]? = a' at h0 ⊢
    cases h0 with
    | none => exact .stuck
    | some hs0 =>
      dsimp only
      refine Sim.bind (same_underlying sType).sim ?_
      rintro ρ1 g1 d _ ⟨rfl, hd⟩
      have arr : ∀ arr : TypeId, Sim P c ρ1 (VR c) 
          (do
            let .array n _ ← underlying arr | stuck "len: pointer to array expected"
            pure (goInt n))
          (do
            let .array n _ ← underlying arr | stuck "len: pointer to array expected"
            pure (goInt n)) := by
        intro arr
        refine Sim.bind (same_underlying arr).sim ?_
        rintro ρ2 g2 d _ ⟨rfl, _⟩
        cases d <;> first | exact .pure (.int _ _) | exact .stuck
      have h1 := hs0.mono g1
      clear hs0
      cases d with
      | array n e => exact .pure (.int _ _)
      | pointer p => exact arr p
      | slice e => cases h1 <;> first | exact .pure (.int _ _) | exact .stuck
      | string => cases h1 <;> first | exact .pure (.int _ _) | exact .stuck
      | _ => cases h1 <;> exact .stuck

theorem sim_cap (ts : Array TypeId) (t : TypeId) {xs xs' : Array Value} (hx : AR c ρ xs xs') : Sim P c ρ (VR c) (Builtin.cap_ ts t xs) (Builtin.cap_ ts t xs') := by
  obtain ⟨h0, _⟩ := hx.args
  unfold Builtin.cap_
  cases hs : ts[0]? with
  | none => exact .stuck
  | some sType =>
    generalize xs[0]? = a at h0 ⊢
    generalize xs'[0]? = a' at h0 ⊢
    cases h0 with
    | none => exact .stuck
    | some hs0 =>
      dsimp only
      refine Sim.bind (same_underlying sType).sim ?_
      rintro ρ1 g1 d _ ⟨rfl, hd⟩
      have arr : ∀ arr : TypeId, Sim P c ρ1 (VR c) 
          (do
            let .array n _ ← underlying arr | stuck "cap: pointer to array expected"
            pure (goInt n))
          (do
            let .array n _ ← underlying arr | stuck "cap: pointer to array expected"
            pure (goInt n)) := by
        intro arr
        refine Sim.bind (same_underlying arr).sim ?_
        rintro ρ2 g2 d _ ⟨rfl, _⟩
        cases d <;> first | exact .pure (.int _ _) | exact .stuck
      have h1 := hs0.mono g1
      clear hs0
      cases d with
      | array n e => exact .pure (.int _ _)
      | pointer p => exact arr p
      | slice e => cases h1 <;> first | exact .pure (.int _ _) | exact .stuck
      | _ => cases h1 <;> exact .stuck

/-- A slice that is cleared. -/
def ClrOk (P : Program) (ts : Array TypeId) : Prop := ∀ t, ts[0]? = some t → ∃ e, P.underlying t = some (.slice e) ∧ ZOk P e

theorem sim_clear {ts : Array TypeId} (hC : ClrOk P ts) (t : TypeId) {xs xs' : Array Value} (hx : AR c ρ xs xs') : Sim P c ρ (VR c) (Builtin.clear_ ts t xs) (Builtin.clear_ ts t xs') := by
  obtain ⟨h0, _⟩ := hx.args
  unfold Builtin.clear_
  cases hs : ts[0]? with
  | none => exact .stuck
  | some sType =>
    generalize xs[0]? = a at h0 ⊢
    generalize xs'[0]? = a' at h0 ⊢
    cases h0 with
    | none => exact .stuck
    | some hs0 =>
      dsimp only
      refine Sim.bind (same_underlying sType).sim ?_
      rintro ρ1 g1 d _ ⟨rfl, hd⟩
      obtain ⟨e, he, hz⟩ := hC _ hs
      rw [he] at hd
      cases hd
      have h1 := hs0.mono g1
      clear hs0
      have unit : Sim P c ρ1 (VR c) (pure (.tuple #[])) (pure (.tuple #[])) := .pure (VR.tuple (xs := #[]) (xs' := #[]) rfl (fun i v v' h => by simp at h))
      cases h1 with
      | nils n m => exact unit
      | void a => exact unit
      | slice o s n m h =>
        cases n with
        | zero => exact unit
        | succ n =>
          refine Sim.bind (same_zeroValue hz).sim ?_
          rintro ρ2 g2 z _ ⟨rfl, hpl⟩
          refine Sim.bind (Sim.storeCells (AR.zeros hpl _).list ((adR o s h).mono g2) 0) ?_
          rintro ρ3 g3 _ _ _
          exact .pure (VR.tuple (xs := #[]) (xs' := #[]) rfl (fun i v v' h => by simp at h))
      | _ => exact .dead (Lone.bind (Q := fun _ => False) (.halt trivial) fun _ h => h.elim)
end
end Go.Proofs.Ytngehfhcnfobbaa
namespace Go.Proofs.Ytngehfhcnfobbaa
open Go

section
variable (P : Program) (c : Cx)

/-- What an operation hands on. -/
inductive NR (ρ : Nat → Nat → Prop) : Next → Next → Prop
  | value {v v' : Value} (h : VR c ρ v v') : NR ρ (.value v) (.value v')
  | skip : NR ρ .skip .skip
  | enter {f : FuncId} {xs xs' : Array Value} (hT : c.T f) (hb : ∃ fn, P.funcs[f]? = some fn ∧ fn.body.isSome = true) (h : AR c ρ xs xs') : NR ρ (.enter f xs) (.enter f xs')

/-- The methods of a type are served. -/
def MethOk (t : TypeId) : Prop := ∀ i, P.info? t = some i → ∀ m ∈ i.methods, m.path = #[] ∧ ∃ f pr, m.func = some (f, pr) ∧ c.T f

structure COk : Prop where
  tok : P.funcs[c.K]? = none
  tokT : ¬ c.T c.K
  noCopy : P.noCopyChecker
  glob : ¬ c.Tk → P.globals.size ≤ c.G
  func : ∀ f, c.T f → ∀ ρ xs xs', AR c ρ xs xs' → Sim P c ρ (NR P c) (callFunc f xs) (callFunc f xs')
  meth : ∀ t, c.M t → MethOk P c t

def OdOk : Operand → Prop
  | .tmp _ => True
  | .const v => Plain v
  | .global g => g < c.G
  | .func f => c.T f

def CallOk (k : Call) : Prop :=
  (∀ x ∈ k.args, OdOk c x) ∧
  match k.callee with
  | .value f => OdOk c f
  | .invoke r _ => OdOk c r
  | .builtin .append => AppOk P k.argTypes
  | .builtin .clear => ClrOk P k.argTypes
  | .builtin .len | .builtin .cap | .builtin .copy => True
  | .builtin _ => False

def OpOk : Op → Prop
  | .move x | .assign x => OdOk c x
  | .pick a b d => OdOk c a ∧ OdOk c b ∧ OdOk c d
  | .alloc e => ZOk P e
  | .box _ x => OdOk c x
  | .build t ps => ZOk P t ∧ ∀ p ∈ ps, OdOk c p.2
  | .buildSlice t _ ps => (∀ e, P.underlying t = some (.slice e) → ZOk P e) ∧ ∀ p ∈ ps, OdOk c p.2
  | .load _ x => OdOk c x
  | .store _ x y => OdOk c x ∧ OdOk c y
  | .nilCheck x => ¬ c.J ∧ OdOk c x
  | .binOp op t x y _ => ¬ c.Tk ∧ (op = .eql ∨ op = .neq → P.eqGuardType P.depth t = false ∨ ∃ ms, P.underlying t = some (.interface ms)) ∧ OdOk c x ∧ OdOk c y
  | .unOp _ _ x => OdOk c x
  | .convert s d x => CvK P s d ∧ OdOk c x
  | .makeInterface t x => c.M t ∧ OdOk c x
  | .makeFunc (.func f) xs ys => c.T f ∧ (∀ x ∈ xs, OdOk c x) ∧ ∀ x ∈ ys, OdOk c x
  | .makeSlice t x y => (∀ e, P.underlying t = some (.slice e) → ZOk P e) ∧ OdOk c x ∧ OdOk c y
  | .slice _ x lo hi mx => OdOk c x ∧ (∀ y, lo = some y → OdOk c y) ∧ (∀ y, hi = some y → OdOk c y) ∧ ∀ y, mx = some y → OdOk c y
  | .fieldAddr s x k => (∀ fs f, P.underlying s = some (.struct fs) → fs[k]? = some f → P.cellsOf f.type ≠ 0) ∧ OdOk c x
  | .indexAddr _ x y | .index _ x y => OdOk c x ∧ OdOk c y
  | .typeAssert x _ u _ => ZOk P u ∧ OdOk c x
  | .extract x _ => OdOk c x
  | .call k => CallOk P c k
  | .panic x => OdOk c x
  | _ => False
end

section
variable {P : Program} {c : Cx} {ρ ρ' : Nat → Nat → Prop} {α β : Type}

theorem NR.mono (hs : ∀ b b', ρ b b' → ρ' b b') {n n' : Next} (h : NR P c ρ n n') : NR P c ρ' n n' := by
  cases h with
  | value h => exact .value (h.mono hs)
  | skip => exact .skip
  | enter hT hb h => exact .enter hT hb (h.mono hs)

/-- A function that has a body is entered. -/
theorem sim_callBody {f : FuncId} (hT : c.T f) {fn : Func} (hf : P.funcs[f]? = some fn) (hn : (fn.name == "runtime.NumGoroutine") = false) (hb : fn.body.isSome = true) {xs xs' : Array Value} (hx : AR c ρ xs xs') :
    Sim P c ρ (NR P c) (callFunc f xs) (callFunc f xs') := by
  unfold callFunc
  refine Sim.bind Sim.program ?_
  rintro ρ1 g1 p p' ⟨e1, e2⟩
  subst e1
  subst e2
  have hb' : fn.body.isNone = false := by cases h : fn.body <;> simp_all
  simp only [hf, hn, hb', Bool.false_eq_true, if_false]
  exact .pure (.enter hT ⟨fn, hf, hb⟩ (hx.mono g1))

theorem Lone.ite {Q : α → Prop} {C : Prop} [Decidable C] {x y : Sem α} (h1 : C → Lone P Q x) (h2 : ¬ C → Lone P Q y) : Lone P Q (if C then x else y) := by
  split
  · exact h1 ‹_›
  · exact h2 ‹_›
theorem sim_wrapNil (t : TypeId) (name : String) {v v' : Value} (hv : VR c ρ v v') : Sim P c ρ (VR c) (Builtin.ssaWrapNilChk_ #[t] t #[v, strVal "", strVal name]) (Builtin.ssaWrapNilChk_ #[t] t #[v', strVal "", strVal name]) := by
  unfold Builtin.ssaWrapNilChk_
  cases hv with
  | ptr o s h => exact .pure (.ptr o s h)
  | nilp =>
    refine .dead ?_
    refine Lone.bind (Lone.choose _) fun k _ => ?_
    refine Lone.ite (fun _ => ?_) fun _ => ?_
    · exact Lone.bind (dead_runtimePanic _) fun _ h => h.elim
    · refine Lone.bind (lone_underlying _) fun d _ => ?_
      split
      · refine Lone.bind (Q := fun _ => True) ?_ fun i _ => ?_
        · unfold typeInfo
          refine Lone.bind Lone.program fun p _ => ?_
          split
          · exact .pure trivial
          · exact .halt trivial
        · split
          · split
            · dsimp only
              split
              · exact dead_runtimePanic _
              · exact .halt trivial
            · exact .halt trivial
          · exact .halt trivial
      · exact .halt trivial
  | _ => exact .stuck

theorem sim_receiverAt (t : TypeId) {v v' : Value} (hv : VR c ρ v v') (pr : Bool) (wr : Option String) : Sim P c ρ (VR c) (receiverAt t (.val v) pr wr) (receiverAt t (.val v') pr wr) := by
  unfold receiverAt
  refine Sim.bind (same_underlying t).sim ?_
  rintro ρ1 g1 d _ ⟨rfl, _⟩
  have h1 := hv.mono g1
  have ld : ∀ (elem : TypeId), Sim P c ρ1 (VR c)
      (do
        let ptr ← (Place.val v).get t
        let ptr ← match wr with
          | some name => Builtin.ssaWrapNilChk_ #[t] t #[ptr, strVal "", strVal name]
          | none => pure ptr
        loadVar elem (← asAddr ptr))
      (do
        let ptr ← (Place.val v').get t
        let ptr ← match wr with
          | some name => Builtin.ssaWrapNilChk_ #[t] t #[ptr, strVal "", strVal name]
          | none => pure ptr
        loadVar elem (← asAddr ptr)) := by
    intro elem
    refine Sim.bind (Sim.pure h1) ?_
    rintro ρ2 g2 u u' hu
    cases wr with
    | none => exact Sim.bind (Sim.pure hu) fun ρ3 _ x x' hx => Sim.bind (Sim.asAddr hx) fun ρ4 _ a a' ha => Sim.loadVar ha elem
    | some name => exact Sim.bind (sim_wrapNil t name hu) fun ρ3 _ x x' hx => Sim.bind (Sim.asAddr hx) fun ρ4 _ a a' ha => Sim.loadVar ha elem
  cases d <;> cases pr <;> first | exact ld _ | exact .pure h1 | exact .stuck

theorem sim_method {t : TypeId} (hM : MethOk P c t) {v v' : Value} (hv : VR c ρ v v') (name : String) (k : Nat) :
    Sim P c ρ (fun ρ1 a b => a.1 = b.1 ∧ c.T a.1 ∧ VR c ρ1 a.2 b.2) (method (k + 1) t v name) (method (k + 1) t v' name) := by
  unfold method
  refine Sim.bind (same_typeInfo t).sim ?_
  rintro ρ1 g1 i _ ⟨rfl, hi⟩
  cases hm : i.methods.find? (·.name == name) with
  | none => exact .stuck
  | some m =>
    obtain ⟨hp, f, pr, hf, hT⟩ := hM i hi m (Array.mem_of_find?_eq_some hm)
    dsimp only
    rw [hp, hf]
    refine Sim.bind (R := fun ρ1 a b => a.1 = t ∧ b.1 = t ∧ ∃ u u', a.2 = .val u ∧ b.2 = .val u' ∧ VR c ρ1 u u') (.pure ⟨rfl, rfl, v, v', rfl, rfl, hv.mono g1⟩) ?_
    rintro ρ2 g2 ⟨a1, a2⟩ ⟨b1, b2⟩ ⟨h1, h2, u, u', h3, h4, hu⟩
    simp only at h1 h2 h3 h4
    subst h1 h2 h3 h4
    refine Sim.bind (sim_receiverAt _ hu pr _) ?_
    rintro ρ3 g3 x x' hx
    exact .pure ⟨rfl, hT, hx⟩

theorem AR.cons {v v' : Value} (hv : VR c ρ v v') {xs xs' : Array Value} (h : AR c ρ xs xs') : AR c ρ (#[v] ++ xs) (#[v'] ++ xs') := (AR.one hv).append h

theorem sim_callMethod (hC : COk P c) {v v' : Value} (hv : VR c ρ v v') (name : String) {xs xs' : Array Value} (hx : AR c ρ xs xs') : Sim P c ρ (NR P c) (callMethod v name xs) (callMethod v' name xs') := by
  unfold callMethod
  cases hv with
  | @iface t u u' hM h =>
    dsimp only
    refine Sim.bind Sim.program ?_
    rintro ρ1 g1 p p' ⟨e1, e2⟩
    subst e1
    subst e2
    obtain ⟨k, hk⟩ : ∃ k, p'.types.size + Made.depth = k + 1 := ⟨p'.types.size + 99, rfl⟩
    rw [hk]
    refine Sim.bind (sim_method (hC.meth t hM) (h.mono g1) name k) ?_
    rintro ρ2 g2 ⟨f, r⟩ ⟨f', r'⟩ ⟨e, hT, hr⟩
    simp only at e hT hr
    subst e
    exact hC.func f hT _ _ _ (.cons hr ((hx.mono g1).mono g2))
  | nilIface => exact .dead (dead_runtimePanic _)
  | _ => exact .stuck

/-- What the operands yield on both sides. -/
def EvR (c : Cx) (ρ : Nat → Nat → Prop) (e e' : Operand → Value) : Prop := ∀ x, OdOk c x → VR c ρ (e x) (e' x)
theorem EvR.map {e e' : Operand → Value} (h : EvR c ρ e e') {xs : Array Operand} (hx : ∀ x ∈ xs, OdOk c x) : AR c ρ (xs.map e) (xs.map e') := by
  refine ⟨by simp, fun i v v' h1 h2 => ?_⟩
  rw [Array.getElem?_map] at h1 h2
  obtain ⟨x, hx1, rfl⟩ := Option.map_eq_some_iff.1 h1
  rw [hx1] at h2
  cases h2
  exact h x (hx x (Array.mem_of_getElem? hx1))
theorem EvR.opt {e e' : Operand → Value} (h : EvR c ρ e e') {x : Option Operand} (hx : ∀ y, x = some y → OdOk c y) : OV c ρ (x.map e) (x.map e') := by
  cases x with
  | none => exact .none
  | some y => exact .some (h y (hx y rfl))
theorem EvR.parts {e e' : Operand → Value} (h : EvR c ρ e e') {ps : Array (Nat × Operand)} (hx : ∀ p ∈ ps, OdOk c p.2) : PR c ρ (ps.map fun (i, x) => (i, e x)).toList (ps.map fun (i, x) => (i, e' x)).toList := by
  simp only [Array.toList_map]
  have : ∀ l : List (Nat × Operand), (∀ p ∈ l, OdOk c p.2) → PR c ρ (l.map fun (i, x) => (i, e x)) (l.map fun (i, x) => (i, e' x)) := by
    intro l hl
    induction l with
    | nil => exact .nil
    | cons p l ih => exact .cons p.1 (h p.2 (hl p (by simp))) (ih fun q hq => hl q (by simp [hq]))
  exact this _ fun p hp => hx p (by simpa using hp)

/-- A function that there is none. -/
theorem dead_nobody {f : FuncId} (h : P.funcs[f]? = none) (xs : Array Value) : DeadS P (callFunc f xs) := by
  unfold callFunc
  refine Lone.bind Lone.program ?_
  rintro p rfl
  rw [h]
  exact .halt trivial

theorem sim_value {s s' : Sem Value} (h : Sim P c ρ (VR c) s s') : Sim P c ρ (NR P c) (do pure (.value (← s))) (do pure (.value (← s'))) :=
  Sim.bind h fun _ _ _ _ hab => .pure (.value hab)
theorem sim_unit {s s' : Sem Unit} (h : Sim P c ρ (fun _ _ _ => True) s s') : Sim P c ρ (NR P c) (do s; pure .skip) (do s'; pure .skip) :=
  Sim.bind h fun _ _ _ _ _ => .pure .skip

theorem sim_call (hC : COk P c) {e e' : Operand → Value} (he : EvR c ρ e e') {k : Call} (hk : CallOk P c k) (t : TypeId) : Sim P c ρ (NR P c) (do let d ← resolve e k t; invoke d.target d.args) (do let d ← resolve e' k t; invoke d.target d.args) := by
  obtain ⟨hargs, hcal⟩ := hk
  have hA := he.map hargs
  cases hc : k.callee with
  | value f =>
    rw [hc] at hcal
    have hf := he f hcal
    have hr : ∀ e : Operand → Value, resolve e k t = Deferred.ofValue (e f) (k.args.map e) := fun e => by simp [resolve, hc]
    rw [hr, hr]
    generalize e f = v at hf
    generalize e' f = v' at hf
    cases hf with
    | tok hk a n m =>
      exact .dead (Lone.bind (Q := fun d => ∃ xs, d.target = .fn (.func c.K) xs) (.pure ⟨_, rfl⟩) fun d ⟨xs, hd⟩ => by rw [hd]; exact dead_nobody hC.tok _)
    | tokc hk r =>
      exact .dead (Lone.bind (Q := fun d => ∃ xs, d.target = .fn (.func c.K) xs) (.pure ⟨_, rfl⟩) fun d ⟨xs, hd⟩ => by rw [hd]; exact dead_nobody hC.tok _)
    | nilFunc => exact .dead (Lone.bind (Q := fun d => d.target = .nil) (.pure rfl) fun d hd => by rw [hd]; exact (dead_runtimePanic .nilDeref : DeadS P (runtimePanic .nilDeref : Sem Next)))
    | @func g xs xs' ys ys' hT hx h1 hy h2 =>
      exact hC.func g hT _ _ _ (((show AR c ρ xs xs' from ⟨hx, h1⟩).append hA).append ⟨hy, h2⟩)
    | _ => exact .dead (Lone.bind (Q := fun _ => False) (.halt trivial) fun _ h => h.elim)
  | invoke r name =>
    rw [hc] at hcal
    have hf := he r hcal
    have hr : ∀ e : Operand → Value, resolve e k t = pure { target := .fn (.method name) #[], args := #[e r] ++ k.args.map e } := fun e => by simp [resolve, hc]
    rw [hr, hr]
    refine Sim.bind (R := fun ρ1 a b => a = { target := .fn (.method name) #[], args := #[e r] ++ k.args.map e } ∧ b = { target := .fn (.method name) #[], args := #[e' r] ++ k.args.map e' }) (.pure ⟨rfl, rfl⟩) ?_
    rintro ρ1 g1 _ _ ⟨rfl, rfl⟩
    show Sim P c ρ1 (NR P c) (invoke (.fn (.method name) #[]) (#[e r] ++ k.args.map e)) (invoke (.fn (.method name) #[]) (#[e' r] ++ k.args.map e'))
    unfold invoke
    have e0 : ∀ e : Operand → Value, (#[e r] ++ k.args.map e)[0]? = some (e r) := fun e => by rw [Array.getElem?_append_left (by simp)]; rfl
    have e1 : ∀ e : Operand → Value, (#[e r] ++ k.args.map e).extract 1 (#[e r] ++ k.args.map e).size = k.args.map e := fun e => by
      apply Array.ext'
      simp [List.take_of_length_le]
    simp only [e0, e1]
    exact sim_callMethod hC (hf.mono g1) name (hA.mono g1)
  | builtin b =>
    rw [hc] at hcal
    have hr : ∀ e : Operand → Value, resolve e k t = pure { target := .builtin b k.argTypes t (k.args.map fun | .const _ => true | _ => false), args := k.args.map e } := fun e => by simp only [resolve, hc]; rfl
    rw [hr, hr]
    refine Sim.bind (R := fun ρ1 a b' => a = { target := .builtin b k.argTypes t (k.args.map fun | .const _ => true | _ => false), args := k.args.map e } ∧ b' = { target := .builtin b k.argTypes t (k.args.map fun | .const _ => true | _ => false), args := k.args.map e' }) (.pure ⟨rfl, rfl⟩) ?_
    rintro ρ1 g1 _ _ ⟨rfl, rfl⟩
    have hA1 := hA.mono g1
    cases b with
    | append => exact sim_value (sim_append hcal t hA1)
    | clear => exact sim_value (sim_clear hcal t hA1)
    | len => exact sim_value (sim_len _ t hA1)
    | cap => exact sim_value (sim_cap _ t hA1)
    | copy => exact sim_value (sim_copy _ t hA1)
    | _ => exact hcal.elim

theorem sim_execOp (hC : COk P c) {e e' : Operand → Value} (he : EvR c ρ e e') {o : Oper} (ho : OpOk P c o.op) : Sim P c ρ (NR P c) (execOp e o) (execOp e' o) := by
  unfold execOp
  generalize o.op = p at ho
  cases p with
  | move x => exact .pure (.value (he x ho))
  | assign x => exact .pure (.value (he x ho))
  | pick a b d =>
    refine Sim.bind (Sim.asBool (he a ho.1)) ?_
    rintro ρ1 g1 k _ rfl
    refine .pure (.value ?_)
    split
    · exact (he b ho.2.1).mono g1
    · exact (he d ho.2.2).mono g1
  | alloc t => exact sim_value (sim_alloc ho)
  | box t x => exact sim_value (sim_box t (he x ho))
  | build t ps => exact sim_value (sim_build ho.1 (he.parts ho.2))
  | buildSlice t n ps => exact sim_value (sim_buildSlice ho.1 n (he.parts ho.2))
  | load t x => exact sim_value (sim_loadAt t (he x ho))
  | store t x y => exact sim_unit (sim_storeAt t (he x ho.1) (he y ho.2))
  | nilCheck x =>
    obtain ⟨hj, ho⟩ := ho
    have hx := he x ho
    dsimp only
    generalize e x = v at hx
    generalize e' x = v' at hx
    cases hx with
    | junk u h =>
      cases v' <;> first | exact h.elim | exact .pure (.value (.junk _ h)) | (rename_i a; cases a <;> first | exact h.elim | exact .pure (.value (.junk _ h))) | (rename_i a _ _; cases a <;> first | exact absurd h hj | exact .pure (.value (.junk _ h)))
    | nilp => exact .dead (dead_runtimePanic _)
    | nilIface => exact .dead (dead_runtimePanic _)
    | nilFunc => exact .dead (dead_runtimePanic _)
    | bool b => exact .pure (.value (.bool b))
    | int k n => exact .pure (.value (.int k n))
    | string s => exact .pure (.value (.string s))
    | ptr o s h => exact .pure (.value (.ptr o s h))
    | nils n m => exact .pure (.value (.nils n m))
    | slice o s n m h => exact .pure (.value (.slice o s n m h))
    | void a => exact .pure (.value (.void a))
    | func a b c d e => exact .pure (.value (.func a b c d e))
    | iface a b => exact .pure (.value (.iface a b))
    | agg a b => exact .pure (.value (.agg a b))
    | tuple a b => exact .pure (.value (.tuple a b))
    | tok hk a n m => exact .pure (.value (.tok hk a n m))
    | tokc hk r => exact .pure (.value (.tokc hk r))
  | binOp op t x y u => exact sim_value (sim_binOpG ho.1 hC.noCopy (hC.glob ho.1) op t x y ho.2.1 (he x ho.2.2.1) (he y ho.2.2.2))
  | unOp op t x => exact sim_value (sim_unary op (he x ho))
  | convert s d x => exact sim_value (sim_convert ho.1 (he x ho.2))
  | makeInterface t x => exact sim_value (sim_makeInterface ho.1 (he x ho.2))
  | makeFunc fn xs ys =>
    cases fn with
    | func f => exact sim_value (sim_makeFunc ho.1 (he.map ho.2.1) (he.map ho.2.2))
    | _ => exact ho.elim
  | makeSlice t x y => exact sim_value (sim_makeSlice ho.1 (he x ho.2.1) (he y ho.2.2))
  | slice t x lo hi mx => exact sim_value (sim_sliceAt t (he x ho.1) (he.opt ho.2.1) (he.opt ho.2.2.1) (he.opt ho.2.2.2))
  | fieldAddr s x k => exact sim_value (sim_fieldAt ho.1 (he x ho.2))
  | indexAddr t x y => exact sim_value (sim_indexAt t (he x ho.1) (he y ho.2))
  | index t x y => exact sim_value (sim_index t (he x ho.1) (he y ho.2))
  | typeAssert x t u b => exact sim_value (sim_typeAssert ho.1 (he x ho.2))
  | extract x k => exact sim_value (sim_extract (he x ho) k)
  | call k => exact sim_call hC he ho _
  | panic x => exact sim_value (.dead (dead_panic _))
  | _ => exact ho.elim
end
end Go.Proofs.Ytngehfhcnfobbaa
