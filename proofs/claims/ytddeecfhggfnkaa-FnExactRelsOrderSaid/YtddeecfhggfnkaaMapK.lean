/- A couple as the key of a map. No condition. -/
import Derived.Test.YtddeecfhggfnkaaRels
import Derived.Maps.RangeWalk
import Derived.Maps.OwnOps
import Derived.Maps.OwnSet
import Derived.Maps.Ext
import Derived.DeepKeys4
import Derived.MapViews
import Derived.ChangeSame
namespace Go.Proofs.Ytddeecfhggfnkaa
open Go Go.RowKit Go.Maps Go.ChangeShapes

theorem laidOutP : laidOutB Try.prog = true := by kernel_rfl
theorem rowK : (86 : TypeId) < (Try.prog).types.size := of_decide_eq_true (by kernel_rfl)
theorem wideK : (match (Try.prog).underlying 86 with | some (.array _ _) | some (.struct _) => true | _ => false) = true := by rw [Try.underlying86]
theorem lawK : Keyed Try.prog 86 := Keyed.of_law (deep_law_laid laidOutP (m := 2) (by omega) rowK (by kernel_rfl) wideK)
theorem deepK : (Try.prog).keyTypeAt ((Try.prog).types.size + 1) 86 = true := by kernel_rfl
theorem cellsK : (Try.prog).cellsOf 86 = 2 := by kernel_rfl
theorem formedK (a b : Int) : (Value.agg #[.int .i64 a, .int .i64 b]).formed Try.prog 86 = true := by simp [Value.formed, Try.underlying86, cellsK]

def cV (a b : Int) : Value := .agg #[.int .i64 a, .int .i64 b]
set_option maxRecDepth 20000 in
theorem keyK {a b : Int} (ha : (Lit.int .i64 a).wf = true) (hb : (Lit.int .i64 b).wf = true) : ∃ l, keyOf Try.prog 86 (cV a b) = some l := by
  have k3 : (Try.prog).cellsOf 3 = 1 := by kernel_rfl
  have hd := trod_struct2_mk (enc := fun _ => ()) (P := Try.prog) (w := default) (base := 0) (spare := fun _ => false) (held := false) (n := 1) (cs := [.int .i64 a, .int .i64 b]) Try.underlying86 (by rw [cellsK]; rfl)
    (y0 := (.lit (.int .i64 a), [])) (y1 := (.lit (.int .i64 b), []))
    (by simp only [k3, List.drop_zero, List.take_succ_cons, List.take_zero]; exact trod_int_mk 0 Try.underlying3 ha)
    (by simp only [k3, List.drop_succ_cons, List.drop_zero, List.take_succ_cons, List.take_zero]; exact trod_int_mk 0 Try.underlying3 hb)
  exact ⟨_, (keyOf_asKey (v := cV a b) deepK wideK (formedK a b) (d := .agg [.lit (.int .i64 a), .lit (.int .i64 b)]) (ps := []) ⟨2, hd⟩).1⟩
noncomputable def ck (a b : Int) : Lit := (keyOf Try.prog 86 (cV a b)).getD (.bool false)
theorem ck_ok {a b : Int} (ha : (Lit.int .i64 a).wf = true) (hb : (Lit.int .i64 b).wf = true) : keyOf Try.prog 86 (cV a b) = some (ck a b) := by
  obtain ⟨l, h⟩ := keyK ha hb
  unfold ck; rw [h]; rfl
theorem ck_inj {a b c d : Int} (ha : (Lit.int .i64 a).wf = true) (hb : (Lit.int .i64 b).wf = true) (hc : (Lit.int .i64 c).wf = true) (hd : (Lit.int .i64 d).wf = true) (h : ck a b = ck c d) : a = c ∧ b = d := by
  have h1 := ck_ok ha hb
  rw [h] at h1
  have := lawK.inj h1 (ck_ok hc hd)
  simpa [cV] using this

theorem int_lits {P : Program} {t : TypeId} (hu : P.underlying t = some (.int .i64)) {d : Nat} {cs : List Value} {L : List Lit} (h : P.keyLits d t cs = some L) : ∃ a, cs = [.int .i64 a] ∧ (Lit.int .i64 a).wf = true := by
  cases d with
  | zero => simp [Program.keyLits] at h
  | succ d =>
    unfold Program.keyLits at h
    rw [hu] at h
    split at h <;> simp_all

theorem couple_lits {P : Program} {K t : TypeId} {f0 f1 : Field} (hu : P.underlying K = some (.struct #[f0, f1])) (t0 : f0.type = t) (o0 : f0.offset = 0) (t1 : f1.type = t) (o1 : f1.offset = 1) (hi : P.underlying t = some (.int .i64))
    (c2 : P.cellsOf K = 2) (c1 : P.cellsOf t = 1) {n : Nat} {cs : List Value} {L : List Lit} (h : P.keyLits n K cs = some L) : ∃ a b, cs = [.int .i64 a, .int .i64 b] ∧ (Lit.int .i64 a).wf = true ∧ (Lit.int .i64 b).wf = true := by
  cases n with
  | zero => simp [Program.keyLits] at h
  | succ d =>
    unfold Program.keyLits at h
    rw [hu] at h
    simp only at h
    split at h
    · rename_i hc
      rw [c2] at hc
      match cs, hc.1 with
      | [x0, x1], _ =>
        simp only [Option.map_eq_some_iff] at h
        obtain ⟨L', ha, _⟩ := h
        simp only [List.mapM_cons, List.mapM_nil, t0, t1, o0, o1, c1, List.drop_zero, List.take_succ_cons, List.take_zero, List.drop_succ_cons, Option.pure_def, Option.bind_eq_bind, Option.bind_eq_some_iff] at ha
        obtain ⟨y0, h0, ys, ⟨y1, h1, _⟩, _⟩ := ha
        obtain ⟨a, e0, wa⟩ := int_lits hi h0
        obtain ⟨b, e1, wb⟩ := int_lits hi h1
        simp only [List.cons.injEq, and_true] at e0 e1
        subst e0 e1
        exact ⟨a, b, rfl, wa, wb⟩
    · cases h

set_option maxRecDepth 20000 in
theorem invK {v : Value} {l : Lit} (h : keyOf Try.prog 86 v = some l) : ∃ x : Int × Int, v = cV x.1 x.2 ∧ (Lit.int .i64 x.1).wf = true ∧ (Lit.int .i64 x.2).wf = true := by
  obtain ⟨xs, L, rfl, hl, _⟩ := keyOf_top wideK h
  have k3 : (Try.prog).cellsOf 3 = 1 := by kernel_rfl
  obtain ⟨a, b, e, wa, wb⟩ := couple_lits (t := 3) Try.underlying86 (by rfl) (by rfl) (by rfl) (by rfl) Try.underlying3 cellsK k3 hl
  obtain ⟨cs⟩ := xs
  simp only at e
  subst e
  exact ⟨(a, b), rfl, wa, wb⟩

set_option maxRecDepth 20000 in
theorem ck_key {a b : Int} (ha : (Lit.int .i64 a).wf = true) (hb : (Lit.int .i64 b).wf = true) : WideAt.IsKeyLit (ck a b) := lawK.key (ck_ok ha hb)
attribute [irreducible] ck

end Go.Proofs.Ytddeecfhggfnkaa
