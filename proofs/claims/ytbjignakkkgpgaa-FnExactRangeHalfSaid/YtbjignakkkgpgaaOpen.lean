/- Arguments of whatever make, read as plain data: the classes, and how a reading is opened. No condition. -/
import Derived.Test.YtbjignakkkgpgaaExt
import Derived.ProofKit
import Derived.OpenShut
import Derived.ShutString
import Derived.ChangeOld
import Derived.Carry
namespace Go.Proofs.Ytbjignakkkgpgaa
open Go Go.RowKit Go.ChangeShapes Go.WideShapes

/-- Cells that read as a plain value. -/
class Lay (α : Type) where
  n : Nat
  rd : World → List Value → α → Prop
  stays : ∀ {w w' : World} {cs : List Value} {d : α}, rd w cs d → Below w.heap.size w w' → rd w' cs d

/-- The number fits an int. -/
def I64 (n : Int) : Prop := (Lit.int .i64 n).wf = true
theorem I64.bd {n : Int} (h : I64 n) : -9223372036854775808 ≤ n ∧ n ≤ 9223372036854775807 := by
  have := bounds_i64 h
  omega

instance layInt : Lay Int := ⟨1, fun _ cs d => cs = [.int .i64 d] ∧ I64 d, fun h _ => h⟩
instance layBool : Lay Bool := ⟨1, fun _ cs d => cs = [.bool d], fun h _ => h⟩

/-- A byte. -/
structure U8 where
  v : Int
instance layU8 : Lay U8 := ⟨1, fun _ cs d => cs = [.int .u8 d.v] ∧ (Lit.int .u8 d.v).wf = true, fun h _ => h⟩

/-- A slice that reads as a list. -/
def SlRd {α : Type} [Lay α] (w : World) (a : Option Addr) (len cap : Nat) (l : List α) : Prop :=
  l.length = len ∧ len ≤ cap ∧ cap ≤ maxLen ∧ (a = none → cap = 0) ∧
    ∀ (i : Nat) (d : α), l[i]? = some d → ∃ b off cs, a = some ⟨b, off, none⟩ ∧ cs.length = Lay.n α ∧
      (∀ (j : Nat) (u : Value), cs[j]? = some u → w.cell? ⟨b, off + i * Lay.n α + j, none⟩ = some u) ∧ Lay.rd w cs d

theorem cell_lt {w : World} {a : Addr} {v : Value} (h : w.cell? a = some v) : a.block < w.heap.size := by
  rcases Nat.lt_or_ge a.block w.heap.size with h' | h'
  · exact h'
  · simp [World.cell?, Array.getElem?_eq_none h'] at h

theorem SlRd.stays {α : Type} [Lay α] {w w' : World} {a : Option Addr} {len cap : Nat} {l : List α} (h : SlRd w a len cap l) (hb : Below w.heap.size w w') : SlRd w' a len cap l := by
  obtain ⟨h1, h2, h3, h4, h5⟩ := h
  refine ⟨h1, h2, h3, h4, fun i d hi => ?_⟩
  obtain ⟨b, off, cs, r1, r2, r3, r4⟩ := h5 i d hi
  exact ⟨b, off, cs, r1, r2, fun j u hu => by rw [hb.cell (p := ⟨b, _, none⟩) (cell_lt (r3 j u hu))]; exact r3 j u hu, Lay.stays r4 hb⟩

instance layList {α : Type} [Lay α] : Lay (List α) :=
  ⟨1, fun w cs l => ∃ a len cap, cs = [.slice a len cap] ∧ SlRd w a len cap l, fun ⟨a, len, cap, h, k⟩ hb => ⟨a, len, cap, h, k.stays hb⟩⟩

/-- Whatever the form reads at type t, reads as a value of α. -/
def Opens (P : Program) (t : TypeId) (α : Type) [Lay α] : Prop :=
  P.cellsOf t = Lay.n α ∧
  ∀ {H : Type} {enc : TypeId × Value → H} {w : World} {base : Nat} {fuel : Nat} {cs : List Value} {x : DataW H × List MemPlace},
    DataW.trod enc P w base (fun _ => true) true fuel t cs = some x → cs.length = Lay.n α ∧ ∃ d : α, Lay.rd w cs d

section
variable {P : Program}
theorem opens_int {t : TypeId} (ht : P.underlying t = some (.int .i64)) (hc : P.cellsOf t = 1) : Opens P t Int :=
  ⟨hc, fun h => by obtain ⟨n, rfl, _, hw⟩ := DataW.trod_int ht h; exact ⟨rfl, n, rfl, hw⟩⟩
theorem opens_u8 {t : TypeId} (ht : P.underlying t = some (.int .u8)) (hc : P.cellsOf t = 1) : Opens P t U8 :=
  ⟨hc, fun h => by obtain ⟨n, rfl, _, hw⟩ := DataW.trod_int ht h; exact ⟨rfl, ⟨n⟩, rfl, hw⟩⟩
theorem opens_bool {t : TypeId} (ht : P.underlying t = some .bool) (hc : P.cellsOf t = 1) : Opens P t Bool :=
  ⟨hc, fun h => by obtain ⟨n, rfl, _⟩ := DataW.trod_bool ht h; exact ⟨rfl, n, rfl⟩⟩

theorem choose_list {α : Type} {len : Nat} {R : Nat → α → Prop} (h : ∀ i, i < len → ∃ d, R i d) : ∃ l : List α, l.length = len ∧ ∀ i d, l[i]? = some d → R i d := by
  induction len with
  | zero => exact ⟨[], rfl, fun i d hi => by simp at hi⟩
  | succ n ih =>
    obtain ⟨l, hl, hr⟩ := ih fun i hi => h i (by omega)
    obtain ⟨d, hd⟩ := h n (by omega)
    refine ⟨l ++ [d], by simp [hl], fun i d' hi => ?_⟩
    rw [List.getElem?_append] at hi
    split at hi
    · exact hr i d' hi
    · rename_i hi'
      have h1 := (List.getElem?_eq_some_iff.1 hi).1
      simp at h1
      have : i = n := by omega
      subst this
      have : d' = d := by simpa [hl] using hi.symm
      exact this ▸ hd

theorem opens_slice {t e : TypeId} {α : Type} [Lay α] (ht : P.underlying t = some (.slice e)) (hc : P.cellsOf t = 1) (hn : 0 < Lay.n α) (ho : Opens P e α) : Opens P t (List α) := by
  refine ⟨hc, fun {H enc w base fuel cs x} h => ?_⟩
  rcases DataW.trod_slice ht h with ⟨rfl, _⟩ | ⟨a, len, cap, elems, rest, n, rfl, rfl, hx, hb, hl, hm, hle, hel, _⟩
  · exact ⟨rfl, [], none, 0, 0, rfl, rfl, Nat.le_refl _, by unfold maxLen; omega, fun _ => rfl, fun i d hi => by simp at hi⟩
  · refine ⟨rfl, ?_⟩
    have el : ∀ i, i < len → ∃ cs d, cs.length = Lay.n α ∧ (∀ (j : Nat) (u : Value), cs[j]? = some u → w.cell? ((a.add (i * Lay.n α)).add j) = some u) ∧ Lay.rd w cs (d : α) := by
      intro i hi
      have h1 := hel i hi
      rw [List.getElem?_eq_getElem (by omega)] at h1
      obtain ⟨cs, hcs, htr⟩ := Option.bind_eq_some_iff.1 h1
      obtain ⟨_, hlen, hcell⟩ := World.cells?_some hcs
      obtain ⟨hcn, d, hd⟩ := ho.2 htr
      refine ⟨cs, d, hcn, fun j u hu => ?_, hd⟩
      rw [← ho.1, hcell j (by have := (List.getElem?_eq_some_iff.1 hu).1; omega)]
      exact hu
    have hs : 0 < len → a.spot = none := by
      intro h0
      obtain ⟨cs, d, hcn, hcell, _⟩ := el 0 h0
      have hj : cs[0]? = some cs[0] := List.getElem?_eq_getElem (by omega)
      have := World.cell?_spot (hcell 0 _ hj)
      simpa [Addr.add] using this
    have key : ∀ i, i < len → ∃ d : α, ∃ b off cs, some a = some ⟨b, off, none⟩ ∧ cs.length = Lay.n α ∧
        (∀ (j : Nat) (u : Value), cs[j]? = some u → w.cell? ⟨b, off + i * Lay.n α + j, none⟩ = some u) ∧ Lay.rd w cs d := by
      intro i hi
      obtain ⟨cs, d, hcn, hcell, hd⟩ := el i hi
      have hs' := hs (by omega)
      obtain ⟨b, off, spot⟩ := a
      simp only at hs'
      subst hs'
      refine ⟨d, b, off, cs, rfl, hcn, fun j u hu => ?_, hd⟩
      have := hcell j u hu
      rwa [Addr.add_lit, Addr.add_lit] at this
    obtain ⟨l, hll, hr⟩ := choose_list key
    exact ⟨l, some a, len, cap, rfl, hll, hl, hm, (fun h => (by simp at h)), hr⟩

theorem open_str {H : Type} {enc : TypeId × Value → H} {w : World} {base : Nat} {t : TypeId} {s : ByteArray} {d : DataW H} {ps : List MemPlace}
    (ht : P.underlying t = some .string) (hd : DataW.Trod enc P w base (fun _ => true) true t (.string s) d ps) : s.size ≤ maxLen := by
  obtain ⟨fuel, hf⟩ := hd
  obtain ⟨s', e, _, h⟩ := DataW.trod_string ht hf
  have e' : s = s' := by simpa [Value.cells] using e
  exact e' ▸ h
/-- An argument that is one cell. -/
theorem open_cell {H : Type} {enc : TypeId × Value → H} {w : World} {base : Nat} {t : TypeId} {v : Value} {d : DataW H} {ps : List MemPlace} {α : Type} [Lay α]
    (ho : Opens P t α) (hval : v.cells.toList = [v]) (hd : DataW.Trod enc P w base (fun _ => true) true t v d ps) : ∃ x : α, Lay.rd w [v] x := by
  obtain ⟨fuel, hf⟩ := hd
  rw [hval] at hf
  exact (ho.2 hf).2
/-- An argument that is a struct. -/
theorem open_agg {H : Type} {enc : TypeId × Value → H} {w : World} {base : Nat} {t : TypeId} {cs : Array Value} {d : DataW H} {ps : List MemPlace} {α : Type} [Lay α]
    (ho : Opens P t α) (hd : DataW.Trod enc P w base (fun _ => true) true t (.agg cs) d ps) : ∃ x : α, Lay.rd w cs.toList x := by
  obtain ⟨fuel, hf⟩ := hd
  exact (ho.2 hf).2

end
end Go.Proofs.Ytbjignakkkgpgaa
