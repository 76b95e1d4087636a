/- Data that the call itself made: which blocks it lies in, that they are known whole, how they are written. No condition. -/
import Derived.Test.YtlehcnfmagjilaaDoorBlk
namespace Go.Proofs.YtlehcnfmagjilaaDoor
open Go Go.RowKit

/-- ys stands at element i of a row of elements of n cells. -/
def Elt (cs : List Value) (n i : Nat) (ys : List Value) : Prop := ∀ (t : Nat) (u : Value), ys[t]? = some u → cs[i * n + t]? = some u

/-- Writing ys from place o on. -/
def setL : List Value → Nat → List Value → List Value
  | cs, _, [] => cs
  | cs, o, y :: ys => setL (cs.set o y) (o + 1) ys
def setW : World → Nat → Nat → List Value → World
  | w, _, _, [] => w
  | w, b, o, y :: ys => setW (w.setCell ⟨b, o, none⟩ y) b (o + 1) ys

theorem length_setL (ys : List Value) : ∀ (cs : List Value) (o : Nat), (setL cs o ys).length = cs.length := by
  induction ys with
  | nil => intro cs o; rfl
  | cons y ys ih => intro cs o; simp [setL, ih]
theorem setL_lt (ys : List Value) : ∀ (cs : List Value) (o j : Nat), j < o → (setL cs o ys)[j]? = cs[j]? := by
  induction ys with
  | nil => intro cs o j _; rfl
  | cons y ys ih =>
    intro cs o j h
    rw [setL, ih _ _ _ (by omega), List.getElem?_set_ne (by omega)]
theorem setL_ge (ys : List Value) : ∀ (cs : List Value) (o j : Nat), o + ys.length ≤ j → (setL cs o ys)[j]? = cs[j]? := by
  induction ys with
  | nil => intro cs o j _; rfl
  | cons y ys ih =>
    intro cs o j h
    simp only [List.length_cons] at h
    rw [setL, ih _ _ _ (by omega), List.getElem?_set_ne (by omega)]
theorem setL_at (ys : List Value) : ∀ (cs : List Value) (o t : Nat), o + ys.length ≤ cs.length → t < ys.length → (setL cs o ys)[o + t]? = ys[t]? := by
  induction ys with
  | nil => intro cs o t _ h; exact absurd h (Nat.not_lt_zero _)
  | cons y ys ih =>
    intro cs o t h ht
    simp only [List.length_cons] at h ht
    cases t with
    | zero => rw [setL, setL_lt _ _ _ _ (by omega), Nat.add_zero, List.getElem?_set_self (by omega)]; rfl
    | succ t =>
      rw [setL, show o + (t + 1) = (o + 1) + t by omega, ih _ _ _ (by simp; omega) (by omega)]
      rfl
theorem Blk.setW {b : Nat} {e : TypeId} (ys : List Value) : ∀ {w : World} {cs : List Value} (o : Nat), Blk w b e cs → Blk (Go.Proofs.YtlehcnfmagjilaaDoor.setW w b o ys) b e (setL cs o ys) := by
  induction ys with
  | nil => intro w cs o h; exact h
  | cons y ys ih => intro w cs o h; exact ih (o + 1) (h.set o y)
theorem Ext.setW {a : World} {b : Nat} (hb : a.heap.size ≤ b) (ys : List Value) : ∀ {w : World} (o : Nat), Ext a w → Ext a (Go.Proofs.YtlehcnfmagjilaaDoor.setW w b o ys) := by
  induction ys with
  | nil => intro w o h; exact h
  | cons y ys ih => intro w o h; exact ih (o + 1) (h.setCell hb y)
theorem heap_setW {b : Nat} (ys : List Value) : ∀ {w : World} (o k : Nat), k ≠ b → (Go.Proofs.YtlehcnfmagjilaaDoor.setW w b o ys).heap[k]? = w.heap[k]? := by
  induction ys with
  | nil => intro w o k _; rfl
  | cons y ys ih => intro w o k h; rw [Go.Proofs.YtlehcnfmagjilaaDoor.setW, ih _ _ h, Below.heap_setCell _ _ _ _ h]
theorem size_setW {b : Nat} (ys : List Value) : ∀ {w : World} (o : Nat), (Go.Proofs.YtlehcnfmagjilaaDoor.setW w b o ys).heap.size = w.heap.size := by
  induction ys with
  | nil => intro w o; rfl
  | cons y ys ih => intro w o; rw [Go.Proofs.YtlehcnfmagjilaaDoor.setW, ih]; simp [World.setCell]

theorem Elt.set_self {cs ys : List Value} {n k : Nat} (hy : ys.length = n) (h : k * n + n ≤ cs.length) : Elt (setL cs (k * n) ys) n k ys := by
  intro t u hu
  have ht : t < ys.length := (List.getElem?_eq_some_iff.1 hu).1
  rw [setL_at ys cs (k * n) t (by omega) ht]
  exact hu
theorem Elt.set_other {cs ys zs : List Value} {n k j : Nat} (hy : ys.length = n) (hz : zs.length = n) (h : Elt cs n j zs) (hne : j ≠ k) : Elt (setL cs (k * n) ys) n j zs := by
  intro t u hu
  have ht : t < zs.length := (List.getElem?_eq_some_iff.1 hu).1
  rcases Nat.lt_or_gt_of_ne hne with hlt | hgt
  · have : j * n + n ≤ k * n := by
      have := Nat.mul_le_mul_right n (show j + 1 ≤ k from hlt)
      rwa [Nat.add_mul, Nat.one_mul] at this
    rw [setL_lt _ _ _ _ (by omega)]
    exact h t u hu
  · have : k * n + n ≤ j * n := by
      have := Nat.mul_le_mul_right n (show k + 1 ≤ j from hgt)
      rwa [Nat.add_mul, Nat.one_mul] at this
    rw [setL_ge _ _ _ _ (by omega)]
    exact h t u hu

/-- Data of the call's own: the blocks that it lies in. -/
class Ow (α : Type) [Lay α] where
  own : World → List Value → α → List Nat → Prop
  frame : ∀ {w w' : World} {cs : List Value} {d : α} {fp : List Nat}, own w cs d fp → (∀ b ∈ fp, w'.heap[b]? = w.heap[b]?) → own w' cs d fp
  rd : ∀ {w : World} {cs : List Value} {d : α} {fp : List Nat}, own w cs d fp → Lay.rd w cs d
  lt : ∀ {w : World} {cs : List Value} {d : α} {fp : List Nat}, own w cs d fp → ∀ b ∈ fp, b < w.heap.size

instance owInt : Ow Int := ⟨fun w cs d fp => Lay.rd w cs d ∧ fp = [], fun h _ => h, fun h => h.1, fun h b hb => by rw [h.2] at hb; cases hb⟩
instance owBool : Ow Bool := ⟨fun w cs d fp => Lay.rd w cs d ∧ fp = [], fun h _ => h, fun h => h.1, fun h b hb => by rw [h.2] at hb; cases hb⟩

/-- A slice of the call's own that reads as a list. -/
def OwSl {α : Type} [Lay α] [Ow α] (w : World) (a : Option Addr) (len cap : Nat) (l : List α) (fp : List Nat) : Prop :=
  l.length = len ∧ len ≤ cap ∧ cap ≤ maxLen ∧ (a = none → cap = 0) ∧
    ((l = [] ∧ fp = []) ∨ ∃ (b : Nat) (e : TypeId) (cs : List Value) (fps : List (List Nat)), a = some ⟨b, 0, none⟩ ∧ Blk w b e cs ∧ cs.length = cap * Lay.n α ∧ fps.length = l.length ∧ fp = b :: fps.flatten ∧
      ∀ (i : Nat) (d : α) (f : List Nat), l[i]? = some d → fps[i]? = some f → ∃ ys, ys.length = Lay.n α ∧ Elt cs (Lay.n α) i ys ∧ Ow.own w ys d f)

theorem OwSl.rd {α : Type} [Lay α] [Ow α] {w : World} {a : Option Addr} {len cap : Nat} {l : List α} {fp : List Nat} (h : OwSl w a len cap l fp) : SlRd w a len cap l := by
  obtain ⟨h1, h2, h3, h4, h5⟩ := h
  refine ⟨h1, h2, h3, h4, fun i d hi => ?_⟩
  rcases h5 with ⟨rfl, _⟩ | ⟨b, e, cs, fps, rfl, hb, _, hf, rfl, hel⟩
  · simp at hi
  · have hlt := (List.getElem?_eq_some_iff.1 hi).1
    obtain ⟨ys, r1, r2, r3⟩ := hel i d _ hi (List.getElem?_eq_getElem (by omega))
    exact ⟨b, 0, ys, rfl, r1, fun j u hu => by rw [Nat.zero_add]; exact hb.cell (r2 j u hu), Ow.rd r3⟩
theorem OwSl.frame {α : Type} [Lay α] [Ow α] {w w' : World} {a : Option Addr} {len cap : Nat} {l : List α} {fp : List Nat} (h : OwSl w a len cap l fp) (k : ∀ b ∈ fp, w'.heap[b]? = w.heap[b]?) : OwSl w' a len cap l fp := by
  obtain ⟨h1, h2, h3, h4, h5⟩ := h
  refine ⟨h1, h2, h3, h4, ?_⟩
  rcases h5 with h5 | ⟨b, e, cs, fps, rfl, hb, hc, hf, rfl, hel⟩
  · exact .inl h5
  · refine .inr ⟨b, e, cs, fps, rfl, hb.of_heap (k b (by simp)), hc, hf, rfl, fun i d f hi hi' => ?_⟩
    obtain ⟨ys, r1, r2, r3⟩ := hel i d f hi hi'
    exact ⟨ys, r1, r2, Ow.frame r3 fun b' hb' => k b' (List.mem_cons_of_mem _ (List.mem_flatten.2 ⟨_, List.mem_of_getElem? hi', hb'⟩))⟩
theorem OwSl.lt {α : Type} [Lay α] [Ow α] {w : World} {a : Option Addr} {len cap : Nat} {l : List α} {fp : List Nat} (h : OwSl w a len cap l fp) : ∀ b ∈ fp, b < w.heap.size := by
  obtain ⟨h1, h2, h3, h4, h5⟩ := h
  rcases h5 with ⟨_, rfl⟩ | ⟨b, e, cs, fps, rfl, hb, hc, hf, rfl, hel⟩
  · intro b hb; cases hb
  · intro b' hb'
    rcases List.mem_cons.1 hb' with rfl | hb'
    · exact hb.lt
    · obtain ⟨fp', hm, hb''⟩ := List.mem_flatten.1 hb'
      obtain ⟨i, hi, rfl⟩ := List.mem_iff_getElem.1 hm
      obtain ⟨ys, _, _, r3⟩ := hel i _ _ (List.getElem?_eq_getElem (by omega)) (List.getElem?_eq_getElem hi)
      exact Ow.lt r3 b' hb''

instance owList {α : Type} [Lay α] [Ow α] : Ow (List α) :=
  ⟨fun w cs l fp => ∃ a len cap, cs = [.slice a len cap] ∧ OwSl w a len cap l fp, fun ⟨a, len, cap, e, h⟩ k => ⟨a, len, cap, e, h.frame k⟩,
   fun ⟨a, len, cap, e, h⟩ => ⟨a, len, cap, e, h.rd⟩, fun ⟨_, _, _, _, h⟩ => h.lt⟩

theorem SlRd.at {α : Type} [Lay α] {w wr : World} {a : Option Addr} {len cap : Nat} {l : List α} (h : SlRd w a len cap l) (he : Ext w wr) {k : Nat} (hk : k < len) :
    ∃ d, l[k]? = some d ∧ ∃ b off ys, a = some ⟨b, off, none⟩ ∧ ys.length = Lay.n α ∧ (∀ (j : Nat) (u : Value), ys[j]? = some u → wr.cell? ⟨b, off + k * Lay.n α + j, none⟩ = some u) ∧ Lay.rd wr ys d :=
  have hd : l[k]? = some (l[k]'(by have := h.1; omega)) := List.getElem?_eq_getElem _
  ⟨_, hd, (h.stays he.below).2.2.2.2 k _ hd⟩

/-- make, at a size that is a letter. -/
theorem mkSlice {P : Program} {t e : TypeId} {i : TypeInfo} {z : Value} (ht : P.underlying t = some (.slice e)) (hi : P.info? e = some i) (hz : i.zero = some z) (len : Nat) (hlen : i.bytes * len ≤ 281474976710656) (h63 : len ≤ maxLen) :
    ∀ w : World, (Instr.makeSlice t (.int .i64 (len : Int)) (.int .i64 (len : Int))).run P w = .ok (.slice (some ⟨w.heap.size, 0, none⟩) len len) (w.alloc (.cells (madeCells z.cells (len * i.size)) e)) := by
  intro w
  have h63' : (len : Int) ≤ 9223372036854775807 := by
    have h := h63
    simp [maxLen] at h
    omega
  have hb' : (i.bytes : Int) * (len : Int) ≤ 281474976710656 := by
    have h : ((i.bytes * len : Nat) : Int) ≤ 281474976710656 := by omega
    rwa [Int.natCast_mul] at h
  have hr := run_make (P := P) w t e i z ht hi hz .i64 .i64 len len (by omega) (Int.le_refl _) hb' h63'
  simpa only [Int.toNat_natCast] using hr

instance owRg : Ow Rg := ⟨fun w cs d fp => Lay.rd w cs d ∧ fp = [], fun h _ => h, fun h => h.1, fun h b hb => by rw [h.2] at hb; cases hb⟩
instance owCl : Ow Cl := ⟨fun w cs d fp => Lay.rd w cs d ∧ fp = [], fun h _ => h, fun h => h.1, fun h b hb => by rw [h.2] at hb; cases hb⟩
instance owRt : Ow Rt := ⟨fun w cs d fp => ∃ a_path, ∃ n_path, ∃ c_path, ∃ a_marks, ∃ n_marks, ∃ c_marks, ∃ p_path, ∃ p_marks, cs = [.int .i64 d.r.f, .int .i64 d.r.b, .slice a_path n_path c_path, .int .i64 d.like, .slice a_marks n_marks c_marks] ∧ I64 d.r.f ∧ I64 d.r.b ∧ OwSl w a_path n_path c_path d.path p_path ∧ I64 d.like ∧ OwSl w a_marks n_marks c_marks d.marks p_marks ∧ fp = p_path ++ p_marks,
  fun ⟨a_path, n_path, c_path, a_marks, n_marks, c_marks, p_path, p_marks, e, h0, h1, h2, h3, h4, ef⟩ k => ⟨a_path, n_path, c_path, a_marks, n_marks, c_marks, p_path, p_marks, e, h0, h1, OwSl.frame h2 (fun b hb => k b (by rw [ef]; simp [hb])), h3, OwSl.frame h4 (fun b hb => k b (by rw [ef]; simp [hb])), ef⟩,
  fun ⟨a_path, n_path, c_path, a_marks, n_marks, c_marks, _, _, e, h0, h1, h2, h3, h4, _⟩ => ⟨a_path, n_path, c_path, a_marks, n_marks, c_marks, e, h0, h1, OwSl.rd h2, h3, OwSl.rd h4⟩,
  fun ⟨_, _, _, _, _, _, _, _, _, _, _, h2, _, h4, ef⟩ b hb => by rw [ef] at hb; rcases List.mem_append.1 hb with hb | hb <;> first | exact OwSl.lt h2 b hb | exact OwSl.lt h4 b hb⟩
instance owHd : Ow Hd := ⟨fun w cs d fp => Lay.rd w cs d ∧ fp = [], fun h _ => h, fun h => h.1, fun h b hb => by rw [h.2] at hb; cases hb⟩
instance owSe : Ow Se := ⟨fun w cs d fp => ∃ a_path, ∃ n_path, ∃ c_path, ∃ p_path, cs = [.int .i64 d.sby, .int .i64 d.to, .int .i64 d.r.f, .int .i64 d.r.b, .slice a_path n_path c_path] ∧ I64 d.sby ∧ I64 d.to ∧ I64 d.r.f ∧ I64 d.r.b ∧ OwSl w a_path n_path c_path d.path p_path ∧ fp = p_path,
  fun ⟨a_path, n_path, c_path, p_path, e, h0, h1, h2, h3, h4, ef⟩ k => ⟨a_path, n_path, c_path, p_path, e, h0, h1, h2, h3, OwSl.frame h4 (fun b hb => k b (by rw [ef]; simp [hb])), ef⟩,
  fun ⟨a_path, n_path, c_path, _, e, h0, h1, h2, h3, h4, _⟩ => ⟨a_path, n_path, c_path, e, h0, h1, h2, h3, OwSl.rd h4⟩,
  fun ⟨_, _, _, _, _, _, _, _, _, h4, ef⟩ b hb => by rw [ef] at hb; exact OwSl.lt h4 b hb⟩
instance owGt : Ow Gt := ⟨fun w cs d fp => ∃ a_route_path, ∃ n_route_path, ∃ c_route_path, ∃ a_route_marks, ∃ n_route_marks, ∃ c_route_marks, ∃ p_route_path, ∃ p_route_marks, cs = [.int .i64 d.route.r.f, .int .i64 d.route.r.b, .slice a_route_path n_route_path c_route_path, .int .i64 d.route.like, .slice a_route_marks n_route_marks c_route_marks, .bool d.old] ∧ I64 d.route.r.f ∧ I64 d.route.r.b ∧ OwSl w a_route_path n_route_path c_route_path d.route.path p_route_path ∧ I64 d.route.like ∧ OwSl w a_route_marks n_route_marks c_route_marks d.route.marks p_route_marks ∧ fp = p_route_path ++ p_route_marks,
  fun ⟨a_route_path, n_route_path, c_route_path, a_route_marks, n_route_marks, c_route_marks, p_route_path, p_route_marks, e, h0, h1, h2, h3, h4, ef⟩ k => ⟨a_route_path, n_route_path, c_route_path, a_route_marks, n_route_marks, c_route_marks, p_route_path, p_route_marks, e, h0, h1, OwSl.frame h2 (fun b hb => k b (by rw [ef]; simp [hb])), h3, OwSl.frame h4 (fun b hb => k b (by rw [ef]; simp [hb])), ef⟩,
  fun ⟨a_route_path, n_route_path, c_route_path, a_route_marks, n_route_marks, c_route_marks, _, _, e, h0, h1, h2, h3, h4, _⟩ => ⟨a_route_path, n_route_path, c_route_path, a_route_marks, n_route_marks, c_route_marks, e, h0, h1, OwSl.rd h2, h3, OwSl.rd h4⟩,
  fun ⟨_, _, _, _, _, _, _, _, _, _, _, h2, _, h4, ef⟩ b hb => by rw [ef] at hb; rcases List.mem_append.1 hb with hb | hb <;> first | exact OwSl.lt h2 b hb | exact OwSl.lt h4 b hb⟩
instance owRb : Ow Rb := ⟨fun w cs d fp => ∃ a_all, ∃ n_all, ∃ c_all, ∃ p_all, cs = [.int .i64 d.house, .bool d.up, .slice a_all n_all c_all] ∧ I64 d.house ∧ OwSl w a_all n_all c_all d.all p_all ∧ fp = p_all,
  fun ⟨a_all, n_all, c_all, p_all, e, h0, h1, ef⟩ k => ⟨a_all, n_all, c_all, p_all, e, h0, OwSl.frame h1 (fun b hb => k b (by rw [ef]; simp [hb])), ef⟩,
  fun ⟨a_all, n_all, c_all, _, e, h0, h1, _⟩ => ⟨a_all, n_all, c_all, e, h0, OwSl.rd h1⟩,
  fun ⟨_, _, _, _, _, _, h1, ef⟩ b hb => by rw [ef] at hb; exact OwSl.lt h1 b hb⟩
instance owDl : Ow Dl := ⟨fun w cs d fp => ∃ a_drop, ∃ n_drop, ∃ c_drop, ∃ a_tell, ∃ n_tell, ∃ c_tell, ∃ p_drop, ∃ p_tell, cs = [.slice a_drop n_drop c_drop, .slice a_tell n_tell c_tell] ∧ OwSl w a_drop n_drop c_drop d.drop p_drop ∧ OwSl w a_tell n_tell c_tell d.tell p_tell ∧ fp = p_drop ++ p_tell,
  fun ⟨a_drop, n_drop, c_drop, a_tell, n_tell, c_tell, p_drop, p_tell, e, h0, h1, ef⟩ k => ⟨a_drop, n_drop, c_drop, a_tell, n_tell, c_tell, p_drop, p_tell, e, OwSl.frame h0 (fun b hb => k b (by rw [ef]; simp [hb])), OwSl.frame h1 (fun b hb => k b (by rw [ef]; simp [hb])), ef⟩,
  fun ⟨a_drop, n_drop, c_drop, a_tell, n_tell, c_tell, _, _, e, h0, h1, _⟩ => ⟨a_drop, n_drop, c_drop, a_tell, n_tell, c_tell, e, OwSl.rd h0, OwSl.rd h1⟩,
  fun ⟨_, _, _, _, _, _, _, _, _, h0, h1, ef⟩ b hb => by rw [ef] at hb; rcases List.mem_append.1 hb with hb | hb <;> first | exact OwSl.lt h0 b hb | exact OwSl.lt h1 b hb⟩
instance owEn : Ow En := ⟨fun w cs d fp => Lay.rd w cs d ∧ fp = [], fun h _ => h, fun h => h.1, fun h b hb => by rw [h.2] at hb; cases hb⟩

/-- What a call hands back in memory of its own: it lies in new blocks, no block twice. -/
def Fresh {α : Type} [Lay α] [Ow α] (w w' : World) (cs : List Value) (d : α) : Prop :=
  Ext w w' ∧ ∃ fp, Ow.own w' cs d fp ∧ fp.Nodup ∧ ∀ b ∈ fp, w.heap.size ≤ b

theorem Fresh.ext {α : Type} [Lay α] [Ow α] {w w' : World} {cs : List Value} {d : α} (h : Fresh w w' cs d) : Ext w w' := h.1
theorem Fresh.rd {α : Type} [Lay α] [Ow α] {w w' : World} {cs : List Value} {d : α} (h : Fresh w w' cs d) : Lay.rd w' cs d := by
  obtain ⟨_, fp, h, _⟩ := h
  exact Ow.rd h
theorem Ow.later {α : Type} [Lay α] [Ow α] {w w' : World} {cs : List Value} {d : α} {fp : List Nat} (h : Ow.own w cs d fp) (k : Ext w w') : Ow.own w' cs d fp :=
  Ow.frame h fun b hb => k.below.block b (Ow.lt h b hb)
theorem Fresh.later {α : Type} [Lay α] [Ow α] {w w' w2 : World} {cs : List Value} {d : α} (h : Fresh w w' cs d) (k : Ext w' w2) : Fresh w w2 cs d := by
  obtain ⟨h1, fp, h2, h3, h4⟩ := h
  exact ⟨h1.trans k, fp, Ow.later h2 k, h3, h4⟩
theorem Fresh.earlier {α : Type} [Lay α] [Ow α] {w0 w w' : World} {cs : List Value} {d : α} (k : Ext w0 w) (h : Fresh w w' cs d) : Fresh w0 w' cs d := by
  obtain ⟨h1, fp, h2, h3, h4⟩ := h
  exact ⟨k.trans h1, fp, h2, h3, fun b hb => Nat.le_trans k.size (h4 b hb)⟩

/-- A made slice while it is filled: the first k elements stand. -/
def Fill {α : Type} [Lay α] [Ow α] (wr : World) (B : Nat) (e : TypeId) (len : Nat) (l : List α) (k : Nat) : Prop :=
  ∃ (cs : List Value) (fps : List (List Nat)), Blk wr B e cs ∧ cs.length = len * Lay.n α ∧ fps.length = k ∧
    (∀ (j : Nat) (d : α) (f : List Nat), l[j]? = some d → fps[j]? = some f → ∃ ys, ys.length = Lay.n α ∧ Elt cs (Lay.n α) j ys ∧ Ow.own wr ys d f) ∧
    fps.flatten.Nodup ∧ ∀ b ∈ fps.flatten, B < b ∧ b < wr.heap.size

theorem Fill.start {α : Type} [Lay α] [Ow α] {wr : World} {B : Nat} {e : TypeId} {len : Nat} {l : List α} {cs : List Value} (h : Blk wr B e cs) (hl : cs.length = len * Lay.n α) : Fill wr B e len l 0 :=
  ⟨cs, [], h, hl, rfl, fun j d f _ h => by simp at h, by simp, by simp⟩
theorem Fill.blk {α : Type} [Lay α] [Ow α] {wr : World} {B : Nat} {e : TypeId} {len : Nat} {l : List α} {k : Nat} (h : Fill wr B e len l k) : ∃ cs, Blk wr B e cs ∧ cs.length = len * Lay.n α := by
  obtain ⟨cs, _, h, hl, _⟩ := h
  exact ⟨cs, h, hl⟩
theorem Fill.lt {α : Type} [Lay α] [Ow α] {wr : World} {B : Nat} {e : TypeId} {len : Nat} {l : List α} {k : Nat} (h : Fill wr B e len l k) : B < wr.heap.size := by
  obtain ⟨cs, _, h, _⟩ := h
  exact h.lt
theorem Fill.step {α : Type} [Lay α] [Ow α] {wr w1 : World} {B : Nat} {e : TypeId} {len : Nat} {l : List α} {k : Nat} {d : α} {ys : List Value}
    (h : Fill wr B e len l k) (hd : l[k]? = some d) (hk : k < len) (hy : ys.length = Lay.n α) (hf : Fresh wr w1 ys d) : Fill (setW w1 B (k * Lay.n α) ys) B e len l (k + 1) := by
  obtain ⟨cs, fps, hb, hl, hfl, hel, hnd, hlt⟩ := h
  obtain ⟨he, fp, ho, hfn, hfb⟩ := hf
  have hB := hb.lt
  have keep : ∀ b, b ≠ B → (setW w1 B (k * Lay.n α) ys).heap[b]? = w1.heap[b]? := fun b hb => heap_setW ys _ b hb
  refine ⟨setL cs (k * Lay.n α) ys, fps ++ [fp], (hb.extends he).setW ys _, by rw [length_setL, hl], by simp [hfl], ?_, ?_, ?_⟩
  · intro j d' f hj hjf
    rw [List.getElem?_append] at hjf
    split at hjf
    · rename_i hjk
      obtain ⟨zs, r1, r2, r3⟩ := hel j d' f hj hjf
      refine ⟨zs, r1, r2.set_other hy r1 (by omega), Ow.frame (Ow.later r3 he) fun b hb => keep b ?_⟩
      have := hlt b (List.mem_flatten.2 ⟨_, List.mem_of_getElem? hjf, hb⟩)
      omega
    · have hjk : j = k := by
        have := (List.getElem?_eq_some_iff.1 hjf).1
        simp at this
        omega
      subst hjk
      obtain rfl : d = d' := Option.some.inj (hd.symm.trans hj)
      obtain rfl : fp = f := by simpa [hfl] using hjf
      refine ⟨ys, hy, Elt.set_self hy ?_, Ow.frame ho fun b hb => keep b ?_⟩
      · have := Nat.mul_le_mul_right (Lay.n α) (show j + 1 ≤ len from hk)
        rw [Nat.add_mul, Nat.one_mul] at this
        omega
      · have := hfb b hb
        omega
  · rw [List.flatten_append]
    simp only [List.flatten_cons, List.flatten_nil, List.append_nil]
    refine List.nodup_append.2 ⟨hnd, hfn, fun a ha b hb hab => ?_⟩
    have h1 := hlt a ha
    have h2 := hfb b hb
    omega
  · intro b hb
    rw [List.flatten_append] at hb
    simp only [List.flatten_cons, List.flatten_nil, List.append_nil, List.mem_append] at hb
    rw [size_setW]
    have hs := he.size
    rcases hb with hb | hb
    · have := hlt b hb
      omega
    · have h1 := hfb b hb
      have h2 := Ow.lt ho b hb
      omega
theorem Fill.done {α : Type} [Lay α] [Ow α] {w wr : World} {B : Nat} {e : TypeId} {len : Nat} {l : List α} (hE : Ext w wr) (hB : w.heap.size ≤ B) (hlen : l.length = len) (hm : len ≤ maxLen) (h : Fill wr B e len l len) :
    Fresh w wr [.slice (some ⟨B, 0, none⟩) len len] l := by
  obtain ⟨cs, fps, hb, hl, hfl, hel, hnd, hlt⟩ := h
  refine ⟨hE, ?_⟩
  refine ⟨B :: fps.flatten, ⟨_, _, _, rfl, hlen, Nat.le_refl _, hm, (fun h => by simp at h), .inr ⟨B, e, cs, fps, rfl, hb, hl, by omega, rfl, hel⟩⟩, ?_, ?_⟩
  · refine List.nodup_cons.2 ⟨fun h => ?_, hnd⟩
    have := hlt B h
    omega
  · intro b hb'
    rcases List.mem_cons.1 hb' with rfl | hb'
    · exact hB
    · have := hlt b hb'
      omega

/-- What lay from block N on lies as it did. -/
def Abv (N : Nat) (w w' : World) : Prop := w.heap.size ≤ w'.heap.size ∧ ∀ b, N ≤ b → b < w.heap.size → w'.heap[b]? = w.heap[b]?
theorem Abv.refl (N : Nat) (w : World) : Abv N w w := ⟨Nat.le_refl _, fun _ _ _ => rfl⟩
theorem Abv.alloc {N : Nat} {a b : World} (h : Abv N a b) (o : Obj) : Abv N a (b.alloc o) :=
  ⟨by have := h.1; simp; omega, fun k hk hl => (Below.heap_alloc b o k (by have := h.1; omega)).trans (h.2 k hk hl)⟩
theorem Abv.ext {N : Nat} {a b : World} (h : Abv N a b) (x : Nx) : Abv N a (ext b x) :=
  ⟨by have := h.1; simp; omega, fun k hk hl => (ext_heap b x k (by have := h.1; omega)).trans (h.2 k hk hl)⟩
theorem Abv.drew {N : Nat} {a b : World} (h : Abv N a b) : Abv N a b.drew := h
theorem Abv.and {N : Nat} {a W : World} {x y : Nx} (h : Abv N a (Go.Proofs.YtlehcnfmagjilaaDoor.ext W x)) : Abv N a (Go.Proofs.YtlehcnfmagjilaaDoor.ext W (x.and y)) := by
  rw [← ext_ext]
  exact h.ext y
theorem Abv.drewx {N : Nat} {a W : World} {x : Nx} (h : Abv N a (Go.Proofs.YtlehcnfmagjilaaDoor.ext W x)) : Abv N a (Go.Proofs.YtlehcnfmagjilaaDoor.ext W x.drew) := h
theorem rd_slice {α : Type} [Lay α] {w : World} {a : Option Addr} {n c : Nat} {l : List α} (h : Lay.rd w [.slice a n c] l) : SlRd w a n c l := by
  obtain ⟨a', n', c', e, h⟩ := h
  simp only [List.cons.injEq, Value.slice.injEq, and_true] at e
  obtain ⟨rfl, rfl, rfl⟩ := e
  exact h
theorem Fresh.sl {α : Type} [Lay α] [Ow α] {w w' : World} {a : Option Addr} {n c : Nat} {l : List α} (h : Fresh w w' [.slice a n c] l) : SlRd w' a n c l := rd_slice h.rd
theorem Abv.setCell {N : Nat} {a b : World} (h : Abv N a b) {p : Addr} (hp : p.block < N) (v : Value) : Abv N a (b.setCell p v) :=
  ⟨by have := h.1; simpa [World.setCell] using this, fun k hk hl => (Below.heap_setCell b p v k (by omega)).trans (h.2 k hk hl)⟩
theorem fin_fresh {α : Type} [Lay α] [Ow α] {w w' : World} {cs : List Value} {d : α} (h : Fresh w w' cs d) : ∃ x, w' = ext w x ∧ Hid (Fresh w (ext w x) cs d) := by
  obtain ⟨x, rfl⟩ := h.ext
  exact ⟨x, rfl, h⟩
theorem own_slice {α : Type} [Lay α] [Ow α] {w : World} {a : Option Addr} {n c : Nat} {l : List α} {fp : List Nat} (h : Ow.own w [.slice a n c] l fp) : OwSl w a n c l fp := by
  obtain ⟨a', n', c', e, h⟩ := h
  simp only [List.cons.injEq, Value.slice.injEq, and_true] at e
  obtain ⟨rfl, rfl, rfl⟩ := e
  exact h
theorem Fresh.at {α : Type} [Lay α] [Ow α] {w W W' wf : World} {cs : List Value} {d : α} (F : Fresh W W' cs d) (h : w.heap.size ≤ W.heap.size) (A : Abv W.heap.size W' wf) :
    ∃ f, Ow.own wf cs d f ∧ f.Nodup ∧ ∀ b ∈ f, W.heap.size ≤ b ∧ b < W'.heap.size ∧ w.heap.size ≤ b := by
  obtain ⟨_, f, ho, hn, hg⟩ := F
  exact ⟨f, Ow.frame ho fun b hb => A.2 b (hg b hb) (Ow.lt ho b hb), hn, fun b hb => ⟨hg b hb, Ow.lt ho b hb, Nat.le_trans h (hg b hb)⟩⟩
theorem own1 {α γ : Type} [Lay α] [Ow α] [Lay γ] [Ow γ] {w W1 W1' wf : World} {c1 cs : List Value} {d1 : α} {d : γ} (F1 : Fresh W1 W1' c1 d1) (h1 : w.heap.size ≤ W1.heap.size) (A1 : Abv W1.heap.size W1' wf)
    (k : ∀ f1, Ow.own wf c1 d1 f1 → Ow.own wf cs d f1) : ∃ fp, Ow.own wf cs d fp ∧ fp.Nodup ∧ ∀ b ∈ fp, w.heap.size ≤ b := by
  obtain ⟨f1, o1, n1, g1⟩ := F1.at h1 A1
  exact ⟨f1, k f1 o1, n1, fun b hb => (g1 b hb).2.2⟩
theorem own2 {α β γ : Type} [Lay α] [Ow α] [Lay β] [Ow β] [Lay γ] [Ow γ] {w W1 W1' W2 W2' wf : World} {c1 c2 cs : List Value} {d1 : α} {d2 : β} {d : γ}
    (F1 : Fresh W1 W1' c1 d1) (F2 : Fresh W2 W2' c2 d2) (h1 : w.heap.size ≤ W1.heap.size) (h12 : W1'.heap.size ≤ W2.heap.size) (A1 : Abv W1.heap.size W1' wf) (A2 : Abv W2.heap.size W2' wf)
    (k : ∀ f1 f2, Ow.own wf c1 d1 f1 → Ow.own wf c2 d2 f2 → Ow.own wf cs d (f1 ++ f2)) : ∃ fp, Ow.own wf cs d fp ∧ fp.Nodup ∧ ∀ b ∈ fp, w.heap.size ≤ b := by
  have hs1 := F1.ext.size
  obtain ⟨f1, o1, n1, g1⟩ := F1.at h1 A1
  obtain ⟨f2, o2, n2, g2⟩ := F2.at (w := w) (by omega) A2
  refine ⟨f1 ++ f2, k f1 f2 o1 o2, List.nodup_append.2 ⟨n1, n2, fun a ha b hb e => ?_⟩, fun b hb => ?_⟩
  · have h3 := g1 a ha
    have h4 := g2 b hb
    omega
  · rcases List.mem_append.1 hb with hb | hb
    · exact (g1 b hb).2.2
    · exact (g2 b hb).2.2

end Go.Proofs.YtlehcnfmagjilaaDoor
