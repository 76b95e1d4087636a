/- Lemmas for it, part 20. No condition. -/
import Derived.Test.YtngehfhcnfobbaaPk12
import Derived.Test.YtngehfhcnfobbaaPk17
import Derived.Test.YtngehfhcnfobbaaPk18
import Derived.Test.YtngehfhcnfobbaaPk19
namespace Go.Proofs.Ytngehfhcnfobbaa
open Go Go.Conc Go.RowKit

def CellsAt (W : World) (b : Nat) : Prop := ∃ xs e fr, W.heap[b]? = some (.cells xs e fr)
/-- Each block of cells bears its own number. -/
def idc (W : World) (b b' : Nat) : Prop := b = b' ∧ CellsAt W b

theorem idc_fn {W : World} {a b d : Nat} (h : idc W a b) (k : idc W a d) : b = d := h.1.symm.trans k.1

theorem pure_ex0 (Z : Nat → Prop) (W : World) : ∀ (n : Nat) (v : Value), SizeOf.sizeOf v ≤ n → ∃ u, VR (cL Z) (idc W) u v := by
  intro n
  induction n with
  | zero => intro v h; cases v <;> simp at h
  | succ n ih =>
    intro v h
    cases v with
    | bool b => exact ⟨_, .bool b⟩
    | int k n => exact ⟨_, .int k n⟩
    | float k b => exact ⟨_, .junk (.float k b) trivial⟩
    | complex k re im => exact ⟨_, .junk (.complex k re im) trivial⟩
    | string s => exact ⟨_, .string s⟩
    | pointer a =>
      cases a with
      | none => exact ⟨_, .nilp⟩
      | some a => exact ⟨_, .junk (.pointer (some a)) trivial⟩
    | slice a n m =>
      cases a with
      | none => exact ⟨_, .nils n m⟩
      | some a => exact ⟨_, .junk (.slice (some a) n m) trivial⟩
    | map r => exact ⟨_, .junk (.map r) trivial⟩
    | chan r => exact ⟨_, .junk (.chan r) trivial⟩
    | func f x y => exact ⟨_, .junk (.func f x y) (by cases f <;> trivial)⟩
    | nilFunc => exact ⟨_, .nilFunc⟩
    | iface t v => exact ⟨_, .junk (.iface t v) trivial⟩
    | nilIface => exact ⟨_, .nilIface⟩
    | tuple vs => exact ⟨_, .junk (.tuple vs) trivial⟩
    | agg xs =>
      have hex : ∀ i : Fin xs.size, ∃ u, VR (cL Z) (idc W) u xs[i] := fun i => ih xs[i] (by
        have := Array.sizeOf_lt_of_mem (Array.getElem_mem (xs := xs) i.2)
        simp at h
        show SizeOf.sizeOf xs[(i : Nat)] ≤ n
        omega)
      refine ⟨.agg (Array.ofFn fun i => Classical.choose (hex i)), .agg (by simp) fun i v v' h1 h2 => ?_⟩
      obtain ⟨hi, rfl⟩ := Array.getElem?_eq_some_iff.1 h2
      simp only [Array.getElem?_ofFn] at h1
      rw [dif_pos hi] at h1
      cases h1
      exact Classical.choose_spec (hex ⟨i, hi⟩)
theorem pure_ex (Z : Nat → Prop) (W : World) (v : Value) : ∃ u, VR (cL Z) (idc W) u v := pure_ex0 Z W _ v (Nat.le_refl _)

/-- It stands for itself. -/
def Selfy (W : World) : Value → Prop
  | .bool _ | .int _ _ | .slice none _ _ => True
  | .slice (some a) n m => (n = 0 ∧ m = 0) ∨ CellsAt W a.block
  | _ => False
theorem Selfy.vr {Z : Nat → Prop} {W : World} {v : Value} (h : Selfy W v) : VR (cL Z) (idc W) v v := by
  cases v with
  | bool b => exact .bool b
  | int k n => exact .int k n
  | slice a n m =>
    cases a with
    | none => exact .nils n m
    | some a =>
      obtain ⟨b, o, s⟩ := a
      rcases h with ⟨rfl, rfl⟩ | h
      · exact .void _
      · exact .slice o s n m ⟨rfl, h⟩
  | _ => exact h.elim

/-- What is read at this type stands for itself, here and in each place. -/
def OpV (P : Program) (t : TypeId) : Prop :=
  ∀ {H : Type} {enc : TypeId × Value → H} {w : World} {fuel : Nat} {cs : List Value} {x : DataW H × List MemPlace},
    DataW.trod enc P w 0 (fun _ => true) true fuel t cs = some x → (∀ v ∈ cs, Selfy w v) ∧ ∀ p ∈ x.2, ∃ b off u, p = .cell b off ∧ w.cell? ⟨b, off, none⟩ = some u ∧ Selfy w u

section
variable {P : Program}
theorem opv_int {t : TypeId} {k : IntKind} (ht : P.underlying t = some (.int k)) : OpV P t := fun h => by
  obtain ⟨n, rfl, rfl, _⟩ := DataW.trod_int ht h
  exact ⟨fun v hv => by simp at hv; subst hv; trivial, by simp⟩
theorem opv_struct {t : TypeId} {fs : Array Field} (ht : P.underlying t = some (.struct fs)) (hcov : ((List.range (P.cellsOf t)).all fun j => fs.any fun f => decide (f.offset ≤ j) && decide (j < f.offset + P.cellsOf f.type)) = true) (hf : ∀ f ∈ fs, OpV P f.type) : OpV P t := fun {H enc w fuel cs x} h => by
  obtain ⟨xs, n, rfl, rfl, hl, hx, hx2⟩ := DataW.trod_struct ht h
  refine ⟨fun v hv => ?_, fun p hp => ?_⟩
  · obtain ⟨j, hj, rfl⟩ := List.mem_iff_getElem.1 hv
    have h1 := List.all_eq_true.1 hcov j (List.mem_range.2 (by omega))
    obtain ⟨i, hi, h2⟩ := Array.any_eq_true.1 h1
    simp only [Bool.and_eq_true, decide_eq_true_eq] at h2
    have hff : fs[i] ∈ fs := Array.getElem_mem hi
    have h3 := hx2 i _ (Array.getElem?_eq_getElem hi)
    rw [List.getElem?_eq_getElem (by omega)] at h3
    refine ((hf _ hff) h3).1 _ ?_
    refine List.mem_iff_getElem?.2 ⟨j - fs[i].offset, ?_⟩
    rw [List.getElem?_take_of_lt (by omega), List.getElem?_drop, show fs[i].offset + (j - fs[i].offset) = j by omega]
    exact List.getElem?_eq_getElem hj
  · obtain ⟨y, hy, hp⟩ := List.mem_flatMap.1 hp
    obtain ⟨i, hi, rfl⟩ := List.mem_iff_getElem.1 hy
    have hi' : i < fs.size := by omega
    have h3 := hx2 i _ (Array.getElem?_eq_getElem hi')
    rw [List.getElem?_eq_getElem hi] at h3
    exact ((hf _ (Array.getElem_mem hi')) h3).2 p hp
theorem opv_slice {t e : TypeId} (ht : P.underlying t = some (.slice e)) (hc : 0 < P.cellsOf e) (he : OpV P e) : OpV P t := fun {H enc w fuel cs x} h => by
  rcases DataW.trod_slice ht h with ⟨rfl, rfl⟩ | ⟨a, len, cap, elems, rest, n, rfl, rfl, rfl, _, hle, _, hel, h1, h2, _⟩
  · exact ⟨fun v hv => by simp at hv; subst hv; trivial, by simp⟩
  obtain ⟨hrl, h2⟩ := h2 rfl
  -- each place, of the elements and of what is spare
  have hall : ∀ i, i < cap → ∃ y, (elems ++ rest)[i]? = some y ∧ ∃ ds, w.cells? 0 (a.add (i * P.cellsOf e)) (P.cellsOf e) = some ds ∧ DataW.trod enc P w 0 (fun _ => true) true n e ds = some y := fun i hi => by
    by_cases hl : i < len
    · have h3 := h1 i hl
      rw [List.getElem?_eq_getElem (by omega)] at h3
      obtain ⟨ds, q1, q2⟩ := Option.bind_eq_some_iff.1 h3
      exact ⟨_, by rw [List.getElem?_append_left (by omega)]; exact List.getElem?_eq_getElem (by omega), ds, q1, q2⟩
    · have h3 := h2 (i - len) (by omega)
      rw [List.getElem?_eq_getElem (by omega), show len + (i - len) = i by omega] at h3
      obtain ⟨ds, q1, q2⟩ := Option.bind_eq_some_iff.1 h3
      exact ⟨_, by rw [List.getElem?_append_right (by omega)]; simp only [hel]; exact List.getElem?_eq_getElem (by omega), ds, q1, q2⟩
  have hcell : ∀ i j, i < cap → j < P.cellsOf e → ∃ u, w.cell? ((a.add (i * P.cellsOf e)).add j) = some u ∧ Selfy w u := fun i j hi hj => by
    obtain ⟨y, _, ds, q1, q2⟩ := hall i hi
    obtain ⟨_, q3, q4⟩ := World.cells?_some q1
    have q5 := q4 j hj
    rw [List.getElem?_eq_getElem (by omega)] at q5
    exact ⟨_, q5, (he q2).1 _ (List.getElem_mem _)⟩
  have hspot : 0 < cap → a.spot = none := fun h0 => by
    obtain ⟨u, hu, _⟩ := hcell 0 0 h0 hc
    have := World.cell?_spot hu
    simpa [Addr.add] using this
  refine ⟨fun v hv => ?_, fun p hp => ?_⟩
  · simp only [List.mem_singleton] at hv
    subst hv
    by_cases h0 : cap = 0
    · exact .inl ⟨by omega, h0⟩
    · obtain ⟨u, hu, _⟩ := hcell 0 0 (by omega) hc
      refine .inr ?_
      have hsp := hspot (by omega)
      obtain ⟨b, off, spot⟩ := a
      simp only at hsp
      subst hsp
      rw [Addr.add_lit, Addr.add_lit] at hu
      show CellsAt w b
      unfold World.cell? at hu
      simp only at hu
      cases hx : w.heap[b]? with
      | none => rw [hx] at hu; cases hu
      | some o =>
        rw [hx] at hu
        cases o with
        | cells xs e fr => exact ⟨xs, e, fr, hx⟩
        | _ => cases hu
  · rcases List.mem_append.1 hp with hp | hp
    · unfold MemPlace.row at hp
      obtain ⟨q, hq, rfl⟩ := List.mem_map.1 hp
      rw [List.mem_range] at hq
      have hq2 : q / P.cellsOf e < cap := by
        have : (elems.length + rest.length) * P.cellsOf e ≤ cap * P.cellsOf e := Nat.mul_le_mul_right _ (by omega)
        exact Nat.div_lt_of_lt_mul (by rw [Nat.mul_comm]; omega)
      obtain ⟨u, hu, hs⟩ := hcell (q / P.cellsOf e) (q % P.cellsOf e) hq2 (Nat.mod_lt _ hc)
      have hsp := hspot (Nat.lt_of_le_of_lt (Nat.zero_le _) hq2)
      obtain ⟨b, off, spot⟩ := a
      simp only at hsp
      subst hsp
      refine ⟨b, off + q, u, rfl, ?_, hs⟩
      rw [Addr.add_lit, Addr.add_lit] at hu
      rw [← hu, Nat.add_assoc, Nat.mul_comm, Nat.div_add_mod]
    · obtain ⟨y, hy, hp⟩ := List.mem_flatMap.1 hp
      obtain ⟨i, hi, rfl⟩ := List.mem_iff_getElem.1 hy
      obtain ⟨y, hy2, ds, _, q2⟩ := hall i (by rw [List.length_append] at hi; omega)
      rw [List.getElem?_eq_getElem hi] at hy2
      cases hy2
      exact (he q2).2 p hp
end

/-- THE WORLD OF A LAW's START: what is read is known, all is frozen. -/
theorem pure_world (W : World) (ps : List MemPlace) (hps : ∀ p ∈ ps, ∃ b off u, p = .cell b off ∧ W.cell? ⟨b, off, none⟩ = some u ∧ Selfy W u) :
    ∃ w0 : World, w0.heap.size = W.heap.size ∧ WR (cL fun b => b < W.heap.size) (idc W) w0 W ∧ ∀ p ∈ ps, W.sameAt w0 p := by
  classical
  have hob : ∀ b : Fin W.heap.size, ∃ o, StillO o ∧ ∀ xs e lo hi, W.heap[b] = .cells xs e (lo, hi) → ∃ ys, o = .cells ys e (0, max hi xs.size) ∧ AR (cL fun b => b < W.heap.size) (idc W) ys xs ∧ ∀ j u, MemPlace.cell b j ∈ ps → xs[j]? = some u → ys[j]? = some u := fun b => by
    cases hb : W.heap[b] with
    | cells xs e fr =>
      obtain ⟨lo, hi⟩ := fr
      have hex : ∀ i : Fin xs.size, ∃ u, VR (cL fun b => b < W.heap.size) (idc W) u xs[i] ∧ (MemPlace.cell b i ∈ ps → u = xs[i]) := fun i => by
        by_cases hm : MemPlace.cell b i ∈ ps
        · obtain ⟨b', off, u, e1, e2, e3⟩ := hps _ hm
          cases e1
          have hb' : W.heap[(b : Nat)]? = some (.cells xs e (lo, hi)) := by rw [Array.getElem?_eq_getElem b.2]; exact congrArg some hb
          simp only [World.cell?, hb'] at e2
          have e4 : xs[(i : Nat)] = u := by rw [Array.getElem?_eq_getElem i.2] at e2; exact Option.some.inj e2
          exact ⟨xs[i], by show VR _ _ xs[(i : Nat)] xs[(i : Nat)]; rw [e4]; exact e3.vr, fun _ => rfl⟩
        · obtain ⟨u, hu⟩ := pure_ex (fun b => b < W.heap.size) W xs[i]
          exact ⟨u, hu, fun h => absurd h hm⟩
      refine ⟨.cells (Array.ofFn fun i => Classical.choose (hex i)) e (0, max hi xs.size), ⟨rfl, by simp; omega⟩, fun xs2 e2 lo2 hi2 h2 => ?_⟩
      cases h2
      refine ⟨_, rfl, ⟨by simp, fun i v v' q1 q2 => ?_⟩, fun j u q1 q2 => ?_⟩
      · obtain ⟨hi, rfl⟩ := Array.getElem?_eq_some_iff.1 q2
        simp only [Array.getElem?_ofFn] at q1
        rw [dif_pos hi] at q1
        cases q1
        exact (Classical.choose_spec (hex ⟨i, hi⟩)).1
      · obtain ⟨hj, rfl⟩ := Array.getElem?_eq_some_iff.1 q2
        simp only [Array.getElem?_ofFn]
        rw [dif_pos hj]
        exact congrArg some ((Classical.choose_spec (hex ⟨j, hj⟩)).2 q1)
    | _ => exact ⟨.cells #[] 0 (0, 0), ⟨rfl, Nat.le_refl _⟩, fun _ _ _ _ h => by cases h⟩
  let w0 : World := { W with heap := Array.ofFn fun b => Classical.choose (hob b) }
  have hsz : w0.heap.size = W.heap.size := by simp [w0]
  have hget : ∀ b (hb : b < W.heap.size), w0.heap[b]? = some (Classical.choose (hob ⟨b, hb⟩)) := fun b hb => by
    show (Array.ofFn fun b => Classical.choose (hob b))[b]? = _
    rw [Array.getElem?_ofFn, dif_pos hb]
  refine ⟨w0, hsz, ⟨fun _ _ _ h k => idc_fn h k, fun a b d h k => h.1.trans k.1.symm, fun b b' h => ?_, fun b hb => absurd hb (Nat.not_lt_zero b), fun b hb => ⟨_, hget b hb, (Classical.choose_spec (hob ⟨b, hb⟩)).1⟩⟩, fun p hp => ?_⟩
  · obtain ⟨rfl, xs, e, ⟨lo, hi⟩, hx⟩ := h
    have hb := (Array.getElem?_eq_some_iff.1 hx).1
    obtain ⟨ys, e1, e2, _⟩ := (Classical.choose_spec (hob ⟨b, hb⟩)).2 xs e lo hi (Array.getElem?_eq_some_iff.1 hx).2
    exact ⟨_, _, hget b hb, hx, by rw [e1]; exact .cells e e2 fun o h1 h2 => ⟨Nat.zero_le _, by omega⟩⟩
  · obtain ⟨b, off, u, rfl, e2, _⟩ := hps p hp
    show w0.cell? ⟨b, off, none⟩ = W.cell? ⟨b, off, none⟩
    have hb : b < W.heap.size := cell_lt e2
    cases hx : W.heap[b] with
    | cells xs e fr =>
      obtain ⟨lo, hi⟩ := fr
      obtain ⟨ys, e1, _, e3⟩ := (Classical.choose_spec (hob ⟨b, hb⟩)).2 xs e lo hi hx
      have hW : W.heap[b]? = some (.cells xs e (lo, hi)) := by rw [Array.getElem?_eq_getElem hb, hx]
      have e2' : xs[off]? = some u := by simpa [World.cell?, hW] using e2
      rw [e2]
      simp only [World.cell?, hget b hb, e1]
      exact e3 off u hp e2'
    | _ =>
      have hW : W.heap[b]? = _ := (Array.getElem?_eq_getElem hb).trans (congrArg some hx)
      simp [World.cell?, hW] at e2
end Go.Proofs.Ytngehfhcnfobbaa
namespace Go.Proofs.Ytngehfhcnfobbaa
open Go Go.Conc Go.RowKit

section
variable {a1 : Option Addr} {n1 c1 : Nat} {a2 : Option Addr} {n2 c2 X B : Nat} {aw : Option Addr} {nw cw : Nat} {ag : Option Addr} {ng cg : Nat} {ah : Option Addr} {nh ch : Nat} {m : Int} {a : Act}
def LB (a1 : Option Addr) (n1 c1 : Nat) (a2 : Option Addr) (n2 c2 : Nat) (X : Nat) (B : Nat) (aw : Option Addr) (nw cw : Nat) (ag : Option Addr) (ng cg : Nat) (a : Act) : Prop := ∃ y3 y7 y8 y9 y10 y11 y12 y13 y14 y15 y16 y17 y18 y19 y20 y21 y22 y23 y24 y25 y26 y27 y28 y29 y30 y31 y32 y33 y34 y35 y36 y37 y38 y39 y40 y41 y42 y43 y44 y45 y46 y47 y48 y49 y50 y51 y52 y53 y54 y55 y56 y57 y58 y59 y60 y61 y62 y63 y64 y65 y66 y67 y68 : Value, a = ⟨#[.agg #[.slice a1 n1 c1, .slice a2 n2 c2], .pointer (some ⟨X, 0, none⟩), .bool false, y3, .slice aw nw cw, .pointer (some ⟨B, 0, none⟩), .slice ag ng cg, y7, y8, y9, y10, y11, y12, y13, y14, y15, y16, y17, y18, y19, y20, y21, y22, y23, y24, y25, y26, y27, y28, y29, y30, y31, y32, y33, y34, y35, y36, y37, y38, y39, y40, y41, y42, y43, y44, y45, y46, y47, y48, y49, y50, y51, y52, y53, y54, y55, y56, y57, y58, y59, y60, y61, y62, y63, y64, y65, y66, y67, y68], []⟩
def LC (a1 : Option Addr) (n1 c1 : Nat) (a2 : Option Addr) (n2 c2 : Nat) (X : Nat) (aw : Option Addr) (nw cw : Nat) (ag : Option Addr) (ng cg : Nat) (ah : Option Addr) (nh ch : Nat) (m : Int) (a : Act) : Prop := ∃ y3 y5 y7 y9 y11 y12 y13 y14 y15 y16 y17 y18 y19 y20 y21 y22 y23 y24 y25 y26 y27 y28 y29 y30 y31 y32 y33 y34 y35 y36 y37 y38 y39 y40 y41 y42 y43 y44 y45 y46 y47 y48 y49 y50 y51 y52 y53 y54 y55 y56 y57 y58 y59 y60 y61 y62 y63 y64 y65 y66 y67 y68 : Value, a = ⟨#[.agg #[.slice a1 n1 c1, .slice a2 n2 c2], .pointer (some ⟨X, 0, none⟩), .bool false, y3, .slice aw nw cw, y5, .slice ag ng cg, y7, .int .i64 m, y9, .slice ah nh ch, y11, y12, y13, y14, y15, y16, y17, y18, y19, y20, y21, y22, y23, y24, y25, y26, y27, y28, y29, y30, y31, y32, y33, y34, y35, y36, y37, y38, y39, y40, y41, y42, y43, y44, y45, y46, y47, y48, y49, y50, y51, y52, y53, y54, y55, y56, y57, y58, y59, y60, y61, y62, y63, y64, y65, y66, y67, y68], []⟩
theorem LS.ev (h : LS a1 n1 c1 a2 n2 c2 X B aw nw cw a) : a.eval (.tmp 5) = .pointer (some ⟨B, 0, none⟩) ∧ a.defers = [] ∧ a.tmps.size = 69 := by
  obtain ⟨y3, y6, y7, y8, y9, y10, y11, y12, y13, y14, y15, y16, y17, y18, y19, y20, y21, y22, y23, y24, y25, y26, y27, y28, y29, y30, y31, y32, y33, y34, y35, y36, y37, y38, y39, y40, y41, y42, y43, y44, y45, y46, y47, y48, y49, y50, y51, y52, y53, y54, y55, y56, y57, y58, y59, y60, y61, y62, y63, y64, y65, y66, y67, y68, rfl⟩ := h
  exact ⟨rfl, rfl, rfl⟩
theorem LS.b (h : LS a1 n1 c1 a2 n2 c2 X B aw nw cw a) (u v : Value) : LB a1 n1 c1 a2 n2 c2 X B aw nw cw ag ng cg (((a.put (some 21) u).put (some 22) v).put (some 6) (.slice ag ng cg)) := by
  obtain ⟨y3, y6, y7, y8, y9, y10, y11, y12, y13, y14, y15, y16, y17, y18, y19, y20, y21, y22, y23, y24, y25, y26, y27, y28, y29, y30, y31, y32, y33, y34, y35, y36, y37, y38, y39, y40, y41, y42, y43, y44, y45, y46, y47, y48, y49, y50, y51, y52, y53, y54, y55, y56, y57, y58, y59, y60, y61, y62, y63, y64, y65, y66, y67, y68, rfl⟩ := h
  exact ⟨_, _, _, _, _, _, _, _, _, _, _, _, _, _, _, _, _, _, _, _, _, _, _, _, _, _, _, _, _, _, _, _, _, _, _, _, _, _, _, _, _, _, _, _, _, _, _, _, _, _, _, _, _, _, _, _, _, _, _, _, _, _, _, rfl⟩
theorem LT.ev (h : LT a1 n1 c1 a2 n2 c2 X aw nw cw ag ng cg m a) : a.eval (.tmp 1) = .pointer (some ⟨X, 0, none⟩) ∧ a.defers = [] ∧ a.tmps.size = 69 := by
  obtain ⟨y3, y5, y7, y9, y10, y11, y12, y13, y14, y15, y16, y17, y18, y19, y20, y21, y22, y23, y24, y25, y26, y27, y28, y29, y30, y31, y32, y33, y34, y35, y36, y37, y38, y39, y40, y41, y42, y43, y44, y45, y46, y47, y48, y49, y50, y51, y52, y53, y54, y55, y56, y57, y58, y59, y60, y61, y62, y63, y64, y65, y66, y67, y68, rfl⟩ := h
  exact ⟨rfl, rfl, rfl⟩
theorem LT.c (h : LT a1 n1 c1 a2 n2 c2 X aw nw cw ag ng cg m a) (u v x : Value) : LC a1 n1 c1 a2 n2 c2 X aw nw cw ag ng cg ah nh ch m ((((a.put (some 54) u).put (some 55) v).put (some 56) x).put (some 10) (.slice ah nh ch)) := by
  obtain ⟨y3, y5, y7, y9, y10, y11, y12, y13, y14, y15, y16, y17, y18, y19, y20, y21, y22, y23, y24, y25, y26, y27, y28, y29, y30, y31, y32, y33, y34, y35, y36, y37, y38, y39, y40, y41, y42, y43, y44, y45, y46, y47, y48, y49, y50, y51, y52, y53, y54, y55, y56, y57, y58, y59, y60, y61, y62, y63, y64, y65, y66, y67, y68, rfl⟩ := h
  exact ⟨_, _, _, _, _, _, _, _, _, _, _, _, _, _, _, _, _, _, _, _, _, _, _, _, _, _, _, _, _, _, _, _, _, _, _, _, _, _, _, _, _, _, _, _, _, _, _, _, _, _, _, _, _, _, _, _, _, _, _, _, _, _, rfl⟩
end

theorem Rd2.td {α : Type} [Lay α] [LayC α] {n : Nat} {w : World} {cs : List Value} {d : α} (h : Rd2 n w cs d) (τ : Nat → Question → Nat) (k : Nat) : Rd2 n (td w τ k) cs d := by
  obtain ⟨w0, h1, h2, h3⟩ := h
  exact ⟨Go.Proofs.Ytngehfhcnfobbaa.td w0 τ 0, LayC.stc h1 (Cle.td τ 0 w0), h2, ⟨h3.os, rfl, h3.output, h3.size, h3.block⟩⟩
theorem put_get {a : Act} {t : Nat} {v : Value} (h : t < a.tmps.size) : (a.put (some t) v).tmps[t]? = some v ∧ (a.put (some t) v).eval (.tmp t) = v := by
  have e : (a.put (some t) v).tmps[t]? = some v := Array.getElem?_setIfInBounds_self_of_lt h
  refine ⟨e, ?_⟩
  show (a.put (some t) v).tmps.getD t undef = v
  rw [Array.getD_eq_getD_getElem?, e]; rfl
theorem put_size {a : Act} {t : Nat} {v : Value} : (a.put (some t) v).tmps.size = a.tmps.size := Array.size_setIfInBounds

/-- What the law leaves as it was. -/
structure KeepW (N : Nat) (W W' : World) : Prop where
  low : ∀ b, b < N → W'.heap[b]? = W.heap[b]?
  size : N ≤ W'.heap.size
  tape : W'.tape = W.tape
  os : W'.os = W.os
  output : W'.output = W.output
theorem KeepW.rely {N : Nat} {W W' W1 : World} {O : Nat → Prop} (h : KeepW N W W') (r : Rely (fun b => b < N) O W' W1) : KeepW N W W1 :=
  ⟨fun b hb => (r.keep b (.inl hb)).trans (h.low b hb), Nat.le_trans h.size r.size, r.tape.trans h.tape, r.os.trans h.os, r.output.trans h.output⟩
theorem KeepW.since {N : Nat} {W W0 W' : World} {ρ0 ρ : Nat → Nat → Prop} {w0 w : World} {O0 O : Nat → Prop} (h : KeepW N W W0) (ho : ∀ b, b < N → ¬ O0 b) (s : Since0 (fun b => b < N) ρ0 w0 W0 O0 ρ w W' O) : KeepW N W W' :=
  ⟨fun b hb => (s.keep b (Nat.lt_of_lt_of_le hb h.size) hb (ho b hb)).trans (h.low b hb), Nat.le_trans h.size s.csz, s.tape.trans h.tape, s.os.trans h.os, s.output.trans h.output⟩
/-- What is said of the law's end. -/
def PostK (N : Nat) (W : World) (v : Value) (W' : World) : Prop := v = .bool true ∧ KeepW N W W'

theorem law_fn : ∃ fn, Try.prog.funcs[3]? = some fn ∧ fn.results = #[.tmp 2] ∧ fn.body = some lw ∧ fn.ntmps = 69 :=
  ⟨_, (by kernel_rfl : Try.prog.funcs[3]? = some Try.f3), by kernel_rfl, by kernel_rfl, by kernel_rfl⟩

theorem law_end {N : Nat} {W W' : World} {Vis O : Nat → Prop} {tmps' : Array Value} {k : List Item} (h2 : tmps'[2]? = some (.bool true)) (hK : KeepW N W W') : Free Try.prog (PostK N W) Vis O (G { (base 3).at ⟨tmps', []⟩ k with mode := .returning } []) W' := by
  obtain ⟨fn, f1, f2, _⟩ := law_fn
  intro gs sl t q h0 hL hP _
  refine beside_ends (P := Try.prog) (Shun := NoShun) (B := W'.heap.size) (D := fun _ _ _ => False) (n := 0) (fun _ _ _ h => h.elim) h0 hL hP (fun w1 hr => ?_)
  obtain ⟨d, rfl⟩ := hr
  have e : tmps'.getD 2 undef = .bool true := by rw [Array.getD_eq_getD_getElem?, h2]; rfl
  refine ⟨rfl, .bool true, #[], ?_, fun e he => by simp at he, rfl, ⟨hK.low, hK.size, hK.tape, hK.os, hK.output⟩⟩
  have hr := results_tmp f2 tmps' Try.prog (W'.at d)
  have hv := events_results_tmp f2 (P := Try.prog) (w := W'.at d) tmps' #[]
  rw [e] at hr
  have hf : Try.prog.funcs[(base 3).fn]? = some fn := f1
  simp only [base] at hf
  simp [G, stepG, unwind, doReturn, Frame.at, hf, hr, hv, seen_none, base, GStep.after]

/-- The law's place. -/
def lp (Post : Value → World → Prop) (N : Nat) (ρ0 : Nat → Nat → Prop) (w0 W0 : World) (O0 : Nat → Prop) : Pl :=
  { main := true, Vis := fun b => b < N, Stop := fun O g W => Free Try.prog Post (fun b => b < N) O g W, ρ0, w0, W0, O0, b := base 3, ds := [], cs := [] }
theorem free_tri {Post : Value → World → Prop} {N : Nat} {ρ : Nat → Nat → Prop} {O : Nat → Prop} {w W : World} {k : List Item} {a : Act} {tmps' : Array Value} (h : Tri Try.prog (cL fun b => b < N) (lp Post N ρ w W O) k a w) (hA : AR (cL fun b => b < N) ρ a.tmps tmps') (hd : a.defers = []) (hw : WR (cL fun b => b < N) ρ w W) (hv : ∀ b b', ρ b b' → b' < N ∨ O b') (ho : ∀ b b', ρ b b' → ¬ b < N → O b') :
    Free Try.prog Post (fun b => b < N) O (G ((base 3).at ⟨tmps', []⟩ k) []) W :=
  wins_of_co (h ρ O tmps' W hA hd ⟨hw, hv, ho, .refl ..⟩) fun _ _ W hst => hst W (.refl ..)

section
variable {N : Nat} {W w0 W0 : World} {ρ0 : Nat → Nat → Prop} {O0 : Nat → Prop}
theorem tri_ret (hK : KeepW N W W0) (ho : ∀ b, b < N → ¬ O0 b) {k : List Item} {a : Act} {w : World} (h2 : a.tmps[2]? = some (.bool true)) : Tri Try.prog (cL fun b => b < N) (lp (PostK N W) N ρ0 w0 W0 O0) (.code .ret :: k) a w := by
  intro ρ O tmps' W1 hA hd hh
  obtain ⟨v', h2', hv2⟩ := hA.get h2
  cases hv2
  exact .ctl rfl (fun _ => stepG_ret') (.stop fun W2 hr => law_end h2' ((hK.since ho hh.since).rely hr))

theorem cdA : ([lwR0, lwR1, lwR2, lwX3, lwR5, lwR6] : List Code).all (cdB Try.prog 0 cKT (fun _ => false) false) = true := by kernel_rfl
theorem cdBb : ([lwX8, lwX10, lwR12, lwR13, lwX14, lwR16, lwR17, lwR18, lwR19, lwX20, lwX22] : List Code).all (cdB Try.prog 0 cKT (fun _ => false) false) = true := by kernel_rfl
theorem cdC : ([lwX25, lwR27, lwR28, lwX29, lwX31, lwR33] : List Code).all (cdB Try.prog 0 cKT (fun _ => false) false) = true := by kernel_rfl
theorem cdG : ([lwR0, lwR1, lwR2, lwR3, lwR4] : List Code).all (cdB Try.prog 0 cKT (fun _ => false) false) = true := by kernel_rfl
theorem op7 : ((lwR7[0]?).all fun o => opB Try.prog 0 cKT (fun _ => false) false o.op) = true ∧ ((lwR7[2]?).all fun o => opB Try.prog 0 cKT (fun _ => false) false o.op) = true := ⟨by kernel_rfl, by kernel_rfl⟩
theorem op24 : ((lwR24[0]?).all fun o => opB Try.prog 0 cKT (fun _ => false) false o.op) = true ∧ ((lwR24[1]?).all fun o => opB Try.prog 0 cKT (fun _ => false) false o.op) = true ∧ ((lwR24[3]?).all fun o => opB Try.prog 0 cKT (fun _ => false) false o.op) = true := ⟨by kernel_rfl, by kernel_rfl, by kernel_rfl⟩
theorem op_ok {Z : Nat → Prop} {ops : Array Oper} {i : Nat} {o : Oper} (ho : ops[i]? = some o) (h : ((ops[i]?).all fun o => opB Try.prog 0 cKT (fun _ => false) false o.op) = true) : OpOk Try.prog (cL Z) o.op := by
  rw [ho] at h
  exact opB_ok (Nat.le_refl _) (fun _ h => h) (fun _ h => by cases h) (fun _ h => h) h

/-- Behind the second call. -/
theorem law_3 (hK : KeepW N W W0) (ho : ∀ b, b < N → ¬ O0 b) (d : Dl) (z0 : Sz.sz d ≤ 1048576) {a1 : Option Addr} {n1 c1 : Nat} {a2 : Option Addr} {n2 c2 X V1 : Nat} {aw : Option Addr} {nw cw : Nat} {ag : Option Addr} {ng cg : Nat} {ah : Option Addr} {nh ch : Nat} {a : Act} {w : World} {u v : Value}
    (hT : LT a1 n1 c1 a2 n2 c2 X aw nw cw ag ng cg (1 + (Mt.cnt (dcut d) : Nat)) a) (wr' : Rd2 V1 w [.slice aw nw cw] (dcut d)) (gr : Lay.rd w [.slice ag ng cg] (Mt.ov (dcut d) 1)) (hr : Lay.rd w [.slice ah nh ch] (dcut d)) :
    Tri Try.prog (cL fun b => b < N) (lp (PostK N W) N ρ0 w0 W0 O0) (.inRegion lwR24 [3] :: [.code lwT2]) (((a.put (some 54) u).put (some 55) v).put (some 56) (.slice ah nh ch)) w := by
  obtain ⟨o0, o1, o2, o3, ats, ats', hops, d0, d1, d2, d3, q0, q1, q2, q3, g0, g1, g2, g3⟩ := r24_ops
  have h3 : lwR24[3]? = some o3 := by rw [hops]; rfl
  have hsz := hT.ev.2.2
  have h56 : (((a.put (some 54) u).put (some 55) v).put (some 56) (.slice ah nh ch)).eval (.tmp 56) = .slice ah nh ch := (put_get (by rw [put_size, put_size, hsz]; decide)).2
  refine Tri.op (cL_ok _) rfl h3 (wanted_free g3 _) (op_ok h3 op24.2.2) fun τ => ?_
  have hrun : (execOp (((a.put (some 54) u).put (some 55) v).put (some 56) (.slice ah nh ch)).eval o3).run Try.prog (td w τ 0) = .ok (.value (.slice ah nh ch)) (td w τ 0) := by
    unfold execOp; simp only [q3, h56]; rfl
  rw [hrun, uponK_value, d3]
  refine (Tri.tape τ 0).2 (Tri.regionEnd ?_)
  obtain ⟨y3, y5, y7, y9, y11, y12, y13, y14, y15, y16, y17, y18, y19, y20, y21, y22, y23, y24, y25, y26, y27, y28, y29, y30, y31, y32, y33, y34, y35, y36, y37, y38, y39, y40, y41, y42, y43, y44, y45, y46, y47, y48, y49, y50, y51, y52, y53, y54, y55, y56, y57, y58, y59, y60, y61, y62, y63, y64, y65, y66, y67, y68, e⟩ := hT.c (ah := ah) (nh := nh) (ch := ch) u v (.slice ah nh ch)
  rw [e]
  rw [lwT2_eq]
  exact (Tri2.chain (cL_ok _) (cL_fns _) rfl Tri2.tri _ fun x hx => cL_cd (List.all_eq_true.1 cdC x hx)).start fun τ => law_C d a1 n1 c1 a2 n2 c2 (td w τ 0) z0 X V1 aw nw cw ag ng cg ah nh ch _ y3 y5 y7 y9 y11 y12 y13 y14 y15 y16 y17 y18 y19 y20 y21 y22 y23 y24 y25 y26 y27 y28 y29 y30 y31 y32 y33 y34 y35 y36 y37 y38 y39 y40 y41 y42 y43 y44 y45 y46 y47 y48 y49 y50 y51 y52 y53 y54 y55 y56 y57 y58 y59 y60 y61 y62 y63 y64 y65 y66 y67 y68 rfl (wr'.td τ 0) (LayC.stc gr (Cle.td τ 0 w)) (LayC.stc hr (Cle.td τ 0 w)) _ fun a' w3 h2 => tri_ret hK ho h2
end
end Go.Proofs.Ytngehfhcnfobbaa
namespace Go.Proofs.Ytngehfhcnfobbaa
open Go Go.Conc Go.RowKit

theorem Own2.td {α : Type} [Lay α] [Ow α] {lo hi : Nat} {w : World} {cs : List Value} {d : α} (h : Own2 lo w cs d hi) (τ : Nat → Question → Nat) (k : Nat) : Own2 lo (td w τ k) cs d hi := by
  obtain ⟨fp, h1, h2, h3, h4⟩ := h
  exact ⟨fp, Ow.frame h1 fun _ _ => rfl, h2, h3, h4⟩
theorem td_td (w : World) (τ σ : Nat → Question → Nat) (k j : Nat) : td (td w τ k) σ j = td w σ j := rfl
theorem td_self (w : World) : td w w.tape w.drawn = w := rfl
theorem LW.td {d : Dl} {w : World} {a1 : Option Addr} {n1 c1 : Nat} {a2 : Option Addr} {n2 c2 : Nat} {X B V1 : Nat} {aw : Option Addr} {nw cw : Nat} {e1 : Option Addr} {f1 g1 : Nat} {e2 : Option Addr} {f2 g2 : Nat} {w' : World} (h : LW d w a1 n1 c1 a2 n2 c2 X B V1 aw nw cw e1 f1 g1 e2 f2 g2 w') (τ : Nat → Question → Nat) (k j : Nat) : LW d (td w τ k) a1 n1 c1 a2 n2 c2 X B V1 aw nw cw e1 f1 g1 e2 f2 g2 (Go.Proofs.Ytngehfhcnfobbaa.td w' τ j) :=
  ⟨h.ext.td τ k, h.bA, h.hX, h.XV, h.wr.td τ j, h.bX, h.VB⟩
theorem to_any (d : Dl) {b1 : Option Addr} {m1 k1 : Nat} {b2 : Option Addr} {m2 k2 : Nat} {w : World} (z0 : Sz.sz d ≤ 1048576) (h1 : SlRd w b1 m1 k1 d.drop) (h2 : SlRd w b2 m2 k2 d.tell) (τ : Nat → Question → Nat) :
    Calls Try.prog 6 #[.agg #[.slice b1 m1 k1, .slice b2 m2 k2]] (td w τ 0) fun e w' => ∃ v, e = .returned v ∧ ∃ e1 f1 g1 e2 f2 g2, v = .agg #[.slice e1 f1 g1, .slice e2 f2 g2] ∧ ∃ w4 σ j, w' = td w4 σ j ∧ Ext w w4 ∧ SlRd w4 e1 f1 g1 d.drop ∧ SlRd w4 e2 f2 g2 d.tell := by
  refine (to_Dl d b1 m1 k1 b2 m2 k2 _ z0 (h1.stc (Cle.td τ 0 w)) (h2.stc (Cle.td τ 0 w))).mono ?_
  rintro _ _ ⟨e1, f1, g1, e2, f2, g2, rfl, x, rfl, F⟩
  refine ⟨_, rfl, e1, f1, g1, e2, f2, g2, rfl, ext w x, τ, x.n, ?_, ⟨x, rfl⟩, ?_, ?_⟩
  · rfl
  · exact (parts_Dl F.out.rd).1.stc fun _ _ h => h
  · exact (parts_Dl F.out.rd).2.stc fun _ _ h => h

section
variable {N : Nat} {W w0 W0 : World} {ρ0 : Nat → Nat → Prop} {O0 : Nat → Prop}
/-- To the second call, and on. -/
theorem law_2 (hK : KeepW N W W0) (ho : ∀ b, b < N → ¬ O0 b) (d : Dl) (z0 : Sz.sz d ≤ 1048576) {a1 : Option Addr} {n1 c1 : Nat} {a2 : Option Addr} {n2 c2 X V1 : Nat} {aw : Option Addr} {nw cw : Nat} {ag : Option Addr} {ng cg : Nat} {a : Act} {ws w : World}
    (hT : LT a1 n1 c1 a2 n2 c2 X aw nw cw ag ng cg (1 + (Mt.cnt (dcut d) : Nat)) a) (hE : Ext ws w) (h1 : SlRd ws a1 n1 c1 d.drop) (h2 : SlRd ws a2 n2 c2 d.tell) (bA : Blk w X 25 [.slice a1 n1 c1, .slice a2 n2 c2]) (wr' : Rd2 V1 w [.slice aw nw cw] (dcut d)) (gr : Lay.rd w [.slice ag ng cg] (Mt.ov (dcut d) 1)) :
    Tri Try.prog (cL fun b => b < N) (lp (PostK N W) N ρ0 w0 W0 O0) [.code (.seq (.region 24 lwR24 false) lwT2)] a w := by
  obtain ⟨o0, o1, o2, o3, ats, ats', hops, d0, d1, d2, d3, q0, q1, q2, q3, g0, g1, g2, g3⟩ := r24_ops
  have i0 : lwR24[0]? = some o0 := by rw [hops]; rfl
  have i1 : lwR24[1]? = some o1 := by rw [hops]; rfl
  have i2 : lwR24[2]? = some o2 := by rw [hops]; rfl
  obtain ⟨ev1, hd, hsz⟩ := hT.ev
  refine Tri.seq (Tri.region ?_)
  rw [show List.range lwR24.size = [0, 1, 2, 3] by rw [hops]; rfl]
  refine Tri.op (cL_ok _) rfl i0 (wanted_free g0 _) (op_ok i0 op24.1) fun τ => ?_
  rw [load_ll a 1 X (td w τ 0) _ _ ev1 (bA.cell (j := 0) rfl) (bA.cell (j := 1) rfl) o0 q0, uponK_value, d0]
  refine (Tri.tape τ 0).2 ?_
  have hp := put_get (a := a) (t := 54) (v := .agg #[.slice a1 n1 c1, .slice a2 n2 c2]) (by rw [hsz]; decide)
  refine Tri.call (cL_ok _) (cL_fns _) rfl i1 (wanted_free g1 _) (op_ok i1 op24.2.1) (f := 6) (args := #[.agg #[.slice a1 n1 c1, .slice a2 n2 c2]]) (show cKT 6 = true by kernel_rfl) ⟨_, (by kernel_rfl : Try.prog.funcs[6]? = some Try.f6), by kernel_rfl⟩ (fun τ => ⟨0, call_to _ 54 _ _ hp.2 o1 ats q1⟩) (to_any d z0 (h1.stays hE.below) (h2.stays hE.below)) fun v w' hQ => ?_
  obtain ⟨e1, f1, g1', e2, f2, g2', rfl, w4, σ, j, rfl, hE4, s1, s2⟩ := hQ
  refine (Tri.tape σ j).2 ?_
  rw [d1]
  intro ρ O tmps' W1 hA hd' hh
  refine .stop fun W2 hr => ?_
  have hh2 := hh.rely' hr
  have hO : ∀ b, b < N → ¬ O b := fun b hb hx => by
    rcases hh2.since.ownNew b hx with h | h
    · exact ho b hb h
    · have := hK.size
      have h' : W0.heap.size ≤ b := h
      omega
  have hK2 := hK.since ho hh2.since
  refine dc_call (Post := PostK N W) (Z := fun b => b < N) (VisL := fun b => b < N) (O := O) (ρ := ρ) (w := w4) (W := W2) (bL := base 3) (tmpsL := ((a.put (some 54) (.agg #[.slice a1 n1 c1, .slice a2 n2 c2])).put (some 55) (.agg #[.slice e1 f1 g1', .slice e2 f2 g2'])).tmps) (tmpsL' := tmps') (dsL := []) (csL := []) (kL := [.code lwT2]) (ops := lwR24) (i := 2) (rest := [3]) (o := o2) (t := 55) (ats := ats') (d := d)
    i2 g2 (by decide) q2 (put_get (by rw [put_size, hsz]; decide)).1 hA hh2.wr hh2.vis hh2.own hO (fun b hb => Nat.lt_of_lt_of_le hb hK2.size) s1 s2 z0 ?_
  intro ρ2 O2 w5 W3 v2 v' fps hE5 hacc hlo hsub hvv hw3 hvis2 hown2 hVO2 hkeep hrest
  obtain ⟨ah, nh, ch, rfl⟩ := hacc.shapeL
  have hK3 : KeepW N W W3 := ⟨fun b hb => ((hkeep b hb).2).trans (hK2.low b hb), Nat.le_of_not_lt fun h => Nat.lt_irrefl _ (hkeep _ h).1, hrest.1.trans hK2.tape, hrest.2.1.trans hK2.os, hrest.2.2.trans hK2.output⟩
  rw [d2]
  refine free_tri (w := w5) (law_3 (V1 := V1) hK3 hVO2 d z0 hT (wr'.later (hE4.trans hE5)) (Lay.stays gr (hE4.trans hE5).below) ⟨_, _, _, rfl, hacc.sl⟩) ((hA.mono hsub).set 56 hvv) hd hw3 hvis2 hown2
end
end Go.Proofs.Ytngehfhcnfobbaa
namespace Go.Proofs.Ytngehfhcnfobbaa
open Go Go.Conc Go.RowKit

section
variable {N : Nat} {W w0 W0 : World} {ρ0 : Nat → Nat → Prop} {O0 : Nat → Prop}
/-- Behind the first call. -/
theorem law_1c (hK : KeepW N W W0) (ho : ∀ b, b < N → ¬ O0 b) (d : Dl) (z0 : Sz.sz d ≤ 1048576) {a1 : Option Addr} {n1 c1 : Nat} {a2 : Option Addr} {n2 c2 X B V1 H1 H2 : Nat} {aw : Option Addr} {nw cw : Nat} {e1 : Option Addr} {f1 g1 : Nat} {e2 : Option Addr} {f2 g2 : Nat} {ag : Option Addr} {ng cg : Nat} {a : Act} {ws w1 w : World} {u : Value}
    (hS : LS a1 n1 c1 a2 n2 c2 X B aw nw cw a) (hl : LW d ws a1 n1 c1 a2 n2 c2 X B V1 aw nw cw e1 f1 g1 e2 f2 g2 w1) (hE : Ext w1 w) (h1 : SlRd ws a1 n1 c1 d.drop) (h2 : SlRd ws a2 n2 c2 d.tell) (hx : Own2 V1 w1 [.slice e1 f1 g1, .slice e2 f2 g2] d H1) (hH : H1 ≤ B) (hg : Own2 w1.heap.size w [.slice ag ng cg] (dcut d) H2) :
    Tri Try.prog (cL fun b => b < N) (lp (PostK N W) N ρ0 w0 W0 O0) (.inRegion lwR7 [2] :: [.code lwT1]) ((a.put (some 21) u).put (some 22) (.slice ag ng cg)) w := by
  obtain ⟨o0, o1, o2, ats, hops, d0, d1, d2, q0, q1, q2, g0, g1, g2⟩ := r7_ops
  have i2 : lwR7[2]? = some o2 := by rw [hops]; rfl
  have hsz := hS.ev.2.2
  have hev : ((a.put (some 21) u).put (some 22) (.slice ag ng cg)).eval (.tmp 22) = .slice ag ng cg := (put_get (by rw [put_size, hsz]; decide)).2
  refine Tri.op (cL_ok _) rfl i2 (wanted_free g2 _) (op_ok i2 op7.2) fun τ => ?_
  have hrun : (execOp ((a.put (some 21) u).put (some 22) (.slice ag ng cg)).eval o2).run Try.prog (td w τ 0) = .ok (.value (.slice ag ng cg)) (td w τ 0) := by
    unfold execOp; simp only [q2, hev]; rfl
  rw [hrun, uponK_value, d2]
  refine (Tri.tape τ 0).2 (Tri.regionEnd ?_)
  obtain ⟨y3, y7, y8, y9, y10, y11, y12, y13, y14, y15, y16, y17, y18, y19, y20, y21, y22, y23, y24, y25, y26, y27, y28, y29, y30, y31, y32, y33, y34, y35, y36, y37, y38, y39, y40, y41, y42, y43, y44, y45, y46, y47, y48, y49, y50, y51, y52, y53, y54, y55, y56, y57, y58, y59, y60, y61, y62, y63, y64, y65, y66, y67, y68, e⟩ := hS.b (ag := ag) (ng := ng) (cg := cg) u (.slice ag ng cg)
  rw [e, lwT1_eq]
  refine (Tri2.chain (cL_ok _) (cL_fns _) rfl Tri2.tri _ fun x hx => cL_cd (List.all_eq_true.1 cdBb x hx)).start fun τ => law_B d a1 n1 c1 a2 n2 c2 (td ws τ 0) (td w τ 0) (h1.stc (Cle.td τ 0 ws)) (h2.stc (Cle.td τ 0 ws)) z0 X B V1 H1 w1.heap.size H2 aw nw cw _ _ _ _ _ _ ag ng cg y3 y7 y8 y9 y10 y11 y12 y13 y14 y15 y16 y17 y18 y19 y20 y21 y22 y23 y24 y25 y26 y27 y28 y29 y30 y31 y32 y33 y34 y35 y36 y37 y38 y39 y40 y41 y42 y43 y44 y45 y46 y47 y48 y49 y50 y51 y52 y53 y54 y55 y56 y57 y58 y59 y60 y61 y62 y63 y64 y65 y66 y67 y68 ((hl.later hE).td τ 0 0) ((hx.later hE).td τ 0) hH (hg.td τ 0) hl.bX.lt _ fun a' w3 hT hE3 bA wr' gr => law_2 hK ho d z0 hT hE3 (h1.stc (Cle.td τ 0 ws)) (h2.stc (Cle.td τ 0 ws)) bA wr' gr

/-- To the first call, and on. -/
theorem law_1b (hK : KeepW N W W0) (ho : ∀ b, b < N → ¬ O0 b) (d : Dl) (z0 : Sz.sz d ≤ 1048576) {a1 : Option Addr} {n1 c1 : Nat} {a2 : Option Addr} {n2 c2 X B V1 H1 : Nat} {aw : Option Addr} {nw cw : Nat} {e1 : Option Addr} {f1 k1 : Nat} {e2 : Option Addr} {f2 k2 : Nat} {a : Act} {ws w1 : World}
    (hS : LS a1 n1 c1 a2 n2 c2 X B aw nw cw a) (hl : LW d ws a1 n1 c1 a2 n2 c2 X B V1 aw nw cw e1 f1 k1 e2 f2 k2 w1) (h1 : SlRd ws a1 n1 c1 d.drop) (h2 : SlRd ws a2 n2 c2 d.tell) (hx : Own2 V1 w1 [.slice e1 f1 k1, .slice e2 f2 k2] d H1) (hH : H1 ≤ B) :
    Tri Try.prog (cL fun b => b < N) (lp (PostK N W) N ρ0 w0 W0 O0) [.code (.seq (.region 7 lwR7 false) lwT1)] a w1 := by
  obtain ⟨o0, o1, o2, ats, hops, d0, d1, d2, q0, q1, q2, g0, g1, g2⟩ := r7_ops
  have i0 : lwR7[0]? = some o0 := by rw [hops]; rfl
  have i1 : lwR7[1]? = some o1 := by rw [hops]; rfl
  obtain ⟨ev1, hd, hsz⟩ := hS.ev
  refine Tri.seq (Tri.region ?_)
  rw [show List.range lwR7.size = [0, 1, 2] by rw [hops]; rfl]
  refine Tri.op (cL_ok _) rfl i0 (wanted_free g0 _) (op_ok i0 op7.1) fun τ => ?_
  rw [load_dl a 5 B (td w1 τ 0) _ _ ev1 (hl.bX.cell (j := 0) rfl) (hl.bX.cell (j := 1) rfl) o0 q0, uponK_value, d0]
  refine (Tri.tape τ 0).2 ?_
  intro ρ O tmps' W1 hA hd' hh
  refine .stop fun W2 hr => ?_
  have hh2 := hh.rely' hr
  have hO : ∀ b, b < N → ¬ O b := fun b hb hx => by
    rcases hh2.since.ownNew b hx with h | h
    · exact ho b hb h
    · have := hK.size
      have h' : W0.heap.size ≤ b := h
      omega
  have hK2 := hK.since ho hh2.since
  refine dc_call (Post := PostK N W) (Z := fun b => b < N) (VisL := fun b => b < N) (O := O) (ρ := ρ) (w := w1) (W := W2) (bL := base 3) (tmpsL := (a.put (some 21) (.agg #[.slice e1 f1 k1, .slice e2 f2 k2])).tmps) (tmpsL' := tmps') (dsL := []) (csL := []) (kL := [.code lwT1]) (ops := lwR7) (i := 1) (rest := [2]) (o := o1) (t := 21) (ats := ats) (d := d)
    i1 g1 (by decide) q1 (put_get (by rw [hsz]; decide)).1 hA hh2.wr hh2.vis hh2.own hO (fun b hb => Nat.lt_of_lt_of_le hb hK2.size) (parts_Dl hx.rd).1 (parts_Dl hx.rd).2 z0 ?_
  intro ρ2 O2 w5 W3 v2 v' fps hE5 hacc hlo hsub hvv hw3 hvis2 hown2 hVO2 hkeep hrest
  obtain ⟨ag, ng, cg, rfl, hF⟩ := hacc.fresh hE5 hlo
  have hK3 : KeepW N W W3 := ⟨fun b hb => ((hkeep b hb).2).trans (hK2.low b hb), Nat.le_of_not_lt fun h => Nat.lt_irrefl _ (hkeep _ h).1, hrest.1.trans hK2.tape, hrest.2.1.trans hK2.os, hrest.2.2.trans hK2.output⟩
  rw [d1]
  exact free_tri (w := w5) (law_1c hK3 hVO2 d z0 hS hl hE5 h1 h2 hx hH (Own2.of hF)) ((hA.mono hsub).set 22 hvv) hd hw3 hvis2 hown2

/-- From the start. -/
theorem law_1 (hK : KeepW N W W0) (ho : ∀ b, b < N → ¬ O0 b) (d : Dl) {a1 : Option Addr} {n1 c1 : Nat} {a2 : Option Addr} {n2 c2 : Nat} {w : World} (h1 : SlRd w a1 n1 c1 d.drop) (h2 : SlRd w a2 n2 c2 d.tell) :
    Tri Try.prog (cL fun b => b < N) (lp (PostK N W) N ρ0 w0 W0 O0) [.code lw] ⟨#[.agg #[.slice a1 n1 c1, .slice a2 n2 c2], undef, undef, undef, undef, undef, undef, undef, undef, undef, undef, undef, undef, undef, undef, undef, undef, undef, undef, undef, undef, undef, undef, undef, undef, undef, undef, undef, undef, undef, undef, undef, undef, undef, undef, undef, undef, undef, undef, undef, undef, undef, undef, undef, undef, undef, undef, undef, undef, undef, undef, undef, undef, undef, undef, undef, undef, undef, undef, undef, undef, undef, undef, undef, undef, undef, undef, undef, undef], []⟩ w := by
  by_cases z0 : Sz.sz d ≤ 1048576
  · rw [lw_eq]
    exact (Tri2.chain (cL_ok _) (cL_fns _) rfl Tri2.tri _ fun x hx => cL_cd (List.all_eq_true.1 cdA x hx)).start fun τ => law_A d a1 n1 c1 a2 n2 c2 (td w τ 0) (h1.stc (Cle.td τ 0 w)) (h2.stc (Cle.td τ 0 w)) z0 _ fun a' w' B V1 H1 aw nw cw e1 f1 g1 e2 f2 g2 hS hl hx hH => law_1b hK ho d z0 hS hl (h1.stc (Cle.td τ 0 w)) (h2.stc (Cle.td τ 0 w)) hx hH
  · have z1 : ¬ (Sz.sz d : Int) ≤ 1048576 := by omega
    have e : lw = ([lwR0, lwR1, lwR2] : List Code).foldr .seq (.seq lwX3 (([lwR5, lwR6] : List Code).foldr .seq (.seq (.region 7 lwR7 false) lwT1))) := lw_eq
    have hc : ∀ x ∈ ([lwR0, lwR1, lwR2, lwR3, lwR4] : List Code), CdOk Try.prog (cL fun b => b < N) x := fun x hx => cL_cd (List.all_eq_true.1 cdG x hx)
    rw [e]
    refine (Tri2.chain (cL_ok _) (cL_fns _) rfl (K := fun a w => lwR3.wp Try.prog (fun e a1 w1 => e = .normal ∧ Tri Try.prog (cL fun b => b < N) (lp (PostK N W) N ρ0 w0 W0 O0) [.code (.cond (.tmp 15) (.seq lwR4 .ret) .skip), .code (([lwR5, lwR6] : List Code).foldr .seq (.seq (.region 7 lwR7 false) lwT1))] a1 w1) a w) ?_ [lwR0, lwR1, lwR2] fun x hx => hc x (by
      simp only [List.mem_cons, List.not_mem_nil, or_false] at hx ⊢
      rcases hx with h | h | h <;> simp [h])).start fun τ => law_big d a1 n1 c1 a2 n2 c2 (td w τ 0) (h1.stc (Cle.td τ 0 w)) (h2.stc (Cle.td τ 0 w)) z1 _ fun a' w' h15 hsz => ?_
    · refine Tri2.seq ?_
      rw [lwX3_eq]
      exact Tri2.seq (Tri2.code (cL_ok _) (cL_fns _) rfl (hc lwR3 (by simp)) Tri2.tri)
    · refine Tri.cond (t := true) trivial h15 ?_
      intro ρ O tmps' W1 hA hd hh
      refine (Tri.seq (Tri.code (cL_ok _) (cL_fns _) rfl (hc lwR4 (by simp)) fun τ => lwR4_wp a' (td w' τ 0) hsz hd _ fun a2 w2 h3 => ?_)) ρ O tmps' W1 hA hd hh
      exact tri_ret hK ho h3
end
end Go.Proofs.Ytngehfhcnfobbaa
namespace Go.Proofs.Ytngehfhcnfobbaa
open Go Go.Conc Go.RowKit

theorem opv_laws_int : OpV Try.prog 3 := opv_int Try.underlying3
theorem opv_laws_ints : OpV Try.prog 44 := opv_slice Try.underlying44 (of_decide_eq_true (by kernel_rfl)) opv_laws_int
theorem opv_laws_Rg : OpV Try.prog 56 := opv_struct Try.underlying56 (by kernel_rfl) fun f hf => by
  simp at hf
  rcases hf with rfl | rfl <;> exact opv_laws_int
theorem opv_laws_Rt : OpV Try.prog 58 := opv_struct Try.underlying58 (by kernel_rfl) fun f hf => by
  simp at hf
  rcases hf with rfl | rfl | rfl | rfl
  · exact opv_laws_Rg
  · exact opv_laws_ints
  · exact opv_laws_int
  · exact opv_laws_ints
theorem opv_laws_Rgs : OpV Try.prog 22 := opv_slice Try.underlying22 (of_decide_eq_true (by kernel_rfl)) opv_laws_Rg
theorem opv_laws_Rts : OpV Try.prog 23 := opv_slice Try.underlying23 (of_decide_eq_true (by kernel_rfl)) opv_laws_Rt
theorem opv_laws_Dl : OpV Try.prog 25 := opv_struct Try.underlying25 (by kernel_rfl) fun f hf => by
  simp at hf
  rcases hf with rfl | rfl
  · exact opv_laws_Rgs
  · exact opv_laws_Rts

theorem und69 (x : Value) : #[x] ++ Array.replicate 68 undef = #[x, undef, undef, undef, undef, undef, undef, undef, undef, undef, undef, undef, undef, undef, undef, undef, undef, undef, undef, undef, undef, undef, undef, undef, undef, undef, undef, undef, undef, undef, undef, undef, undef, undef, undef, undef, undef, undef, undef, undef, undef, undef, undef, undef, undef, undef, undef, undef, undef, undef, undef, undef, undef, undef, undef, undef, undef, undef, undef, undef, undef, undef, undef, undef, undef, undef, undef, undef, undef] := by kernel_rfl
/-- THE RUN. -/
theorem the_run {H : Type} {enc : TypeId × Value → H} {W : World} {fuel : Nat} {cs : Array Value} {d0 : DataW H} {ps : List MemPlace} (h : DataW.trod enc Try.prog W 0 (fun _ => true) true fuel 25 cs.toList = some (d0, ps)) :
    ∃ M last o w' t', runNT Try.prog (M + 1) (solo (G (Frame.enter Try.prog 3 #[.agg cs] .normal) []) W) #[] = (.ended o w', t') ∧ runN Try.prog M (solo (G (Frame.enter Try.prog 3 #[.agg cs] .normal) []) W) = .next last ∧ step Try.prog last = .ended o w' ∧ Go.Conc.Good Try.prog (PostK W.heap.size W) last o w' t' := by
  obtain ⟨hs, hp⟩ := opv_laws_Dl h
  obtain ⟨w0, hsz, hw, hsame⟩ := pure_world W ps hp
  have h' := DataW.trod_carry fuel _ _ _ h hsame
  obtain ⟨_, d, hd⟩ := opens_laws_Dl.2 h'
  obtain ⟨a1, n1, c1, a2, n2, c2, e, h1, h2⟩ := hd
  obtain ⟨cs⟩ := cs
  simp only at e hs
  subst e
  obtain ⟨fn, f1, f2, f3, f4⟩ := law_fn
  have hlt : ∀ b, CellsAt W b → b < W.heap.size := fun b ⟨xs, e, fr, hx⟩ => (Array.getElem?_eq_some_iff.1 hx).1
  have hx : VR (cL fun b => b < W.heap.size) (idc W) (.agg #[.slice a1 n1 c1, .slice a2 n2 c2]) (.agg #[.slice a1 n1 c1, .slice a2 n2 c2]) := .agg rfl fun i v v' q1 q2 => by
    rw [q1] at q2
    cases q2
    have hm : v ∈ [Value.slice a1 n1 c1, .slice a2 n2 c2] := by
      have := Array.mem_of_getElem? q1
      simpa using this
    exact (hs v hm).vr
  have hA : AR (cL fun b => b < W.heap.size) (idc W) (#[.agg #[.slice a1 n1 c1, .slice a2 n2 c2]] ++ Array.replicate 68 undef) (#[.agg #[.slice a1 n1 c1, .slice a2 n2 c2]] ++ Array.replicate 68 undef) := ⟨rfl, fun i v v' q1 q2 => by
    rw [q1] at q2
    cases q2
    rw [Array.getElem?_append] at q1
    split at q1
    · rename_i hi
      have hi : i < 1 := hi
      obtain rfl : i = 0 := by omega
      cases q1
      exact hx
    · rw [Array.getElem?_replicate] at q1
      split at q1
      · cases q1
        exact .junk _ trivial
      · cases q1⟩
  have hfr : Frame.enter Try.prog 3 #[.agg #[.slice a1 n1 c1, .slice a2 n2 c2]] .normal = (base 3).at ⟨#[.agg #[.slice a1 n1 c1, .slice a2 n2 c2]] ++ Array.replicate 68 undef, []⟩ [.code lw] := by
    rw [enter_at _ f1 f3, f4]
    rfl
  have hK : KeepW W.heap.size W W := ⟨fun _ _ => rfl, Nat.le_refl _, rfl, rfl, rfl⟩
  have hl := law_1 (ρ0 := idc W) (w0 := w0) (O0 := fun _ => False) hK (fun _ _ h => h) d h1 h2
  rw [← und69] at hl
  have hF := free_tri (Post := PostK W.heap.size W) (N := W.heap.size) (ρ := idc W) (O := fun _ => False) (w := w0) (W := W) hl hA rfl hw (fun b b' x => .inl (x.1 ▸ hlt _ x.2)) (fun b b' x hn => absurd (hlt _ x.2) hn)
  show Wins Try.prog (PostK W.heap.size W) (crowd #[G (Frame.enter Try.prog 3 #[.agg #[.slice a1 n1 c1, .slice a2 n2 c2]] .normal) []] W none) #[]
  rw [hfr]
  exact hF _ none #[] (fun _ => 0) rfl (leavers_one _ _) (past_nil.mono (Nat.zero_le _)) fun b hb => hb.elim id False.elim
end Go.Proofs.Ytngehfhcnfobbaa
