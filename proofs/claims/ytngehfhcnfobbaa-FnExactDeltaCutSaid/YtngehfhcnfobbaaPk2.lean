/- Lemmas for it, part 2. No condition. -/
import Derived.Deep.AppendLies
import Derived.Lib.AppendZerosOnto
import Derived.Laws.AppendOwnNone
import Derived.Laws.CopyOwn
import Derived.Test.YtngehfhcnfobbaaRows
import Derived.Test.YtngehfhcnfobbaaPk1
namespace Go.Proofs.Ytngehfhcnfobbaa
open Go Go.RowKit

/-- What a change of these blocks alone leaves. -/
def Chg (fp : List Nat) (w w' : World) : Prop := Below 0 w w' ∧ ∀ b, b < w.heap.size → b ∉ fp → w'.heap[b]? = w.heap[b]?
section
variable {fp fq : List Nat} {a w w' w'' : World}
theorem Chg.refl : Chg fp w w := ⟨Below.refl _ _, fun _ _ _ => rfl⟩
theorem Chg.trans (h : Chg fp w w') (h' : Chg fp w' w'') : Chg fp w w'' :=
  ⟨h.1.trans h'.1, fun i hi hn => (h'.2 i (Nat.lt_of_lt_of_le hi h.1.size) hn).trans (h.2 i hi hn)⟩
theorem Chg.mono (h : Chg fp w w') (hs : ∀ b ∈ fp, b ∈ fq) : Chg fq w w' := ⟨h.1, fun i hi hn => h.2 i hi fun hb => hn (hs i hb)⟩
theorem Ext.chg (h : Ext w w') : Chg fp w w' := ⟨h.below.mono (Nat.zero_le _), fun i hi _ => h.below.block i hi⟩
theorem Chg.set {b j : Nat} (hb : b ∈ fp) (v : Value) : Chg fp w (w.setCell ⟨b, j, none⟩ v) :=
  ⟨(Below.refl 0 w).setCell (Nat.zero_le _) v, fun _ _ hn => Below.heap_setCell _ _ _ _ (fun e => hn (e ▸ hb))⟩
theorem Chg.below {n : Nat} (h : Chg fp w w') (hn : ∀ b ∈ fp, n ≤ b) (hw : n ≤ w.heap.size) : Below n w w' :=
  ⟨h.1.os, h.1.tape, h.1.output, h.1.size, fun i hi => h.2 i (by omega) fun hb => by have := hn i hb; omega⟩
theorem Ext.byChg (h : Ext a w) (hc : Chg fp w w') (hn : ∀ b ∈ fp, a.heap.size ≤ b) : Ext a w' :=
  Ext.of (h.below.trans (hc.below hn h.size))
theorem Chg.tset {b j : Nat} (h : Chg fp w w') (hb : b ∈ fp) {v : Value} : Chg fp w (w'.setCell ⟨b, j, none⟩ v) := h.trans (Chg.set hb v)
theorem Chg.cell {b : Nat} (h : Chg fp w w') (hl : b < w.heap.size) (hn : b ∉ fp) (o : Nat) : w'.cell? ⟨b, o, none⟩ = w.cell? ⟨b, o, none⟩ := World.cell?_of_block (h.2 b hl hn)
theorem Chg.frozen {b : Nat} (h : Chg fp w w') (hl : b < w.heap.size) (hn : b ∉ fp) (o : Nat) : w'.frozen? ⟨b, o, none⟩ = w.frozen? ⟨b, o, none⟩ := World.frozen?_of_block (h.2 b hl hn)
/-- Block x is as it was. -/
def Kp (x : Nat) (w w' : World) : Prop := w.heap.size ≤ w'.heap.size ∧ w'.heap[x]? = w.heap[x]?
theorem Kp.of {x : Nat} (h : Kp x w w') : w'.heap[x]? = w.heap[x]? := h.2
theorem Kp.refl {x : Nat} : Kp x w w := ⟨Nat.le_refl _, rfl⟩
theorem Kp.set {x b j : Nat} {v : Value} (h : Kp x w w') (hne : x ≠ b) : Kp x w (w'.setCell ⟨b, j, none⟩ v) :=
  ⟨by have := h.1; simpa [World.setCell] using this, (Below.heap_setCell _ _ _ _ hne).trans h.2⟩
theorem Kp.chg {x : Nat} (h : Kp x w w') (hl : x < w.heap.size) (c : Chg fp w' w'') (hn : x ∉ fp) : Kp x w w'' :=
  ⟨Nat.le_trans h.1 c.1.size, (c.2 x (Nat.lt_of_lt_of_le hl h.1) hn).trans h.2⟩
theorem OwSl.later {α : Type} [Lay α] [Ow α] {a : Option Addr} {len cap : Nat} {l : List α} (h : OwSl w a len cap l fp) (k : Ext w w') : OwSl w' a len cap l fp :=
  h.frame fun b hb => k.below.block b (h.lt b hb)
theorem OwSl.chg {α : Type} [Lay α] [Ow α] {a : Option Addr} {len cap : Nat} {l : List α} (h : OwSl w a len cap l fp) (k : Chg fq w w') (hd : ∀ x ∈ fp, x ∉ fq) : OwSl w' a len cap l fp :=
  h.frame fun b hb => k.2 b (h.lt b hb) (hd b hb)
theorem Blk.same {b j : Nat} {e : TypeId} {cs : List Value} {u : Value} (h : Blk w b e cs) (hj : cs[j]? = some u) : Blk w b e (cs.set j u) := by
  have : cs.set j u = cs := by
    obtain ⟨hlt, rfl⟩ := List.getElem?_eq_some_iff.1 hj
    exact List.set_getElem_self hlt
  rwa [this]
theorem I64.mk {n : Int} (h0 : -9223372036854775808 ≤ n) (h1 : n ≤ 9223372036854775807) : I64 n := by
  unfold I64
  simp only [Lit.wf, Bool.and_eq_true, decide_eq_true_eq]
  exact ⟨h0, h1⟩
end

theorem flatten_disj {L : List (List Nat)} (h : L.flatten.Nodup) {i j : Nat} {f g : List Nat} (hi : L[i]? = some f) (hj : L[j]? = some g) (hne : i ≠ j) {x : Nat} (hx : x ∈ f) : x ∉ g := by
  induction L generalizing i j with
  | nil => simp at hi
  | cons c L ih =>
    rw [List.flatten_cons, List.nodup_append] at h
    obtain ⟨h1, h2, h3⟩ := h
    match i, j with
    | 0, 0 => exact absurd rfl hne
    | 0, j + 1 =>
      simp only [List.getElem?_cons_zero, Option.some.injEq] at hi
      subst hi
      simp only [List.getElem?_cons_succ] at hj
      intro hg
      exact h3 x hx x (List.mem_flatten.2 ⟨g, List.mem_of_getElem? hj, hg⟩) rfl
    | i + 1, 0 =>
      simp only [List.getElem?_cons_zero, Option.some.injEq] at hj
      subst hj
      simp only [List.getElem?_cons_succ] at hi
      intro hg
      exact h3 x hg x (List.mem_flatten.2 ⟨f, List.mem_of_getElem? hi, hx⟩) rfl
    | i + 1, j + 1 =>
      simp only [List.getElem?_cons_succ] at hi hj
      exact ih h2 hi hj (by omega)
theorem flatten_nodup {L : List (List Nat)} (h : L.flatten.Nodup) {i : Nat} {f : List Nat} (hi : L[i]? = some f) : f.Nodup := by
  induction L generalizing i with
  | nil => simp at hi
  | cons c L ih =>
    rw [List.flatten_cons, List.nodup_append] at h
    match i with
    | 0 => simp only [List.getElem?_cons_zero, Option.some.injEq] at hi; exact hi ▸ h.1
    | i + 1 => simp only [List.getElem?_cons_succ] at hi; exact ih h.2.1 hi

theorem ne_of_mem {x b : Nat} {f : List Nat} (hx : x ∈ f) (hb : b ∉ f) : x ≠ b := fun e => hb (e ▸ hx)
theorem disj_swap {p q : List Nat} (h : ∀ x ∈ p, x ∉ q) {x : Nat} (hx : x ∈ q) : x ∉ p := fun hy => h x hy hx
theorem cons_eq {a b : Value} {l m : List Value} (h : a = b) (k : l = m) : a :: l = b :: m := by rw [h, k]
theorem bool_eq {a b : Bool} (h : a = b) : Value.bool a = Value.bool b := by rw [h]
/-- One element of data of the call's own: what it is, and how it is turned. -/
theorem OwSl.open {α : Type} [Lay α] [Ow α] {w : World} {a : Option Addr} {len cap : Nat} {l : List α} {fp : List Nat} (h : OwSl w a len cap l fp) (hnd : fp.Nodup) {i : Nat} {d : α} (hd : l[i]? = some d) :
    ∃ (b : Nat) (e : TypeId) (cs : List Value) (f : List Nat) (ys : List Value), a = some ⟨b, 0, none⟩ ∧ Blk w b e cs ∧ b ∈ fp ∧ ys.length = Lay.n α ∧ Elt cs (Lay.n α) i ys ∧ i * Lay.n α + Lay.n α ≤ cs.length ∧
      Ow.own w ys d f ∧ f.Nodup ∧ (∀ x ∈ f, x ∈ fp) ∧ b ∉ f ∧
      ∀ (w' : World) (ys' : List Value) (d' : α), ys'.length = Lay.n α → Blk w' b e (setL cs (i * Lay.n α) ys') → Ow.own w' ys' d' f → (∀ x ∈ fp, x ≠ b → x ∉ f → w'.heap[x]? = w.heap[x]?) →
        OwSl w' a len cap (l.set i d') fp := by
  obtain ⟨h1, h2, h3, h4, h5⟩ := h
  rcases h5 with ⟨rfl, _⟩ | ⟨b, e, cs, fps, rfl, hb, hc, hf, rfl, hel⟩
  · simp at hd
  · have hi := (List.getElem?_eq_some_iff.1 hd).1
    have hfi : fps[i]? = some (fps[i]'(by omega)) := List.getElem?_eq_getElem (by omega)
    obtain ⟨ys, r1, r2, r3⟩ := hel i d _ hd hfi
    obtain ⟨hbn, hnd'⟩ := List.nodup_cons.1 hnd
    have hin : ∀ x ∈ fps[i]'(by omega), x ∈ fps.flatten := fun x hx => List.mem_flatten.2 ⟨_, List.mem_of_getElem? hfi, hx⟩
    have hroom : i * Lay.n α + Lay.n α ≤ cs.length := by
      rw [hc]
      have := Nat.mul_le_mul_right (Lay.n α) (show i + 1 ≤ cap by omega)
      rwa [Nat.add_mul, Nat.one_mul] at this
    refine ⟨b, e, cs, _, ys, rfl, hb, by simp, r1, r2, hroom, r3, flatten_nodup hnd' hfi, fun x hx => List.mem_cons_of_mem _ (hin x hx), fun hx => hbn (hin b hx), ?_⟩
    intro w' ys' d' hy hb' ho hk
    refine ⟨by simpa using h1, h2, h3, h4, .inr ⟨b, e, _, fps, rfl, hb', by rw [length_setL]; exact hc, by simpa using hf, rfl, ?_⟩⟩
    intro j d2 g hj hg
    by_cases hji : j = i
    · subst hji
      rw [List.getElem?_set_self hi] at hj
      obtain rfl := Option.some.inj hj
      rw [hfi] at hg
      obtain rfl := Option.some.inj hg
      exact ⟨ys', hy, Elt.set_self hy hroom, ho⟩
    · rw [List.getElem?_set_ne (Ne.symm hji)] at hj
      obtain ⟨zs, z1, z2, z3⟩ := hel j d2 g hj hg
      refine ⟨zs, z1, z2.set_other hy z1 hji, Ow.frame z3 fun x hx => hk x ?_ ?_ ?_⟩
      · exact List.mem_cons_of_mem _ (List.mem_flatten.2 ⟨_, List.mem_of_getElem? hg, hx⟩)
      · rintro rfl; exact hbn (List.mem_flatten.2 ⟨_, List.mem_of_getElem? hg, hx⟩)
      · exact flatten_disj hnd' hg hfi hji hx

theorem mod3 {x y : Int} (hx : x = y) (h0 : 0 ≤ y) : (x % 3 == 0) = decide (Int.tmod y 3 = 0) := by
  subst hx
  rw [Int.tmod_eq_emod_of_nonneg h0]
  rfl

/-- How many numbers data holds, and what it reads as, written over with numbers from k on. -/
class Mk (α : Type) where
  cnt : α → Nat
  ov : α → Int → α
def cntL {α : Type} [Mk α] : List α → Nat
  | [] => 0
  | d :: l => Mk.cnt d + cntL l
def mkL {α : Type} [Mk α] : List α → Int → List α
  | [], _ => []
  | d :: l, k => Mk.ov d k :: mkL l (k + Mk.cnt d)
instance mkList {α : Type} [Mk α] : Mk (List α) := ⟨cntL, mkL⟩
instance mkInt : Mk Int := ⟨fun _ => 1, fun _ k => k⟩
/-- The first i of them. -/
def mkP {α : Type} [Mk α] (l : List α) (k : Int) (i : Nat) : List α := mkL (l.take i) k ++ l.drop i
section
variable {α : Type} [Mk α] {l : List α} {k : Int} {i : Nat} {d : α}
theorem length_mkL : ∀ (l : List α) (k : Int), (mkL l k).length = l.length
  | [], _ => rfl
  | _ :: l, k => by simp [mkL, length_mkL l]
theorem cntL_append : ∀ (l l' : List α), cntL (l ++ l') = cntL l + cntL l'
  | [], l' => by simp [cntL]
  | d :: l, l' => by simp [cntL, cntL_append l l', Nat.add_assoc]
theorem mkL_append : ∀ (l l' : List α) (k : Int), mkL (l ++ l') k = mkL l k ++ mkL l' (k + cntL l)
  | [], l', k => by simp [mkL, cntL]
  | d :: l, l', k => by simp [mkL, cntL, mkL_append l l', Int.add_assoc]
theorem cntL_take (hd : l[i]? = some d) : cntL (l.take (i + 1)) = cntL (l.take i) + Mk.cnt d := by
  rw [List.take_add_one, hd, cntL_append]; simp [cntL]
theorem cntL_le (l : List α) (i : Nat) : cntL (l.take i) ≤ cntL l := by
  have := cntL_append (l.take i) (l.drop i)
  rw [List.take_append_drop] at this
  omega
theorem mkP_zero : mkP l k 0 = l := by simp [mkP, mkL]
theorem mkP_all (h : l.length = i) : mkP l k i = mkL l k := by simp [mkP, List.take_of_length_le (Nat.le_of_eq h), List.drop_eq_nil_of_le (Nat.le_of_eq h)]
theorem mkP_at (hd : l[i]? = some d) : (mkP l k i)[i]? = some d := by
  have hi := (List.getElem?_eq_some_iff.1 hd).1
  have hl : (mkL (l.take i) k).length = i := by rw [length_mkL, List.length_take]; omega
  unfold mkP
  rw [List.getElem?_append_right (by omega), hl, Nat.sub_self, List.getElem?_drop, Nat.add_zero, hd]
theorem mkP_step (hd : l[i]? = some d) : (mkP l k i).set i (Mk.ov d (k + cntL (l.take i))) = mkP l k (i + 1) := by
  obtain ⟨hi, he⟩ := List.getElem?_eq_some_iff.1 hd
  have hl : (mkL (l.take i) k).length = i := by rw [length_mkL, List.length_take]; omega
  unfold mkP
  rw [List.set_append_right _ _ (by omega), hl, Nat.sub_self, List.drop_eq_getElem_cons hi, List.set_cons_zero, List.take_add_one, hd, mkL_append]
  simp [mkL]
theorem mkL_at (hd : l[i]? = some d) : (mkL l k)[i]? = some (Mk.ov d (k + cntL (l.take i))) := by
  obtain ⟨hi, he⟩ := List.getElem?_eq_some_iff.1 hd
  have e : l = l.take i ++ d :: l.drop (i + 1) := by rw [← he, ← List.drop_eq_getElem_cons hi, List.take_append_drop]
  have hl : (mkL (l.take i) k).length = i := by rw [length_mkL, List.length_take]; omega
  rw [show mkL l k = mkL (l.take i ++ d :: l.drop (i + 1)) k by rw [← e], mkL_append, List.getElem?_append_right (by omega), hl, Nat.sub_self]
  simp [mkL]
end

theorem disj2 {p q : List Nat} (h : ∀ x ∈ p, x ∉ q) : ∀ x ∈ q, x ∉ p := fun x hx hy => h x hy hx
theorem OwSl.num {α : Type} [Lay α] [Ow α] [Mk α] {w : World} {a : Option Addr} {len cap : Nat} {l : List α} {k k' : Int} {fp : List Nat} (h : OwSl w a len cap (mkL l k) fp) (e : k = k') : OwSl w a len cap (mkL l k') fp := e ▸ h

instance mkRg : Mk Rg := ⟨fun _ => 2, fun _ k => ⟨(k), (k + 1)⟩⟩
instance mkCl : Mk Cl := ⟨fun _ => 8, fun _ k => ⟨(k), (k + 1), ⟨(k + 2), (k + 3)⟩, (decide (Int.tmod (k + 4) 3 = 0)), (k + 5), (k + 6), (k + 7)⟩⟩
instance mkRt : Mk Rt := ⟨fun d => 3 + cntL d.path + cntL d.marks, fun d k => ⟨⟨(k), (k + 1)⟩, (mkL d.path (k + 2)), (k + 2 + (cntL d.path : Nat)), (mkL d.marks (k + 3 + (cntL d.path : Nat)))⟩⟩
def mkTRt (d : Rt) (k : Int) : Rt := { d with path := mkL d.path (k), marks := mkL d.marks (k + (cntL d.path : Nat)) }
def cntTRt (d : Rt) : Nat := cntL d.path + cntL d.marks
instance mkHd : Mk Hd := ⟨fun _ => 3, fun _ k => ⟨(k), ⟨(k + 1), (k + 2)⟩⟩⟩
instance mkSe : Mk Se := ⟨fun d => 4 + cntL d.path, fun d k => ⟨(k), (k + 1), ⟨(k + 2), (k + 3)⟩, (mkL d.path (k + 4))⟩⟩
def mkTSe (d : Se) (k : Int) : Se := { d with path := mkL d.path (k) }
def cntTSe (d : Se) : Nat := cntL d.path
instance mkGt : Mk Gt := ⟨fun d => 4 + cntL d.route.path + cntL d.route.marks, fun d k => ⟨⟨⟨(k), (k + 1)⟩, (mkL d.route.path (k + 2)), (k + 2 + (cntL d.route.path : Nat)), (mkL d.route.marks (k + 3 + (cntL d.route.path : Nat)))⟩, (decide (Int.tmod (k + 3 + (cntL d.route.path : Nat) + (cntL d.route.marks : Nat)) 3 = 0))⟩⟩
instance mkRb : Mk Rb := ⟨fun d => 2 + cntL d.all, fun d k => ⟨(k), (decide (Int.tmod (k + 1) 3 = 0)), (mkL d.all (k + 2))⟩⟩
def mkTRb (d : Rb) (k : Int) : Rb := { d with all := mkL d.all (k) }
def cntTRb (d : Rb) : Nat := cntL d.all
instance mkDl : Mk Dl := ⟨fun d => 0 + cntL d.drop + cntL d.tell, fun d k => ⟨(mkL d.drop (k)), (mkL d.tell (k + (cntL d.drop : Nat)))⟩⟩
def mkTDl (d : Dl) (k : Int) : Dl := { d with drop := mkL d.drop (k), tell := mkL d.tell (k + (cntL d.drop : Nat)) }
def cntTDl (d : Dl) : Nat := cntL d.drop + cntL d.tell
instance mkEn : Mk En := ⟨fun _ => 3, fun _ k => ⟨⟨(k), (k + 1)⟩, (k + 2)⟩⟩

end Go.Proofs.Ytngehfhcnfobbaa
namespace Go.Proofs.Ytngehfhcnfobbaa
open Go Go.RowKit

theorem Blk.grown {w w' : World} {b : Nat} {e : TypeId} {cs : List Value} {row : Option Nat} (h : Blk w b e cs) (hg : w.grownBy w' row) (hne : some b ≠ row) : Blk w' b e cs := h.of_heap (hg.block b h.lt hne)
theorem grownBy_set (w : World) (a : Addr) (v : Value) : w.grownBy (w.setCell a v) (some a.block) :=
  ⟨rfl, rfl, rfl, by simp [World.setCell], fun i _ hne => Below.heap_setCell w a v i (fun e => hne (by rw [e]))⟩
theorem ownsRow_set {w : World} {base : Nat} {e : TypeId} {size n : Nat} {v : Value} {xs : List Value} (h : w.ownsRow base e size v n xs) (a : Addr) (u : Value) (hne : v.ownBlock ≠ some a.block) : (w.setCell a u).ownsRow base e size v n xs :=
  h.kept (grownBy_set w a u) (.inr hne)
theorem Ext.by {a w w' : World} {row : Option Nat} (h : Ext a w) (hg : w.grownBy w' row) (hr : ∀ j, row = some j → a.heap.size ≤ j) : Ext a w' := Ext.of (h.below.grown hg h.below.size hr)
theorem Ext.grownBy {w w' : World} (h : Ext w w') (row : Option Nat) : w.grownBy w' row := ⟨h.below.os, h.below.tape, h.below.output, h.below.size, fun i hi _ => h.below.block i hi⟩
theorem ownsRow_ext {w w' : World} {base : Nat} {e : TypeId} {size n : Nat} {v : Value} {xs : List Value} (h : w.ownsRow base e size v n xs) (he : Ext w w') : w'.ownsRow base e size v n xs :=
  h.kept (he.grownBy none) (by cases hv : v.ownBlock <;> simp)

end Go.Proofs.Ytngehfhcnfobbaa
namespace Go.Proofs.Ytngehfhcnfobbaa
open Go Go.RowKit

/-- What a slice's cells hold. -/
def Src (w : World) (ax : Option Addr) (xs : List Value) : Prop := ∀ (j : Nat) (u : Value), xs[j]? = some u → ∃ b off, ax = some ⟨b, off, none⟩ ∧ w.cell? ⟨b, off + j, none⟩ = some u
def One (xs : List Value) : Prop := ∀ u ∈ xs, u.oneCell' = true
section
variable {w w' : World} {ax : Option Addr} {xs ys : List Value}
theorem Src.stays (h : Src w ax xs) (hb : Below w.heap.size w w') : Src w' ax xs := fun j u hu => by
  obtain ⟨b, off, r1, r2⟩ := h j u hu
  exact ⟨b, off, r1, by rw [hb.cell (p := ⟨b, _, none⟩) (cell_lt r2)]; exact r2⟩
theorem Src.nil : Src w ax [] := fun j u hu => by simp at hu
theorem Src.take (h : Src w ax xs) (k : Nat) : Src w ax (xs.take k) := fun j u hu => by
  rw [List.getElem?_take] at hu
  split at hu
  · exact h j u hu
  · cases hu
theorem Src.drop {b off : Nat} (h : Src w (some ⟨b, off, none⟩) xs) (k : Nat) : Src w (some ⟨b, off + k, none⟩) (xs.drop k) := fun j u hu => by
  rw [List.getElem?_drop] at hu
  obtain ⟨b', off', r1, r2⟩ := h _ u hu
  simp only [Option.some.injEq, Addr.mk.injEq, and_true] at r1
  obtain ⟨rfl, rfl⟩ := r1
  exact ⟨_, _, rfl, by rw [Nat.add_assoc]; exact r2⟩
theorem Src.drop0 {b : Nat} (h : Src w (some ⟨b, 0, none⟩) xs) (k : Nat) : Src w (some ⟨b, k, none⟩) (xs.drop k) := by
  have := h.drop k
  rwa [Nat.zero_add] at this
theorem Src.blk {b : Nat} {e : TypeId} (h : Blk w b e xs) : Src w (some ⟨b, 0, none⟩) xs := fun j u hu => ⟨b, 0, rfl, by rw [Nat.zero_add]; exact h.cell hu⟩
theorem Src.addr (h : Src w ax xs) (h0 : xs ≠ []) : ∃ b off, ax = some ⟨b, off, none⟩ := by
  obtain ⟨b, off, r, _⟩ := h 0 _ (List.getElem?_eq_getElem (by have := List.length_pos_iff.2 h0; omega))
  exact ⟨b, off, r⟩
theorem One.append (h : One xs) (k : One ys) : One (xs ++ ys) := fun u hu => by
  rcases List.mem_append.1 hu with hu | hu
  · exact h u hu
  · exact k u hu
theorem One.take (h : One xs) (k : Nat) : One (xs.take k) := fun u hu => h u (List.mem_of_mem_take hu)
theorem One.drop (h : One xs) (k : Nat) : One (xs.drop k) := fun u hu => h u (List.mem_of_mem_drop hu)
end

/-- Data whose cells are one value each. -/
class OneC (α : Type) [Lay α] : Prop where
  one : ∀ {w : World} {cs : List Value} {d : α}, Lay.rd w cs d → One cs
  len : ∀ {w : World} {cs : List Value} {d : α}, Lay.rd w cs d → cs.length = Lay.n α
  pos : 0 < Lay.n α
/-- Data that lies in its cells alone. -/
class FlO (α : Type) [Lay α] [Ow α] : Prop where
  own : ∀ {w : World} {cs : List Value} {d : α}, Lay.rd w cs d → Ow.own w cs d []
  any : ∀ {w w' : World} {cs : List Value} {d : α}, Lay.rd w cs d → Lay.rd w' cs d
instance : OneC Int := ⟨fun h => by obtain ⟨rfl, _⟩ := h; intro u hu; simp at hu; subst hu; rfl, fun h => by obtain ⟨rfl, _⟩ := h; rfl, by decide⟩
instance {α : Type} [Lay α] : OneC (List α) := ⟨fun h => by obtain ⟨_, _, _, rfl, _⟩ := h; intro u hu; simp at hu; subst hu; rfl, fun h => by obtain ⟨_, _, _, rfl, _⟩ := h; rfl, Nat.one_pos⟩
instance : FlO Int := ⟨fun h => ⟨h, rfl⟩, fun h => h⟩

instance : OneC Rg := ⟨fun h => by obtain ⟨rfl, _, _⟩ := h; intro u hu; simp only [List.mem_cons, List.not_mem_nil, or_false] at hu; rcases hu with rfl | rfl <;> rfl, fun h => by obtain ⟨rfl, _, _⟩ := h; rfl, by decide⟩
instance : FlO Rg := ⟨fun h => ⟨h, rfl⟩, fun h => h⟩
instance : OneC Cl := ⟨fun h => by obtain ⟨rfl, _, _, _, _, _, _, _⟩ := h; intro u hu; simp only [List.mem_cons, List.not_mem_nil, or_false] at hu; rcases hu with rfl | rfl | rfl | rfl | rfl | rfl | rfl | rfl <;> rfl, fun h => by obtain ⟨rfl, _, _, _, _, _, _, _⟩ := h; rfl, by decide⟩
instance : FlO Cl := ⟨fun h => ⟨h, rfl⟩, fun h => h⟩
instance : OneC Rt := ⟨fun h => by obtain ⟨_, _, _, _, _, _, rfl, _, _, _, _, _⟩ := h; intro u hu; simp only [List.mem_cons, List.not_mem_nil, or_false] at hu; rcases hu with rfl | rfl | rfl | rfl | rfl <;> rfl, fun h => by obtain ⟨_, _, _, _, _, _, rfl, _, _, _, _, _⟩ := h; rfl, by decide⟩
instance : OneC Hd := ⟨fun h => by obtain ⟨rfl, _, _, _⟩ := h; intro u hu; simp only [List.mem_cons, List.not_mem_nil, or_false] at hu; rcases hu with rfl | rfl | rfl <;> rfl, fun h => by obtain ⟨rfl, _, _, _⟩ := h; rfl, by decide⟩
instance : FlO Hd := ⟨fun h => ⟨h, rfl⟩, fun h => h⟩
instance : OneC Se := ⟨fun h => by obtain ⟨_, _, _, rfl, _, _, _, _, _⟩ := h; intro u hu; simp only [List.mem_cons, List.not_mem_nil, or_false] at hu; rcases hu with rfl | rfl | rfl | rfl | rfl <;> rfl, fun h => by obtain ⟨_, _, _, rfl, _, _, _, _, _⟩ := h; rfl, by decide⟩
instance : OneC Gt := ⟨fun h => by obtain ⟨_, _, _, _, _, _, rfl, _, _, _, _, _⟩ := h; intro u hu; simp only [List.mem_cons, List.not_mem_nil, or_false] at hu; rcases hu with rfl | rfl | rfl | rfl | rfl | rfl <;> rfl, fun h => by obtain ⟨_, _, _, _, _, _, rfl, _, _, _, _, _⟩ := h; rfl, by decide⟩
instance : OneC Rb := ⟨fun h => by obtain ⟨_, _, _, rfl, _, _⟩ := h; intro u hu; simp only [List.mem_cons, List.not_mem_nil, or_false] at hu; rcases hu with rfl | rfl | rfl <;> rfl, fun h => by obtain ⟨_, _, _, rfl, _, _⟩ := h; rfl, by decide⟩
instance : OneC Dl := ⟨fun h => by obtain ⟨_, _, _, _, _, _, rfl, _, _⟩ := h; intro u hu; simp only [List.mem_cons, List.not_mem_nil, or_false] at hu; rcases hu with rfl | rfl <;> rfl, fun h => by obtain ⟨_, _, _, _, _, _, rfl, _, _⟩ := h; rfl, by decide⟩
instance : OneC En := ⟨fun h => by obtain ⟨rfl, _, _, _⟩ := h; intro u hu; simp only [List.mem_cons, List.not_mem_nil, or_false] at hu; rcases hu with rfl | rfl | rfl <;> rfl, fun h => by obtain ⟨rfl, _, _, _⟩ := h; rfl, by decide⟩
instance : FlO En := ⟨fun h => ⟨h, rfl⟩, fun h => h⟩

theorem flatten_at {α : Type} {n : Nat} : ∀ {L : List (List α)} (_ : ∀ y ∈ L, y.length = n) {i : Nat} {ys : List α} (_ : L[i]? = some ys) (t : Nat), t < n → L.flatten[i * n + t]? = ys[t]?
  | [], _, i, _, h, _, _ => by simp at h
  | y :: L, hl, 0, ys, h, t, ht => by
    simp only [List.getElem?_cons_zero, Option.some.injEq] at h
    subst h
    rw [List.flatten_cons, Nat.zero_mul, Nat.zero_add, List.getElem?_append_left (by rw [hl _ (by simp)]; exact ht)]
  | y :: L, hl, i + 1, ys, h, t, ht => by
    simp only [List.getElem?_cons_succ] at h
    have hy := hl y (by simp)
    rw [List.flatten_cons, List.getElem?_append_right (by rw [hy, Nat.add_mul]; omega), hy, show (i + 1) * n + t - n = i * n + t by rw [Nat.add_mul]; omega]
    exact flatten_at (fun z hz => hl z (by simp [hz])) h t ht
theorem flatten_len {α : Type} {n : Nat} : ∀ {L : List (List α)} (_ : ∀ y ∈ L, y.length = n), L.flatten.length = L.length * n
  | [], _ => by simp
  | y :: L, hl => by
    rw [List.flatten_cons, List.length_append, hl y (by simp), flatten_len (fun z hz => hl z (by simp [hz])), List.length_cons, Nat.add_mul]
    omega

/-- A row of cells that reads as a list. -/
def RowRd {α : Type} [Lay α] (w : World) (xs : List Value) (l : List α) : Prop :=
  xs.length = l.length * Lay.n α ∧ ∀ (i : Nat) (d : α), l[i]? = some d → ∃ ys, ys.length = Lay.n α ∧ Elt xs (Lay.n α) i ys ∧ Lay.rd w ys d

section
variable {α : Type} [Lay α] {w w' : World} {xs ys : List Value} {l m : List α} {a : Option Addr} {len cap : Nat}
theorem Elt.one {n : Nat} {ys : List Value} : Elt ys n 0 ys := fun t u hu => by rwa [Nat.zero_mul, Nat.zero_add]
theorem Elt.app_left {n i : Nat} {xs ys zs : List Value} (h : Elt xs n i zs) : Elt (xs ++ ys) n i zs := fun t u hu => by
  have := h t u hu
  rw [List.getElem?_append_left (List.getElem?_eq_some_iff.1 this).1]; exact this
theorem Elt.app_right {n i k : Nat} {xs ys zs : List Value} (h : Elt ys n i zs) (hl : xs.length = k * n) : Elt (xs ++ ys) n (k + i) zs := fun t u hu => by
  have := h t u hu
  have e : (k + i) * n = k * n + i * n := Nat.add_mul _ _ _
  rw [List.getElem?_append_right (by omega), show (k + i) * n + t - xs.length = i * n + t by omega]
  exact this
theorem RowRd.nil : RowRd w [] ([] : List α) := ⟨by simp, fun i d h => by simp at h⟩
theorem RowRd.single {d : α} (h : Lay.rd w ys d) (hl : ys.length = Lay.n α) : RowRd w ys [d] := ⟨by simp [hl], fun i d' hd => by
  have : i = 0 := by have := (List.getElem?_eq_some_iff.1 hd).1; simp at this; exact this
  subst this
  simp only [List.getElem?_cons_zero, Option.some.injEq] at hd
  subst hd
  exact ⟨ys, hl, Elt.one, h⟩⟩
theorem RowRd.append (h : RowRd w xs l) (k : RowRd w ys m) : RowRd w (xs ++ ys) (l ++ m) := by
  refine ⟨by rw [List.length_append, List.length_append, h.1, k.1, Nat.add_mul], fun i d hd => ?_⟩
  rw [List.getElem?_append] at hd
  split at hd
  · obtain ⟨zs, z1, z2, z3⟩ := h.2 i d hd
    exact ⟨zs, z1, z2.app_left, z3⟩
  · rename_i hi
    obtain ⟨zs, z1, z2, z3⟩ := k.2 _ d hd
    refine ⟨zs, z1, ?_, z3⟩
    have := z2.app_right (k := l.length) h.1
    rwa [show l.length + (i - l.length) = i by omega] at this
theorem RowRd.stays (h : RowRd w xs l) (hb : Below w.heap.size w w') : RowRd w' xs l := ⟨h.1, fun i d hd => by
  obtain ⟨zs, z1, z2, z3⟩ := h.2 i d hd
  exact ⟨zs, z1, z2, Lay.stays z3 hb⟩⟩
theorem mul_lt_of {i k n t : Nat} (hi : i < k) (ht : t < n) : i * n + t < k * n := by
  have := Nat.mul_le_mul_right n (show i + 1 ≤ k from hi)
  rw [Nat.add_mul, Nat.one_mul] at this
  omega
theorem RowRd.take (h : RowRd w xs l) (k : Nat) : RowRd w (xs.take (k * Lay.n α)) (l.take k) := by
  refine ⟨?_, fun i d hd => ?_⟩
  · rw [List.length_take, List.length_take, h.1]
    rcases Nat.le_total k l.length with hk | hk
    · rw [Nat.min_eq_left hk, Nat.min_eq_left (Nat.mul_le_mul_right _ hk)]
    · rw [Nat.min_eq_right hk, Nat.min_eq_right (Nat.mul_le_mul_right _ hk)]
  · rw [List.getElem?_take] at hd
    split at hd
    · rename_i hik
      obtain ⟨zs, z1, z2, z3⟩ := h.2 i d hd
      refine ⟨zs, z1, fun t u hu => ?_, z3⟩
      have ht := (List.getElem?_eq_some_iff.1 hu).1
      rw [List.getElem?_take, if_pos (mul_lt_of hik (by omega))]
      exact z2 t u hu
    · cases hd
theorem RowRd.drop (h : RowRd w xs l) (k : Nat) : RowRd w (xs.drop (k * Lay.n α)) (l.drop k) := by
  refine ⟨by rw [List.length_drop, List.length_drop, h.1, Nat.sub_mul], fun i d hd => ?_⟩
  rw [List.getElem?_drop] at hd
  obtain ⟨zs, z1, z2, z3⟩ := h.2 _ d hd
  refine ⟨zs, z1, fun t u hu => ?_, z3⟩
  rw [List.getElem?_drop]
  have := z2 t u hu
  rwa [Nat.add_mul, Nat.add_assoc] at this
theorem RowRd.one [OneC α] (h : RowRd w xs l) : One xs := fun u hu => by
  obtain ⟨j, hj, rfl⟩ := List.mem_iff_getElem.1 hu
  have hn := OneC.pos (α := α)
  have h1 := h.1
  have hi : j / Lay.n α < l.length := by
    rw [Nat.div_lt_iff_lt_mul hn]; omega
  obtain ⟨zs, z1, z2, z3⟩ := h.2 _ _ (List.getElem?_eq_getElem hi)
  have hm := Nat.mod_lt j hn
  have h2 := z2 (j % Lay.n α) _ (List.getElem?_eq_getElem (by omega))
  have h3 : j / Lay.n α * Lay.n α + j % Lay.n α = j := by rw [Nat.mul_comm]; exact Nat.div_add_mod _ _
  rw [h3, List.getElem?_eq_getElem hj] at h2
  rw [Option.some.inj h2]
  exact OneC.one z3 _ (List.getElem_mem _)
theorem SlRd.row [OneC α] (h : SlRd w a len cap l) : ∃ xs, Src w a xs ∧ RowRd w xs l := by
  obtain ⟨h1, h2, h3, h4, h5⟩ := h
  obtain ⟨L, hL, hr⟩ := choose_list (len := l.length) (R := fun i cs => ∃ d, l[i]? = some d ∧ ∃ b off, a = some ⟨b, off, none⟩ ∧ cs.length = Lay.n α ∧ (∀ (j : Nat) (u : Value), cs[j]? = some u → w.cell? ⟨b, off + i * Lay.n α + j, none⟩ = some u) ∧ Lay.rd w cs d)
    (fun i hi => by
      obtain ⟨b, off, cs, r1, r2, r3, r4⟩ := h5 i _ (List.getElem?_eq_getElem hi)
      exact ⟨cs, _, List.getElem?_eq_getElem hi, b, off, r1, r2, r3, r4⟩)
  have hu : ∀ y ∈ L, y.length = Lay.n α := fun y hy => by
    obtain ⟨i, hi, rfl⟩ := List.mem_iff_getElem.1 hy
    obtain ⟨_, _, _, _, _, r, _⟩ := hr i _ (List.getElem?_eq_getElem hi)
    exact r
  refine ⟨L.flatten, fun j u hj => ?_, by rw [flatten_len hu, hL], fun i d hd => ?_⟩
  · have hn := OneC.pos (α := α)
    have hlt := (List.getElem?_eq_some_iff.1 hj).1
    rw [flatten_len hu] at hlt
    have hi : j / Lay.n α < L.length := by rw [Nat.div_lt_iff_lt_mul hn]; omega
    have h3' : j / Lay.n α * Lay.n α + j % Lay.n α = j := by rw [Nat.mul_comm]; exact Nat.div_add_mod _ _
    obtain ⟨d, _, b, off, r1, r2, r3, _⟩ := hr _ _ (List.getElem?_eq_getElem hi)
    have hf := flatten_at hu (List.getElem?_eq_getElem hi) (j % Lay.n α) (Nat.mod_lt j hn)
    rw [h3', hj] at hf
    have := r3 _ u hf.symm
    rw [Nat.add_assoc, h3'] at this
    exact ⟨b, off, r1, this⟩
  · have hi := (List.getElem?_eq_some_iff.1 hd).1
    obtain ⟨d', hd', b, off, r1, r2, r3, r4⟩ := hr i _ (List.getElem?_eq_getElem (by omega))
    obtain rfl : d = d' := Option.some.inj (hd.symm.trans hd')
    refine ⟨_, r2, fun t u ht => ?_, r4⟩
    rw [flatten_at hu (List.getElem?_eq_getElem (by omega)) t (by have := (List.getElem?_eq_some_iff.1 ht).1; omega)]
    exact ht
theorem RowRd.sl (hs : Src w a xs) (h : RowRd w xs l) (hl : l.length = len) (hc : len ≤ cap) (hm : cap ≤ maxLen) (ha : a = none → cap = 0) (hn : 0 < Lay.n α) : SlRd w a len cap l := by
  refine ⟨hl, hc, hm, ha, fun i d hd => ?_⟩
  obtain ⟨ys, z1, z2, z3⟩ := h.2 i d hd
  obtain ⟨b, off, r1, _⟩ := hs _ _ (z2 0 _ (List.getElem?_eq_getElem (by omega)))
  refine ⟨b, off, ys, r1, z1, fun j u hu => ?_, z3⟩
  obtain ⟨b', off', r1', r2'⟩ := hs _ u (z2 j u hu)
  rw [r1] at r1'
  simp only [Option.some.injEq, Addr.mk.injEq, and_true] at r1'
  obtain ⟨rfl, rfl⟩ := r1'
  rw [Nat.add_assoc]; exact r2'
end

/-- A row of the call's own. -/
theorem ownsRow_base {w : World} {N M : Nat} {e : TypeId} {size : Nat} {v : Value} {n : Nat} {xs : List Value} (h : w.ownsRow N e size v n xs) (hb : M ≤ N) : w.ownsRow M e size v n xs := by
  obtain ⟨h1, h2⟩ := h
  refine ⟨h1, ?_⟩
  rcases h2 with h2 | ⟨g, cap, cur, r1, r2, r3⟩
  · exact .inl h2
  · exact .inr ⟨g, cap, cur, r1, by omega, r3⟩
theorem ownsRow_madeB {w : World} {N B : Nat} {e : TypeId} {size : Nat} (hB : w.heap.size = B) (hN : N ≤ w.heap.size) : (w.alloc (.cells #[] e)).ownsRow N e size (.slice (some ⟨B, 0, none⟩) 0 0) 0 [] := by
  subst hB
  exact World.ownsRow_made w #[] 0 hN (Nat.zero_le _) (by simp)
theorem ownsRow_shape {w : World} {N : Nat} {e : TypeId} {size : Nat} {v : Value} {n : Nat} {xs : List Value} (h : w.ownsRow N e size v n xs) :
    ∃ a cap, v = .slice a n cap ∧ n ≤ cap ∧ cap ≤ maxLen ∧ (a = none → cap = 0) ∧ Src w a xs ∧ (a = none ∨ ∃ g, a = some ⟨g, 0, none⟩ ∧ N ≤ g) := by
  obtain ⟨h1, h2⟩ := h
  rcases h2 with ⟨rfl, rfl⟩ | ⟨g, cap, cur, rfl, r2, r3, r4, r5, r6, r7⟩
  · obtain rfl : xs = [] := List.eq_nil_of_length_eq_zero (by simpa using h1)
    exact ⟨none, 0, rfl, Nat.le_refl _, by unfold maxLen; omega, fun _ => rfl, Src.nil, .inl rfl⟩
  · refine ⟨_, cap, rfl, r4, r5, (fun h => by cases h), ?_, .inr ⟨g, rfl, r2⟩⟩
    rw [← r7]
    exact (Src.blk (e := e) (xs := cur.toList) (by unfold Blk; simpa using r3)).take _
theorem ownsRow_sl {α : Type} [Lay α] [OneC α] {w : World} {N : Nat} {e : TypeId} {a : Option Addr} {len cap : Nat} {xs : List Value} {l : List α} (h : w.ownsRow N e (Lay.n α) (.slice a len cap) len xs) (hr : RowRd w xs l) (hl : l.length = len) : SlRd w a len cap l := by
  obtain ⟨a', cap', e', r1, r2, r3, r4, _⟩ := ownsRow_shape h
  simp only [Value.slice.injEq, true_and] at e'
  obtain ⟨rfl, rfl⟩ := e'
  exact RowRd.sl r4 hr hl r1 r2 r3 OneC.pos
theorem ownsRow_fresh {α : Type} [Lay α] [Ow α] [OneC α] [FlO α] {w0 w : World} {e : TypeId} {a : Option Addr} {len cap : Nat} {xs : List Value} {l : List α} (hE : Ext w0 w) (h : w.ownsRow w0.heap.size e (Lay.n α) (.slice a len cap) len xs) (hr : RowRd w xs l) (hl : l.length = len) :
    Fresh w0 w [.slice a len cap] l := by
  obtain ⟨h1, h2⟩ := h
  rcases h2 with ⟨h2, rfl⟩ | ⟨g, cap', cur, h2, r2, r3, r4, r5, r6, r7⟩
  · simp only [Value.slice.injEq, true_and] at h2
    obtain ⟨rfl, rfl⟩ := h2
    obtain rfl : l = [] := List.eq_nil_of_length_eq_zero hl
    exact ⟨hE, [], ⟨_, _, _, rfl, rfl, Nat.le_refl _, by unfold maxLen; omega, fun _ => rfl, .inl ⟨rfl, rfl⟩⟩, by simp, by simp⟩
  · simp only [Value.slice.injEq, true_and] at h2
    obtain ⟨rfl, rfl⟩ := h2
    refine ⟨hE, [g], ⟨_, _, _, rfl, hl, r4, r5, (fun h => by cases h), .inr ⟨g, e, cur.toList, l.map (fun _ => []), rfl, by unfold Blk; simpa using r3, by simpa using r6, by simp, ?_, fun i d f hd hf => ?_⟩⟩, by simp, by simpa using r2⟩
    · have : (l.map fun _ => ([] : List Nat)).flatten = [] := by simp
      rw [this]
    · obtain ⟨ys, z1, z2, z3⟩ := hr.2 i d hd
      obtain rfl : f = [] := by
        rw [List.getElem?_map, hd] at hf; exact (Option.some.inj hf).symm
      refine ⟨ys, z1, fun t u hu => ?_, FlO.own z3⟩
      have := z2 t u hu
      rw [← r7, List.getElem?_take] at this
      split at this
      · exact this
      · cases this

theorem ownsRow_cur {w : World} {N : Nat} {e : TypeId} {size : Nat} {a : Option Addr} {n cap : Nat} {xs : List Value} (h : w.ownsRow N e size (.slice a n cap) n xs) (h0 : 0 < n) :
    ∃ g cur, a = some ⟨g, 0, none⟩ ∧ Blk w g e cur ∧ cur.length = cap * size ∧ cur.take (n * size) = xs := by
  obtain ⟨h1, h2⟩ := h
  rcases h2 with ⟨_, rfl⟩ | ⟨g, cap', cur, h2, r2, r3, r4, r5, r6, r7⟩
  · omega
  · simp only [Value.slice.injEq, true_and] at h2
    obtain ⟨rfl, rfl⟩ := h2
    exact ⟨g, cur.toList, rfl, by unfold Blk; simpa using r3, by simpa using r6, r7⟩
theorem ownsRow_of {w : World} {N : Nat} {e : TypeId} {size g n cap : Nat} {xs cur : List Value} (hN : N ≤ g) (hb : Blk w g e cur) (hl : cur.length = cap * size) (hn : n ≤ cap) (hm : cap ≤ maxLen) (hx : xs.length = n * size) (ht : cur.take (n * size) = xs) :
    w.ownsRow N e size (.slice (some ⟨g, 0, none⟩) n cap) n xs := ⟨hx, .inr ⟨g, cap, cur.toArray, rfl, hN, by unfold Blk at hb; exact hb, hn, hm, by simpa using hl, by simpa using ht⟩⟩
theorem Src.grown {w w' : World} {ax : Option Addr} {xs : List Value} {row : Option Nat} (h : Src w ax xs) (hg : w.grownBy w' row) (hne : ∀ b off, some b = row → ax ≠ some ⟨b, off, none⟩) : Src w' ax xs := fun j u hu => by
  obtain ⟨b, off, r1, r2⟩ := h j u hu
  exact ⟨b, off, r1, hg.cell r2 (fun e => hne b off e r1)⟩
theorem grownBy_drew {w w' : World} {row : Option Nat} (h : w.grownBy w' row) : w.grownBy w'.drew row := ⟨h.os, h.tape, h.output, h.size, h.block⟩
theorem grownBy_undrew {w w' : World} {row : Option Nat} (h : w.drew.grownBy w' row) : w.grownBy w' row := ⟨h.os, h.tape, h.output, h.size, h.block⟩
theorem grownBy_tr {w w1 w2 : World} {r r1 r2 : Option Nat} (h1 : w.grownBy w1 r1) (h2 : w1.grownBy w2 r2) (c1 : ∀ b, r1 = some b → r = some b ∨ w.heap.size ≤ b) (c2 : ∀ b, r2 = some b → r = some b ∨ w.heap.size ≤ b) : w.grownBy w2 r :=
  ⟨h2.os.trans h1.os, h2.tape.trans h1.tape, h2.output.trans h1.output, Nat.le_trans h1.size h2.size, fun i hi hne => by
    have k : ∀ q, (∀ b, q = some b → r = some b ∨ w.heap.size ≤ b) → some i ≠ q := fun q c e => by
      rcases c i e.symm with h | h
      · exact hne h.symm
      · omega
    exact (h2.block i (Nat.lt_of_lt_of_le hi h1.size) (k _ c2)).trans (h1.block i hi (k _ c1))⟩
/-- The row that comes back lies where the old one lay, or in a new block. -/
def NewB (v v' : Value) (w : World) : Prop := ∀ b, v'.ownBlock = some b → v.ownBlock = some b ∨ w.heap.size ≤ b
theorem NewB.of {v v' : Value} {w : World} (h : v'.ownBlock = v.ownBlock ∨ v'.ownBlock = some w.heap.size) : NewB v v' w := fun b e => by
  rcases h with h | h
  · exact .inl (h ▸ e)
  · rw [h] at e; cases e; exact .inr (Nat.le_refl _)
theorem NewB.new {v : Value} {w : World} {n c : Nat} : NewB v (.slice (some ⟨w.heap.size, 0, none⟩) n c) w := fun b e => .inr (by cases e; exact Nat.le_refl _)
theorem NewB.same {w : World} {a : Option Addr} {n c n' c' : Nat} : NewB (.slice a n c) (.slice a n' c') w := fun b e => .inl (by cases a <;> exact e)
theorem below_drew {N : Nat} {w w' : World} (h : Below N w w') : Below N w w'.drew := ⟨h.os, h.tape, h.output, h.size, h.block⟩
theorem Blk.newAt (w : World) (C : Array Value) (e : TypeId) {B : Nat} (h : w.heap.size = B) : Blk (w.alloc (.cells C e)) B e C.toList := h ▸ Blk.new w C e
theorem Blk.shape {w : World} {b : Nat} {e : TypeId} {cs : List Value} (h : Blk w b e cs) : w.shape? b = some (e, cs.length) := by
  unfold Blk at h
  simp [World.shape?, h]

/-- What is to be known of a slice type. -/
def TyI (P : Program) (t e : TypeId) (size bytes : Nat) : Prop := P.underlying t = some (.slice e) ∧ 0 < size ∧ ∃ i z, P.info? e = some i ∧ i.zero = some z ∧ i.size = size ∧ i.bytes = bytes ∧ z.cells.size = size

section
variable {P : Program} {w : World}
theorem src_add {ad : Addr} {news : List Value} (h : Src w (some ad) news) : ∀ j u, news[j]? = some u → w.cell? (ad.add j) = some u := fun j u hu => by
  obtain ⟨b, off, r1, r2⟩ := h j u hu
  obtain rfl := Option.some.inj r1
  rw [Addr.add_lit]; exact r2
theorem run_app {t ty e : TypeId} {size bytes N : Nat} (hT : TyI P t e size bytes) {v : Value} {n : Nat} {xs : List Value} (hown : w.ownsRow N e size v n xs) {ax : Option Addr} {m c : Nat} {news : List Value}
    (hmc : m ≤ c) (hc : ax = none → c = 0) (hl : news.length = m * size) (hnews : Src w ax news) (h1 : One news) (h63 : n + m ≤ maxLen) (hbytes : (n + m) * bytes ≤ 140737488355328) (hbase : N ≤ w.heap.size) :
    ∃ v' w', (Builtin.append_ #[t, t] ty #[v, .slice ax m c]).run P w = .ok v' w' ∧ w'.ownsRow N e size v' (n + m) (xs ++ news) ∧ w.grownBy w' v.ownBlock ∧ (v'.ownBlock = v.ownBlock ∨ v'.ownBlock = some w.heap.size) := by
  obtain ⟨ht, hsz, i, z, hi, hz, hsize, hby, hzs⟩ := hT
  cases ax with
  | none =>
    obtain rfl := hc rfl
    obtain rfl : m = 0 := by omega
    obtain rfl : news = [] := List.eq_nil_of_length_eq_zero (by simpa using hl)
    refine ⟨v, w, run_append_owned_none (P := P) (w := w) N t ty e i size ht hi v n xs hown, by simpa using hown, ⟨rfl, rfl, rfl, Nat.le_refl _, fun _ _ _ => rfl⟩, .inl rfl⟩
  | some ad =>
    obtain ⟨v', w', hr, h2, h3, _, h5⟩ := run_append_own_at (P := P) w N t ty e i z size bytes ht hi hz hsize hby hzs hsz v n xs hown ad m c news hl (src_add hnews) h1 h63 hbytes hbase
    exact ⟨v', w', hr, h2, h3, h5⟩
theorem wp_app {o : Oper} {a : Act} {K : Act → World → Prop} {Q : Exit → Act → World → Prop} (s x : Operand) {t : TypeId} (ho : o.op = .call { callee := .builtin .append, args := #[s, x], argTypes := #[t, t] })
    {e : TypeId} {size bytes N : Nat} (hT : TyI P t e size bytes) {v : Value} {n : Nat} {xs : List Value} (hs : a.eval s = v) (hown : w.ownsRow N e size v n xs) {ax : Option Addr} {m c : Nat} {news : List Value} (hx : a.eval x = .slice ax m c)
    (hmc : m ≤ c) (hc : ax = none → c = 0) (hl : news.length = m * size) (hnews : Src w ax news) (h1 : One news) (h63 : n + m ≤ maxLen) (hbytes : (n + m) * bytes ≤ 140737488355328) (hbase : N ≤ w.heap.size)
    (h : ∀ v' w', w'.ownsRow N e size v' (n + m) (xs ++ news) → w.grownBy w' v.ownBlock → (v'.ownBlock = v.ownBlock ∨ v'.ownBlock = some w.heap.size) → K (a.put o.dst v') w') : o.wp P a w K Q := by
  obtain ⟨v', w', hr, h2, h3, h4⟩ := run_app (P := P) (ty := o.type) hT hown hmc hc hl hnews h1 h63 hbytes hbase
  exact Lib.wp_append_run w s x t t ho _ _ hs hx v' w' hr (h v' w' h2 h3 h4)
theorem wpList_app {ops : Array Oper} {rest : List Oper} {o : Oper} {a : Act} {Q : Exit → Act → World → Prop} (hgd : o.guard = none) (s x : Operand) {t : TypeId} (ho : o.op = .call { callee := .builtin .append, args := #[s, x], argTypes := #[t, t] })
    {e : TypeId} {size bytes N : Nat} (hT : TyI P t e size bytes) {v : Value} {n : Nat} {xs : List Value} (hs : a.eval s = v) (hown : w.ownsRow N e size v n xs) {ax : Option Addr} {m c : Nat} {news : List Value} (hx : a.eval x = .slice ax m c)
    (hmc : m ≤ c) (hc : ax = none → c = 0) (hl : news.length = m * size) (hnews : Src w ax news) (h1 : One news) (h63 : n + m ≤ maxLen) (hbytes : (n + m) * bytes ≤ 140737488355328) (hbase : N ≤ w.heap.size)
    (h : ∀ v' w', w'.ownsRow N e size v' (n + m) (xs ++ news) → w.grownBy w' v.ownBlock → (v'.ownBlock = v.ownBlock ∨ v'.ownBlock = some w.heap.size) → wpList P ops Q rest (a.put o.dst v') w') : wpList P ops Q (o :: rest) a w :=
  wpList_plain hgd fun _ hK => wp_app s x ho hT hs hown hx hmc hc hl hnews h1 h63 hbytes hbase fun v' w' h2 h3 h4 => hK _ _ (h v' w' h2 h3 h4)
end

section
variable {P : Program} {w : World}
theorem run_copy_sz {dT sT ty elem t : TypeId} {size g off dLen dCap sLen sCap m : Nat} {ax : Option Addr} {cur cs : List Value} (hu : P.underlying dT = some (.slice elem)) (hs : (P.info? elem).map (·.size) = some size)
    (hg : Blk w g t cur) (hm : m = Nat.min sLen dLen) (hn : cs.length = m * size) (hsrc : Src w ax cs) (ha : ax = none → sLen = 0 ∧ sCap = 0) (hfit : off + cs.length ≤ cur.length) (h1 : One cs) :
    ∃ w', (Builtin.copy_ #[dT, sT] ty #[.slice (some ⟨g, off, none⟩) dLen dCap, .slice ax sLen sCap]).run P w = .ok (goInt m) w' ∧ Blk w' g t (splice cur off cs) ∧ w.grownBy w' (some g) := by
  cases hq : P.info? elem with
  | none => simp [hq] at hs
  | some i =>
    have hi : i.size = size := by simpa [hq] using hs
    cases ax with
    | none =>
      obtain ⟨rfl, rfl⟩ := ha rfl
      have hm0 : m = 0 := by rw [hm]; simp
      subst hm0
      obtain rfl : cs = [] := List.eq_nil_of_length_eq_zero (by simpa using hn)
      refine ⟨w, ?_, by simpa [splice] using hg, ⟨rfl, rfl, rfl, Nat.le_refl _, fun _ _ _ => rfl⟩⟩
      simp [Builtin.copy_, run_underlying hu, Builtin.lenOf, Builtin.firstCells, sizeOf, typeInfo, hq, storeCells]
    | some a =>
      have hl := run_loadCells_list (P := P) w a cs (src_add hsrc)
      unfold Blk at hg
      have hst := run_storeCells_at P g off t cs 0 cur.toArray w hg (by simpa using hfit) h1
      refine ⟨w.setRow g (splice cur off cs).toArray, ?_, ?_, ?_⟩
      · rw [hn, hm] at hl
        simp [Builtin.copy_, run_underlying hu, Builtin.lenOf, Builtin.firstCells, sizeOf, typeInfo, hq, hi, hm, hl, hst, splice]
      · unfold Blk
        exact setRow_heap w g _ _ t _ hg
      · exact ⟨rfl, rfl, rfl, by simp [World.setRow], fun k _ hne => setRow_other w g k _ (fun e => hne (by rw [e]))⟩
theorem wpList_copy_sz {ops : Array Oper} {rest : List Oper} {o : Oper} {a : Act} {Q : Exit → Act → World → Prop} (hgd : o.guard = none) (d s : Operand) {dT sT : TypeId} (ho : o.op = .call { callee := .builtin .copy, args := #[d, s], argTypes := #[dT, sT] })
    {elem t : TypeId} {size g off dLen dCap sLen sCap : Nat} {ax : Option Addr} (cur cs : List Value) (hd : a.eval d = .slice (some ⟨g, off, none⟩) dLen dCap) (hx : a.eval s = .slice ax sLen sCap) (hu : P.underlying dT = some (.slice elem)) (hs : (P.info? elem).map (·.size) = some size)
    (hg : Blk w g t cur) (hn : cs.length = Nat.min sLen dLen * size) (hsrc : Src w ax cs) (ha : ax = none → sLen = 0 ∧ sCap = 0) (hfit : off + cs.length ≤ cur.length) (h1 : One cs)
    (h : ∀ w', Blk w' g t (splice cur off cs) → w.grownBy w' (some g) → wpList P ops Q rest (a.put o.dst (goInt (Nat.min sLen dLen))) w') : wpList P ops Q (o :: rest) a w := by
  refine wpList_plain hgd fun K hK => ?_
  obtain ⟨w', hrun, h2, h3⟩ := run_copy_sz (P := P) (w := w) (ty := o.type) (sT := sT) (dCap := dCap) (sCap := sCap) hu hs hg rfl hn hsrc ha hfit h1
  unfold Oper.wp
  simp [execOp, ho, resolve, invoke, builtin, hd, hx, hrun, Result.andThen]
  exact hK _ _ (h w' h2 h3)
/-- append(s[:k], make(..)...) where there is no room. -/
theorem run_app_make {t tn ty e : TypeId} {size bytes n cap k : Nat} (hT : TyI P t e size bytes) (htn : P.underlying tn = some (.int .i64)) {ax : Option Addr} {olds : List Value} (hl : olds.length = n * size) (ho : Src w ax olds) (ha : ax = none → n = 0 ∧ cap = 0)
    (hk : 0 < k) (hg : cap < n + k) (hb : (n + k) * bytes ≤ 140737488355328) (h63 : n + k ≤ maxLen) :
    ∃ c w' cur, (Builtin.append_ #[t, tn] ty #[.slice ax n cap, .int .i64 k]).run P w = .ok (.slice (some ⟨w.heap.size, 0, none⟩) (n + k) c) w' ∧ Blk w' w.heap.size e cur ∧ cur.length = c * size ∧ n + k ≤ c ∧ c ≤ maxLen ∧ cur.take (n * size) = olds ∧ w.grownBy w' none ∧ w.heap.size < w'.heap.size := by
  obtain ⟨ht, hsz, i, z, hi, hz, hsize, hby, hzs⟩ := hT
  subst hsize
  subst hby
  have hk2 : k * i.bytes ≤ 281474976710656 := by
    have := Nat.mul_le_mul_right i.bytes (show k ≤ n + k by omega)
    omega
  have hm := h63
  simp only [maxLen] at hm
  have hge := grownCap_ge w (n + k) cap e
  have hcm := grownCap_le_maxLen w (n + k) cap e h63
  have hold : (Builtin.firstCells i.size n (.slice ax n cap)).run P w.drew = .ok olds.toArray w.drew := by
    cases ax with
    | none =>
      obtain ⟨rfl, rfl⟩ := ha rfl
      obtain rfl : olds = [] := List.eq_nil_of_length_eq_zero (by simpa using hl)
      exact run_firstCells_none (P := P) _ _ _ _ _
    | some a =>
      have hl' := run_loadCells_list (P := P) w.drew a olds (src_add ho)
      rw [hl] at hl'
      simpa [Builtin.firstCells] using hl'
  have hr := Lib.run_append_grow_zeros (P := P) w t tn ty e i z .i64 .i64 ht htn hi hz ax n cap olds hold k hk hsz hg (by omega) hk2 (growslice_fits hg hb)
  refine ⟨_, _, _, hr, Blk.new w.drew _ e, ?_, hge, hcm, ?_, ⟨rfl, rfl, rfl, by simp, fun j hj _ => Below.heap_alloc w.drew _ j hj⟩, by simp⟩
  · simp only [Array.toList_append, List.length_append, Array.length_toList, size_zeroCells, hzs, hl, ← Nat.add_mul]
    congr 1
    omega
  · simp only [Array.toList_append, List.append_assoc]
    rw [← hl]
    exact List.take_left
theorem wpList_app_make {ops : Array Oper} {rest : List Oper} {o : Oper} {a : Act} {Q : Exit → Act → World → Prop} (hgd : o.guard = none) (s x : Operand) {t tn : TypeId} (hop : o.op = .call { callee := .builtin .append, args := #[s, x], argTypes := #[t, tn] })
    {e : TypeId} {size bytes n cap k L : Nat} (hT : TyI P t e size bytes) (htn : P.underlying tn = some (.int .i64)) {ax : Option Addr} {olds : List Value} (hs : a.eval s = .slice ax n cap) (hx : a.eval x = .int .i64 k) (hl : olds.length = n * size) (ho : Src w ax olds) (ha : ax = none → n = 0 ∧ cap = 0)
    (hk : 0 < k) (hL : n + k = L) (hg : cap < L) (hb : L * bytes ≤ 140737488355328) (h63 : L ≤ maxLen)
    (h : ∀ c w' cur, Blk w' w.heap.size e cur → cur.length = c * size → L ≤ c → c ≤ maxLen → cur.take (n * size) = olds → w.grownBy w' none → w.heap.size < w'.heap.size → wpList P ops Q rest (a.put o.dst (.slice (some ⟨w.heap.size, 0, none⟩) L c)) w') : wpList P ops Q (o :: rest) a w := by
  subst hL
  obtain ⟨c, w', cur, hr, r1, r2, r3, r4, r5, r6, r7⟩ := run_app_make (P := P) (w := w) (ty := o.type) hT htn hl ho ha hk hg hb h63
  exact Lib.wpList_append_run w hgd s x t tn hop _ _ hs hx _ w' hr (h c w' cur r1 r2 r3 r4 r5 r6 r7)
end

theorem ins_room {L ys B : List Value} {k z : Nat} (hy : ys.length = z) (hL : k + z + B.length ≤ L.length) : (splice (splice L (k + z) B) k ys).take (k + z + B.length) = L.take k ++ ys ++ B := by
  have e1 : (splice L (k + z) B).take k = L.take k := by
    unfold splice
    rw [List.take_append_of_le_length (by simp; omega), List.take_take, Nat.min_eq_left (by omega)]
  have e2 : (splice L (k + z) B).drop (k + z) = B ++ L.drop (k + z + B.length) := by
    unfold splice
    rw [List.drop_append_of_le_length (by simp; omega), List.drop_eq_nil_of_le (by rw [List.length_take]; omega), List.nil_append]
  unfold splice at e1 e2 ⊢
  rw [e1, hy, e2, ← List.append_assoc, ← List.append_assoc, List.take_append_of_le_length (by simp; omega), List.take_of_length_le (by simp; omega)]
theorem ins_grow {L ys B : List Value} {k z : Nat} (hy : ys.length = z) (hL : k + z + B.length ≤ L.length) : (splice (splice L k ys) (k + z) B).take (k + z + B.length) = L.take k ++ ys ++ B := by
  have e1 : (splice L k ys).take (k + z) = L.take k ++ ys := by
    unfold splice
    rw [← List.append_assoc, List.take_append_of_le_length (by simp; omega), List.take_of_length_le (by simp; omega)]
  unfold splice at e1 ⊢
  rw [e1, ← List.append_assoc, List.take_append_of_le_length (by simp; omega), List.take_of_length_le (by simp; omega)]

/-- A slice of the call's own, of flat data, that grows. -/
def AccF {α : Type} [Lay α] (N : Nat) (e : TypeId) (w : World) (v : Value) (l : List α) : Prop := ∃ xs, w.ownsRow N e (Lay.n α) v l.length xs ∧ RowRd w xs l
section
variable {α : Type} [Lay α] {N M : Nat} {e : TypeId} {w w' : World} {v : Value} {l : List α}
theorem AccF.ext (h : AccF N e w v l) (k : Ext w w') : AccF N e w' v l := by
  obtain ⟨xs, h1, h2⟩ := h
  exact ⟨xs, ownsRow_ext h1 k, h2.stays k.below⟩
theorem AccF.addr {a : Option Addr} {n c : Nat} (h : AccF N e w (.slice a n c) l) (h0 : 0 < n) : ∃ g, a = some ⟨g, 0, none⟩ := by
  obtain ⟨xs, h1, h2⟩ := h
  obtain ⟨a', c', e1, _⟩ := ownsRow_shape h1
  simp only [Value.slice.injEq] at e1
  obtain ⟨rfl, rfl, rfl⟩ := e1
  obtain ⟨g, _, e, _⟩ := ownsRow_cur h1 h0
  exact ⟨g, e⟩
theorem AccF.shapeL (h : AccF N e w v l) : ∃ a n c, v = .slice a n c := by
  obtain ⟨xs, h1, h2⟩ := h
  obtain ⟨a, c, rfl, _⟩ := ownsRow_shape h1
  exact ⟨_, _, _, rfl⟩
theorem AccF.nil : AccF N e w (.slice none 0 0) ([] : List α) := ⟨[], World.ownsRow_nil _ _ _ _, RowRd.nil⟩
theorem AccF.made (hN : N ≤ w.heap.size) : AccF N e (w.alloc (.cells #[] e)) (.slice (some ⟨w.heap.size, 0, none⟩) 0 0) ([] : List α) :=
  ⟨[], World.ownsRow_made w #[] 0 hN (Nat.zero_le _) (by simp), RowRd.nil⟩
theorem AccF.base (h : AccF N e w v l) (hb : M ≤ N) : AccF M e w v l := by
  obtain ⟨xs, h1, h2⟩ := h
  exact ⟨xs, ownsRow_base h1 hb, h2⟩
theorem AccF.shape (h : AccF N e w v l) : ∃ a cap, v = .slice a l.length cap := by
  obtain ⟨xs, h1, h2⟩ := h
  obtain ⟨a, cap, rfl, _⟩ := ownsRow_shape h1
  exact ⟨a, cap, rfl⟩
theorem AccF.sl [OneC α] {a : Option Addr} {n cap : Nat} (h : AccF N e w (.slice a n cap) l) : SlRd w a n cap l := by
  obtain ⟨xs, h1, h2⟩ := h
  obtain ⟨a', cap', e1, _⟩ := ownsRow_shape h1
  simp only [Value.slice.injEq] at e1
  obtain ⟨rfl, rfl, rfl⟩ := e1
  exact ownsRow_sl h1 h2 rfl
theorem AccF.fresh [Ow α] [OneC α] [FlO α] {w0 : World} (h : AccF w0.heap.size e w v l) (hE : Ext w0 w) : ∃ a n cap, v = .slice a n cap ∧ Fresh w0 w [.slice a n cap] l := by
  obtain ⟨xs, h1, h2⟩ := h
  obtain ⟨a, cap, rfl, _⟩ := ownsRow_shape h1
  exact ⟨a, _, cap, rfl, ownsRow_fresh hE h1 h2 rfl⟩
theorem AccF.of {xs : List Value} {n : Nat} (h : w.ownsRow N e (Lay.n α) v n xs) (hr : RowRd w xs l) (hl : l.length = n) : AccF N e w v l := ⟨xs, hl ▸ h, hr⟩
theorem RowRd.any [Ow α] [FlO α] {xs : List Value} (h : RowRd w xs l) (w' : World) : RowRd w' xs l := ⟨h.1, fun i d hd => by
  obtain ⟨zs, z1, z2, z3⟩ := h.2 i d hd
  exact ⟨zs, z1, z2, FlO.any z3⟩⟩
theorem wpList_push [Ow α] [OneC α] [FlO α] {P : Program} {ops : Array Oper} {rest : List Oper} {o : Oper} {a : Act} {Q : Exit → Act → World → Prop} (hgd : o.guard = none) (s x : Operand) {t : TypeId} (ho : o.op = .call { callee := .builtin .append, args := #[s, x], argTypes := #[t, t] })
    {bytes B : Nat} (hT : TyI P t e (Lay.n α) bytes) (hby : bytes ≤ 1000) (hs : a.eval s = v) (h : AccF N e w v l) (hlen : l.length ≤ 1000000000) {C : Array Value} {d : α} (hx : a.eval x = .slice (some ⟨B, 0, none⟩) 1 1) (hB : Blk w B e C.toList) (hd : Lay.rd w C.toList d) (hN : N ≤ w.heap.size)
    (h : ∀ v' w', AccF N e w' v' (l ++ [d]) → (∀ w0, Ext w0 w → w0.heap.size ≤ N → Ext w0 w') → wpList P ops Q rest (a.put o.dst v') w') : wpList P ops Q (o :: rest) a w := by
  obtain ⟨xs, h1, h2⟩ := ‹AccF N e w v l›
  have hcl : C.toList.length = 1 * Lay.n α := by rw [Nat.one_mul]; exact OneC.len hd
  refine wpList_app hgd s x ho hT hs h1 hx (Nat.le_refl 1) (fun h => by cases h) hcl (Src.blk hB) (OneC.one hd) (by unfold maxLen; omega) ?_ hN fun v1 w1 hw1 hg1 hb1 => h v1 w1 ⟨_, by simpa using hw1, (h2.any w1).append (RowRd.single (FlO.any hd) (OneC.len hd))⟩ fun w0 hE0 hb0 => Ext.by hE0 hg1 fun j hj => Nat.le_trans hb0 (h1.lt j hj).1
  have := Nat.mul_le_mul_left (l.length + 1) hby
  omega
end

theorem fin_acc {α : Type} [Lay α] [Ow α] [OneC α] [FlO α] {e : TypeId} {w w1 : World} {v : Value} {l : List α} (h : AccF w.heap.size e w1 v l) (hE : Ext w w1) : ∃ a n c, v = .slice a n c ∧ ∃ x, w1 = Go.Proofs.Ytngehfhcnfobbaa.ext w x ∧ Hid (Fresh w (Go.Proofs.Ytngehfhcnfobbaa.ext w x) [.slice a n c] l) := by
  obtain ⟨a, n, c, rfl, hf⟩ := h.fresh hE
  obtain ⟨x, rfl⟩ := hE
  exact ⟨a, n, c, rfl, x, rfl, hf⟩
theorem fin_accs {α : Type} [Lay α] [Ow α] [OneC α] [FlO α] {e : TypeId} {w w1 : World} {N : Nat} {a : Option Addr} {n c : Nat} {l : List α} (h : AccF N e w1 (.slice a n c) l) (hN : w.heap.size ≤ N) (hE : Ext w w1) : ∃ x, w1 = Go.Proofs.Ytngehfhcnfobbaa.ext w x ∧ Hid (Fresh w (Go.Proofs.Ytngehfhcnfobbaa.ext w x) [.slice a n c] l) := by
  obtain ⟨a', n', c', e1, h2⟩ := fin_acc (h.base hN) hE
  simp only [Value.slice.injEq] at e1
  obtain ⟨rfl, rfl, rfl⟩ := e1
  exact h2
theorem fin_accw {α : Type} [Lay α] [Ow α] [OneC α] [FlO α] {e : TypeId} {w w0 w1 : World} {N : Nat} {a : Option Addr} {n c : Nat} {l : List α} (h : AccF N e w0 (.slice a n c) l) (h0 : Ext w0 w1) (hN : w.heap.size ≤ N) (hE : Ext w w1) : ∃ x, w1 = Go.Proofs.Ytngehfhcnfobbaa.ext w x ∧ Hid (Fresh w (Go.Proofs.Ytngehfhcnfobbaa.ext w x) [.slice a n c] l) :=
  fin_accs (h.ext h0) hN hE
theorem fin_acc_made {α : Type} [Lay α] [Ow α] [OneC α] [FlO α] (e : TypeId) {w w1 : World} {B : Nat} (hE : Ext w w1) (hB : w1.heap.size = B) : ∃ x, w1.alloc (.cells #[] e) = Go.Proofs.Ytngehfhcnfobbaa.ext w x ∧ Hid (Fresh w (Go.Proofs.Ytngehfhcnfobbaa.ext w x) [.slice (some ⟨B, 0, none⟩) 0 0] ([] : List α)) := by
  subst hB
  obtain ⟨a, n, c, h1, h2⟩ := fin_acc (AccF.made (α := α) (w := w1) (N := w.heap.size) (e := e) hE.size) (hE.alloc _)
  simp only [Value.slice.injEq] at h1
  obtain ⟨rfl, rfl, rfl⟩ := h1
  exact h2
/-- One element of a slice of the call's own is written over. -/
theorem AccF.set {α : Type} [Lay α] [Ow α] [OneC α] [FlO α] {N : Nat} {e : TypeId} {w : World} {v : Value} {l : List α} (h : AccF N e w v l) {i : Nat} (hi : i < l.length) :
    ∃ g c, v = .slice (some ⟨g, 0, none⟩) l.length c ∧ N ≤ g ∧ g < w.heap.size ∧ l.length ≤ c ∧ (∀ j, j < Lay.n α → ∃ z, w.cell? ⟨g, i * Lay.n α + j, none⟩ = some z) ∧ (∀ j, w.frozen? ⟨g, j, none⟩ = false) ∧
      ∀ ys d, ys.length = Lay.n α → Lay.rd w ys d → AccF N e (setW w g (i * Lay.n α) ys) v (l.set i d) := by
  obtain ⟨xs, h1, h2⟩ := h
  obtain ⟨a, c, rfl, hlc, hcm, _⟩ := ownsRow_shape h1
  obtain ⟨g, cur, rfl, hb, hl, ht⟩ := ownsRow_cur h1 (by omega)
  have hN := (h1.lt g rfl).1
  have hroom : i * Lay.n α + Lay.n α ≤ l.length * Lay.n α := by
    have := Nat.mul_le_mul_right (Lay.n α) (show i + 1 ≤ l.length from hi)
    rwa [Nat.add_mul, Nat.one_mul] at this
  have hcap := Nat.mul_le_mul_right (Lay.n α) hlc
  refine ⟨g, c, rfl, hN, hb.lt, hlc, fun j hj => hb.get (by omega), fun j => hb.frozen j, fun ys d hy hd => ?_⟩
  have hset : (setL cur (i * Lay.n α) ys).take (l.length * Lay.n α) = setL xs (i * Lay.n α) ys := by
    apply List.ext_getElem?
    intro j
    rw [List.getElem?_take]
    have hxl := h1.1
    split
    · rename_i hj
      by_cases h3 : j < i * Lay.n α
      · rw [setL_lt _ _ _ _ h3, setL_lt _ _ _ _ h3, ← ht, List.getElem?_take, if_pos hj]
      · by_cases h4 : i * Lay.n α + ys.length ≤ j
        · rw [setL_ge _ _ _ _ h4, setL_ge _ _ _ _ h4, ← ht, List.getElem?_take, if_pos hj]
        · obtain ⟨t, rfl⟩ : ∃ t, j = i * Lay.n α + t := ⟨j - i * Lay.n α, by omega⟩
          rw [setL_at _ _ _ _ (by omega) (by omega), setL_at _ _ _ _ (by omega) (by omega)]
    · rename_i hj
      rw [List.getElem?_eq_none (by rw [length_setL, hxl]; omega)]
  refine ⟨setL xs (i * Lay.n α) ys, ?_, by rw [length_setL, h2.1, List.length_set], fun k d' hk => ?_⟩
  · rw [List.length_set]
    exact ownsRow_of hN (hb.setW ys _) (by rw [length_setL, hl]) hlc hcm (by rw [length_setL, h1.1]) hset
  · by_cases hki : k = i
    · subst hki
      rw [List.getElem?_set_self hi] at hk
      obtain rfl := Option.some.inj hk
      exact ⟨ys, hy, Elt.set_self hy (by rw [h1.1]; exact hroom), FlO.any hd⟩
    · rw [List.getElem?_set_ne (Ne.symm hki)] at hk
      obtain ⟨zs, z1, z2, z3⟩ := h2.2 k d' hk
      exact ⟨zs, z1, z2.set_other hy z1 hki, FlO.any z3⟩

/-- What lies below the base of a slice that grows is as it was. -/
theorem heap_of_base {w w' : World} {M b : Nat} (hX : ∀ w0, Ext w0 w → w0.heap.size ≤ M → Ext w0 w') (hM : M ≤ w.heap.size) (hb : b < M) : w'.heap[b]? = w.heap[b]? := by
  obtain ⟨w0, hw0⟩ : ∃ w0 : World, w0 = { w with heap := w.heap.extract 0 M } := ⟨_, rfl⟩
  have hs : w0.heap.size = M := by rw [hw0]; simp; omega
  have hk : ∀ k, k < M → w.heap[k]? = w0.heap[k]? := fun k hk => by
    rw [hw0]
    simp only [Array.getElem?_extract]
    rw [if_pos (by omega), Nat.zero_add]
  have h0 : Ext w0 w := Ext.of ⟨by rw [hw0], by rw [hw0], by rw [hw0], by omega, fun k hk' => hk k (by omega)⟩
  have h1 := (hX w0 h0 (by omega)).below.block b (by omega)
  exact h1.trans (hk b hb).symm
theorem cell_of_heap {w w' : World} {b : Nat} (h : w'.heap[b]? = w.heap[b]?) (o : Nat) : w'.cell? ⟨b, o, none⟩ = w.cell? ⟨b, o, none⟩ := World.cell?_of_block h
theorem frozen_of_heap {w w' : World} {b : Nat} (h : w'.heap[b]? = w.heap[b]?) (o : Nat) : w'.frozen? ⟨b, o, none⟩ = w.frozen? ⟨b, o, none⟩ := World.frozen?_of_block h
theorem AccF.setLow {α : Type} [Lay α] [Ow α] [FlO α] {N : Nat} {e : TypeId} {w : World} {v : Value} {l : List α} (h : AccF N e w v l) {b o : Nat} (hb : b < N) (u : Value) : AccF N e (w.setCell ⟨b, o, none⟩ u) v l := by
  obtain ⟨xs, h1, h2⟩ := h
  exact ⟨xs, ownsRow_set h1 _ u (fun e => by have := (h1.lt _ e).1; simp at this; omega), h2.any _⟩

end Go.Proofs.Ytngehfhcnfobbaa
namespace Go.Proofs.Ytngehfhcnfobbaa
open Go Go.RowKit

theorem tyinfo_int : (Try.prog.info? 3).map (fun i => (i.zero, i.size, i.bytes)) = some (some (.int .i64 0), 1, 8) := by kernel_rfl
theorem tyi_int : TyI Try.prog 44 3 1 8 := by
  obtain ⟨i, hi, hz0, hz1, hz2⟩ := info_parts tyinfo_int
  exact ⟨Try.underlying44, by decide, i, _, hi, hz0, hz1, hz2, rfl⟩

theorem tyinfo_Rg : (Try.prog.info? 43).map (fun i => (i.zero, i.size, i.bytes)) = some (some (.agg #[.int .i64 0, .int .i64 0]), 2, 16) := by kernel_rfl
theorem tyi_Rg : TyI Try.prog 29 43 2 16 := by
  obtain ⟨i, hi, hz0, hz1, hz2⟩ := info_parts tyinfo_Rg
  exact ⟨Try.underlying29, by decide, i, _, hi, hz0, hz1, hz2, rfl⟩

theorem tyinfo_Rt : (Try.prog.info? 46).map (fun i => (i.zero, i.size, i.bytes)) = some (some (.agg #[.int .i64 0, .int .i64 0, .slice none 0 0, .int .i64 0, .slice none 0 0]), 5, 72) := by kernel_rfl
theorem tyi_Rt : TyI Try.prog 30 46 5 72 := by
  obtain ⟨i, hi, hz0, hz1, hz2⟩ := info_parts tyinfo_Rt
  exact ⟨Try.underlying30, by decide, i, _, hi, hz0, hz1, hz2, rfl⟩

theorem tyinfo_Dl : (Try.prog.info? 32).map (fun i => (i.zero, i.size, i.bytes)) = some (some (.agg #[.slice none 0 0, .slice none 0 0]), 2, 48) := by kernel_rfl
theorem tyi_Dl : TyI Try.prog 27 32 2 48 := by
  obtain ⟨i, hi, hz0, hz1, hz2⟩ := info_parts tyinfo_Dl
  exact ⟨Try.underlying27, by decide, i, _, hi, hz0, hz1, hz2, rfl⟩

set_option maxRecDepth 20000 in
set_option maxHeartbeats 1000000 in
theorem clone_int (a : Option Addr) (len cap : Nat) (xs : List Value) (w : World) (hs : Src w a xs) (hl : xs.length = len * 1) (h1 : One xs) (hlc : len ≤ cap) (ha : a = none → cap = 0) (hm : len ≤ 1000000000) :
    Calls Try.prog 31 #[.slice a len cap] w fun e w' => ∃ v, e = .returned v ∧ w'.ownsRow w.heap.size 3 1 v len xs ∧ Ext w w' := by
  have q0 : ∀ (w : World) (a : Option Addr) (n c n' c' : Nat), (binOp .eql 44 (.slice a n c) (.slice none n' c')).run Try.prog w = .ok (.bool a.isNone) w := fun w a n c n' c' => Lib.run_eql_slice_nil w _ _ a n c n' c' Try.underlying44
  cases a with
  | none =>
    obtain rfl := ha rfl
    obtain rfl : len = 0 := by omega
    obtain rfl : xs = [] := List.eq_nil_of_length_eq_zero (by simpa using hl)
    clear hm hl h1 hs ha hlc
    go_enter Try.func31, Try.ntmps31
    go_wp2_with fail
    go_ret
    exact ⟨_, rfl, World.ownsRow_nil _ _ _ _, Ext.refl _⟩
  | some ad =>
    have HL := hidden hl
    have HM := hidden hm
    have HS := hidden hs
    have H1 := hidden h1
    clear hl hm hs h1 ha
    go_enter Try.func31, Try.ntmps31
    go_wp2_with (at_builtin; refine wpList_app (N := w.heap.size) rfl _ _ rfl tyi_int (by rfl) (World.ownsRow_made w #[] 0 (Nat.le_refl _) (Nat.zero_le _) (by simp)) (by rfl) hlc (fun h => by cases h) HL.out (HS.out.stays ((by repeat (first | with_reducible exact Ext.refl _ | with_reducible apply Ext.and | with_reducible apply Ext.drewx | with_reducible apply Ext.alloc | with_reducible apply Ext.ext | with_reducible apply Ext.drew | with_reducible refine Ext.setCell ?_ (by simp) _)) : Ext _ _).below) H1.out (by have := HM.out; unfold maxLen; omega) (by have := HM.out; omega) (by simp) ?_; intro v1 w1 hw1 hg1 hb1)
    go_ret
    exact ⟨_, rfl, by simpa using hw1, Ext.by ((by repeat (first | with_reducible exact Ext.refl _ | with_reducible apply Ext.and | with_reducible apply Ext.drewx | with_reducible apply Ext.alloc | with_reducible apply Ext.ext | with_reducible apply Ext.drew | with_reducible refine Ext.setCell ?_ (by simp) _)) : Ext w _) hg1 (by simp [Value.ownBlock])⟩



end Go.Proofs.Ytngehfhcnfobbaa
