/- Data of the call's own, written over: what changes, what stays. No condition. -/
import Derived.Test.YtlehcnfmagjilaaDoorSz
namespace Go.Proofs.YtlehcnfmagjilaaDoor
open Go Go.RowKit

/-- What a change of these blocks alone leaves. -/
def Chg (fp : List Nat) (w w' : World) : Prop := Below 0 w w' ∧ ∀ b, b < w.heap.size → b ∉ fp → w'.heap[b]? = w.heap[b]?
section
variable {fp fq : List Nat} {a w w' w'' : World}
theorem Chg.refl : Chg fp w w := ⟨Below.refl _ _, fun _ _ _ => rfl⟩
theorem Chg.trans (h : Chg fp w w') (h' : Chg fp w' w'') : Chg fp w w'' :=
  ⟨h.1.trans h'.1, fun i hi hn => (h'.2 i (Nat.lt_of_lt_of_le hi h.1.size) hn).trans (h.2 i hi hn)⟩
theorem Chg.mono (h : Chg fp w w') (hs : ∀ b ∈ fp, b ∈ fq) : Chg fq w w' := ⟨h.1, fun i hi hn => h.2 i hi fun hb => hn (hs i hb)⟩
theorem Ext.chg (h : Ext w w') : Chg fp w w' := ⟨h.below.mono (Nat.zero_le _), fun i hi _ => h.below.block i hi⟩
theorem Chg.set {b j : Nat} (hb : b ∈ fp) (v : Value) : Chg fp w (w.setCell ⟨b, j, none⟩ v) :=
  ⟨(Below.refl 0 w).setCell (Nat.zero_le _) v, fun _ _ hn => Below.heap_setCell _ _ _ _ (fun e => hn (e ▸ hb))⟩
theorem Chg.below {n : Nat} (h : Chg fp w w') (hn : ∀ b ∈ fp, n ≤ b) (hw : n ≤ w.heap.size) : Below n w w' :=
  ⟨h.1.os, h.1.tape, h.1.output, h.1.size, fun i hi => h.2 i (by omega) fun hb => by have := hn i hb; omega⟩
theorem Ext.byChg (h : Ext a w) (hc : Chg fp w w') (hn : ∀ b ∈ fp, a.heap.size ≤ b) : Ext a w' :=
  Ext.of (h.below.trans (hc.below hn h.size))
theorem Chg.tset {b j : Nat} (h : Chg fp w w') (hb : b ∈ fp) {v : Value} : Chg fp w (w'.setCell ⟨b, j, none⟩ v) := h.trans (Chg.set hb v)
theorem Chg.cell {b : Nat} (h : Chg fp w w') (hl : b < w.heap.size) (hn : b ∉ fp) (o : Nat) : w'.cell? ⟨b, o, none⟩ = w.cell? ⟨b, o, none⟩ := World.cell?_of_block (h.2 b hl hn)
theorem Chg.frozen {b : Nat} (h : Chg fp w w') (hl : b < w.heap.size) (hn : b ∉ fp) (o : Nat) : w'.frozen? ⟨b, o, none⟩ = w.frozen? ⟨b, o, none⟩ := World.frozen?_of_block (h.2 b hl hn)
/-- Block x is as it was. -/
def Kp (x : Nat) (w w' : World) : Prop := w.heap.size ≤ w'.heap.size ∧ w'.heap[x]? = w.heap[x]?
theorem Kp.of {x : Nat} (h : Kp x w w') : w'.heap[x]? = w.heap[x]? := h.2
theorem Kp.refl {x : Nat} : Kp x w w := ⟨Nat.le_refl _, rfl⟩
theorem Kp.set {x b j : Nat} {v : Value} (h : Kp x w w') (hne : x ≠ b) : Kp x w (w'.setCell ⟨b, j, none⟩ v) :=
  ⟨by have := h.1; simpa [World.setCell] using this, (Below.heap_setCell _ _ _ _ hne).trans h.2⟩
theorem Kp.chg {x : Nat} (h : Kp x w w') (hl : x < w.heap.size) (c : Chg fp w' w'') (hn : x ∉ fp) : Kp x w w'' :=
  ⟨Nat.le_trans h.1 c.1.size, (c.2 x (Nat.lt_of_lt_of_le hl h.1) hn).trans h.2⟩
theorem OwSl.later {α : Type} [Lay α] [Ow α] {a : Option Addr} {len cap : Nat} {l : List α} (h : OwSl w a len cap l fp) (k : Ext w w') : OwSl w' a len cap l fp :=
  h.frame fun b hb => k.below.block b (h.lt b hb)
theorem OwSl.chg {α : Type} [Lay α] [Ow α] {a : Option Addr} {len cap : Nat} {l : List α} (h : OwSl w a len cap l fp) (k : Chg fq w w') (hd : ∀ x ∈ fp, x ∉ fq) : OwSl w' a len cap l fp :=
  h.frame fun b hb => k.2 b (h.lt b hb) (hd b hb)
theorem Blk.same {b j : Nat} {e : TypeId} {cs : List Value} {u : Value} (h : Blk w b e cs) (hj : cs[j]? = some u) : Blk w b e (cs.set j u) := by
  have : cs.set j u = cs := by
    obtain ⟨hlt, rfl⟩ := List.getElem?_eq_some_iff.1 hj
    exact List.set_getElem_self hlt
  rwa [this]
theorem I64.mk {n : Int} (h0 : -9223372036854775808 ≤ n) (h1 : n ≤ 9223372036854775807) : I64 n := by
  unfold I64
  simp only [Lit.wf, Bool.and_eq_true, decide_eq_true_eq]
  exact ⟨h0, h1⟩
end

theorem flatten_disj {L : List (List Nat)} (h : L.flatten.Nodup) {i j : Nat} {f g : List Nat} (hi : L[i]? = some f) (hj : L[j]? = some g) (hne : i ≠ j) {x : Nat} (hx : x ∈ f) : x ∉ g := by
  induction L generalizing i j with
  | nil => simp at hi
  | cons c L ih =>
    rw [List.flatten_cons, List.nodup_append] at h
    obtain ⟨h1, h2, h3⟩ := h
    match i, j with
    | 0, 0 => exact absurd rfl hne
    | 0, j + 1 =>
      simp only [List.getElem?_cons_zero, Option.some.injEq] at hi
      subst hi
      simp only [List.getElem?_cons_succ] at hj
      intro hg
      exact h3 x hx x (List.mem_flatten.2 ⟨g, List.mem_of_getElem? hj, hg⟩) rfl
    | i + 1, 0 =>
      simp only [List.getElem?_cons_zero, Option.some.injEq] at hj
      subst hj
      simp only [List.getElem?_cons_succ] at hi
      intro hg
      exact h3 x hg x (List.mem_flatten.2 ⟨f, List.mem_of_getElem? hi, hx⟩) rfl
    | i + 1, j + 1 =>
      simp only [List.getElem?_cons_succ] at hi hj
      exact ih h2 hi hj (by omega)
theorem flatten_nodup {L : List (List Nat)} (h : L.flatten.Nodup) {i : Nat} {f : List Nat} (hi : L[i]? = some f) : f.Nodup := by
  induction L generalizing i with
  | nil => simp at hi
  | cons c L ih =>
    rw [List.flatten_cons, List.nodup_append] at h
    match i with
    | 0 => simp only [List.getElem?_cons_zero, Option.some.injEq] at hi; exact hi ▸ h.1
    | i + 1 => simp only [List.getElem?_cons_succ] at hi; exact ih h.2.1 hi

theorem ne_of_mem {x b : Nat} {f : List Nat} (hx : x ∈ f) (hb : b ∉ f) : x ≠ b := fun e => hb (e ▸ hx)
theorem disj_swap {p q : List Nat} (h : ∀ x ∈ p, x ∉ q) {x : Nat} (hx : x ∈ q) : x ∉ p := fun hy => h x hy hx
theorem cons_eq {a b : Value} {l m : List Value} (h : a = b) (k : l = m) : a :: l = b :: m := by rw [h, k]
theorem bool_eq {a b : Bool} (h : a = b) : Value.bool a = Value.bool b := by rw [h]
/-- One element of data of the call's own: what it is, and how it is turned. -/
theorem OwSl.open {α : Type} [Lay α] [Ow α] {w : World} {a : Option Addr} {len cap : Nat} {l : List α} {fp : List Nat} (h : OwSl w a len cap l fp) (hnd : fp.Nodup) {i : Nat} {d : α} (hd : l[i]? = some d) :
    ∃ (b : Nat) (e : TypeId) (cs : List Value) (f : List Nat) (ys : List Value), a = some ⟨b, 0, none⟩ ∧ Blk w b e cs ∧ b ∈ fp ∧ ys.length = Lay.n α ∧ Elt cs (Lay.n α) i ys ∧ i * Lay.n α + Lay.n α ≤ cs.length ∧
      Ow.own w ys d f ∧ f.Nodup ∧ (∀ x ∈ f, x ∈ fp) ∧ b ∉ f ∧
      ∀ (w' : World) (ys' : List Value) (d' : α), ys'.length = Lay.n α → Blk w' b e (setL cs (i * Lay.n α) ys') → Ow.own w' ys' d' f → (∀ x ∈ fp, x ≠ b → x ∉ f → w'.heap[x]? = w.heap[x]?) →
        OwSl w' a len cap (l.set i d') fp := by
  obtain ⟨h1, h2, h3, h4, h5⟩ := h
  rcases h5 with ⟨rfl, _⟩ | ⟨b, e, cs, fps, rfl, hb, hc, hf, rfl, hel⟩
  · simp at hd
  · have hi := (List.getElem?_eq_some_iff.1 hd).1
    have hfi : fps[i]? = some (fps[i]'(by omega)) := List.getElem?_eq_getElem (by omega)
    obtain ⟨ys, r1, r2, r3⟩ := hel i d _ hd hfi
    obtain ⟨hbn, hnd'⟩ := List.nodup_cons.1 hnd
    have hin : ∀ x ∈ fps[i]'(by omega), x ∈ fps.flatten := fun x hx => List.mem_flatten.2 ⟨_, List.mem_of_getElem? hfi, hx⟩
    have hroom : i * Lay.n α + Lay.n α ≤ cs.length := by
      rw [hc]
      have := Nat.mul_le_mul_right (Lay.n α) (show i + 1 ≤ cap by omega)
      rwa [Nat.add_mul, Nat.one_mul] at this
    refine ⟨b, e, cs, _, ys, rfl, hb, by simp, r1, r2, hroom, r3, flatten_nodup hnd' hfi, fun x hx => List.mem_cons_of_mem _ (hin x hx), fun hx => hbn (hin b hx), ?_⟩
    intro w' ys' d' hy hb' ho hk
    refine ⟨by simpa using h1, h2, h3, h4, .inr ⟨b, e, _, fps, rfl, hb', by rw [length_setL]; exact hc, by simpa using hf, rfl, ?_⟩⟩
    intro j d2 g hj hg
    by_cases hji : j = i
    · subst hji
      rw [List.getElem?_set_self hi] at hj
      obtain rfl := Option.some.inj hj
      rw [hfi] at hg
      obtain rfl := Option.some.inj hg
      exact ⟨ys', hy, Elt.set_self hy hroom, ho⟩
    · rw [List.getElem?_set_ne (Ne.symm hji)] at hj
      obtain ⟨zs, z1, z2, z3⟩ := hel j d2 g hj hg
      refine ⟨zs, z1, z2.set_other hy z1 hji, Ow.frame z3 fun x hx => hk x ?_ ?_ ?_⟩
      · exact List.mem_cons_of_mem _ (List.mem_flatten.2 ⟨_, List.mem_of_getElem? hg, hx⟩)
      · rintro rfl; exact hbn (List.mem_flatten.2 ⟨_, List.mem_of_getElem? hg, hx⟩)
      · exact flatten_disj hnd' hg hfi hji hx

theorem mod3 {x y : Int} (hx : x = y) (h0 : 0 ≤ y) : (x % 3 == 0) = decide (Int.tmod y 3 = 0) := by
  subst hx
  rw [Int.tmod_eq_emod_of_nonneg h0]
  rfl

/-- How many numbers data holds, and what it reads as, written over with numbers from k on. -/
class Mk (α : Type) where
  cnt : α → Nat
  ov : α → Int → α
def cntL {α : Type} [Mk α] : List α → Nat
  | [] => 0
  | d :: l => Mk.cnt d + cntL l
def mkL {α : Type} [Mk α] : List α → Int → List α
  | [], _ => []
  | d :: l, k => Mk.ov d k :: mkL l (k + Mk.cnt d)
instance mkList {α : Type} [Mk α] : Mk (List α) := ⟨cntL, mkL⟩
instance mkInt : Mk Int := ⟨fun _ => 1, fun _ k => k⟩
/-- The first i of them. -/
def mkP {α : Type} [Mk α] (l : List α) (k : Int) (i : Nat) : List α := mkL (l.take i) k ++ l.drop i
section
variable {α : Type} [Mk α] {l : List α} {k : Int} {i : Nat} {d : α}
theorem length_mkL : ∀ (l : List α) (k : Int), (mkL l k).length = l.length
  | [], _ => rfl
  | _ :: l, k => by simp [mkL, length_mkL l]
theorem cntL_append : ∀ (l l' : List α), cntL (l ++ l') = cntL l + cntL l'
  | [], l' => by simp [cntL]
  | d :: l, l' => by simp [cntL, cntL_append l l', Nat.add_assoc]
theorem mkL_append : ∀ (l l' : List α) (k : Int), mkL (l ++ l') k = mkL l k ++ mkL l' (k + cntL l)
  | [], l', k => by simp [mkL, cntL]
  | d :: l, l', k => by simp [mkL, cntL, mkL_append l l', Int.add_assoc]
theorem cntL_take (hd : l[i]? = some d) : cntL (l.take (i + 1)) = cntL (l.take i) + Mk.cnt d := by
  rw [List.take_add_one, hd, cntL_append]; simp [cntL]
theorem cntL_le (l : List α) (i : Nat) : cntL (l.take i) ≤ cntL l := by
  have := cntL_append (l.take i) (l.drop i)
  rw [List.take_append_drop] at this
  omega
theorem mkP_zero : mkP l k 0 = l := by simp [mkP, mkL]
theorem mkP_all (h : l.length = i) : mkP l k i = mkL l k := by simp [mkP, List.take_of_length_le (Nat.le_of_eq h), List.drop_eq_nil_of_le (Nat.le_of_eq h)]
theorem mkP_at (hd : l[i]? = some d) : (mkP l k i)[i]? = some d := by
  have hi := (List.getElem?_eq_some_iff.1 hd).1
  have hl : (mkL (l.take i) k).length = i := by rw [length_mkL, List.length_take]; omega
  unfold mkP
  rw [List.getElem?_append_right (by omega), hl, Nat.sub_self, List.getElem?_drop, Nat.add_zero, hd]
theorem mkP_step (hd : l[i]? = some d) : (mkP l k i).set i (Mk.ov d (k + cntL (l.take i))) = mkP l k (i + 1) := by
  obtain ⟨hi, he⟩ := List.getElem?_eq_some_iff.1 hd
  have hl : (mkL (l.take i) k).length = i := by rw [length_mkL, List.length_take]; omega
  unfold mkP
  rw [List.set_append_right _ _ (by omega), hl, Nat.sub_self, List.drop_eq_getElem_cons hi, List.set_cons_zero, List.take_add_one, hd, mkL_append]
  simp [mkL]
theorem mkL_at (hd : l[i]? = some d) : (mkL l k)[i]? = some (Mk.ov d (k + cntL (l.take i))) := by
  obtain ⟨hi, he⟩ := List.getElem?_eq_some_iff.1 hd
  have e : l = l.take i ++ d :: l.drop (i + 1) := by rw [← he, ← List.drop_eq_getElem_cons hi, List.take_append_drop]
  have hl : (mkL (l.take i) k).length = i := by rw [length_mkL, List.length_take]; omega
  rw [show mkL l k = mkL (l.take i ++ d :: l.drop (i + 1)) k by rw [← e], mkL_append, List.getElem?_append_right (by omega), hl, Nat.sub_self]
  simp [mkL]
end

theorem disj2 {p q : List Nat} (h : ∀ x ∈ p, x ∉ q) : ∀ x ∈ q, x ∉ p := fun x hx hy => h x hy hx
theorem OwSl.num {α : Type} [Lay α] [Ow α] [Mk α] {w : World} {a : Option Addr} {len cap : Nat} {l : List α} {k k' : Int} {fp : List Nat} (h : OwSl w a len cap (mkL l k) fp) (e : k = k') : OwSl w a len cap (mkL l k') fp := e ▸ h

instance mkRg : Mk Rg := ⟨fun _ => 2, fun _ k => ⟨(k), (k + 1)⟩⟩
instance mkCl : Mk Cl := ⟨fun _ => 8, fun _ k => ⟨(k), (k + 1), ⟨(k + 2), (k + 3)⟩, (decide (Int.tmod (k + 4) 3 = 0)), (k + 5), (k + 6), (k + 7)⟩⟩
instance mkRt : Mk Rt := ⟨fun d => 3 + cntL d.path + cntL d.marks, fun d k => ⟨⟨(k), (k + 1)⟩, (mkL d.path (k + 2)), (k + 2 + (cntL d.path : Nat)), (mkL d.marks (k + 3 + (cntL d.path : Nat)))⟩⟩
def mkTRt (d : Rt) (k : Int) : Rt := { d with path := mkL d.path (k), marks := mkL d.marks (k + (cntL d.path : Nat)) }
def cntTRt (d : Rt) : Nat := cntL d.path + cntL d.marks
instance mkHd : Mk Hd := ⟨fun _ => 3, fun _ k => ⟨(k), ⟨(k + 1), (k + 2)⟩⟩⟩
instance mkSe : Mk Se := ⟨fun d => 4 + cntL d.path, fun d k => ⟨(k), (k + 1), ⟨(k + 2), (k + 3)⟩, (mkL d.path (k + 4))⟩⟩
def mkTSe (d : Se) (k : Int) : Se := { d with path := mkL d.path (k) }
def cntTSe (d : Se) : Nat := cntL d.path
instance mkGt : Mk Gt := ⟨fun d => 4 + cntL d.route.path + cntL d.route.marks, fun d k => ⟨⟨⟨(k), (k + 1)⟩, (mkL d.route.path (k + 2)), (k + 2 + (cntL d.route.path : Nat)), (mkL d.route.marks (k + 3 + (cntL d.route.path : Nat)))⟩, (decide (Int.tmod (k + 3 + (cntL d.route.path : Nat) + (cntL d.route.marks : Nat)) 3 = 0))⟩⟩
instance mkRb : Mk Rb := ⟨fun d => 2 + cntL d.all, fun d k => ⟨(k), (decide (Int.tmod (k + 1) 3 = 0)), (mkL d.all (k + 2))⟩⟩
def mkTRb (d : Rb) (k : Int) : Rb := { d with all := mkL d.all (k) }
def cntTRb (d : Rb) : Nat := cntL d.all
instance mkDl : Mk Dl := ⟨fun d => 0 + cntL d.drop + cntL d.tell, fun d k => ⟨(mkL d.drop (k)), (mkL d.tell (k + (cntL d.drop : Nat)))⟩⟩
def mkTDl (d : Dl) (k : Int) : Dl := { d with drop := mkL d.drop (k), tell := mkL d.tell (k + (cntL d.drop : Nat)) }
def cntTDl (d : Dl) : Nat := cntL d.drop + cntL d.tell
instance mkEn : Mk En := ⟨fun _ => 3, fun _ k => ⟨⟨(k), (k + 1)⟩, (k + 2)⟩⟩

end Go.Proofs.YtlehcnfmagjilaaDoor
