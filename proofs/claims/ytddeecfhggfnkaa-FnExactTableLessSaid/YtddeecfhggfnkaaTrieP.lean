/- Tries: what they stand for, plain; and how they lie in memory. No condition. -/
import Derived.Test.YtddeecfhggfnkaaTab
namespace Go.Proofs.Ytddeecfhggfnkaa
open Go Go.RowKit

/-- Bit j of an address of eight bits, the first one first. -/
def bitB (x : Int) (j : Nat) : Bool := decide (x / 2 ^ (7 - j) % 2 = 1)
def pathOf (x : Int) : Nat → List Bool
  | 0 => []
  | n + 1 => pathOf x n ++ [bitB x n]
theorem pathOf_len (x : Int) : ∀ n, (pathOf x n).length = n
  | 0 => rfl
  | n + 1 => by simp [pathOf, pathOf_len x n]
theorem pathOf_eq {x y : Int} (hx : 0 ≤ x) (hx' : x ≤ 255) (hy : 0 ≤ y) (hy' : y ≤ 255) : ∀ n, n ≤ 8 → (pathOf x n = pathOf y n ↔ x / 2 ^ (8 - n) = y / 2 ^ (8 - n))
  | 0, _ => by simp [pathOf]; omega
  | n + 1, h => by
    have ih := pathOf_eq hx hx' hy hy' n (by omega)
    have e : (2 : Int) ^ (8 - n) = 2 ^ (7 - n) * 2 := by rw [show 8 - n = (7 - n) + 1 by omega, Int.pow_succ]
    rw [e, ← Int.ediv_ediv_of_nonneg (Int.pow_nonneg (by omega)), ← Int.ediv_ediv_of_nonneg (Int.pow_nonneg (by omega))] at ih
    have e2 : 8 - (n + 1) = 7 - n := by omega
    rw [e2]
    constructor
    · intro h1
      have h2 := List.append_inj' h1 rfl
      have h3 := ih.1 h2.1
      have h4 : bitB x n = bitB y n := by simpa using h2.2
      unfold bitB at h4
      rw [decide_eq_decide] at h4
      omega
    · intro h1
      have h2 := ih.2 (by rw [h1])
      simp only [pathOf, bitB, h1, h2]
theorem pathOf_cov {f b addr : Int} (h : rok f b = true) (h0 : 0 ≤ addr) (h1 : addr ≤ 255) : covB f b addr = true ↔ pathOf f b.toNat = pathOf addr b.toNat := by
  obtain ⟨b0, b8, f0, f1⟩ := rok_bd h
  rw [← cov_div h h0, pathOf_eq f0 f1 h0 h1 _ (by omega)]
  have e : rsz b = 2 ^ (8 - b.toNat) := by
    unfold rsz; rw [show (8 - b).toNat = 8 - b.toNat by omega]
  rw [e, beq_iff_eq]
  exact ⟨fun h => h.symm, fun h => h.symm⟩
theorem cov_same {f b f' addr : Int} (h : rok f b = true) (h' : rok f' b = true) (c : covB f b addr = true) (c' : covB f' b addr = true) : f = f' := by
  obtain ⟨h1, h2, h3, h4, h5⟩ := rok_true.1 h
  obtain ⟨_, _, g3, g4, g5⟩ := rok_true.1 h'
  simp only [covB, decide_eq_true_eq] at c c'
  rcases eight h1 h2 with rfl | rfl | rfl | rfl | rfl | rfl | rfl | rfl | rfl <;> simp [rsz] at * <;> omega

/-- r is the hop of an address: that of a covering entry with most bits; 0, if none covers. -/
def Hop (t : List En) (addr r : Int) : Prop :=
  (r = 0 ∧ ∀ e ∈ t, covB e.r.f e.r.b addr = false) ∨ ∃ d ∈ t, covB d.r.f d.r.b addr = true ∧ r = d.via ∧ ∀ e ∈ t, covB e.r.f e.r.b addr = true → e.r.b ≤ d.r.b
open Classical in
noncomputable def hop (t : List En) (addr : Int) : Int := if h : ∃ r, Hop t addr r then h.choose else 0

theorem rlt_irrefl (a : Rg) : rlt a a = false := by
  unfold rlt; rw [show rc a a = 0 by simp [rc, cmpI_eq, orL]]; rfl
theorem rlt_iff {a b : Rg} : rlt a b = true ↔ a.f < b.f ∨ (a.f = b.f ∧ a.b < b.b) := by
  unfold rlt rc cmpI orL orL orL
  rw [decide_eq_true_eq]
  repeat' split
  all_goals omega
theorem rlt_trans {a b c : Rg} (h : rlt a b = true) (h' : rlt b c = true) : rlt a c = true := by
  rw [rlt_iff] at *; omega
theorem tbl_asc {t : List En} (h : tbl t = true) : AscK enOk elt t t.length := by
  unfold tbl at h; rw [Bool.and_eq_true] at h; exact ascB_iff.1 h.1
theorem tbl_lts {t : List En} (h : tbl t = true) {i : Nat} {d : En} (hi : t[i]? = some d) : ∀ (n : Nat) {e : En}, t[i + 1 + n]? = some e → rlt d.r e.r = true
  | 0, e, he => (tbl_asc h).2 i d e (List.getElem?_eq_some_iff.1 he).1 hi he
  | n + 1, e, he => by
    have hl := (List.getElem?_eq_some_iff.1 he).1
    have hq : t[i + 1 + n]? = some (t[i + 1 + n]'(by omega)) := List.getElem?_eq_getElem (by omega)
    exact rlt_trans (tbl_lts h hi n hq) ((tbl_asc h).2 (i + 1 + n) _ _ hl hq he)
theorem tbl_same {t : List En} (h : tbl t = true) {d e : En} (hd : d ∈ t) (he : e ∈ t) (hr : d.r = e.r) : d = e := by
  obtain ⟨i, hi, rfl⟩ := List.mem_iff_getElem.1 hd
  obtain ⟨j, hj, rfl⟩ := List.mem_iff_getElem.1 he
  rcases Nat.lt_trichotomy i j with hij | rfl | hij
  · have := tbl_lts h (List.getElem?_eq_getElem hi) (j - i - 1) (e := t[j]) (by rw [show i + 1 + (j - i - 1) = j by omega]; exact List.getElem?_eq_getElem hj)
    rw [hr, rlt_irrefl] at this; cases this
  · rfl
  · have := tbl_lts h (List.getElem?_eq_getElem hj) (i - j - 1) (e := t[i]) (by rw [show j + 1 + (i - j - 1) = i by omega]; exact List.getElem?_eq_getElem hi)
    rw [hr, rlt_irrefl] at this; cases this
theorem tbl_ens {t : List En} (h : tbl t = true) {d : En} (hd : d ∈ t) : enOk d = true := by
  unfold tbl at h; rw [Bool.and_eq_true] at h; exact ascB_oks h.1 hd
theorem Hop.uniq {t : List En} {addr r r' : Int} (ht : tbl t = true) (h : Hop t addr r) (h' : Hop t addr r') : r = r' := by
  rcases h with ⟨rfl, hn⟩ | ⟨d, hd, hc, rfl, hm⟩ <;> rcases h' with ⟨rfl, hn'⟩ | ⟨d', hd', hc', rfl, hm'⟩
  · rfl
  · rw [hn d' hd'] at hc'; cases hc'
  · rw [hn' d hd] at hc; cases hc
  · have e : d.r.b = d'.r.b := Int.le_antisymm (hm' d hd hc) (hm d' hd' hc')
    have k := enOk_rok (tbl_ens ht hd)
    have k' := enOk_rok (tbl_ens ht hd')
    rw [← e] at k' hc'
    have f := cov_same k k' hc hc'
    have : d = d' := tbl_same ht hd hd' (by
      rcases d with ⟨⟨_, _⟩, _⟩
      rcases d' with ⟨⟨_, _⟩, _⟩
      simp only at e f
      subst e f
      rfl)
    rw [this]
theorem hop_eq {t : List En} {addr r : Int} (ht : tbl t = true) (h : Hop t addr r) : hop t addr = r := by
  unfold hop
  rw [dif_pos ⟨r, h⟩]
  exact Hop.uniq ht (Exists.choose_spec (⟨r, h⟩ : ∃ r, Hop t addr r)) h

/-- What stands at the places of a trie that holds the entries of t. -/
structure VRep (t : List En) (V : List Bool → Int) : Prop where
  some : ∀ p, V p ≠ 0 → ∃ e ∈ t, pathOf e.r.f e.r.b.toNat = p ∧ V p = e.via
  all : ∀ e ∈ t, V (pathOf e.r.f e.r.b.toNat) ≠ 0
def putV (V : List Bool → Int) (p : List Bool) (v : Int) : List Bool → Int := fun q => if q = p then v else V q
theorem VRep.nil : VRep [] fun _ => 0 := ⟨fun p h => absurd rfl h, fun e h => by cases h⟩
theorem VRep.snoc {t : List En} {V : List Bool → Int} (h : VRep t V) {e : En} (he : 1 ≤ e.via) : VRep (t ++ [e]) (putV V (pathOf e.r.f e.r.b.toNat) e.via) := by
  refine ⟨fun p hp => ?_, fun d hd => ?_⟩
  · unfold putV at hp ⊢
    by_cases hq : p = pathOf e.r.f e.r.b.toNat
    · rw [if_pos hq]; exact ⟨e, by simp, hq.symm, rfl⟩
    · rw [if_neg hq] at hp ⊢
      obtain ⟨d, hd, h1, h2⟩ := h.some p hp
      exact ⟨d, by simp [hd], h1, h2⟩
  · unfold putV
    split
    · omega
    · rcases List.mem_append.1 hd with hd | hd
      · exact h.all d hd
      · rename_i hne
        obtain rfl : d = e := by simpa using hd
        exact absurd rfl hne
/-- The last that is not 0 on the way of an address, of the first k places. -/
def LastK (V : List Bool → Int) (addr : Int) (k : Nat) (r : Int) : Prop :=
  (r = 0 ∧ ∀ j, j < k → V (pathOf addr j) = 0) ∨ ∃ j, j < k ∧ r = V (pathOf addr j) ∧ r ≠ 0 ∧ ∀ i, j < i → i < k → V (pathOf addr i) = 0
theorem LastK.zero (V : List Bool → Int) (addr : Int) : Hid (LastK V addr 0 0) := hidden (.inl ⟨rfl, fun _ hj => absurd hj (Nat.not_lt_zero _)⟩)
theorem LastK.more {V : List Bool → Int} {addr : Int} {k n : Nat} {r : Int} (h : LastK V addr k r) (hz : ∀ j, k ≤ j → j < n → V (pathOf addr j) = 0) (hk : k ≤ n) : LastK V addr n r := by
  rcases h with ⟨h1, h2⟩ | ⟨j, hj, h1, h2, h3⟩
  · exact .inl ⟨h1, fun j hj => if h : j < k then h2 j h else hz j (by omega) hj⟩
  · exact .inr ⟨j, by omega, h1, h2, fun i hi hn => if h : i < k then h3 i hi h else hz i (by omega) hn⟩
theorem LastK.skip {V : List Bool → Int} {addr : Int} {k : Nat} {r : Int} (h : LastK V addr k r) (hz : V (pathOf addr k) = 0) : Hid (LastK V addr (k + 1) r) :=
  hidden (h.more (fun j h1 h2 => by rw [show j = k by omega]; exact hz) (by omega))
theorem LastK.take {V : List Bool → Int} {addr : Int} {k : Nat} {r : Int} (hz : V (pathOf addr k) ≠ 0) (hr : r = V (pathOf addr k)) : Hid (LastK V addr (k + 1) r) :=
  hidden (.inr ⟨k, by omega, hr, by rw [hr]; exact hz, fun i h1 h2 => by omega⟩)
theorem LastK.hop {t : List En} {V : List Bool → Int} {addr r : Int} (ht : tbl t = true) (hv : VRep t V) (h0 : 0 ≤ addr) (h1 : addr ≤ 255) (h : LastK V addr 9 r) : hop t addr = r := by
  refine hop_eq ht ?_
  have cov : ∀ e ∈ t, covB e.r.f e.r.b addr = true → V (pathOf addr e.r.b.toNat) ≠ 0 := fun e he hc => by
    rw [← (pathOf_cov (enOk_rok (tbl_ens ht he)) h0 h1).1 hc]; exact hv.all e he
  rcases h with ⟨rfl, hz⟩ | ⟨j, hj, hr, hne, hz⟩
  · refine .inl ⟨rfl, fun e he => ?_⟩
    cases hc : covB e.r.f e.r.b addr
    · rfl
    · have := rok_bd (enOk_rok (tbl_ens ht he))
      exact absurd (hz _ (by omega)) (cov e he hc)
  · obtain ⟨d, hd, hp, hvd⟩ := hv.some _ (hr ▸ hne)
    have hb : d.r.b.toNat = j := by have := congrArg List.length hp; rwa [pathOf_len, pathOf_len] at this
    have bd := rok_bd (enOk_rok (tbl_ens ht hd))
    refine .inr ⟨d, hd, (pathOf_cov (enOk_rok (tbl_ens ht hd)) h0 h1).2 (by rw [hp, hb]), by rw [hr, hvd], fun e he hc => ?_⟩
    have be := rok_bd (enOk_rok (tbl_ens ht he))
    refine Int.not_lt.1 fun hlt => ?_
    exact cov e he hc (hz e.r.b.toNat (by omega) (by omega))

/-! In memory. -/
def ptrO (o : Option Nat) : Value := .pointer (o.map fun b => ⟨b, 0, none⟩)
structure Tri (ty : TypeId) (w0 w : World) (N : List Bool → Option Nat) (V : List Bool → Int) : Prop where
  blk : ∀ p b, N p = some b → Blk w b ty [.int .i64 (V p), ptrO (N (p ++ [false])), ptrO (N (p ++ [true]))]
  inj : ∀ p q b, N p = some b → N q = some b → p = q
  clos : ∀ p c, N p = none → N (p ++ [c]) = none
  zero : ∀ p, N p = none → V p = 0
  new : ∀ p b, N p = some b → w0.heap.size ≤ b
  wide : ∀ p, I64 (V p)
section
variable {ty : TypeId} {w0 w : World} {N : List Bool → Option Nat} {V : List Bool → Int}
theorem Tri.ext (h : Tri ty w0 w N V) {w' : World} (he : Ext w w') : Tri ty w0 w' N V :=
  ⟨fun p b hb => (h.blk p b hb).extends he, h.inj, h.clos, h.zero, h.new, h.wide⟩
theorem Tri.start (hw : w0.heap.size ≤ w.heap.size) : Tri ty w0 (w.alloc (.cells #[.int .i64 0, .pointer none, .pointer none] ty)) (fun p => if p = [] then some w.heap.size else none) (fun _ => 0) := by
  refine ⟨fun p b hb => ?_, fun p q b hp hq => ?_, fun p c hp => by simp, fun p _ => rfl, fun p b hp => ?_, fun p => by constructor <;> decide⟩
  · split at hb
    · obtain rfl := Option.some.inj hb
      have := Blk.new w #[.int .i64 0, .pointer none, .pointer none] ty
      simpa [ptrO] using this
    · cases hb
  · split at hp <;> split at hq <;> simp_all
  · split at hp
    · have := Option.some.inj hp; omega
    · cases hp
theorem snoc_inj {p q : List Bool} {c d : Bool} (h : p ++ [c] = q ++ [d]) : p = q ∧ c = d := by
  have := List.append_inj' h rfl
  exact ⟨this.1, by simpa using this.2⟩
theorem Tri.setVia (h : Tri ty w0 w N V) {p : List Bool} {b : Nat} (hb : N p = some b) {v : Int} (hv : I64 v) : Tri ty w0 (w.setCell ⟨b, 0, none⟩ (.int .i64 v)) N (putV V p v) := by
  refine ⟨fun q b' hq => ?_, h.inj, h.clos, fun q hq => ?_, h.new, fun q => ?_⟩
  · unfold putV
    by_cases hqp : q = p
    · subst hqp
      rw [if_pos rfl]
      obtain rfl : b = b' := by rw [hb] at hq; exact Option.some.inj hq
      exact (h.blk q b hb).set 0 _
    · rw [if_neg hqp]
      exact (h.blk q b' hq).setOther _ (fun e => hqp (h.inj q p b (by rw [hq]; exact congrArg some e) hb))
  · unfold putV
    rw [if_neg (fun e => by rw [e, hb] at hq; cases hq)]
    exact h.zero q hq
  · unfold putV; split
    · exact hv
    · exact h.wide q
def putN (N : List Bool → Option Nat) (p : List Bool) (b : Nat) : List Bool → Option Nat := fun q => if q = p then some b else N q
theorem Tri.child (h : Tri ty w0 w N V) (hw : w0.heap.size ≤ w.heap.size) {p : List Bool} {c : Bool} {b : Nat} (hb : N p = some b) (hc : N (p ++ [c]) = none) :
    Tri ty w0 ((w.alloc (.cells #[.int .i64 0, .pointer none, .pointer none] ty)).setCell ⟨b, 1 + c.toNat, none⟩ (.pointer (some ⟨w.heap.size, 0, none⟩))) (putN N (p ++ [c]) w.heap.size) V := by
  have lb : ∀ {q b'}, N q = some b' → b' < w.heap.size := fun hq => (h.blk _ _ hq).lt
  have hpc : p ≠ p ++ [c] := fun e => by have := congrArg List.length e; simp at this
  refine ⟨fun q b' hq => ?_, fun q r b' hq hr => ?_, fun q d hq => ?_, fun q hq => ?_, fun q b' hq => ?_, h.wide⟩
  · by_cases hqc : q = p ++ [c]
    · subst hqc
      have e : b' = w.heap.size := by simpa [putN] using hq.symm
      subst e
      have n1 : ∀ d, putN N (p ++ [c]) w.heap.size (p ++ [c] ++ [d]) = none := fun d => by
        unfold putN
        rw [if_neg (fun e => by have := congrArg List.length e; simp at this), h.clos _ _ hc]
      rw [n1, n1, h.zero _ hc]
      have := (Blk.new w #[.int .i64 0, .pointer none, .pointer none] ty).setOther (a := ⟨b, 1 + c.toNat, none⟩) (.pointer (some ⟨w.heap.size, 0, none⟩)) (by have := lb hb; simp; omega)
      simpa [ptrO] using this
    · have hq' : N q = some b' := by unfold putN at hq; rwa [if_neg hqc] at hq
      have B := (h.blk q b' hq').alloc (.cells #[.int .i64 0, .pointer none, .pointer none] ty)
      by_cases hqp : q = p
      · subst hqp
        obtain rfl : b = b' := by rw [hb] at hq'; exact Option.some.inj hq'
        have B2 := B.set (1 + c.toNat) (.pointer (some ⟨w.heap.size, 0, none⟩))
        cases c
        · have e1 : putN N (q ++ [false]) w.heap.size (q ++ [false]) = some w.heap.size := by simp [putN]
          have e2 : putN N (q ++ [false]) w.heap.size (q ++ [true]) = N (q ++ [true]) := by simp [putN]
          rw [e1, e2]; simpa [ptrO] using B2
        · have e1 : putN N (q ++ [true]) w.heap.size (q ++ [true]) = some w.heap.size := by simp [putN]
          have e2 : putN N (q ++ [true]) w.heap.size (q ++ [false]) = N (q ++ [false]) := by simp [putN]
          rw [e1, e2]; simpa [ptrO] using B2
      · have e1 : ∀ d, putN N (p ++ [c]) w.heap.size (q ++ [d]) = N (q ++ [d]) := fun d => by
          unfold putN; rw [if_neg (fun e => hqp (snoc_inj e).1)]
        rw [e1, e1]
        exact B.setOther _ (fun e => hqp (h.inj q p b (by rw [hq']; exact congrArg some e) hb))
  · unfold putN at hq hr
    split at hq <;> split at hr
    · simp_all
    · obtain rfl := Option.some.inj hq; have := lb hr; omega
    · obtain rfl := Option.some.inj hr; have := lb hq; omega
    · exact h.inj q r b' hq hr
  · unfold putN at hq ⊢
    split at hq
    · cases hq
    · rename_i hne
      by_cases hqp : q = p
      · subst hqp; rw [hb] at hq; cases hq
      · rw [if_neg (fun e => hqp (snoc_inj e).1)]; exact h.clos q d hq
  · unfold putN at hq
    split at hq
    · cases hq
    · exact h.zero q hq
  · unfold putN at hq
    split at hq
    · obtain rfl := Option.some.inj hq; exact hw
    · exact h.new q b' hq
theorem Tri.down (h : Tri ty w0 w N V) (addr : Int) {k : Nat} (hk : N (pathOf addr k) = none) : ∀ j, k ≤ j → N (pathOf addr j) = none := by
  intro j hj
  induction j with
  | zero => obtain rfl : k = 0 := by omega
            exact hk
  | succ j ih =>
    by_cases e : k = j + 1
    · subst e; exact hk
    · exact h.clos _ _ (ih (by omega))
end

end Go.Proofs.Ytddeecfhggfnkaa
