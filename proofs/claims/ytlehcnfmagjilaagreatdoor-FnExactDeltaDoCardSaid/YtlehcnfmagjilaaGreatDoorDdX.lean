/- Doing an update: what lies in memory, and what the reference does. No condition. -/
import Derived.Test.YtlehcnfmagjilaaGreatDoorCmpR
import Derived.Test.YtlehcnfmagjilaaGreatDoorRcP
import Derived.Test.YtlehcnfmagjilaaGreatDoorBin
import Derived.Test.YtlehcnfmagjilaaGreatDoorPush
import Derived.Test.YtlehcnfmagjilaaGreatDoorRmk
import Derived.Test.YtlehcnfmagjilaaGreatDoorTdropE
import Derived.Test.YtlehcnfmagjilaaGreatDoorFloat
import Derived.Test.YtlehcnfmagjilaaGreatDoorRdP
import Derived.Test.YtlehcnfmagjilaaGreatDoorSeqM
namespace Go.Proofs.YtlehcnfmagjilaaGreatDoor
open Go Go.RowKit

theorem lexC_zero2 : ∀ {l m : List Int}, lexC l m = 0 → l = m
  | [], [], _ => rfl
  | [], _ :: _, h => by simp [lexC] at h
  | _ :: _, [], h => by simp [lexC] at h
  | x :: a, y :: b, h => by
    rw [lexC] at h
    split at h
    · omega
    · split at h
      · omega
      · rw [lexC_zero2 h, show x = y by omega]
theorem lexC_self2 : ∀ (l : List Int), lexC l l = 0
  | [] => rfl
  | x :: a => by rw [lexC, if_neg (by omega), if_neg (by omega), lexC_self2 a]
theorem pcmp_zero2 {l m : List Int} : pcmp l m = 0 ↔ l = m := by
  constructor
  · intro h
    unfold pcmp at h
    simp only [orL] at h
    split at h
    · split at h
      · exact lexC_zero2 (by assumption)
      · exact absurd h (by assumption)
    · exact absurd h (by assumption)
  · rintro rfl
    unfold pcmp
    rw [cmpI_eq]
    simp [orL, lexC_self2]
theorem cmpI_zero {a b : Int} : cmpI a b = 0 ↔ a = b := by
  unfold cmpI
  repeat' split
  all_goals omega
theorem rtC_zero {d e : Rt} : rtC d e = 0 ↔ d = e := by
  rw [Rt_eq]
  constructor
  · intro h
    unfold rtC at h
    simp only [orL] at h
    repeat' split at h
    all_goals first
      | (exfalso; contradiction)
      | (rename_i h1 h2 h3 h4
         exact ⟨rc_zero.1 h3, pcmp_zero2.1 h2, (cmpI_zero.1 h1).symm, pcmp_zero2.1 h4⟩)
      | (rename_i h1 h2 h3
         exact ⟨rc_zero.1 h3, pcmp_zero2.1 h2, (cmpI_zero.1 h1).symm, pcmp_zero2.1 h⟩)
  · rintro ⟨h1, h2, h3, h4⟩
    have h1' := rc_zero.2 h1
    have h2' := pcmp_zero2.2 h2
    have h4' := pcmp_zero2.2 h4
    unfold rtC
    rw [h3, cmpI_eq, h2', h1', h4']
    simp [orL]

def rtR (x : Rg) (d : Rt) : Bool := decide (d.r = x)
section
variable {t : List Rt} {e : Rt} {r : Rg}
/-- Strictly ascending: any two. -/
def SortedT (t : List Rt) : Prop := ∀ (i j : Nat) (d d' : Rt), i < j → t[i]? = some d → t[j]? = some d' → rc d.r d'.r < 0
theorem rts_sortedK {k : Nat} (h : AscK rtOk rtLt t k) : ∀ (j i : Nat) (d d' : Rt), i < j → j < k → t[i]? = some d → t[j]? = some d' → rc d.r d'.r < 0
  | 0, i, _, _, hi, _, _, _ => by omega
  | j + 1, i, d, d', hi, hj, hd, hd' => by
    obtain ⟨p, hp⟩ : ∃ p, t[j]? = some p := ⟨_, List.getElem?_eq_getElem (by have := (List.getElem?_eq_some_iff.1 hd').1; omega)⟩
    have h1 : rc p.r d'.r < 0 := by simpa [rtLt, rlt] using h.2 j p d' hj hp hd'
    by_cases hij : i = j
    · subst hij; rw [hp] at hd; obtain rfl := Option.some.inj hd; exact h1
    · exact rc_trans (rts_sortedK h j i d p (by omega) (by omega) hd hp) h1
theorem rts_asc (h : rtsOk t = true) : AscK rtOk rtLt t t.length := by
  unfold rtsOk at h
  simp only [Bool.and_eq_true] at h
  exact ascB_iff.1 h.1
theorem rts_sorted (h : rtsOk t = true) : SortedT t := fun i j d d' hi hd hd' => rts_sortedK (rts_asc h) j i d d' hi (List.getElem?_eq_some_iff.1 hd').1 hd hd'
theorem rts_le (h : rtsOk t = true) : t.length ≤ 12 := by
  unfold rtsOk at h
  simp only [Bool.and_eq_true, decide_eq_true_eq] at h
  exact h.2
theorem rts_rt (h : rtsOk t = true) {d : Rt} (hd : d ∈ t) : rtOk d = true := by
  obtain ⟨i, hi, rfl⟩ := List.mem_iff_getElem.1 hd
  exact (rts_asc h).1 i _ hi (List.getElem?_eq_getElem hi)
theorem sortedT_mono (h : SortedT t) (r : Rg) : MonoC (fun d => rc d.r r) t := fun i j d e hij hd he hn => rc_trans (h i j d e hij hd he) hn
theorem SortedT.tail {d : Rt} (h : SortedT (d :: t)) : SortedT t := fun i j a b hij ha hb => h (i + 1) (j + 1) a b (by omega) (by simpa using ha) (by simpa using hb)
theorem SortedT.head {d d' : Rt} (h : SortedT (d :: t)) (hd : d' ∈ t) : rc d.r d'.r < 0 := by
  obtain ⟨i, hi, rfl⟩ := List.mem_iff_getElem.1 hd
  exact h 0 (i + 1) d _ (by omega) rfl (by simp)
theorem SortedT.inj (h : SortedT t) {i j : Nat} {d d' : Rt} (hd : t[i]? = some d) (hd' : t[j]? = some d') (he : d.r = d'.r) : i = j := by
  rcases Nat.lt_trichotomy i j with k | k | k
  · have := h i j d d' k hd hd'; rw [he, rc_zero.2 rfl] at this; omega
  · exact k
  · have := h j i d' d k hd' hd; rw [he, rc_zero.2 rfl] at this; omega
/-- Where a range stands: the search in the order, and the search one by one. -/
theorem atT (h : SortedT t) (r : Rg) : atC (fun d => rc d.r r) t = t.any (rtR r) ∧ (t.any (rtR r) = true → findI (rtR r) t = (posC (fun d => rc d.r r) t : Int)) := by
  induction t with
  | nil => exact ⟨rfl, fun h => by cases h⟩
  | cons d t ih =>
    obtain ⟨i1, i2⟩ := ih h.tail
    by_cases h1 : rc d.r r < 0
    · have hne : ¬ d.r = r := fun e => by rw [← rc_zero] at e; omega
      have e1 : posC (fun x : Rt => rc x.r r) (d :: t) = posC (fun x : Rt => rc x.r r) t + 1 := by simp [posC, h1]
      have e2 : atC (fun x : Rt => rc x.r r) (d :: t) = atC (fun x : Rt => rc x.r r) t := by unfold atC; rw [e1]; simp
      have e3 : (d :: t).any (rtR r) = t.any (rtR r) := by simp [rtR, hne]
      rw [e1, e2, e3]
      refine ⟨i1, fun hh => ?_⟩
      obtain ⟨k, g, hk, hg, hp⟩ : ∃ (k : Nat) (g : Rt), findI (rtR r) t = (k : Int) ∧ t[k]? = some g ∧ (t.take k).any (rtR r) = false ∧ rtR r g = true := by
        have hlt : t.findIdx (rtR r) < t.length := List.findIdx_lt_length.2 (List.any_eq_true.1 hh)
        refine ⟨t.findIdx (rtR r), t[t.findIdx (rtR r)], by unfold findI; rw [if_pos hh], List.getElem?_eq_getElem hlt, ?_, List.findIdx_getElem⟩
        rw [List.any_eq_false]
        intro x hx
        obtain ⟨j, hj, rfl⟩ := List.mem_take_iff_getElem.1 hx
        have := List.not_of_lt_findIdx (show j < t.findIdx (rtR r) by omega)
        simpa using this
      have hf : findI (rtR r) (d :: t) = ((k + 1 : Nat) : Int) := findI_at (d := g) (by simp [rtR, hne, hp.1]) (by simpa using hg) hp.2
      rw [hf]
      have := i2 hh
      omega
    · have e1 : posC (fun x : Rt => rc x.r r) (d :: t) = 0 := by simp [posC, h1]
      have e2 : atC (fun x : Rt => rc x.r r) (d :: t) = (rc d.r r == 0) := by unfold atC; rw [e1]; simp
      rw [e1, e2]
      by_cases h3 : rc d.r r = 0
      · have hq : d.r = r := rc_zero.1 h3
        refine ⟨by rw [h3]; simp [rtR, hq], fun _ => findI_at (k := 0) (d := d) rfl rfl (by simp [rtR, hq])⟩
      · have hq : ¬ d.r = r := fun e => h3 (rc_zero.2 e)
        have hno : t.any (rtR r) = false := by
          rw [List.any_eq_false]
          intro x hx hc
          have h4 := h.head hx
          rw [of_decide_eq_true hc] at h4
          exact h1 h4
        refine ⟨by simp [rtR, h3, hq, hno], fun hh => ?_⟩
        simp [rtR, hq] at hh
        obtain ⟨x, hx, hxr⟩ := hh
        have := List.any_eq_false.1 hno x hx
        simp [rtR, hxr] at this
end

/-- The update from one route list to another one. -/
def dropQ (b : List Rt) (r : Rt) : Option Rg := if b.any (rtR r.r) = true then none else some r.r
def tellQ (a : List Rt) (r : Rt) : Option Rt := if a.any (fun d => decide (d = r)) = true then none else some r
noncomputable def deltaOf (a b : List Rt) : Dl := if (rtsOk a && rtsOk b) = true then ⟨a.filterMap (dropQ b), b.filterMap (tellQ a)⟩ else ⟨[], []⟩
section
variable {a b : List Rt} {r d : Rt} {k : Nat}
theorem deltaOf_yes (h : rtsOk a = true) (h' : rtsOk b = true) : deltaOf a b = ⟨a.filterMap (dropQ b), b.filterMap (tellQ a)⟩ := by unfold deltaOf; rw [h, h']; rfl
theorem deltaOf_no (h : (rtsOk a && rtsOk b) = false) : deltaOf a b = ⟨[], []⟩ := by unfold deltaOf; rw [h]; rfl
theorem dropQ_no (h : b.any (rtR r.r) = true) : dropQ b r = none := by unfold dropQ; rw [if_pos h]
theorem dropQ_yes (h : b.any (rtR r.r) = false) : dropQ b r = some r.r := by unfold dropQ; rw [h]; rfl
theorem tellQ_new (h : a.any (rtR r.r) = false) : tellQ a r = some r := by
  unfold tellQ
  rw [if_neg]
  intro hh
  obtain ⟨x, hx, hq⟩ := List.any_eq_true.1 hh
  have := List.any_eq_false.1 h x hx
  rw [of_decide_eq_true hq] at this
  simp [rtR] at this
theorem tellQ_at (h : SortedT a) (hd : a[k]? = some d) (hr : d.r = r.r) : tellQ a r = if d = r then none else some r := by
  unfold tellQ
  by_cases hq : d = r
  · rw [if_pos hq, if_pos]
    exact any_at hd (decide_eq_true hq)
  · rw [if_neg hq, if_neg]
    intro hh
    obtain ⟨x, hx, hq2⟩ := List.any_eq_true.1 hh
    obtain ⟨i, hi, rfl⟩ := List.mem_iff_getElem.1 hx
    have hxr := of_decide_eq_true hq2
    have e := h.inj (List.getElem?_eq_getElem hi) hd (by rw [hxr, hr])
    subst e
    rw [List.getElem?_eq_getElem hi] at hd
    exact hq ((Option.some.inj hd).symm.trans hxr)
end

section
variable {α : Type} [Lay α] [Ow α] {N M : Nat} {e : TypeId} {w w' : World} {v : Value} {l : List α} {fps : List (List Nat)}
theorem AccF.toO [FlO α] (h : AccF N e w v l) : AccO N e w v l (l.map fun _ => []) := by
  obtain ⟨xs, h1, h2⟩ := h
  have hz : (l.map fun _ => ([] : List Nat)).flatten = [] := by simp
  refine ⟨xs, h1, ⟨h2.1, by simp, fun i d f hd hf => ?_⟩, by rw [hz]; simp, by rw [hz]; simp⟩
  obtain ⟨ys, z1, z2, z3⟩ := h2.2 i d hd
  obtain rfl : f = [] := by
    rw [List.getElem?_map, hd] at hf; exact (Option.some.inj hf).symm
  exact ⟨ys, z1, z2, FlO.own z3⟩
theorem AccO.toF (h : AccO N e w v l fps) : AccF N e w v l := by
  obtain ⟨xs, h1, h2, _⟩ := h
  exact ⟨xs, h1, h2.rd⟩
theorem AccO.owns [OneC α] {a : Option Addr} {n c : Nat} (h : AccO N e w (.slice a n c) l fps) : ∃ fp, OwSl w a n c l fp ∧ fp.Nodup ∧ ∀ b ∈ fp, (Value.slice a n c).ownBlock = some b ∨ b ∈ fps.flatten := by
  obtain ⟨xs, h1, h2, h3, h4⟩ := h
  obtain ⟨a', cap, e1, hlc, hcm, ha, _⟩ := ownsRow_shape h1
  simp only [Value.slice.injEq] at e1
  obtain ⟨rfl, rfl, rfl⟩ := e1
  rcases Nat.eq_zero_or_pos l.length with h0 | h0
  · obtain rfl := List.eq_nil_of_length_eq_zero h0
    exact ⟨[], ⟨rfl, hlc, hcm, ha, .inl ⟨rfl, rfl⟩⟩, by simp, by simp⟩
  · obtain ⟨g, cur, rfl, hb, hl, ht⟩ := ownsRow_cur h1 h0
    refine ⟨g :: fps.flatten, ⟨rfl, hlc, hcm, (fun h => by cases h), .inr ⟨g, e, cur, fps, rfl, hb, hl, h2.2.1, rfl, fun i d f hd hf => ?_⟩⟩, ?_, ?_⟩
    · obtain ⟨ys, z1, z2, z3⟩ := h2.2.2 i d f hd hf
      refine ⟨ys, z1, fun t u hu => ?_, z3⟩
      have := z2 t u hu
      rw [← ht, List.getElem?_take] at this
      split at this
      · exact this
      · cases this
    · exact List.nodup_cons.2 ⟨fun hg => h4 g hg rfl, h3⟩
    · intro b hb
      rcases List.mem_cons.1 hb with rfl | hb
      · exact .inl rfl
      · exact .inr hb
end

/-- The two lists of an update that grows, apart from each other and from block X. -/
def DS (N X : Nat) (w : World) (v1 v2 : Value) (L1 : List Rg) (L2 : List Rt) : Prop :=
  AccF N 38 w v1 L1 ∧ (∀ b, v1.ownBlock = some b → b ≠ X) ∧ ∃ fps, AccO N 40 w v2 L2 fps ∧ (∀ b, v2.ownBlock = some b → b ≠ X) ∧ (∀ b ∈ fps.flatten, N ≤ b ∧ b ≠ X) ∧ ∀ g, v1.ownBlock = some g → v2.ownBlock ≠ some g ∧ g ∉ fps.flatten
section
variable {N X : Nat} {w w' w0 : World} {v1 v2 v : Value} {L1 : List Rg} {L2 : List Rt}
theorem DS.ext (h : DS N X w v1 v2 L1 L2) (k : Ext w w') : DS N X w' v1 v2 L1 L2 := by
  obtain ⟨h1, h2, fps, h3, h4⟩ := h
  exact ⟨h1.ext k, h2, fps, h3.ext k, h4⟩
theorem DS.setX (h : DS N X w v1 v2 L1 L2) (o : Nat) (u : Value) : DS N X (w.setCell ⟨X, o, none⟩ u) v1 v2 L1 L2 := by
  obtain ⟨h1, h2, fps, h3, h4, h5, h6⟩ := h
  exact ⟨h1.setNe (fun e => h2 _ e rfl) u, h2, fps, h3.setNe (fun e => h4 _ e rfl) (fun hm => (h5 _ hm).2 rfl) u, h4, h5, h6⟩
theorem DS.setLow (h : DS N X w v1 v2 L1 L2) {B : Nat} (hB : B < N) (o : Nat) (u : Value) : DS N X (w.setCell ⟨B, o, none⟩ u) v1 v2 L1 L2 := by
  obtain ⟨h1, h2, fps, h3, h4, h5, h6⟩ := h
  exact ⟨h1.setNe (fun e => by have := (h1.low _ e).1; omega) u, h2, fps, h3.setNe (fun e => by have := (h3.low _ e).1; omega) (fun hm => by have := (h5 _ hm).1; omega) u, h4, h5, h6⟩
theorem DS.base {M : Nat} (h : DS N X w v1 v2 L1 L2) (hM : M ≤ N) : DS M X w v1 v2 L1 L2 := by
  obtain ⟨h1, h2, fps, h3, h4, h5, h6⟩ := h
  exact ⟨h1.base hM, h2, fps, h3.base hM, h4, fun b hb => ⟨Nat.le_trans hM (h5 b hb).1, (h5 b hb).2⟩, h6⟩
theorem DS.lt1 (h : DS N X w v1 v2 L1 L2) : ∀ b, v1.ownBlock = some b → N ≤ b ∧ b < w.heap.size := h.1.low
theorem DS.lt2 (h : DS N X w v1 v2 L1 L2) : ∀ b, v2.ownBlock = some b → N ≤ b ∧ b < w.heap.size := by
  obtain ⟨h1, h2, fps, h3, _⟩ := h
  exact h3.low
theorem DS.shape1 (h : DS N X w v1 v2 L1 L2) : ∃ a n c, v1 = .slice a n c := h.1.shapeL
theorem DS.shape2 (h : DS N X w v1 v2 L1 L2) : ∃ a n c, v2 = .slice a n c := by
  obtain ⟨h1, h2, fps, h3, _⟩ := h
  exact h3.shapeL
theorem DS.push1 {d : Rg} {fqs : List (List Nat)} (h : DS N X w v1 v2 L1 L2) (hX : X < w.heap.size) (hA : AccO N 38 w' v (L1 ++ [d]) fqs) (hg : w.grownBy w' v1.ownBlock) (hv : v.ownBlock = v1.ownBlock ∨ v.ownBlock = some w.heap.size) : DS N X w' v v2 (L1 ++ [d]) L2 := by
  obtain ⟨h1, h2, fps, h3, h4, h5, h6⟩ := h
  refine ⟨hA.toF, fun b hb => ?_, fps, h3.kept hg h6, h4, h5, fun g hg' => ?_⟩
  · rcases hv with e | e
    · exact h2 b (e ▸ hb)
    · rw [e] at hb; have := Option.some.inj hb; omega
  · rcases hv with e | e
    · exact h6 g (e ▸ hg')
    · rw [e] at hg'
      have hgw := Option.some.inj hg'
      exact ⟨fun e2 => by have := (h3.low g e2).2; omega, fun hm => by have := h3.fresh_lt g hm; omega⟩
theorem DS.push2 {d : Rt} {f : List Nat} {fps : List (List Nat)} (h1 : AccF N 38 w v1 L1) (h2 : ∀ b, v1.ownBlock = some b → b ≠ X) (_h3 : AccO N 40 w v2 L2 fps) (h4 : ∀ b, v2.ownBlock = some b → b ≠ X) (h5 : ∀ b ∈ fps.flatten, N ≤ b ∧ b ≠ X) (h6 : ∀ g, v1.ownBlock = some g → v2.ownBlock ≠ some g ∧ g ∉ fps.flatten)
    (hX : X < w.heap.size) (hA : AccO N 40 w' v (L2 ++ [d]) (fps ++ [f])) (hg : w.grownBy w' v2.ownBlock) (hv : v.ownBlock = v2.ownBlock ∨ v.ownBlock = some w.heap.size) (hf : ∀ b ∈ f, N ≤ b ∧ b ≠ X ∧ v1.ownBlock ≠ some b) : DS N X w' v1 v (L1) (L2 ++ [d]) := by
  refine ⟨h1.kept hg (fun b e e2 => (h6 b e2).1 e), h2, fps ++ [f], hA, fun b hb => ?_, fun b hb => ?_, fun g hg' => ⟨fun e => ?_, fun hm => ?_⟩⟩
  · rcases hv with e | e
    · exact h4 b (e ▸ hb)
    · rw [e] at hb; have := Option.some.inj hb; omega
  · rw [flatten_snoc] at hb
    rcases List.mem_append.1 hb with hb | hb
    · exact h5 b hb
    · exact ⟨(hf b hb).1, (hf b hb).2.1⟩
  · rcases hv with e' | e'
    · exact (h6 g hg').1 (e' ▸ e)
    · rw [e'] at e; have := Option.some.inj e; have := (h1.low g hg').2; omega
  · rw [flatten_snoc] at hm
    rcases List.mem_append.1 hm with hm | hm
    · exact (h6 g hg').2 hm
    · exact (hf g hm).2.2 hg'
theorem DS.fin {a1 a2 : Option Addr} {n1 c1 n2 c2 : Nat} {d : Dl} (h : DS N X w (.slice a1 n1 c1) (.slice a2 n2 c2) d.drop d.tell) (hE : Ext w0 w) (hN : w0.heap.size ≤ N) : ∃ x, w = Go.Proofs.YtlehcnfmagjilaaGreatDoor.ext w0 x ∧ Hid (Fresh w0 (Go.Proofs.YtlehcnfmagjilaaGreatDoor.ext w0 x) [.slice a1 n1 c1, .slice a2 n2 c2] d) := by
  obtain ⟨h1, h2, fps, h3, h4, h5, h6⟩ := h
  obtain ⟨fp1, o1, nd1, b1⟩ := h1.toO.owns
  obtain ⟨fp2, o2, nd2, b2⟩ := h3.owns
  have b1' : ∀ b ∈ fp1, (Value.slice a1 n1 c1).ownBlock = some b := fun b hb => by
    rcases b1 b hb with e | e
    · exact e
    · have hz : (d.drop.map fun _ => ([] : List Nat)).flatten = [] := by simp
      rw [hz] at e
      cases e
  have hl1 : ∀ b ∈ fp1, w0.heap.size ≤ b := fun b hb => Nat.le_trans hN (h1.low b (b1' b hb)).1
  have hl2 : ∀ b ∈ fp2, w0.heap.size ≤ b := fun b hb => by
    rcases b2 b hb with e | e
    · exact Nat.le_trans hN (h3.low b e).1
    · exact Nat.le_trans hN (h5 b e).1
  have hfr : Fresh w0 w [.slice a1 n1 c1, .slice a2 n2 c2] d := by
    refine ⟨hE, fp1 ++ fp2, ⟨_, _, _, _, _, _, fp1, fp2, rfl, o1, o2, rfl⟩, ?_, fun b hb => ?_⟩
    · refine List.nodup_append.2 ⟨nd1, nd2, fun x hx y hy e => ?_⟩
      subst e
      rcases b2 x hy with e | e
      · exact (h6 x (b1' x hx)).1 e
      · exact (h6 x (b1' x hx)).2 e
    · rcases List.mem_append.1 hb with hb | hb
      · exact hl1 b hb
      · exact hl2 b hb
  obtain ⟨x, rfl⟩ := hE
  exact ⟨x, rfl, hfr⟩
end

set_option maxHeartbeats 2000000 in
theorem l23At_any (a : Option Addr) (len cap : Nat) (t : List Rt) (r : Rg) (w : World) (h : SlRd w a len cap t) :
    Calls Tryz.prog 52 #[.slice a len cap, .agg #[.int .i64 r.f, .int .i64 r.b]] w fun e w' => e = .returned (.int .i64 (findI (rtR r) t)) ∧ Ext w w' := by
  have hm := h.2.2.1
  have hlc := h.2.1
  have HL := hidden h.1
  unfold maxLen at hm
  go_enter Tryz.func52, Tryz.ntmps52
  go_wp2_with fail
  obtain ⟨W, hW⟩ : ∃ W, W = w.alloc (.cells #[.int .i64 r.f, .int .i64 r.b] 38) := ⟨_, rfl⟩
  have hE0 : Ext w W := by rw [hW]; exact (by repeat (first | with_reducible exact Ext.refl _ | with_reducible apply Ext.and | with_reducible apply Ext.drewx | with_reducible apply Ext.alloc | with_reducible apply Ext.ext | with_reducible apply Ext.drew | with_reducible refine Ext.setCell ?_ (by simp) _))
  have x0 : W.cell? ⟨w.heap.size, 0, none⟩ = some (.int .i64 r.f) := by rw [hW]; go_simp
  have x1 : W.cell? ⟨w.heap.size, 1, none⟩ = some (.int .i64 r.b) := by rw [hW]; go_simp
  rw [← hW]
  clear hW
  go_loopw [5] (fun i wr => ∃ k : Nat, k ≤ len ∧ i = .int .i64 k ∧ Ext W wr ∧ Hid ((t.take k).any (rtR r) = false)) (fun i _ => len - (intOf i).toNat)
  case atStart => exact ⟨0, Nat.zero_le _, rfl, Ext.refl _, rfl⟩
  case round =>
    obtain ⟨k, hk, rfl, hE1, HT⟩ := hrel
    have hE := hE0.trans hE1
    have y0 := (hE1.below.cell (p := ⟨w.heap.size, 0, none⟩) (cell_lt x0)).trans x0
    have y1 := (hE1.below.cell (p := ⟨w.heap.size, 1, none⟩) (cell_lt x1)).trans x1
    have ly := cell_lt y0
    clear x0 x1
    by_cases hlt : k < len
    · obtain ⟨d, dhd, db, doff, dys, rfl, dhys, dhcell, dhrd⟩ := h.at hE hlt
      obtain ⟨da_path, dn_path, dc_path, da_marks, dn_marks, dc_marks, rfl, dg0, dg1, dg2, dg3, dg4⟩ := dhrd
      have dc0 : wr.cell? ⟨db, doff + k * 5, none⟩ = some _ := dhcell 0 _ rfl
      have dc1 : wr.cell? ⟨db, doff + k * 5 + 1, none⟩ = some _ := dhcell 1 _ rfl
      have dc2 : wr.cell? ⟨db, doff + k * 5 + 2, none⟩ = some _ := dhcell 2 _ rfl
      have dc3 : wr.cell? ⟨db, doff + k * 5 + 3, none⟩ = some _ := dhcell 3 _ rfl
      have dc4 : wr.cell? ⟨db, doff + k * 5 + 4, none⟩ = some _ := dhcell 4 _ rfl
      have dlb := cell_lt dc0
      have dHD := hidden dhd
      clear dhcell dhys dhd
      by_cases hq : d.r = r
      · have HQ := hidden hq
        have hne : ∀ w', (binOp .eql 38 (.agg #[.int .i64 d.r.f, .int .i64 d.r.b]) (.agg #[.int .i64 r.f, .int .i64 r.b])).run Tryz.prog w' = .ok (.bool true) w' := fun w' => (eqS_Rg d.r r w').trans (by rw [HQ.out]; simp)
        clear hq
        go_wp2_with (first | ((first | with_reducible refine wp_region_qe (by kernel_rfl) (by kernel_rfl) ?_ | with_reducible refine wp_region_q (by kernel_rfl) (by kernel_rfl) ?_); (repeat' (first | go_big_quiet_step (fail) | (refine wpQuiet_split rfl rfl rfl rfl (fun hsp => ?_) (fun hsp => ?_); ((fail_if_success (cases hsp; done)); simp only [hsp]; (try first | have hsq : _ < _ := of_decide_eq_true hsp | have hsq : _ ≤ _ := of_decide_eq_true hsp | have hsq : ¬ _ < _ := of_decide_eq_false hsp | have hsq : ¬ _ ≤ _ := of_decide_eq_false hsp)); rotate_left; ((fail_if_success (cases hsp; done)); simp only [hsp]; (try first | have hsq : _ < _ := of_decide_eq_true hsp | have hsq : _ ≤ _ := of_decide_eq_true hsp | have hsq : ¬ _ < _ := of_decide_eq_false hsp | have hsq : ¬ _ ≤ _ := of_decide_eq_false hsp))))); (all_goals (refine wpQuiet_nil ?_; intro x))))
        go_ret
        exact ⟨ret_int (findI_at HT.out dHD.out (by simp [rtR, HQ.out])).symm, (by first | exact hE | exact hE.ext _ | exact hE.trans (by repeat (first | with_reducible exact Ext.refl _ | with_reducible apply Ext.and | with_reducible apply Ext.drewx | with_reducible apply Ext.alloc | with_reducible apply Ext.ext | with_reducible apply Ext.drew | with_reducible refine Ext.setCell ?_ (by simp) _)))⟩
      · have HQ := hidden hq
        have hne : ∀ w', (binOp .eql 38 (.agg #[.int .i64 d.r.f, .int .i64 d.r.b]) (.agg #[.int .i64 r.f, .int .i64 r.b])).run Tryz.prog w' = .ok (.bool false) w' := fun w' => (eqS_Rg d.r r w').trans (by simp [HQ.out])
        clear hq
        go_wp2_with (first | ((first | with_reducible refine wp_region_qe (by kernel_rfl) (by kernel_rfl) ?_ | with_reducible refine wp_region_q (by kernel_rfl) (by kernel_rfl) ?_); (repeat' (first | go_big_quiet_step (fail) | (refine wpQuiet_split rfl rfl rfl rfl (fun hsp => ?_) (fun hsp => ?_); ((fail_if_success (cases hsp; done)); simp only [hsp]; (try first | have hsq : _ < _ := of_decide_eq_true hsp | have hsq : _ ≤ _ := of_decide_eq_true hsp | have hsq : ¬ _ < _ := of_decide_eq_false hsp | have hsq : ¬ _ ≤ _ := of_decide_eq_false hsp)); rotate_left; ((fail_if_success (cases hsp; done)); simp only [hsp]; (try first | have hsq : _ < _ := of_decide_eq_true hsp | have hsq : _ ≤ _ := of_decide_eq_true hsp | have hsq : ¬ _ < _ := of_decide_eq_false hsp | have hsq : ¬ _ ≤ _ := of_decide_eq_false hsp))))); (all_goals (refine wpQuiet_nil ?_; intro x))))
        go_roundw
        case rel => exact ⟨k + 1, by omega, by go_num, hE1.trans (by repeat (first | with_reducible exact Ext.refl _ | with_reducible apply Ext.and | with_reducible apply Ext.drewx | with_reducible apply Ext.alloc | with_reducible apply Ext.ext | with_reducible apply Ext.drew | with_reducible refine Ext.setCell ?_ (by simp) _)), any_succ HT.out dHD.out (by simp [rtR, HQ.out])⟩
        case measure => simp [intOf]; omega
    · obtain rfl : k = len := by omega
      go_wp2_with (first | ((first | with_reducible refine wp_region_qe (by kernel_rfl) (by kernel_rfl) ?_ | with_reducible refine wp_region_q (by kernel_rfl) (by kernel_rfl) ?_); (repeat' (first | go_big_quiet_step (fail) | (refine wpQuiet_split rfl rfl rfl rfl (fun hsp => ?_) (fun hsp => ?_); ((fail_if_success (cases hsp; done)); simp only [hsp]; (try first | have hsq : _ < _ := of_decide_eq_true hsp | have hsq : _ ≤ _ := of_decide_eq_true hsp | have hsq : ¬ _ < _ := of_decide_eq_false hsp | have hsq : ¬ _ ≤ _ := of_decide_eq_false hsp)); rotate_left; ((fail_if_success (cases hsp; done)); simp only [hsp]; (try first | have hsq : _ < _ := of_decide_eq_true hsp | have hsq : _ ≤ _ := of_decide_eq_true hsp | have hsq : ¬ _ < _ := of_decide_eq_false hsp | have hsq : ¬ _ ≤ _ := of_decide_eq_false hsp))))); (all_goals (refine wpQuiet_nil ?_; intro x))))
      go_ret
      exact ⟨ret_int (by have := HT.out; rw [List.take_of_length_le (Nat.le_of_eq HL.out)] at this; exact (findI_no this).symm), (by first | exact hE | exact hE.ext _ | exact hE.trans (by repeat (first | with_reducible exact Ext.refl _ | with_reducible apply Ext.and | with_reducible apply Ext.drewx | with_reducible apply Ext.alloc | with_reducible apply Ext.ext | with_reducible apply Ext.drew | with_reducible refine Ext.setCell ?_ (by simp) _)))⟩

set_option maxHeartbeats 400000 in
theorem spotFn_any (d : Rt) (r : Rg) (a1 : Option Addr) (n1 c1 : Nat) (a2 : Option Addr) (n2 c2 : Nat) (w : World) (h : rok d.r.f d.r.b = true) (h' : rok r.f r.b = true) :
    Calls Tryz.prog 83 #[.agg #[.int .i64 d.r.f, .int .i64 d.r.b, .slice a1 n1 c1, .int .i64 d.like, .slice a2 n2 c2], .agg #[.int .i64 r.f, .int .i64 r.b]] w fun e w' => e = .returned (.int .i64 (rc d.r r)) ∧ Ext w w' := by
  go_enter Tryz.func83, Tryz.ntmps83
  go_wp2_with (first | (first | (go_at_call 74; (with_reducible refine (iRangeCmp_rc d.r r _ h h').mono ?_); rintro _ _ ⟨rfl, x, rfl⟩)) | ((first | with_reducible refine wp_region_qe (by kernel_rfl) (by kernel_rfl) ?_ | with_reducible refine wp_region_q (by kernel_rfl) (by kernel_rfl) ?_); (repeat' (first | go_big_quiet_step ((first | (go_at_call 74; first | with_reducible exact Calls.qb (by assumption) (iRangeCmp_rc d.r r _ h h') | with_reducible exact Calls.q (iRangeCmp_rc d.r r _ h h')))) | (refine wpQuiet_split rfl rfl rfl rfl (fun hsp => ?_) (fun hsp => ?_); ((fail_if_success (cases hsp; done)); simp only [hsp]; (try first | have hsq : _ < _ := of_decide_eq_true hsp | have hsq : _ ≤ _ := of_decide_eq_true hsp | have hsq : ¬ _ < _ := of_decide_eq_false hsp | have hsq : ¬ _ ≤ _ := of_decide_eq_false hsp)); rotate_left; ((fail_if_success (cases hsp; done)); simp only [hsp]; (try first | have hsq : _ < _ := of_decide_eq_true hsp | have hsq : _ ≤ _ := of_decide_eq_true hsp | have hsq : ¬ _ < _ := of_decide_eq_false hsp | have hsq : ¬ _ ≤ _ := of_decide_eq_false hsp))))); (all_goals (refine wpQuiet_nil ?_; intro x))))
  go_ret
  exact ⟨rfl, (by repeat (first | with_reducible exact Ext.refl _ | with_reducible apply Ext.and | with_reducible apply Ext.drewx | with_reducible apply Ext.alloc | with_reducible apply Ext.ext | with_reducible apply Ext.drew | with_reducible refine Ext.setCell ?_ (by simp) _))⟩

set_option maxHeartbeats 1000000 in
theorem spotOf_any (a : Option Addr) (len cap : Nat) (t : List Rt) (r : Rg) (w : World) (h : SlRd w a len cap t) (hs : SortedT t) (hk : ∀ d ∈ t, rtOk d = true) (hl : len ≤ 1000000000) (hr : rok r.f r.b = true) :
    Calls Tryz.prog 60 #[.slice a len cap, .agg #[.int .i64 r.f, .int .i64 r.b]] w fun e w' => e = .returned (.tuple #[.int .i64 (posC (fun d => rc d.r r) t : Nat), .bool (atC (fun d => rc d.r r) t)]) ∧ Ext w w' := by
  go_enter Tryz.func60, Tryz.ntmps60
  go_wp2_with (first | (first | ((go_at_call 82; (with_reducible refine (bsf_Rt _ _ _ t r (fun d => rc d.r r) 83 _ (callBody Tryz.func83 (by kernel_rfl) (by kernel_rfl)) (h.stays ((by repeat (first | with_reducible exact Ext.refl _ | with_reducible apply Ext.and | with_reducible apply Ext.drewx | with_reducible apply Ext.alloc | with_reducible apply Ext.ext | with_reducible apply Ext.drew | with_reducible refine Ext.setCell ?_ (by simp) _)) : Ext _ _).below) (sortedT_mono hs r) (fun w' d _ _ _ _ _ _ _ hd _ _ => spotFn_any d r _ _ _ _ _ _ w' (rtOk_rok (hk d hd)) hr) hl).mono ?_); rintro _ _ ⟨rfl, x1, rfl⟩))) | ((first | with_reducible refine wp_region_qe (by kernel_rfl) (by kernel_rfl) ?_ | with_reducible refine wp_region_q (by kernel_rfl) (by kernel_rfl) ?_); (repeat' (first | go_big_quiet_step ((first | ((go_at_call 82; (with_reducible refine (bsf_Rt _ _ _ t r (fun d => rc d.r r) 83 _ (callBody Tryz.func83 (by kernel_rfl) (by kernel_rfl)) (h.stays ((by repeat (first | with_reducible exact Ext.refl _ | with_reducible apply Ext.and | with_reducible apply Ext.drewx | with_reducible apply Ext.alloc | with_reducible apply Ext.ext | with_reducible apply Ext.drew | with_reducible refine Ext.setCell ?_ (by simp) _)) : Ext _ _).below) (sortedT_mono hs r) (fun w' d _ _ _ _ _ _ _ hd _ _ => spotFn_any d r _ _ _ _ _ _ w' (rtOk_rok (hk d hd)) hr) hl).mono ?_); rintro _ _ ⟨rfl, x1, rfl⟩)))) | (refine wpQuiet_split rfl rfl rfl rfl (fun hsp => ?_) (fun hsp => ?_); ((fail_if_success (cases hsp; done)); simp only [hsp]; (try first | have hsq : _ < _ := of_decide_eq_true hsp | have hsq : _ ≤ _ := of_decide_eq_true hsp | have hsq : ¬ _ < _ := of_decide_eq_false hsp | have hsq : ¬ _ ≤ _ := of_decide_eq_false hsp)); rotate_left; ((fail_if_success (cases hsp; done)); simp only [hsp]; (try first | have hsq : _ < _ := of_decide_eq_true hsp | have hsq : _ ≤ _ := of_decide_eq_true hsp | have hsq : ¬ _ < _ := of_decide_eq_false hsp | have hsq : ¬ _ ≤ _ := of_decide_eq_false hsp))))); (all_goals (refine wpQuiet_nil ?_; intro x))))
  go_ret2
  exact ⟨by simp, (by repeat (first | with_reducible exact Ext.refl _ | with_reducible apply Ext.and | with_reducible apply Ext.drewx | with_reducible apply Ext.alloc | with_reducible apply Ext.ext | with_reducible apply Ext.drew | with_reducible refine Ext.setCell ?_ (by simp) _))⟩

section
variable {t : List Rt} {e : Rt}
/-- A route list with a route. -/
def putLT (t : List Rt) (e : Rt) : List Rt := if atC (fun d => rc d.r e.r) t = true then t.set (posC (fun d => rc d.r e.r) t) e else t.take (posC (fun d => rc d.r e.r) t) ++ [e] ++ t.drop (posC (fun d => rc d.r e.r) t)
/-- How the reference goes. -/
def putST (e : Rt) (s : List Rt × Bool) (d : Rt) : List Rt × Bool :=
  ((s.1 ++ (if (!s.2 && decide (0 ≤ rc d.r e.r)) = true then [e] else [])) ++ (if rc d.r e.r = 0 then [] else [d]), s.2 || decide (0 ≤ rc d.r e.r))
def putET (e : Rt) (s : List Rt × Bool) : List Rt := if s.2 = true then s.1 else s.1 ++ [e]
theorem putS_afterT (h : ∀ d ∈ t, 0 < rc d.r e.r) : ∀ L, t.foldl (putST e) (L, true) = (L ++ t, true) := by
  induction t with
  | nil => intro L; simp
  | cons d t ih =>
    intro L
    have hd := h d (by simp)
    rw [List.foldl_cons]
    have : putST e (L, true) d = (L ++ [d], true) := by simp [putST, show ¬ rc d.r e.r = 0 by omega]
    rw [this, ih (fun x hx => h x (by simp [hx]))]
    simp
theorem posC_cons_ltT {d : Rt} (h : rc d.r e.r < 0) : posC (fun x => rc x.r e.r) (d :: t) = posC (fun x => rc x.r e.r) t + 1 := by simp [posC, h]
theorem posC_cons_geT {d : Rt} (h : ¬ rc d.r e.r < 0) : posC (fun x => rc x.r e.r) (d :: t) = 0 := by simp [posC, h]
theorem atC_cons_ltT {d : Rt} (h : rc d.r e.r < 0) : atC (fun x => rc x.r e.r) (d :: t) = atC (fun x => rc x.r e.r) t := by
  unfold atC; rw [posC_cons_ltT h]; simp
theorem atC_cons_geT {d : Rt} (h : ¬ rc d.r e.r < 0) : atC (fun x => rc x.r e.r) (d :: t) = (rc d.r e.r == 0) := by
  unfold atC; rw [posC_cons_geT h]; simp
theorem putS_allT (h : SortedT t) : ∀ L, putET e (t.foldl (putST e) (L, false)) = L ++ putLT t e := by
  induction t with
  | nil => intro L; simp [putET, putLT, atC, posC]
  | cons d t ih =>
    intro L
    rw [List.foldl_cons]
    by_cases h1 : rc d.r e.r < 0
    · have e1 : putST e (L, false) d = (L ++ [d], false) := by simp [putST, show ¬ 0 ≤ rc d.r e.r by omega, show ¬ rc d.r e.r = 0 by omega]
      rw [e1, ih h.tail]
      unfold putLT
      rw [posC_cons_ltT h1, atC_cons_ltT h1]
      split <;> simp
    · have hp : ∀ x ∈ t, 0 < rc x.r e.r := fun x hx => by
        have h2 := h.head hx
        rw [rc_pos]
        by_cases h3 : rc d.r e.r = 0
        · rw [rc_zero] at h3; rw [← h3]; exact h2
        · have h4 : rc e.r d.r < 0 := by rw [← rc_pos]; omega
          exact rc_trans h4 h2
      unfold putLT
      rw [posC_cons_geT h1, atC_cons_geT h1]
      by_cases h3 : rc d.r e.r = 0
      · have e1 : putST e (L, false) d = (L ++ [e], true) := by simp [putST, h3]
        rw [e1, putS_afterT hp]
        simp [putET, h3]
      · have e1 : putST e (L, false) d = (L ++ [e] ++ [d], true) := by simp [putST, h3, show 0 ≤ rc d.r e.r by omega]
        rw [e1, putS_afterT hp]
        simp [putET, h3]
theorem putL_lenT : (putLT t e).length = if atC (fun d => rc d.r e.r) t = true then t.length else t.length + 1 := by
  unfold putLT
  have := posC_le (fun d : Rt => rc d.r e.r) t
  split
  · simp
  · simp only [List.length_append, List.length_take, List.length_drop, List.length_cons, List.length_nil]; omega
theorem fold_take {α β : Type} {f : β → α → β} {b : β} {l : List α} {k : Nat} {d : α} (hd : l[k]? = some d) : (l.take (k + 1)).foldl f b = f ((l.take k).foldl f b) d := by
  rw [List.take_add_one, hd, List.foldl_append]; rfl

end
theorem sortedT_iff {t : List Rt} : SortedT t ↔ t.Pairwise (fun d d' => rc d.r d'.r < 0) := by
  rw [List.pairwise_iff_getElem]
  constructor
  · intro h i j hi hj hij
    exact h i j _ _ hij (List.getElem?_eq_getElem hi) (List.getElem?_eq_getElem hj)
  · intro h i j d d' hij hd hd'
    obtain ⟨hi, rfl⟩ := List.getElem?_eq_some_iff.1 hd
    obtain ⟨hj, rfl⟩ := List.getElem?_eq_some_iff.1 hd'
    exact h i j hi hj hij
section
variable {t : List Rt} {e d : Rt} {r : Rg}
theorem putLT_lt (h : rc d.r e.r < 0) : putLT (d :: t) e = d :: putLT t e := by
  unfold putLT
  rw [posC_cons_ltT h, atC_cons_ltT h]
  split <;> simp
theorem putLT_eq (h : rc d.r e.r = 0) : putLT (d :: t) e = e :: t := by
  unfold putLT
  rw [posC_cons_geT (by omega), atC_cons_geT (by omega), h]
  simp
theorem putLT_gt (h : 0 < rc d.r e.r) : putLT (d :: t) e = e :: d :: t := by
  have h1 : (rc d.r e.r == 0) = false := by rw [beq_eq_false_iff_ne]; omega
  unfold putLT
  rw [posC_cons_geT (by omega), atC_cons_geT (by omega), h1]
  simp
theorem putLT_mem : ∀ {t : List Rt}, ∀ x ∈ putLT t e, x = e ∨ x ∈ t
  | [], x, hx => by simp [putLT, atC, posC] at hx; exact .inl hx
  | d :: t, x, hx => by
    rcases Int.lt_trichotomy (rc d.r e.r) 0 with h | h | h
    · rw [putLT_lt h] at hx
      rcases List.mem_cons.1 hx with rfl | hx
      · exact .inr (by simp)
      · rcases putLT_mem x hx with h | h
        · exact .inl h
        · exact .inr (by simp [h])
    · rw [putLT_eq h] at hx
      rcases List.mem_cons.1 hx with rfl | hx
      · exact .inl rfl
      · exact .inr (by simp [hx])
    · rw [putLT_gt h] at hx
      rcases List.mem_cons.1 hx with rfl | hx
      · exact .inl rfl
      · exact .inr hx
theorem putLT_sorted : ∀ {t : List Rt}, SortedT t → SortedT (putLT t e)
  | [], _ => by simp [putLT, atC, posC, sortedT_iff]
  | d :: t, hs => by
    rcases Int.lt_trichotomy (rc d.r e.r) 0 with h | h | h
    · rw [putLT_lt h, sortedT_iff, List.pairwise_cons]
      refine ⟨fun x hx => ?_, sortedT_iff.1 (putLT_sorted hs.tail)⟩
      rcases putLT_mem x hx with rfl | hx
      · exact h
      · exact hs.head hx
    · have he := rc_zero.1 h
      rw [putLT_eq h, sortedT_iff, List.pairwise_cons]
      exact ⟨fun x hx => by rw [← he]; exact hs.head hx, sortedT_iff.1 hs.tail⟩
    · rw [putLT_gt h, sortedT_iff, List.pairwise_cons]
      refine ⟨fun x hx => ?_, sortedT_iff.1 hs⟩
      rcases List.mem_cons.1 hx with rfl | hx
      · exact rc_pos.1 h
      · exact rc_trans (rc_pos.1 h) (hs.head hx)
end

/-- Steps that may fail. -/
def foldO {α β : Type} (f : β → α → Option β) (o : Option β) (l : List α) : Option β := l.foldl (fun o x => o.bind (f · x)) o
section
variable {α β : Type} {f : β → α → Option β} {o : Option β} {l : List α} {b c : β} {k : Nat} {d : α}
theorem foldO_none : ∀ (l : List α), foldO f none l = none
  | [] => rfl
  | _ :: l => foldO_none l
theorem foldO_step (h : foldO f o (l.take k) = some b) (hd : l[k]? = some d) : foldO f o (l.take (k + 1)) = f b d := by
  unfold foldO at h ⊢
  rw [List.take_add_one, hd, List.foldl_append, h]
  rfl
theorem foldO_fail (h : foldO f o (l.take k) = some b) (hd : l[k]? = some d) (hf : f b d = none) : foldO f o l = none := by
  have h1 := foldO_step h hd
  rw [hf] at h1
  have h2 : l = l.take (k + 1) ++ l.drop (k + 1) := (List.take_append_drop _ _).symm
  rw [h2]
  unfold foldO at h1 ⊢
  rw [List.foldl_append, h1]
  exact foldO_none _
theorem foldO_all (h : foldO f o (l.take k) = some b) (hk : l.length = k) : foldO f o l = some b := by
  rw [List.take_of_length_le (Nat.le_of_eq hk)] at h; exact h
end
noncomputable def cutT (t : List Rt) (r : Rg) : Option (List Rt) := if t.any (rtR r) = true then some (t.take (findI (rtR r) t).toNat ++ t.drop ((findI (rtR r) t).toNat + 1)) else none
noncomputable def sayT (t : List Rt) (e : Rt) : Option (List Rt) := if (rtOk e && decide ((putLT t e).length ≤ 12)) = true then some (putLT t e) else none
noncomputable def deltaDo (l : List Rt) (d : Dl) : List Rt × Bool := if rtsOk l = true then (match foldO sayT (foldO cutT (some l) d.drop) d.tell with | some t => (t, true) | none => ([], false)) else ([], false)
section
variable {l t t' : List Rt} {d : Dl} {r : Rg} {e : Rt} {i : Nat}
theorem ddo_no (h : rtsOk l = false) : deltaDo l d = ([], false) := by unfold deltaDo; rw [h]; rfl
theorem ddo_none (h : rtsOk l = true) (h' : foldO cutT (some l) d.drop = none) : deltaDo l d = ([], false) := by unfold deltaDo; rw [if_pos h, h', foldO_none]
theorem ddo_none2 (h : rtsOk l = true) (h' : foldO cutT (some l) d.drop = some t) (h2 : foldO sayT (some t) d.tell = none) : deltaDo l d = ([], false) := by unfold deltaDo; rw [if_pos h, h', h2]
theorem ddo_yes (h : rtsOk l = true) (h' : foldO cutT (some l) d.drop = some t) (h2 : foldO sayT (some t) d.tell = some t') : deltaDo l d = (t', true) := by unfold deltaDo; rw [if_pos h, h', h2]
theorem cutT_no (h : t.any (rtR r) = false) : cutT t r = none := by unfold cutT; rw [h]; rfl
theorem cutT_yes (h : t.any (rtR r) = true) (hi : findI (rtR r) t = (i : Int)) : cutT t r = some (t.take i ++ t.drop (i + 1)) := by unfold cutT; rw [h, hi]; rfl
theorem sayT_no (h : rtOk e = false) : sayT t e = none := by unfold sayT; rw [h]; rfl
theorem sayT_many (h : 12 < (putLT t e).length) : sayT t e = none := by unfold sayT; rw [decide_eq_false (by omega), Bool.and_false]; rfl
theorem sayT_yes (h : rtOk e = true) (h' : (putLT t e).length ≤ 12) : sayT t e = some (putLT t e) := by unfold sayT; rw [h, decide_eq_true h']; rfl
/-- What the steps keep. -/
def Fine (t : List Rt) : Prop := SortedT t ∧ t.length ≤ 12 ∧ ∀ d ∈ t, rtOk d = true
theorem Fine.of (h : rtsOk l = true) : Fine l := ⟨rts_sorted h, rts_le h, fun _ hd => rts_rt h hd⟩
theorem Fine.cut (h : Fine t) (i : Nat) : Fine (t.take i ++ t.drop (i + 1)) := by
  have hs : (t.take i ++ t.drop (i + 1)).Sublist t := by
    have h1 : (t.drop (i + 1)).Sublist (t.drop i) := by
      rw [show t.drop (i + 1) = (t.drop i).drop 1 by rw [List.drop_drop]]
      exact List.drop_sublist _ _
    have h2 := (List.Sublist.refl (t.take i)).append h1
    rwa [List.take_append_drop] at h2
  exact ⟨sortedT_iff.2 ((sortedT_iff.1 h.1).sublist hs), Nat.le_trans hs.length_le h.2.1, fun d hd => h.2.2 d (hs.subset hd)⟩
theorem Fine.put (h : Fine t) (he : rtOk e = true) (hl : (putLT t e).length ≤ 12) : Fine (putLT t e) :=
  ⟨putLT_sorted h.1, hl, fun d hd => by
    rcases putLT_mem d hd with rfl | hd
    · exact he
    · exact h.2.2 d hd⟩
end

/-- Two worlds agree on what is there, but for block g. -/
def Agr (w w' : World) (g : Option Nat) : Prop := Below 0 w w' ∧ ∀ b, b < w.heap.size → g ≠ some b → w'.heap[b]? = w.heap[b]?
def RowSt {α : Type} [Lay α] (w : World) (g : Option Nat) (xs : List Value) (l : List α) : Prop := ∀ w', Agr w w' g → RowRd w' xs l
def StE {α : Type} [Lay α] (w : World) (g : Option Nat) (cs : List Value) (d : α) : Prop := ∀ w', Agr w w' g → Lay.rd w' cs d
/-- A slice of the call's own; its elements can be read as long as nothing else than its own block turns. -/
def AccS {α : Type} [Lay α] (N : Nat) (e : TypeId) (w : World) (v : Value) (l : List α) : Prop := ∃ xs, w.ownsRow N e (Lay.n α) v l.length xs ∧ RowSt w v.ownBlock xs l
section
variable {α : Type} [Lay α] {N M : Nat} {e : TypeId} {w w' W : World} {v : Value} {g g' : Option Nat} {l m : List α} {xs ys cs : List Value} {d : α}
theorem Agr.refl : Agr w w g := ⟨Below.refl _ _, fun _ _ _ => rfl⟩
theorem Agr.ext {w2 : World} (k : Ext w w') (h : Agr w' w2 g) : Agr w w2 g := ⟨(k.below.mono (Nat.zero_le _)).trans h.1, fun b hb hg => by
  rw [h.2 b (Nat.lt_of_lt_of_le hb k.size) hg]; exact k.below.block b hb⟩
theorem grownBy_b0 {row : Option Nat} (hg : w.grownBy w' row) : Below 0 w w' := ⟨hg.os, hg.tape, hg.output, hg.size, fun _ hk => absurd hk (Nat.not_lt_zero _)⟩
theorem Agr.grown {w2 : World} {v' : Value} (hg : w.grownBy w' v.ownBlock) (hv : v'.ownBlock = v.ownBlock ∨ v'.ownBlock = some w.heap.size) (h : Agr w' w2 v'.ownBlock) : Agr w w2 v.ownBlock := ⟨(grownBy_b0 hg).trans h.1, fun b hb hne => by
  have h1 : w2.heap[b]? = w'.heap[b]? := h.2 b (Nat.lt_of_lt_of_le hb hg.size) (fun e => by
    rcases hv with e2 | e2
    · exact hne (e2.symm.trans e)
    · rw [e2] at e; have := Option.some.inj e; omega)
  rw [h1]; exact hg.block b hb (fun e => hne e.symm)⟩
theorem Agr.low {w2 : World} (k : Ext W w) (hg : ∀ b, g = some b → W.heap.size ≤ b) (h : Agr w w2 g) : Below W.heap.size W w2 :=
  ⟨h.1.os.trans k.below.os, h.1.tape.trans k.below.tape, h.1.output.trans k.below.output, Nat.le_trans k.size h.1.size, fun b hb => by
    rw [h.2 b (Nat.lt_of_lt_of_le hb k.size) (fun e => by have := hg b e; omega)]; exact k.below.block b hb⟩
theorem Agr.back {w2 : World} (k : Ext w w') (hg : ∀ b, g' = some b → w.heap.size ≤ b) (h : Agr w' w2 g') : Agr w w2 g :=
  ⟨(h.low k hg).mono (Nat.zero_le _), fun b hb _ => (h.low k hg).block b hb⟩
theorem RowSt.rd (h : RowSt w g xs l) : RowRd w xs l := h w Agr.refl
theorem RowSt.ext (h : RowSt w g xs l) (k : Ext w w') : RowSt w' g xs l := fun _ h2 => h _ (h2.ext k)
theorem StE.ext (h : StE w g cs d) (k : Ext w w') : StE w' g cs d := fun _ h2 => h _ (h2.ext k)
theorem RowSt.later (h : RowSt w g xs l) (k : Ext w w') (hg : ∀ b, g' = some b → w.heap.size ≤ b) : RowSt w' g' xs l := fun _ h2 => h _ (h2.back k hg)
theorem RowSt.take (h : RowSt w g xs l) (k : Nat) : RowSt w g (xs.take (k * Lay.n α)) (l.take k) := fun _ h2 => (h _ h2).take k
theorem RowSt.drop (h : RowSt w g xs l) (k : Nat) : RowSt w g (xs.drop (k * Lay.n α)) (l.drop k) := fun _ h2 => (h _ h2).drop k
theorem RowSt.append (h : RowSt w g xs l) (k : RowSt w g ys m) : RowSt w g (xs ++ ys) (l ++ m) := fun _ h2 => (h _ h2).append (k _ h2)
theorem StE.base (h : Lay.rd W cs d) (k : Ext W w) (hg : ∀ b, g = some b → W.heap.size ≤ b) : StE w g cs d := fun _ h2 => Lay.stays h (h2.low k hg)
theorem StE.own [Ow α] {f : List Nat} (h : Ow.own w cs d f) (hf : ∀ b ∈ f, g ≠ some b) : StE w g cs d := fun _ h2 => Ow.rd (Ow.frame h (fun b hb => h2.2 b (Ow.lt h b hb) (hf b hb)))
theorem AccS.ext (h : AccS N e w v l) (k : Ext w w') : AccS N e w' v l := by
  obtain ⟨xs, h1, h2⟩ := h
  exact ⟨xs, ownsRow_ext h1 k, h2.ext k⟩
theorem AccS.base (h : AccS N e w v l) (hb : M ≤ N) : AccS M e w v l := by
  obtain ⟨xs, h1, h2⟩ := h
  exact ⟨xs, ownsRow_base h1 hb, h2⟩
theorem AccS.shapeL (h : AccS N e w v l) : ∃ a n c, v = .slice a n c := by
  obtain ⟨xs, h1, _⟩ := h
  obtain ⟨a, cap, rfl, _⟩ := ownsRow_shape h1
  exact ⟨a, _, cap, rfl⟩
theorem AccS.shape (h : AccS N e w v l) : ∃ a c, v = .slice a l.length c ∧ l.length ≤ c ∧ c ≤ maxLen := by
  obtain ⟨xs, h1, _⟩ := h
  obtain ⟨a, cap, rfl, h2, h3, _⟩ := ownsRow_shape h1
  exact ⟨a, cap, rfl, h2, h3⟩
theorem AccS.sl [OneC α] {a : Option Addr} {n c : Nat} (h : AccS N e w (.slice a n c) l) : SlRd w a n c l := by
  obtain ⟨xs, h1, h2⟩ := h
  obtain ⟨a', cap', e1, _⟩ := ownsRow_shape h1
  simp only [Value.slice.injEq] at e1
  obtain ⟨rfl, rfl, rfl⟩ := e1
  exact ownsRow_sl h1 h2.rd rfl
theorem AccS.low (h : AccS N e w v l) : ∀ b, v.ownBlock = some b → N ≤ b ∧ b < w.heap.size := by
  obtain ⟨xs, h1, _⟩ := h
  exact h1.lt
theorem AccS.madeAt {B : Nat} (hN : N ≤ w.heap.size) (hB : w.heap.size = B) : AccS N e (w.alloc (.cells #[] e)) (.slice (some ⟨B, 0, none⟩) 0 0) ([] : List α) := by
  subst hB
  exact ⟨[], World.ownsRow_made w #[] 0 hN (Nat.zero_le _) (by simp), fun _ _ => RowRd.nil⟩
theorem AccO.toS [Ow α] {fps : List (List Nat)} (h : AccO N e w v l fps) : AccS N e w v l := by
  obtain ⟨xs, h1, h2, h3, h4⟩ := h
  exact ⟨xs, h1, fun _ hw2 => (h2.frame (fun b hb => hw2.2 b (h2.lt b hb) (h4 b hb))).rd⟩
/-- One element more. -/
theorem wpList_pushS [OneC α] {P : Program} {ops : Array Oper} {rest : List Oper} {o : Oper} {a : Act} {Q : Exit → Act → World → Prop} (hgd : o.guard = none) (s x : Operand) {t : TypeId} (ho : o.op = .call { callee := .builtin .append, args := #[s, x], argTypes := #[t, t] })
    {bytes B : Nat} (hT : TyI P t e (Lay.n α) bytes) (hby : bytes ≤ 1000) (hs : a.eval s = v) (h : AccS N e w v l) (hlen : l.length ≤ 1000000) {C : Array Value} {d : α} (hx : a.eval x = .slice (some ⟨B, 0, none⟩) 1 1) (hB : Blk w B e C.toList) (hd : StE w v.ownBlock C.toList d) (hN : N ≤ w.heap.size)
    (h : ∀ v' w', AccS N e w' v' (l ++ [d]) → w.grownBy w' v.ownBlock → (∀ w0, Ext w0 w → w0.heap.size ≤ N → Ext w0 w') → (v'.ownBlock = v.ownBlock ∨ v'.ownBlock = some w.heap.size) → wpList P ops Q rest (a.put o.dst v') w') : wpList P ops Q (o :: rest) a w := by
  obtain ⟨xs, h1, h2⟩ := ‹AccS N e w v l›
  have hr := hd w Agr.refl
  have hcl : C.toList.length = 1 * Lay.n α := by rw [Nat.one_mul]; exact OneC.len hr
  refine wpList_app hgd s x ho hT hs h1 hx (Nat.le_refl 1) (fun h => by cases h) hcl (Src.blk hB) (OneC.one hr) (by unfold maxLen; omega) ?_ hN fun v1 w1 hw1 hg1 hb1 =>
    h v1 w1 ⟨_, by rw [List.length_append]; exact hw1, fun w2 hw2 => (h2 w2 (Agr.grown hg1 hb1 hw2)).append (RowRd.single (hd w2 (Agr.grown hg1 hb1 hw2)) (OneC.len hr))⟩ hg1 (fun w0 hE0 hb0 => Ext.by hE0 hg1 fun j hj => Nat.le_trans hb0 (h1.lt j hj).1) hb1
  have := Nat.mul_le_mul_left (l.length + 1) hby
  omega
/-- A row of another slice more. -/
theorem wpList_pushT [OneC α] {P : Program} {ops : Array Oper} {rest : List Oper} {o : Oper} {a : Act} {Q : Exit → Act → World → Prop} (hgd : o.guard = none) (s x : Operand) {t : TypeId} (ho : o.op = .call { callee := .builtin .append, args := #[s, x], argTypes := #[t, t] })
    {bytes n c : Nat} {ax : Option Addr} (hT : TyI P t e (Lay.n α) bytes) (hby : bytes ≤ 1000) (hs : a.eval s = v) (h : AccS N e w v l) (hlen : l.length ≤ 1000000) {C : List Value} (hx : a.eval x = .slice ax n c) (hmc : n ≤ c) (hc : ax = none → c = 0) (hC : Src w ax C) (hd : RowSt w v.ownBlock C m) (hm : m.length = n) (hm2 : n ≤ 1000000) (hN : N ≤ w.heap.size)
    (h : ∀ v' w', AccS N e w' v' (l ++ m) → w.grownBy w' v.ownBlock → (∀ w0, Ext w0 w → w0.heap.size ≤ N → Ext w0 w') → (v'.ownBlock = v.ownBlock ∨ v'.ownBlock = some w.heap.size) → wpList P ops Q rest (a.put o.dst v') w') : wpList P ops Q (o :: rest) a w := by
  obtain ⟨xs, h1, h2⟩ := ‹AccS N e w v l›
  have hr := hd w Agr.refl
  have hcl : C.length = n * Lay.n α := by rw [hr.1, hm]
  refine wpList_app hgd s x ho hT hs h1 hx hmc hc hcl hC hr.one (by unfold maxLen; omega) ?_ hN fun v1 w1 hw1 hg1 hb1 =>
    h v1 w1 ⟨_, by rw [List.length_append, hm]; exact hw1, fun w2 hw2 => (h2 w2 (Agr.grown hg1 hb1 hw2)).append (hd w2 (Agr.grown hg1 hb1 hw2))⟩ hg1 (fun w0 hE0 hb0 => Ext.by hE0 hg1 fun j hj => Nat.le_trans hb0 (h1.lt j hj).1) hb1
  have h1 := Nat.mul_le_mul_left (l.length + n) hby
  have h2 := Nat.mul_le_mul_right 1000 (show l.length + n ≤ 2000000 by omega)
  omega
/-- Its parts, to be moved. -/
theorem AccS.part {a : Option Addr} {n c : Nat} (h : AccS N e w (.slice a n c) l) (h0 : 0 < l.length) : ∃ (b : Nat) (xs : List Value), a = some ⟨b, 0, none⟩ ∧ n = l.length ∧ n ≤ c ∧ N ≤ b ∧ b < w.heap.size ∧ Src w (some ⟨b, 0, none⟩) xs ∧ RowSt w (some b) xs l := by
  obtain ⟨xs, h1, h2⟩ := h
  obtain ⟨a', c', e1, hlc, hcm, _⟩ := ownsRow_shape h1
  simp only [Value.slice.injEq] at e1
  obtain ⟨rfl, rfl, rfl⟩ := e1
  obtain ⟨b, cur, rfl, hb, hl, ht⟩ := ownsRow_cur h1 h0
  have hlow := h1.lt b rfl
  refine ⟨b, xs, rfl, rfl, hlc, hlow.1, hlow.2, ?_, h2⟩
  intro j u hu
  refine ⟨b, 0, rfl, ?_⟩
  rw [Nat.zero_add]
  refine hb.cell (j := j) ?_
  rw [← ht, List.getElem?_take] at hu
  split at hu
  · exact hu
  · cases hu
end

set_option maxRecDepth 20000 in
set_option maxHeartbeats 8000000 in
theorem l23Put_any (a : Option Addr) (len cap : Nat) (t : List Rt) (e : Rt) (a1 : Option Addr) (n1 c1 : Nat) (a2 : Option Addr) (n2 c2 : Nat) (w : World) (h : SlRd w a len cap t) (hs : SortedT t) (hl : len ≤ 100) (hv : I64 e.r.f) (hv' : I64 e.r.b) (hp : SlRd w a1 n1 c1 e.path) (hv2 : I64 e.like) (hm : SlRd w a2 n2 c2 e.marks) (hk1 : n1 ≤ 1000000000) (hk2 : n2 ≤ 1000000000) :
    Calls Tryz.prog 53 #[.slice a len cap, .agg #[.int .i64 e.r.f, .int .i64 e.r.b, .slice a1 n1 c1, .int .i64 e.like, .slice a2 n2 c2]] w fun x w' => ∃ v, x = .returned v ∧ AccS w.heap.size 40 w' v (putLT t e) ∧ Ext w w' := by
  have hlc := h.2.1
  have hcm := h.2.2.1
  unfold maxLen at hcm
  have HL := hidden h.1
  have HT := hidden hs
  have HV := hidden hv
  have HV' := hidden hv'
  have HV2 := hidden hv2
  have HP := hidden hp
  have HM := hidden hm
  clear hs hv hv' hv2 hp hm
  go_enter Tryz.func53, Tryz.ntmps53
  go_wp2_with fail
  obtain ⟨W, hW⟩ : ∃ W, W = w.alloc (Obj.cells #[.int .i64 e.r.f, .int .i64 e.r.b, .slice a1 n1 c1, .int .i64 e.like, .slice a2 n2 c2] 40) := ⟨_, rfl⟩
  have hE0 : Ext w W := by rw [hW]; exact (by repeat (first | with_reducible exact Ext.refl _ | with_reducible apply Ext.and | with_reducible apply Ext.drewx | with_reducible apply Ext.alloc | with_reducible apply Ext.ext | with_reducible apply Ext.drew | with_reducible refine Ext.setCell ?_ (by simp) _))
  have hWs : W.heap.size = w.heap.size + 1 := by rw [hW]; simp
  have b0 : W.cell? ⟨w.heap.size, 0, none⟩ = some (.int .i64 e.r.f) := by rw [hW]; go_simp
  have b1 : W.cell? ⟨w.heap.size, 1, none⟩ = some (.int .i64 e.r.b) := by rw [hW]; go_simp
  have b2 : W.cell? ⟨w.heap.size, 2, none⟩ = some (.slice a1 n1 c1) := by rw [hW]; go_simp
  have b3 : W.cell? ⟨w.heap.size, 3, none⟩ = some (.int .i64 e.like) := by rw [hW]; go_simp
  have b4 : W.cell? ⟨w.heap.size, 4, none⟩ = some (.slice a2 n2 c2) := by rw [hW]; go_simp
  rw [← hW]
  have HW := hidden hWs
  clear hW hWs
  go_loopw [5, 6, 7] (fun v b i wr => ∃ (k : Nat) (L : List Rt) (pb : Bool), k ≤ len ∧ i = .int .i64 k ∧ b = .bool pb ∧ L.length ≤ 2 * k ∧ Hid ((t.take k).foldl (putST e) ([], false) = (L, pb)) ∧ Hid (AccS W.heap.size 40 wr v L) ∧ Ext W wr) (fun _ _ i _ => len - (intOf i).toNat)
  case atStart =>
    have := AccS.madeAt (α := Rt) (w := W) (N := W.heap.size) (e := 40) (Nat.le_refl _) HW.out
    exact ⟨0, [], false, Nat.zero_le _, rfl, rfl, Nat.zero_le _, rfl, hidden this, (by repeat (first | with_reducible exact Ext.refl _ | with_reducible apply Ext.and | with_reducible apply Ext.drewx | with_reducible apply Ext.alloc | with_reducible apply Ext.ext | with_reducible apply Ext.drew | with_reducible refine Ext.setCell ?_ (by simp) _))⟩
  case round =>
    obtain ⟨k, L, pb, hk, rfl, rfl, hLl, HF, HA, hE⟩ := hrel
    have lbW := cell_lt b0
    have f0 : wr.cell? ⟨w.heap.size, 0, none⟩ = _ := (hE.below.cell (p := ⟨w.heap.size, 0, none⟩) lbW).trans b0
    have f1 : wr.cell? ⟨w.heap.size, 1, none⟩ = _ := (hE.below.cell (p := ⟨w.heap.size, 1, none⟩) lbW).trans b1
    have f2 : wr.cell? ⟨w.heap.size, 2, none⟩ = _ := (hE.below.cell (p := ⟨w.heap.size, 2, none⟩) lbW).trans b2
    have f3 : wr.cell? ⟨w.heap.size, 3, none⟩ = _ := (hE.below.cell (p := ⟨w.heap.size, 3, none⟩) lbW).trans b3
    have f4 : wr.cell? ⟨w.heap.size, 4, none⟩ = _ := (hE.below.cell (p := ⟨w.heap.size, 4, none⟩) lbW).trans b4
    have l2 := cell_lt f0
    by_cases hlt : k < len
    · obtain ⟨d, dhd, db, doff, dys, rfl, dhys, dhcell, dhrd⟩ := h.at hE0 hlt
      obtain ⟨da_path, dn_path, dc_path, da_marks, dn_marks, dc_marks, rfl, dg0, dg1, dg2, dg3, dg4⟩ := dhrd
      have dc0 : W.cell? ⟨db, doff + k * 5, none⟩ = some _ := dhcell 0 _ rfl
      have dc1 : W.cell? ⟨db, doff + k * 5 + 1, none⟩ = some _ := dhcell 1 _ rfl
      have dc2 : W.cell? ⟨db, doff + k * 5 + 2, none⟩ = some _ := dhcell 2 _ rfl
      have dc3 : W.cell? ⟨db, doff + k * 5 + 3, none⟩ = some _ := dhcell 3 _ rfl
      have dc4 : W.cell? ⟨db, doff + k * 5 + 4, none⟩ = some _ := dhcell 4 _ rfl
      have dlb := cell_lt dc0
      have dHD := hidden dhd
      clear dhcell dhys dhd
      have HRD := hidden (show Lay.rd W [.int .i64 d.r.f, .int .i64 d.r.b, .slice da_path dn_path dc_path, .int .i64 d.like, .slice da_marks dn_marks dc_marks] d from ⟨_, _, _, _, _, _, rfl, dg0, dg1, dg2, dg3, dg4⟩)
      have e0 : wr.cell? ⟨db, doff + k * 5, none⟩ = _ := (hE.below.cell (p := ⟨db, doff + k * 5, none⟩) dlb).trans dc0
      have e1 : wr.cell? ⟨db, doff + k * 5 + 1, none⟩ = _ := (hE.below.cell (p := ⟨db, doff + k * 5 + 1, none⟩) dlb).trans dc1
      have e2 : wr.cell? ⟨db, doff + k * 5 + 2, none⟩ = _ := (hE.below.cell (p := ⟨db, doff + k * 5 + 2, none⟩) dlb).trans dc2
      have e3 : wr.cell? ⟨db, doff + k * 5 + 3, none⟩ = _ := (hE.below.cell (p := ⟨db, doff + k * 5 + 3, none⟩) dlb).trans dc3
      have e4 : wr.cell? ⟨db, doff + k * 5 + 4, none⟩ = _ := (hE.below.cell (p := ⟨db, doff + k * 5 + 4, none⟩) dlb).trans dc4
      have l1 := cell_lt e0
      have HD := hidden (fold_take (f := putST e) (b := ([], false)) dHD.out)
      clear dg0 dg1 dg2 dg3 dg4
      by_cases h0 : 0 ≤ rc d.r e.r
      · have hb0 := decide_eq_true h0
        cases pb with
        | false =>
          by_cases hz : rc d.r e.r = 0
          · have hz' : (rc d.r e.r != 0) = false := by simp [hz]
            have HZ := hidden hz
            clear hz
            go_wp2_with (first | (first | (go_at_call 34; (with_reducible refine (l1Cmp_rc d.r e.r _).mono ?_); rintro _ _ ⟨rfl, x, rfl⟩) | ((go_at_call 33; (with_reducible refine (l4Copy_any _ _ _ _ _ _ e.path _ _ _ e.marks _ (HP.out.stays (hE0.trans (hE.trans ((by repeat (first | with_reducible exact Ext.refl _ | with_reducible apply Ext.and | with_reducible apply Ext.drewx | with_reducible apply Ext.alloc | with_reducible apply Ext.ext | with_reducible apply Ext.drew | with_reducible refine Ext.setCell ?_ (by simp) _)) : Ext wr _))).below) (HM.out.stays (hE0.trans (hE.trans ((by repeat (first | with_reducible exact Ext.refl _ | with_reducible apply Ext.and | with_reducible apply Ext.drewx | with_reducible apply Ext.alloc | with_reducible apply Ext.ext | with_reducible apply Ext.drew | with_reducible refine Ext.setCell ?_ (by simp) _)) : Ext wr _))).below) hk1 hk2).mono ?_); rintro _ wq ⟨q1, m1, d1, q2, m2, d2, rfl, C1, y1, rfl⟩; (try rw [ext_ext] at C1); obtain ⟨f, ho, hf, hlo⟩ := Cp.rt (d := e) C1 HV.out HV'.out HV2.out; have HO := hidden ho; have HLO := hidden (show ∀ b ∈ f, wr.heap.size ≤ b from fun b hb => Nat.le_trans ((by repeat (first | with_reducible exact Ext.refl _ | with_reducible apply Ext.and | with_reducible apply Ext.drewx | with_reducible apply Ext.alloc | with_reducible apply Ext.ext | with_reducible apply Ext.drew | with_reducible refine Ext.setCell ?_ (by simp) _)) : Ext wr _).size (hlo b hb)); clear C1 ho hf hlo)) | ((at_builtin; refine wpList_pushS (N := W.heap.size) (l := L) (d := e) rfl _ _ rfl tyi_Rt (by decide) (by rfl) (HA.out.ext ((by repeat (first | with_reducible exact Ext.refl _ | with_reducible apply Ext.and | with_reducible apply Ext.drewx | with_reducible apply Ext.alloc | with_reducible apply Ext.ext | with_reducible apply Ext.drew | with_reducible refine Ext.setCell ?_ (by simp) _)) : Ext wr _)) (by (try simp only [List.length_append, List.length_cons, List.length_nil]); omega) (by rfl) (Blk.newAt _ _ _ (by simp)) (StE.own (Ow.later HO.out (by repeat (first | with_reducible exact Ext.refl _ | with_reducible apply Ext.and | with_reducible apply Ext.drewx | with_reducible apply Ext.alloc | with_reducible apply Ext.ext | with_reducible apply Ext.drew | with_reducible refine Ext.setCell ?_ (by simp) _))) (fun b hb eq => by have h1 := (HA.out.low _ eq).2; have h2 := HLO.out b hb; omega)) (by have := hE.size; simp; omega) ?_; intro v1 w1 hv1 hg hX hv; have Hv1 := hidden hv1; have hE_w1 := hX W (hE.trans ((by repeat (first | with_reducible exact Ext.refl _ | with_reducible apply Ext.and | with_reducible apply Ext.drewx | with_reducible apply Ext.alloc | with_reducible apply Ext.ext | with_reducible apply Ext.drew | with_reducible refine Ext.setCell ?_ (by simp) _)) : Ext wr _)) (Nat.le_refl _); clear hv1 hg hX hv; have e0 : w1.cell? ⟨db, doff + k * 5, none⟩ = _ := (hE_w1.below.cell (p := ⟨db, doff + k * 5, none⟩) dlb).trans dc0; have e1 : w1.cell? ⟨db, doff + k * 5 + 1, none⟩ = _ := (hE_w1.below.cell (p := ⟨db, doff + k * 5 + 1, none⟩) dlb).trans dc1; have e2 : w1.cell? ⟨db, doff + k * 5 + 2, none⟩ = _ := (hE_w1.below.cell (p := ⟨db, doff + k * 5 + 2, none⟩) dlb).trans dc2; have e3 : w1.cell? ⟨db, doff + k * 5 + 3, none⟩ = _ := (hE_w1.below.cell (p := ⟨db, doff + k * 5 + 3, none⟩) dlb).trans dc3; have e4 : w1.cell? ⟨db, doff + k * 5 + 4, none⟩ = _ := (hE_w1.below.cell (p := ⟨db, doff + k * 5 + 4, none⟩) dlb).trans dc4; have f0 : w1.cell? ⟨w.heap.size, 0, none⟩ = _ := (hE_w1.below.cell (p := ⟨w.heap.size, 0, none⟩) lbW).trans b0; have f1 : w1.cell? ⟨w.heap.size, 1, none⟩ = _ := (hE_w1.below.cell (p := ⟨w.heap.size, 1, none⟩) lbW).trans b1; have f2 : w1.cell? ⟨w.heap.size, 2, none⟩ = _ := (hE_w1.below.cell (p := ⟨w.heap.size, 2, none⟩) lbW).trans b2; have f3 : w1.cell? ⟨w.heap.size, 3, none⟩ = _ := (hE_w1.below.cell (p := ⟨w.heap.size, 3, none⟩) lbW).trans b3; have f4 : w1.cell? ⟨w.heap.size, 4, none⟩ = _ := (hE_w1.below.cell (p := ⟨w.heap.size, 4, none⟩) lbW).trans b4; have l1 := cell_lt e0; have l2 := cell_lt f0))) | ((first | with_reducible refine wp_region_qe (by kernel_rfl) (by kernel_rfl) ?_ | with_reducible refine wp_region_q (by kernel_rfl) (by kernel_rfl) ?_); (repeat' (first | go_big_quiet_step ((first | (go_at_call 34; first | with_reducible exact Calls.qb (by assumption) (l1Cmp_rc d.r e.r _) | with_reducible exact Calls.q (l1Cmp_rc d.r e.r _)) | ((go_at_call 33; (with_reducible refine (l4Copy_any _ _ _ _ _ _ e.path _ _ _ e.marks _ (HP.out.stays (hE0.trans (hE.trans ((by repeat (first | with_reducible exact Ext.refl _ | with_reducible apply Ext.and | with_reducible apply Ext.drewx | with_reducible apply Ext.alloc | with_reducible apply Ext.ext | with_reducible apply Ext.drew | with_reducible refine Ext.setCell ?_ (by simp) _)) : Ext wr _))).below) (HM.out.stays (hE0.trans (hE.trans ((by repeat (first | with_reducible exact Ext.refl _ | with_reducible apply Ext.and | with_reducible apply Ext.drewx | with_reducible apply Ext.alloc | with_reducible apply Ext.ext | with_reducible apply Ext.drew | with_reducible refine Ext.setCell ?_ (by simp) _)) : Ext wr _))).below) hk1 hk2).mono ?_); rintro _ wq ⟨q1, m1, d1, q2, m2, d2, rfl, C1, y1, rfl⟩; (try rw [ext_ext] at C1); obtain ⟨f, ho, hf, hlo⟩ := Cp.rt (d := e) C1 HV.out HV'.out HV2.out; have HO := hidden ho; have HLO := hidden (show ∀ b ∈ f, wr.heap.size ≤ b from fun b hb => Nat.le_trans ((by repeat (first | with_reducible exact Ext.refl _ | with_reducible apply Ext.and | with_reducible apply Ext.drewx | with_reducible apply Ext.alloc | with_reducible apply Ext.ext | with_reducible apply Ext.drew | with_reducible refine Ext.setCell ?_ (by simp) _)) : Ext wr _).size (hlo b hb)); clear C1 ho hf hlo)) | ((at_builtin; refine wpList_pushS (N := W.heap.size) (l := L) (d := e) rfl _ _ rfl tyi_Rt (by decide) (by rfl) (HA.out.ext ((by repeat (first | with_reducible exact Ext.refl _ | with_reducible apply Ext.and | with_reducible apply Ext.drewx | with_reducible apply Ext.alloc | with_reducible apply Ext.ext | with_reducible apply Ext.drew | with_reducible refine Ext.setCell ?_ (by simp) _)) : Ext wr _)) (by (try simp only [List.length_append, List.length_cons, List.length_nil]); omega) (by rfl) (Blk.newAt _ _ _ (by simp)) (StE.own (Ow.later HO.out (by repeat (first | with_reducible exact Ext.refl _ | with_reducible apply Ext.and | with_reducible apply Ext.drewx | with_reducible apply Ext.alloc | with_reducible apply Ext.ext | with_reducible apply Ext.drew | with_reducible refine Ext.setCell ?_ (by simp) _))) (fun b hb eq => by have h1 := (HA.out.low _ eq).2; have h2 := HLO.out b hb; omega)) (by have := hE.size; simp; omega) ?_; intro v1 w1 hv1 hg hX hv; have Hv1 := hidden hv1; have hE_w1 := hX W (hE.trans ((by repeat (first | with_reducible exact Ext.refl _ | with_reducible apply Ext.and | with_reducible apply Ext.drewx | with_reducible apply Ext.alloc | with_reducible apply Ext.ext | with_reducible apply Ext.drew | with_reducible refine Ext.setCell ?_ (by simp) _)) : Ext wr _)) (Nat.le_refl _); clear hv1 hg hX hv; have e0 : w1.cell? ⟨db, doff + k * 5, none⟩ = _ := (hE_w1.below.cell (p := ⟨db, doff + k * 5, none⟩) dlb).trans dc0; have e1 : w1.cell? ⟨db, doff + k * 5 + 1, none⟩ = _ := (hE_w1.below.cell (p := ⟨db, doff + k * 5 + 1, none⟩) dlb).trans dc1; have e2 : w1.cell? ⟨db, doff + k * 5 + 2, none⟩ = _ := (hE_w1.below.cell (p := ⟨db, doff + k * 5 + 2, none⟩) dlb).trans dc2; have e3 : w1.cell? ⟨db, doff + k * 5 + 3, none⟩ = _ := (hE_w1.below.cell (p := ⟨db, doff + k * 5 + 3, none⟩) dlb).trans dc3; have e4 : w1.cell? ⟨db, doff + k * 5 + 4, none⟩ = _ := (hE_w1.below.cell (p := ⟨db, doff + k * 5 + 4, none⟩) dlb).trans dc4; have f0 : w1.cell? ⟨w.heap.size, 0, none⟩ = _ := (hE_w1.below.cell (p := ⟨w.heap.size, 0, none⟩) lbW).trans b0; have f1 : w1.cell? ⟨w.heap.size, 1, none⟩ = _ := (hE_w1.below.cell (p := ⟨w.heap.size, 1, none⟩) lbW).trans b1; have f2 : w1.cell? ⟨w.heap.size, 2, none⟩ = _ := (hE_w1.below.cell (p := ⟨w.heap.size, 2, none⟩) lbW).trans b2; have f3 : w1.cell? ⟨w.heap.size, 3, none⟩ = _ := (hE_w1.below.cell (p := ⟨w.heap.size, 3, none⟩) lbW).trans b3; have f4 : w1.cell? ⟨w.heap.size, 4, none⟩ = _ := (hE_w1.below.cell (p := ⟨w.heap.size, 4, none⟩) lbW).trans b4; have l1 := cell_lt e0; have l2 := cell_lt f0)))) | (refine wpQuiet_split rfl rfl rfl rfl (fun hsp => ?_) (fun hsp => ?_); ((fail_if_success (cases hsp; done)); simp only [hsp]; (try first | have hsq : _ < _ := of_decide_eq_true hsp | have hsq : _ ≤ _ := of_decide_eq_true hsp | have hsq : ¬ _ < _ := of_decide_eq_false hsp | have hsq : ¬ _ ≤ _ := of_decide_eq_false hsp)); rotate_left; ((fail_if_success (cases hsp; done)); simp only [hsp]; (try first | have hsq : _ < _ := of_decide_eq_true hsp | have hsq : _ ≤ _ := of_decide_eq_true hsp | have hsq : ¬ _ < _ := of_decide_eq_false hsp | have hsq : ¬ _ ≤ _ := of_decide_eq_false hsp))))); (all_goals (refine wpQuiet_nil ?_; intro x))))
            go_roundw
            case rel => exact ⟨k + 1, L ++ [e], true, by omega, by go_num, by first | rfl | simp, by (try simp only [List.length_append, List.length_cons, List.length_nil]); omega, by refine hidden ?_; rw [HD.out, HF.out]; simp [putST, HZ.out], Hv1, hE_w1⟩
            case measure => simp [intOf]; omega
          · have hz' : (rc d.r e.r != 0) = true := by simp [hz]
            have HZ := hidden hz
            clear hz
            go_wp2_with (first | (first | (go_at_call 34; (with_reducible refine (l1Cmp_rc d.r e.r _).mono ?_); rintro _ _ ⟨rfl, x, rfl⟩) | ((go_at_call 33; (with_reducible refine (l4Copy_any _ _ _ _ _ _ e.path _ _ _ e.marks _ (HP.out.stays (hE0.trans (hE.trans ((by repeat (first | with_reducible exact Ext.refl _ | with_reducible apply Ext.and | with_reducible apply Ext.drewx | with_reducible apply Ext.alloc | with_reducible apply Ext.ext | with_reducible apply Ext.drew | with_reducible refine Ext.setCell ?_ (by simp) _)) : Ext wr _))).below) (HM.out.stays (hE0.trans (hE.trans ((by repeat (first | with_reducible exact Ext.refl _ | with_reducible apply Ext.and | with_reducible apply Ext.drewx | with_reducible apply Ext.alloc | with_reducible apply Ext.ext | with_reducible apply Ext.drew | with_reducible refine Ext.setCell ?_ (by simp) _)) : Ext wr _))).below) hk1 hk2).mono ?_); rintro _ wq ⟨q1, m1, d1, q2, m2, d2, rfl, C1, y1, rfl⟩; (try rw [ext_ext] at C1); obtain ⟨f, ho, hf, hlo⟩ := Cp.rt (d := e) C1 HV.out HV'.out HV2.out; have HO := hidden ho; have HLO := hidden (show ∀ b ∈ f, wr.heap.size ≤ b from fun b hb => Nat.le_trans ((by repeat (first | with_reducible exact Ext.refl _ | with_reducible apply Ext.and | with_reducible apply Ext.drewx | with_reducible apply Ext.alloc | with_reducible apply Ext.ext | with_reducible apply Ext.drew | with_reducible refine Ext.setCell ?_ (by simp) _)) : Ext wr _).size (hlo b hb)); clear C1 ho hf hlo)) | ((at_builtin; refine wpList_pushS (N := W.heap.size) (l := L) (d := e) rfl _ _ rfl tyi_Rt (by decide) (by rfl) (HA.out.ext ((by repeat (first | with_reducible exact Ext.refl _ | with_reducible apply Ext.and | with_reducible apply Ext.drewx | with_reducible apply Ext.alloc | with_reducible apply Ext.ext | with_reducible apply Ext.drew | with_reducible refine Ext.setCell ?_ (by simp) _)) : Ext wr _)) (by (try simp only [List.length_append, List.length_cons, List.length_nil]); omega) (by rfl) (Blk.newAt _ _ _ (by simp)) (StE.own (Ow.later HO.out (by repeat (first | with_reducible exact Ext.refl _ | with_reducible apply Ext.and | with_reducible apply Ext.drewx | with_reducible apply Ext.alloc | with_reducible apply Ext.ext | with_reducible apply Ext.drew | with_reducible refine Ext.setCell ?_ (by simp) _))) (fun b hb eq => by have h1 := (HA.out.low _ eq).2; have h2 := HLO.out b hb; omega)) (by have := hE.size; simp; omega) ?_; intro v1 w1 hv1 hg hX hv; have Hv1 := hidden hv1; have hE_w1 := hX W (hE.trans ((by repeat (first | with_reducible exact Ext.refl _ | with_reducible apply Ext.and | with_reducible apply Ext.drewx | with_reducible apply Ext.alloc | with_reducible apply Ext.ext | with_reducible apply Ext.drew | with_reducible refine Ext.setCell ?_ (by simp) _)) : Ext wr _)) (Nat.le_refl _); clear hv1 hg hX hv; have e0 : w1.cell? ⟨db, doff + k * 5, none⟩ = _ := (hE_w1.below.cell (p := ⟨db, doff + k * 5, none⟩) dlb).trans dc0; have e1 : w1.cell? ⟨db, doff + k * 5 + 1, none⟩ = _ := (hE_w1.below.cell (p := ⟨db, doff + k * 5 + 1, none⟩) dlb).trans dc1; have e2 : w1.cell? ⟨db, doff + k * 5 + 2, none⟩ = _ := (hE_w1.below.cell (p := ⟨db, doff + k * 5 + 2, none⟩) dlb).trans dc2; have e3 : w1.cell? ⟨db, doff + k * 5 + 3, none⟩ = _ := (hE_w1.below.cell (p := ⟨db, doff + k * 5 + 3, none⟩) dlb).trans dc3; have e4 : w1.cell? ⟨db, doff + k * 5 + 4, none⟩ = _ := (hE_w1.below.cell (p := ⟨db, doff + k * 5 + 4, none⟩) dlb).trans dc4; have f0 : w1.cell? ⟨w.heap.size, 0, none⟩ = _ := (hE_w1.below.cell (p := ⟨w.heap.size, 0, none⟩) lbW).trans b0; have f1 : w1.cell? ⟨w.heap.size, 1, none⟩ = _ := (hE_w1.below.cell (p := ⟨w.heap.size, 1, none⟩) lbW).trans b1; have f2 : w1.cell? ⟨w.heap.size, 2, none⟩ = _ := (hE_w1.below.cell (p := ⟨w.heap.size, 2, none⟩) lbW).trans b2; have f3 : w1.cell? ⟨w.heap.size, 3, none⟩ = _ := (hE_w1.below.cell (p := ⟨w.heap.size, 3, none⟩) lbW).trans b3; have f4 : w1.cell? ⟨w.heap.size, 4, none⟩ = _ := (hE_w1.below.cell (p := ⟨w.heap.size, 4, none⟩) lbW).trans b4; have l1 := cell_lt e0; have l2 := cell_lt f0)) | ((at_builtin; refine wpList_pushS (N := W.heap.size) (l := L ++ [e]) (d := d) rfl _ _ rfl tyi_Rt (by decide) (by rfl) (Hv1.out.ext ((by repeat (first | with_reducible exact Ext.refl _ | with_reducible apply Ext.and | with_reducible apply Ext.drewx | with_reducible apply Ext.alloc | with_reducible apply Ext.ext | with_reducible apply Ext.drew | with_reducible refine Ext.setCell ?_ (by simp) _)) : Ext w1 _)) (by (try simp only [List.length_append, List.length_cons, List.length_nil]); omega) (by rfl) (Blk.newAt _ _ _ (by simp)) (StE.base HRD.out (hE_w1.trans ((by repeat (first | with_reducible exact Ext.refl _ | with_reducible apply Ext.and | with_reducible apply Ext.drewx | with_reducible apply Ext.alloc | with_reducible apply Ext.ext | with_reducible apply Ext.drew | with_reducible refine Ext.setCell ?_ (by simp) _)) : Ext w1 _)) (fun b eq => (Hv1.out.low _ eq).1)) (by have := hE_w1.size; simp; omega) ?_; intro v2 w2 hv2 hg hX hv; have Hv2 := hidden hv2; have hE_w2 := hX W (hE_w1.trans ((by repeat (first | with_reducible exact Ext.refl _ | with_reducible apply Ext.and | with_reducible apply Ext.drewx | with_reducible apply Ext.alloc | with_reducible apply Ext.ext | with_reducible apply Ext.drew | with_reducible refine Ext.setCell ?_ (by simp) _)) : Ext w1 _)) (Nat.le_refl _); clear hv2 hg hX hv; have e0 : w2.cell? ⟨db, doff + k * 5, none⟩ = _ := (hE_w2.below.cell (p := ⟨db, doff + k * 5, none⟩) dlb).trans dc0; have e1 : w2.cell? ⟨db, doff + k * 5 + 1, none⟩ = _ := (hE_w2.below.cell (p := ⟨db, doff + k * 5 + 1, none⟩) dlb).trans dc1; have e2 : w2.cell? ⟨db, doff + k * 5 + 2, none⟩ = _ := (hE_w2.below.cell (p := ⟨db, doff + k * 5 + 2, none⟩) dlb).trans dc2; have e3 : w2.cell? ⟨db, doff + k * 5 + 3, none⟩ = _ := (hE_w2.below.cell (p := ⟨db, doff + k * 5 + 3, none⟩) dlb).trans dc3; have e4 : w2.cell? ⟨db, doff + k * 5 + 4, none⟩ = _ := (hE_w2.below.cell (p := ⟨db, doff + k * 5 + 4, none⟩) dlb).trans dc4; have f0 : w2.cell? ⟨w.heap.size, 0, none⟩ = _ := (hE_w2.below.cell (p := ⟨w.heap.size, 0, none⟩) lbW).trans b0; have f1 : w2.cell? ⟨w.heap.size, 1, none⟩ = _ := (hE_w2.below.cell (p := ⟨w.heap.size, 1, none⟩) lbW).trans b1; have f2 : w2.cell? ⟨w.heap.size, 2, none⟩ = _ := (hE_w2.below.cell (p := ⟨w.heap.size, 2, none⟩) lbW).trans b2; have f3 : w2.cell? ⟨w.heap.size, 3, none⟩ = _ := (hE_w2.below.cell (p := ⟨w.heap.size, 3, none⟩) lbW).trans b3; have f4 : w2.cell? ⟨w.heap.size, 4, none⟩ = _ := (hE_w2.below.cell (p := ⟨w.heap.size, 4, none⟩) lbW).trans b4; have l1 := cell_lt e0; have l2 := cell_lt f0))) | ((first | with_reducible refine wp_region_qe (by kernel_rfl) (by kernel_rfl) ?_ | with_reducible refine wp_region_q (by kernel_rfl) (by kernel_rfl) ?_); (repeat' (first | go_big_quiet_step ((first | (go_at_call 34; first | with_reducible exact Calls.qb (by assumption) (l1Cmp_rc d.r e.r _) | with_reducible exact Calls.q (l1Cmp_rc d.r e.r _)) | ((go_at_call 33; (with_reducible refine (l4Copy_any _ _ _ _ _ _ e.path _ _ _ e.marks _ (HP.out.stays (hE0.trans (hE.trans ((by repeat (first | with_reducible exact Ext.refl _ | with_reducible apply Ext.and | with_reducible apply Ext.drewx | with_reducible apply Ext.alloc | with_reducible apply Ext.ext | with_reducible apply Ext.drew | with_reducible refine Ext.setCell ?_ (by simp) _)) : Ext wr _))).below) (HM.out.stays (hE0.trans (hE.trans ((by repeat (first | with_reducible exact Ext.refl _ | with_reducible apply Ext.and | with_reducible apply Ext.drewx | with_reducible apply Ext.alloc | with_reducible apply Ext.ext | with_reducible apply Ext.drew | with_reducible refine Ext.setCell ?_ (by simp) _)) : Ext wr _))).below) hk1 hk2).mono ?_); rintro _ wq ⟨q1, m1, d1, q2, m2, d2, rfl, C1, y1, rfl⟩; (try rw [ext_ext] at C1); obtain ⟨f, ho, hf, hlo⟩ := Cp.rt (d := e) C1 HV.out HV'.out HV2.out; have HO := hidden ho; have HLO := hidden (show ∀ b ∈ f, wr.heap.size ≤ b from fun b hb => Nat.le_trans ((by repeat (first | with_reducible exact Ext.refl _ | with_reducible apply Ext.and | with_reducible apply Ext.drewx | with_reducible apply Ext.alloc | with_reducible apply Ext.ext | with_reducible apply Ext.drew | with_reducible refine Ext.setCell ?_ (by simp) _)) : Ext wr _).size (hlo b hb)); clear C1 ho hf hlo)) | ((at_builtin; refine wpList_pushS (N := W.heap.size) (l := L) (d := e) rfl _ _ rfl tyi_Rt (by decide) (by rfl) (HA.out.ext ((by repeat (first | with_reducible exact Ext.refl _ | with_reducible apply Ext.and | with_reducible apply Ext.drewx | with_reducible apply Ext.alloc | with_reducible apply Ext.ext | with_reducible apply Ext.drew | with_reducible refine Ext.setCell ?_ (by simp) _)) : Ext wr _)) (by (try simp only [List.length_append, List.length_cons, List.length_nil]); omega) (by rfl) (Blk.newAt _ _ _ (by simp)) (StE.own (Ow.later HO.out (by repeat (first | with_reducible exact Ext.refl _ | with_reducible apply Ext.and | with_reducible apply Ext.drewx | with_reducible apply Ext.alloc | with_reducible apply Ext.ext | with_reducible apply Ext.drew | with_reducible refine Ext.setCell ?_ (by simp) _))) (fun b hb eq => by have h1 := (HA.out.low _ eq).2; have h2 := HLO.out b hb; omega)) (by have := hE.size; simp; omega) ?_; intro v1 w1 hv1 hg hX hv; have Hv1 := hidden hv1; have hE_w1 := hX W (hE.trans ((by repeat (first | with_reducible exact Ext.refl _ | with_reducible apply Ext.and | with_reducible apply Ext.drewx | with_reducible apply Ext.alloc | with_reducible apply Ext.ext | with_reducible apply Ext.drew | with_reducible refine Ext.setCell ?_ (by simp) _)) : Ext wr _)) (Nat.le_refl _); clear hv1 hg hX hv; have e0 : w1.cell? ⟨db, doff + k * 5, none⟩ = _ := (hE_w1.below.cell (p := ⟨db, doff + k * 5, none⟩) dlb).trans dc0; have e1 : w1.cell? ⟨db, doff + k * 5 + 1, none⟩ = _ := (hE_w1.below.cell (p := ⟨db, doff + k * 5 + 1, none⟩) dlb).trans dc1; have e2 : w1.cell? ⟨db, doff + k * 5 + 2, none⟩ = _ := (hE_w1.below.cell (p := ⟨db, doff + k * 5 + 2, none⟩) dlb).trans dc2; have e3 : w1.cell? ⟨db, doff + k * 5 + 3, none⟩ = _ := (hE_w1.below.cell (p := ⟨db, doff + k * 5 + 3, none⟩) dlb).trans dc3; have e4 : w1.cell? ⟨db, doff + k * 5 + 4, none⟩ = _ := (hE_w1.below.cell (p := ⟨db, doff + k * 5 + 4, none⟩) dlb).trans dc4; have f0 : w1.cell? ⟨w.heap.size, 0, none⟩ = _ := (hE_w1.below.cell (p := ⟨w.heap.size, 0, none⟩) lbW).trans b0; have f1 : w1.cell? ⟨w.heap.size, 1, none⟩ = _ := (hE_w1.below.cell (p := ⟨w.heap.size, 1, none⟩) lbW).trans b1; have f2 : w1.cell? ⟨w.heap.size, 2, none⟩ = _ := (hE_w1.below.cell (p := ⟨w.heap.size, 2, none⟩) lbW).trans b2; have f3 : w1.cell? ⟨w.heap.size, 3, none⟩ = _ := (hE_w1.below.cell (p := ⟨w.heap.size, 3, none⟩) lbW).trans b3; have f4 : w1.cell? ⟨w.heap.size, 4, none⟩ = _ := (hE_w1.below.cell (p := ⟨w.heap.size, 4, none⟩) lbW).trans b4; have l1 := cell_lt e0; have l2 := cell_lt f0)) | ((at_builtin; refine wpList_pushS (N := W.heap.size) (l := L ++ [e]) (d := d) rfl _ _ rfl tyi_Rt (by decide) (by rfl) (Hv1.out.ext ((by repeat (first | with_reducible exact Ext.refl _ | with_reducible apply Ext.and | with_reducible apply Ext.drewx | with_reducible apply Ext.alloc | with_reducible apply Ext.ext | with_reducible apply Ext.drew | with_reducible refine Ext.setCell ?_ (by simp) _)) : Ext w1 _)) (by (try simp only [List.length_append, List.length_cons, List.length_nil]); omega) (by rfl) (Blk.newAt _ _ _ (by simp)) (StE.base HRD.out (hE_w1.trans ((by repeat (first | with_reducible exact Ext.refl _ | with_reducible apply Ext.and | with_reducible apply Ext.drewx | with_reducible apply Ext.alloc | with_reducible apply Ext.ext | with_reducible apply Ext.drew | with_reducible refine Ext.setCell ?_ (by simp) _)) : Ext w1 _)) (fun b eq => (Hv1.out.low _ eq).1)) (by have := hE_w1.size; simp; omega) ?_; intro v2 w2 hv2 hg hX hv; have Hv2 := hidden hv2; have hE_w2 := hX W (hE_w1.trans ((by repeat (first | with_reducible exact Ext.refl _ | with_reducible apply Ext.and | with_reducible apply Ext.drewx | with_reducible apply Ext.alloc | with_reducible apply Ext.ext | with_reducible apply Ext.drew | with_reducible refine Ext.setCell ?_ (by simp) _)) : Ext w1 _)) (Nat.le_refl _); clear hv2 hg hX hv; have e0 : w2.cell? ⟨db, doff + k * 5, none⟩ = _ := (hE_w2.below.cell (p := ⟨db, doff + k * 5, none⟩) dlb).trans dc0; have e1 : w2.cell? ⟨db, doff + k * 5 + 1, none⟩ = _ := (hE_w2.below.cell (p := ⟨db, doff + k * 5 + 1, none⟩) dlb).trans dc1; have e2 : w2.cell? ⟨db, doff + k * 5 + 2, none⟩ = _ := (hE_w2.below.cell (p := ⟨db, doff + k * 5 + 2, none⟩) dlb).trans dc2; have e3 : w2.cell? ⟨db, doff + k * 5 + 3, none⟩ = _ := (hE_w2.below.cell (p := ⟨db, doff + k * 5 + 3, none⟩) dlb).trans dc3; have e4 : w2.cell? ⟨db, doff + k * 5 + 4, none⟩ = _ := (hE_w2.below.cell (p := ⟨db, doff + k * 5 + 4, none⟩) dlb).trans dc4; have f0 : w2.cell? ⟨w.heap.size, 0, none⟩ = _ := (hE_w2.below.cell (p := ⟨w.heap.size, 0, none⟩) lbW).trans b0; have f1 : w2.cell? ⟨w.heap.size, 1, none⟩ = _ := (hE_w2.below.cell (p := ⟨w.heap.size, 1, none⟩) lbW).trans b1; have f2 : w2.cell? ⟨w.heap.size, 2, none⟩ = _ := (hE_w2.below.cell (p := ⟨w.heap.size, 2, none⟩) lbW).trans b2; have f3 : w2.cell? ⟨w.heap.size, 3, none⟩ = _ := (hE_w2.below.cell (p := ⟨w.heap.size, 3, none⟩) lbW).trans b3; have f4 : w2.cell? ⟨w.heap.size, 4, none⟩ = _ := (hE_w2.below.cell (p := ⟨w.heap.size, 4, none⟩) lbW).trans b4; have l1 := cell_lt e0; have l2 := cell_lt f0)))) | (refine wpQuiet_split rfl rfl rfl rfl (fun hsp => ?_) (fun hsp => ?_); ((fail_if_success (cases hsp; done)); simp only [hsp]; (try first | have hsq : _ < _ := of_decide_eq_true hsp | have hsq : _ ≤ _ := of_decide_eq_true hsp | have hsq : ¬ _ < _ := of_decide_eq_false hsp | have hsq : ¬ _ ≤ _ := of_decide_eq_false hsp)); rotate_left; ((fail_if_success (cases hsp; done)); simp only [hsp]; (try first | have hsq : _ < _ := of_decide_eq_true hsp | have hsq : _ ≤ _ := of_decide_eq_true hsp | have hsq : ¬ _ < _ := of_decide_eq_false hsp | have hsq : ¬ _ ≤ _ := of_decide_eq_false hsp))))); (all_goals (refine wpQuiet_nil ?_; intro x))))
            go_roundw
            case rel => exact ⟨k + 1, L ++ [e] ++ [d], true, by omega, by go_num, by first | rfl | simp, by (try simp only [List.length_append, List.length_cons, List.length_nil]); omega, by refine hidden ?_; rw [HD.out, HF.out]; simp [putST, HZ.out, h0], Hv2, hE_w2⟩
            case measure => simp [intOf]; omega
        | true =>
          by_cases hz : rc d.r e.r = 0
          · have hz' : (rc d.r e.r != 0) = false := by simp [hz]
            have HZ := hidden hz
            clear hz
            go_wp2_with (first | (first | (go_at_call 34; (with_reducible refine (l1Cmp_rc d.r e.r _).mono ?_); rintro _ _ ⟨rfl, x, rfl⟩)) | ((first | with_reducible refine wp_region_qe (by kernel_rfl) (by kernel_rfl) ?_ | with_reducible refine wp_region_q (by kernel_rfl) (by kernel_rfl) ?_); (repeat' (first | go_big_quiet_step ((first | (go_at_call 34; first | with_reducible exact Calls.qb (by assumption) (l1Cmp_rc d.r e.r _) | with_reducible exact Calls.q (l1Cmp_rc d.r e.r _)))) | (refine wpQuiet_split rfl rfl rfl rfl (fun hsp => ?_) (fun hsp => ?_); ((fail_if_success (cases hsp; done)); simp only [hsp]; (try first | have hsq : _ < _ := of_decide_eq_true hsp | have hsq : _ ≤ _ := of_decide_eq_true hsp | have hsq : ¬ _ < _ := of_decide_eq_false hsp | have hsq : ¬ _ ≤ _ := of_decide_eq_false hsp)); rotate_left; ((fail_if_success (cases hsp; done)); simp only [hsp]; (try first | have hsq : _ < _ := of_decide_eq_true hsp | have hsq : _ ≤ _ := of_decide_eq_true hsp | have hsq : ¬ _ < _ := of_decide_eq_false hsp | have hsq : ¬ _ ≤ _ := of_decide_eq_false hsp))))); (all_goals (refine wpQuiet_nil ?_; intro x))))
            go_roundw
            case rel => exact ⟨k + 1, L, true, by omega, by go_num, by first | rfl | simp, by (try simp only [List.length_append, List.length_cons, List.length_nil]); omega, by refine hidden ?_; rw [HD.out, HF.out]; simp [putST, HZ.out], hidden (HA.out.ext ((by repeat (first | with_reducible exact Ext.refl _ | with_reducible apply Ext.and | with_reducible apply Ext.drewx | with_reducible apply Ext.alloc | with_reducible apply Ext.ext | with_reducible apply Ext.drew | with_reducible refine Ext.setCell ?_ (by simp) _)) : Ext wr _)), hE.trans ((by repeat (first | with_reducible exact Ext.refl _ | with_reducible apply Ext.and | with_reducible apply Ext.drewx | with_reducible apply Ext.alloc | with_reducible apply Ext.ext | with_reducible apply Ext.drew | with_reducible refine Ext.setCell ?_ (by simp) _)) : Ext wr _)⟩
            case measure => simp [intOf]; omega
          · have hz' : (rc d.r e.r != 0) = true := by simp [hz]
            have HZ := hidden hz
            clear hz
            go_wp2_with (first | (first | (go_at_call 34; (with_reducible refine (l1Cmp_rc d.r e.r _).mono ?_); rintro _ _ ⟨rfl, x, rfl⟩) | ((at_builtin; refine wpList_pushS (N := W.heap.size) (l := L) (d := d) rfl _ _ rfl tyi_Rt (by decide) (by rfl) (HA.out.ext ((by repeat (first | with_reducible exact Ext.refl _ | with_reducible apply Ext.and | with_reducible apply Ext.drewx | with_reducible apply Ext.alloc | with_reducible apply Ext.ext | with_reducible apply Ext.drew | with_reducible refine Ext.setCell ?_ (by simp) _)) : Ext wr _)) (by (try simp only [List.length_append, List.length_cons, List.length_nil]); omega) (by rfl) (Blk.newAt _ _ _ (by simp)) (StE.base HRD.out (hE.trans ((by repeat (first | with_reducible exact Ext.refl _ | with_reducible apply Ext.and | with_reducible apply Ext.drewx | with_reducible apply Ext.alloc | with_reducible apply Ext.ext | with_reducible apply Ext.drew | with_reducible refine Ext.setCell ?_ (by simp) _)) : Ext wr _)) (fun b eq => (HA.out.low _ eq).1)) (by have := hE.size; simp; omega) ?_; intro v1 w1 hv1 hg hX hv; have Hv1 := hidden hv1; have hE_w1 := hX W (hE.trans ((by repeat (first | with_reducible exact Ext.refl _ | with_reducible apply Ext.and | with_reducible apply Ext.drewx | with_reducible apply Ext.alloc | with_reducible apply Ext.ext | with_reducible apply Ext.drew | with_reducible refine Ext.setCell ?_ (by simp) _)) : Ext wr _)) (Nat.le_refl _); clear hv1 hg hX hv; have e0 : w1.cell? ⟨db, doff + k * 5, none⟩ = _ := (hE_w1.below.cell (p := ⟨db, doff + k * 5, none⟩) dlb).trans dc0; have e1 : w1.cell? ⟨db, doff + k * 5 + 1, none⟩ = _ := (hE_w1.below.cell (p := ⟨db, doff + k * 5 + 1, none⟩) dlb).trans dc1; have e2 : w1.cell? ⟨db, doff + k * 5 + 2, none⟩ = _ := (hE_w1.below.cell (p := ⟨db, doff + k * 5 + 2, none⟩) dlb).trans dc2; have e3 : w1.cell? ⟨db, doff + k * 5 + 3, none⟩ = _ := (hE_w1.below.cell (p := ⟨db, doff + k * 5 + 3, none⟩) dlb).trans dc3; have e4 : w1.cell? ⟨db, doff + k * 5 + 4, none⟩ = _ := (hE_w1.below.cell (p := ⟨db, doff + k * 5 + 4, none⟩) dlb).trans dc4; have f0 : w1.cell? ⟨w.heap.size, 0, none⟩ = _ := (hE_w1.below.cell (p := ⟨w.heap.size, 0, none⟩) lbW).trans b0; have f1 : w1.cell? ⟨w.heap.size, 1, none⟩ = _ := (hE_w1.below.cell (p := ⟨w.heap.size, 1, none⟩) lbW).trans b1; have f2 : w1.cell? ⟨w.heap.size, 2, none⟩ = _ := (hE_w1.below.cell (p := ⟨w.heap.size, 2, none⟩) lbW).trans b2; have f3 : w1.cell? ⟨w.heap.size, 3, none⟩ = _ := (hE_w1.below.cell (p := ⟨w.heap.size, 3, none⟩) lbW).trans b3; have f4 : w1.cell? ⟨w.heap.size, 4, none⟩ = _ := (hE_w1.below.cell (p := ⟨w.heap.size, 4, none⟩) lbW).trans b4; have l1 := cell_lt e0; have l2 := cell_lt f0))) | ((first | with_reducible refine wp_region_qe (by kernel_rfl) (by kernel_rfl) ?_ | with_reducible refine wp_region_q (by kernel_rfl) (by kernel_rfl) ?_); (repeat' (first | go_big_quiet_step ((first | (go_at_call 34; first | with_reducible exact Calls.qb (by assumption) (l1Cmp_rc d.r e.r _) | with_reducible exact Calls.q (l1Cmp_rc d.r e.r _)) | ((at_builtin; refine wpList_pushS (N := W.heap.size) (l := L) (d := d) rfl _ _ rfl tyi_Rt (by decide) (by rfl) (HA.out.ext ((by repeat (first | with_reducible exact Ext.refl _ | with_reducible apply Ext.and | with_reducible apply Ext.drewx | with_reducible apply Ext.alloc | with_reducible apply Ext.ext | with_reducible apply Ext.drew | with_reducible refine Ext.setCell ?_ (by simp) _)) : Ext wr _)) (by (try simp only [List.length_append, List.length_cons, List.length_nil]); omega) (by rfl) (Blk.newAt _ _ _ (by simp)) (StE.base HRD.out (hE.trans ((by repeat (first | with_reducible exact Ext.refl _ | with_reducible apply Ext.and | with_reducible apply Ext.drewx | with_reducible apply Ext.alloc | with_reducible apply Ext.ext | with_reducible apply Ext.drew | with_reducible refine Ext.setCell ?_ (by simp) _)) : Ext wr _)) (fun b eq => (HA.out.low _ eq).1)) (by have := hE.size; simp; omega) ?_; intro v1 w1 hv1 hg hX hv; have Hv1 := hidden hv1; have hE_w1 := hX W (hE.trans ((by repeat (first | with_reducible exact Ext.refl _ | with_reducible apply Ext.and | with_reducible apply Ext.drewx | with_reducible apply Ext.alloc | with_reducible apply Ext.ext | with_reducible apply Ext.drew | with_reducible refine Ext.setCell ?_ (by simp) _)) : Ext wr _)) (Nat.le_refl _); clear hv1 hg hX hv; have e0 : w1.cell? ⟨db, doff + k * 5, none⟩ = _ := (hE_w1.below.cell (p := ⟨db, doff + k * 5, none⟩) dlb).trans dc0; have e1 : w1.cell? ⟨db, doff + k * 5 + 1, none⟩ = _ := (hE_w1.below.cell (p := ⟨db, doff + k * 5 + 1, none⟩) dlb).trans dc1; have e2 : w1.cell? ⟨db, doff + k * 5 + 2, none⟩ = _ := (hE_w1.below.cell (p := ⟨db, doff + k * 5 + 2, none⟩) dlb).trans dc2; have e3 : w1.cell? ⟨db, doff + k * 5 + 3, none⟩ = _ := (hE_w1.below.cell (p := ⟨db, doff + k * 5 + 3, none⟩) dlb).trans dc3; have e4 : w1.cell? ⟨db, doff + k * 5 + 4, none⟩ = _ := (hE_w1.below.cell (p := ⟨db, doff + k * 5 + 4, none⟩) dlb).trans dc4; have f0 : w1.cell? ⟨w.heap.size, 0, none⟩ = _ := (hE_w1.below.cell (p := ⟨w.heap.size, 0, none⟩) lbW).trans b0; have f1 : w1.cell? ⟨w.heap.size, 1, none⟩ = _ := (hE_w1.below.cell (p := ⟨w.heap.size, 1, none⟩) lbW).trans b1; have f2 : w1.cell? ⟨w.heap.size, 2, none⟩ = _ := (hE_w1.below.cell (p := ⟨w.heap.size, 2, none⟩) lbW).trans b2; have f3 : w1.cell? ⟨w.heap.size, 3, none⟩ = _ := (hE_w1.below.cell (p := ⟨w.heap.size, 3, none⟩) lbW).trans b3; have f4 : w1.cell? ⟨w.heap.size, 4, none⟩ = _ := (hE_w1.below.cell (p := ⟨w.heap.size, 4, none⟩) lbW).trans b4; have l1 := cell_lt e0; have l2 := cell_lt f0)))) | (refine wpQuiet_split rfl rfl rfl rfl (fun hsp => ?_) (fun hsp => ?_); ((fail_if_success (cases hsp; done)); simp only [hsp]; (try first | have hsq : _ < _ := of_decide_eq_true hsp | have hsq : _ ≤ _ := of_decide_eq_true hsp | have hsq : ¬ _ < _ := of_decide_eq_false hsp | have hsq : ¬ _ ≤ _ := of_decide_eq_false hsp)); rotate_left; ((fail_if_success (cases hsp; done)); simp only [hsp]; (try first | have hsq : _ < _ := of_decide_eq_true hsp | have hsq : _ ≤ _ := of_decide_eq_true hsp | have hsq : ¬ _ < _ := of_decide_eq_false hsp | have hsq : ¬ _ ≤ _ := of_decide_eq_false hsp))))); (all_goals (refine wpQuiet_nil ?_; intro x))))
            go_roundw
            case rel => exact ⟨k + 1, L ++ [d], true, by omega, by go_num, by first | rfl | simp, by (try simp only [List.length_append, List.length_cons, List.length_nil]); omega, by refine hidden ?_; rw [HD.out, HF.out]; simp [putST, HZ.out], Hv1, hE_w1⟩
            case measure => simp [intOf]; omega
      · have hb0 := decide_eq_false h0
        have hz' : (rc d.r e.r != 0) = true := by simp; omega
        have HZ := hidden (show ¬ rc d.r e.r = 0 by omega)
        have HN := hidden h0
        cases pb with
        | false =>
            go_wp2_with (first | (first | (go_at_call 34; (with_reducible refine (l1Cmp_rc d.r e.r _).mono ?_); rintro _ _ ⟨rfl, x, rfl⟩) | ((at_builtin; refine wpList_pushS (N := W.heap.size) (l := L) (d := d) rfl _ _ rfl tyi_Rt (by decide) (by rfl) (HA.out.ext ((by repeat (first | with_reducible exact Ext.refl _ | with_reducible apply Ext.and | with_reducible apply Ext.drewx | with_reducible apply Ext.alloc | with_reducible apply Ext.ext | with_reducible apply Ext.drew | with_reducible refine Ext.setCell ?_ (by simp) _)) : Ext wr _)) (by (try simp only [List.length_append, List.length_cons, List.length_nil]); omega) (by rfl) (Blk.newAt _ _ _ (by simp)) (StE.base HRD.out (hE.trans ((by repeat (first | with_reducible exact Ext.refl _ | with_reducible apply Ext.and | with_reducible apply Ext.drewx | with_reducible apply Ext.alloc | with_reducible apply Ext.ext | with_reducible apply Ext.drew | with_reducible refine Ext.setCell ?_ (by simp) _)) : Ext wr _)) (fun b eq => (HA.out.low _ eq).1)) (by have := hE.size; simp; omega) ?_; intro v1 w1 hv1 hg hX hv; have Hv1 := hidden hv1; have hE_w1 := hX W (hE.trans ((by repeat (first | with_reducible exact Ext.refl _ | with_reducible apply Ext.and | with_reducible apply Ext.drewx | with_reducible apply Ext.alloc | with_reducible apply Ext.ext | with_reducible apply Ext.drew | with_reducible refine Ext.setCell ?_ (by simp) _)) : Ext wr _)) (Nat.le_refl _); clear hv1 hg hX hv; have e0 : w1.cell? ⟨db, doff + k * 5, none⟩ = _ := (hE_w1.below.cell (p := ⟨db, doff + k * 5, none⟩) dlb).trans dc0; have e1 : w1.cell? ⟨db, doff + k * 5 + 1, none⟩ = _ := (hE_w1.below.cell (p := ⟨db, doff + k * 5 + 1, none⟩) dlb).trans dc1; have e2 : w1.cell? ⟨db, doff + k * 5 + 2, none⟩ = _ := (hE_w1.below.cell (p := ⟨db, doff + k * 5 + 2, none⟩) dlb).trans dc2; have e3 : w1.cell? ⟨db, doff + k * 5 + 3, none⟩ = _ := (hE_w1.below.cell (p := ⟨db, doff + k * 5 + 3, none⟩) dlb).trans dc3; have e4 : w1.cell? ⟨db, doff + k * 5 + 4, none⟩ = _ := (hE_w1.below.cell (p := ⟨db, doff + k * 5 + 4, none⟩) dlb).trans dc4; have f0 : w1.cell? ⟨w.heap.size, 0, none⟩ = _ := (hE_w1.below.cell (p := ⟨w.heap.size, 0, none⟩) lbW).trans b0; have f1 : w1.cell? ⟨w.heap.size, 1, none⟩ = _ := (hE_w1.below.cell (p := ⟨w.heap.size, 1, none⟩) lbW).trans b1; have f2 : w1.cell? ⟨w.heap.size, 2, none⟩ = _ := (hE_w1.below.cell (p := ⟨w.heap.size, 2, none⟩) lbW).trans b2; have f3 : w1.cell? ⟨w.heap.size, 3, none⟩ = _ := (hE_w1.below.cell (p := ⟨w.heap.size, 3, none⟩) lbW).trans b3; have f4 : w1.cell? ⟨w.heap.size, 4, none⟩ = _ := (hE_w1.below.cell (p := ⟨w.heap.size, 4, none⟩) lbW).trans b4; have l1 := cell_lt e0; have l2 := cell_lt f0))) | ((first | with_reducible refine wp_region_qe (by kernel_rfl) (by kernel_rfl) ?_ | with_reducible refine wp_region_q (by kernel_rfl) (by kernel_rfl) ?_); (repeat' (first | go_big_quiet_step ((first | (go_at_call 34; first | with_reducible exact Calls.qb (by assumption) (l1Cmp_rc d.r e.r _) | with_reducible exact Calls.q (l1Cmp_rc d.r e.r _)) | ((at_builtin; refine wpList_pushS (N := W.heap.size) (l := L) (d := d) rfl _ _ rfl tyi_Rt (by decide) (by rfl) (HA.out.ext ((by repeat (first | with_reducible exact Ext.refl _ | with_reducible apply Ext.and | with_reducible apply Ext.drewx | with_reducible apply Ext.alloc | with_reducible apply Ext.ext | with_reducible apply Ext.drew | with_reducible refine Ext.setCell ?_ (by simp) _)) : Ext wr _)) (by (try simp only [List.length_append, List.length_cons, List.length_nil]); omega) (by rfl) (Blk.newAt _ _ _ (by simp)) (StE.base HRD.out (hE.trans ((by repeat (first | with_reducible exact Ext.refl _ | with_reducible apply Ext.and | with_reducible apply Ext.drewx | with_reducible apply Ext.alloc | with_reducible apply Ext.ext | with_reducible apply Ext.drew | with_reducible refine Ext.setCell ?_ (by simp) _)) : Ext wr _)) (fun b eq => (HA.out.low _ eq).1)) (by have := hE.size; simp; omega) ?_; intro v1 w1 hv1 hg hX hv; have Hv1 := hidden hv1; have hE_w1 := hX W (hE.trans ((by repeat (first | with_reducible exact Ext.refl _ | with_reducible apply Ext.and | with_reducible apply Ext.drewx | with_reducible apply Ext.alloc | with_reducible apply Ext.ext | with_reducible apply Ext.drew | with_reducible refine Ext.setCell ?_ (by simp) _)) : Ext wr _)) (Nat.le_refl _); clear hv1 hg hX hv; have e0 : w1.cell? ⟨db, doff + k * 5, none⟩ = _ := (hE_w1.below.cell (p := ⟨db, doff + k * 5, none⟩) dlb).trans dc0; have e1 : w1.cell? ⟨db, doff + k * 5 + 1, none⟩ = _ := (hE_w1.below.cell (p := ⟨db, doff + k * 5 + 1, none⟩) dlb).trans dc1; have e2 : w1.cell? ⟨db, doff + k * 5 + 2, none⟩ = _ := (hE_w1.below.cell (p := ⟨db, doff + k * 5 + 2, none⟩) dlb).trans dc2; have e3 : w1.cell? ⟨db, doff + k * 5 + 3, none⟩ = _ := (hE_w1.below.cell (p := ⟨db, doff + k * 5 + 3, none⟩) dlb).trans dc3; have e4 : w1.cell? ⟨db, doff + k * 5 + 4, none⟩ = _ := (hE_w1.below.cell (p := ⟨db, doff + k * 5 + 4, none⟩) dlb).trans dc4; have f0 : w1.cell? ⟨w.heap.size, 0, none⟩ = _ := (hE_w1.below.cell (p := ⟨w.heap.size, 0, none⟩) lbW).trans b0; have f1 : w1.cell? ⟨w.heap.size, 1, none⟩ = _ := (hE_w1.below.cell (p := ⟨w.heap.size, 1, none⟩) lbW).trans b1; have f2 : w1.cell? ⟨w.heap.size, 2, none⟩ = _ := (hE_w1.below.cell (p := ⟨w.heap.size, 2, none⟩) lbW).trans b2; have f3 : w1.cell? ⟨w.heap.size, 3, none⟩ = _ := (hE_w1.below.cell (p := ⟨w.heap.size, 3, none⟩) lbW).trans b3; have f4 : w1.cell? ⟨w.heap.size, 4, none⟩ = _ := (hE_w1.below.cell (p := ⟨w.heap.size, 4, none⟩) lbW).trans b4; have l1 := cell_lt e0; have l2 := cell_lt f0)))) | (refine wpQuiet_split rfl rfl rfl rfl (fun hsp => ?_) (fun hsp => ?_); ((fail_if_success (cases hsp; done)); simp only [hsp]; (try first | have hsq : _ < _ := of_decide_eq_true hsp | have hsq : _ ≤ _ := of_decide_eq_true hsp | have hsq : ¬ _ < _ := of_decide_eq_false hsp | have hsq : ¬ _ ≤ _ := of_decide_eq_false hsp)); rotate_left; ((fail_if_success (cases hsp; done)); simp only [hsp]; (try first | have hsq : _ < _ := of_decide_eq_true hsp | have hsq : _ ≤ _ := of_decide_eq_true hsp | have hsq : ¬ _ < _ := of_decide_eq_false hsp | have hsq : ¬ _ ≤ _ := of_decide_eq_false hsp))))); (all_goals (refine wpQuiet_nil ?_; intro x))))
            go_roundw
            case rel => exact ⟨k + 1, L ++ [d], false, by omega, by go_num, by first | rfl | simp, by (try simp only [List.length_append, List.length_cons, List.length_nil]); omega, by refine hidden ?_; rw [HD.out, HF.out]; simp [putST, HZ.out, HN.out], Hv1, hE_w1⟩
            case measure => simp [intOf]; omega
        | true =>
            go_wp2_with (first | (first | (go_at_call 34; (with_reducible refine (l1Cmp_rc d.r e.r _).mono ?_); rintro _ _ ⟨rfl, x, rfl⟩) | ((at_builtin; refine wpList_pushS (N := W.heap.size) (l := L) (d := d) rfl _ _ rfl tyi_Rt (by decide) (by rfl) (HA.out.ext ((by repeat (first | with_reducible exact Ext.refl _ | with_reducible apply Ext.and | with_reducible apply Ext.drewx | with_reducible apply Ext.alloc | with_reducible apply Ext.ext | with_reducible apply Ext.drew | with_reducible refine Ext.setCell ?_ (by simp) _)) : Ext wr _)) (by (try simp only [List.length_append, List.length_cons, List.length_nil]); omega) (by rfl) (Blk.newAt _ _ _ (by simp)) (StE.base HRD.out (hE.trans ((by repeat (first | with_reducible exact Ext.refl _ | with_reducible apply Ext.and | with_reducible apply Ext.drewx | with_reducible apply Ext.alloc | with_reducible apply Ext.ext | with_reducible apply Ext.drew | with_reducible refine Ext.setCell ?_ (by simp) _)) : Ext wr _)) (fun b eq => (HA.out.low _ eq).1)) (by have := hE.size; simp; omega) ?_; intro v1 w1 hv1 hg hX hv; have Hv1 := hidden hv1; have hE_w1 := hX W (hE.trans ((by repeat (first | with_reducible exact Ext.refl _ | with_reducible apply Ext.and | with_reducible apply Ext.drewx | with_reducible apply Ext.alloc | with_reducible apply Ext.ext | with_reducible apply Ext.drew | with_reducible refine Ext.setCell ?_ (by simp) _)) : Ext wr _)) (Nat.le_refl _); clear hv1 hg hX hv; have e0 : w1.cell? ⟨db, doff + k * 5, none⟩ = _ := (hE_w1.below.cell (p := ⟨db, doff + k * 5, none⟩) dlb).trans dc0; have e1 : w1.cell? ⟨db, doff + k * 5 + 1, none⟩ = _ := (hE_w1.below.cell (p := ⟨db, doff + k * 5 + 1, none⟩) dlb).trans dc1; have e2 : w1.cell? ⟨db, doff + k * 5 + 2, none⟩ = _ := (hE_w1.below.cell (p := ⟨db, doff + k * 5 + 2, none⟩) dlb).trans dc2; have e3 : w1.cell? ⟨db, doff + k * 5 + 3, none⟩ = _ := (hE_w1.below.cell (p := ⟨db, doff + k * 5 + 3, none⟩) dlb).trans dc3; have e4 : w1.cell? ⟨db, doff + k * 5 + 4, none⟩ = _ := (hE_w1.below.cell (p := ⟨db, doff + k * 5 + 4, none⟩) dlb).trans dc4; have f0 : w1.cell? ⟨w.heap.size, 0, none⟩ = _ := (hE_w1.below.cell (p := ⟨w.heap.size, 0, none⟩) lbW).trans b0; have f1 : w1.cell? ⟨w.heap.size, 1, none⟩ = _ := (hE_w1.below.cell (p := ⟨w.heap.size, 1, none⟩) lbW).trans b1; have f2 : w1.cell? ⟨w.heap.size, 2, none⟩ = _ := (hE_w1.below.cell (p := ⟨w.heap.size, 2, none⟩) lbW).trans b2; have f3 : w1.cell? ⟨w.heap.size, 3, none⟩ = _ := (hE_w1.below.cell (p := ⟨w.heap.size, 3, none⟩) lbW).trans b3; have f4 : w1.cell? ⟨w.heap.size, 4, none⟩ = _ := (hE_w1.below.cell (p := ⟨w.heap.size, 4, none⟩) lbW).trans b4; have l1 := cell_lt e0; have l2 := cell_lt f0))) | ((first | with_reducible refine wp_region_qe (by kernel_rfl) (by kernel_rfl) ?_ | with_reducible refine wp_region_q (by kernel_rfl) (by kernel_rfl) ?_); (repeat' (first | go_big_quiet_step ((first | (go_at_call 34; first | with_reducible exact Calls.qb (by assumption) (l1Cmp_rc d.r e.r _) | with_reducible exact Calls.q (l1Cmp_rc d.r e.r _)) | ((at_builtin; refine wpList_pushS (N := W.heap.size) (l := L) (d := d) rfl _ _ rfl tyi_Rt (by decide) (by rfl) (HA.out.ext ((by repeat (first | with_reducible exact Ext.refl _ | with_reducible apply Ext.and | with_reducible apply Ext.drewx | with_reducible apply Ext.alloc | with_reducible apply Ext.ext | with_reducible apply Ext.drew | with_reducible refine Ext.setCell ?_ (by simp) _)) : Ext wr _)) (by (try simp only [List.length_append, List.length_cons, List.length_nil]); omega) (by rfl) (Blk.newAt _ _ _ (by simp)) (StE.base HRD.out (hE.trans ((by repeat (first | with_reducible exact Ext.refl _ | with_reducible apply Ext.and | with_reducible apply Ext.drewx | with_reducible apply Ext.alloc | with_reducible apply Ext.ext | with_reducible apply Ext.drew | with_reducible refine Ext.setCell ?_ (by simp) _)) : Ext wr _)) (fun b eq => (HA.out.low _ eq).1)) (by have := hE.size; simp; omega) ?_; intro v1 w1 hv1 hg hX hv; have Hv1 := hidden hv1; have hE_w1 := hX W (hE.trans ((by repeat (first | with_reducible exact Ext.refl _ | with_reducible apply Ext.and | with_reducible apply Ext.drewx | with_reducible apply Ext.alloc | with_reducible apply Ext.ext | with_reducible apply Ext.drew | with_reducible refine Ext.setCell ?_ (by simp) _)) : Ext wr _)) (Nat.le_refl _); clear hv1 hg hX hv; have e0 : w1.cell? ⟨db, doff + k * 5, none⟩ = _ := (hE_w1.below.cell (p := ⟨db, doff + k * 5, none⟩) dlb).trans dc0; have e1 : w1.cell? ⟨db, doff + k * 5 + 1, none⟩ = _ := (hE_w1.below.cell (p := ⟨db, doff + k * 5 + 1, none⟩) dlb).trans dc1; have e2 : w1.cell? ⟨db, doff + k * 5 + 2, none⟩ = _ := (hE_w1.below.cell (p := ⟨db, doff + k * 5 + 2, none⟩) dlb).trans dc2; have e3 : w1.cell? ⟨db, doff + k * 5 + 3, none⟩ = _ := (hE_w1.below.cell (p := ⟨db, doff + k * 5 + 3, none⟩) dlb).trans dc3; have e4 : w1.cell? ⟨db, doff + k * 5 + 4, none⟩ = _ := (hE_w1.below.cell (p := ⟨db, doff + k * 5 + 4, none⟩) dlb).trans dc4; have f0 : w1.cell? ⟨w.heap.size, 0, none⟩ = _ := (hE_w1.below.cell (p := ⟨w.heap.size, 0, none⟩) lbW).trans b0; have f1 : w1.cell? ⟨w.heap.size, 1, none⟩ = _ := (hE_w1.below.cell (p := ⟨w.heap.size, 1, none⟩) lbW).trans b1; have f2 : w1.cell? ⟨w.heap.size, 2, none⟩ = _ := (hE_w1.below.cell (p := ⟨w.heap.size, 2, none⟩) lbW).trans b2; have f3 : w1.cell? ⟨w.heap.size, 3, none⟩ = _ := (hE_w1.below.cell (p := ⟨w.heap.size, 3, none⟩) lbW).trans b3; have f4 : w1.cell? ⟨w.heap.size, 4, none⟩ = _ := (hE_w1.below.cell (p := ⟨w.heap.size, 4, none⟩) lbW).trans b4; have l1 := cell_lt e0; have l2 := cell_lt f0)))) | (refine wpQuiet_split rfl rfl rfl rfl (fun hsp => ?_) (fun hsp => ?_); ((fail_if_success (cases hsp; done)); simp only [hsp]; (try first | have hsq : _ < _ := of_decide_eq_true hsp | have hsq : _ ≤ _ := of_decide_eq_true hsp | have hsq : ¬ _ < _ := of_decide_eq_false hsp | have hsq : ¬ _ ≤ _ := of_decide_eq_false hsp)); rotate_left; ((fail_if_success (cases hsp; done)); simp only [hsp]; (try first | have hsq : _ < _ := of_decide_eq_true hsp | have hsq : _ ≤ _ := of_decide_eq_true hsp | have hsq : ¬ _ < _ := of_decide_eq_false hsp | have hsq : ¬ _ ≤ _ := of_decide_eq_false hsp))))); (all_goals (refine wpQuiet_nil ?_; intro x))))
            go_roundw
            case rel => exact ⟨k + 1, L ++ [d], true, by omega, by go_num, by first | rfl | simp, by (try simp only [List.length_append, List.length_cons, List.length_nil]); omega, by refine hidden ?_; rw [HD.out, HF.out]; simp [putST, HZ.out, HN.out], Hv1, hE_w1⟩
            case measure => simp [intOf]; omega
    · obtain rfl : len = k := by omega
      have HQ : Hid (putET e (L, pb) = putLT t e) := by
        have h1 := putS_allT HT.out (e := e) []
        have h2 := HF.out
        rw [List.take_of_length_le (Nat.le_of_eq HL.out)] at h2
        show putET e (L, pb) = putLT t e
        rw [← h2, h1]; rfl
      cases pb with
      | true =>
        go_wp2_with (first | ((first | with_reducible refine wp_region_qe (by kernel_rfl) (by kernel_rfl) ?_ | with_reducible refine wp_region_q (by kernel_rfl) (by kernel_rfl) ?_); (repeat' (first | go_big_quiet_step (fail) | (refine wpQuiet_split rfl rfl rfl rfl (fun hsp => ?_) (fun hsp => ?_); ((fail_if_success (cases hsp; done)); simp only [hsp]; (try first | have hsq : _ < _ := of_decide_eq_true hsp | have hsq : _ ≤ _ := of_decide_eq_true hsp | have hsq : ¬ _ < _ := of_decide_eq_false hsp | have hsq : ¬ _ ≤ _ := of_decide_eq_false hsp)); rotate_left; ((fail_if_success (cases hsp; done)); simp only [hsp]; (try first | have hsq : _ < _ := of_decide_eq_true hsp | have hsq : _ ≤ _ := of_decide_eq_true hsp | have hsq : ¬ _ < _ := of_decide_eq_false hsp | have hsq : ¬ _ ≤ _ := of_decide_eq_false hsp))))); (all_goals (refine wpQuiet_nil ?_; intro x))))
        go_ret
        exact ⟨_, rfl, by have := HQ.out; simp only [putET, if_true] at this; rw [← this]; exact (HA.out.ext ((by repeat (first | with_reducible exact Ext.refl _ | with_reducible apply Ext.and | with_reducible apply Ext.drewx | with_reducible apply Ext.alloc | with_reducible apply Ext.ext | with_reducible apply Ext.drew | with_reducible refine Ext.setCell ?_ (by simp) _)) : Ext wr _)).base hE0.size, hE0.trans (by first | exact hE | exact hE.ext _ | exact hE.trans (by repeat (first | with_reducible exact Ext.refl _ | with_reducible apply Ext.and | with_reducible apply Ext.drewx | with_reducible apply Ext.alloc | with_reducible apply Ext.ext | with_reducible apply Ext.drew | with_reducible refine Ext.setCell ?_ (by simp) _)))⟩
      | false =>
        go_wp2_with (first | (first | ((go_at_call 33; (with_reducible refine (l4Copy_any _ _ _ _ _ _ e.path _ _ _ e.marks _ (HP.out.stays (hE0.trans (hE.trans ((by repeat (first | with_reducible exact Ext.refl _ | with_reducible apply Ext.and | with_reducible apply Ext.drewx | with_reducible apply Ext.alloc | with_reducible apply Ext.ext | with_reducible apply Ext.drew | with_reducible refine Ext.setCell ?_ (by simp) _)) : Ext wr _))).below) (HM.out.stays (hE0.trans (hE.trans ((by repeat (first | with_reducible exact Ext.refl _ | with_reducible apply Ext.and | with_reducible apply Ext.drewx | with_reducible apply Ext.alloc | with_reducible apply Ext.ext | with_reducible apply Ext.drew | with_reducible refine Ext.setCell ?_ (by simp) _)) : Ext wr _))).below) hk1 hk2).mono ?_); rintro _ wq ⟨q1, m1, d1, q2, m2, d2, rfl, C1, y1, rfl⟩; (try rw [ext_ext] at C1); obtain ⟨f, ho, hf, hlo⟩ := Cp.rt (d := e) C1 HV.out HV'.out HV2.out; have HO := hidden ho; have HLO := hidden (show ∀ b ∈ f, wr.heap.size ≤ b from fun b hb => Nat.le_trans ((by repeat (first | with_reducible exact Ext.refl _ | with_reducible apply Ext.and | with_reducible apply Ext.drewx | with_reducible apply Ext.alloc | with_reducible apply Ext.ext | with_reducible apply Ext.drew | with_reducible refine Ext.setCell ?_ (by simp) _)) : Ext wr _).size (hlo b hb)); clear C1 ho hf hlo)) | ((at_builtin; refine wpList_pushS (N := W.heap.size) (l := L) (d := e) rfl _ _ rfl tyi_Rt (by decide) (by rfl) (HA.out.ext ((by repeat (first | with_reducible exact Ext.refl _ | with_reducible apply Ext.and | with_reducible apply Ext.drewx | with_reducible apply Ext.alloc | with_reducible apply Ext.ext | with_reducible apply Ext.drew | with_reducible refine Ext.setCell ?_ (by simp) _)) : Ext wr _)) (by (try simp only [List.length_append, List.length_cons, List.length_nil]); omega) (by rfl) (Blk.newAt _ _ _ (by simp)) (StE.own (Ow.later HO.out (by repeat (first | with_reducible exact Ext.refl _ | with_reducible apply Ext.and | with_reducible apply Ext.drewx | with_reducible apply Ext.alloc | with_reducible apply Ext.ext | with_reducible apply Ext.drew | with_reducible refine Ext.setCell ?_ (by simp) _))) (fun b hb eq => by have h1 := (HA.out.low _ eq).2; have h2 := HLO.out b hb; omega)) (by have := hE.size; simp; omega) ?_; intro v1 w1 hv1 hg hX hv; have Hv1 := hidden hv1; have hE_w1 := hX W (hE.trans ((by repeat (first | with_reducible exact Ext.refl _ | with_reducible apply Ext.and | with_reducible apply Ext.drewx | with_reducible apply Ext.alloc | with_reducible apply Ext.ext | with_reducible apply Ext.drew | with_reducible refine Ext.setCell ?_ (by simp) _)) : Ext wr _)) (Nat.le_refl _); clear hv1 hg hX hv))) | ((first | with_reducible refine wp_region_qe (by kernel_rfl) (by kernel_rfl) ?_ | with_reducible refine wp_region_q (by kernel_rfl) (by kernel_rfl) ?_); (repeat' (first | go_big_quiet_step ((first | ((go_at_call 33; (with_reducible refine (l4Copy_any _ _ _ _ _ _ e.path _ _ _ e.marks _ (HP.out.stays (hE0.trans (hE.trans ((by repeat (first | with_reducible exact Ext.refl _ | with_reducible apply Ext.and | with_reducible apply Ext.drewx | with_reducible apply Ext.alloc | with_reducible apply Ext.ext | with_reducible apply Ext.drew | with_reducible refine Ext.setCell ?_ (by simp) _)) : Ext wr _))).below) (HM.out.stays (hE0.trans (hE.trans ((by repeat (first | with_reducible exact Ext.refl _ | with_reducible apply Ext.and | with_reducible apply Ext.drewx | with_reducible apply Ext.alloc | with_reducible apply Ext.ext | with_reducible apply Ext.drew | with_reducible refine Ext.setCell ?_ (by simp) _)) : Ext wr _))).below) hk1 hk2).mono ?_); rintro _ wq ⟨q1, m1, d1, q2, m2, d2, rfl, C1, y1, rfl⟩; (try rw [ext_ext] at C1); obtain ⟨f, ho, hf, hlo⟩ := Cp.rt (d := e) C1 HV.out HV'.out HV2.out; have HO := hidden ho; have HLO := hidden (show ∀ b ∈ f, wr.heap.size ≤ b from fun b hb => Nat.le_trans ((by repeat (first | with_reducible exact Ext.refl _ | with_reducible apply Ext.and | with_reducible apply Ext.drewx | with_reducible apply Ext.alloc | with_reducible apply Ext.ext | with_reducible apply Ext.drew | with_reducible refine Ext.setCell ?_ (by simp) _)) : Ext wr _).size (hlo b hb)); clear C1 ho hf hlo)) | ((at_builtin; refine wpList_pushS (N := W.heap.size) (l := L) (d := e) rfl _ _ rfl tyi_Rt (by decide) (by rfl) (HA.out.ext ((by repeat (first | with_reducible exact Ext.refl _ | with_reducible apply Ext.and | with_reducible apply Ext.drewx | with_reducible apply Ext.alloc | with_reducible apply Ext.ext | with_reducible apply Ext.drew | with_reducible refine Ext.setCell ?_ (by simp) _)) : Ext wr _)) (by (try simp only [List.length_append, List.length_cons, List.length_nil]); omega) (by rfl) (Blk.newAt _ _ _ (by simp)) (StE.own (Ow.later HO.out (by repeat (first | with_reducible exact Ext.refl _ | with_reducible apply Ext.and | with_reducible apply Ext.drewx | with_reducible apply Ext.alloc | with_reducible apply Ext.ext | with_reducible apply Ext.drew | with_reducible refine Ext.setCell ?_ (by simp) _))) (fun b hb eq => by have h1 := (HA.out.low _ eq).2; have h2 := HLO.out b hb; omega)) (by have := hE.size; simp; omega) ?_; intro v1 w1 hv1 hg hX hv; have Hv1 := hidden hv1; have hE_w1 := hX W (hE.trans ((by repeat (first | with_reducible exact Ext.refl _ | with_reducible apply Ext.and | with_reducible apply Ext.drewx | with_reducible apply Ext.alloc | with_reducible apply Ext.ext | with_reducible apply Ext.drew | with_reducible refine Ext.setCell ?_ (by simp) _)) : Ext wr _)) (Nat.le_refl _); clear hv1 hg hX hv)))) | (refine wpQuiet_split rfl rfl rfl rfl (fun hsp => ?_) (fun hsp => ?_); ((fail_if_success (cases hsp; done)); simp only [hsp]; (try first | have hsq : _ < _ := of_decide_eq_true hsp | have hsq : _ ≤ _ := of_decide_eq_true hsp | have hsq : ¬ _ < _ := of_decide_eq_false hsp | have hsq : ¬ _ ≤ _ := of_decide_eq_false hsp)); rotate_left; ((fail_if_success (cases hsp; done)); simp only [hsp]; (try first | have hsq : _ < _ := of_decide_eq_true hsp | have hsq : _ ≤ _ := of_decide_eq_true hsp | have hsq : ¬ _ < _ := of_decide_eq_false hsp | have hsq : ¬ _ ≤ _ := of_decide_eq_false hsp))))); (all_goals (refine wpQuiet_nil ?_; intro x))))
        go_ret
        exact ⟨_, rfl, by have := HQ.out; simp [putET] at this; rw [← this]; exact Hv1.out.base hE0.size, hE0.trans hE_w1⟩

theorem fin_S {α : Type} [Lay α] [OneC α] {N : Nat} {e : TypeId} {w w1 : World} {a : Option Addr} {n c : Nat} {l : List α} (h : AccS N e w1 (.slice a n c) l) (hE : Ext w w1) : ∃ x, w1 = Go.Proofs.YtlehcnfmagjilaaGreatDoor.ext w x ∧ Hid (Lay.rd (Go.Proofs.YtlehcnfmagjilaaGreatDoor.ext w x) [.slice a n c] l) := by
  have hs := h.sl
  obtain ⟨x, rfl⟩ := hE
  exact ⟨x, rfl, ⟨_, _, _, rfl, hs⟩⟩
theorem fin_S0 {w w1 : World} (e : TypeId) {B : Nat} (hE : Ext w w1) (hB : w1.heap.size = B) : ∃ x, w1.alloc (.cells #[] e) = Go.Proofs.YtlehcnfmagjilaaGreatDoor.ext w x ∧ Hid (Lay.rd (Go.Proofs.YtlehcnfmagjilaaGreatDoor.ext w x) [.slice (some ⟨B, 0, none⟩) 0 0] ([] : List Rt)) :=
  fin_S (N := w.heap.size) (AccS.madeAt hE.size hB) (hE.alloc _)
theorem rt_short3 {d : Rt} (h : rtOk d = true) : d.path.length ≤ 5 ∧ d.marks.length ≤ 9 := ⟨path_le (rtOk_pathB h), marks_le (rtOk_marks h)⟩
theorem any_find3 {α : Type} {p : α → Bool} {l : List α} (h : l.any p = true) : ∃ i : Nat, findI p l = (i : Int) ∧ i < l.length := by
  have hlt : l.findIdx p < l.length := List.findIdx_lt_length.2 (List.any_eq_true.1 h)
  exact ⟨l.findIdx p, by unfold findI; rw [if_pos h], hlt⟩

set_option maxRecDepth 20000 in
set_option maxHeartbeats 16000000 in
theorem sDeltaDo_any (l : List Rt) (d : Dl) (a : Option Addr) (an ac : Nat) (a1 : Option Addr) (n1 c1 : Nat) (a2 : Option Addr) (n2 c2 : Nat) (w : World) (h : SlRd w a an ac l) (h1 : SlRd w a1 n1 c1 d.drop) (h2 : SlRd w a2 n2 c2 d.tell) :
    Calls Tryz.prog 18 #[.slice a an ac, .agg #[.slice a1 n1 c1, .slice a2 n2 c2]] w fun x w' => ∃ b n c, x = .returned (.tuple #[.slice b n c, .bool (deltaDo l d).2]) ∧ ∃ y, w' = ext w y ∧ Hid (Lay.rd (ext w y) [.slice b n c] (deltaDo l d).1) := by
  obtain ⟨dd, dt⟩ := d
  have H := hidden h
  have H1 := hidden h1
  have H2 := hidden h2
  cases k1 : rtsOk l
  · have HR := hidden (ddo_no (d := ⟨dd, dt⟩) k1)
    go_enter Tryz.func18, Tryz.ntmps18
    go_wp2_with (first | (first | (go_at_call 51; (with_reducible refine (sRoutesOk_any _ _ _ l _ (H.out.stays ((by repeat (first | with_reducible exact Ext.refl _ | with_reducible apply Ext.and | with_reducible apply Ext.drewx | with_reducible apply Ext.alloc | with_reducible apply Ext.ext | with_reducible apply Ext.drew | with_reducible refine Ext.setCell ?_ (by simp) _)) : Ext _ _).below)).mono ?_); rintro _ _ ⟨rfl, x, rfl⟩)) | ((first | with_reducible refine wp_region_qe (by kernel_rfl) (by kernel_rfl) ?_ | with_reducible refine wp_region_q (by kernel_rfl) (by kernel_rfl) ?_); (repeat' (first | go_big_quiet_step ((first | (go_at_call 51; first | with_reducible exact Calls.qb (by assumption) (sRoutesOk_any _ _ _ l _ (H.out.stays ((by repeat (first | with_reducible exact Ext.refl _ | with_reducible apply Ext.and | with_reducible apply Ext.drewx | with_reducible apply Ext.alloc | with_reducible apply Ext.ext | with_reducible apply Ext.drew | with_reducible refine Ext.setCell ?_ (by simp) _)) : Ext _ _).below)) | with_reducible exact Calls.q (sRoutesOk_any _ _ _ l _ (H.out.stays ((by repeat (first | with_reducible exact Ext.refl _ | with_reducible apply Ext.and | with_reducible apply Ext.drewx | with_reducible apply Ext.alloc | with_reducible apply Ext.ext | with_reducible apply Ext.drew | with_reducible refine Ext.setCell ?_ (by simp) _)) : Ext _ _).below))))) | (refine wpQuiet_split rfl rfl rfl rfl (fun hsp => ?_) (fun hsp => ?_); ((fail_if_success (cases hsp; done)); simp only [hsp]; (try first | have hsq : _ < _ := of_decide_eq_true hsp | have hsq : _ ≤ _ := of_decide_eq_true hsp | have hsq : ¬ _ < _ := of_decide_eq_false hsp | have hsq : ¬ _ ≤ _ := of_decide_eq_false hsp)); rotate_left; ((fail_if_success (cases hsp; done)); simp only [hsp]; (try first | have hsq : _ < _ := of_decide_eq_true hsp | have hsq : _ ≤ _ := of_decide_eq_true hsp | have hsq : ¬ _ < _ := of_decide_eq_false hsp | have hsq : ¬ _ ≤ _ := of_decide_eq_false hsp))))); (all_goals (refine wpQuiet_nil ?_; intro x))) | ((first | with_reducible refine wp_region_seqSe (by kernel_rfl) (by kernel_rfl) ?_ | with_reducible refine wp_region_seqSw (by kernel_rfl) (by kernel_rfl) ?_); (repeat' (first | ((with_reducible refine wpSeqS_pure (by with_unfolding_all rfl) (fun Kq hKq => ?_)); (repeat' (first | go_big_quiet_step (fail) | (refine wpQuiet_split rfl rfl rfl rfl (fun hsp => ?_) (fun hsp => ?_); ((fail_if_success (cases hsp; done)); simp only [hsp]; (try first | have hsq : _ < _ := of_decide_eq_true hsp | have hsq : _ ≤ _ := of_decide_eq_true hsp | have hsq : ¬ _ < _ := of_decide_eq_false hsp | have hsq : ¬ _ ≤ _ := of_decide_eq_false hsp)); rotate_left; ((fail_if_success (cases hsp; done)); simp only [hsp]; (try first | have hsq : _ < _ := of_decide_eq_true hsp | have hsq : _ ≤ _ := of_decide_eq_true hsp | have hsq : ¬ _ < _ := of_decide_eq_false hsp | have hsq : ¬ _ ≤ _ := of_decide_eq_false hsp))))); (all_goals (refine wpQuiet_nil ?_; refine hKq _ ?_; clear hKq Kq))) | ((with_reducible refine wpSeqS_load (by with_unfolding_all rfl) (fun Kq hKq => ?_)); (repeat' (first | go_big_quiet_step (fail) | (refine wpQuiet_split rfl rfl rfl rfl (fun hsp => ?_) (fun hsp => ?_); ((fail_if_success (cases hsp; done)); simp only [hsp]; (try first | have hsq : _ < _ := of_decide_eq_true hsp | have hsq : _ ≤ _ := of_decide_eq_true hsp | have hsq : ¬ _ < _ := of_decide_eq_false hsp | have hsq : ¬ _ ≤ _ := of_decide_eq_false hsp)); rotate_left; ((fail_if_success (cases hsp; done)); simp only [hsp]; (try first | have hsq : _ < _ := of_decide_eq_true hsp | have hsq : _ ≤ _ := of_decide_eq_true hsp | have hsq : ¬ _ < _ := of_decide_eq_false hsp | have hsq : ¬ _ ≤ _ := of_decide_eq_false hsp))))); (all_goals (refine wpQuiet_nil ?_; refine hKq _ ?_; clear hKq Kq))) | ((with_reducible refine wpSeqS_act (by with_unfolding_all rfl) (fun Q' hQ' => ?_)); (go_wp2_with (first | (go_at_call 51; (with_reducible refine (sRoutesOk_any _ _ _ l _ (H.out.stays ((by repeat (first | with_reducible exact Ext.refl _ | with_reducible apply Ext.and | with_reducible apply Ext.drewx | with_reducible apply Ext.alloc | with_reducible apply Ext.ext | with_reducible apply Ext.drew | with_reducible refine Ext.setCell ?_ (by simp) _)) : Ext _ _).below)).mono ?_); rintro _ _ ⟨rfl, x, rfl⟩))); (all_goals (refine hQ' _ _ rfl ?_ ?_; (first | (focus (intro hbk; simp [brkB] at hbk; done)) | (focus (intro _; change Ext _ _; exact (by repeat (first | with_reducible assumption | with_reducible exact Ext.refl _ | with_reducible apply Ext.and | with_reducible apply Ext.drewx | with_reducible apply Ext.alloc | with_reducible apply Ext.ext | with_reducible apply Ext.drew | with_reducible refine Ext.setCell ?_ (by simp) _))))); clear hQ' Q'))))); (all_goals ((with_reducible refine wpSeqS_nil ?_)))))
    go_ret2
    rw [HR.out]
    exact ⟨_, _, _, rfl, fin_S0 _ (by repeat (first | with_reducible exact Ext.refl _ | with_reducible apply Ext.and | with_reducible apply Ext.drewx | with_reducible apply Ext.alloc | with_reducible apply Ext.ext | with_reducible apply Ext.drew | with_reducible refine Ext.setCell ?_ (by simp) _)) (by simp)⟩
  have hla := rts_le k1
  have hlc := h.2.1
  have hm := h.2.2.1
  have hlc1 := h1.2.1
  have hm1 := h1.2.2.1
  have hlc2 := h2.2.1
  have hm2 := h2.2.2.1
  have HL := hidden h.1
  have HL1 := hidden (show dd.length = n1 from h1.1)
  have HL2 := hidden (show dt.length = n2 from h2.1)
  unfold maxLen at hm hm1 hm2
  have HKA := hidden (show ∀ d ∈ l, rtOk d = true from fun d hd => rts_rt k1 hd)
  have HFL := hidden (Fine.of k1)
  have HK1 := hidden k1
  rw [h.1] at hla
  go_enter Tryz.func18, Tryz.ntmps18
  go_upto_region 3 with (first | (first | ((go_at_call 51; (with_reducible refine (sRoutesOk_any _ _ _ l _ (H.out.stays ((by repeat (first | with_reducible exact Ext.refl _ | with_reducible apply Ext.and | with_reducible apply Ext.drewx | with_reducible apply Ext.alloc | with_reducible apply Ext.ext | with_reducible apply Ext.drew | with_reducible refine Ext.setCell ?_ (by simp) _)) : Ext _ _).below)).mono ?_); rintro _ _ ⟨rfl, z1, rfl⟩; (try rw [k1])))) | ((first | with_reducible refine wp_region_qe (by kernel_rfl) (by kernel_rfl) ?_ | with_reducible refine wp_region_q (by kernel_rfl) (by kernel_rfl) ?_); (repeat' (first | go_big_quiet_step ((first | ((go_at_call 51; (with_reducible refine (sRoutesOk_any _ _ _ l _ (H.out.stays ((by repeat (first | with_reducible exact Ext.refl _ | with_reducible apply Ext.and | with_reducible apply Ext.drewx | with_reducible apply Ext.alloc | with_reducible apply Ext.ext | with_reducible apply Ext.drew | with_reducible refine Ext.setCell ?_ (by simp) _)) : Ext _ _).below)).mono ?_); rintro _ _ ⟨rfl, z1, rfl⟩; (try rw [k1]))))) | (refine wpQuiet_split rfl rfl rfl rfl (fun hsp => ?_) (fun hsp => ?_); ((fail_if_success (cases hsp; done)); simp only [hsp]; (try first | have hsq : _ < _ := of_decide_eq_true hsp | have hsq : _ ≤ _ := of_decide_eq_true hsp | have hsq : ¬ _ < _ := of_decide_eq_false hsp | have hsq : ¬ _ ≤ _ := of_decide_eq_false hsp)); rotate_left; ((fail_if_success (cases hsp; done)); simp only [hsp]; (try first | have hsq : _ < _ := of_decide_eq_true hsp | have hsq : _ ≤ _ := of_decide_eq_true hsp | have hsq : ¬ _ < _ := of_decide_eq_false hsp | have hsq : ¬ _ ≤ _ := of_decide_eq_false hsp))))); (all_goals (refine wpQuiet_nil ?_; intro x))) | ((first | with_reducible refine wp_region_seqSe (by kernel_rfl) (by kernel_rfl) ?_ | with_reducible refine wp_region_seqSw (by kernel_rfl) (by kernel_rfl) ?_); (repeat' (first | ((with_reducible refine wpSeqS_pure (by with_unfolding_all rfl) (fun Kq hKq => ?_)); (repeat' (first | go_big_quiet_step (fail) | (refine wpQuiet_split rfl rfl rfl rfl (fun hsp => ?_) (fun hsp => ?_); ((fail_if_success (cases hsp; done)); simp only [hsp]; (try first | have hsq : _ < _ := of_decide_eq_true hsp | have hsq : _ ≤ _ := of_decide_eq_true hsp | have hsq : ¬ _ < _ := of_decide_eq_false hsp | have hsq : ¬ _ ≤ _ := of_decide_eq_false hsp)); rotate_left; ((fail_if_success (cases hsp; done)); simp only [hsp]; (try first | have hsq : _ < _ := of_decide_eq_true hsp | have hsq : _ ≤ _ := of_decide_eq_true hsp | have hsq : ¬ _ < _ := of_decide_eq_false hsp | have hsq : ¬ _ ≤ _ := of_decide_eq_false hsp))))); (all_goals (refine wpQuiet_nil ?_; refine hKq _ ?_; clear hKq Kq))) | ((with_reducible refine wpSeqS_load (by with_unfolding_all rfl) (fun Kq hKq => ?_)); (repeat' (first | go_big_quiet_step (fail) | (refine wpQuiet_split rfl rfl rfl rfl (fun hsp => ?_) (fun hsp => ?_); ((fail_if_success (cases hsp; done)); simp only [hsp]; (try first | have hsq : _ < _ := of_decide_eq_true hsp | have hsq : _ ≤ _ := of_decide_eq_true hsp | have hsq : ¬ _ < _ := of_decide_eq_false hsp | have hsq : ¬ _ ≤ _ := of_decide_eq_false hsp)); rotate_left; ((fail_if_success (cases hsp; done)); simp only [hsp]; (try first | have hsq : _ < _ := of_decide_eq_true hsp | have hsq : _ ≤ _ := of_decide_eq_true hsp | have hsq : ¬ _ < _ := of_decide_eq_false hsp | have hsq : ¬ _ ≤ _ := of_decide_eq_false hsp))))); (all_goals (refine wpQuiet_nil ?_; refine hKq _ ?_; clear hKq Kq))) | ((with_reducible refine wpSeqS_act (by with_unfolding_all rfl) (fun Q' hQ' => ?_)); (go_wp2_with (first | ((go_at_call 51; (with_reducible refine (sRoutesOk_any _ _ _ l _ (H.out.stays ((by repeat (first | with_reducible exact Ext.refl _ | with_reducible apply Ext.and | with_reducible apply Ext.drewx | with_reducible apply Ext.alloc | with_reducible apply Ext.ext | with_reducible apply Ext.drew | with_reducible refine Ext.setCell ?_ (by simp) _)) : Ext _ _).below)).mono ?_); rintro _ _ ⟨rfl, z1, rfl⟩; (try rw [k1]))))); (all_goals (refine hQ' _ _ rfl ?_ ?_; (first | (focus (intro hbk; simp [brkB] at hbk; done)) | (focus (intro _; change Ext _ _; exact (by repeat (first | with_reducible assumption | with_reducible exact Ext.refl _ | with_reducible apply Ext.and | with_reducible apply Ext.drewx | with_reducible apply Ext.alloc | with_reducible apply Ext.ext | with_reducible apply Ext.drew | with_reducible refine Ext.setCell ?_ (by simp) _))))); clear hQ' Q'))))); (all_goals ((with_reducible refine wpSeqS_nil ?_)))))
  refine wp_name (fun V hV => ?_)
  have hXV : Ext w V := by rw [hV]; exact (by repeat (first | with_reducible exact Ext.refl _ | with_reducible apply Ext.and | with_reducible apply Ext.drewx | with_reducible apply Ext.alloc | with_reducible apply Ext.ext | with_reducible apply Ext.drew | with_reducible refine Ext.setCell ?_ (by simp) _))
  have HB0 := hidden (show Blk V w.heap.size 59 [.slice a1 n1 c1, .slice a2 n2 c2] by
    rw [hV]
    exact (Blk.new w #[.slice a1 n1 c1, .slice a2 n2 c2] _).extends (by repeat (first | with_reducible exact Ext.refl _ | with_reducible apply Ext.and | with_reducible apply Ext.drewx | with_reducible apply Ext.alloc | with_reducible apply Ext.ext | with_reducible apply Ext.drew | with_reducible refine Ext.setCell ?_ (by simp) _)))
  clear hV k1
  have hnV := HB0.out.lt
  go_wp2_with fail
  have hV1 : Ext V (V.alloc (.cells #[] 40)) := (by repeat (first | with_reducible exact Ext.refl _ | with_reducible apply Ext.and | with_reducible apply Ext.drewx | with_reducible apply Ext.alloc | with_reducible apply Ext.ext | with_reducible apply Ext.drew | with_reducible refine Ext.setCell ?_ (by simp) _))
  go_loopw [6, 7] (fun v i wr => ∃ (k : Nat) (b : Option Addr) (n c : Nat), k ≤ an ∧ i = .int .i64 k ∧ v = .slice b n c ∧ Hid (AccS V.heap.size 40 wr (.slice b n c) (l.take k)) ∧ Ext V wr) (fun _ i _ => an - (intOf i).toNat)
  case atStart => exact ⟨0, _, _, _, Nat.zero_le _, rfl, rfl, hidden (AccS.madeAt (Nat.le_refl _) rfl), hV1⟩
  case round =>
    clear hV1
    obtain ⟨k, b, n, c, hk, rfl, rfl, HA, hE1⟩ := hrel
    have hE := hXV.trans hE1
    have hLk : (l.take k).length ≤ 12 := by rw [List.length_take]; omega
    by_cases hlt : k < an
    · obtain ⟨r, dhd, db, doff, dys, rfl, dhys, dhcell, dhrd⟩ := h.at hE hlt
      obtain ⟨da_r_path, dn_r_path, dc_r_path, da_r_marks, dn_r_marks, dc_r_marks, rfl, dg0, dg1, dg2, dg3, dg4⟩ := dhrd
      have dc0 : wr.cell? ⟨db, doff + k * 5, none⟩ = some _ := dhcell 0 _ rfl
      have dc1 : wr.cell? ⟨db, doff + k * 5 + 1, none⟩ = some _ := dhcell 1 _ rfl
      have dc2 : wr.cell? ⟨db, doff + k * 5 + 2, none⟩ = some _ := dhcell 2 _ rfl
      have dc3 : wr.cell? ⟨db, doff + k * 5 + 3, none⟩ = some _ := dhcell 3 _ rfl
      have dc4 : wr.cell? ⟨db, doff + k * 5 + 4, none⟩ = some _ := dhcell 4 _ rfl
      have dlb := cell_lt dc0
      have dHD := hidden dhd
      clear dhcell dhys dhd
      have hrt := HKA.out r (List.mem_of_getElem? dHD.out)
      have hl1 : dn_r_path ≤ 5 := by have := (rt_short3 hrt).1; have := dg2.1; omega
      have hl2 : dn_r_marks ≤ 9 := by have := (rt_short3 hrt).2; have := dg4.1; omega
      have I1 := hidden dg0
      have I2 := hidden dg1
      have I3 := hidden dg3
      clear dg0 dg1 dg3 hrt
      go_wp2_with (first | (first | ((go_at_call 33; (with_reducible refine (l4Copy_any _ _ _ _ _ _ r.path _ _ _ r.marks _ (dg2.stays ((by repeat (first | with_reducible exact Ext.refl _ | with_reducible apply Ext.and | with_reducible apply Ext.drewx | with_reducible apply Ext.alloc | with_reducible apply Ext.ext | with_reducible apply Ext.drew | with_reducible refine Ext.setCell ?_ (by simp) _)) : Ext _ _).below) (dg4.stays ((by repeat (first | with_reducible exact Ext.refl _ | with_reducible apply Ext.and | with_reducible apply Ext.drewx | with_reducible apply Ext.alloc | with_reducible apply Ext.ext | with_reducible apply Ext.drew | with_reducible refine Ext.setCell ?_ (by simp) _)) : Ext _ _).below) (by omega) (by omega)).mono ?_); rintro _ wq ⟨q1, m1, d1, q2, m2, d2, rfl, C1, y1, rfl⟩; (try rw [ext_ext] at C1); obtain ⟨f, ho, hf, hlo⟩ := Cp.rt (d := r) C1 I1.out I2.out I3.out; have HO := hidden ho; have HLO := hidden (show ∀ b ∈ f, wr.heap.size ≤ b from fun b hb => Nat.le_trans ((by repeat (first | with_reducible exact Ext.refl _ | with_reducible apply Ext.and | with_reducible apply Ext.drewx | with_reducible apply Ext.alloc | with_reducible apply Ext.ext | with_reducible apply Ext.drew | with_reducible refine Ext.setCell ?_ (by simp) _)) : Ext wr _).size (hlo b hb)); clear C1 ho hf hlo)) | ((at_builtin; refine wpList_pushS (N := V.heap.size) (l := l.take k) (d := r) rfl _ _ rfl tyi_Rt (by decide) (by rfl) (HA.out.ext ((by repeat (first | with_reducible exact Ext.refl _ | with_reducible apply Ext.and | with_reducible apply Ext.drewx | with_reducible apply Ext.alloc | with_reducible apply Ext.ext | with_reducible apply Ext.drew | with_reducible refine Ext.setCell ?_ (by simp) _)) : Ext wr _)) (by omega) (by rfl) (Blk.newAt _ _ _ (by simp)) (StE.own (Ow.later HO.out (by repeat (first | with_reducible exact Ext.refl _ | with_reducible apply Ext.and | with_reducible apply Ext.drewx | with_reducible apply Ext.alloc | with_reducible apply Ext.ext | with_reducible apply Ext.drew | with_reducible refine Ext.setCell ?_ (by simp) _))) (fun b hb eq => by have h1 := (HA.out.low _ eq).2; have h2 := HLO.out b hb; omega)) (by have := hE1.size; simp; omega) ?_; intro v1 w1 hA1 hg1 hX1 hv1; obtain ⟨b', n', c', rfl⟩ := hA1.shapeL; have HA1 := hidden hA1; have hE2 := hX1 V (hE1.trans ((by repeat (first | with_reducible exact Ext.refl _ | with_reducible apply Ext.and | with_reducible apply Ext.drewx | with_reducible apply Ext.alloc | with_reducible apply Ext.ext | with_reducible apply Ext.drew | with_reducible refine Ext.setCell ?_ (by simp) _)) : Ext wr _)) (Nat.le_refl _); clear hA1 hg1 hX1 hv1))) | ((first | with_reducible refine wp_region_qe (by kernel_rfl) (by kernel_rfl) ?_ | with_reducible refine wp_region_q (by kernel_rfl) (by kernel_rfl) ?_); (repeat' (first | go_big_quiet_step ((first | ((go_at_call 33; (with_reducible refine (l4Copy_any _ _ _ _ _ _ r.path _ _ _ r.marks _ (dg2.stays ((by repeat (first | with_reducible exact Ext.refl _ | with_reducible apply Ext.and | with_reducible apply Ext.drewx | with_reducible apply Ext.alloc | with_reducible apply Ext.ext | with_reducible apply Ext.drew | with_reducible refine Ext.setCell ?_ (by simp) _)) : Ext _ _).below) (dg4.stays ((by repeat (first | with_reducible exact Ext.refl _ | with_reducible apply Ext.and | with_reducible apply Ext.drewx | with_reducible apply Ext.alloc | with_reducible apply Ext.ext | with_reducible apply Ext.drew | with_reducible refine Ext.setCell ?_ (by simp) _)) : Ext _ _).below) (by omega) (by omega)).mono ?_); rintro _ wq ⟨q1, m1, d1, q2, m2, d2, rfl, C1, y1, rfl⟩; (try rw [ext_ext] at C1); obtain ⟨f, ho, hf, hlo⟩ := Cp.rt (d := r) C1 I1.out I2.out I3.out; have HO := hidden ho; have HLO := hidden (show ∀ b ∈ f, wr.heap.size ≤ b from fun b hb => Nat.le_trans ((by repeat (first | with_reducible exact Ext.refl _ | with_reducible apply Ext.and | with_reducible apply Ext.drewx | with_reducible apply Ext.alloc | with_reducible apply Ext.ext | with_reducible apply Ext.drew | with_reducible refine Ext.setCell ?_ (by simp) _)) : Ext wr _).size (hlo b hb)); clear C1 ho hf hlo)) | ((at_builtin; refine wpList_pushS (N := V.heap.size) (l := l.take k) (d := r) rfl _ _ rfl tyi_Rt (by decide) (by rfl) (HA.out.ext ((by repeat (first | with_reducible exact Ext.refl _ | with_reducible apply Ext.and | with_reducible apply Ext.drewx | with_reducible apply Ext.alloc | with_reducible apply Ext.ext | with_reducible apply Ext.drew | with_reducible refine Ext.setCell ?_ (by simp) _)) : Ext wr _)) (by omega) (by rfl) (Blk.newAt _ _ _ (by simp)) (StE.own (Ow.later HO.out (by repeat (first | with_reducible exact Ext.refl _ | with_reducible apply Ext.and | with_reducible apply Ext.drewx | with_reducible apply Ext.alloc | with_reducible apply Ext.ext | with_reducible apply Ext.drew | with_reducible refine Ext.setCell ?_ (by simp) _))) (fun b hb eq => by have h1 := (HA.out.low _ eq).2; have h2 := HLO.out b hb; omega)) (by have := hE1.size; simp; omega) ?_; intro v1 w1 hA1 hg1 hX1 hv1; obtain ⟨b', n', c', rfl⟩ := hA1.shapeL; have HA1 := hidden hA1; have hE2 := hX1 V (hE1.trans ((by repeat (first | with_reducible exact Ext.refl _ | with_reducible apply Ext.and | with_reducible apply Ext.drewx | with_reducible apply Ext.alloc | with_reducible apply Ext.ext | with_reducible apply Ext.drew | with_reducible refine Ext.setCell ?_ (by simp) _)) : Ext wr _)) (Nat.le_refl _); clear hA1 hg1 hX1 hv1)))) | (refine wpQuiet_split rfl rfl rfl rfl (fun hsp => ?_) (fun hsp => ?_); ((fail_if_success (cases hsp; done)); simp only [hsp]; (try first | have hsq : _ < _ := of_decide_eq_true hsp | have hsq : _ ≤ _ := of_decide_eq_true hsp | have hsq : ¬ _ < _ := of_decide_eq_false hsp | have hsq : ¬ _ ≤ _ := of_decide_eq_false hsp)); rotate_left; ((fail_if_success (cases hsp; done)); simp only [hsp]; (try first | have hsq : _ < _ := of_decide_eq_true hsp | have hsq : _ ≤ _ := of_decide_eq_true hsp | have hsq : ¬ _ < _ := of_decide_eq_false hsp | have hsq : ¬ _ ≤ _ := of_decide_eq_false hsp))))); (all_goals (refine wpQuiet_nil ?_; intro x))) | ((first | with_reducible refine wp_region_seqSe (by kernel_rfl) (by kernel_rfl) ?_ | with_reducible refine wp_region_seqSw (by kernel_rfl) (by kernel_rfl) ?_); (repeat' (first | ((with_reducible refine wpSeqS_pure (by with_unfolding_all rfl) (fun Kq hKq => ?_)); (repeat' (first | go_big_quiet_step (fail) | (refine wpQuiet_split rfl rfl rfl rfl (fun hsp => ?_) (fun hsp => ?_); ((fail_if_success (cases hsp; done)); simp only [hsp]; (try first | have hsq : _ < _ := of_decide_eq_true hsp | have hsq : _ ≤ _ := of_decide_eq_true hsp | have hsq : ¬ _ < _ := of_decide_eq_false hsp | have hsq : ¬ _ ≤ _ := of_decide_eq_false hsp)); rotate_left; ((fail_if_success (cases hsp; done)); simp only [hsp]; (try first | have hsq : _ < _ := of_decide_eq_true hsp | have hsq : _ ≤ _ := of_decide_eq_true hsp | have hsq : ¬ _ < _ := of_decide_eq_false hsp | have hsq : ¬ _ ≤ _ := of_decide_eq_false hsp))))); (all_goals (refine wpQuiet_nil ?_; refine hKq _ ?_; clear hKq Kq))) | ((with_reducible refine wpSeqS_load (by with_unfolding_all rfl) (fun Kq hKq => ?_)); (repeat' (first | go_big_quiet_step (fail) | (refine wpQuiet_split rfl rfl rfl rfl (fun hsp => ?_) (fun hsp => ?_); ((fail_if_success (cases hsp; done)); simp only [hsp]; (try first | have hsq : _ < _ := of_decide_eq_true hsp | have hsq : _ ≤ _ := of_decide_eq_true hsp | have hsq : ¬ _ < _ := of_decide_eq_false hsp | have hsq : ¬ _ ≤ _ := of_decide_eq_false hsp)); rotate_left; ((fail_if_success (cases hsp; done)); simp only [hsp]; (try first | have hsq : _ < _ := of_decide_eq_true hsp | have hsq : _ ≤ _ := of_decide_eq_true hsp | have hsq : ¬ _ < _ := of_decide_eq_false hsp | have hsq : ¬ _ ≤ _ := of_decide_eq_false hsp))))); (all_goals (refine wpQuiet_nil ?_; refine hKq _ ?_; clear hKq Kq))) | ((with_reducible refine wpSeqS_act (by with_unfolding_all rfl) (fun Q' hQ' => ?_)); (go_wp2_with (first | ((go_at_call 33; (with_reducible refine (l4Copy_any _ _ _ _ _ _ r.path _ _ _ r.marks _ (dg2.stays ((by repeat (first | with_reducible exact Ext.refl _ | with_reducible apply Ext.and | with_reducible apply Ext.drewx | with_reducible apply Ext.alloc | with_reducible apply Ext.ext | with_reducible apply Ext.drew | with_reducible refine Ext.setCell ?_ (by simp) _)) : Ext _ _).below) (dg4.stays ((by repeat (first | with_reducible exact Ext.refl _ | with_reducible apply Ext.and | with_reducible apply Ext.drewx | with_reducible apply Ext.alloc | with_reducible apply Ext.ext | with_reducible apply Ext.drew | with_reducible refine Ext.setCell ?_ (by simp) _)) : Ext _ _).below) (by omega) (by omega)).mono ?_); rintro _ wq ⟨q1, m1, d1, q2, m2, d2, rfl, C1, y1, rfl⟩; (try rw [ext_ext] at C1); obtain ⟨f, ho, hf, hlo⟩ := Cp.rt (d := r) C1 I1.out I2.out I3.out; have HO := hidden ho; have HLO := hidden (show ∀ b ∈ f, wr.heap.size ≤ b from fun b hb => Nat.le_trans ((by repeat (first | with_reducible exact Ext.refl _ | with_reducible apply Ext.and | with_reducible apply Ext.drewx | with_reducible apply Ext.alloc | with_reducible apply Ext.ext | with_reducible apply Ext.drew | with_reducible refine Ext.setCell ?_ (by simp) _)) : Ext wr _).size (hlo b hb)); clear C1 ho hf hlo)) | ((at_builtin; refine wpList_pushS (N := V.heap.size) (l := l.take k) (d := r) rfl _ _ rfl tyi_Rt (by decide) (by rfl) (HA.out.ext ((by repeat (first | with_reducible exact Ext.refl _ | with_reducible apply Ext.and | with_reducible apply Ext.drewx | with_reducible apply Ext.alloc | with_reducible apply Ext.ext | with_reducible apply Ext.drew | with_reducible refine Ext.setCell ?_ (by simp) _)) : Ext wr _)) (by omega) (by rfl) (Blk.newAt _ _ _ (by simp)) (StE.own (Ow.later HO.out (by repeat (first | with_reducible exact Ext.refl _ | with_reducible apply Ext.and | with_reducible apply Ext.drewx | with_reducible apply Ext.alloc | with_reducible apply Ext.ext | with_reducible apply Ext.drew | with_reducible refine Ext.setCell ?_ (by simp) _))) (fun b hb eq => by have h1 := (HA.out.low _ eq).2; have h2 := HLO.out b hb; omega)) (by have := hE1.size; simp; omega) ?_; intro v1 w1 hA1 hg1 hX1 hv1; obtain ⟨b', n', c', rfl⟩ := hA1.shapeL; have HA1 := hidden hA1; have hE2 := hX1 V (hE1.trans ((by repeat (first | with_reducible exact Ext.refl _ | with_reducible apply Ext.and | with_reducible apply Ext.drewx | with_reducible apply Ext.alloc | with_reducible apply Ext.ext | with_reducible apply Ext.drew | with_reducible refine Ext.setCell ?_ (by simp) _)) : Ext wr _)) (Nat.le_refl _); clear hA1 hg1 hX1 hv1)))); (all_goals (refine hQ' _ _ rfl ?_ ?_; (first | (focus (intro hbk; simp [brkB] at hbk; done)) | (focus (intro _; change Ext _ _; exact (by repeat (first | with_reducible assumption | with_reducible exact Ext.refl _ | with_reducible apply Ext.and | with_reducible apply Ext.drewx | with_reducible apply Ext.alloc | with_reducible apply Ext.ext | with_reducible apply Ext.drew | with_reducible refine Ext.setCell ?_ (by simp) _))))); clear hQ' Q'))))); (all_goals ((with_reducible refine wpSeqS_nil ?_)))))
      go_roundw
      case rel => exact ⟨k + 1, _, _, _, by omega, by go_num, rfl, (by rw [take_snoc dHD.out]; exact HA1), hE2⟩
      case measure => simp [intOf]; omega
    · obtain rfl : an = k := by omega
      have HA0 := hidden (show AccS V.heap.size 40 wr (.slice b n c) l by have h3 := HA.out; rw [List.take_of_length_le (Nat.le_of_eq HL.out)] at h3; exact h3)
      clear HA hLk
      have BX := hidden (HB0.out.extends hE1)
      have x0 := BX.out.cell (j := 0) rfl
      have x1 := BX.out.cell (j := 1) rfl
      have xl := BX.out.lt
      go_wp2_with (first | ((first | with_reducible refine wp_region_qe (by kernel_rfl) (by kernel_rfl) ?_ | with_reducible refine wp_region_q (by kernel_rfl) (by kernel_rfl) ?_); (repeat' (first | go_big_quiet_step (fail) | (refine wpQuiet_split rfl rfl rfl rfl (fun hsp => ?_) (fun hsp => ?_); ((fail_if_success (cases hsp; done)); simp only [hsp]; (try first | have hsq : _ < _ := of_decide_eq_true hsp | have hsq : _ ≤ _ := of_decide_eq_true hsp | have hsq : ¬ _ < _ := of_decide_eq_false hsp | have hsq : ¬ _ ≤ _ := of_decide_eq_false hsp)); rotate_left; ((fail_if_success (cases hsp; done)); simp only [hsp]; (try first | have hsq : _ < _ := of_decide_eq_true hsp | have hsq : _ ≤ _ := of_decide_eq_true hsp | have hsq : ¬ _ < _ := of_decide_eq_false hsp | have hsq : ¬ _ ≤ _ := of_decide_eq_false hsp))))); (all_goals (refine wpQuiet_nil ?_; intro x))) | ((first | with_reducible refine wp_region_seqSe (by kernel_rfl) (by kernel_rfl) ?_ | with_reducible refine wp_region_seqSw (by kernel_rfl) (by kernel_rfl) ?_); (repeat' (first | ((with_reducible refine wpSeqS_pure (by with_unfolding_all rfl) (fun Kq hKq => ?_)); (repeat' (first | go_big_quiet_step (fail) | (refine wpQuiet_split rfl rfl rfl rfl (fun hsp => ?_) (fun hsp => ?_); ((fail_if_success (cases hsp; done)); simp only [hsp]; (try first | have hsq : _ < _ := of_decide_eq_true hsp | have hsq : _ ≤ _ := of_decide_eq_true hsp | have hsq : ¬ _ < _ := of_decide_eq_false hsp | have hsq : ¬ _ ≤ _ := of_decide_eq_false hsp)); rotate_left; ((fail_if_success (cases hsp; done)); simp only [hsp]; (try first | have hsq : _ < _ := of_decide_eq_true hsp | have hsq : _ ≤ _ := of_decide_eq_true hsp | have hsq : ¬ _ < _ := of_decide_eq_false hsp | have hsq : ¬ _ ≤ _ := of_decide_eq_false hsp))))); (all_goals (refine wpQuiet_nil ?_; refine hKq _ ?_; clear hKq Kq))) | ((with_reducible refine wpSeqS_load (by with_unfolding_all rfl) (fun Kq hKq => ?_)); (repeat' (first | go_big_quiet_step (fail) | (refine wpQuiet_split rfl rfl rfl rfl (fun hsp => ?_) (fun hsp => ?_); ((fail_if_success (cases hsp; done)); simp only [hsp]; (try first | have hsq : _ < _ := of_decide_eq_true hsp | have hsq : _ ≤ _ := of_decide_eq_true hsp | have hsq : ¬ _ < _ := of_decide_eq_false hsp | have hsq : ¬ _ ≤ _ := of_decide_eq_false hsp)); rotate_left; ((fail_if_success (cases hsp; done)); simp only [hsp]; (try first | have hsq : _ < _ := of_decide_eq_true hsp | have hsq : _ ≤ _ := of_decide_eq_true hsp | have hsq : ¬ _ < _ := of_decide_eq_false hsp | have hsq : ¬ _ ≤ _ := of_decide_eq_false hsp))))); (all_goals (refine wpQuiet_nil ?_; refine hKq _ ?_; clear hKq Kq))) | ((with_reducible refine wpSeqS_act (by with_unfolding_all rfl) (fun Q' hQ' => ?_)); (go_wp2_with fail); (all_goals (refine hQ' _ _ rfl ?_ ?_; (first | (focus (intro hbk; simp [brkB] at hbk; done)) | (focus (intro _; change Ext _ _; exact (by repeat (first | with_reducible assumption | with_reducible exact Ext.refl _ | with_reducible apply Ext.and | with_reducible apply Ext.drewx | with_reducible apply Ext.alloc | with_reducible apply Ext.ext | with_reducible apply Ext.drew | with_reducible refine Ext.setCell ?_ (by simp) _))))); clear hQ' Q'))))); (all_goals ((with_reducible refine wpSeqS_nil ?_)))))
      go_loopw [6, 8] (fun v i wr2 => ∃ (k : Nat) (t : List Rt) (b : Option Addr) (n c : Nat), k ≤ n1 ∧ i = .int .i64 k ∧ v = .slice b n c ∧ Hid (foldO cutT (some l) (dd.take k) = some t) ∧ Hid (Fine t) ∧ Hid (AccS V.heap.size 40 wr2 (.slice b n c) t) ∧ Ext V wr2) (fun _ i _ => n1 - (intOf i).toNat)
      case atStart => exact ⟨0, l, _, _, _, Nat.zero_le _, rfl, rfl, rfl, HFL, HA0, hE1⟩
      case round =>
        clear HA0 BX x0 x1 xl hE1 hE
        obtain ⟨k, t, b, n, c, hk, rfl, rfl, HT, HF, HA, hE1⟩ := hrel
        rename_i wr0 wr
        have hE := hXV.trans hE1
        have BX := hidden (HB0.out.extends hE1)
        have x0 := BX.out.cell (j := 0) rfl
        have x1 := BX.out.cell (j := 1) rfl
        have xl := BX.out.lt
        have ht12 := HF.out.2.1
        obtain ⟨ba, bc, he, hbc, hbm⟩ := HA.out.shape
        simp only [Value.slice.injEq] at he
        obtain ⟨rfl, rfl, rfl⟩ := he
        unfold maxLen at hbm
        by_cases hlt : k < n1
        · obtain ⟨x, dhd, db, doff, dys, rfl, dhys, dhcell, dhrd⟩ := h1.at hE hlt
          obtain ⟨rfl, dg0, dg1⟩ := dhrd
          have dc0 : wr.cell? ⟨db, doff + k * 2, none⟩ = some _ := dhcell 0 _ rfl
          have dc1 : wr.cell? ⟨db, doff + k * 2 + 1, none⟩ = some _ := dhcell 1 _ rfl
          have dlb := cell_lt dc0
          have dHD := hidden dhd
          clear dhcell dhys dhd
          cases hq : t.any (rtR x)
          · have HN := hidden (show foldO cutT (some l) dd = none from foldO_fail HT.out dHD.out (cutT_no hq))
            have HR := hidden (ddo_none (d := ⟨dd, dt⟩) HK1.out HN.out)
            have hfi := findI_no hq
            go_wp2_with (first | (first | (go_at_call 52; (with_reducible refine ((hfi ▸ l23At_any _ _ _ t x _ (HA.out.sl.stays ((by repeat (first | with_reducible exact Ext.refl _ | with_reducible apply Ext.and | with_reducible apply Ext.drewx | with_reducible apply Ext.alloc | with_reducible apply Ext.ext | with_reducible apply Ext.drew | with_reducible refine Ext.setCell ?_ (by simp) _)) : Ext wr _).below))).mono ?_); rintro _ _ ⟨rfl, x, rfl⟩)) | ((first | with_reducible refine wp_region_qe (by kernel_rfl) (by kernel_rfl) ?_ | with_reducible refine wp_region_q (by kernel_rfl) (by kernel_rfl) ?_); (repeat' (first | go_big_quiet_step ((first | (go_at_call 52; first | with_reducible exact Calls.qb (by assumption) ((hfi ▸ l23At_any _ _ _ t x _ (HA.out.sl.stays ((by repeat (first | with_reducible exact Ext.refl _ | with_reducible apply Ext.and | with_reducible apply Ext.drewx | with_reducible apply Ext.alloc | with_reducible apply Ext.ext | with_reducible apply Ext.drew | with_reducible refine Ext.setCell ?_ (by simp) _)) : Ext wr _).below))) | with_reducible exact Calls.q ((hfi ▸ l23At_any _ _ _ t x _ (HA.out.sl.stays ((by repeat (first | with_reducible exact Ext.refl _ | with_reducible apply Ext.and | with_reducible apply Ext.drewx | with_reducible apply Ext.alloc | with_reducible apply Ext.ext | with_reducible apply Ext.drew | with_reducible refine Ext.setCell ?_ (by simp) _)) : Ext wr _).below)))))) | (refine wpQuiet_split rfl rfl rfl rfl (fun hsp => ?_) (fun hsp => ?_); ((fail_if_success (cases hsp; done)); simp only [hsp]; (try first | have hsq : _ < _ := of_decide_eq_true hsp | have hsq : _ ≤ _ := of_decide_eq_true hsp | have hsq : ¬ _ < _ := of_decide_eq_false hsp | have hsq : ¬ _ ≤ _ := of_decide_eq_false hsp)); rotate_left; ((fail_if_success (cases hsp; done)); simp only [hsp]; (try first | have hsq : _ < _ := of_decide_eq_true hsp | have hsq : _ ≤ _ := of_decide_eq_true hsp | have hsq : ¬ _ < _ := of_decide_eq_false hsp | have hsq : ¬ _ ≤ _ := of_decide_eq_false hsp))))); (all_goals (refine wpQuiet_nil ?_; intro x))) | ((first | with_reducible refine wp_region_seqSe (by kernel_rfl) (by kernel_rfl) ?_ | with_reducible refine wp_region_seqSw (by kernel_rfl) (by kernel_rfl) ?_); (repeat' (first | ((with_reducible refine wpSeqS_pure (by with_unfolding_all rfl) (fun Kq hKq => ?_)); (repeat' (first | go_big_quiet_step (fail) | (refine wpQuiet_split rfl rfl rfl rfl (fun hsp => ?_) (fun hsp => ?_); ((fail_if_success (cases hsp; done)); simp only [hsp]; (try first | have hsq : _ < _ := of_decide_eq_true hsp | have hsq : _ ≤ _ := of_decide_eq_true hsp | have hsq : ¬ _ < _ := of_decide_eq_false hsp | have hsq : ¬ _ ≤ _ := of_decide_eq_false hsp)); rotate_left; ((fail_if_success (cases hsp; done)); simp only [hsp]; (try first | have hsq : _ < _ := of_decide_eq_true hsp | have hsq : _ ≤ _ := of_decide_eq_true hsp | have hsq : ¬ _ < _ := of_decide_eq_false hsp | have hsq : ¬ _ ≤ _ := of_decide_eq_false hsp))))); (all_goals (refine wpQuiet_nil ?_; refine hKq _ ?_; clear hKq Kq))) | ((with_reducible refine wpSeqS_load (by with_unfolding_all rfl) (fun Kq hKq => ?_)); (repeat' (first | go_big_quiet_step (fail) | (refine wpQuiet_split rfl rfl rfl rfl (fun hsp => ?_) (fun hsp => ?_); ((fail_if_success (cases hsp; done)); simp only [hsp]; (try first | have hsq : _ < _ := of_decide_eq_true hsp | have hsq : _ ≤ _ := of_decide_eq_true hsp | have hsq : ¬ _ < _ := of_decide_eq_false hsp | have hsq : ¬ _ ≤ _ := of_decide_eq_false hsp)); rotate_left; ((fail_if_success (cases hsp; done)); simp only [hsp]; (try first | have hsq : _ < _ := of_decide_eq_true hsp | have hsq : _ ≤ _ := of_decide_eq_true hsp | have hsq : ¬ _ < _ := of_decide_eq_false hsp | have hsq : ¬ _ ≤ _ := of_decide_eq_false hsp))))); (all_goals (refine wpQuiet_nil ?_; refine hKq _ ?_; clear hKq Kq))) | ((with_reducible refine wpSeqS_act (by with_unfolding_all rfl) (fun Q' hQ' => ?_)); (go_wp2_with (first | (go_at_call 52; (with_reducible refine ((hfi ▸ l23At_any _ _ _ t x _ (HA.out.sl.stays ((by repeat (first | with_reducible exact Ext.refl _ | with_reducible apply Ext.and | with_reducible apply Ext.drewx | with_reducible apply Ext.alloc | with_reducible apply Ext.ext | with_reducible apply Ext.drew | with_reducible refine Ext.setCell ?_ (by simp) _)) : Ext wr _).below))).mono ?_); rintro _ _ ⟨rfl, x, rfl⟩))); (all_goals (refine hQ' _ _ rfl ?_ ?_; (first | (focus (intro hbk; simp [brkB] at hbk; done)) | (focus (intro _; change Ext _ _; exact (by repeat (first | with_reducible assumption | with_reducible exact Ext.refl _ | with_reducible apply Ext.and | with_reducible apply Ext.drewx | with_reducible apply Ext.alloc | with_reducible apply Ext.ext | with_reducible apply Ext.drew | with_reducible refine Ext.setCell ?_ (by simp) _))))); clear hQ' Q'))))); (all_goals ((with_reducible refine wpSeqS_nil ?_)))))
            go_ret2
            rw [HR.out]
            exact ⟨_, _, _, rfl, fin_S0 _ (by repeat (first | with_reducible assumption | with_reducible exact Ext.refl _ | with_reducible apply Ext.and | with_reducible apply Ext.drewx | with_reducible apply Ext.alloc | with_reducible apply Ext.ext | with_reducible apply Ext.drew | with_reducible refine Ext.setCell ?_ (by simp) _)) (by simp)⟩
          · obtain ⟨i, hfi, hil⟩ := any_find3 hq
            have HCT := hidden (show foldO cutT (some l) (dd.take (k + 1)) = some (t.take i ++ t.drop (i + 1)) by rw [foldO_step HT.out dHD.out]; exact cutT_yes hq hfi)
            have HFC := hidden (HF.out.cut i)
            have hi0 : decide ((i : Int) < 0) = false := by simp
            obtain ⟨gb, xs, rfl, _, _, hgN, hgl, hsrc, hrs⟩ := HA.out.part (show 0 < t.length by omega)
            have HSRC := hidden hsrc
            have HRS := hidden hrs
            clear hsrc hrs
            have HS2 := hidden (show Src wr (if c = i + 1 then some ⟨gb, 0, none⟩ else some ⟨gb, (i + 1) * 5, none⟩) (xs.drop ((i + 1) * 5)) by
              split
              · have h1 : xs.length = t.length * 5 := HRS.out.rd.1
                rw [List.drop_eq_nil_of_le (by omega)]
                exact Src.nil
              · exact HSRC.out.drop0 _)
            go_upto_region 14 with (first | (first | ((go_at_call 52; (with_reducible refine (l23At_any _ _ _ t x _ (HA.out.sl.stays ((by repeat (first | with_reducible exact Ext.refl _ | with_reducible apply Ext.and | with_reducible apply Ext.drewx | with_reducible apply Ext.alloc | with_reducible apply Ext.ext | with_reducible apply Ext.drew | with_reducible refine Ext.setCell ?_ (by simp) _)) : Ext wr _).below)).mono ?_); rintro _ _ ⟨rfl, z3, rfl⟩; (try rw [hfi])))) | ((first | with_reducible refine wp_region_qe (by kernel_rfl) (by kernel_rfl) ?_ | with_reducible refine wp_region_q (by kernel_rfl) (by kernel_rfl) ?_); (repeat' (first | go_big_quiet_step ((first | ((go_at_call 52; (with_reducible refine (l23At_any _ _ _ t x _ (HA.out.sl.stays ((by repeat (first | with_reducible exact Ext.refl _ | with_reducible apply Ext.and | with_reducible apply Ext.drewx | with_reducible apply Ext.alloc | with_reducible apply Ext.ext | with_reducible apply Ext.drew | with_reducible refine Ext.setCell ?_ (by simp) _)) : Ext wr _).below)).mono ?_); rintro _ _ ⟨rfl, z3, rfl⟩; (try rw [hfi]))))) | (refine wpQuiet_split rfl rfl rfl rfl (fun hsp => ?_) (fun hsp => ?_); ((fail_if_success (cases hsp; done)); simp only [hsp]; (try first | have hsq : _ < _ := of_decide_eq_true hsp | have hsq : _ ≤ _ := of_decide_eq_true hsp | have hsq : ¬ _ < _ := of_decide_eq_false hsp | have hsq : ¬ _ ≤ _ := of_decide_eq_false hsp)); rotate_left; ((fail_if_success (cases hsp; done)); simp only [hsp]; (try first | have hsq : _ < _ := of_decide_eq_true hsp | have hsq : _ ≤ _ := of_decide_eq_true hsp | have hsq : ¬ _ < _ := of_decide_eq_false hsp | have hsq : ¬ _ ≤ _ := of_decide_eq_false hsp))))); (all_goals (refine wpQuiet_nil ?_; intro x))) | ((first | with_reducible refine wp_region_seqSe (by kernel_rfl) (by kernel_rfl) ?_ | with_reducible refine wp_region_seqSw (by kernel_rfl) (by kernel_rfl) ?_); (repeat' (first | ((with_reducible refine wpSeqS_pure (by with_unfolding_all rfl) (fun Kq hKq => ?_)); (repeat' (first | go_big_quiet_step (fail) | (refine wpQuiet_split rfl rfl rfl rfl (fun hsp => ?_) (fun hsp => ?_); ((fail_if_success (cases hsp; done)); simp only [hsp]; (try first | have hsq : _ < _ := of_decide_eq_true hsp | have hsq : _ ≤ _ := of_decide_eq_true hsp | have hsq : ¬ _ < _ := of_decide_eq_false hsp | have hsq : ¬ _ ≤ _ := of_decide_eq_false hsp)); rotate_left; ((fail_if_success (cases hsp; done)); simp only [hsp]; (try first | have hsq : _ < _ := of_decide_eq_true hsp | have hsq : _ ≤ _ := of_decide_eq_true hsp | have hsq : ¬ _ < _ := of_decide_eq_false hsp | have hsq : ¬ _ ≤ _ := of_decide_eq_false hsp))))); (all_goals (refine wpQuiet_nil ?_; refine hKq _ ?_; clear hKq Kq))) | ((with_reducible refine wpSeqS_load (by with_unfolding_all rfl) (fun Kq hKq => ?_)); (repeat' (first | go_big_quiet_step (fail) | (refine wpQuiet_split rfl rfl rfl rfl (fun hsp => ?_) (fun hsp => ?_); ((fail_if_success (cases hsp; done)); simp only [hsp]; (try first | have hsq : _ < _ := of_decide_eq_true hsp | have hsq : _ ≤ _ := of_decide_eq_true hsp | have hsq : ¬ _ < _ := of_decide_eq_false hsp | have hsq : ¬ _ ≤ _ := of_decide_eq_false hsp)); rotate_left; ((fail_if_success (cases hsp; done)); simp only [hsp]; (try first | have hsq : _ < _ := of_decide_eq_true hsp | have hsq : _ ≤ _ := of_decide_eq_true hsp | have hsq : ¬ _ < _ := of_decide_eq_false hsp | have hsq : ¬ _ ≤ _ := of_decide_eq_false hsp))))); (all_goals (refine wpQuiet_nil ?_; refine hKq _ ?_; clear hKq Kq))) | ((with_reducible refine wpSeqS_act (by with_unfolding_all rfl) (fun Q' hQ' => ?_)); (go_wp2_with (first | ((go_at_call 52; (with_reducible refine (l23At_any _ _ _ t x _ (HA.out.sl.stays ((by repeat (first | with_reducible exact Ext.refl _ | with_reducible apply Ext.and | with_reducible apply Ext.drewx | with_reducible apply Ext.alloc | with_reducible apply Ext.ext | with_reducible apply Ext.drew | with_reducible refine Ext.setCell ?_ (by simp) _)) : Ext wr _).below)).mono ?_); rintro _ _ ⟨rfl, z3, rfl⟩; (try rw [hfi]))))); (all_goals (refine hQ' _ _ rfl ?_ ?_; (first | (focus (intro hbk; simp [brkB] at hbk; done)) | (focus (intro _; change Ext _ _; exact (by repeat (first | with_reducible assumption | with_reducible exact Ext.refl _ | with_reducible apply Ext.and | with_reducible apply Ext.drewx | with_reducible apply Ext.alloc | with_reducible apply Ext.ext | with_reducible apply Ext.drew | with_reducible refine Ext.setCell ?_ (by simp) _))))); clear hQ' Q'))))); (all_goals ((with_reducible refine wpSeqS_nil ?_)))))
            have tk0 : True := trivial
            refine wp_name (fun W hW => ?_)
            have hEW : Ext wr W := by rw [hW]; exact (by repeat (first | with_reducible exact Ext.refl _ | with_reducible apply Ext.and | with_reducible apply Ext.drewx | with_reducible apply Ext.alloc | with_reducible apply Ext.ext | with_reducible apply Ext.drew | with_reducible refine Ext.setCell ?_ (by simp) _))
            clear hW
            have hEVW := hE1.trans hEW
            have HSW := hidden (HSRC.out.stays hEW.below)
            have HS2W := hidden (HS2.out.stays hEW.below)
            have HRW := hidden (HRS.out.later hEW (g' := none) (fun b e => by cases e))
            clear HSRC HS2
            have hic : i ≤ c := by omega
            have hin : i + 1 ≤ t.length := by omega
            go_wp2_with (first | (first | ((clear tk0; at_builtin; refine wpList_pushT (N := W.heap.size) (l := ([] : List Rt)) (m := t.take i) (C := xs.take (i * 5)) rfl _ _ rfl tyi_Rt (by decide) (by rfl) (AccS.ext (AccS.madeAt (w := W) (B := W.heap.size) (e := 40) (Nat.le_refl _) rfl) (by repeat (first | with_reducible assumption | with_reducible exact Ext.refl _ | with_reducible apply Ext.and | with_reducible apply Ext.drewx | with_reducible apply Ext.alloc | with_reducible apply Ext.ext | with_reducible apply Ext.drew | with_reducible refine Ext.setCell ?_ (by simp) _))) (Nat.zero_le _) (by rfl) (by omega) (by intro h; cases h) ((HSW.out.take _).stays (Ext.below (by repeat (first | with_reducible assumption | with_reducible exact Ext.refl _ | with_reducible apply Ext.and | with_reducible apply Ext.drewx | with_reducible apply Ext.alloc | with_reducible apply Ext.ext | with_reducible apply Ext.drew | with_reducible refine Ext.setCell ?_ (by simp) _)))) ((HRS.out.take i).later (hEW.trans (by repeat (first | with_reducible assumption | with_reducible exact Ext.refl _ | with_reducible apply Ext.and | with_reducible apply Ext.drewx | with_reducible apply Ext.alloc | with_reducible apply Ext.ext | with_reducible apply Ext.drew | with_reducible refine Ext.setCell ?_ (by simp) _))) (fun b e => by have e2 := Option.some.inj (show some _ = some b from e); have := hEW.size; (try simp at e2); omega)) (by rw [List.length_take]; omega) (by omega) (Ext.size (by repeat (first | with_reducible assumption | with_reducible exact Ext.refl _ | with_reducible apply Ext.and | with_reducible apply Ext.drewx | with_reducible apply Ext.alloc | with_reducible apply Ext.ext | with_reducible apply Ext.drew | with_reducible refine Ext.setCell ?_ (by simp) _))) ?_; intro v1 w1 hA1 hg1 hX1 hv1; obtain ⟨b', n', c', rfl⟩ := hA1.shapeL; have hXa := hX1 W (by repeat (first | with_reducible assumption | with_reducible exact Ext.refl _ | with_reducible apply Ext.and | with_reducible apply Ext.drewx | with_reducible apply Ext.alloc | with_reducible apply Ext.ext | with_reducible apply Ext.drew | with_reducible refine Ext.setCell ?_ (by simp) _)) (Nat.le_refl _); simp only [List.nil_append] at hA1; have HA1 := hidden hA1; have HX1 := hidden hXa; clear hA1 hg1 hX1 hv1)) | ((at_builtin; refine wpList_pushT (N := W.heap.size) (l := t.take i) (m := t.drop (i + 1)) (C := xs.drop ((i + 1) * 5)) rfl _ _ rfl tyi_Rt (by decide) (by rfl) HA1.out (by rw [List.length_take]; omega) (by rfl) (by omega) (by first | (intro h; cases h; done) | (split <;> intro h <;> cases h)) (HS2W.out.stays (Ext.below HX1.out)) ((HRS.out.drop (i + 1)).later (hEW.trans HX1.out) (fun b e => by have h3 := (HA1.out.low b e).1; have h4 := hEW.size; omega)) (by first | (rw [List.length_drop]; done) | (rw [List.length_drop]; omega)) (by omega) (Ext.size HX1.out) ?_; intro v2 w2 hA2 hg2 hX2 hv2; obtain ⟨b2, n2', c2', rfl⟩ := hA2.shapeL; have hXb := hX2 W HX1.out (Nat.le_refl _); have HA2 := hidden hA2; have HX2 := hidden hXb; clear hA2 hg2 hX2 hv2))) | ((first | with_reducible refine wp_region_qe (by kernel_rfl) (by kernel_rfl) ?_ | with_reducible refine wp_region_q (by kernel_rfl) (by kernel_rfl) ?_); (repeat' (first | go_big_quiet_step ((first | ((clear tk0; at_builtin; refine wpList_pushT (N := W.heap.size) (l := ([] : List Rt)) (m := t.take i) (C := xs.take (i * 5)) rfl _ _ rfl tyi_Rt (by decide) (by rfl) (AccS.ext (AccS.madeAt (w := W) (B := W.heap.size) (e := 40) (Nat.le_refl _) rfl) (by repeat (first | with_reducible assumption | with_reducible exact Ext.refl _ | with_reducible apply Ext.and | with_reducible apply Ext.drewx | with_reducible apply Ext.alloc | with_reducible apply Ext.ext | with_reducible apply Ext.drew | with_reducible refine Ext.setCell ?_ (by simp) _))) (Nat.zero_le _) (by rfl) (by omega) (by intro h; cases h) ((HSW.out.take _).stays (Ext.below (by repeat (first | with_reducible assumption | with_reducible exact Ext.refl _ | with_reducible apply Ext.and | with_reducible apply Ext.drewx | with_reducible apply Ext.alloc | with_reducible apply Ext.ext | with_reducible apply Ext.drew | with_reducible refine Ext.setCell ?_ (by simp) _)))) ((HRS.out.take i).later (hEW.trans (by repeat (first | with_reducible assumption | with_reducible exact Ext.refl _ | with_reducible apply Ext.and | with_reducible apply Ext.drewx | with_reducible apply Ext.alloc | with_reducible apply Ext.ext | with_reducible apply Ext.drew | with_reducible refine Ext.setCell ?_ (by simp) _))) (fun b e => by have e2 := Option.some.inj (show some _ = some b from e); have := hEW.size; (try simp at e2); omega)) (by rw [List.length_take]; omega) (by omega) (Ext.size (by repeat (first | with_reducible assumption | with_reducible exact Ext.refl _ | with_reducible apply Ext.and | with_reducible apply Ext.drewx | with_reducible apply Ext.alloc | with_reducible apply Ext.ext | with_reducible apply Ext.drew | with_reducible refine Ext.setCell ?_ (by simp) _))) ?_; intro v1 w1 hA1 hg1 hX1 hv1; obtain ⟨b', n', c', rfl⟩ := hA1.shapeL; have hXa := hX1 W (by repeat (first | with_reducible assumption | with_reducible exact Ext.refl _ | with_reducible apply Ext.and | with_reducible apply Ext.drewx | with_reducible apply Ext.alloc | with_reducible apply Ext.ext | with_reducible apply Ext.drew | with_reducible refine Ext.setCell ?_ (by simp) _)) (Nat.le_refl _); simp only [List.nil_append] at hA1; have HA1 := hidden hA1; have HX1 := hidden hXa; clear hA1 hg1 hX1 hv1)) | ((at_builtin; refine wpList_pushT (N := W.heap.size) (l := t.take i) (m := t.drop (i + 1)) (C := xs.drop ((i + 1) * 5)) rfl _ _ rfl tyi_Rt (by decide) (by rfl) HA1.out (by rw [List.length_take]; omega) (by rfl) (by omega) (by first | (intro h; cases h; done) | (split <;> intro h <;> cases h)) (HS2W.out.stays (Ext.below HX1.out)) ((HRS.out.drop (i + 1)).later (hEW.trans HX1.out) (fun b e => by have h3 := (HA1.out.low b e).1; have h4 := hEW.size; omega)) (by first | (rw [List.length_drop]; done) | (rw [List.length_drop]; omega)) (by omega) (Ext.size HX1.out) ?_; intro v2 w2 hA2 hg2 hX2 hv2; obtain ⟨b2, n2', c2', rfl⟩ := hA2.shapeL; have hXb := hX2 W HX1.out (Nat.le_refl _); have HA2 := hidden hA2; have HX2 := hidden hXb; clear hA2 hg2 hX2 hv2)))) | (refine wpQuiet_split rfl rfl rfl rfl (fun hsp => ?_) (fun hsp => ?_); ((fail_if_success (cases hsp; done)); simp only [hsp]; (try first | have hsq : _ < _ := of_decide_eq_true hsp | have hsq : _ ≤ _ := of_decide_eq_true hsp | have hsq : ¬ _ < _ := of_decide_eq_false hsp | have hsq : ¬ _ ≤ _ := of_decide_eq_false hsp)); rotate_left; ((fail_if_success (cases hsp; done)); simp only [hsp]; (try first | have hsq : _ < _ := of_decide_eq_true hsp | have hsq : _ ≤ _ := of_decide_eq_true hsp | have hsq : ¬ _ < _ := of_decide_eq_false hsp | have hsq : ¬ _ ≤ _ := of_decide_eq_false hsp))))); (all_goals (refine wpQuiet_nil ?_; intro x))) | ((first | with_reducible refine M.wp_region_seqSe (by kernel_rfl) (by kernel_rfl) ?_ | with_reducible refine M.wp_region_seqSw (by kernel_rfl) (by kernel_rfl) ?_); (repeat' (first | ((with_reducible refine M.wpSeqS_pure (by with_unfolding_all rfl) (fun Kq hKq => ?_)); (repeat' (first | go_big_quiet_step (fail) | (refine wpQuiet_split rfl rfl rfl rfl (fun hsp => ?_) (fun hsp => ?_); ((fail_if_success (cases hsp; done)); simp only [hsp]; (try first | have hsq : _ < _ := of_decide_eq_true hsp | have hsq : _ ≤ _ := of_decide_eq_true hsp | have hsq : ¬ _ < _ := of_decide_eq_false hsp | have hsq : ¬ _ ≤ _ := of_decide_eq_false hsp)); rotate_left; ((fail_if_success (cases hsp; done)); simp only [hsp]; (try first | have hsq : _ < _ := of_decide_eq_true hsp | have hsq : _ ≤ _ := of_decide_eq_true hsp | have hsq : ¬ _ < _ := of_decide_eq_false hsp | have hsq : ¬ _ ≤ _ := of_decide_eq_false hsp))))); (all_goals (refine wpQuiet_nil ?_; refine hKq _ ?_; clear hKq Kq))) | ((with_reducible refine M.wpSeqS_load (by with_unfolding_all rfl) (fun Kq hKq => ?_)); (repeat' (first | go_big_quiet_step (fail) | (refine wpQuiet_split rfl rfl rfl rfl (fun hsp => ?_) (fun hsp => ?_); ((fail_if_success (cases hsp; done)); simp only [hsp]; (try first | have hsq : _ < _ := of_decide_eq_true hsp | have hsq : _ ≤ _ := of_decide_eq_true hsp | have hsq : ¬ _ < _ := of_decide_eq_false hsp | have hsq : ¬ _ ≤ _ := of_decide_eq_false hsp)); rotate_left; ((fail_if_success (cases hsp; done)); simp only [hsp]; (try first | have hsq : _ < _ := of_decide_eq_true hsp | have hsq : _ ≤ _ := of_decide_eq_true hsp | have hsq : ¬ _ < _ := of_decide_eq_false hsp | have hsq : ¬ _ ≤ _ := of_decide_eq_false hsp))))); (all_goals (refine wpQuiet_nil ?_; refine hKq _ ?_; clear hKq Kq))) | ((with_reducible refine M.wpSeqS_act (by with_unfolding_all rfl) (fun Q' hQ' => ?_)); (go_wp2_with (first | ((clear tk0; at_builtin; refine wpList_pushT (N := W.heap.size) (l := ([] : List Rt)) (m := t.take i) (C := xs.take (i * 5)) rfl _ _ rfl tyi_Rt (by decide) (by rfl) (AccS.ext (AccS.madeAt (w := W) (B := W.heap.size) (e := 40) (Nat.le_refl _) rfl) (by repeat (first | with_reducible assumption | with_reducible exact Ext.refl _ | with_reducible apply Ext.and | with_reducible apply Ext.drewx | with_reducible apply Ext.alloc | with_reducible apply Ext.ext | with_reducible apply Ext.drew | with_reducible refine Ext.setCell ?_ (by simp) _))) (Nat.zero_le _) (by rfl) (by omega) (by intro h; cases h) ((HSW.out.take _).stays (Ext.below (by repeat (first | with_reducible assumption | with_reducible exact Ext.refl _ | with_reducible apply Ext.and | with_reducible apply Ext.drewx | with_reducible apply Ext.alloc | with_reducible apply Ext.ext | with_reducible apply Ext.drew | with_reducible refine Ext.setCell ?_ (by simp) _)))) ((HRS.out.take i).later (hEW.trans (by repeat (first | with_reducible assumption | with_reducible exact Ext.refl _ | with_reducible apply Ext.and | with_reducible apply Ext.drewx | with_reducible apply Ext.alloc | with_reducible apply Ext.ext | with_reducible apply Ext.drew | with_reducible refine Ext.setCell ?_ (by simp) _))) (fun b e => by have e2 := Option.some.inj (show some _ = some b from e); have := hEW.size; (try simp at e2); omega)) (by rw [List.length_take]; omega) (by omega) (Ext.size (by repeat (first | with_reducible assumption | with_reducible exact Ext.refl _ | with_reducible apply Ext.and | with_reducible apply Ext.drewx | with_reducible apply Ext.alloc | with_reducible apply Ext.ext | with_reducible apply Ext.drew | with_reducible refine Ext.setCell ?_ (by simp) _))) ?_; intro v1 w1 hA1 hg1 hX1 hv1; obtain ⟨b', n', c', rfl⟩ := hA1.shapeL; have hXa := hX1 W (by repeat (first | with_reducible assumption | with_reducible exact Ext.refl _ | with_reducible apply Ext.and | with_reducible apply Ext.drewx | with_reducible apply Ext.alloc | with_reducible apply Ext.ext | with_reducible apply Ext.drew | with_reducible refine Ext.setCell ?_ (by simp) _)) (Nat.le_refl _); simp only [List.nil_append] at hA1; have HA1 := hidden hA1; have HX1 := hidden hXa; clear hA1 hg1 hX1 hv1)) | ((at_builtin; refine wpList_pushT (N := W.heap.size) (l := t.take i) (m := t.drop (i + 1)) (C := xs.drop ((i + 1) * 5)) rfl _ _ rfl tyi_Rt (by decide) (by rfl) HA1.out (by rw [List.length_take]; omega) (by rfl) (by omega) (by first | (intro h; cases h; done) | (split <;> intro h <;> cases h)) (HS2W.out.stays (Ext.below HX1.out)) ((HRS.out.drop (i + 1)).later (hEW.trans HX1.out) (fun b e => by have h3 := (HA1.out.low b e).1; have h4 := hEW.size; omega)) (by first | (rw [List.length_drop]; done) | (rw [List.length_drop]; omega)) (by omega) (Ext.size HX1.out) ?_; intro v2 w2 hA2 hg2 hX2 hv2; obtain ⟨b2, n2', c2', rfl⟩ := hA2.shapeL; have hXb := hX2 W HX1.out (Nat.le_refl _); have HA2 := hidden hA2; have HX2 := hidden hXb; clear hA2 hg2 hX2 hv2)))); (all_goals (refine hQ' _ _ rfl ?_ ?_; (first | (focus (intro hbk; simp [M.brkB] at hbk; done)) | (focus (intro _; change Ext _ _; exact (by repeat (first | with_reducible assumption | with_reducible exact Ext.refl _ | with_reducible apply Ext.and | with_reducible apply Ext.drewx | with_reducible apply Ext.alloc | with_reducible apply Ext.ext | with_reducible apply Ext.drew | with_reducible refine Ext.setCell ?_ (by simp) _))))); clear hQ' Q'))))); (all_goals ((with_reducible refine M.wpSeqS_nil ?_)))))
            all_goals
              go_roundw
              case rel => exact ⟨k + 1, _, _, _, _, by omega, by go_num, rfl, HCT, HFC, hidden (HA2.out.base hEVW.size), hEVW.trans HX2.out⟩
              case measure => simp [intOf]; omega
        · obtain rfl : n1 = k := by omega
          have HTT := hidden (foldO_all HT.out HL1.out)
          clear HT
          go_wp2_with (first | ((first | with_reducible refine wp_region_qe (by kernel_rfl) (by kernel_rfl) ?_ | with_reducible refine wp_region_q (by kernel_rfl) (by kernel_rfl) ?_); (repeat' (first | go_big_quiet_step (fail) | (refine wpQuiet_split rfl rfl rfl rfl (fun hsp => ?_) (fun hsp => ?_); ((fail_if_success (cases hsp; done)); simp only [hsp]; (try first | have hsq : _ < _ := of_decide_eq_true hsp | have hsq : _ ≤ _ := of_decide_eq_true hsp | have hsq : ¬ _ < _ := of_decide_eq_false hsp | have hsq : ¬ _ ≤ _ := of_decide_eq_false hsp)); rotate_left; ((fail_if_success (cases hsp; done)); simp only [hsp]; (try first | have hsq : _ < _ := of_decide_eq_true hsp | have hsq : _ ≤ _ := of_decide_eq_true hsp | have hsq : ¬ _ < _ := of_decide_eq_false hsp | have hsq : ¬ _ ≤ _ := of_decide_eq_false hsp))))); (all_goals (refine wpQuiet_nil ?_; intro x))) | ((first | with_reducible refine wp_region_seqSe (by kernel_rfl) (by kernel_rfl) ?_ | with_reducible refine wp_region_seqSw (by kernel_rfl) (by kernel_rfl) ?_); (repeat' (first | ((with_reducible refine wpSeqS_pure (by with_unfolding_all rfl) (fun Kq hKq => ?_)); (repeat' (first | go_big_quiet_step (fail) | (refine wpQuiet_split rfl rfl rfl rfl (fun hsp => ?_) (fun hsp => ?_); ((fail_if_success (cases hsp; done)); simp only [hsp]; (try first | have hsq : _ < _ := of_decide_eq_true hsp | have hsq : _ ≤ _ := of_decide_eq_true hsp | have hsq : ¬ _ < _ := of_decide_eq_false hsp | have hsq : ¬ _ ≤ _ := of_decide_eq_false hsp)); rotate_left; ((fail_if_success (cases hsp; done)); simp only [hsp]; (try first | have hsq : _ < _ := of_decide_eq_true hsp | have hsq : _ ≤ _ := of_decide_eq_true hsp | have hsq : ¬ _ < _ := of_decide_eq_false hsp | have hsq : ¬ _ ≤ _ := of_decide_eq_false hsp))))); (all_goals (refine wpQuiet_nil ?_; refine hKq _ ?_; clear hKq Kq))) | ((with_reducible refine wpSeqS_load (by with_unfolding_all rfl) (fun Kq hKq => ?_)); (repeat' (first | go_big_quiet_step (fail) | (refine wpQuiet_split rfl rfl rfl rfl (fun hsp => ?_) (fun hsp => ?_); ((fail_if_success (cases hsp; done)); simp only [hsp]; (try first | have hsq : _ < _ := of_decide_eq_true hsp | have hsq : _ ≤ _ := of_decide_eq_true hsp | have hsq : ¬ _ < _ := of_decide_eq_false hsp | have hsq : ¬ _ ≤ _ := of_decide_eq_false hsp)); rotate_left; ((fail_if_success (cases hsp; done)); simp only [hsp]; (try first | have hsq : _ < _ := of_decide_eq_true hsp | have hsq : _ ≤ _ := of_decide_eq_true hsp | have hsq : ¬ _ < _ := of_decide_eq_false hsp | have hsq : ¬ _ ≤ _ := of_decide_eq_false hsp))))); (all_goals (refine wpQuiet_nil ?_; refine hKq _ ?_; clear hKq Kq))) | ((with_reducible refine wpSeqS_act (by with_unfolding_all rfl) (fun Q' hQ' => ?_)); (go_wp2_with fail); (all_goals (refine hQ' _ _ rfl ?_ ?_; (first | (focus (intro hbk; simp [brkB] at hbk; done)) | (focus (intro _; change Ext _ _; exact (by repeat (first | with_reducible assumption | with_reducible exact Ext.refl _ | with_reducible apply Ext.and | with_reducible apply Ext.drewx | with_reducible apply Ext.alloc | with_reducible apply Ext.ext | with_reducible apply Ext.drew | with_reducible refine Ext.setCell ?_ (by simp) _))))); clear hQ' Q'))))); (all_goals ((with_reducible refine wpSeqS_nil ?_)))))
          go_loopw [6, 10] (fun v i wr2 => ∃ (k : Nat) (t2 : List Rt) (b : Option Addr) (n c : Nat), k ≤ n2 ∧ i = .int .i64 k ∧ v = .slice b n c ∧ Hid (foldO sayT (some t) (dt.take k) = some t2) ∧ Hid (Fine t2) ∧ Hid (AccS V.heap.size 40 wr2 (.slice b n c) t2) ∧ Ext V wr2) (fun _ i _ => n2 - (intOf i).toNat)
          case atStart => exact ⟨0, t, _, _, _, Nat.zero_le _, rfl, rfl, rfl, HF, HA, hE1⟩
          case round =>
            clear HA HF BX x0 x1 xl hE1 hE ht12 hbc hbm
            obtain ⟨k, t2, b, n, c, hk, rfl, rfl, HT2, HF, HA, hE1⟩ := hrel
            rename_i wr1 wr
            have hE := hXV.trans hE1
            have BX := hidden (HB0.out.extends hE1)
            have x0 := BX.out.cell (j := 0) rfl
            have x1 := BX.out.cell (j := 1) rfl
            have xl := BX.out.lt
            have ht12 := HF.out.2.1
            by_cases hlt : k < n2
            · obtain ⟨rx, dhd, db, doff, dys, rfl, dhys, dhcell, dhrd⟩ := h2.at hE hlt
              obtain ⟨da_rx_path, dn_rx_path, dc_rx_path, da_rx_marks, dn_rx_marks, dc_rx_marks, rfl, dg0, dg1, dg2, dg3, dg4⟩ := dhrd
              have dc0 : wr.cell? ⟨db, doff + k * 5, none⟩ = some _ := dhcell 0 _ rfl
              have dc1 : wr.cell? ⟨db, doff + k * 5 + 1, none⟩ = some _ := dhcell 1 _ rfl
              have dc2 : wr.cell? ⟨db, doff + k * 5 + 2, none⟩ = some _ := dhcell 2 _ rfl
              have dc3 : wr.cell? ⟨db, doff + k * 5 + 3, none⟩ = some _ := dhcell 3 _ rfl
              have dc4 : wr.cell? ⟨db, doff + k * 5 + 4, none⟩ = some _ := dhcell 4 _ rfl
              have dlb := cell_lt dc0
              have dHD := hidden dhd
              clear dhcell dhys dhd
              have HX := hidden (show Lay.rd wr [.int .i64 rx.r.f, .int .i64 rx.r.b, .slice da_rx_path dn_rx_path dc_rx_path, .int .i64 rx.like, .slice da_rx_marks dn_rx_marks dc_rx_marks] rx from ⟨_, _, _, _, _, _, rfl, dg0, dg1, dg2, dg3, dg4⟩)
              have I1 := hidden dg0
              have I2 := hidden dg1
              have I3 := hidden dg3
              clear dg0 dg1 dg3
              cases hr : rtOk rx
              · have HN := hidden (show foldO sayT (some t) dt = none from foldO_fail HT2.out dHD.out (sayT_no hr))
                have HR := hidden (ddo_none2 (d := ⟨dd, dt⟩) HK1.out HTT.out HN.out)
                go_wp2_with (first | (first | (go_at_call 30; (with_reducible refine (sRouteOk_any rx _ _ _ _ _ _ _ (dg2.stays ((by repeat (first | with_reducible exact Ext.refl _ | with_reducible apply Ext.and | with_reducible apply Ext.drewx | with_reducible apply Ext.alloc | with_reducible apply Ext.ext | with_reducible apply Ext.drew | with_reducible refine Ext.setCell ?_ (by simp) _)) : Ext _ _).below) (dg4.stays ((by repeat (first | with_reducible exact Ext.refl _ | with_reducible apply Ext.and | with_reducible apply Ext.drewx | with_reducible apply Ext.alloc | with_reducible apply Ext.ext | with_reducible apply Ext.drew | with_reducible refine Ext.setCell ?_ (by simp) _)) : Ext _ _).below)).mono ?_); rintro _ _ ⟨rfl, x, rfl⟩)) | ((first | with_reducible refine wp_region_qe (by kernel_rfl) (by kernel_rfl) ?_ | with_reducible refine wp_region_q (by kernel_rfl) (by kernel_rfl) ?_); (repeat' (first | go_big_quiet_step ((first | (go_at_call 30; first | with_reducible exact Calls.qb (by assumption) (sRouteOk_any rx _ _ _ _ _ _ _ (dg2.stays ((by repeat (first | with_reducible exact Ext.refl _ | with_reducible apply Ext.and | with_reducible apply Ext.drewx | with_reducible apply Ext.alloc | with_reducible apply Ext.ext | with_reducible apply Ext.drew | with_reducible refine Ext.setCell ?_ (by simp) _)) : Ext _ _).below) (dg4.stays ((by repeat (first | with_reducible exact Ext.refl _ | with_reducible apply Ext.and | with_reducible apply Ext.drewx | with_reducible apply Ext.alloc | with_reducible apply Ext.ext | with_reducible apply Ext.drew | with_reducible refine Ext.setCell ?_ (by simp) _)) : Ext _ _).below)) | with_reducible exact Calls.q (sRouteOk_any rx _ _ _ _ _ _ _ (dg2.stays ((by repeat (first | with_reducible exact Ext.refl _ | with_reducible apply Ext.and | with_reducible apply Ext.drewx | with_reducible apply Ext.alloc | with_reducible apply Ext.ext | with_reducible apply Ext.drew | with_reducible refine Ext.setCell ?_ (by simp) _)) : Ext _ _).below) (dg4.stays ((by repeat (first | with_reducible exact Ext.refl _ | with_reducible apply Ext.and | with_reducible apply Ext.drewx | with_reducible apply Ext.alloc | with_reducible apply Ext.ext | with_reducible apply Ext.drew | with_reducible refine Ext.setCell ?_ (by simp) _)) : Ext _ _).below))))) | (refine wpQuiet_split rfl rfl rfl rfl (fun hsp => ?_) (fun hsp => ?_); ((fail_if_success (cases hsp; done)); simp only [hsp]; (try first | have hsq : _ < _ := of_decide_eq_true hsp | have hsq : _ ≤ _ := of_decide_eq_true hsp | have hsq : ¬ _ < _ := of_decide_eq_false hsp | have hsq : ¬ _ ≤ _ := of_decide_eq_false hsp)); rotate_left; ((fail_if_success (cases hsp; done)); simp only [hsp]; (try first | have hsq : _ < _ := of_decide_eq_true hsp | have hsq : _ ≤ _ := of_decide_eq_true hsp | have hsq : ¬ _ < _ := of_decide_eq_false hsp | have hsq : ¬ _ ≤ _ := of_decide_eq_false hsp))))); (all_goals (refine wpQuiet_nil ?_; intro x))) | ((first | with_reducible refine wp_region_seqSe (by kernel_rfl) (by kernel_rfl) ?_ | with_reducible refine wp_region_seqSw (by kernel_rfl) (by kernel_rfl) ?_); (repeat' (first | ((with_reducible refine wpSeqS_pure (by with_unfolding_all rfl) (fun Kq hKq => ?_)); (repeat' (first | go_big_quiet_step (fail) | (refine wpQuiet_split rfl rfl rfl rfl (fun hsp => ?_) (fun hsp => ?_); ((fail_if_success (cases hsp; done)); simp only [hsp]; (try first | have hsq : _ < _ := of_decide_eq_true hsp | have hsq : _ ≤ _ := of_decide_eq_true hsp | have hsq : ¬ _ < _ := of_decide_eq_false hsp | have hsq : ¬ _ ≤ _ := of_decide_eq_false hsp)); rotate_left; ((fail_if_success (cases hsp; done)); simp only [hsp]; (try first | have hsq : _ < _ := of_decide_eq_true hsp | have hsq : _ ≤ _ := of_decide_eq_true hsp | have hsq : ¬ _ < _ := of_decide_eq_false hsp | have hsq : ¬ _ ≤ _ := of_decide_eq_false hsp))))); (all_goals (refine wpQuiet_nil ?_; refine hKq _ ?_; clear hKq Kq))) | ((with_reducible refine wpSeqS_load (by with_unfolding_all rfl) (fun Kq hKq => ?_)); (repeat' (first | go_big_quiet_step (fail) | (refine wpQuiet_split rfl rfl rfl rfl (fun hsp => ?_) (fun hsp => ?_); ((fail_if_success (cases hsp; done)); simp only [hsp]; (try first | have hsq : _ < _ := of_decide_eq_true hsp | have hsq : _ ≤ _ := of_decide_eq_true hsp | have hsq : ¬ _ < _ := of_decide_eq_false hsp | have hsq : ¬ _ ≤ _ := of_decide_eq_false hsp)); rotate_left; ((fail_if_success (cases hsp; done)); simp only [hsp]; (try first | have hsq : _ < _ := of_decide_eq_true hsp | have hsq : _ ≤ _ := of_decide_eq_true hsp | have hsq : ¬ _ < _ := of_decide_eq_false hsp | have hsq : ¬ _ ≤ _ := of_decide_eq_false hsp))))); (all_goals (refine wpQuiet_nil ?_; refine hKq _ ?_; clear hKq Kq))) | ((with_reducible refine wpSeqS_act (by with_unfolding_all rfl) (fun Q' hQ' => ?_)); (go_wp2_with (first | (go_at_call 30; (with_reducible refine (sRouteOk_any rx _ _ _ _ _ _ _ (dg2.stays ((by repeat (first | with_reducible exact Ext.refl _ | with_reducible apply Ext.and | with_reducible apply Ext.drewx | with_reducible apply Ext.alloc | with_reducible apply Ext.ext | with_reducible apply Ext.drew | with_reducible refine Ext.setCell ?_ (by simp) _)) : Ext _ _).below) (dg4.stays ((by repeat (first | with_reducible exact Ext.refl _ | with_reducible apply Ext.and | with_reducible apply Ext.drewx | with_reducible apply Ext.alloc | with_reducible apply Ext.ext | with_reducible apply Ext.drew | with_reducible refine Ext.setCell ?_ (by simp) _)) : Ext _ _).below)).mono ?_); rintro _ _ ⟨rfl, x, rfl⟩))); (all_goals (refine hQ' _ _ rfl ?_ ?_; (first | (focus (intro hbk; simp [brkB] at hbk; done)) | (focus (intro _; change Ext _ _; exact (by repeat (first | with_reducible assumption | with_reducible exact Ext.refl _ | with_reducible apply Ext.and | with_reducible apply Ext.drewx | with_reducible apply Ext.alloc | with_reducible apply Ext.ext | with_reducible apply Ext.drew | with_reducible refine Ext.setCell ?_ (by simp) _))))); clear hQ' Q'))))); (all_goals ((with_reducible refine wpSeqS_nil ?_)))))
                go_ret2
                rw [HR.out]
                exact ⟨_, _, _, rfl, fin_S0 _ (by repeat (first | with_reducible assumption | with_reducible exact Ext.refl _ | with_reducible apply Ext.and | with_reducible apply Ext.drewx | with_reducible apply Ext.alloc | with_reducible apply Ext.ext | with_reducible apply Ext.drew | with_reducible refine Ext.setCell ?_ (by simp) _)) (by simp)⟩
              · have hl1 : dn_rx_path ≤ 1000000000 := by have := (rt_short3 hr).1; have := dg2.1; omega
                have hl2 : dn_rx_marks ≤ 1000000000 := by have := (rt_short3 hr).2; have := dg4.1; omega
                have hnn : n ≤ 100 := by have h5 := HA.out.sl.1; omega
                have HRX := hidden hr
                have HFS := hidden HF.out.1
                by_cases hmany : 12 < (putLT t2 rx).length
                · have HN := hidden (show foldO sayT (some t) dt = none from foldO_fail HT2.out dHD.out (sayT_many hmany))
                  have HR := hidden (ddo_none2 (d := ⟨dd, dt⟩) HK1.out HTT.out HN.out)
                  have hm' : decide (12 < ((putLT t2 rx).length : Int)) = true := by simp; omega
                  go_wp2_with (first | (first | (go_at_call 30; (with_reducible refine (sRouteOk_any rx _ _ _ _ _ _ _ (dg2.stays ((by repeat (first | with_reducible exact Ext.refl _ | with_reducible apply Ext.and | with_reducible apply Ext.drewx | with_reducible apply Ext.alloc | with_reducible apply Ext.ext | with_reducible apply Ext.drew | with_reducible refine Ext.setCell ?_ (by simp) _)) : Ext _ _).below) (dg4.stays ((by repeat (first | with_reducible exact Ext.refl _ | with_reducible apply Ext.and | with_reducible apply Ext.drewx | with_reducible apply Ext.alloc | with_reducible apply Ext.ext | with_reducible apply Ext.drew | with_reducible refine Ext.setCell ?_ (by simp) _)) : Ext _ _).below)).mono ?_); rintro _ _ ⟨rfl, x, rfl⟩) | ((go_at_call 53; (with_reducible refine (l23Put_any _ _ _ t2 rx _ _ _ _ _ _ _ (HA.out.sl.stays ((by repeat (first | with_reducible exact Ext.refl _ | with_reducible apply Ext.and | with_reducible apply Ext.drewx | with_reducible apply Ext.alloc | with_reducible apply Ext.ext | with_reducible apply Ext.drew | with_reducible refine Ext.setCell ?_ (by simp) _)) : Ext wr _).below) HFS.out hnn I1.out I2.out (dg2.stays ((by repeat (first | with_reducible exact Ext.refl _ | with_reducible apply Ext.and | with_reducible apply Ext.drewx | with_reducible apply Ext.alloc | with_reducible apply Ext.ext | with_reducible apply Ext.drew | with_reducible refine Ext.setCell ?_ (by simp) _)) : Ext _ _).below) I3.out (dg4.stays ((by repeat (first | with_reducible exact Ext.refl _ | with_reducible apply Ext.and | with_reducible apply Ext.drewx | with_reducible apply Ext.alloc | with_reducible apply Ext.ext | with_reducible apply Ext.drew | with_reducible refine Ext.setCell ?_ (by simp) _)) : Ext _ _).below) hl1 hl2).mono ?_); rintro _ w1 ⟨v1, rfl, hA1, y1, rfl⟩; obtain ⟨b', c', rfl, _, _⟩ := hA1.shape; clear hA1))) | ((first | with_reducible refine wp_region_qe (by kernel_rfl) (by kernel_rfl) ?_ | with_reducible refine wp_region_q (by kernel_rfl) (by kernel_rfl) ?_); (repeat' (first | go_big_quiet_step ((first | (go_at_call 30; first | with_reducible exact Calls.qb (by assumption) (sRouteOk_any rx _ _ _ _ _ _ _ (dg2.stays ((by repeat (first | with_reducible exact Ext.refl _ | with_reducible apply Ext.and | with_reducible apply Ext.drewx | with_reducible apply Ext.alloc | with_reducible apply Ext.ext | with_reducible apply Ext.drew | with_reducible refine Ext.setCell ?_ (by simp) _)) : Ext _ _).below) (dg4.stays ((by repeat (first | with_reducible exact Ext.refl _ | with_reducible apply Ext.and | with_reducible apply Ext.drewx | with_reducible apply Ext.alloc | with_reducible apply Ext.ext | with_reducible apply Ext.drew | with_reducible refine Ext.setCell ?_ (by simp) _)) : Ext _ _).below)) | with_reducible exact Calls.q (sRouteOk_any rx _ _ _ _ _ _ _ (dg2.stays ((by repeat (first | with_reducible exact Ext.refl _ | with_reducible apply Ext.and | with_reducible apply Ext.drewx | with_reducible apply Ext.alloc | with_reducible apply Ext.ext | with_reducible apply Ext.drew | with_reducible refine Ext.setCell ?_ (by simp) _)) : Ext _ _).below) (dg4.stays ((by repeat (first | with_reducible exact Ext.refl _ | with_reducible apply Ext.and | with_reducible apply Ext.drewx | with_reducible apply Ext.alloc | with_reducible apply Ext.ext | with_reducible apply Ext.drew | with_reducible refine Ext.setCell ?_ (by simp) _)) : Ext _ _).below))) | ((go_at_call 53; (with_reducible refine (l23Put_any _ _ _ t2 rx _ _ _ _ _ _ _ (HA.out.sl.stays ((by repeat (first | with_reducible exact Ext.refl _ | with_reducible apply Ext.and | with_reducible apply Ext.drewx | with_reducible apply Ext.alloc | with_reducible apply Ext.ext | with_reducible apply Ext.drew | with_reducible refine Ext.setCell ?_ (by simp) _)) : Ext wr _).below) HFS.out hnn I1.out I2.out (dg2.stays ((by repeat (first | with_reducible exact Ext.refl _ | with_reducible apply Ext.and | with_reducible apply Ext.drewx | with_reducible apply Ext.alloc | with_reducible apply Ext.ext | with_reducible apply Ext.drew | with_reducible refine Ext.setCell ?_ (by simp) _)) : Ext _ _).below) I3.out (dg4.stays ((by repeat (first | with_reducible exact Ext.refl _ | with_reducible apply Ext.and | with_reducible apply Ext.drewx | with_reducible apply Ext.alloc | with_reducible apply Ext.ext | with_reducible apply Ext.drew | with_reducible refine Ext.setCell ?_ (by simp) _)) : Ext _ _).below) hl1 hl2).mono ?_); rintro _ w1 ⟨v1, rfl, hA1, y1, rfl⟩; obtain ⟨b', c', rfl, _, _⟩ := hA1.shape; clear hA1)))) | (refine wpQuiet_split rfl rfl rfl rfl (fun hsp => ?_) (fun hsp => ?_); ((fail_if_success (cases hsp; done)); simp only [hsp]; (try first | have hsq : _ < _ := of_decide_eq_true hsp | have hsq : _ ≤ _ := of_decide_eq_true hsp | have hsq : ¬ _ < _ := of_decide_eq_false hsp | have hsq : ¬ _ ≤ _ := of_decide_eq_false hsp)); rotate_left; ((fail_if_success (cases hsp; done)); simp only [hsp]; (try first | have hsq : _ < _ := of_decide_eq_true hsp | have hsq : _ ≤ _ := of_decide_eq_true hsp | have hsq : ¬ _ < _ := of_decide_eq_false hsp | have hsq : ¬ _ ≤ _ := of_decide_eq_false hsp))))); (all_goals (refine wpQuiet_nil ?_; intro x))) | ((first | with_reducible refine wp_region_seqSe (by kernel_rfl) (by kernel_rfl) ?_ | with_reducible refine wp_region_seqSw (by kernel_rfl) (by kernel_rfl) ?_); (repeat' (first | ((with_reducible refine wpSeqS_pure (by with_unfolding_all rfl) (fun Kq hKq => ?_)); (repeat' (first | go_big_quiet_step (fail) | (refine wpQuiet_split rfl rfl rfl rfl (fun hsp => ?_) (fun hsp => ?_); ((fail_if_success (cases hsp; done)); simp only [hsp]; (try first | have hsq : _ < _ := of_decide_eq_true hsp | have hsq : _ ≤ _ := of_decide_eq_true hsp | have hsq : ¬ _ < _ := of_decide_eq_false hsp | have hsq : ¬ _ ≤ _ := of_decide_eq_false hsp)); rotate_left; ((fail_if_success (cases hsp; done)); simp only [hsp]; (try first | have hsq : _ < _ := of_decide_eq_true hsp | have hsq : _ ≤ _ := of_decide_eq_true hsp | have hsq : ¬ _ < _ := of_decide_eq_false hsp | have hsq : ¬ _ ≤ _ := of_decide_eq_false hsp))))); (all_goals (refine wpQuiet_nil ?_; refine hKq _ ?_; clear hKq Kq))) | ((with_reducible refine wpSeqS_load (by with_unfolding_all rfl) (fun Kq hKq => ?_)); (repeat' (first | go_big_quiet_step (fail) | (refine wpQuiet_split rfl rfl rfl rfl (fun hsp => ?_) (fun hsp => ?_); ((fail_if_success (cases hsp; done)); simp only [hsp]; (try first | have hsq : _ < _ := of_decide_eq_true hsp | have hsq : _ ≤ _ := of_decide_eq_true hsp | have hsq : ¬ _ < _ := of_decide_eq_false hsp | have hsq : ¬ _ ≤ _ := of_decide_eq_false hsp)); rotate_left; ((fail_if_success (cases hsp; done)); simp only [hsp]; (try first | have hsq : _ < _ := of_decide_eq_true hsp | have hsq : _ ≤ _ := of_decide_eq_true hsp | have hsq : ¬ _ < _ := of_decide_eq_false hsp | have hsq : ¬ _ ≤ _ := of_decide_eq_false hsp))))); (all_goals (refine wpQuiet_nil ?_; refine hKq _ ?_; clear hKq Kq))) | ((with_reducible refine wpSeqS_act (by with_unfolding_all rfl) (fun Q' hQ' => ?_)); (go_wp2_with (first | (go_at_call 30; (with_reducible refine (sRouteOk_any rx _ _ _ _ _ _ _ (dg2.stays ((by repeat (first | with_reducible exact Ext.refl _ | with_reducible apply Ext.and | with_reducible apply Ext.drewx | with_reducible apply Ext.alloc | with_reducible apply Ext.ext | with_reducible apply Ext.drew | with_reducible refine Ext.setCell ?_ (by simp) _)) : Ext _ _).below) (dg4.stays ((by repeat (first | with_reducible exact Ext.refl _ | with_reducible apply Ext.and | with_reducible apply Ext.drewx | with_reducible apply Ext.alloc | with_reducible apply Ext.ext | with_reducible apply Ext.drew | with_reducible refine Ext.setCell ?_ (by simp) _)) : Ext _ _).below)).mono ?_); rintro _ _ ⟨rfl, x, rfl⟩) | ((go_at_call 53; (with_reducible refine (l23Put_any _ _ _ t2 rx _ _ _ _ _ _ _ (HA.out.sl.stays ((by repeat (first | with_reducible exact Ext.refl _ | with_reducible apply Ext.and | with_reducible apply Ext.drewx | with_reducible apply Ext.alloc | with_reducible apply Ext.ext | with_reducible apply Ext.drew | with_reducible refine Ext.setCell ?_ (by simp) _)) : Ext wr _).below) HFS.out hnn I1.out I2.out (dg2.stays ((by repeat (first | with_reducible exact Ext.refl _ | with_reducible apply Ext.and | with_reducible apply Ext.drewx | with_reducible apply Ext.alloc | with_reducible apply Ext.ext | with_reducible apply Ext.drew | with_reducible refine Ext.setCell ?_ (by simp) _)) : Ext _ _).below) I3.out (dg4.stays ((by repeat (first | with_reducible exact Ext.refl _ | with_reducible apply Ext.and | with_reducible apply Ext.drewx | with_reducible apply Ext.alloc | with_reducible apply Ext.ext | with_reducible apply Ext.drew | with_reducible refine Ext.setCell ?_ (by simp) _)) : Ext _ _).below) hl1 hl2).mono ?_); rintro _ w1 ⟨v1, rfl, hA1, y1, rfl⟩; obtain ⟨b', c', rfl, _, _⟩ := hA1.shape; clear hA1)))); (all_goals (refine hQ' _ _ rfl ?_ ?_; (first | (focus (intro hbk; simp [brkB] at hbk; done)) | (focus (intro _; change Ext _ _; exact (by repeat (first | with_reducible assumption | with_reducible exact Ext.refl _ | with_reducible apply Ext.and | with_reducible apply Ext.drewx | with_reducible apply Ext.alloc | with_reducible apply Ext.ext | with_reducible apply Ext.drew | with_reducible refine Ext.setCell ?_ (by simp) _))))); clear hQ' Q'))))); (all_goals ((with_reducible refine wpSeqS_nil ?_)))))
                  go_ret2
                  rw [HR.out]
                  exact ⟨_, _, _, rfl, fin_S0 _ (by repeat (first | with_reducible assumption | with_reducible exact Ext.refl _ | with_reducible apply Ext.and | with_reducible apply Ext.drewx | with_reducible apply Ext.alloc | with_reducible apply Ext.ext | with_reducible apply Ext.drew | with_reducible refine Ext.setCell ?_ (by simp) _)) (by simp)⟩
                · have HCT := hidden (show foldO sayT (some t) (dt.take (k + 1)) = some (putLT t2 rx) by rw [foldO_step HT2.out dHD.out]; exact sayT_yes HRX.out (by omega))
                  have HFC := hidden (HF.out.put HRX.out (by omega))
                  have hm' : decide (12 < ((putLT t2 rx).length : Int)) = false := by simp; omega
                  go_wp2_with (first | (first | (go_at_call 30; (with_reducible refine (sRouteOk_any rx _ _ _ _ _ _ _ (dg2.stays ((by repeat (first | with_reducible exact Ext.refl _ | with_reducible apply Ext.and | with_reducible apply Ext.drewx | with_reducible apply Ext.alloc | with_reducible apply Ext.ext | with_reducible apply Ext.drew | with_reducible refine Ext.setCell ?_ (by simp) _)) : Ext _ _).below) (dg4.stays ((by repeat (first | with_reducible exact Ext.refl _ | with_reducible apply Ext.and | with_reducible apply Ext.drewx | with_reducible apply Ext.alloc | with_reducible apply Ext.ext | with_reducible apply Ext.drew | with_reducible refine Ext.setCell ?_ (by simp) _)) : Ext _ _).below)).mono ?_); rintro _ _ ⟨rfl, x, rfl⟩) | ((go_at_call 53; (with_reducible refine (l23Put_any _ _ _ t2 rx _ _ _ _ _ _ _ (HA.out.sl.stays ((by repeat (first | with_reducible exact Ext.refl _ | with_reducible apply Ext.and | with_reducible apply Ext.drewx | with_reducible apply Ext.alloc | with_reducible apply Ext.ext | with_reducible apply Ext.drew | with_reducible refine Ext.setCell ?_ (by simp) _)) : Ext wr _).below) HFS.out hnn I1.out I2.out (dg2.stays ((by repeat (first | with_reducible exact Ext.refl _ | with_reducible apply Ext.and | with_reducible apply Ext.drewx | with_reducible apply Ext.alloc | with_reducible apply Ext.ext | with_reducible apply Ext.drew | with_reducible refine Ext.setCell ?_ (by simp) _)) : Ext _ _).below) I3.out (dg4.stays ((by repeat (first | with_reducible exact Ext.refl _ | with_reducible apply Ext.and | with_reducible apply Ext.drewx | with_reducible apply Ext.alloc | with_reducible apply Ext.ext | with_reducible apply Ext.drew | with_reducible refine Ext.setCell ?_ (by simp) _)) : Ext _ _).below) hl1 hl2).mono ?_); rintro _ w1 ⟨v1, rfl, hA1, y1, rfl⟩; (try rw [ext_ext] at hA1); obtain ⟨b', c', rfl, _, _⟩ := hA1.shape; have HA1 := hidden (AccS.base (M := V.heap.size) hA1 (Nat.le_trans hE1.size ((by repeat (first | with_reducible exact Ext.refl _ | with_reducible apply Ext.and | with_reducible apply Ext.drewx | with_reducible apply Ext.alloc | with_reducible apply Ext.ext | with_reducible apply Ext.drew | with_reducible refine Ext.setCell ?_ (by simp) _)) : Ext wr _).size)); clear hA1))) | ((first | with_reducible refine wp_region_qe (by kernel_rfl) (by kernel_rfl) ?_ | with_reducible refine wp_region_q (by kernel_rfl) (by kernel_rfl) ?_); (repeat' (first | go_big_quiet_step ((first | (go_at_call 30; first | with_reducible exact Calls.qb (by assumption) (sRouteOk_any rx _ _ _ _ _ _ _ (dg2.stays ((by repeat (first | with_reducible exact Ext.refl _ | with_reducible apply Ext.and | with_reducible apply Ext.drewx | with_reducible apply Ext.alloc | with_reducible apply Ext.ext | with_reducible apply Ext.drew | with_reducible refine Ext.setCell ?_ (by simp) _)) : Ext _ _).below) (dg4.stays ((by repeat (first | with_reducible exact Ext.refl _ | with_reducible apply Ext.and | with_reducible apply Ext.drewx | with_reducible apply Ext.alloc | with_reducible apply Ext.ext | with_reducible apply Ext.drew | with_reducible refine Ext.setCell ?_ (by simp) _)) : Ext _ _).below)) | with_reducible exact Calls.q (sRouteOk_any rx _ _ _ _ _ _ _ (dg2.stays ((by repeat (first | with_reducible exact Ext.refl _ | with_reducible apply Ext.and | with_reducible apply Ext.drewx | with_reducible apply Ext.alloc | with_reducible apply Ext.ext | with_reducible apply Ext.drew | with_reducible refine Ext.setCell ?_ (by simp) _)) : Ext _ _).below) (dg4.stays ((by repeat (first | with_reducible exact Ext.refl _ | with_reducible apply Ext.and | with_reducible apply Ext.drewx | with_reducible apply Ext.alloc | with_reducible apply Ext.ext | with_reducible apply Ext.drew | with_reducible refine Ext.setCell ?_ (by simp) _)) : Ext _ _).below))) | ((go_at_call 53; (with_reducible refine (l23Put_any _ _ _ t2 rx _ _ _ _ _ _ _ (HA.out.sl.stays ((by repeat (first | with_reducible exact Ext.refl _ | with_reducible apply Ext.and | with_reducible apply Ext.drewx | with_reducible apply Ext.alloc | with_reducible apply Ext.ext | with_reducible apply Ext.drew | with_reducible refine Ext.setCell ?_ (by simp) _)) : Ext wr _).below) HFS.out hnn I1.out I2.out (dg2.stays ((by repeat (first | with_reducible exact Ext.refl _ | with_reducible apply Ext.and | with_reducible apply Ext.drewx | with_reducible apply Ext.alloc | with_reducible apply Ext.ext | with_reducible apply Ext.drew | with_reducible refine Ext.setCell ?_ (by simp) _)) : Ext _ _).below) I3.out (dg4.stays ((by repeat (first | with_reducible exact Ext.refl _ | with_reducible apply Ext.and | with_reducible apply Ext.drewx | with_reducible apply Ext.alloc | with_reducible apply Ext.ext | with_reducible apply Ext.drew | with_reducible refine Ext.setCell ?_ (by simp) _)) : Ext _ _).below) hl1 hl2).mono ?_); rintro _ w1 ⟨v1, rfl, hA1, y1, rfl⟩; (try rw [ext_ext] at hA1); obtain ⟨b', c', rfl, _, _⟩ := hA1.shape; have HA1 := hidden (AccS.base (M := V.heap.size) hA1 (Nat.le_trans hE1.size ((by repeat (first | with_reducible exact Ext.refl _ | with_reducible apply Ext.and | with_reducible apply Ext.drewx | with_reducible apply Ext.alloc | with_reducible apply Ext.ext | with_reducible apply Ext.drew | with_reducible refine Ext.setCell ?_ (by simp) _)) : Ext wr _).size)); clear hA1)))) | (refine wpQuiet_split rfl rfl rfl rfl (fun hsp => ?_) (fun hsp => ?_); ((fail_if_success (cases hsp; done)); simp only [hsp]; (try first | have hsq : _ < _ := of_decide_eq_true hsp | have hsq : _ ≤ _ := of_decide_eq_true hsp | have hsq : ¬ _ < _ := of_decide_eq_false hsp | have hsq : ¬ _ ≤ _ := of_decide_eq_false hsp)); rotate_left; ((fail_if_success (cases hsp; done)); simp only [hsp]; (try first | have hsq : _ < _ := of_decide_eq_true hsp | have hsq : _ ≤ _ := of_decide_eq_true hsp | have hsq : ¬ _ < _ := of_decide_eq_false hsp | have hsq : ¬ _ ≤ _ := of_decide_eq_false hsp))))); (all_goals (refine wpQuiet_nil ?_; intro x))) | ((first | with_reducible refine wp_region_seqSe (by kernel_rfl) (by kernel_rfl) ?_ | with_reducible refine wp_region_seqSw (by kernel_rfl) (by kernel_rfl) ?_); (repeat' (first | ((with_reducible refine wpSeqS_pure (by with_unfolding_all rfl) (fun Kq hKq => ?_)); (repeat' (first | go_big_quiet_step (fail) | (refine wpQuiet_split rfl rfl rfl rfl (fun hsp => ?_) (fun hsp => ?_); ((fail_if_success (cases hsp; done)); simp only [hsp]; (try first | have hsq : _ < _ := of_decide_eq_true hsp | have hsq : _ ≤ _ := of_decide_eq_true hsp | have hsq : ¬ _ < _ := of_decide_eq_false hsp | have hsq : ¬ _ ≤ _ := of_decide_eq_false hsp)); rotate_left; ((fail_if_success (cases hsp; done)); simp only [hsp]; (try first | have hsq : _ < _ := of_decide_eq_true hsp | have hsq : _ ≤ _ := of_decide_eq_true hsp | have hsq : ¬ _ < _ := of_decide_eq_false hsp | have hsq : ¬ _ ≤ _ := of_decide_eq_false hsp))))); (all_goals (refine wpQuiet_nil ?_; refine hKq _ ?_; clear hKq Kq))) | ((with_reducible refine wpSeqS_load (by with_unfolding_all rfl) (fun Kq hKq => ?_)); (repeat' (first | go_big_quiet_step (fail) | (refine wpQuiet_split rfl rfl rfl rfl (fun hsp => ?_) (fun hsp => ?_); ((fail_if_success (cases hsp; done)); simp only [hsp]; (try first | have hsq : _ < _ := of_decide_eq_true hsp | have hsq : _ ≤ _ := of_decide_eq_true hsp | have hsq : ¬ _ < _ := of_decide_eq_false hsp | have hsq : ¬ _ ≤ _ := of_decide_eq_false hsp)); rotate_left; ((fail_if_success (cases hsp; done)); simp only [hsp]; (try first | have hsq : _ < _ := of_decide_eq_true hsp | have hsq : _ ≤ _ := of_decide_eq_true hsp | have hsq : ¬ _ < _ := of_decide_eq_false hsp | have hsq : ¬ _ ≤ _ := of_decide_eq_false hsp))))); (all_goals (refine wpQuiet_nil ?_; refine hKq _ ?_; clear hKq Kq))) | ((with_reducible refine wpSeqS_act (by with_unfolding_all rfl) (fun Q' hQ' => ?_)); (go_wp2_with (first | (go_at_call 30; (with_reducible refine (sRouteOk_any rx _ _ _ _ _ _ _ (dg2.stays ((by repeat (first | with_reducible exact Ext.refl _ | with_reducible apply Ext.and | with_reducible apply Ext.drewx | with_reducible apply Ext.alloc | with_reducible apply Ext.ext | with_reducible apply Ext.drew | with_reducible refine Ext.setCell ?_ (by simp) _)) : Ext _ _).below) (dg4.stays ((by repeat (first | with_reducible exact Ext.refl _ | with_reducible apply Ext.and | with_reducible apply Ext.drewx | with_reducible apply Ext.alloc | with_reducible apply Ext.ext | with_reducible apply Ext.drew | with_reducible refine Ext.setCell ?_ (by simp) _)) : Ext _ _).below)).mono ?_); rintro _ _ ⟨rfl, x, rfl⟩) | ((go_at_call 53; (with_reducible refine (l23Put_any _ _ _ t2 rx _ _ _ _ _ _ _ (HA.out.sl.stays ((by repeat (first | with_reducible exact Ext.refl _ | with_reducible apply Ext.and | with_reducible apply Ext.drewx | with_reducible apply Ext.alloc | with_reducible apply Ext.ext | with_reducible apply Ext.drew | with_reducible refine Ext.setCell ?_ (by simp) _)) : Ext wr _).below) HFS.out hnn I1.out I2.out (dg2.stays ((by repeat (first | with_reducible exact Ext.refl _ | with_reducible apply Ext.and | with_reducible apply Ext.drewx | with_reducible apply Ext.alloc | with_reducible apply Ext.ext | with_reducible apply Ext.drew | with_reducible refine Ext.setCell ?_ (by simp) _)) : Ext _ _).below) I3.out (dg4.stays ((by repeat (first | with_reducible exact Ext.refl _ | with_reducible apply Ext.and | with_reducible apply Ext.drewx | with_reducible apply Ext.alloc | with_reducible apply Ext.ext | with_reducible apply Ext.drew | with_reducible refine Ext.setCell ?_ (by simp) _)) : Ext _ _).below) hl1 hl2).mono ?_); rintro _ w1 ⟨v1, rfl, hA1, y1, rfl⟩; (try rw [ext_ext] at hA1); obtain ⟨b', c', rfl, _, _⟩ := hA1.shape; have HA1 := hidden (AccS.base (M := V.heap.size) hA1 (Nat.le_trans hE1.size ((by repeat (first | with_reducible exact Ext.refl _ | with_reducible apply Ext.and | with_reducible apply Ext.drewx | with_reducible apply Ext.alloc | with_reducible apply Ext.ext | with_reducible apply Ext.drew | with_reducible refine Ext.setCell ?_ (by simp) _)) : Ext wr _).size)); clear hA1)))); (all_goals (refine hQ' _ _ rfl ?_ ?_; (first | (focus (intro hbk; simp [brkB] at hbk; done)) | (focus (intro _; change Ext _ _; exact (by repeat (first | with_reducible assumption | with_reducible exact Ext.refl _ | with_reducible apply Ext.and | with_reducible apply Ext.drewx | with_reducible apply Ext.alloc | with_reducible apply Ext.ext | with_reducible apply Ext.drew | with_reducible refine Ext.setCell ?_ (by simp) _))))); clear hQ' Q'))))); (all_goals ((with_reducible refine wpSeqS_nil ?_)))))
                  go_roundw
                  case rel => exact ⟨k + 1, _, _, _, _, by omega, by go_num, rfl, HCT, HFC, hidden (HA1.out.ext (by repeat (first | with_reducible exact Ext.refl _ | with_reducible apply Ext.and | with_reducible apply Ext.drewx | with_reducible apply Ext.alloc | with_reducible apply Ext.ext | with_reducible apply Ext.drew | with_reducible refine Ext.setCell ?_ (by simp) _))), hE1.trans ((by repeat (first | with_reducible exact Ext.refl _ | with_reducible apply Ext.and | with_reducible apply Ext.drewx | with_reducible apply Ext.alloc | with_reducible apply Ext.ext | with_reducible apply Ext.drew | with_reducible refine Ext.setCell ?_ (by simp) _)) : Ext wr _)⟩
                  case measure => simp [intOf]; omega
            · obtain rfl : n2 = k := by omega
              have HR := hidden (ddo_yes (d := ⟨dd, dt⟩) HK1.out HTT.out (foldO_all HT2.out HL2.out))
              go_wp2_with (first | ((first | with_reducible refine wp_region_qe (by kernel_rfl) (by kernel_rfl) ?_ | with_reducible refine wp_region_q (by kernel_rfl) (by kernel_rfl) ?_); (repeat' (first | go_big_quiet_step (fail) | (refine wpQuiet_split rfl rfl rfl rfl (fun hsp => ?_) (fun hsp => ?_); ((fail_if_success (cases hsp; done)); simp only [hsp]; (try first | have hsq : _ < _ := of_decide_eq_true hsp | have hsq : _ ≤ _ := of_decide_eq_true hsp | have hsq : ¬ _ < _ := of_decide_eq_false hsp | have hsq : ¬ _ ≤ _ := of_decide_eq_false hsp)); rotate_left; ((fail_if_success (cases hsp; done)); simp only [hsp]; (try first | have hsq : _ < _ := of_decide_eq_true hsp | have hsq : _ ≤ _ := of_decide_eq_true hsp | have hsq : ¬ _ < _ := of_decide_eq_false hsp | have hsq : ¬ _ ≤ _ := of_decide_eq_false hsp))))); (all_goals (refine wpQuiet_nil ?_; intro x))) | ((first | with_reducible refine wp_region_seqSe (by kernel_rfl) (by kernel_rfl) ?_ | with_reducible refine wp_region_seqSw (by kernel_rfl) (by kernel_rfl) ?_); (repeat' (first | ((with_reducible refine wpSeqS_pure (by with_unfolding_all rfl) (fun Kq hKq => ?_)); (repeat' (first | go_big_quiet_step (fail) | (refine wpQuiet_split rfl rfl rfl rfl (fun hsp => ?_) (fun hsp => ?_); ((fail_if_success (cases hsp; done)); simp only [hsp]; (try first | have hsq : _ < _ := of_decide_eq_true hsp | have hsq : _ ≤ _ := of_decide_eq_true hsp | have hsq : ¬ _ < _ := of_decide_eq_false hsp | have hsq : ¬ _ ≤ _ := of_decide_eq_false hsp)); rotate_left; ((fail_if_success (cases hsp; done)); simp only [hsp]; (try first | have hsq : _ < _ := of_decide_eq_true hsp | have hsq : _ ≤ _ := of_decide_eq_true hsp | have hsq : ¬ _ < _ := of_decide_eq_false hsp | have hsq : ¬ _ ≤ _ := of_decide_eq_false hsp))))); (all_goals (refine wpQuiet_nil ?_; refine hKq _ ?_; clear hKq Kq))) | ((with_reducible refine wpSeqS_load (by with_unfolding_all rfl) (fun Kq hKq => ?_)); (repeat' (first | go_big_quiet_step (fail) | (refine wpQuiet_split rfl rfl rfl rfl (fun hsp => ?_) (fun hsp => ?_); ((fail_if_success (cases hsp; done)); simp only [hsp]; (try first | have hsq : _ < _ := of_decide_eq_true hsp | have hsq : _ ≤ _ := of_decide_eq_true hsp | have hsq : ¬ _ < _ := of_decide_eq_false hsp | have hsq : ¬ _ ≤ _ := of_decide_eq_false hsp)); rotate_left; ((fail_if_success (cases hsp; done)); simp only [hsp]; (try first | have hsq : _ < _ := of_decide_eq_true hsp | have hsq : _ ≤ _ := of_decide_eq_true hsp | have hsq : ¬ _ < _ := of_decide_eq_false hsp | have hsq : ¬ _ ≤ _ := of_decide_eq_false hsp))))); (all_goals (refine wpQuiet_nil ?_; refine hKq _ ?_; clear hKq Kq))) | ((with_reducible refine wpSeqS_act (by with_unfolding_all rfl) (fun Q' hQ' => ?_)); (go_wp2_with fail); (all_goals (refine hQ' _ _ rfl ?_ ?_; (first | (focus (intro hbk; simp [brkB] at hbk; done)) | (focus (intro _; change Ext _ _; exact (by repeat (first | with_reducible assumption | with_reducible exact Ext.refl _ | with_reducible apply Ext.and | with_reducible apply Ext.drewx | with_reducible apply Ext.alloc | with_reducible apply Ext.ext | with_reducible apply Ext.drew | with_reducible refine Ext.setCell ?_ (by simp) _))))); clear hQ' Q'))))); (all_goals ((with_reducible refine wpSeqS_nil ?_)))))
              go_ret2
              rw [HR.out]
              exact ⟨_, _, _, rfl, fin_S (HA.out.ext ((by repeat (first | with_reducible exact Ext.refl _ | with_reducible apply Ext.and | with_reducible apply Ext.drewx | with_reducible apply Ext.alloc | with_reducible apply Ext.ext | with_reducible apply Ext.drew | with_reducible refine Ext.setCell ?_ (by simp) _)) : Ext wr _)) (by repeat (first | with_reducible assumption | with_reducible exact Ext.refl _ | with_reducible apply Ext.and | with_reducible apply Ext.drewx | with_reducible apply Ext.alloc | with_reducible apply Ext.ext | with_reducible apply Ext.drew | with_reducible refine Ext.setCell ?_ (by simp) _))⟩

end Go.Proofs.YtlehcnfmagjilaaGreatDoor
