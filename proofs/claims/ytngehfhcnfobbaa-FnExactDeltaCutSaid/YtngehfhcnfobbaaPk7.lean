/- Lemmas for it, part 7. No condition. -/
import Derived.Test.YtngehfhcnfobbaaPk4
import Derived.Test.YtngehfhcnfobbaaPk6
namespace Go.Proofs.Ytngehfhcnfobbaa
open Go Go.RowKit

/-- One more item: a withdrawal, or an announcement. -/
def dcAdd (d : Dl) (k : Nat) (a : List Rg) (b : List Rt) : List Rg × List Rt :=
  match d.drop[k]? with
  | some r => (a ++ [r], b)
  | none => match d.tell[k - d.drop.length]? with
    | some t => (a, b ++ [t])
    | none => (a, b)
/-- What is open, and what has been cut off, behind so many items. -/
def dcSt (d : Dl) : Nat → List Rg × List Rt × List Dl
  | 0 => ([], [], [])
  | k + 1 =>
    let s := dcSt d k
    let x := dcAdd d k s.1 s.2.1
    if x.1.length + x.2.length = 3 then ([], [], s.2.2 ++ [⟨x.1, x.2⟩]) else (x.1, x.2, s.2.2)
def dcN (d : Dl) : Nat := d.drop.length + d.tell.length
def dcEnd (s : List Rg × List Rt × List Dl) : List Dl := if s.1.length + s.2.1.length = 0 then s.2.2 else s.2.2 ++ [⟨s.1, s.2.1⟩]
def dcut (d : Dl) : List Dl := dcEnd (dcSt d (dcN d))

theorem dcAdd_len {d : Dl} {k : Nat} {a : List Rg} {b : List Rt} (h : k < dcN d) : (dcAdd d k a b).1.length + (dcAdd d k a b).2.length = a.length + b.length + 1 := by
  unfold dcAdd dcN at *
  by_cases hk : k < d.drop.length
  · rw [List.getElem?_eq_getElem hk]; simp; omega
  · rw [List.getElem?_eq_none (by omega)]
    have h2 : k - d.drop.length < d.tell.length := by omega
    rw [List.getElem?_eq_getElem h2]; simp; omega
theorem dcSt_len {d : Dl} : ∀ {k : Nat}, k ≤ dcN d → (dcSt d k).1.length + (dcSt d k).2.1.length = k % 3 ∧ (dcSt d k).2.2.length = k / 3
  | 0, _ => ⟨rfl, rfl⟩
  | k + 1, h => by
    obtain ⟨h1, h2⟩ := dcSt_len (d := d) (k := k) (by omega)
    have h3 := dcAdd_len (d := d) (k := k) (a := (dcSt d k).1) (b := (dcSt d k).2.1) (by omega)
    simp only [dcSt]
    split
    · rename_i h4
      refine ⟨?_, ?_⟩
      · show 0 = _
        omega
      · rw [List.length_append, h2]; simp; omega
    · rename_i h4
      refine ⟨?_, ?_⟩
      · show (dcAdd d k _ _).1.length + (dcAdd d k _ _).2.length = _
        omega
      · rw [h2]; omega
theorem dcut_len (d : Dl) : (dcut d).length ≤ dcN d := by
  obtain ⟨h1, h2⟩ := dcSt_len (d := d) (k := dcN d) (Nat.le_refl _)
  unfold dcut dcEnd
  split
  · rw [h2]; omega
  · rw [List.length_append, h2]; simp; omega

/-- The two lists that grow, the messages that lie there already; all apart, and from block X. -/
structure CI (N X : Nat) (w : World) (v1 v2 : Value) (L1 : List Rg) (L2 : List Rt) (xs : List Value) (L : List Dl) (fps2 fps : List (List Nat)) : Prop where
  a1 : AccF N 43 w v1 L1
  x1 : ∀ b, v1.ownBlock = some b → b ≠ X
  a2 : AccO N 46 w v2 L2 fps2
  x2 : ∀ b, v2.ownBlock = some b → b ≠ X
  x3 : ∀ b ∈ fps2.flatten, N ≤ b ∧ b ≠ X
  ap : ∀ g, v1.ownBlock = some g → v2.ownBlock ≠ some g ∧ g ∉ fps2.flatten
  row : RowOw w xs L fps
  nd : fps.flatten.Nodup
  lo : ∀ b ∈ fps.flatten, N ≤ b ∧ b ≠ X ∧ v1.ownBlock ≠ some b ∧ v2.ownBlock ≠ some b ∧ b ∉ fps2.flatten

section
variable {N X : Nat} {w w' w0 : World} {v1 v2 v : Value} {L1 : List Rg} {L2 : List Rt} {xs : List Value} {L : List Dl} {fps2 fps : List (List Nat)}
theorem CI.nil : CI N X w (.slice none 0 0) (.slice none 0 0) [] [] [] [] [] [] :=
  ⟨AccF.nil, fun b e => (by cases e), AccO.nil, fun b e => (by cases e), by simp, fun g e => (by cases e), RowOw.nil, by simp, by simp⟩
theorem CI.ext (h : CI N X w v1 v2 L1 L2 xs L fps2 fps) (k : Ext w w') : CI N X w' v1 v2 L1 L2 xs L fps2 fps :=
  ⟨h.a1.ext k, h.x1, h.a2.ext k, h.x2, h.x3, h.ap, h.row.frame (fun b hb => k.below.block b (h.row.lt b hb)), h.nd, h.lo⟩
theorem CI.setX (h : CI N X w v1 v2 L1 L2 xs L fps2 fps) (o : Nat) (u : Value) : CI N X (w.setCell ⟨X, o, none⟩ u) v1 v2 L1 L2 xs L fps2 fps :=
  ⟨h.a1.setNe (fun e => h.x1 _ e rfl) u, h.x1, h.a2.setNe (fun e => h.x2 _ e rfl) (fun hm => (h.x3 _ hm).2 rfl) u, h.x2, h.x3, h.ap,
    h.row.frame (fun b hb => Below.heap_setCell w ⟨X, o, none⟩ u b (h.lo b hb).2.1), h.nd, h.lo⟩
theorem CI.push1 {d : Rg} {fqs : List (List Nat)} (h : CI N X w v1 v2 L1 L2 xs L fps2 fps) (hX : X < w.heap.size) (hA : AccO N 43 w' v (L1 ++ [d]) fqs) (hg : w.grownBy w' v1.ownBlock) (hv : v.ownBlock = v1.ownBlock ∨ v.ownBlock = some w.heap.size) : CI N X w' v v2 (L1 ++ [d]) L2 xs L fps2 fps := by
  refine ⟨hA.toF, fun b hb => ?_, h.a2.kept hg h.ap, h.x2, h.x3, fun g hg' => ?_, h.row.frame (fun b hb => hg.block b (h.row.lt b hb) (fun e => (h.lo b hb).2.2.1 e.symm)), h.nd, fun b hb => ?_⟩
  · rcases hv with e | e
    · exact h.x1 b (e ▸ hb)
    · rw [e] at hb; have := Option.some.inj hb; omega
  · rcases hv with e | e
    · exact h.ap g (e ▸ hg')
    · rw [e] at hg'
      have hgw := Option.some.inj hg'
      exact ⟨fun e2 => by have := (h.a2.low g e2).2; omega, fun hm => by have := h.a2.fresh_lt g hm; omega⟩
  · obtain ⟨k1, k2, k3, k4, k5⟩ := h.lo b hb
    refine ⟨k1, k2, ?_, k4, k5⟩
    rcases hv with e | e
    · rw [e]; exact k3
    · rw [e]; intro e2; have := Option.some.inj e2; have := h.row.lt b hb; omega
theorem CI.push2 {d : Rt} {f : List Nat} (h : CI N X w v1 v2 L1 L2 xs L fps2 fps) (hX : X < w.heap.size) (hA : AccO N 46 w' v (L2 ++ [d]) (fps2 ++ [f])) (hg : w.grownBy w' v2.ownBlock) (hv : v.ownBlock = v2.ownBlock ∨ v.ownBlock = some w.heap.size)
    (hf : ∀ b ∈ f, N ≤ b ∧ b ≠ X ∧ v1.ownBlock ≠ some b ∧ b ∉ fps.flatten) : CI N X w' v1 v L1 (L2 ++ [d]) xs L (fps2 ++ [f]) fps := by
  refine ⟨h.a1.kept hg (fun b e e2 => (h.ap b e2).1 e), h.x1, hA, fun b hb => ?_, fun b hb => ?_, fun g hg' => ⟨fun e => ?_, fun hm => ?_⟩, h.row.frame (fun b hb => hg.block b (h.row.lt b hb) (fun e => (h.lo b hb).2.2.2.1 e.symm)), h.nd, fun b hb => ?_⟩
  · rcases hv with e | e
    · exact h.x2 b (e ▸ hb)
    · rw [e] at hb; have := Option.some.inj hb; omega
  · rw [flatten_snoc] at hb
    rcases List.mem_append.1 hb with hb | hb
    · exact h.x3 b hb
    · exact ⟨(hf b hb).1, (hf b hb).2.1⟩
  · rcases hv with e' | e'
    · exact (h.ap g hg').1 (e' ▸ e)
    · rw [e'] at e; have := Option.some.inj e; have := (h.a1.low g hg').2; omega
  · rw [flatten_snoc] at hm
    rcases List.mem_append.1 hm with hm | hm
    · exact (h.ap g hg').2 hm
    · exact (hf g hm).2.2.1 hg'
  · obtain ⟨k1, k2, k3, k4, k5⟩ := h.lo b hb
    refine ⟨k1, k2, k3, ?_, fun hm => ?_⟩
    · rcases hv with e | e
      · rw [e]; exact k4
      · rw [e]; intro e2; have := Option.some.inj e2; have := h.row.lt b hb; omega
    · rw [flatten_snoc] at hm
      rcases List.mem_append.1 hm with hm | hm
      · exact k5 hm
      · exact (hf b hm).2.2.2 hb
/-- The message is cut off. -/
theorem CI.flush {a1 a2 : Option Addr} {n1 c1 n2 c2 : Nat} (h : CI N X w (.slice a1 n1 c1) (.slice a2 n2 c2) L1 L2 xs L fps2 fps) :
    ∃ f, Ow.own w [.slice a1 n1 c1, .slice a2 n2 c2] (⟨L1, L2⟩ : Dl) f ∧ f.Nodup ∧ CI N X w (.slice none 0 0) (.slice none 0 0) [] [] (xs ++ [.slice a1 n1 c1, .slice a2 n2 c2]) (L ++ [⟨L1, L2⟩]) [] (fps ++ [f]) := by
  obtain ⟨fp1, o1, nd1, b1⟩ := h.a1.toO.owns
  obtain ⟨fp2, o2, nd2, b2⟩ := h.a2.owns
  have b1' : ∀ b ∈ fp1, (Value.slice a1 n1 c1).ownBlock = some b := fun b hb => by
    rcases b1 b hb with e | e
    · exact e
    · have hz : (L1.map fun _ => ([] : List Nat)).flatten = [] := by simp
      rw [hz] at e
      cases e
  have hnd : (fp1 ++ fp2).Nodup := by
    refine List.nodup_append.2 ⟨nd1, nd2, fun x hx y hy e => ?_⟩
    subst e
    rcases b2 x hy with e | e
    · exact (h.ap x (b1' x hx)).1 e
    · exact (h.ap x (b1' x hx)).2 e
  have hlo : ∀ b ∈ fp1 ++ fp2, N ≤ b ∧ b ≠ X := fun b hb => by
    rcases List.mem_append.1 hb with hb | hb
    · exact ⟨(h.a1.low b (b1' b hb)).1, h.x1 b (b1' b hb)⟩
    · rcases b2 b hb with e | e
      · exact ⟨(h.a2.low b e).1, h.x2 b e⟩
      · exact h.x3 b e
  have hnot : ∀ b ∈ fp1 ++ fp2, b ∉ fps.flatten := fun b hb hm => by
    obtain ⟨k1, k2, k3, k4, k5⟩ := h.lo b hm
    rcases List.mem_append.1 hb with hb | hb
    · exact k3 (b1' b hb)
    · rcases b2 b hb with e | e
      · exact k4 e
      · exact k5 e
  have ho : Ow.own w [.slice a1 n1 c1, .slice a2 n2 c2] (⟨L1, L2⟩ : Dl) (fp1 ++ fp2) := ⟨_, _, _, _, _, _, fp1, fp2, rfl, o1, o2, rfl⟩
  refine ⟨fp1 ++ fp2, ho, hnd, AccF.nil, fun b e => (by cases e), AccO.nil, fun b e => (by cases e), by simp, fun g e => (by cases e), h.row.append (RowOw.single ho rfl), ?_, fun b hb => ?_⟩
  · rw [flatten_snoc]
    exact List.nodup_append.2 ⟨h.nd, hnd, fun x hx y hy e => hnot y hy (e ▸ hx)⟩
  · rw [flatten_snoc] at hb
    rcases List.mem_append.1 hb with hb | hb
    · obtain ⟨k1, k2, _⟩ := h.lo b hb
      exact ⟨k1, k2, (fun e => by cases e), (fun e => by cases e), by simp⟩
    · exact ⟨(hlo b hb).1, (hlo b hb).2, (fun e => by cases e), (fun e => by cases e), by simp⟩
end
end Go.Proofs.Ytngehfhcnfobbaa
namespace Go.Proofs.Ytngehfhcnfobbaa
open Go Go.RowKit

theorem set_take1 {n : Nat} {cur xs : List Value} {s1 s2 u : Value} (ht : cur.take ((n + 1) * 2) = xs ++ [s1, s2]) (hx : xs.length = n * 2) : (cur.set (n * 2) u).take ((n + 1) * 2) = xs ++ [u, s2] := by
  rw [List.take_set, ht, List.set_append_right _ _ (by omega), hx]
  simp
theorem set_take2 {n : Nat} {cur xs : List Value} {s1 s2 u : Value} (ht : cur.take ((n + 1) * 2) = xs ++ [s1, s2]) (hx : xs.length = n * 2) : (cur.set (n * 2 + 1) u).take ((n + 1) * 2) = xs ++ [s1, u] := by
  rw [List.take_set, ht, List.set_append_right _ _ (by omega), hx]
  simp
theorem take_last {n : Nat} {cur xs : List Value} {s1 s2 : Value} (ht : cur.take ((n + 1) * 2) = xs ++ [s1, s2]) (hx : xs.length = n * 2) : cur[n * 2]? = some s1 ∧ cur[n * 2 + 1]? = some s2 := by
  constructor
  · rw [← List.getElem?_take_of_lt (show n * 2 < (n + 1) * 2 by omega), ht, List.getElem?_append_right (by omega), hx]; simp
  · rw [← List.getElem?_take_of_lt (show n * 2 + 1 < (n + 1) * 2 by omega), ht, List.getElem?_append_right (by omega), hx]
    rw [show n * 2 + 1 - n * 2 = 1 by omega]
    rfl

def SpA (N : Nat) (w : World) (v : Value) (L : List Dl) : Prop := ∃ fps, AccO N 32 w v L fps ∧ ∀ b ∈ fps.flatten, N ≤ b
/-- The last message is open: its two slices lie in the row of block g. -/
def SpV (N : Nat) (w : World) (g cap : Nat) (p1 : Option Addr) (q1 r1 : Nat) (p2 : Option Addr) (q2 r2 : Nat) (L1 : List Rg) (L2 : List Rt) (L : List Dl) (xs cur : List Value) (fps2 fps : List (List Nat)) : Prop :=
  N ≤ g ∧ L.length + 1 ≤ cap ∧ cap ≤ maxLen ∧ Blk w g 32 cur ∧ cur.length = cap * 2 ∧ cur.take ((L.length + 1) * 2) = xs ++ [.slice p1 q1 r1, .slice p2 q2 r2] ∧ CI N g w (.slice p1 q1 r1) (.slice p2 q2 r2) L1 L2 xs L fps2 fps
def SpO (N : Nat) (w : World) (v : Value) (L1 : List Rg) (L2 : List Rt) (L : List Dl) : Prop :=
  ∃ g cap p1 q1 r1 p2 q2 r2 xs cur fps2 fps, v = .slice (some ⟨g, 0, none⟩) (L.length + 1) cap ∧ SpV N w g cap p1 q1 r1 p2 q2 r2 L1 L2 L xs cur fps2 fps
def SpSt (N : Nat) (w : World) (v : Value) (s : List Rg × List Rt × List Dl) : Prop := if s.1.length + s.2.1.length = 0 then SpA N w v s.2.2 else SpO N w v s.1 s.2.1 s.2.2

section
variable {N g cap : Nat} {w w' w1 : World} {v v1 : Value} {p1 : Option Addr} {q1 r1 : Nat} {p2 : Option Addr} {q2 r2 : Nat} {L1 : List Rg} {L2 : List Rt} {L : List Dl} {xs cur : List Value} {fps2 fps : List (List Nat)}
theorem SpA.ext (h : SpA N w v L) (k : Ext w w') : SpA N w' v L := by
  obtain ⟨fps, h1, h2⟩ := h
  exact ⟨fps, h1.ext k, h2⟩
theorem SpV.xlen (h : SpV N w g cap p1 q1 r1 p2 q2 r2 L1 L2 L xs cur fps2 fps) : xs.length = L.length * 2 := h.2.2.2.2.2.2.row.1
theorem SpV.ext (h : SpV N w g cap p1 q1 r1 p2 q2 r2 L1 L2 L xs cur fps2 fps) (k : Ext w w') : SpV N w' g cap p1 q1 r1 p2 q2 r2 L1 L2 L xs cur fps2 fps := by
  obtain ⟨h1, h2, h3, h4, h5, h6, h7⟩ := h
  exact ⟨h1, h2, h3, h4.extends k, h5, h6, h7.ext k⟩
theorem SpO.ext (h : SpO N w v L1 L2 L) (k : Ext w w') : SpO N w' v L1 L2 L := by
  obtain ⟨g, cap, p1, q1, r1, p2, q2, r2, xs, cur, fps2, fps, e, h⟩ := h
  exact ⟨g, cap, p1, q1, r1, p2, q2, r2, xs, cur, fps2, fps, e, h.ext k⟩
theorem SpSt.ext {s : List Rg × List Rt × List Dl} (h : SpSt N w v s) (k : Ext w w') : SpSt N w' v s := by
  unfold SpSt at *
  split
  · rename_i e; rw [if_pos e] at h; exact h.ext k
  · rename_i e; rw [if_neg e] at h; exact h.ext k
theorem SpO.flush (h : SpO N w v L1 L2 L) : SpA N w v (L ++ [⟨L1, L2⟩]) := by
  obtain ⟨g, cap, p1, q1, r1, p2, q2, r2, xs, cur, fps2, fps, rfl, h1, h2, h3, h4, h5, h6, h7⟩ := h
  obtain ⟨f, _, _, hF⟩ := h7.flush
  refine ⟨fps ++ [f], ⟨xs ++ [.slice p1 q1 r1, .slice p2 q2 r2], ?_, hF.row, hF.nd, fun b hb e => (hF.lo b hb).2.1 (Option.some.inj e).symm⟩, fun b hb => (hF.lo b hb).1⟩
  rw [List.length_append, List.length_singleton]
  refine ownsRow_of h1 h4 h5 h2 h3 ?_ h6
  have := h7.row.1
  show (xs ++ [_, _]).length = (L.length + 1) * 2
  simp only [List.length_append, List.length_cons, List.length_nil]
  have h8 : xs.length = L.length * 2 := this
  omega
theorem SpV.set1 {b' : Option Addr} {n' c' : Nat} {L1' : List Rg} (h : SpV N w g cap p1 q1 r1 p2 q2 r2 L1 L2 L xs cur fps2 fps) (hB : Blk w1 g 32 cur) (hC : CI N g w1 (.slice b' n' c') (.slice p2 q2 r2) L1' L2 xs L fps2 fps) :
    SpO N (w1.setCell ⟨g, L.length * 2, none⟩ (.slice b' n' c')) (.slice (some ⟨g, 0, none⟩) (L.length + 1) cap) L1' L2 L := by
  have hx := h.xlen
  obtain ⟨h1, h2, h3, h4, h5, h6, h7⟩ := h
  exact ⟨g, cap, _, _, _, _, _, _, xs, _, fps2, fps, rfl, h1, h2, h3, hB.set _ _, by rw [List.length_set]; exact h5, set_take1 h6 hx, hC.setX _ _⟩
theorem SpV.set2 {b' : Option Addr} {n' c' : Nat} {L2' : List Rt} {fps2' : List (List Nat)} (h : SpV N w g cap p1 q1 r1 p2 q2 r2 L1 L2 L xs cur fps2 fps) (hB : Blk w1 g 32 cur) (hC : CI N g w1 (.slice p1 q1 r1) (.slice b' n' c') L1 L2' xs L fps2' fps) :
    SpO N (w1.setCell ⟨g, L.length * 2 + 1, none⟩ (.slice b' n' c')) (.slice (some ⟨g, 0, none⟩) (L.length + 1) cap) L1 L2' L := by
  have hx := h.xlen
  obtain ⟨h1, h2, h3, h4, h5, h6, h7⟩ := h
  exact ⟨g, cap, _, _, _, _, _, _, xs, _, fps2', fps, rfl, h1, h2, h3, hB.set _ _, by rw [List.length_set]; exact h5, set_take2 h6 hx, hC.setX _ _⟩
theorem spSt_next {d : Dl} {k : Nat} (hst : dcSt d k = (L1, L2, L)) (hk : k < dcN d) (h : SpO N w v (dcAdd d k L1 L2).1 (dcAdd d k L1 L2).2 L) : SpSt N w v (dcSt d (k + 1)) := by
  have hl := dcAdd_len (d := d) (k := k) (a := L1) (b := L2) hk
  simp only [dcSt, hst]
  split
  · exact h.flush
  · unfold SpSt
    rw [if_neg (by simp only; omega)]
    exact h
/-- A new message is begun. -/
theorem SpO.new {b1 b2 : Nat} (h : AccO N 32 w v L fps) (hlo : ∀ b ∈ fps.flatten, N ≤ b) (hE : Ext w w') (hx : w.ownsRow N 32 2 v L.length xs) (hr : RowOw w xs L fps) (hb1 : Blk w' b1 43 []) (hb2 : Blk w' b2 46 []) (k1 : w.heap.size ≤ b1) (k2 : w.heap.size ≤ b2) (hbb : b1 ≠ b2) (hN : N ≤ w.heap.size) (hg : w'.grownBy w1 v.ownBlock) (hv : v1.ownBlock = v.ownBlock ∨ v1.ownBlock = some w'.heap.size)
    (ho : w1.ownsRow N 32 2 v1 (L.length + 1) (xs ++ [.slice (some ⟨b1, 0, none⟩) 0 0, .slice (some ⟨b2, 0, none⟩) 0 0])) : SpO N w1 v1 [] [] L := by
  obtain ⟨a, cap, rfl, hc1, hc2, _⟩ := ownsRow_shape ho
  obtain ⟨g, cur, rfl, hB, hl, ht⟩ := ownsRow_cur ho (by omega)
  have hNg := (ho.lt g rfl).1
  have hvlt : ∀ b, v.ownBlock = some b → b < w.heap.size := fun b e => (hx.lt b e).2
  have hgg : ∀ b, b < w'.heap.size → w.heap.size ≤ b → b ≠ g := fun b hb hb2 e => by
    rcases hv with hv | hv
    · have := hvlt g (hv ▸ rfl); omega
    · have := Option.some.inj hv
      have e2 : g = w'.heap.size := this
      omega
  have hb1' : Blk w1 b1 43 [] := hb1.of_heap (hg.block b1 hb1.lt fun e => by have := hvlt b1 e.symm; omega)
  have hb2' : Blk w1 b2 46 [] := hb2.of_heap (hg.block b2 hb2.lt fun e => by have := hvlt b2 e.symm; omega)
  have hnd : fps.flatten.Nodup ∧ ∀ b ∈ fps.flatten, v.ownBlock ≠ some b := by
    obtain ⟨_, _, _, h3, h4⟩ := h
    exact ⟨h3, h4⟩
  refine ⟨g, cap, _, _, _, _, _, _, xs, cur, [], fps, rfl, hNg, hc1, hc2, hB, hl, ht, ⟨⟨[], ownsRow_of (Nat.le_trans hN k1) hb1' rfl (Nat.le_refl _) (by unfold maxLen; omega) rfl rfl, ⟨rfl, fun i d hd => by simp at hd⟩⟩, fun b e => ?_,
    ⟨[], ownsRow_of (Nat.le_trans hN k2) hb2' rfl (Nat.le_refl _) (by unfold maxLen; omega) rfl rfl, RowOw.nil, by simp, by simp⟩, fun b e => ?_, by simp, fun b e => ⟨fun e2 => ?_, by simp⟩, hr.frame fun b hb => ?_, hnd.1, fun b hb => ?_⟩⟩
  · obtain rfl : b1 = b := Option.some.inj e
    exact hgg b1 hb1.lt k1
  · obtain rfl : b2 = b := Option.some.inj e
    exact hgg b2 hb2.lt k2
  · have e3 : b1 = b := Option.some.inj e
    have e4 : b2 = b := Option.some.inj e2
    omega
  · rw [hg.block b (Nat.lt_of_lt_of_le (hr.lt b hb) hE.size) (fun e => hnd.2 b hb e.symm)]
    exact hE.below.block b (hr.lt b hb)
  · have hbl := hr.lt b hb
    refine ⟨hlo b hb, fun e => ?_, fun e => ?_, fun e => ?_, by simp⟩
    · rcases hv with hv | hv
      · exact hnd.2 b hb (by rw [← hv, e]; rfl)
      · have := Option.some.inj hv
        have e2 : g = w'.heap.size := this
        have := hE.size
        omega
    · have : b1 = b := Option.some.inj e
      omega
    · have : b2 = b := Option.some.inj e
      omega
end
end Go.Proofs.Ytngehfhcnfobbaa
namespace Go.Proofs.Ytngehfhcnfobbaa
open Go Go.RowKit

def dmany (d : Dl) : Int := d.drop.length + d.tell.length

set_option maxHeartbeats 1000000 in
theorem sDeltaMany_any (d : Dl) (a : Option Addr) (n c : Nat) (a' : Option Addr) (n' c' : Nat) (w : World) (h : SlRd w a n c d.drop) (h' : SlRd w a' n' c' d.tell) (z : Sz.sz d ≤ 1048576) :
    Calls Try.prog 15 #[.agg #[.slice a n c, .slice a' n' c']] w fun e w' => e = .returned (.int .i64 (dmany d)) ∧ Ext w w' := by
  have hl := h.1
  have hl' := h'.1
  have e : dmany d = (n : Int) + (n' : Int) := by unfold dmany; rw [hl, hl']
  have z' : n + n' ≤ 1048576 := by
    have h1 : Sz.sz d = Sz.sz d.drop + Sz.sz d.tell := rfl
    have h2 : Sz.sz d.drop = d.drop.length + (d.drop.map Sz.sz).sum := rfl
    have h3 : Sz.sz d.tell = d.tell.length + (d.tell.map Sz.sz).sum := rfl
    omega
  rw [e]
  clear e hl hl' h h' z
  go_enter Try.func15, Try.ntmps15
  go_wp2_with (first | ((first | with_reducible refine wp_region_qe (by kernel_rfl) (by kernel_rfl) ?_ | with_reducible refine wp_region_q (by kernel_rfl) (by kernel_rfl) ?_); (repeat (go_big_quiet_step (fail))); refine wpQuiet_nil ?_; intro x))
  go_ret
  exact ⟨rfl, (by repeat (first | with_reducible exact Ext.refl _ | with_reducible apply Ext.and | with_reducible apply Ext.drewx | with_reducible apply Ext.alloc | with_reducible apply Ext.ext | with_reducible apply Ext.drew | with_reducible refine Ext.setCell ?_ (by simp) _))⟩

set_option maxHeartbeats 1000000 in
theorem iDeltaMany_any (d : Dl) (a : Option Addr) (n c : Nat) (a' : Option Addr) (n' c' : Nat) (w : World) (h : SlRd w a n c d.drop) (h' : SlRd w a' n' c' d.tell) (z : Sz.sz d ≤ 1048576) :
    Calls Try.prog 20 #[.agg #[.slice a n c, .slice a' n' c']] w fun e w' => e = .returned (.int .i64 (dmany d)) ∧ Ext w w' := by
  have hl := h.1
  have hl' := h'.1
  have e : dmany d = (n : Int) + (n' : Int) := by unfold dmany; rw [hl, hl']
  have z' : n + n' ≤ 1048576 := by
    have h1 : Sz.sz d = Sz.sz d.drop + Sz.sz d.tell := rfl
    have h2 : Sz.sz d.drop = d.drop.length + (d.drop.map Sz.sz).sum := rfl
    have h3 : Sz.sz d.tell = d.tell.length + (d.tell.map Sz.sz).sum := rfl
    omega
  rw [e]
  clear e hl hl' h h' z
  go_enter Try.func20, Try.ntmps20
  go_wp2_with (first | ((first | with_reducible refine wp_region_qe (by kernel_rfl) (by kernel_rfl) ?_ | with_reducible refine wp_region_q (by kernel_rfl) (by kernel_rfl) ?_); (repeat (go_big_quiet_step (fail))); refine wpQuiet_nil ?_; intro x))
  go_ret
  exact ⟨rfl, (by repeat (first | with_reducible exact Ext.refl _ | with_reducible apply Ext.and | with_reducible apply Ext.drewx | with_reducible apply Ext.alloc | with_reducible apply Ext.ext | with_reducible apply Ext.drew | with_reducible refine Ext.setCell ?_ (by simp) _))⟩

end Go.Proofs.Ytngehfhcnfobbaa
namespace Go.Proofs.Ytngehfhcnfobbaa
open Go Go.RowKit

theorem AccF.madeAt {α : Type} [Lay α] {N B : Nat} {e : TypeId} {w : World} (hN : N ≤ w.heap.size) (hB : w.heap.size = B) : AccF N e (w.alloc (.cells #[] e)) (.slice (some ⟨B, 0, none⟩) 0 0) ([] : List α) := hB ▸ AccF.made hN

/-- append of a whole list to a slice of the call's own. -/
theorem wpList_pushL {α : Type} [Lay α] [Ow α] [OneC α] [FlO α] {N : Nat} {e : TypeId} {w : World} {v : Value} {l l' : List α} {P : Program} {ops : Array Oper} {rest : List Oper} {o : Oper} {a : Act} {Q : Exit → Act → World → Prop} (hgd : o.guard = none) (s x : Operand) {t : TypeId} (ho : o.op = .call { callee := .builtin .append, args := #[s, x], argTypes := #[t, t] })
    {bytes m c : Nat} {ax : Option Addr} (hT : TyI P t e (Lay.n α) bytes) (hby : bytes ≤ 1000) (hs : a.eval s = v) (h : AccF N e w v l) (hlen : l.length ≤ 1000000000) (hx : a.eval x = .slice ax m c) (hm : m ≤ 1000000000) (hd : SlRd w ax m c l') (hN : N ≤ w.heap.size)
    (h : ∀ v' w', AccF N e w' v' (l ++ l') → w.grownBy w' v.ownBlock → (∀ w0, Ext w0 w → w0.heap.size ≤ N → Ext w0 w') → wpList P ops Q rest (a.put o.dst v') w') : wpList P ops Q (o :: rest) a w := by
  obtain ⟨xs, h1, h2⟩ := ‹AccF N e w v l›
  obtain ⟨ys, k1, k2⟩ := hd.row
  have hcl : ys.length = m * Lay.n α := by rw [k2.1, hd.1]
  refine wpList_app hgd s x ho hT hs h1 hx hd.2.1 hd.2.2.2.1 hcl k1 k2.one (by unfold maxLen; omega) ?_ hN fun v1 w1 hw1 hg1 hb1 => h v1 w1 ⟨_, by rw [List.length_append, hd.1]; exact hw1, (h2.any w1).append (k2.any w1)⟩ hg1 fun w0 hE0 hb0 => Ext.by hE0 hg1 fun j hj => Nat.le_trans hb0 (h1.lt j hj).1
  have h1 := Nat.mul_le_mul_left (l.length + m) hby
  have h2 := Nat.mul_le_mul_right 1000 (show l.length + m ≤ 2000000000 by omega)
  omega
theorem AccF.lit {α : Type} [Lay α] [Ow α] [OneC α] [FlO α] {N : Nat} {e : TypeId} {w : World} {C : Array Value} {d : α} (hd : Lay.rd w C.toList d) (hN : N ≤ w.heap.size) : AccF N e (w.alloc (.cells C e)) (.slice (some ⟨w.heap.size, 0, none⟩) 1 1) [d] := by
  refine ⟨C.toList, ownsRow_of hN (Blk.new w C e) (by rw [OneC.len hd]; simp) (Nat.le_refl _) (by unfold maxLen; omega) (by rw [OneC.len hd]; simp) ?_, RowRd.single (FlO.any hd) (OneC.len hd)⟩
  exact List.take_of_length_le (by rw [OneC.len hd]; simp)
theorem AccF.litAt {α : Type} [Lay α] [Ow α] [OneC α] [FlO α] {N B : Nat} {e : TypeId} {w : World} {C : Array Value} {d : α} (hd : Lay.rd w C.toList d) (hN : N ≤ w.heap.size) (hB : w.heap.size = B) : AccF N e (w.alloc (.cells C e)) (.slice (some ⟨B, 0, none⟩) 1 1) [d] := hB ▸ AccF.lit hd hN

set_option maxRecDepth 20000 in
set_option maxHeartbeats 4000000 in
theorem l4Copy_any (f b like : Int) (a1 : Option Addr) (n1 c1 : Nat) (l1 : List Int) (a2 : Option Addr) (n2 c2 : Nat) (l2 : List Int) (w : World) (h1 : SlRd w a1 n1 c1 l1) (h2 : SlRd w a2 n2 c2 l2) (k1 : n1 ≤ 1000000000) (k2 : n2 ≤ 1000000000) :
    Calls Try.prog 16 #[.agg #[.int .i64 f, .int .i64 b, .slice a1 n1 c1, .int .i64 like, .slice a2 n2 c2]] w fun e w' => ∃ b1 m1 d1 b2 m2 d2, e = .returned (.agg #[.int .i64 f, .int .i64 b, .slice b1 m1 d1, .int .i64 like, .slice b2 m2 d2]) ∧ Cp w.heap.size w' (.slice b1 m1 d1) (.slice b2 m2 d2) l1 l2 ∧ Ext w w' := by
  have H1 := hidden h1
  have H2 := hidden h2
  have tk := True.intro
  clear h1 h2
  go_enter Try.func16, Try.ntmps16
  go_wp2_with (first | (first | ((at_builtin; have _t := tk; refine wpList_pushL (N := w.heap.size + 2) (l := ([] : List Int)) (l' := l1) rfl _ _ rfl tyi_int (by decide) (by rfl) (AccF.madeAt (by simp) (by simp)) (by simp) (by rfl) k1 (H1.out.stays ((by repeat (first | with_reducible exact Ext.refl _ | with_reducible apply Ext.and | with_reducible apply Ext.drewx | with_reducible apply Ext.alloc | with_reducible apply Ext.ext | with_reducible apply Ext.drew | with_reducible refine Ext.setCell ?_ (by simp) _)) : Ext _ _).below) (by simp) ?_; intro v1 w1 hA1 hg1 hX1; obtain ⟨b1, m1, d1, rfl⟩ := hA1.shapeL; have hB0 := Blk.of_heap ((Blk.new w #[.int .i64 f, .int .i64 b, .slice a1 n1 c1, .int .i64 like, .slice a2 n2 c2] 46).extends ((by repeat (first | with_reducible exact Ext.refl _ | with_reducible apply Ext.and | with_reducible apply Ext.drewx | with_reducible apply Ext.alloc | with_reducible apply Ext.ext | with_reducible apply Ext.drew | with_reducible refine Ext.setCell ?_ (by simp) _)) : Ext _ _)) (heap_of_base hX1 (b := w.heap.size) (by simp) (by omega)); have hB1 := Blk.of_heap ((Blk.newAt (w.alloc (.cells #[.int .i64 f, .int .i64 b, .slice a1 n1 c1, .int .i64 like, .slice a2 n2 c2] 46)) #[.int .i64 0, .int .i64 0, .slice none 0 0, .int .i64 0, .slice none 0 0] 46 (B := w.heap.size + 1) (by simp)).extends ((by repeat (first | with_reducible exact Ext.refl _ | with_reducible apply Ext.and | with_reducible apply Ext.drewx | with_reducible apply Ext.alloc | with_reducible apply Ext.ext | with_reducible apply Ext.drew | with_reducible refine Ext.setCell ?_ (by simp) _)) : Ext _ _)) (heap_of_base hX1 (b := w.heap.size + 1) (by simp) (by omega)); have p0 := hB0.cell (j := 0) rfl; have p1 := hB0.cell (j := 1) rfl; have p2 := hB0.cell (j := 2) rfl; have p3 := hB0.cell (j := 3) rfl; have p4 := hB0.cell (j := 4) rfl; have pf := hB0.frozen 2; have pl := hB1.lt; have pl0 := hB0.lt; have HB0 := hidden hB0; have HB1 := hidden hB1; have hE1 := hX1 w (by repeat (first | with_reducible exact Ext.refl _ | with_reducible apply Ext.and | with_reducible apply Ext.drewx | with_reducible apply Ext.alloc | with_reducible apply Ext.ext | with_reducible apply Ext.drew | with_reducible refine Ext.setCell ?_ (by simp) _)) (by omega); have HA1 := hidden hA1; clear hA1 hX1 hg1 hB0 hB1 tk _t)) | ((at_builtin; refine wpList_pushL (N := w1.heap.size) (l := ([] : List Int)) (l' := l2) rfl _ _ rfl tyi_int (by decide) (by rfl) (AccF.madeAt (w := w1.setCell _ _) (by simp) (by simp)) (by simp) (by rfl) k2 (H2.out.stays (((hE1.setCell (by simp) _).alloc _)).below) (by simp) ?_; intro v2 w2 hA2 hg2 hX2; obtain ⟨b2, m2, d2, rfl⟩ := hA2.shapeL; have hB0 := Blk.of_heap ((HB0.out.set 2 (.slice b1 m1 d1)).alloc (.cells #[] 3)) (heap_of_base hX2 (b := w.heap.size) (by simp) pl0); have hB1 := Blk.of_heap ((HB1.out.setOther (a := ⟨w.heap.size, 2, none⟩) (.slice b1 m1 d1) (by simp)).alloc (.cells #[] 3)) (heap_of_base hX2 (b := w.heap.size + 1) (by simp) pl); have q0 := hB0.cell (j := 0) rfl; have q1 := hB0.cell (j := 1) rfl; have q2 := hB0.cell (j := 2) rfl; have q3 := hB0.cell (j := 3) rfl; have q4 := hB0.cell (j := 4) rfl; have qf := hB0.frozen 4; have ql0 := hB0.lt; have ql1 := hB1.lt; have r0 := hB1.cell (j := 0) rfl; have r1 := hB1.cell (j := 1) rfl; have r2 := hB1.cell (j := 2) rfl; have r3 := hB1.cell (j := 3) rfl; have r4 := hB1.cell (j := 4) rfl; have rf0 := hB1.frozen 0; have rf1 := hB1.frozen 1; have rf2 := hB1.frozen 2; have rf3 := hB1.frozen 3; have rf4 := hB1.frozen 4; have hE2 := hX2 w ((hE1.setCell (by simp) _).alloc _) (by omega); have e1 : ∀ b, b < w.heap.size + 2 → (Value.slice b1 m1 d1).ownBlock ≠ some b := (fun b hb e => by have := (HA1.out.low b e).1; omega); have e2 : ∀ b, b < w.heap.size + 2 → (Value.slice b2 m2 d2).ownBlock ≠ some b := (fun b hb e => by have := (hA2.low b e).1; omega); have HC := hidden (show Cp w.heap.size w2 (.slice b1 m1 d1) (.slice b2 m2 d2) l1 l2 from ⟨((((HA1.out.setNe (e1 _ (by omega)) _).ext ((Ext.refl _).alloc (.cells #[] 3))).kept hg2 (fun b e => by simp only [Value.ownBlock, Option.some.injEq] at e; subst e; intro e'; have := (HA1.out.low _ e').2; simp at this)).base (by omega)), hA2.base (by omega), fun b e e' => by have := (HA1.out.low b e).2; have := (hA2.low b e').1; omega⟩); clear hA2 hX2 hg2 hB0 hB1))) | ((first | with_reducible refine wp_region_qe (by kernel_rfl) (by kernel_rfl) ?_ | with_reducible refine wp_region_q (by kernel_rfl) (by kernel_rfl) ?_); (repeat' (first | go_big_quiet_step ((first | ((at_builtin; have _t := tk; refine wpList_pushL (N := w.heap.size + 2) (l := ([] : List Int)) (l' := l1) rfl _ _ rfl tyi_int (by decide) (by rfl) (AccF.madeAt (by simp) (by simp)) (by simp) (by rfl) k1 (H1.out.stays ((by repeat (first | with_reducible exact Ext.refl _ | with_reducible apply Ext.and | with_reducible apply Ext.drewx | with_reducible apply Ext.alloc | with_reducible apply Ext.ext | with_reducible apply Ext.drew | with_reducible refine Ext.setCell ?_ (by simp) _)) : Ext _ _).below) (by simp) ?_; intro v1 w1 hA1 hg1 hX1; obtain ⟨b1, m1, d1, rfl⟩ := hA1.shapeL; have hB0 := Blk.of_heap ((Blk.new w #[.int .i64 f, .int .i64 b, .slice a1 n1 c1, .int .i64 like, .slice a2 n2 c2] 46).extends ((by repeat (first | with_reducible exact Ext.refl _ | with_reducible apply Ext.and | with_reducible apply Ext.drewx | with_reducible apply Ext.alloc | with_reducible apply Ext.ext | with_reducible apply Ext.drew | with_reducible refine Ext.setCell ?_ (by simp) _)) : Ext _ _)) (heap_of_base hX1 (b := w.heap.size) (by simp) (by omega)); have hB1 := Blk.of_heap ((Blk.newAt (w.alloc (.cells #[.int .i64 f, .int .i64 b, .slice a1 n1 c1, .int .i64 like, .slice a2 n2 c2] 46)) #[.int .i64 0, .int .i64 0, .slice none 0 0, .int .i64 0, .slice none 0 0] 46 (B := w.heap.size + 1) (by simp)).extends ((by repeat (first | with_reducible exact Ext.refl _ | with_reducible apply Ext.and | with_reducible apply Ext.drewx | with_reducible apply Ext.alloc | with_reducible apply Ext.ext | with_reducible apply Ext.drew | with_reducible refine Ext.setCell ?_ (by simp) _)) : Ext _ _)) (heap_of_base hX1 (b := w.heap.size + 1) (by simp) (by omega)); have p0 := hB0.cell (j := 0) rfl; have p1 := hB0.cell (j := 1) rfl; have p2 := hB0.cell (j := 2) rfl; have p3 := hB0.cell (j := 3) rfl; have p4 := hB0.cell (j := 4) rfl; have pf := hB0.frozen 2; have pl := hB1.lt; have pl0 := hB0.lt; have HB0 := hidden hB0; have HB1 := hidden hB1; have hE1 := hX1 w (by repeat (first | with_reducible exact Ext.refl _ | with_reducible apply Ext.and | with_reducible apply Ext.drewx | with_reducible apply Ext.alloc | with_reducible apply Ext.ext | with_reducible apply Ext.drew | with_reducible refine Ext.setCell ?_ (by simp) _)) (by omega); have HA1 := hidden hA1; clear hA1 hX1 hg1 hB0 hB1 tk _t)) | ((at_builtin; refine wpList_pushL (N := w1.heap.size) (l := ([] : List Int)) (l' := l2) rfl _ _ rfl tyi_int (by decide) (by rfl) (AccF.madeAt (w := w1.setCell _ _) (by simp) (by simp)) (by simp) (by rfl) k2 (H2.out.stays (((hE1.setCell (by simp) _).alloc _)).below) (by simp) ?_; intro v2 w2 hA2 hg2 hX2; obtain ⟨b2, m2, d2, rfl⟩ := hA2.shapeL; have hB0 := Blk.of_heap ((HB0.out.set 2 (.slice b1 m1 d1)).alloc (.cells #[] 3)) (heap_of_base hX2 (b := w.heap.size) (by simp) pl0); have hB1 := Blk.of_heap ((HB1.out.setOther (a := ⟨w.heap.size, 2, none⟩) (.slice b1 m1 d1) (by simp)).alloc (.cells #[] 3)) (heap_of_base hX2 (b := w.heap.size + 1) (by simp) pl); have q0 := hB0.cell (j := 0) rfl; have q1 := hB0.cell (j := 1) rfl; have q2 := hB0.cell (j := 2) rfl; have q3 := hB0.cell (j := 3) rfl; have q4 := hB0.cell (j := 4) rfl; have qf := hB0.frozen 4; have ql0 := hB0.lt; have ql1 := hB1.lt; have r0 := hB1.cell (j := 0) rfl; have r1 := hB1.cell (j := 1) rfl; have r2 := hB1.cell (j := 2) rfl; have r3 := hB1.cell (j := 3) rfl; have r4 := hB1.cell (j := 4) rfl; have rf0 := hB1.frozen 0; have rf1 := hB1.frozen 1; have rf2 := hB1.frozen 2; have rf3 := hB1.frozen 3; have rf4 := hB1.frozen 4; have hE2 := hX2 w ((hE1.setCell (by simp) _).alloc _) (by omega); have e1 : ∀ b, b < w.heap.size + 2 → (Value.slice b1 m1 d1).ownBlock ≠ some b := (fun b hb e => by have := (HA1.out.low b e).1; omega); have e2 : ∀ b, b < w.heap.size + 2 → (Value.slice b2 m2 d2).ownBlock ≠ some b := (fun b hb e => by have := (hA2.low b e).1; omega); have HC := hidden (show Cp w.heap.size w2 (.slice b1 m1 d1) (.slice b2 m2 d2) l1 l2 from ⟨((((HA1.out.setNe (e1 _ (by omega)) _).ext ((Ext.refl _).alloc (.cells #[] 3))).kept hg2 (fun b e => by simp only [Value.ownBlock, Option.some.injEq] at e; subst e; intro e'; have := (HA1.out.low _ e').2; simp at this)).base (by omega)), hA2.base (by omega), fun b e e' => by have := (HA1.out.low b e).2; have := (hA2.low b e').1; omega⟩); clear hA2 hX2 hg2 hB0 hB1)))) | (refine wpQuiet_split rfl rfl rfl rfl (fun hsp => ?_) (fun hsp => ?_); ((fail_if_success (cases hsp; done)); simp only [hsp]; (try first | have hsq : _ < _ := of_decide_eq_true hsp | have hsq : _ ≤ _ := of_decide_eq_true hsp | have hsq : ¬ _ < _ := of_decide_eq_false hsp | have hsq : ¬ _ ≤ _ := of_decide_eq_false hsp)); rotate_left; ((fail_if_success (cases hsp; done)); simp only [hsp]; (try first | have hsq : _ < _ := of_decide_eq_true hsp | have hsq : _ ≤ _ := of_decide_eq_true hsp | have hsq : ¬ _ < _ := of_decide_eq_false hsp | have hsq : ¬ _ ≤ _ := of_decide_eq_false hsp))))); (all_goals (refine wpQuiet_nil ?_; intro x))) | ((first | with_reducible refine wp_region_seqSe (by kernel_rfl) (by kernel_rfl) ?_ | with_reducible refine wp_region_seqSw (by kernel_rfl) (by kernel_rfl) ?_); (repeat' (first | ((with_reducible refine wpSeqS_pure (by with_unfolding_all rfl) (fun Kq hKq => ?_)); (repeat' (first | go_big_quiet_step (fail) | (refine wpQuiet_split rfl rfl rfl rfl (fun hsp => ?_) (fun hsp => ?_); ((fail_if_success (cases hsp; done)); simp only [hsp]; (try first | have hsq : _ < _ := of_decide_eq_true hsp | have hsq : _ ≤ _ := of_decide_eq_true hsp | have hsq : ¬ _ < _ := of_decide_eq_false hsp | have hsq : ¬ _ ≤ _ := of_decide_eq_false hsp)); rotate_left; ((fail_if_success (cases hsp; done)); simp only [hsp]; (try first | have hsq : _ < _ := of_decide_eq_true hsp | have hsq : _ ≤ _ := of_decide_eq_true hsp | have hsq : ¬ _ < _ := of_decide_eq_false hsp | have hsq : ¬ _ ≤ _ := of_decide_eq_false hsp))))); (all_goals (refine wpQuiet_nil ?_; refine hKq _ ?_; clear hKq Kq))) | ((with_reducible refine wpSeqS_load (by with_unfolding_all rfl) (fun Kq hKq => ?_)); (repeat' (first | go_big_quiet_step (fail) | (refine wpQuiet_split rfl rfl rfl rfl (fun hsp => ?_) (fun hsp => ?_); ((fail_if_success (cases hsp; done)); simp only [hsp]; (try first | have hsq : _ < _ := of_decide_eq_true hsp | have hsq : _ ≤ _ := of_decide_eq_true hsp | have hsq : ¬ _ < _ := of_decide_eq_false hsp | have hsq : ¬ _ ≤ _ := of_decide_eq_false hsp)); rotate_left; ((fail_if_success (cases hsp; done)); simp only [hsp]; (try first | have hsq : _ < _ := of_decide_eq_true hsp | have hsq : _ ≤ _ := of_decide_eq_true hsp | have hsq : ¬ _ < _ := of_decide_eq_false hsp | have hsq : ¬ _ ≤ _ := of_decide_eq_false hsp))))); (all_goals (refine wpQuiet_nil ?_; refine hKq _ ?_; clear hKq Kq))) | ((with_reducible refine wpSeqS_act (by with_unfolding_all rfl) (fun Q' hQ' => ?_)); (go_wp2_with (first | ((at_builtin; have _t := tk; refine wpList_pushL (N := w.heap.size + 2) (l := ([] : List Int)) (l' := l1) rfl _ _ rfl tyi_int (by decide) (by rfl) (AccF.madeAt (by simp) (by simp)) (by simp) (by rfl) k1 (H1.out.stays ((by repeat (first | with_reducible exact Ext.refl _ | with_reducible apply Ext.and | with_reducible apply Ext.drewx | with_reducible apply Ext.alloc | with_reducible apply Ext.ext | with_reducible apply Ext.drew | with_reducible refine Ext.setCell ?_ (by simp) _)) : Ext _ _).below) (by simp) ?_; intro v1 w1 hA1 hg1 hX1; obtain ⟨b1, m1, d1, rfl⟩ := hA1.shapeL; have hB0 := Blk.of_heap ((Blk.new w #[.int .i64 f, .int .i64 b, .slice a1 n1 c1, .int .i64 like, .slice a2 n2 c2] 46).extends ((by repeat (first | with_reducible exact Ext.refl _ | with_reducible apply Ext.and | with_reducible apply Ext.drewx | with_reducible apply Ext.alloc | with_reducible apply Ext.ext | with_reducible apply Ext.drew | with_reducible refine Ext.setCell ?_ (by simp) _)) : Ext _ _)) (heap_of_base hX1 (b := w.heap.size) (by simp) (by omega)); have hB1 := Blk.of_heap ((Blk.newAt (w.alloc (.cells #[.int .i64 f, .int .i64 b, .slice a1 n1 c1, .int .i64 like, .slice a2 n2 c2] 46)) #[.int .i64 0, .int .i64 0, .slice none 0 0, .int .i64 0, .slice none 0 0] 46 (B := w.heap.size + 1) (by simp)).extends ((by repeat (first | with_reducible exact Ext.refl _ | with_reducible apply Ext.and | with_reducible apply Ext.drewx | with_reducible apply Ext.alloc | with_reducible apply Ext.ext | with_reducible apply Ext.drew | with_reducible refine Ext.setCell ?_ (by simp) _)) : Ext _ _)) (heap_of_base hX1 (b := w.heap.size + 1) (by simp) (by omega)); have p0 := hB0.cell (j := 0) rfl; have p1 := hB0.cell (j := 1) rfl; have p2 := hB0.cell (j := 2) rfl; have p3 := hB0.cell (j := 3) rfl; have p4 := hB0.cell (j := 4) rfl; have pf := hB0.frozen 2; have pl := hB1.lt; have pl0 := hB0.lt; have HB0 := hidden hB0; have HB1 := hidden hB1; have hE1 := hX1 w (by repeat (first | with_reducible exact Ext.refl _ | with_reducible apply Ext.and | with_reducible apply Ext.drewx | with_reducible apply Ext.alloc | with_reducible apply Ext.ext | with_reducible apply Ext.drew | with_reducible refine Ext.setCell ?_ (by simp) _)) (by omega); have HA1 := hidden hA1; clear hA1 hX1 hg1 hB0 hB1 tk _t)) | ((at_builtin; refine wpList_pushL (N := w1.heap.size) (l := ([] : List Int)) (l' := l2) rfl _ _ rfl tyi_int (by decide) (by rfl) (AccF.madeAt (w := w1.setCell _ _) (by simp) (by simp)) (by simp) (by rfl) k2 (H2.out.stays (((hE1.setCell (by simp) _).alloc _)).below) (by simp) ?_; intro v2 w2 hA2 hg2 hX2; obtain ⟨b2, m2, d2, rfl⟩ := hA2.shapeL; have hB0 := Blk.of_heap ((HB0.out.set 2 (.slice b1 m1 d1)).alloc (.cells #[] 3)) (heap_of_base hX2 (b := w.heap.size) (by simp) pl0); have hB1 := Blk.of_heap ((HB1.out.setOther (a := ⟨w.heap.size, 2, none⟩) (.slice b1 m1 d1) (by simp)).alloc (.cells #[] 3)) (heap_of_base hX2 (b := w.heap.size + 1) (by simp) pl); have q0 := hB0.cell (j := 0) rfl; have q1 := hB0.cell (j := 1) rfl; have q2 := hB0.cell (j := 2) rfl; have q3 := hB0.cell (j := 3) rfl; have q4 := hB0.cell (j := 4) rfl; have qf := hB0.frozen 4; have ql0 := hB0.lt; have ql1 := hB1.lt; have r0 := hB1.cell (j := 0) rfl; have r1 := hB1.cell (j := 1) rfl; have r2 := hB1.cell (j := 2) rfl; have r3 := hB1.cell (j := 3) rfl; have r4 := hB1.cell (j := 4) rfl; have rf0 := hB1.frozen 0; have rf1 := hB1.frozen 1; have rf2 := hB1.frozen 2; have rf3 := hB1.frozen 3; have rf4 := hB1.frozen 4; have hE2 := hX2 w ((hE1.setCell (by simp) _).alloc _) (by omega); have e1 : ∀ b, b < w.heap.size + 2 → (Value.slice b1 m1 d1).ownBlock ≠ some b := (fun b hb e => by have := (HA1.out.low b e).1; omega); have e2 : ∀ b, b < w.heap.size + 2 → (Value.slice b2 m2 d2).ownBlock ≠ some b := (fun b hb e => by have := (hA2.low b e).1; omega); have HC := hidden (show Cp w.heap.size w2 (.slice b1 m1 d1) (.slice b2 m2 d2) l1 l2 from ⟨((((HA1.out.setNe (e1 _ (by omega)) _).ext ((Ext.refl _).alloc (.cells #[] 3))).kept hg2 (fun b e => by simp only [Value.ownBlock, Option.some.injEq] at e; subst e; intro e'; have := (HA1.out.low _ e').2; simp at this)).base (by omega)), hA2.base (by omega), fun b e e' => by have := (HA1.out.low b e).2; have := (hA2.low b e').1; omega⟩); clear hA2 hX2 hg2 hB0 hB1)))); (all_goals (refine hQ' _ _ rfl ?_ ?_; (first | (focus (intro hbk; simp [brkB] at hbk; done)) | (focus (intro _; change Ext _ _; exact (by repeat (first | with_reducible assumption | with_reducible exact Ext.refl _ | with_reducible apply Ext.and | with_reducible apply Ext.drewx | with_reducible apply Ext.alloc | with_reducible apply Ext.ext | with_reducible apply Ext.drew | with_reducible refine Ext.setCell ?_ (by simp) _))))); clear hQ' Q'))))); (all_goals ((with_reducible refine wpSeqS_nil ?_)))))
  exact bodyPost_ret (v := .agg #[.int .i64 f, .int .i64 b, .slice b1 m1 d1, .int .i64 like, .slice b2 m2 d2]) (by simp [results, Try.results16, go_sem, r0, r1, r2, r3, r4]) rfl ⟨_, _, _, _, _, _, rfl, by (repeat (first | with_reducible exact HC.out | with_reducible refine Cp.set ?_ (e1 _ (by omega)) (e2 _ (by omega)) _)), by (repeat (first | with_reducible exact hE2 | with_reducible refine Ext.setCell ?_ (by simp) _))⟩

end Go.Proofs.Ytngehfhcnfobbaa
namespace Go.Proofs.Ytngehfhcnfobbaa
open Go Go.RowKit

/-- A block's cells, frozen or not. -/
def Blf (w : World) (b : Nat) (e : TypeId) (cs : List Value) : Prop := ∃ fr, w.heap[b]? = some (.cells cs.toArray e fr)
section
variable {w w' : World} {b : Nat} {e : TypeId} {cs : List Value}
theorem Blk.blf (h : Blk w b e cs) : Blf w b e cs := ⟨_, h⟩
theorem Blf.lt (h : Blf w b e cs) : b < w.heap.size := by
  obtain ⟨fr, h⟩ := h
  exact (Array.getElem?_eq_some_iff.1 h).1
theorem Blf.cell (h : Blf w b e cs) {j : Nat} {v : Value} (hv : cs[j]? = some v) : w.cell? ⟨b, j, none⟩ = some v := by
  obtain ⟨fr, h⟩ := h
  simp [World.cell?, h, hv]
theorem Blf.extends (h : Blf w b e cs) (k : Ext w w') : Blf w' b e cs := by
  obtain ⟨fr, h'⟩ := h
  obtain ⟨x, rfl⟩ := k
  exact ⟨fr, by rw [ext_heap w x b (Array.getElem?_eq_some_iff.1 h').1]; exact h'⟩
end

noncomputable def dcKid : Code := bodyOf Try.f19
noncomputable def dcKidLoop : Code := sq2 (sq1 (sq2 (sq2 dcKid)))
noncomputable def dcKidRound : Code := lpB (lpB dcKidLoop)
noncomputable def dcKidBlk : Code := lpB (sq1 (sq2 (sq2 dcKidRound)))
noncomputable def dcR4 : Code := sq1 dcKidBlk
noncomputable def dcX5 : Code := sq1 (sq2 dcKidBlk)
noncomputable def dcY8 : Code := sq2 (sq2 dcKidBlk)
noncomputable def dcR8 : Code := sq1 dcY8

set_option maxHeartbeats 1000000 in
theorem kid_many (a : Option Addr) (n c : Nat) (a' : Option Addr) (n' c' : Nat) (w : World) (z : n + n' ≤ 1048576) :
    Calls Try.prog 20 #[.agg #[.slice a n c, .slice a' n' c']] w fun e w' => e = .returned (.int .i64 ((n : Int) + (n' : Int))) ∧ Ext w w' := by
  go_enter Try.func20, Try.ntmps20
  go_wp2_with (first | ((first | with_reducible refine wp_region_qe (by kernel_rfl) (by kernel_rfl) ?_ | with_reducible refine wp_region_q (by kernel_rfl) (by kernel_rfl) ?_); (repeat (go_big_quiet_step (fail))); refine wpQuiet_nil ?_; intro x))
  go_ret
  exact ⟨rfl, (by repeat (first | with_reducible exact Ext.refl _ | with_reducible apply Ext.and | with_reducible apply Ext.drewx | with_reducible apply Ext.alloc | with_reducible apply Ext.ext | with_reducible apply Ext.drew | with_reducible refine Ext.setCell ?_ (by simp) _))⟩

set_option maxRecDepth 40000 in
set_option maxHeartbeats 8000000 in
theorem kid_drop (d : Dl) (B X N : Nat) (m : Int) (k : Nat) (a1 : Option Addr) (n1 c1 : Nat) (a2 : Option Addr) (n2 c2 : Nat) (p1 : Option Addr) (q1 r1 : Nat) (p2 : Option Addr) (q2 r2 : Nat) (L1 : List Rg) (L2 : List Rt) (xs : List Value) (L : List Dl) (fps2 fps : List (List Nat)) (w wr : World)
    (z0 y3 y4 y5 y8 y9 y10 y11 y12 y13 y14 y15 y16 y17 y18 y19 y20 y21 y22 y23 y24 y25 y26 y27 y28 y29 y30 y31 y32 y33 y34 y35 y36 y37 y38 y39 y40 y41 y42 y43 y44 y45 y46 y47 y48 y49 y50 y51 : Value) (h1 : SlRd w a1 n1 c1 d.drop) (h2 : SlRd w a2 n2 c2 d.tell) (hB : Blf w B 32 [.slice a1 n1 c1, .slice a2 n2 c2]) (hX : w.heap.size ≤ X) (hN : N = X + 1) (hE : Ext w wr) (hXB : Blk wr X 32 [.slice p1 q1 r1, .slice p2 q2 r2]) (hC : CI N X wr (.slice p1 q1 r1) (.slice p2 q2 r2) L1 L2 xs L fps2 fps) (hl : L1.length + L2.length ≤ 3) (hk : k < n1)
    (Q : Act → World → Prop)
    (hcont : ∀ r, d.drop[k]? = some r → ∀ u3 u9 u10 u11 u12 u13 u14 u15 u16 u17 u18 u19 u20 u21 u22 u23 u24 u25 u26 u27 u28 u29 u30 u31 u32 u33 u34 u35 u36 u37 u38 u39 u40 u41 (v : Option Addr) (n c : Nat) (w' : World), Blk w' X 32 [.slice v n c, .slice p2 q2 r2] → CI N X w' (.slice v n c) (.slice p2 q2 r2) (L1 ++ [r]) L2 xs L fps2 fps → Ext w w' → Q ⟨#[z0, .pointer (some ⟨B, 0, none⟩), .pointer (some ⟨X, 0, none⟩), u3, y4, y5, .int .i64 m, .int .i64 k, y8, u9, u10, u11, u12, u13, u14, u15, u16, u17, u18, u19, u20, u21, u22, u23, u24, u25, u26, u27, u28, u29, u30, u31, u32, u33, u34, u35, u36, u37, u38, u39, u40, u41, .bool (((n : Int) + (q2 : Int)) == 3), y43, y44, y45, y46, y47, y48, y49, y50, y51], []⟩ w') :
    dcR4.wp Try.prog (fun e a1 w1 => e = .normal ∧ dcX5.wp Try.prog (fun e a2 w2 => e = .normal ∧ dcR8.wp Try.prog (fun e a3 w3 => e = .normal ∧ Q a3 w3) a2 w2) a1 w1) ⟨#[z0, .pointer (some ⟨B, 0, none⟩), .pointer (some ⟨X, 0, none⟩), y3, y4, y5, .int .i64 m, .int .i64 k, y8, y9, y10, y11, y12, y13, y14, y15, y16, y17, y18, y19, y20, y21, y22, y23, y24, y25, y26, y27, y28, y29, y30, y31, y32, y33, y34, y35, y36, y37, y38, y39, y40, y41, y42, y43, y44, y45, y46, y47, y48, y49, y50, y51], []⟩ wr := by
  show (Code.region _ _ _).wp _ _ _ _
  have H1 := hidden h1
  have H2 := hidden h2
  have HB := hidden hB
  have HXB := hidden hXB
  have HC := hidden hC
  have HQ := hidden hcont
  have bl := (hB.extends hE).lt
  have xl := hXB.lt
  have b0 := (hB.extends hE).cell (j := 0) rfl
  have b1 := (hB.extends hE).cell (j := 1) rfl
  have x0 := hXB.cell (j := 0) rfl
  have x1 := hXB.cell (j := 1) rfl
  have xf0 := hXB.frozen 0
  have xf1 := hXB.frozen 1
  have HL1 := hidden (show q1 = L1.length by obtain ⟨a', c', e⟩ := hC.a1.shape; simp only [Value.slice.injEq] at e; exact e.2.1)
  have HL2 := hidden (show q2 = L2.length by obtain ⟨a', c', e⟩ := hC.a2.shape; simp only [Value.slice.injEq] at e; exact e.2.1)
  have hm1 := h1.2.2.1
  have hm2 := h2.2.2.1
  have hlc1 := h1.2.1
  have hlc2 := h2.2.1
  unfold maxLen at hm1 hm2
  have hlt : decide ((k : Int) < (n1 : Int)) = true := by simp; omega
  clear hB hXB hC hcont
  obtain ⟨r, dhd, db, doff, dys, rfl, dhys, dhcell, dhrd⟩ := h1.at hE hk
  obtain ⟨rfl, dg0, dg1⟩ := dhrd
  have dc0 : wr.cell? ⟨db, doff + k * 2, none⟩ = some _ := dhcell 0 _ rfl
  have dc1 : wr.cell? ⟨db, doff + k * 2 + 1, none⟩ = some _ := dhcell 1 _ rfl
  have dlb := cell_lt dc0
  have dHD := hidden dhd
  clear dhcell dhys dhd
  clear h1 h2
  go_wp2_with fail
  show (Code.seq (Code.region _ _ _) (Code.cond _ (Code.region _ _ _) (Code.region _ _ _))).wp _ _ _ _
  go_wp2_with fail
  go_wp2_with (first | (first | ((at_builtin; refine wpList_pushO' (N := N) (l := L1) (d := r) rfl _ _ rfl tyi_Rg (by decide) (by rfl) ((HC.out.a1.ext ((by repeat (first | with_reducible exact Ext.refl _ | with_reducible apply Ext.and | with_reducible apply Ext.drewx | with_reducible apply Ext.alloc | with_reducible apply Ext.ext | with_reducible apply Ext.drew | with_reducible refine Ext.setCell ?_ (by simp) _)) : Ext wr _)).toO) (by omega) (by rfl) (Blk.newAt _ _ _ (by simp)) (FlO.own (α := Rg) ⟨rfl, dg0, dg1⟩) List.nodup_nil (by simp) (by simp; omega) ?_; intro v3 w3 hA1 hg1 hX1 hv1; obtain ⟨b', n', c', rfl⟩ := hA1.shapeL; have hC1 := (HC.out.ext ((by repeat (first | with_reducible exact Ext.refl _ | with_reducible apply Ext.and | with_reducible apply Ext.drewx | with_reducible apply Ext.alloc | with_reducible apply Ext.ext | with_reducible apply Ext.drew | with_reducible refine Ext.setCell ?_ (by simp) _)) : Ext wr _)).push1 (by simp; omega) hA1 hg1 hv1; have hX3 := (HXB.out.extends ((by repeat (first | with_reducible exact Ext.refl _ | with_reducible apply Ext.and | with_reducible apply Ext.drewx | with_reducible apply Ext.alloc | with_reducible apply Ext.ext | with_reducible apply Ext.drew | with_reducible refine Ext.setCell ?_ (by simp) _)) : Ext wr _)).grown hg1 (fun e => HC.out.x1 _ e.symm rfl); have q0 := hX3.cell (j := 0) rfl; have q1' := hX3.cell (j := 1) rfl; have qf := hX3.frozen 0; have ql := hX3.lt; have hE1 := hX1 w (hE.trans ((by repeat (first | with_reducible exact Ext.refl _ | with_reducible apply Ext.and | with_reducible apply Ext.drewx | with_reducible apply Ext.alloc | with_reducible apply Ext.ext | with_reducible apply Ext.drew | with_reducible refine Ext.setCell ?_ (by simp) _)) : Ext wr _)) (by omega); have HC1 := hidden hC1; have HX3 := hidden hX3; have HEN := hidden (show n' = L1.length + 1 by obtain ⟨a', c', e⟩ := hC1.a1.shape; simp only [Value.slice.injEq, List.length_append, List.length_singleton] at e; exact e.2.1); clear hA1 hX3 hv1 hg1 hX1 hC1))) | ((first | with_reducible refine wp_region_qe (by kernel_rfl) (by kernel_rfl) ?_ | with_reducible refine wp_region_q (by kernel_rfl) (by kernel_rfl) ?_); (repeat' (first | go_big_quiet_step ((first | ((at_builtin; refine wpList_pushO' (N := N) (l := L1) (d := r) rfl _ _ rfl tyi_Rg (by decide) (by rfl) ((HC.out.a1.ext ((by repeat (first | with_reducible exact Ext.refl _ | with_reducible apply Ext.and | with_reducible apply Ext.drewx | with_reducible apply Ext.alloc | with_reducible apply Ext.ext | with_reducible apply Ext.drew | with_reducible refine Ext.setCell ?_ (by simp) _)) : Ext wr _)).toO) (by omega) (by rfl) (Blk.newAt _ _ _ (by simp)) (FlO.own (α := Rg) ⟨rfl, dg0, dg1⟩) List.nodup_nil (by simp) (by simp; omega) ?_; intro v3 w3 hA1 hg1 hX1 hv1; obtain ⟨b', n', c', rfl⟩ := hA1.shapeL; have hC1 := (HC.out.ext ((by repeat (first | with_reducible exact Ext.refl _ | with_reducible apply Ext.and | with_reducible apply Ext.drewx | with_reducible apply Ext.alloc | with_reducible apply Ext.ext | with_reducible apply Ext.drew | with_reducible refine Ext.setCell ?_ (by simp) _)) : Ext wr _)).push1 (by simp; omega) hA1 hg1 hv1; have hX3 := (HXB.out.extends ((by repeat (first | with_reducible exact Ext.refl _ | with_reducible apply Ext.and | with_reducible apply Ext.drewx | with_reducible apply Ext.alloc | with_reducible apply Ext.ext | with_reducible apply Ext.drew | with_reducible refine Ext.setCell ?_ (by simp) _)) : Ext wr _)).grown hg1 (fun e => HC.out.x1 _ e.symm rfl); have q0 := hX3.cell (j := 0) rfl; have q1' := hX3.cell (j := 1) rfl; have qf := hX3.frozen 0; have ql := hX3.lt; have hE1 := hX1 w (hE.trans ((by repeat (first | with_reducible exact Ext.refl _ | with_reducible apply Ext.and | with_reducible apply Ext.drewx | with_reducible apply Ext.alloc | with_reducible apply Ext.ext | with_reducible apply Ext.drew | with_reducible refine Ext.setCell ?_ (by simp) _)) : Ext wr _)) (by omega); have HC1 := hidden hC1; have HX3 := hidden hX3; have HEN := hidden (show n' = L1.length + 1 by obtain ⟨a', c', e⟩ := hC1.a1.shape; simp only [Value.slice.injEq, List.length_append, List.length_singleton] at e; exact e.2.1); clear hA1 hX3 hv1 hg1 hX1 hC1)))) | (refine wpQuiet_split rfl rfl rfl rfl (fun hsp => ?_) (fun hsp => ?_); ((fail_if_success (cases hsp; done)); simp only [hsp]; (try first | have hsq : _ < _ := of_decide_eq_true hsp | have hsq : _ ≤ _ := of_decide_eq_true hsp | have hsq : ¬ _ < _ := of_decide_eq_false hsp | have hsq : ¬ _ ≤ _ := of_decide_eq_false hsp)); rotate_left; ((fail_if_success (cases hsp; done)); simp only [hsp]; (try first | have hsq : _ < _ := of_decide_eq_true hsp | have hsq : _ ≤ _ := of_decide_eq_true hsp | have hsq : ¬ _ < _ := of_decide_eq_false hsp | have hsq : ¬ _ ≤ _ := of_decide_eq_false hsp))))); (all_goals (refine wpQuiet_nil ?_; intro x))) | ((first | with_reducible refine wp_region_seqSe (by kernel_rfl) (by kernel_rfl) ?_ | with_reducible refine wp_region_seqSw (by kernel_rfl) (by kernel_rfl) ?_); (repeat' (first | ((with_reducible refine wpSeqS_pure (by with_unfolding_all rfl) (fun Kq hKq => ?_)); (repeat' (first | go_big_quiet_step (fail) | (refine wpQuiet_split rfl rfl rfl rfl (fun hsp => ?_) (fun hsp => ?_); ((fail_if_success (cases hsp; done)); simp only [hsp]; (try first | have hsq : _ < _ := of_decide_eq_true hsp | have hsq : _ ≤ _ := of_decide_eq_true hsp | have hsq : ¬ _ < _ := of_decide_eq_false hsp | have hsq : ¬ _ ≤ _ := of_decide_eq_false hsp)); rotate_left; ((fail_if_success (cases hsp; done)); simp only [hsp]; (try first | have hsq : _ < _ := of_decide_eq_true hsp | have hsq : _ ≤ _ := of_decide_eq_true hsp | have hsq : ¬ _ < _ := of_decide_eq_false hsp | have hsq : ¬ _ ≤ _ := of_decide_eq_false hsp))))); (all_goals (refine wpQuiet_nil ?_; refine hKq _ ?_; clear hKq Kq))) | ((with_reducible refine wpSeqS_load (by with_unfolding_all rfl) (fun Kq hKq => ?_)); (repeat' (first | go_big_quiet_step (fail) | (refine wpQuiet_split rfl rfl rfl rfl (fun hsp => ?_) (fun hsp => ?_); ((fail_if_success (cases hsp; done)); simp only [hsp]; (try first | have hsq : _ < _ := of_decide_eq_true hsp | have hsq : _ ≤ _ := of_decide_eq_true hsp | have hsq : ¬ _ < _ := of_decide_eq_false hsp | have hsq : ¬ _ ≤ _ := of_decide_eq_false hsp)); rotate_left; ((fail_if_success (cases hsp; done)); simp only [hsp]; (try first | have hsq : _ < _ := of_decide_eq_true hsp | have hsq : _ ≤ _ := of_decide_eq_true hsp | have hsq : ¬ _ < _ := of_decide_eq_false hsp | have hsq : ¬ _ ≤ _ := of_decide_eq_false hsp))))); (all_goals (refine wpQuiet_nil ?_; refine hKq _ ?_; clear hKq Kq))) | ((with_reducible refine wpSeqS_act (by with_unfolding_all rfl) (fun Q' hQ' => ?_)); (go_wp2_with (first | ((at_builtin; refine wpList_pushO' (N := N) (l := L1) (d := r) rfl _ _ rfl tyi_Rg (by decide) (by rfl) ((HC.out.a1.ext ((by repeat (first | with_reducible exact Ext.refl _ | with_reducible apply Ext.and | with_reducible apply Ext.drewx | with_reducible apply Ext.alloc | with_reducible apply Ext.ext | with_reducible apply Ext.drew | with_reducible refine Ext.setCell ?_ (by simp) _)) : Ext wr _)).toO) (by omega) (by rfl) (Blk.newAt _ _ _ (by simp)) (FlO.own (α := Rg) ⟨rfl, dg0, dg1⟩) List.nodup_nil (by simp) (by simp; omega) ?_; intro v3 w3 hA1 hg1 hX1 hv1; obtain ⟨b', n', c', rfl⟩ := hA1.shapeL; have hC1 := (HC.out.ext ((by repeat (first | with_reducible exact Ext.refl _ | with_reducible apply Ext.and | with_reducible apply Ext.drewx | with_reducible apply Ext.alloc | with_reducible apply Ext.ext | with_reducible apply Ext.drew | with_reducible refine Ext.setCell ?_ (by simp) _)) : Ext wr _)).push1 (by simp; omega) hA1 hg1 hv1; have hX3 := (HXB.out.extends ((by repeat (first | with_reducible exact Ext.refl _ | with_reducible apply Ext.and | with_reducible apply Ext.drewx | with_reducible apply Ext.alloc | with_reducible apply Ext.ext | with_reducible apply Ext.drew | with_reducible refine Ext.setCell ?_ (by simp) _)) : Ext wr _)).grown hg1 (fun e => HC.out.x1 _ e.symm rfl); have q0 := hX3.cell (j := 0) rfl; have q1' := hX3.cell (j := 1) rfl; have qf := hX3.frozen 0; have ql := hX3.lt; have hE1 := hX1 w (hE.trans ((by repeat (first | with_reducible exact Ext.refl _ | with_reducible apply Ext.and | with_reducible apply Ext.drewx | with_reducible apply Ext.alloc | with_reducible apply Ext.ext | with_reducible apply Ext.drew | with_reducible refine Ext.setCell ?_ (by simp) _)) : Ext wr _)) (by omega); have HC1 := hidden hC1; have HX3 := hidden hX3; have HEN := hidden (show n' = L1.length + 1 by obtain ⟨a', c', e⟩ := hC1.a1.shape; simp only [Value.slice.injEq, List.length_append, List.length_singleton] at e; exact e.2.1); clear hA1 hX3 hv1 hg1 hX1 hC1)))); (all_goals (refine hQ' _ _ rfl ?_ ?_; (first | (focus (intro hbk; simp [brkB] at hbk; done)) | (focus (intro _; change Ext _ _; exact (by repeat (first | with_reducible assumption | with_reducible exact Ext.refl _ | with_reducible apply Ext.and | with_reducible apply Ext.drewx | with_reducible apply Ext.alloc | with_reducible apply Ext.ext | with_reducible apply Ext.drew | with_reducible refine Ext.setCell ?_ (by simp) _))))); clear hQ' Q'))))); (all_goals ((with_reducible refine wpSeqS_nil ?_)))))
  show (Code.region _ _ _).wp _ _ _ _
  have HX4 := hidden (HX3.out.set 0 (.slice b' n' c'))
  have HC4 := hidden (HC1.out.setX 0 (.slice b' n' c'))
  have hE4 := hE1.setCell (p := ⟨X, 0, none⟩) hX (.slice b' n' c')
  obtain ⟨W4, hW4⟩ : ∃ W4, W4 = w3.setCell ⟨X, 0, none⟩ (.slice b' n' c') := ⟨_, rfl⟩
  rw [← hW4] at HX4 HC4 hE4 ⊢
  have s0 := HX4.out.cell (j := 0) rfl
  have s1 := HX4.out.cell (j := 1) rfl
  have sl := HX4.out.lt
  have hsm : n' + q2 ≤ 1048576 := by have := HEN.out; have := HL2.out; omega
  clear hW4 q0 q1' qf ql b0 b1 x0 x1 xf0 xf1 dc0 dc1
  go_wp2_with (first | (first | (go_at_call 20; (with_reducible refine (kid_many _ _ _ _ _ _ _ hsm).mono ?_); rintro _ _ ⟨rfl, x, rfl⟩)) | ((first | with_reducible refine wp_region_qe (by kernel_rfl) (by kernel_rfl) ?_ | with_reducible refine wp_region_q (by kernel_rfl) (by kernel_rfl) ?_); (repeat (go_big_quiet_step ((first | (go_at_call 20; first | with_reducible exact Calls.qb (by assumption) (kid_many _ _ _ _ _ _ _ hsm) | with_reducible exact Calls.q (kid_many _ _ _ _ _ _ _ hsm)))))); refine wpQuiet_nil ?_; intro x))
  exact HQ.out r dHD.out _ _ _ _ _ _ _ _ _ _ _ _ _ _ _ _ _ _ _ _ _ _ _ _ _ _ _ _ _ _ _ _ _ _ b' n' c' _ (HX4.out.extends (by repeat (first | with_reducible exact Ext.refl _ | with_reducible apply Ext.and | with_reducible apply Ext.drewx | with_reducible apply Ext.alloc | with_reducible apply Ext.ext | with_reducible apply Ext.drew | with_reducible refine Ext.setCell ?_ (by simp) _))) (HC4.out.ext (by repeat (first | with_reducible exact Ext.refl _ | with_reducible apply Ext.and | with_reducible apply Ext.drewx | with_reducible apply Ext.alloc | with_reducible apply Ext.ext | with_reducible apply Ext.drew | with_reducible refine Ext.setCell ?_ (by simp) _))) (hE4.trans (by repeat (first | with_reducible exact Ext.refl _ | with_reducible apply Ext.and | with_reducible apply Ext.drewx | with_reducible apply Ext.alloc | with_reducible apply Ext.ext | with_reducible apply Ext.drew | with_reducible refine Ext.setCell ?_ (by simp) _)))
end Go.Proofs.Ytngehfhcnfobbaa
