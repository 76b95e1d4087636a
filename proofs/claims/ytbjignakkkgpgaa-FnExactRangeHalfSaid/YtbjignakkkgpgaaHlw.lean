/- The half of a range: what the program does. No condition. -/
import Derived.Test.YtbjignakkkgpgaaHlv
import Derived.Test.YtbjignakkkgpgaaBlk
namespace Go.Proofs.Ytbjignakkkgpgaa
open Go Go.RowKit Go.Shelf
attribute [local go_sem] Oper.semAt_some

theorem blkAt (w : World) (C : Array Value) (e : TypeId) {B : Nat} (h : w.heap.size = B) : Blk (w.alloc (.cells C e)) B e C.toList := h ▸ Blk.new w C e
/-- The half that is asked for. -/
def hf (f b : Int) (up : Bool) : Int × Int × Bool := if rok f b = true ∧ b ≠ 8 then (if up = true then f + rsz (b + 1) else f, b + 1, true) else (0, 0, false)
theorem hf_done {f b : Int} {up : Bool} (k : rok f b = true) (hp : ∀ y ∈ hv f b, (decide (f < y.f) == up) = false) : hf f b up = (0, 0, false) := by
  unfold hf
  rw [if_neg]
  rintro ⟨_, h8⟩
  have hb := rok_bd k
  have hz := rsz_bd (b := b + 1) (by omega) (by omega)
  have h1 := hp ⟨f, b + 1⟩ (by unfold hv; rw [if_neg h8]; simp)
  have h2 := hp ⟨f + rsz (b + 1), b + 1⟩ (by unfold hv; rw [if_neg h8]; simp)
  simp only at h1 h2
  rw [decide_eq_false (by omega)] at h1
  rw [decide_eq_true (by omega)] at h2
  cases up <;> simp at h1 h2
theorem hf_stop {f b : Int} {up : Bool} {y : Rg} (k : rok f b = true) (hy : y ∈ hv f b) (hd : (decide (f < y.f) == up) = true) : hf f b up = (y.f, y.b, true) := by
  have hb := rok_bd k
  unfold hv at hy
  split at hy
  · cases hy
  · rename_i h8
    have hz := rsz_bd (b := b + 1) (by omega) (by omega)
    unfold hf
    rw [if_pos ⟨k, h8⟩]
    simp only [List.mem_cons, List.mem_nil_iff, or_false] at hy
    rcases hy with rfl | rfl
    · simp only at hd ⊢
      rw [decide_eq_false (by omega)] at hd
      cases up
      · rfl
      · cases hd
    · simp only at hd ⊢
      rw [decide_eq_true (by omega)] at hd
      cases up
      · cases hd
      · rfl
theorem hf_no {f b : Int} {up : Bool} (k : rok f b = false) : hf f b up = (0, 0, false) := by
  unfold hf
  rw [if_neg (by rw [k]; simp)]
theorem blk_own {β : Type} (b : Nat) (e : TypeId) (f : β → List Value) : Own (fun s W => Blk W b e (f s)) := fun s X Y row hs hg hrow => by
  refine Blk.of_heap hs (hg.block b hs.lt fun e' => ?_)
  obtain ⟨o, ho, hc⟩ := hrow b e'.symm
  rw [show X.heap[b]? = _ from hs] at ho
  cases ho
  cases hc

set_option maxRecDepth 100000 in
set_option maxHeartbeats 4000000 in
theorem iRangeHalf_any (f b : Int) (up : Bool) (w : World) :
    CallsIn Fence.wide 6 Try.prog 6 #[.agg #[.int .i64 f, .int .i64 b], .bool up] w fun e w' => e = .returned (.tuple #[.agg #[.int .i64 (hf f b up).1, .int .i64 (hf f b up).2.1], .bool (hf f b up).2.2]) ∧ Below w.heap.size w w' := by
  refine callsIn_of_wp_marks Try.func6 rfl trivial ?_ rfl
  simp only [Try.ntmps6, List.size_toArray, List.length_cons, List.length_nil, Nat.reduceAdd, Nat.reduceSub, Array.replicate_succ, Array.replicate_zero, List.push_toArray, List.append_toArray, List.nil_append, List.cons_append]
  cases k : rok f b
  · gi_wp2_with (refine ⟨trivial, ?_⟩; gi_at_call 10; refine (callsIn_wide.2 (iRangeOk_any f b _)).mono ?_; rintro _ _ ⟨rfl, hx⟩; obtain ⟨x, rfl⟩ := hx; rw [k])
    refine ⟨.tuple #[.agg #[.int .i64 0, .int .i64 0], .bool false], by simp [results, Try.results6, go_sem], by rw [hf_no k], ?_⟩
    exact ((by repeat (first | with_reducible exact Ext.refl _ | with_reducible apply Ext.and | with_reducible apply Ext.drewx | with_reducible apply Ext.alloc | with_reducible apply Ext.ext | with_reducible apply Ext.drew | with_reducible refine Ext.setCell ?_ (by simp) _)) : Ext w _).below
  · gi_wp2_with (first | (refine ⟨trivial, ?_⟩; gi_at_call 10; refine (callsIn_wide.2 (iRangeOk_any f b _)).mono ?_; rintro _ _ ⟨rfl, hx⟩; obtain ⟨x, rfl⟩ := hx; rw [k]) | (refine ⟨trivial, ?_⟩; gi_at_call 11; refine (halves_in Fence.wide _ trivial rfl f b _).mono ?_; rintro _ _ ⟨rfl, rfl⟩))
    obtain ⟨Bn, hBn⟩ : ∃ Bn, Bn = w.heap.size + 1 + 1 + 1 + 1 + x.objs.size := ⟨_, rfl⟩
    obtain ⟨W0, hW0⟩ : ∃ W0, ((Go.Proofs.Ytbjignakkkgpgaa.ext ((((w.alloc (.cells #[.int .i64 f, .int .i64 b] 24)).alloc (.cells #[.bool up] 4)).alloc (.cells #[.int .i64 0, .int .i64 0] 24)).alloc (.cells #[.bool false] 4)) x).alloc (.cells #[.int .i64 f, .int .i64 b] 24)) = W0 := ⟨_, rfl⟩
    have hE : Ext w W0 := by rw [← hW0]; exact (by repeat (first | with_reducible exact Ext.refl _ | with_reducible apply Ext.and | with_reducible apply Ext.drewx | with_reducible apply Ext.alloc | with_reducible apply Ext.ext | with_reducible apply Ext.drew | with_reducible refine Ext.setCell ?_ (by simp) _))
    have q1 : Blk W0 w.heap.size 24 [.int .i64 f, .int .i64 b] := by rw [← hW0]; exact (Blk.new w #[.int .i64 f, .int .i64 b] _).extends (by repeat (first | with_reducible exact Ext.refl _ | with_reducible apply Ext.and | with_reducible apply Ext.drewx | with_reducible apply Ext.alloc | with_reducible apply Ext.ext | with_reducible apply Ext.drew | with_reducible refine Ext.setCell ?_ (by simp) _))
    have q2 : Blk W0 (w.heap.size + 1) 4 [.bool up] := by rw [← hW0]; exact (blkAt (w.alloc _) #[.bool up] _ (by simp)).extends (by repeat (first | with_reducible exact Ext.refl _ | with_reducible apply Ext.and | with_reducible apply Ext.drewx | with_reducible apply Ext.alloc | with_reducible apply Ext.ext | with_reducible apply Ext.drew | with_reducible refine Ext.setCell ?_ (by simp) _))
    have q3 : Blk W0 (w.heap.size + 1 + 1) 24 [.int .i64 0, .int .i64 0] := by rw [← hW0]; exact (blkAt ((w.alloc _).alloc _) #[.int .i64 0, .int .i64 0] _ (by simp)).extends (by repeat (first | with_reducible exact Ext.refl _ | with_reducible apply Ext.and | with_reducible apply Ext.drewx | with_reducible apply Ext.alloc | with_reducible apply Ext.ext | with_reducible apply Ext.drew | with_reducible refine Ext.setCell ?_ (by simp) _))
    have q4 : Blk W0 (w.heap.size + 1 + 1 + 1) 4 [.bool false] := by rw [← hW0]; exact (blkAt (((w.alloc _).alloc _).alloc _) #[.bool false] _ (by simp)).extends (by repeat (first | with_reducible exact Ext.refl _ | with_reducible apply Ext.and | with_reducible apply Ext.drewx | with_reducible apply Ext.alloc | with_reducible apply Ext.ext | with_reducible apply Ext.drew | with_reducible refine Ext.setCell ?_ (by simp) _))
    have q5 : Blk W0 Bn 24 [.int .i64 f, .int .i64 b] := by rw [← hW0]; exact blkAt _ #[.int .i64 f, .int .i64 b] _ (by rw [hBn]; simp)
    have hlB : w.heap.size + 1 + 1 + 1 < Bn := by omega
    rw [hW0, ← hBn]
    clear hW0 hBn
    have hk := rok_bd k
    obtain ⟨b0, b1, f0, f1⟩ := hk
    refine wpIn_rangeFunc_ownH rfl (by omega) (gf := 15) (lb := #[.pointer (some ⟨Bn, 0, none⟩)]) rfl trivial (enters_of Try.func15 (by kernel_rfl) rfl)
      (halves_stops 5 (by omega) Bn (Bn + 1) f b b0 b1 f0 f1 (by omega) W0 q5.lt (q5.cell (j := 0) rfl) (q5.cell (j := 1) rfl)) belowK_t (belowK_b q5.lt) (Below.refl _ _) (fun _ => rfl)
      (fun pre W => ((((((∀ y ∈ pre, (decide (f < y.f) == up) = false) ∧ Blk W w.heap.size 24 [.int .i64 f, .int .i64 b]) ∧ Blk W (w.heap.size + 1) 4 [.bool up]) ∧ Blk W (w.heap.size + 1 + 1) 24 [.int .i64 0, .int .i64 0]) ∧ Blk W (w.heap.size + 1 + 1 + 1) 4 [.bool false]) ∧ Blk W Bn 24 [.int .i64 f, .int .i64 b]) ∧ Below w.heap.size w W)
      (fun c pre W => (c = .ret ∧ ∃ y, y ∈ pre ∧ (decide (f < y.f) == up) = true ∧ Blk W (w.heap.size + 1 + 1) 24 [.int .i64 y.f, .int .i64 y.b] ∧ Blk W (w.heap.size + 1 + 1 + 1) 4 [.bool true]) ∧ Below w.heap.size w W)
      (OwnFrom.and (OwnFrom.and (OwnFrom.and (OwnFrom.and (OwnFrom.and (OwnFrom.and (ownFrom_pure _ _) (Own.from (blk_own _ _ _) _)) (Own.from (blk_own _ _ _) _)) (Own.from (blk_own _ _ _) _)) (Own.from (blk_own _ _ _) _)) (Own.from (blk_own _ _ _) _)) (ownFrom_below (Nat.le_refl _) hE.size))
      (fun c => OwnFrom.and (fun s A B row hs hg hr => by
        obtain ⟨e, y, hy, hd, h1, h2⟩ := hs
        exact ⟨e, y, hy, hd, blk_own _ _ (fun (_ : Unit) => _) () A B row h1 hg (fun r e => (hr r e).2), blk_own _ _ (fun (_ : Unit) => _) () A B row h2 hg (fun r e => (hr r e).2)⟩) (ownFrom_below (Nat.le_refl _) hE.size))
      ⟨⟨⟨⟨⟨⟨by simp, q1⟩, q2⟩, q3⟩, q4⟩, q5⟩, hE.below⟩
      (fun y a' W => ∃ Bx, Bn < Bx ∧ Blk W Bx 24 [.int .i64 y.f, .int .i64 y.b] ∧ a' = { tmps := #[.agg #[.int .i64 f, .int .i64 b], .bool up, .pointer (some ⟨w.heap.size, 0, none⟩), .pointer (some ⟨w.heap.size + 1, 0, none⟩), .pointer (some ⟨w.heap.size + 1 + 1, 0, none⟩), .pointer (some ⟨w.heap.size + 1 + 1 + 1, 0, none⟩), .pointer (some ⟨Bx, 0, none⟩), .agg #[.int .i64 f, .int .i64 b], .bool true, .bool false, undef, .agg #[.int .i64 f, .int .i64 b], .func (.func 15) #[] #[.pointer (some ⟨Bn, 0, none⟩)], .agg #[.int .i64 y.f, .int .i64 y.b], undef, undef, undef, undef, undef, undef, undef, undef, undef], defers := [] })
      (fun y a' _ X Y row hs hg hr => by obtain ⟨Bx, e1, e2, e3⟩ := hs; exact ⟨Bx, e1, blk_own Bx _ (fun (_ : Unit) => _) () X Y row e2 hg (fun r e => (hr r e).2), e3⟩)
      ?assign ?body ?done ?stop
    case assign =>
      rintro l pre y W K ⟨⟨⟨⟨⟨⟨hp, p1⟩, p2⟩, p3⟩, p4⟩, p5⟩, hB⟩ hK
      gi_wp2
      have h5 := p5.lt
      exact hK _ _ ((KeepsOthers.alloc _ _).from _) ((Below.refl _ W).alloc (by omega) _) ⟨⟨⟨⟨⟨⟨hp, p1.alloc _⟩, p2.alloc _⟩, p3.alloc _⟩, p4.alloc _⟩, p5.alloc _⟩, hB.alloc hB.size _⟩ ⟨W.heap.size, h5, Blk.new W _ _, rfl⟩
    case body =>
      rintro l pre y a' W hl ⟨r, hr⟩ ⟨⟨⟨⟨⟨⟨hp, p1⟩, p2⟩, p3⟩, p4⟩, p5⟩, hB⟩ ⟨Bx, hBx, pX, rfl⟩ hlt
      have c1 := p1.cell (j := 0) rfl
      have c2 := p2.cell (j := 0) rfl
      have c30 := p3.cell (j := 0) rfl
      have c31 := p3.cell (j := 1) rfl
      have c4 := p4.cell (j := 0) rfl
      have f30 := p3.frozen 0
      have f31 := p3.frozen 1
      have f4 := p4.frozen 0
      have cX0 := pX.cell (j := 0) rfl
      have cX1 := pX.cell (j := 1) rfl
      cases hd : (decide (f < y.f) == up)
      · gi_wp2
        exact ⟨KeepsFrom.refl _ _, Below.refl _ _, ⟨⟨⟨⟨⟨fun z hz => (List.mem_append.1 hz).elim (hp z) (fun e => by simp at e; subst e; exact hd), p1⟩, p2⟩, p3⟩, p4⟩, p5⟩, hB⟩
      · gi_wp2
        refine ⟨(((KeepsOthers.setCell _ _ _).trans (KeepsOthers.setCell _ _ _)).trans (KeepsOthers.setCell _ _ _)).from _, ⟨rfl, y, List.mem_append.2 (.inr (by simp)), hd, ?_, ?_⟩, ?_⟩
        · exact ((p3.set 0 (.int .i64 y.f)).set 1 (.int .i64 y.b)).setOther _ (by show _ ≠ w.heap.size + 1 + 1 + 1; omega)
        · exact ((p4.setOther _ (by show _ ≠ w.heap.size + 1 + 1; omega)).setOther _ (by show _ ≠ w.heap.size + 1 + 1; omega)).set 0 (.bool true)
        · exact ((hB.setCell (p := ⟨w.heap.size + 1 + 1, 0, none⟩) (by show _ ≤ w.heap.size + 1 + 1; omega) _).setCell (p := ⟨w.heap.size + 1 + 1, 1, none⟩) (by show _ ≤ w.heap.size + 1 + 1; omega) _).setCell (p := ⟨w.heap.size + 1 + 1 + 1, 0, none⟩) (by show _ ≤ w.heap.size + 1 + 1 + 1; omega) _
    case done =>
      rintro D zs W hD rfl ⟨⟨⟨⟨⟨⟨hp, p1⟩, p2⟩, p3⟩, p4⟩, p5⟩, hB⟩ hK
      have c30 := p3.cell (j := 0) rfl
      have c31 := p3.cell (j := 1) rfl
      have c4 := p4.cell (j := 0) rfl
      have f30 := p3.frozen 0
      have f31 := p3.frozen 1
      have f4 := p4.frozen 0
      gi_wp2
      have hK' := (((KeepsOthers.setCell W ⟨w.heap.size + 1 + 1, 0, none⟩ (.int .i64 0)).trans (KeepsOthers.setCell _ ⟨w.heap.size + 1 + 1, 1, none⟩ (.int .i64 0))).trans (KeepsOthers.setCell _ ⟨w.heap.size + 1 + 1 + 1, 0, none⟩ (.bool false))).same D _ hK rfl
      have z3 := ((p3.set 0 (.int .i64 0)).set 1 (.int .i64 0)).setOther (a := ⟨w.heap.size + 1 + 1 + 1, 0, none⟩) (.bool false) (by show _ ≠ w.heap.size + 1 + 1 + 1; omega)
      have z4 := ((p4.setOther (a := ⟨w.heap.size + 1 + 1, 0, none⟩) (.int .i64 0) (by show _ ≠ w.heap.size + 1 + 1; omega)).setOther (a := ⟨w.heap.size + 1 + 1, 1, none⟩) (.int .i64 0) (by show _ ≠ w.heap.size + 1 + 1; omega)).set 0 (.bool false)
      have hB2 := ((hB.setCell (p := ⟨w.heap.size + 1 + 1, 0, none⟩) (by show _ ≤ w.heap.size + 1 + 1; omega) (.int .i64 0)).setCell (p := ⟨w.heap.size + 1 + 1, 1, none⟩) (by show _ ≤ w.heap.size + 1 + 1; omega) (.int .i64 0)).setCell (p := ⟨w.heap.size + 1 + 1 + 1, 0, none⟩) (by show _ ≤ w.heap.size + 1 + 1 + 1; omega) (.bool false)
      refine ⟨by simp, .inl ⟨_, _, rfl, run_takeDeferred hK', ?_⟩⟩
      have k0 := cell_kept (z3.cell (j := 0) rfl) (grownBy_putObj' _ D (.deferred none)) (fun r e => by cases e; exact ⟨_, hK', rfl⟩)
      have k1 := cell_kept (z3.cell (j := 1) rfl) (grownBy_putObj' _ D (.deferred none)) (fun r e => by cases e; exact ⟨_, hK', rfl⟩)
      have k4 := cell_kept (z4.cell (j := 0) rfl) (grownBy_putObj' _ D (.deferred none)) (fun r e => by cases e; exact ⟨_, hK', rfl⟩)
      refine ⟨.tuple #[.agg #[.int .i64 0, .int .i64 0], .bool false], ?_, by rw [hf_done k hp], hB2.trans (belowK_b (w := w) (Nat.le_refl _) _ D _ _ (by have := hE.size; omega) hK' rfl rfl)⟩
      simp [results, Try.results6, go_sem, k0, k1, k4]
    case stop =>
      rintro D c pre W hD hpre ⟨⟨rfl, y, hy, hd, p3, p4⟩, hB⟩ hK
      gi_wp2
      refine ⟨by simp, .inl ⟨_, _, rfl, run_takeDeferred hK, ?_⟩⟩
      have k0 := cell_kept (p3.cell (j := 0) rfl) (grownBy_putObj' _ D (.deferred none)) (fun r e => by cases e; exact ⟨_, hK, rfl⟩)
      have k1 := cell_kept (p3.cell (j := 1) rfl) (grownBy_putObj' _ D (.deferred none)) (fun r e => by cases e; exact ⟨_, hK, rfl⟩)
      have k4 := cell_kept (p4.cell (j := 0) rfl) (grownBy_putObj' _ D (.deferred none)) (fun r e => by cases e; exact ⟨_, hK, rfl⟩)
      refine ⟨.tuple #[.agg #[.int .i64 y.f, .int .i64 y.b], .bool true], ?_, by rw [hf_stop k (hpre.subset hy) hd], hB.trans (belowK_b (w := w) (Nat.le_refl _) W D _ _ (by have := hE.size; omega) hK rfl rfl)⟩
      simp [results, Try.results6, go_sem, k0, k1, k4]
end Go.Proofs.Ytbjignakkkgpgaa
