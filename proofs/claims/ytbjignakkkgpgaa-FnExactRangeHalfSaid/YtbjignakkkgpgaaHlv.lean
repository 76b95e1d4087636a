/- The halves of a range: what the iterator does. No condition. -/
import Derived.RangeFuncNested
import Derived.RangeFuncBound
import Derived.RangeFuncCalls
import Derived.RangeFuncLeaves
import Derived.Shelf.Abstract
import Derived.Shelf.RegionOpen
import Derived.WalkKit
import Derived.OwnWalkIn
import Derived.TacticsInMore
import Derived.LoopNIn
import Derived.LoopIn
import Derived.Test.YtbjignakkkgpgaaRange
import Derived.Test.YtbjignakkkgpgaaData
namespace Go.Proofs.Ytbjignakkkgpgaa
open Go Go.RowKit Go.Shelf
attribute [local go_sem] Oper.semAt_some

theorem w64 {z : Int} (h1 : -9223372036854775808 ≤ z) (h2 : z ≤ 9223372036854775807) : IntKind.i64.wrap z = z := by
  simp only [IntKind.wrap, IntKind.signed, IntKind.bits]
  first | omega | (simp; omega) | (unfold wrap64; omega)
/-- The halves of a range, as they come. -/
def hv (f b : Int) : List Rg := if b = 8 then [] else [⟨f, b + 1⟩, ⟨f + rsz (b + 1), b + 1⟩]
theorem grown_ext {w w' : World} (h : Ext w w') : w.grownBy w' none := ⟨h.below.os, h.below.tape, h.below.output, h.below.size, fun k hk _ => h.below.block k hk⟩

set_option maxHeartbeats 1000000 in
theorem halves_in (F : Fence) (n : Nat) (h11 : F.fn 11) (hro : F.round = none) (f b : Int) (w : World) :
    CallsIn F n Try.prog 11 #[.agg #[.int .i64 f, .int .i64 b]] w fun e w' => e = .returned (.func (.func 15) #[] #[.pointer (some ⟨w.heap.size, 0, none⟩)]) ∧ w' = w.alloc (.cells #[.int .i64 f, .int .i64 b] 24) := by
  refine callsIn_of_wp Try.func11 rfl h11 ?_ hro
  simp only [Try.ntmps11, List.size_toArray, List.length_cons, List.length_nil, Nat.reduceAdd, Nat.reduceSub, Array.replicate_succ, Array.replicate_zero, List.push_toArray, List.append_toArray, List.nil_append, List.cons_append]
  gi_wp2
  go_ret
  exact ⟨rfl, rfl⟩

set_option maxRecDepth 100000 in
set_option maxHeartbeats 4000000 in
theorem halves1_in (n : Nat) (hn : 2 ≤ n) (l Bn n₀ : Nat) (f b : Int) (b0 : 0 ≤ b) (b1 : b ≤ 8) (f0 : 0 ≤ f) (f1 : f ≤ 255) (hlt : Bn < n₀) (J Jx : List Rg → World → Prop) (N : Nat) (hJ : AbidesFrom N J)
    (hY : ∀ pre (x : Rg) W, J pre W → pre.length < 2 → YieldAt Fence.wide (n - 1) Try.prog l #[.agg #[.int .i64 x.f, .int .i64 x.b]] W fun e W' =>
      (e = .returned (.bool true) ∧ J (pre ++ [x]) W' ∧ Below n₀ W W') ∨ (e = .returned (.bool false) ∧ Jx (pre ++ [x]) W'))
    (W : World) (hc0 : W.cell? ⟨Bn, 0, none⟩ = some (.int .i64 f)) (hc1 : W.cell? ⟨Bn, 1, none⟩ = some (.int .i64 b)) (h0 : J [] W) :
    CallsIn Fence.wide n Try.prog 15 #[.func (.yield l) #[] #[], .pointer (some ⟨Bn, 0, none⟩)] W fun e W' => (∃ v, e = .returned v) ∧
      ((∃ ys, ys = hv f b ∧ J ys W') ∨ (∃ pre, pre <+: hv f b ∧ Jx pre W')) := by
  refine callsIn_of_wp Try.func15 rfl trivial ?_ rfl
  simp only [Try.ntmps15, List.size_toArray, List.length_cons, List.length_nil, Nat.reduceAdd, Nat.reduceSub, Array.replicate_succ, Array.replicate_zero, List.push_toArray, List.append_toArray, List.nil_append, List.cons_append]
  rcases Int.lt_or_eq_of_le b1 with hb | rfl
  · have hb8 : (b == 8) = false := by simp; omega
    obtain ⟨fn, tmps, assign, body, hy, hR⟩ := hY [] ⟨f, b + 1⟩ W h0 (by simp)
    dsimp only at hy
    gi_wp2
    refine ⟨fun _ => by omega, ?_⟩
    refine hR.mono ?_
    rintro e W3 (⟨rfl, hJ3, hk3⟩ | ⟨rfl, hJx3⟩)
    · have c0 : W3.cell? ⟨Bn, 0, none⟩ = some (.int .i64 f) := (hk3.cell (p := ⟨Bn, 0, none⟩) hlt).trans hc0
      have c1 : W3.cell? ⟨Bn, 1, none⟩ = some (.int .i64 b) := (hk3.cell (p := ⟨Bn, 1, none⟩) hlt).trans hc1
      have lt := cell_lt c0
      clear hy hR hc0 hc1
      have HY : ∀ W', Ext W3 W' → YieldAt Fence.wide (n - 1) Try.prog l #[.agg #[.int .i64 (f + rsz (b + 1)), .int .i64 (b + 1)]] W' fun e W' =>
          ∃ t, e = .returned (.bool t) ∧ ((t = true ∧ J (hv f b) W') ∨ (t = false ∧ Jx (hv f b) W')) := fun W' hE => by
        have hve : hv f b = [⟨f, b + 1⟩] ++ [⟨f + rsz (b + 1), b + 1⟩] := by unfold hv; rw [if_neg (by omega)]; rfl
        obtain ⟨fn, tmps, assign, body, hy, hR⟩ := hY [⟨f, b + 1⟩] ⟨f + rsz (b + 1), b + 1⟩ W' (hJ _ W3 W' none hJ3 (grown_ext hE) (fun r e => by cases e)) (by simp)
        refine ⟨fn, tmps, assign, body, hy, hR.mono ?_⟩
        rintro e W4 (⟨rfl, hJ4, _⟩ | ⟨rfl, hJx4⟩)
        · exact ⟨true, rfl, .inl ⟨rfl, by rw [hve]; exact hJ4⟩⟩
        · exact ⟨false, rfl, .inr ⟨rfl, by rw [hve]; exact hJx4⟩⟩
      have hz := rsz_half b0 (by omega)
      have hzd := rsz_bd b0 b1
      have hz2 := rsz_bd (b := b + 1) (by omega) (by omega)
      gi_wp2
      have hzt : Int.tdiv (rsz b) 2 = rsz (b + 1) := by rw [Int.tdiv_eq_ediv_of_nonneg (by omega)]; exact hz
      have hwa : IntKind.i64.wrap (b + 1) = b + 1 := w64 (by omega) (by omega)
      have hwb : IntKind.i64.wrap (rsz (b + 1)) = rsz (b + 1) := w64 (by omega) (by omega)
      have hwc : IntKind.i64.wrap (f + rsz (b + 1)) = f + rsz (b + 1) := w64 (by omega) (by omega)
      gi_region_with (first | (refine ⟨trivial, fun _ => by omega, ?_⟩; refine (callsIn_wide.2 (many_any f b _ b0 b1)).mono ?_; rintro _ _ ⟨rfl, hx⟩; obtain ⟨x, rfl⟩ := hx; obtain ⟨fn2, tm2, as2, bo2, hy2, hR2⟩ := HY (Go.Proofs.Ytbjignakkkgpgaa.ext W3.drew x) (by repeat (first | with_reducible exact Ext.refl _ | with_reducible apply Ext.and | with_reducible apply Ext.drewx | with_reducible apply Ext.alloc | with_reducible apply Ext.ext | with_reducible apply Ext.drew | with_reducible refine Ext.setCell ?_ (by simp) _)); (try dsimp only at hy2); have d0 : (Go.Proofs.Ytbjignakkkgpgaa.ext W3.drew x).cell? ⟨Bn, 0, none⟩ = some (.int .i64 f) := (cell?_ext' W3.drew _ _ _ lt).trans c0; have d1 : (Go.Proofs.Ytbjignakkkgpgaa.ext W3.drew x).cell? ⟨Bn, 1, none⟩ = some (.int .i64 b) := (cell?_ext' W3.drew _ _ _ lt).trans c1) | (refine ⟨fun _ => by omega, ?_⟩; refine hR2.mono ?_; rintro e W4 ⟨t4, rfl, h4⟩))
      all_goals
        gi_wp2
        go_end0
        refine ⟨⟨_, rfl⟩, ?_⟩
        rcases h4 with ⟨_, h5⟩ | ⟨_, h5⟩
        · exact .inl ⟨_, rfl, h5⟩
        · exact .inr ⟨_, List.prefix_refl _, h5⟩
    · gi_wp2
      go_end0
      exact ⟨⟨_, rfl⟩, .inr ⟨_, ⟨[⟨f + rsz (b + 1), b + 1⟩], by unfold hv; rw [if_neg (by omega)]; rfl⟩, hJx3⟩⟩
  · gi_wp2
    refine bodyPost_ret (results_none rfl _ _ _) rfl ?_
    exact ⟨⟨_, rfl⟩, .inl ⟨_, by simp [hv], h0⟩⟩

/-- **r.halves() hands back a value that stops.** -/
theorem halves_stops (n : Nat) (hn : 2 ≤ n) (Bn n₀ : Nat) (f b : Int) (b0 : 0 ≤ b) (b1 : b ≤ 8) (f0 : 0 ≤ f) (f1 : f ≤ 255) (hlt : Bn < n₀) (w : World) (hn₀ : n₀ ≤ w.heap.size)
    (hc0 : w.cell? ⟨Bn, 0, none⟩ = some (.int .i64 f)) (hc1 : w.cell? ⟨Bn, 1, none⟩ = some (.int .i64 b)) :
    SeqStopsK Fence.wide n Try.prog 15 #[.pointer (some ⟨Bn, 0, none⟩)] (fun x : Rg => #[Value.agg #[.int .i64 x.f, .int .i64 x.b]]) (Below n₀) (fun ys => ys = hv f b) (fun pre => pre <+: hv f b) 2 w := fun l J Jx W hW hJ _ hY h0 =>
  halves1_in n hn l Bn n₀ f b b0 b1 f0 f1 hlt J Jx _ hJ hY W ((hW.cell (p := ⟨Bn, 0, none⟩) (by show Bn < w.heap.size; omega)).trans hc0) ((hW.cell (p := ⟨Bn, 1, none⟩) (by show Bn < w.heap.size; omega)).trans hc1) h0
end Go.Proofs.Ytbjignakkkgpgaa
