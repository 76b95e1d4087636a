/- What functions of package slices do with slices: as rows of cells. No condition. -/
import Derived.Test.YtlehcnfmagjilaaDoorRows
import Derived.Test.YtlehcnfmagjilaaDoorRow
namespace Go.Proofs.YtlehcnfmagjilaaDoor
open Go Go.RowKit

theorem tyinfo_int : (Tryd.prog.info? 3).map (fun i => (i.zero, i.size, i.bytes)) = some (some (.int .i64 0), 1, 8) := by kernel_rfl
theorem tyi_int : TyI Tryd.prog 41 3 1 8 := by
  obtain ⟨i, hi, hz0, hz1, hz2⟩ := info_parts tyinfo_int
  exact ⟨Tryd.underlying41, by decide, i, _, hi, hz0, hz1, hz2, rfl⟩

theorem tyinfo_Rg : (Tryd.prog.info? 36).map (fun i => (i.zero, i.size, i.bytes)) = some (some (.agg #[.int .i64 0, .int .i64 0]), 2, 16) := by kernel_rfl
theorem tyi_Rg : TyI Tryd.prog 24 36 2 16 := by
  obtain ⟨i, hi, hz0, hz1, hz2⟩ := info_parts tyinfo_Rg
  exact ⟨Tryd.underlying24, by decide, i, _, hi, hz0, hz1, hz2, rfl⟩

theorem tyinfo_Rt : (Tryd.prog.info? 55).map (fun i => (i.zero, i.size, i.bytes)) = some (some (.agg #[.int .i64 0, .int .i64 0, .slice none 0 0, .int .i64 0, .slice none 0 0]), 5, 72) := by kernel_rfl
theorem tyi_Rt : TyI Tryd.prog 25 55 5 72 := by
  obtain ⟨i, hi, hz0, hz1, hz2⟩ := info_parts tyinfo_Rt
  exact ⟨Tryd.underlying25, by decide, i, _, hi, hz0, hz1, hz2, rfl⟩

set_option maxRecDepth 20000 in
set_option maxHeartbeats 1000000 in
theorem clone_int (a : Option Addr) (len cap : Nat) (xs : List Value) (w : World) (hs : Src w a xs) (hl : xs.length = len * 1) (h1 : One xs) (hlc : len ≤ cap) (ha : a = none → cap = 0) (hm : len ≤ 1000000000) :
    Calls Tryd.prog 64 #[.slice a len cap] w fun e w' => ∃ v, e = .returned v ∧ w'.ownsRow w.heap.size 3 1 v len xs ∧ Ext w w' := by
  have q0 : ∀ (w : World) (a : Option Addr) (n c n' c' : Nat), (binOp .eql 41 (.slice a n c) (.slice none n' c')).run Tryd.prog w = .ok (.bool a.isNone) w := fun w a n c n' c' => Lib.run_eql_slice_nil w _ _ a n c n' c' Tryd.underlying41
  cases a with
  | none =>
    obtain rfl := ha rfl
    obtain rfl : len = 0 := by omega
    obtain rfl : xs = [] := List.eq_nil_of_length_eq_zero (by simpa using hl)
    clear hm hl h1 hs ha hlc
    go_enter Tryd.func64, Tryd.ntmps64
    go_wp2_with fail
    go_ret
    exact ⟨_, rfl, World.ownsRow_nil _ _ _ _, Ext.refl _⟩
  | some ad =>
    have HL := hidden hl
    have HM := hidden hm
    have HS := hidden hs
    have H1 := hidden h1
    clear hl hm hs h1 ha
    go_enter Tryd.func64, Tryd.ntmps64
    go_wp2_with (at_builtin; refine wpList_app (N := w.heap.size) rfl _ _ rfl tyi_int (by rfl) (World.ownsRow_made w #[] 0 (Nat.le_refl _) (Nat.zero_le _) (by simp)) (by rfl) hlc (fun h => by cases h) HL.out (HS.out.stays ((by repeat (first | with_reducible exact Ext.refl _ | with_reducible apply Ext.and | with_reducible apply Ext.drewx | with_reducible apply Ext.alloc | with_reducible apply Ext.ext | with_reducible apply Ext.drew | with_reducible refine Ext.setCell ?_ (by simp) _)) : Ext _ _).below) H1.out (by have := HM.out; unfold maxLen; omega) (by have := HM.out; omega) (by simp) ?_; intro v1 w1 hw1 hg1 hb1)
    go_ret
    exact ⟨_, rfl, by simpa using hw1, Ext.by ((by repeat (first | with_reducible exact Ext.refl _ | with_reducible apply Ext.and | with_reducible apply Ext.drewx | with_reducible apply Ext.alloc | with_reducible apply Ext.ext | with_reducible apply Ext.drew | with_reducible refine Ext.setCell ?_ (by simp) _)) : Ext w _) hg1 (by simp [Value.ownBlock])⟩



end Go.Proofs.YtlehcnfmagjilaaDoor
