/- The library's errors: New, Join of two, Is at a sentinel; small numbers in decimals. No condition. -/
import Derived.Test.YtlehcnfmagjilaaDoorHouse
import Derived.Test.YtlehcnfmagjilaaDoorMem
import Derived.Stop.Asserts
import Derived.LaidEql
namespace Go.Proofs.YtlehcnfmagjilaaDoor
open Go Go.RowKit Go.Extern Go.Extern.Stop Go.Stop

/-- Hands back a short string. -/
def StrOf (n : Nat) (w : World) (e : Ending) (w' : World) : Prop := ∃ s : ByteArray, e = .returned (.string s) ∧ s.size ≤ n ∧ Ext w w'

set_option maxHeartbeats 400000 in
theorem small_any (k : Nat) (hk : k < 10) (w : World) : Calls Tryd.prog 119 #[.int .i64 k] w (StrOf 1 w) := by
  go_enter Tryd.func119, Tryd.ntmps119
  go_wp2
  go_ret
  refine ⟨_, rfl, ?_, Ext.refl _⟩
  simp [ByteArray.size_extract]
  omega

set_option maxHeartbeats 400000 in
theorem errNew_any (s : ByteArray) (w : World) : Calls Tryd.prog 97 #[.string s] w fun e w' => e = .returned (.iface 137 (.pointer (some ⟨w.heap.size, 0, none⟩))) ∧ w' = w.alloc (.cells #[.string s] 139) := by
  go_enter Tryd.func97, Tryd.ntmps97
  go_wp2
  go_ret
  exact ⟨rfl, rfl⟩

/-- The two errors joined. -/
def JoinOf (v0 v1 : Value) (w : World) (e : Ending) (w' : World) : Prop :=
  ∃ J Q, e = .returned (.iface 134 (.pointer (some ⟨J, 0, none⟩))) ∧ w'.cell? ⟨J, 0, none⟩ = some (.slice (some ⟨Q, 0, none⟩) 2 2) ∧ w'.cell? ⟨Q, 0, none⟩ = some v0 ∧ w'.cell? ⟨Q, 1, none⟩ = some v1 ∧ w.heap.size ≤ J ∧ w.heap.size ≤ Q ∧ Ext w w'

theorem info_error : (Tryd.prog.info? 88).map (fun i => (i.zero, i.size, i.bytes)) = some (some .nilIface, 1, 16) := by kernel_rfl

set_option maxRecDepth 100000 in
set_option maxHeartbeats 2000000 in
theorem join_any (B : Nat) (t0 t1 : TypeId) (p0 p1 : Value) (w : World) (h0 : w.cell? ⟨B, 0, none⟩ = some (.iface t0 p0)) (h1 : w.cell? ⟨B, 1, none⟩ = some (.iface t1 p1)) :
    Calls Tryd.prog 96 #[.slice (some ⟨B, 0, none⟩) 2 2] w (JoinOf (.iface t0 p0) (.iface t1 p1) w) := by
  have hmk : ∀ w, (Instr.makeSlice 133 (.int .i64 0) (.int .i64 2)).run Tryd.prog w = .ok (.slice (some ⟨w.heap.size, 0, none⟩) 0 2) (w.alloc (.cells #[.nilIface, .nilIface] 88)) := fun _ => by kernel_rfl
  obtain ⟨i0, hi, hz0, hz1, hz2⟩ := info_parts info_error
  have lB := cell_lt h0
  go_enter Tryd.func96, Tryd.ntmps96
  go_wp2
  refine wp_loop_rounds 3 ?_
  rw [rounds_succ]
  go_wp2
  rw [rounds_succ]
  go_wp2
  rw [rounds_succ]
  go_wp2
  obtain ⟨W, hW⟩ : ∃ W, W = (w.alloc (Obj.cells #[Value.nilIface, Value.nilIface] 88)).alloc (Obj.cells #[Value.slice (some ⟨w.heap.size, 0, none⟩) 0 2] 136) := ⟨_, rfl⟩
  have hE0 : Ext w W := by rw [hW]; exact (by repeat (first | with_reducible exact Ext.refl _ | with_reducible apply Ext.and | with_reducible apply Ext.drewx | with_reducible apply Ext.alloc | with_reducible apply Ext.ext | with_reducible apply Ext.drew | with_reducible refine Ext.setCell ?_ (by simp) _))
  have hJ0 : Blk W (w.heap.size + 1) 136 [.slice (some ⟨w.heap.size, 0, none⟩) 0 2] := by
    rw [hW]; have := Blk.new (w.alloc (Obj.cells #[Value.nilIface, Value.nilIface] 88)) #[Value.slice (some ⟨w.heap.size, 0, none⟩) 0 2] 136; rwa [World.size_alloc] at this
  have hO0 : W.ownsRow w.heap.size 88 1 (.slice (some ⟨w.heap.size, 0, none⟩) 0 2) 0 [] := by
    refine ⟨rfl, .inr ⟨w.heap.size, 2, #[.nilIface, .nilIface], rfl, Nat.le_refl _, ?_, by omega, by unfold maxLen; omega, rfl, rfl⟩⟩
    rw [hW]
    exact (Blk.new w #[.nilIface, .nilIface] 88).alloc _
  rw [← hW]
  clear hW hmk
  go_loopw [28] (fun i wr => ∃ k : Nat, k ≤ 2 ∧ i = .int .i64 k ∧ Ext w wr ∧ Blk wr (w.heap.size + 1) 136 [.slice (some ⟨w.heap.size, 0, none⟩) k 2] ∧ wr.ownsRow w.heap.size 88 1 (.slice (some ⟨w.heap.size, 0, none⟩) k 2) k ([Value.iface t0 p0, .iface t1 p1].take k)) (fun i _ => 2 - (intOf i).toNat)
  case atStart => exact ⟨0, by omega, rfl, hE0, hJ0, hO0⟩
  case round =>
    obtain ⟨k, hk, rfl, hE, hJ, hO⟩ := hrel
    have q0 : wr.cell? ⟨B, 0, none⟩ = some (.iface t0 p0) := (hE.below.cell (p := ⟨B, 0, none⟩) lB).trans h0
    have q1 : wr.cell? ⟨B, 1, none⟩ = some (.iface t1 p1) := (hE.below.cell (p := ⟨B, 1, none⟩) lB).trans h1
    have jc := hJ.cell (j := 0) rfl
    have jf := hJ.frozen 0
    obtain rfl | rfl | rfl : k = 0 ∨ k = 1 ∨ k = 2 := by omega
    · go_wp2_with (at_builtin; refine wpList_append_fits _ rfl _ _ 133 rfl w.heap.size 88 i0 1 Tryd.underlying133 hi hz1 w.heap.size 0 2 _ rfl (hO.alloc _) ⟨wr.heap.size, 0, none⟩ 1 1 [.iface t0 p0] rfl rfl (cell_one_new _ _ _) (by simp [Value.oneCell']) (by omega) ?_; intro w2 hO2 hg2; have hJ2 := (hJ.alloc (Obj.cells #[.iface t0 p0] 88)).grown hg2 (by simp); have jc2 := hJ2.cell (j := 0) rfl; have jf2 := hJ2.frozen 0)
      go_roundw
      case rel => exact ⟨1, by omega, rfl, ((Ext.of ((hE.alloc _).below.grown hg2 (hE.alloc _).below.size (fun j hj => by cases hj; omega))).setCell (by simp) _), hJ2.set 0 _, ownsRow_set hO2 _ _ (by simp [Value.ownBlock])⟩
      case measure => simp [intOf]
    · go_wp2_with (at_builtin; refine wpList_append_fits _ rfl _ _ 133 rfl w.heap.size 88 i0 1 Tryd.underlying133 hi hz1 w.heap.size 1 2 _ rfl (hO.alloc _) ⟨wr.heap.size, 0, none⟩ 1 1 [.iface t1 p1] rfl rfl (cell_one_new _ _ _) (by simp [Value.oneCell']) (by omega) ?_; intro w2 hO2 hg2; have hJ2 := (hJ.alloc (Obj.cells #[.iface t1 p1] 88)).grown hg2 (by simp); have jc2 := hJ2.cell (j := 0) rfl; have jf2 := hJ2.frozen 0)
      go_roundw
      case rel => exact ⟨2, by omega, rfl, ((Ext.of ((hE.alloc _).below.grown hg2 (hE.alloc _).below.size (fun j hj => by cases hj; omega))).setCell (by simp) _), hJ2.set 0 _, ownsRow_set hO2 _ _ (by simp [Value.ownBlock])⟩
      case measure => simp [intOf]
    · go_wp2_with fail
      go_ret
      refine ⟨w.heap.size + 1, w.heap.size, rfl, jc, ?_, ?_, by omega, by omega, hE⟩
      · exact hO.cellAt 0 (by omega)
      · exact hO.cellAt 1 (by omega)


/-! What errors.Is finds at the program's one sentinel, and at two errors joined. -/
theorem isComp : (Tryd.prog.info? 137).map (·.comparable) = some true := by kernel_rfl
theorem isSize : (Tryd.prog.info? 139).map (·.size) = some 1 := by kernel_rfl
theorem isTypeOf (v : Value) (w : World) : (Extern.ReflectliteType.typeOf #[.iface 137 v]).run Tryd.prog w = .ok (.iface 141 (.agg #[.pointer (some ⟨9, 137, none⟩)])) w := by kernel_rfl
theorem isComparable (w : World) : (callFunc 165 #[.agg #[.pointer (some ⟨9, 137, none⟩)]]).run Tryd.prog w = .ok (.value (.bool true)) w := by kernel_rfl
theorem isMethodComparable (v : Value) (w : World) : (Go.method 309 141 v "Comparable").run Tryd.prog w = .ok (165, v) w := by kernel_rfl
theorem noIsE (v : Value) (xT : TypeId) (w : World) : (Instr.typeAssert (.iface 134 v) xT 143 true).run Tryd.prog w = .ok (.tuple #[.nilIface, .bool false]) w := run_typeAssert_lacksB Tryd.underlying143 (by kernel_rfl) (by kernel_rfl) v xT w
theorem noUnwrapE (v : Value) (xT : TypeId) (w : World) : (Instr.typeAssert (.iface 134 v) xT 146 true).run Tryd.prog w = .ok (.tuple #[.nilIface, .bool false]) w := run_typeAssert_lacksB Tryd.underlying146 (by kernel_rfl) (by kernel_rfl) v xT w
theorem hasUnwrapsE (v : Value) (xT : TypeId) (w : World) : (Instr.typeAssert (.iface 134 v) xT 148 true).run Tryd.prog w = .ok (.tuple #[.iface 134 v, .bool true]) w := run_typeAssert_hasB Tryd.underlying148 (by kernel_rfl) v xT w
theorem methodUnwrap (v : Value) (w : World) : (Go.method 309 134 v "Unwrap").run Tryd.prog w = .ok (160, v) w := by kernel_rfl

theorem is_same (a : Addr) (w : World) :
    Calls Tryd.prog 99 #[.iface 137 (.pointer (some a)), .iface 137 (.pointer (some a)), .bool true] w fun e w' => e = .returned (.bool true) ∧ Ext w w' := by
  obtain ⟨i, hi, hcmp⟩ := Option.map_eq_some_iff.1 isComp
  obtain ⟨j, hj, hjs⟩ := Option.map_eq_some_iff.1 isSize
  have heq := run_eql_iface_ptr_same (P := Tryd.prog) w a Tryd.underlying88 Tryd.underlying137 hi hcmp hj
  go_enter Tryd.func99, Tryd.ntmps99
  go_wp2
  refine wp_loop_rounds 1 ?_
  rw [rounds_succ]
  go_wp2
  go_ret
  exact ⟨rfl, Ext.refl _⟩

theorem unwrap_any (J : Nat) (v : Value) (w : World) (h : w.cell? ⟨J, 0, none⟩ = some v) : Calls Tryd.prog 160 #[.pointer (some ⟨J, 0, none⟩)] w fun e w' => e = .returned v ∧ Ext w w' := by
  go_enter Tryd.func160, Tryd.ntmps160
  go_wp2
  go_ret
  exact ⟨rfl, Ext.refl _⟩

set_option maxRecDepth 100000 in
set_option maxHeartbeats 1000000 in
theorem isJoin_any (J Q : Nat) (a : Addr) (v1 : Value) (w : World) (h0 : w.cell? ⟨J, 0, none⟩ = some (.slice (some ⟨Q, 0, none⟩) 2 2)) (h1 : w.cell? ⟨Q, 0, none⟩ = some (.iface 137 (.pointer (some a)))) (_h2 : w.cell? ⟨Q, 1, none⟩ = some v1) :
    Calls Tryd.prog 99 #[.iface 134 (.pointer (some ⟨J, 0, none⟩)), .iface 137 (.pointer (some a)), .bool true] w fun e w' => e = .returned (.bool true) ∧ Ext w w' := by
  have nE := noIsE
  have uE := noUnwrapE
  have vE := hasUnwrapsE
  have mU := methodUnwrap
  have hty := run_eql_iface_types (P := Tryd.prog) 134 137 (.pointer (some ⟨J, 0, none⟩)) (.pointer (some a)) Tryd.underlying88 (by decide) w
  go_enter Tryd.func99, Tryd.ntmps99
  go_wp2_with fail
  refine wp_loop_rounds 1 ?_
  rw [rounds_succ]
  go_wp2_with (first | (go_at_call 160; (with_reducible refine (unwrap_any _ _ _ h0).mono ?_); rintro _ _ ⟨rfl, x, rfl⟩))
  have lQ := cell_lt h1
  refine wp_loop_rounds 1 ?_
  rw [rounds_succ]
  go_wp2_with (first | (go_at_call 99; (with_reducible refine (is_same _ _).mono ?_); rintro _ _ ⟨rfl, y, rfl⟩))
  go_ret
  exact ⟨rfl, (by repeat (first | with_reducible exact Ext.refl _ | with_reducible apply Ext.and | with_reducible apply Ext.drewx | with_reducible apply Ext.alloc | with_reducible apply Ext.ext | with_reducible apply Ext.drew | with_reducible refine Ext.setCell ?_ (by simp) _))⟩

/-- The program's one sentinel lies behind its variable. -/
def EP (w : World) (a : Addr) : Prop := w.cell? ⟨0, 0, none⟩ = some (.iface 137 (.pointer (some a)))
theorem EP.later {w w' : World} {a : Addr} (h : EP w a) (he : Ext w w') : EP w' a := (he.below.cell (p := ⟨0, 0, none⟩) (cell_lt h)).trans h

/-- An error that the program's errors.Is(.., errPath) finds: two errors joined, the first of which is that. -/
def JE (w : World) (a : Addr) (v : Value) : Prop := ∃ J Q v1, v = .iface 134 (.pointer (some ⟨J, 0, none⟩)) ∧ w.cell? ⟨J, 0, none⟩ = some (.slice (some ⟨Q, 0, none⟩) 2 2) ∧ w.cell? ⟨Q, 0, none⟩ = some (.iface 137 (.pointer (some a))) ∧ w.cell? ⟨Q, 1, none⟩ = some v1
theorem JE.later {w w' : World} {a : Addr} {v : Value} (h : JE w a v) (he : Ext w w') : JE w' a v := by
  obtain ⟨J, Q, v1, e, h1, h2, h3⟩ := h
  exact ⟨J, Q, v1, e, (he.below.cell (p := ⟨J, 0, none⟩) (cell_lt h1)).trans h1, (he.below.cell (p := ⟨Q, 0, none⟩) (cell_lt h2)).trans h2, (he.below.cell (p := ⟨Q, 1, none⟩) (cell_lt h3)).trans h3⟩

theorem isNil_any (a : Addr) (w : World) :
    Calls Tryd.prog 77 #[.nilIface, .iface 137 (.pointer (some a))] w fun e w' => e = .returned (.bool false) ∧ Ext w w' := by
  have hn := run_eql_iface_nil_left (P := Tryd.prog) w 137 (.pointer (some a)) Tryd.underlying88
  go_enter Tryd.func77, Tryd.ntmps77
  go_wp2
  go_ret
  exact ⟨rfl, Ext.refl _⟩

set_option maxRecDepth 100000 in
set_option maxHeartbeats 1000000 in
theorem isPath_any (a : Addr) (v : Value) (w : World) (h : JE w a v) :
    Calls Tryd.prog 77 #[v, .iface 137 (.pointer (some a))] w fun e w' => e = .returned (.bool true) ∧ Ext w w' := by
  obtain ⟨J, Q, v1, rfl, h1, h2, h3⟩ := h
  have h8 := @run_callFunc_extern Tryd.prog 98 _ Extern.ReflectliteType.typeOf Tryd.func98 (by kernel_rfl) (by kernel_rfl) (by kernel_rfl) (by kernel_rfl)
  have tT := isTypeOf
  have cT := isComparable
  have mR := isMethodComparable
  go_enter Tryd.func77, Tryd.ntmps77
  go_wp2_with (first | (go_at_call 99; (with_reducible refine (isJoin_any J Q a v1 _ h1 h2 h3).mono ?_); rintro _ _ ⟨rfl, y, rfl⟩))
  go_ret
  exact ⟨rfl, (by repeat (first | with_reducible exact Ext.refl _ | with_reducible apply Ext.and | with_reducible apply Ext.drewx | with_reducible apply Ext.alloc | with_reducible apply Ext.ext | with_reducible apply Ext.drew | with_reducible refine Ext.setCell ?_ (by simp) _))⟩

end Go.Proofs.YtlehcnfmagjilaaDoor
