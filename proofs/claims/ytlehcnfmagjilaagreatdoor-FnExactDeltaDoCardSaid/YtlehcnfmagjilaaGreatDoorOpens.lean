/- What the form reads of the laws' arguments, reads as plain data. No condition. -/
import Derived.Test.YtlehcnfmagjilaaGreatDoorRows
import Derived.Test.YtlehcnfmagjilaaGreatDoorData
namespace Go.Proofs.YtlehcnfmagjilaaGreatDoor
open Go Go.RowKit


theorem opens_laws_int : Opens Tryz.prog 3 Int := opens_int Tryz.underlying3 (by kernel_rfl)

theorem opens_laws_bool : Opens Tryz.prog 4 Bool := opens_bool Tryz.underlying4 (by kernel_rfl)

set_option maxRecDepth 8000 in
theorem opens_laws_Rg : Opens Tryz.prog 26 Rg := by
  refine ⟨by kernel_rfl, fun {H enc w base fuel cs x} h => ?_⟩
  obtain ⟨xs, n, rfl, _, hl, hx, hf⟩ := DataW.trod_struct Tryz.underlying26 h
  have hl' : cs.length = 2 := hl.trans (by kernel_rfl)
  match cs, hl' with
  | [c0, c1], _ =>
  have k0 : Tryz.prog.cellsOf 3 = 1 := by kernel_rfl
  have f0 := hf 0 _ rfl
  rw [List.getElem?_eq_getElem (by rw [hx]; decide)] at f0
  simp only [List.getElem_toArray, List.getElem_cons_zero] at f0
  simp only [k0, List.drop_zero, List.take_succ_cons, List.take_zero] at f0
  obtain ⟨_, d0, r0⟩ := opens_laws_int.2 f0
  obtain ⟨e0, w0⟩ := r0
  simp only [List.cons.injEq, and_true] at e0
  subst e0
  have k1 : Tryz.prog.cellsOf 3 = 1 := by kernel_rfl
  have f1 := hf 1 _ rfl
  rw [List.getElem?_eq_getElem (by rw [hx]; decide)] at f1
  simp only [List.getElem_toArray, List.getElem_cons_zero, List.getElem_cons_succ] at f1
  simp only [k1, List.drop_succ_cons, List.drop_zero, List.take_succ_cons, List.take_zero] at f1
  obtain ⟨_, d1, r1⟩ := opens_laws_int.2 f1
  obtain ⟨e1, w1⟩ := r1
  simp only [List.cons.injEq, and_true] at e1
  subst e1
  exact ⟨rfl, ⟨d0, d1⟩, rfl, w0, w1⟩



theorem opens_laws_Lint : Opens Tryz.prog 27 (List Int) := opens_slice Tryz.underlying27 (by kernel_rfl) (by decide) opens_laws_int





set_option maxRecDepth 8000 in
theorem opens_laws_Rt : Opens Tryz.prog 29 Rt := by
  refine ⟨by kernel_rfl, fun {H enc w base fuel cs x} h => ?_⟩
  obtain ⟨xs, n, rfl, _, hl, hx, hf⟩ := DataW.trod_struct Tryz.underlying29 h
  have hl' : cs.length = 5 := hl.trans (by kernel_rfl)
  match cs, hl' with
  | [c0, c1, c2, c3, c4], _ =>
  have k0 : Tryz.prog.cellsOf 26 = 2 := by kernel_rfl
  have f0 := hf 0 _ rfl
  rw [List.getElem?_eq_getElem (by rw [hx]; decide)] at f0
  simp only [List.getElem_toArray, List.getElem_cons_zero] at f0
  simp only [k0, List.drop_zero, List.take_succ_cons, List.take_zero] at f0
  obtain ⟨_, d0, r0⟩ := opens_laws_Rg.2 f0
  obtain ⟨e0, w0_0, w0_1⟩ := r0
  simp only [List.cons.injEq, and_true] at e0
  obtain ⟨rfl, rfl⟩ := e0
  have k1 : Tryz.prog.cellsOf 27 = 1 := by kernel_rfl
  have f1 := hf 1 _ rfl
  rw [List.getElem?_eq_getElem (by rw [hx]; decide)] at f1
  simp only [List.getElem_toArray, List.getElem_cons_zero, List.getElem_cons_succ] at f1
  simp only [k1, List.drop_succ_cons, List.drop_zero, List.take_succ_cons, List.take_zero] at f1
  obtain ⟨_, d1, r1⟩ := opens_laws_Lint.2 f1
  obtain ⟨a1, n1, k1', e1, s1⟩ := r1
  simp only [List.cons.injEq, and_true] at e1
  subst e1
  have k2 : Tryz.prog.cellsOf 3 = 1 := by kernel_rfl
  have f2 := hf 2 _ rfl
  rw [List.getElem?_eq_getElem (by rw [hx]; decide)] at f2
  simp only [List.getElem_toArray, List.getElem_cons_zero, List.getElem_cons_succ] at f2
  simp only [k2, List.drop_succ_cons, List.drop_zero, List.take_succ_cons, List.take_zero] at f2
  obtain ⟨_, d2, r2⟩ := opens_laws_int.2 f2
  obtain ⟨e2, w2⟩ := r2
  simp only [List.cons.injEq, and_true] at e2
  subst e2
  have k3 : Tryz.prog.cellsOf 27 = 1 := by kernel_rfl
  have f3 := hf 3 _ rfl
  rw [List.getElem?_eq_getElem (by rw [hx]; decide)] at f3
  simp only [List.getElem_toArray, List.getElem_cons_zero, List.getElem_cons_succ] at f3
  simp only [k3, List.drop_succ_cons, List.drop_zero, List.take_succ_cons, List.take_zero] at f3
  obtain ⟨_, d3, r3⟩ := opens_laws_Lint.2 f3
  obtain ⟨a3, n3, k3', e3, s3⟩ := r3
  simp only [List.cons.injEq, and_true] at e3
  subst e3
  exact ⟨rfl, ⟨d0, d1, d2, d3⟩, a1, n1, k1', a3, n3, k3', rfl, w0_0, w0_1, s1, w2, s3⟩





set_option maxRecDepth 8000 in
theorem opens_laws_Gt : Opens Tryz.prog 105 Gt := by
  refine ⟨by kernel_rfl, fun {H enc w base fuel cs x} h => ?_⟩
  obtain ⟨xs, n, rfl, _, hl, hx, hf⟩ := DataW.trod_struct Tryz.underlying105 h
  have hl' : cs.length = 6 := hl.trans (by kernel_rfl)
  match cs, hl' with
  | [c0, c1, c2, c3, c4, c5], _ =>
  have k0 : Tryz.prog.cellsOf 29 = 5 := by kernel_rfl
  have f0 := hf 0 _ rfl
  rw [List.getElem?_eq_getElem (by rw [hx]; decide)] at f0
  simp only [List.getElem_toArray, List.getElem_cons_zero] at f0
  simp only [k0, List.drop_zero, List.take_succ_cons, List.take_zero] at f0
  obtain ⟨_, d0, r0⟩ := opens_laws_Rt.2 f0
  obtain ⟨a_path0, n_path0, c_path0, a_marks0, n_marks0, c_marks0, e0, w0_0, w0_1, w0_2, w0_3, w0_4⟩ := r0
  simp only [List.cons.injEq, and_true] at e0
  obtain ⟨rfl, rfl, rfl, rfl, rfl⟩ := e0
  have k1 : Tryz.prog.cellsOf 4 = 1 := by kernel_rfl
  have f1 := hf 1 _ rfl
  rw [List.getElem?_eq_getElem (by rw [hx]; decide)] at f1
  simp only [List.getElem_toArray, List.getElem_cons_zero, List.getElem_cons_succ] at f1
  simp only [k1, List.drop_succ_cons, List.drop_zero, List.take_succ_cons, List.take_zero] at f1
  obtain ⟨_, d1, r1⟩ := opens_laws_bool.2 f1
  have e1 : [c5] = [Value.bool d1] := r1
  simp only [List.cons.injEq, and_true] at e1
  subst e1
  exact ⟨rfl, ⟨d0, d1⟩, a_path0, n_path0, c_path0, a_marks0, n_marks0, c_marks0, rfl, w0_0, w0_1, w0_2, w0_3, w0_4⟩

theorem opens_laws_LGt : Opens Tryz.prog 22 (List Gt) := opens_slice Tryz.underlying22 (by kernel_rfl) (by decide) opens_laws_Gt

set_option maxRecDepth 8000 in
theorem opens_laws_Rb : Opens Tryz.prog 24 Rb := by
  refine ⟨by kernel_rfl, fun {H enc w base fuel cs x} h => ?_⟩
  obtain ⟨xs, n, rfl, _, hl, hx, hf⟩ := DataW.trod_struct Tryz.underlying24 h
  have hl' : cs.length = 3 := hl.trans (by kernel_rfl)
  match cs, hl' with
  | [c0, c1, c2], _ =>
  have k0 : Tryz.prog.cellsOf 3 = 1 := by kernel_rfl
  have f0 := hf 0 _ rfl
  rw [List.getElem?_eq_getElem (by rw [hx]; decide)] at f0
  simp only [List.getElem_toArray, List.getElem_cons_zero] at f0
  simp only [k0, List.drop_zero, List.take_succ_cons, List.take_zero] at f0
  obtain ⟨_, d0, r0⟩ := opens_laws_int.2 f0
  obtain ⟨e0, w0⟩ := r0
  simp only [List.cons.injEq, and_true] at e0
  subst e0
  have k1 : Tryz.prog.cellsOf 4 = 1 := by kernel_rfl
  have f1 := hf 1 _ rfl
  rw [List.getElem?_eq_getElem (by rw [hx]; decide)] at f1
  simp only [List.getElem_toArray, List.getElem_cons_zero, List.getElem_cons_succ] at f1
  simp only [k1, List.drop_succ_cons, List.drop_zero, List.take_succ_cons, List.take_zero] at f1
  obtain ⟨_, d1, r1⟩ := opens_laws_bool.2 f1
  have e1 : [c1] = [Value.bool d1] := r1
  simp only [List.cons.injEq, and_true] at e1
  subst e1
  have k2 : Tryz.prog.cellsOf 22 = 1 := by kernel_rfl
  have f2 := hf 2 _ rfl
  rw [List.getElem?_eq_getElem (by rw [hx]; decide)] at f2
  simp only [List.getElem_toArray, List.getElem_cons_zero, List.getElem_cons_succ] at f2
  simp only [k2, List.drop_succ_cons, List.drop_zero, List.take_succ_cons, List.take_zero] at f2
  obtain ⟨_, d2, r2⟩ := opens_laws_LGt.2 f2
  obtain ⟨a2, n2, k2', e2, s2⟩ := r2
  simp only [List.cons.injEq, and_true] at e2
  subst e2
  exact ⟨rfl, ⟨d0, d1, d2⟩, a2, n2, k2', rfl, w0, s2⟩



theorem opens_laws_LRg : Opens Tryz.prog 48 (List Rg) := opens_slice Tryz.underlying48 (by kernel_rfl) (by decide) opens_laws_Rg

theorem opens_laws_LRt : Opens Tryz.prog 47 (List Rt) := opens_slice Tryz.underlying47 (by kernel_rfl) (by decide) opens_laws_Rt

set_option maxRecDepth 8000 in
theorem opens_laws_Dl : Opens Tryz.prog 50 Dl := by
  refine ⟨by kernel_rfl, fun {H enc w base fuel cs x} h => ?_⟩
  obtain ⟨xs, n, rfl, _, hl, hx, hf⟩ := DataW.trod_struct Tryz.underlying50 h
  have hl' : cs.length = 2 := hl.trans (by kernel_rfl)
  match cs, hl' with
  | [c0, c1], _ =>
  have k0 : Tryz.prog.cellsOf 48 = 1 := by kernel_rfl
  have f0 := hf 0 _ rfl
  rw [List.getElem?_eq_getElem (by rw [hx]; decide)] at f0
  simp only [List.getElem_toArray, List.getElem_cons_zero] at f0
  simp only [k0, List.drop_zero, List.take_succ_cons, List.take_zero] at f0
  obtain ⟨_, d0, r0⟩ := opens_laws_LRg.2 f0
  obtain ⟨a0, n0, k0', e0, s0⟩ := r0
  simp only [List.cons.injEq, and_true] at e0
  subst e0
  have k1 : Tryz.prog.cellsOf 47 = 1 := by kernel_rfl
  have f1 := hf 1 _ rfl
  rw [List.getElem?_eq_getElem (by rw [hx]; decide)] at f1
  simp only [List.getElem_toArray, List.getElem_cons_zero, List.getElem_cons_succ] at f1
  simp only [k1, List.drop_succ_cons, List.drop_zero, List.take_succ_cons, List.take_zero] at f1
  obtain ⟨_, d1, r1⟩ := opens_laws_LRt.2 f1
  obtain ⟨a1, n1, k1', e1, s1⟩ := r1
  simp only [List.cons.injEq, and_true] at e1
  subst e1
  exact ⟨rfl, ⟨d0, d1⟩, a0, n0, k0', a1, n1, k1', rfl, s0, s1⟩













theorem opens_bytes : Opens Tryz.prog 184 (List U8) := opens_slice Tryz.underlying184 (by kernel_rfl) (by decide) (opens_u8 Tryz.underlying5 (by kernel_rfl))

end Go.Proofs.YtlehcnfmagjilaaGreatDoor
