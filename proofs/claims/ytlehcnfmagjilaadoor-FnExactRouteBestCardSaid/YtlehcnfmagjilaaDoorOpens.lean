/- What the form reads of the laws' arguments, reads as plain data. No condition. -/
import Derived.Test.YtlehcnfmagjilaaDoorRows
import Derived.Test.YtlehcnfmagjilaaDoorData
namespace Go.Proofs.YtlehcnfmagjilaaDoor
open Go Go.RowKit


theorem opens_laws_int : Opens Tryd.prog 3 Int := opens_int Tryd.underlying3 (by kernel_rfl)

theorem opens_laws_bool : Opens Tryd.prog 4 Bool := opens_bool Tryd.underlying4 (by kernel_rfl)

set_option maxRecDepth 8000 in
theorem opens_laws_Rg : Opens Tryd.prog 49 Rg := by
  refine ⟨by kernel_rfl, fun {H enc w base fuel cs x} h => ?_⟩
  obtain ⟨xs, n, rfl, _, hl, hx, hf⟩ := DataW.trod_struct Tryd.underlying49 h
  have hl' : cs.length = 2 := hl.trans (by kernel_rfl)
  match cs, hl' with
  | [c0, c1], _ =>
  have k0 : Tryd.prog.cellsOf 3 = 1 := by kernel_rfl
  have f0 := hf 0 _ rfl
  rw [List.getElem?_eq_getElem (by rw [hx]; decide)] at f0
  simp only [List.getElem_toArray, List.getElem_cons_zero] at f0
  simp only [k0, List.drop_zero, List.take_succ_cons, List.take_zero] at f0
  obtain ⟨_, d0, r0⟩ := opens_laws_int.2 f0
  obtain ⟨e0, w0⟩ := r0
  simp only [List.cons.injEq, and_true] at e0
  subst e0
  have k1 : Tryd.prog.cellsOf 3 = 1 := by kernel_rfl
  have f1 := hf 1 _ rfl
  rw [List.getElem?_eq_getElem (by rw [hx]; decide)] at f1
  simp only [List.getElem_toArray, List.getElem_cons_zero, List.getElem_cons_succ] at f1
  simp only [k1, List.drop_succ_cons, List.drop_zero, List.take_succ_cons, List.take_zero] at f1
  obtain ⟨_, d1, r1⟩ := opens_laws_int.2 f1
  obtain ⟨e1, w1⟩ := r1
  simp only [List.cons.injEq, and_true] at e1
  subst e1
  exact ⟨rfl, ⟨d0, d1⟩, rfl, w0, w1⟩



theorem opens_laws_Lint : Opens Tryd.prog 41 (List Int) := opens_slice Tryd.underlying41 (by kernel_rfl) (by decide) opens_laws_int





set_option maxRecDepth 8000 in
theorem opens_laws_Rt : Opens Tryd.prog 51 Rt := by
  refine ⟨by kernel_rfl, fun {H enc w base fuel cs x} h => ?_⟩
  obtain ⟨xs, n, rfl, _, hl, hx, hf⟩ := DataW.trod_struct Tryd.underlying51 h
  have hl' : cs.length = 5 := hl.trans (by kernel_rfl)
  match cs, hl' with
  | [c0, c1, c2, c3, c4], _ =>
  have k0 : Tryd.prog.cellsOf 49 = 2 := by kernel_rfl
  have f0 := hf 0 _ rfl
  rw [List.getElem?_eq_getElem (by rw [hx]; decide)] at f0
  simp only [List.getElem_toArray, List.getElem_cons_zero] at f0
  simp only [k0, List.drop_zero, List.take_succ_cons, List.take_zero] at f0
  obtain ⟨_, d0, r0⟩ := opens_laws_Rg.2 f0
  obtain ⟨e0, w0_0, w0_1⟩ := r0
  simp only [List.cons.injEq, and_true] at e0
  obtain ⟨rfl, rfl⟩ := e0
  have k1 : Tryd.prog.cellsOf 41 = 1 := by kernel_rfl
  have f1 := hf 1 _ rfl
  rw [List.getElem?_eq_getElem (by rw [hx]; decide)] at f1
  simp only [List.getElem_toArray, List.getElem_cons_zero, List.getElem_cons_succ] at f1
  simp only [k1, List.drop_succ_cons, List.drop_zero, List.take_succ_cons, List.take_zero] at f1
  obtain ⟨_, d1, r1⟩ := opens_laws_Lint.2 f1
  obtain ⟨a1, n1, k1', e1, s1⟩ := r1
  simp only [List.cons.injEq, and_true] at e1
  subst e1
  have k2 : Tryd.prog.cellsOf 3 = 1 := by kernel_rfl
  have f2 := hf 2 _ rfl
  rw [List.getElem?_eq_getElem (by rw [hx]; decide)] at f2
  simp only [List.getElem_toArray, List.getElem_cons_zero, List.getElem_cons_succ] at f2
  simp only [k2, List.drop_succ_cons, List.drop_zero, List.take_succ_cons, List.take_zero] at f2
  obtain ⟨_, d2, r2⟩ := opens_laws_int.2 f2
  obtain ⟨e2, w2⟩ := r2
  simp only [List.cons.injEq, and_true] at e2
  subst e2
  have k3 : Tryd.prog.cellsOf 41 = 1 := by kernel_rfl
  have f3 := hf 3 _ rfl
  rw [List.getElem?_eq_getElem (by rw [hx]; decide)] at f3
  simp only [List.getElem_toArray, List.getElem_cons_zero, List.getElem_cons_succ] at f3
  simp only [k3, List.drop_succ_cons, List.drop_zero, List.take_succ_cons, List.take_zero] at f3
  obtain ⟨_, d3, r3⟩ := opens_laws_Lint.2 f3
  obtain ⟨a3, n3, k3', e3, s3⟩ := r3
  simp only [List.cons.injEq, and_true] at e3
  subst e3
  exact ⟨rfl, ⟨d0, d1, d2, d3⟩, a1, n1, k1', a3, n3, k3', rfl, w0_0, w0_1, s1, w2, s3⟩















theorem opens_laws_LRt : Opens Tryd.prog 22 (List Rt) := opens_slice Tryd.underlying22 (by kernel_rfl) (by decide) opens_laws_Rt















theorem opens_bytes : Opens Tryd.prog 112 (List U8) := opens_slice Tryd.underlying112 (by kernel_rfl) (by decide) (opens_u8 Tryd.underlying5 (by kernel_rfl))

end Go.Proofs.YtlehcnfmagjilaaDoor
