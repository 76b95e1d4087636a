/- What the form reads of the laws' arguments, reads as plain data. No condition. -/
import Derived.Test.YtgcmbmjpgaadcaaRows
import Derived.Test.YtgcmbmjpgaadcaaData
namespace Go.Proofs.Ytgcmbmjpgaadcaa
open Go Go.RowKit


theorem opens_laws_int : Opens Try.prog 3 Int := opens_int Try.underlying3 (by kernel_rfl)

theorem opens_laws_bool : Opens Try.prog 4 Bool := opens_bool Try.underlying4 (by kernel_rfl)

theorem opens_laws_Rg : Opens Try.prog 43 Rg := by
  refine ⟨by kernel_rfl, fun {H enc w base fuel cs x} h => ?_⟩
  obtain ⟨xs, n, rfl, _, hl, hx, hf⟩ := DataW.trod_struct Try.underlying43 h
  have hl' : cs.length = 2 := hl.trans (by kernel_rfl)
  match cs, hl' with
  | [c0, c1], _ =>
  have k0 : Try.prog.cellsOf 3 = 1 := by kernel_rfl
  have f0 := hf 0 _ rfl
  rw [List.getElem?_eq_getElem (by rw [hx]; decide)] at f0
  simp only [List.getElem_toArray, List.getElem_cons_zero] at f0
  simp only [k0, List.drop_zero, List.take_succ_cons, List.take_zero] at f0
  obtain ⟨_, d0, r0⟩ := opens_laws_int.2 f0
  obtain ⟨e0, w0⟩ := r0
  simp only [List.cons.injEq, and_true] at e0
  subst e0
  have k1 : Try.prog.cellsOf 3 = 1 := by kernel_rfl
  have f1 := hf 1 _ rfl
  rw [List.getElem?_eq_getElem (by rw [hx]; decide)] at f1
  simp only [List.getElem_toArray, List.getElem_cons_zero, List.getElem_cons_succ] at f1
  simp only [k1, List.drop_succ_cons, List.drop_zero, List.take_succ_cons, List.take_zero] at f1
  obtain ⟨_, d1, r1⟩ := opens_laws_int.2 f1
  obtain ⟨e1, w1⟩ := r1
  simp only [List.cons.injEq, and_true] at e1
  subst e1
  exact ⟨rfl, ⟨d0, d1⟩, rfl, w0, w1⟩

theorem opens_laws_Cl : Opens Try.prog 45 Cl := by
  refine ⟨by kernel_rfl, fun {H enc w base fuel cs x} h => ?_⟩
  obtain ⟨xs, n, rfl, _, hl, hx, hf⟩ := DataW.trod_struct Try.underlying45 h
  have hl' : cs.length = 8 := hl.trans (by kernel_rfl)
  match cs, hl' with
  | [c0, c1, c2, c3, c4, c5, c6, c7], _ =>
  have k0 : Try.prog.cellsOf 3 = 1 := by kernel_rfl
  have f0 := hf 0 _ rfl
  rw [List.getElem?_eq_getElem (by rw [hx]; decide)] at f0
  simp only [List.getElem_toArray, List.getElem_cons_zero] at f0
  simp only [k0, List.drop_zero, List.take_succ_cons, List.take_zero] at f0
  obtain ⟨_, d0, r0⟩ := opens_laws_int.2 f0
  obtain ⟨e0, w0⟩ := r0
  simp only [List.cons.injEq, and_true] at e0
  subst e0
  have k1 : Try.prog.cellsOf 3 = 1 := by kernel_rfl
  have f1 := hf 1 _ rfl
  rw [List.getElem?_eq_getElem (by rw [hx]; decide)] at f1
  simp only [List.getElem_toArray, List.getElem_cons_zero, List.getElem_cons_succ] at f1
  simp only [k1, List.drop_succ_cons, List.drop_zero, List.take_succ_cons, List.take_zero] at f1
  obtain ⟨_, d1, r1⟩ := opens_laws_int.2 f1
  obtain ⟨e1, w1⟩ := r1
  simp only [List.cons.injEq, and_true] at e1
  subst e1
  have k2 : Try.prog.cellsOf 43 = 2 := by kernel_rfl
  have f2 := hf 2 _ rfl
  rw [List.getElem?_eq_getElem (by rw [hx]; decide)] at f2
  simp only [List.getElem_toArray, List.getElem_cons_zero, List.getElem_cons_succ] at f2
  simp only [k2, List.drop_succ_cons, List.drop_zero, List.take_succ_cons, List.take_zero] at f2
  obtain ⟨_, d2, r2⟩ := opens_laws_Rg.2 f2
  obtain ⟨e2, w2_0, w2_1⟩ := r2
  simp only [List.cons.injEq, and_true] at e2
  obtain ⟨rfl, rfl⟩ := e2
  have k3 : Try.prog.cellsOf 4 = 1 := by kernel_rfl
  have f3 := hf 3 _ rfl
  rw [List.getElem?_eq_getElem (by rw [hx]; decide)] at f3
  simp only [List.getElem_toArray, List.getElem_cons_zero, List.getElem_cons_succ] at f3
  simp only [k3, List.drop_succ_cons, List.drop_zero, List.take_succ_cons, List.take_zero] at f3
  obtain ⟨_, d3, r3⟩ := opens_laws_bool.2 f3
  have e3 : [c4] = [Value.bool d3] := r3
  simp only [List.cons.injEq, and_true] at e3
  subst e3
  have k4 : Try.prog.cellsOf 3 = 1 := by kernel_rfl
  have f4 := hf 4 _ rfl
  rw [List.getElem?_eq_getElem (by rw [hx]; decide)] at f4
  simp only [List.getElem_toArray, List.getElem_cons_zero, List.getElem_cons_succ] at f4
  simp only [k4, List.drop_succ_cons, List.drop_zero, List.take_succ_cons, List.take_zero] at f4
  obtain ⟨_, d4, r4⟩ := opens_laws_int.2 f4
  obtain ⟨e4, w4⟩ := r4
  simp only [List.cons.injEq, and_true] at e4
  subst e4
  have k5 : Try.prog.cellsOf 3 = 1 := by kernel_rfl
  have f5 := hf 5 _ rfl
  rw [List.getElem?_eq_getElem (by rw [hx]; decide)] at f5
  simp only [List.getElem_toArray, List.getElem_cons_zero, List.getElem_cons_succ] at f5
  simp only [k5, List.drop_succ_cons, List.drop_zero, List.take_succ_cons, List.take_zero] at f5
  obtain ⟨_, d5, r5⟩ := opens_laws_int.2 f5
  obtain ⟨e5, w5⟩ := r5
  simp only [List.cons.injEq, and_true] at e5
  subst e5
  have k6 : Try.prog.cellsOf 3 = 1 := by kernel_rfl
  have f6 := hf 6 _ rfl
  rw [List.getElem?_eq_getElem (by rw [hx]; decide)] at f6
  simp only [List.getElem_toArray, List.getElem_cons_zero, List.getElem_cons_succ] at f6
  simp only [k6, List.drop_succ_cons, List.drop_zero, List.take_succ_cons, List.take_zero] at f6
  obtain ⟨_, d6, r6⟩ := opens_laws_int.2 f6
  obtain ⟨e6, w6⟩ := r6
  simp only [List.cons.injEq, and_true] at e6
  subst e6
  exact ⟨rfl, ⟨d0, d1, d2, d3, d4, d5, d6⟩, rfl, w0, w1, w2_0, w2_1, w4, w5, w6⟩

theorem opens_laws_Lint : Opens Try.prog 65 (List Int) := opens_slice Try.underlying65 (by kernel_rfl) (by decide) opens_laws_int





theorem opens_laws_Rt : Opens Try.prog 67 Rt := by
  refine ⟨by kernel_rfl, fun {H enc w base fuel cs x} h => ?_⟩
  obtain ⟨xs, n, rfl, _, hl, hx, hf⟩ := DataW.trod_struct Try.underlying67 h
  have hl' : cs.length = 5 := hl.trans (by kernel_rfl)
  match cs, hl' with
  | [c0, c1, c2, c3, c4], _ =>
  have k0 : Try.prog.cellsOf 43 = 2 := by kernel_rfl
  have f0 := hf 0 _ rfl
  rw [List.getElem?_eq_getElem (by rw [hx]; decide)] at f0
  simp only [List.getElem_toArray, List.getElem_cons_zero] at f0
  simp only [k0, List.drop_zero, List.take_succ_cons, List.take_zero] at f0
  obtain ⟨_, d0, r0⟩ := opens_laws_Rg.2 f0
  obtain ⟨e0, w0_0, w0_1⟩ := r0
  simp only [List.cons.injEq, and_true] at e0
  obtain ⟨rfl, rfl⟩ := e0
  have k1 : Try.prog.cellsOf 65 = 1 := by kernel_rfl
  have f1 := hf 1 _ rfl
  rw [List.getElem?_eq_getElem (by rw [hx]; decide)] at f1
  simp only [List.getElem_toArray, List.getElem_cons_zero, List.getElem_cons_succ] at f1
  simp only [k1, List.drop_succ_cons, List.drop_zero, List.take_succ_cons, List.take_zero] at f1
  obtain ⟨_, d1, r1⟩ := opens_laws_Lint.2 f1
  obtain ⟨a1, n1, k1', e1, s1⟩ := r1
  simp only [List.cons.injEq, and_true] at e1
  subst e1
  have k2 : Try.prog.cellsOf 3 = 1 := by kernel_rfl
  have f2 := hf 2 _ rfl
  rw [List.getElem?_eq_getElem (by rw [hx]; decide)] at f2
  simp only [List.getElem_toArray, List.getElem_cons_zero, List.getElem_cons_succ] at f2
  simp only [k2, List.drop_succ_cons, List.drop_zero, List.take_succ_cons, List.take_zero] at f2
  obtain ⟨_, d2, r2⟩ := opens_laws_int.2 f2
  obtain ⟨e2, w2⟩ := r2
  simp only [List.cons.injEq, and_true] at e2
  subst e2
  have k3 : Try.prog.cellsOf 65 = 1 := by kernel_rfl
  have f3 := hf 3 _ rfl
  rw [List.getElem?_eq_getElem (by rw [hx]; decide)] at f3
  simp only [List.getElem_toArray, List.getElem_cons_zero, List.getElem_cons_succ] at f3
  simp only [k3, List.drop_succ_cons, List.drop_zero, List.take_succ_cons, List.take_zero] at f3
  obtain ⟨_, d3, r3⟩ := opens_laws_Lint.2 f3
  obtain ⟨a3, n3, k3', e3, s3⟩ := r3
  simp only [List.cons.injEq, and_true] at e3
  subst e3
  exact ⟨rfl, ⟨d0, d1, d2, d3⟩, a1, n1, k1', a3, n3, k3', rfl, w0_0, w0_1, s1, w2, s3⟩













theorem opens_laws_LRg : Opens Try.prog 22 (List Rg) := opens_slice Try.underlying22 (by kernel_rfl) (by decide) opens_laws_Rg

theorem opens_laws_LRt : Opens Try.prog 23 (List Rt) := opens_slice Try.underlying23 (by kernel_rfl) (by decide) opens_laws_Rt

theorem opens_laws_Dl : Opens Try.prog 25 Dl := by
  refine ⟨by kernel_rfl, fun {H enc w base fuel cs x} h => ?_⟩
  obtain ⟨xs, n, rfl, _, hl, hx, hf⟩ := DataW.trod_struct Try.underlying25 h
  have hl' : cs.length = 2 := hl.trans (by kernel_rfl)
  match cs, hl' with
  | [c0, c1], _ =>
  have k0 : Try.prog.cellsOf 22 = 1 := by kernel_rfl
  have f0 := hf 0 _ rfl
  rw [List.getElem?_eq_getElem (by rw [hx]; decide)] at f0
  simp only [List.getElem_toArray, List.getElem_cons_zero] at f0
  simp only [k0, List.drop_zero, List.take_succ_cons, List.take_zero] at f0
  obtain ⟨_, d0, r0⟩ := opens_laws_LRg.2 f0
  obtain ⟨a0, n0, k0', e0, s0⟩ := r0
  simp only [List.cons.injEq, and_true] at e0
  subst e0
  have k1 : Try.prog.cellsOf 23 = 1 := by kernel_rfl
  have f1 := hf 1 _ rfl
  rw [List.getElem?_eq_getElem (by rw [hx]; decide)] at f1
  simp only [List.getElem_toArray, List.getElem_cons_zero, List.getElem_cons_succ] at f1
  simp only [k1, List.drop_succ_cons, List.drop_zero, List.take_succ_cons, List.take_zero] at f1
  obtain ⟨_, d1, r1⟩ := opens_laws_LRt.2 f1
  obtain ⟨a1, n1, k1', e1, s1⟩ := r1
  simp only [List.cons.injEq, and_true] at e1
  subst e1
  exact ⟨rfl, ⟨d0, d1⟩, a0, n0, k0', a1, n1, k1', rfl, s0, s1⟩









theorem opens_laws_LCl : Opens Try.prog 35 (List Cl) := opens_slice Try.underlying35 (by kernel_rfl) (by decide) opens_laws_Cl



end Go.Proofs.Ytgcmbmjpgaadcaa
