/- What the form reads of the laws' arguments, reads as plain data. No condition. -/
import Derived.Test.YtofblgnoogbmhaaRows
import Derived.Test.YtofblgnoogbmhaaData
namespace Go.Proofs.Ytofblgnoogbmhaa
open Go Go.RowKit

theorem opens_laws_int : Opens Try.prog 3 Int := opens_int Try.underlying3 (by kernel_rfl)
theorem opens_laws_bool : Opens Try.prog 4 Bool := opens_bool Try.underlying4 (by kernel_rfl)
theorem opens_laws_Rg : Opens Try.prog 24 Rg := by
  refine ⟨by kernel_rfl, fun {H enc w base fuel cs x} h => ?_⟩
  obtain ⟨xs, n, rfl, _, hl, hx, hf⟩ := DataW.trod_struct Try.underlying24 h
  have hl' : cs.length = 2 := hl.trans (by kernel_rfl)
  match cs, hl' with
  | [c0, c1], _ =>
  have k0 : Try.prog.cellsOf 3 = 1 := by kernel_rfl
  have f0 := hf 0 _ rfl
  rw [List.getElem?_eq_getElem (by rw [hx]; decide)] at f0
  simp only [List.getElem_toArray, List.getElem_cons_zero] at f0
  simp only [k0, List.drop_zero, List.take_succ_cons, List.take_zero] at f0
  obtain ⟨_, d0, r0⟩ := opens_laws_int.2 f0
  obtain ⟨e0, w0⟩ := r0
  simp only [List.cons.injEq, and_true] at e0
  subst e0
  have k1 : Try.prog.cellsOf 3 = 1 := by kernel_rfl
  have f1 := hf 1 _ rfl
  rw [List.getElem?_eq_getElem (by rw [hx]; decide)] at f1
  simp only [List.getElem_toArray, List.getElem_cons_zero, List.getElem_cons_succ] at f1
  simp only [k1, List.drop_succ_cons, List.drop_zero, List.take_succ_cons, List.take_zero] at f1
  obtain ⟨_, d1, r1⟩ := opens_laws_int.2 f1
  obtain ⟨e1, w1⟩ := r1
  simp only [List.cons.injEq, and_true] at e1
  subst e1
  exact ⟨rfl, ⟨d0, d1⟩, rfl, w0, w1⟩
theorem opens_laws_Lint : Opens Try.prog 73 (List Int) := opens_slice Try.underlying73 (by kernel_rfl) (by decide) opens_laws_int
theorem opens_laws_Hd : Opens Try.prog 67 Hd := by
  refine ⟨by kernel_rfl, fun {H enc w base fuel cs x} h => ?_⟩
  obtain ⟨xs, n, rfl, _, hl, hx, hf⟩ := DataW.trod_struct Try.underlying67 h
  have hl' : cs.length = 3 := hl.trans (by kernel_rfl)
  match cs, hl' with
  | [c0, c1, c2], _ =>
  have k0 : Try.prog.cellsOf 3 = 1 := by kernel_rfl
  have f0 := hf 0 _ rfl
  rw [List.getElem?_eq_getElem (by rw [hx]; decide)] at f0
  simp only [List.getElem_toArray, List.getElem_cons_zero] at f0
  simp only [k0, List.drop_zero, List.take_succ_cons, List.take_zero] at f0
  obtain ⟨_, d0, r0⟩ := opens_laws_int.2 f0
  obtain ⟨e0, w0⟩ := r0
  simp only [List.cons.injEq, and_true] at e0
  subst e0
  have k1 : Try.prog.cellsOf 24 = 2 := by kernel_rfl
  have f1 := hf 1 _ rfl
  rw [List.getElem?_eq_getElem (by rw [hx]; decide)] at f1
  simp only [List.getElem_toArray, List.getElem_cons_zero, List.getElem_cons_succ] at f1
  simp only [k1, List.drop_succ_cons, List.drop_zero, List.take_succ_cons, List.take_zero] at f1
  obtain ⟨_, d1, r1⟩ := opens_laws_Rg.2 f1
  obtain ⟨e1, w1_0, w1_1⟩ := r1
  simp only [List.cons.injEq, and_true] at e1
  obtain ⟨rfl, rfl⟩ := e1
  exact ⟨rfl, ⟨d0, d1⟩, rfl, w0, w1_0, w1_1⟩
theorem opens_laws_LHd : Opens Try.prog 44 (List Hd) := opens_slice Try.underlying44 (by kernel_rfl) (by decide) opens_laws_Hd
theorem opens_bytes : Opens Try.prog 34 (List U8) := opens_slice Try.underlying34 (by kernel_rfl) (by decide) (opens_u8 Try.underlying5 (by kernel_rfl))

end Go.Proofs.Ytofblgnoogbmhaa
