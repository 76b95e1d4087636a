/- What the form reads of the laws' arguments, reads as plain data. No condition. -/
import Derived.Test.YtbjignakkkgpgaaRows
import Derived.Test.YtbjignakkkgpgaaData
namespace Go.Proofs.Ytbjignakkkgpgaa
open Go Go.RowKit


theorem opens_laws_int : Opens Try.prog 3 Int := opens_int Try.underlying3 (by kernel_rfl)

theorem opens_laws_bool : Opens Try.prog 4 Bool := opens_bool Try.underlying4 (by kernel_rfl)

set_option maxRecDepth 8000 in
theorem opens_laws_Rg : Opens Try.prog 23 Rg := by
  refine ⟨by kernel_rfl, fun {H enc w base fuel cs x} h => ?_⟩
  obtain ⟨xs, n, rfl, _, hl, hx, hf⟩ := DataW.trod_struct Try.underlying23 h
  have hl' : cs.length = 2 := hl.trans (by kernel_rfl)
  match cs, hl' with
  | [c0, c1], _ =>
  have k0 : Try.prog.cellsOf 3 = 1 := by kernel_rfl
  have f0 := hf 0 _ rfl
  rw [List.getElem?_eq_getElem (by rw [hx]; decide)] at f0
  simp only [List.getElem_toArray, List.getElem_cons_zero] at f0
  simp only [k0, List.drop_zero, List.take_succ_cons, List.take_zero] at f0
  obtain ⟨_, d0, r0⟩ := opens_laws_int.2 f0
  obtain ⟨e0, w0⟩ := r0
  simp only [List.cons.injEq, and_true] at e0
  subst e0
  have k1 : Try.prog.cellsOf 3 = 1 := by kernel_rfl
  have f1 := hf 1 _ rfl
  rw [List.getElem?_eq_getElem (by rw [hx]; decide)] at f1
  simp only [List.getElem_toArray, List.getElem_cons_zero, List.getElem_cons_succ] at f1
  simp only [k1, List.drop_succ_cons, List.drop_zero, List.take_succ_cons, List.take_zero] at f1
  obtain ⟨_, d1, r1⟩ := opens_laws_int.2 f1
  obtain ⟨e1, w1⟩ := r1
  simp only [List.cons.injEq, and_true] at e1
  subst e1
  exact ⟨rfl, ⟨d0, d1⟩, rfl, w0, w1⟩









































end Go.Proofs.Ytbjignakkkgpgaa
