/- Clauses: which are valid. No condition. -/
import Derived.Test.YtfhagokhekodnaaDoorCopy
import Derived.Test.YtfhagokhekodnaaDoorHouse
import Derived.Laws.StructEq
namespace Go.Proofs.YtfhagokhekodnaaDoor
open Go Go.RowKit

/-- What a kind of clause asks of its number and its range. -/
def subj (cif n f b : Int) : Bool :=
  if cif = 1 then decide (n = 0 ∧ f = 0 ∧ b = 0) else if cif = 2 then decide (n = 0) && rok f b
  else if cif = 3 then inB n 1 9 && decide (f = 0 ∧ b = 0) else if cif = 4 ∨ cif = 5 then inB n 1 5 && decide (f = 0 ∧ b = 0) else false
def cok (c : Cl) : Bool := subj c.cif c.n c.r.f c.r.b && (inB c.like (-1) 9 && (inB c.mark 0 9 && inB c.clear 0 9))

/-- The test of a clause, by its kind. -/
def testV (cif n f b : Int) : Value :=
  if cif = 1 then .iface 123 (.agg #[]) else if cif = 2 then .iface 124 (.agg #[.int .i64 f, .int .i64 b]) else if cif = 3 then .iface 125 (.int .i64 n)
  else if cif = 4 then .iface 126 (.int .i64 n) else if cif = 5 then .iface 127 (.int .i64 n) else .nilIface
set_option maxHeartbeats 400000 in
theorem testOf_any (cif n f b like mark clear : Int) (refuse : Bool) (w : World) :
    Calls Tryd.prog 64 #[.agg #[.int .i64 cif, .int .i64 n, .int .i64 f, .int .i64 b, .bool refuse, .int .i64 like, .int .i64 mark, .int .i64 clear]] w fun e w' => e = .returned (testV cif n f b) ∧ Ext w w' := by
  go_enter Tryd.func64, Tryd.ntmps64
  go_wp2
  all_goals
    go_ret
    exact ⟨by simp_all [testV], (by repeat (first | with_reducible exact Ext.refl _ | with_reducible apply Ext.and | with_reducible apply Ext.drewx | with_reducible apply Ext.alloc | with_reducible apply Ext.ext | with_reducible apply Ext.drew | with_reducible refine Ext.setCell ?_ (by simp) _))⟩

theorem ta_0_0 (v : Value) (w : World) : (Instr.typeAssert (.iface 123 v) 91 123 true).run Tryd.prog w = .ok (.tuple #[v, .bool true]) w := by kernel_rfl
theorem ta_1_0 (v : Value) (w : World) : (Instr.typeAssert (.iface 124 v) 91 123 true).run Tryd.prog w = .ok (.tuple #[.agg #[], .bool false]) w := by kernel_rfl
theorem ta_1_1 (v : Value) (w : World) : (Instr.typeAssert (.iface 124 v) 91 124 true).run Tryd.prog w = .ok (.tuple #[v, .bool true]) w := by kernel_rfl
theorem ta_2_0 (v : Value) (w : World) : (Instr.typeAssert (.iface 125 v) 91 123 true).run Tryd.prog w = .ok (.tuple #[.agg #[], .bool false]) w := by kernel_rfl
theorem ta_2_1 (v : Value) (w : World) : (Instr.typeAssert (.iface 125 v) 91 124 true).run Tryd.prog w = .ok (.tuple #[.agg #[.int .i64 0, .int .i64 0], .bool false]) w := by kernel_rfl
theorem ta_2_2 (v : Value) (w : World) : (Instr.typeAssert (.iface 125 v) 91 125 true).run Tryd.prog w = .ok (.tuple #[v, .bool true]) w := by kernel_rfl
theorem ta_3_0 (v : Value) (w : World) : (Instr.typeAssert (.iface 126 v) 91 123 true).run Tryd.prog w = .ok (.tuple #[.agg #[], .bool false]) w := by kernel_rfl
theorem ta_3_1 (v : Value) (w : World) : (Instr.typeAssert (.iface 126 v) 91 124 true).run Tryd.prog w = .ok (.tuple #[.agg #[.int .i64 0, .int .i64 0], .bool false]) w := by kernel_rfl
theorem ta_3_2 (v : Value) (w : World) : (Instr.typeAssert (.iface 126 v) 91 125 true).run Tryd.prog w = .ok (.tuple #[.int .i64 0, .bool false]) w := by kernel_rfl
theorem ta_3_3 (v : Value) (w : World) : (Instr.typeAssert (.iface 126 v) 91 126 true).run Tryd.prog w = .ok (.tuple #[v, .bool true]) w := by kernel_rfl
theorem ta_4_0 (v : Value) (w : World) : (Instr.typeAssert (.iface 127 v) 91 123 true).run Tryd.prog w = .ok (.tuple #[.agg #[], .bool false]) w := by kernel_rfl
theorem ta_4_1 (v : Value) (w : World) : (Instr.typeAssert (.iface 127 v) 91 124 true).run Tryd.prog w = .ok (.tuple #[.agg #[.int .i64 0, .int .i64 0], .bool false]) w := by kernel_rfl
theorem ta_4_2 (v : Value) (w : World) : (Instr.typeAssert (.iface 127 v) 91 125 true).run Tryd.prog w = .ok (.tuple #[.int .i64 0, .bool false]) w := by kernel_rfl
theorem ta_4_3 (v : Value) (w : World) : (Instr.typeAssert (.iface 127 v) 91 126 true).run Tryd.prog w = .ok (.tuple #[.int .i64 0, .bool false]) w := by kernel_rfl
theorem ta_4_4 (v : Value) (w : World) : (Instr.typeAssert (.iface 127 v) 91 127 true).run Tryd.prog w = .ok (.tuple #[v, .bool true]) w := by kernel_rfl

set_option maxHeartbeats 1000000 in
theorem subjectOk_any (cif n f b like mark clear : Int) (refuse : Bool) (w : World) :
    Calls Tryd.prog 95 #[.agg #[.int .i64 cif, .int .i64 n, .int .i64 f, .int .i64 b, .bool refuse, .int .i64 like, .int .i64 mark, .int .i64 clear]] w fun e w' => e = .returned (.bool (subj cif n f b)) ∧ Ext w w' := by
  by_cases h1 : cif = 1
  · subst h1
    have e : testV 1 n f b = .iface 123 (.agg #[]) := by simp [testV]
    have t0 := ta_0_0
    go_enter Tryd.func95, Tryd.ntmps95
    go_wp2_with (first | (first | (go_at_call 64; (with_reducible refine (testOf_any _ _ _ _ _ _ _ _ _).mono ?_); rintro _ _ ⟨rfl, x, rfl⟩) | (go_at_call 89; (with_reducible refine (iRangeOk_any _ _ _).mono ?_); rintro _ _ ⟨rfl, x, rfl⟩) | (go_at_call 56; (with_reducible refine (isMark_any _ _).mono ?_); rintro _ _ ⟨rfl, x, rfl⟩) | (go_at_call 47; (with_reducible refine (isHouse_any _ _).mono ?_); rintro _ _ ⟨rfl, x, rfl⟩)) | ((first | with_reducible refine wp_region_qe (by kernel_rfl) (by kernel_rfl) ?_ | with_reducible refine wp_region_q (by kernel_rfl) (by kernel_rfl) ?_); (repeat (go_big_quiet_step ((first | (go_at_call 64; first | with_reducible exact Calls.qb (by assumption) (testOf_any _ _ _ _ _ _ _ _ _) | with_reducible exact Calls.q (testOf_any _ _ _ _ _ _ _ _ _)) | (go_at_call 89; first | with_reducible exact Calls.qb (by assumption) (iRangeOk_any _ _ _) | with_reducible exact Calls.q (iRangeOk_any _ _ _)) | (go_at_call 56; first | with_reducible exact Calls.qb (by assumption) (isMark_any _ _) | with_reducible exact Calls.q (isMark_any _ _)) | (go_at_call 47; first | with_reducible exact Calls.qb (by assumption) (isHouse_any _ _) | with_reducible exact Calls.q (isHouse_any _ _)))))); refine wpQuiet_nil ?_; intro x))
    all_goals
      go_ret
      exact ⟨ret_bool (by simp [subj, *]), (by repeat (first | with_reducible exact Ext.refl _ | with_reducible apply Ext.and | with_reducible apply Ext.drewx | with_reducible apply Ext.alloc | with_reducible apply Ext.ext | with_reducible apply Ext.drew | with_reducible refine Ext.setCell ?_ (by simp) _))⟩
  by_cases h2 : cif = 2
  · subst h2
    have e : testV 2 n f b = .iface 124 (.agg #[.int .i64 f, .int .i64 b]) := by simp [testV]
    have t0 := ta_1_0
    have t1 := ta_1_1
    cases hr : rok f b
    all_goals
      go_enter Tryd.func95, Tryd.ntmps95
      go_wp2_with (first | (first | (go_at_call 64; (with_reducible refine (testOf_any _ _ _ _ _ _ _ _ _).mono ?_); rintro _ _ ⟨rfl, x, rfl⟩) | (go_at_call 89; (with_reducible refine (iRangeOk_any _ _ _).mono ?_); rintro _ _ ⟨rfl, x, rfl⟩) | (go_at_call 56; (with_reducible refine (isMark_any _ _).mono ?_); rintro _ _ ⟨rfl, x, rfl⟩) | (go_at_call 47; (with_reducible refine (isHouse_any _ _).mono ?_); rintro _ _ ⟨rfl, x, rfl⟩)) | ((first | with_reducible refine wp_region_qe (by kernel_rfl) (by kernel_rfl) ?_ | with_reducible refine wp_region_q (by kernel_rfl) (by kernel_rfl) ?_); (repeat (go_big_quiet_step ((first | (go_at_call 64; first | with_reducible exact Calls.qb (by assumption) (testOf_any _ _ _ _ _ _ _ _ _) | with_reducible exact Calls.q (testOf_any _ _ _ _ _ _ _ _ _)) | (go_at_call 89; first | with_reducible exact Calls.qb (by assumption) (iRangeOk_any _ _ _) | with_reducible exact Calls.q (iRangeOk_any _ _ _)) | (go_at_call 56; first | with_reducible exact Calls.qb (by assumption) (isMark_any _ _) | with_reducible exact Calls.q (isMark_any _ _)) | (go_at_call 47; first | with_reducible exact Calls.qb (by assumption) (isHouse_any _ _) | with_reducible exact Calls.q (isHouse_any _ _)))))); refine wpQuiet_nil ?_; intro x))
      all_goals
        go_ret
        exact ⟨ret_bool (by simp [subj, *]), (by repeat (first | with_reducible exact Ext.refl _ | with_reducible apply Ext.and | with_reducible apply Ext.drewx | with_reducible apply Ext.alloc | with_reducible apply Ext.ext | with_reducible apply Ext.drew | with_reducible refine Ext.setCell ?_ (by simp) _))⟩
  by_cases h3 : cif = 3
  · subst h3
    have e : testV 3 n f b = .iface 125 (.int .i64 n) := by simp [testV]
    have t0 := ta_2_0
    have t1 := ta_2_1
    have t2 := ta_2_2
    cases hr : inB n 1 9
    all_goals
      go_enter Tryd.func95, Tryd.ntmps95
      go_wp2_with (first | (first | (go_at_call 64; (with_reducible refine (testOf_any _ _ _ _ _ _ _ _ _).mono ?_); rintro _ _ ⟨rfl, x, rfl⟩) | (go_at_call 89; (with_reducible refine (iRangeOk_any _ _ _).mono ?_); rintro _ _ ⟨rfl, x, rfl⟩) | (go_at_call 56; (with_reducible refine (isMark_any _ _).mono ?_); rintro _ _ ⟨rfl, x, rfl⟩) | (go_at_call 47; (with_reducible refine (isHouse_any _ _).mono ?_); rintro _ _ ⟨rfl, x, rfl⟩)) | ((first | with_reducible refine wp_region_qe (by kernel_rfl) (by kernel_rfl) ?_ | with_reducible refine wp_region_q (by kernel_rfl) (by kernel_rfl) ?_); (repeat (go_big_quiet_step ((first | (go_at_call 64; first | with_reducible exact Calls.qb (by assumption) (testOf_any _ _ _ _ _ _ _ _ _) | with_reducible exact Calls.q (testOf_any _ _ _ _ _ _ _ _ _)) | (go_at_call 89; first | with_reducible exact Calls.qb (by assumption) (iRangeOk_any _ _ _) | with_reducible exact Calls.q (iRangeOk_any _ _ _)) | (go_at_call 56; first | with_reducible exact Calls.qb (by assumption) (isMark_any _ _) | with_reducible exact Calls.q (isMark_any _ _)) | (go_at_call 47; first | with_reducible exact Calls.qb (by assumption) (isHouse_any _ _) | with_reducible exact Calls.q (isHouse_any _ _)))))); refine wpQuiet_nil ?_; intro x))
      all_goals
        go_ret
        exact ⟨ret_bool (by simp [subj, *]), (by repeat (first | with_reducible exact Ext.refl _ | with_reducible apply Ext.and | with_reducible apply Ext.drewx | with_reducible apply Ext.alloc | with_reducible apply Ext.ext | with_reducible apply Ext.drew | with_reducible refine Ext.setCell ?_ (by simp) _))⟩
  by_cases h4 : cif = 4
  · subst h4
    have e : testV 4 n f b = .iface 126 (.int .i64 n) := by simp [testV]
    have t0 := ta_3_0
    have t1 := ta_3_1
    have t2 := ta_3_2
    have t3 := ta_3_3
    cases hr : inB n 1 5
    all_goals
      go_enter Tryd.func95, Tryd.ntmps95
      go_wp2_with (first | (first | (go_at_call 64; (with_reducible refine (testOf_any _ _ _ _ _ _ _ _ _).mono ?_); rintro _ _ ⟨rfl, x, rfl⟩) | (go_at_call 89; (with_reducible refine (iRangeOk_any _ _ _).mono ?_); rintro _ _ ⟨rfl, x, rfl⟩) | (go_at_call 56; (with_reducible refine (isMark_any _ _).mono ?_); rintro _ _ ⟨rfl, x, rfl⟩) | (go_at_call 47; (with_reducible refine (isHouse_any _ _).mono ?_); rintro _ _ ⟨rfl, x, rfl⟩)) | ((first | with_reducible refine wp_region_qe (by kernel_rfl) (by kernel_rfl) ?_ | with_reducible refine wp_region_q (by kernel_rfl) (by kernel_rfl) ?_); (repeat (go_big_quiet_step ((first | (go_at_call 64; first | with_reducible exact Calls.qb (by assumption) (testOf_any _ _ _ _ _ _ _ _ _) | with_reducible exact Calls.q (testOf_any _ _ _ _ _ _ _ _ _)) | (go_at_call 89; first | with_reducible exact Calls.qb (by assumption) (iRangeOk_any _ _ _) | with_reducible exact Calls.q (iRangeOk_any _ _ _)) | (go_at_call 56; first | with_reducible exact Calls.qb (by assumption) (isMark_any _ _) | with_reducible exact Calls.q (isMark_any _ _)) | (go_at_call 47; first | with_reducible exact Calls.qb (by assumption) (isHouse_any _ _) | with_reducible exact Calls.q (isHouse_any _ _)))))); refine wpQuiet_nil ?_; intro x))
      all_goals
        go_ret
        exact ⟨ret_bool (by simp [subj, *]), (by repeat (first | with_reducible exact Ext.refl _ | with_reducible apply Ext.and | with_reducible apply Ext.drewx | with_reducible apply Ext.alloc | with_reducible apply Ext.ext | with_reducible apply Ext.drew | with_reducible refine Ext.setCell ?_ (by simp) _))⟩
  by_cases h5 : cif = 5
  · subst h5
    have e : testV 5 n f b = .iface 127 (.int .i64 n) := by simp [testV]
    have t0 := ta_4_0
    have t1 := ta_4_1
    have t2 := ta_4_2
    have t3 := ta_4_3
    have t4 := ta_4_4
    cases hr : inB n 1 5
    all_goals
      go_enter Tryd.func95, Tryd.ntmps95
      go_wp2_with (first | (first | (go_at_call 64; (with_reducible refine (testOf_any _ _ _ _ _ _ _ _ _).mono ?_); rintro _ _ ⟨rfl, x, rfl⟩) | (go_at_call 89; (with_reducible refine (iRangeOk_any _ _ _).mono ?_); rintro _ _ ⟨rfl, x, rfl⟩) | (go_at_call 56; (with_reducible refine (isMark_any _ _).mono ?_); rintro _ _ ⟨rfl, x, rfl⟩) | (go_at_call 47; (with_reducible refine (isHouse_any _ _).mono ?_); rintro _ _ ⟨rfl, x, rfl⟩)) | ((first | with_reducible refine wp_region_qe (by kernel_rfl) (by kernel_rfl) ?_ | with_reducible refine wp_region_q (by kernel_rfl) (by kernel_rfl) ?_); (repeat (go_big_quiet_step ((first | (go_at_call 64; first | with_reducible exact Calls.qb (by assumption) (testOf_any _ _ _ _ _ _ _ _ _) | with_reducible exact Calls.q (testOf_any _ _ _ _ _ _ _ _ _)) | (go_at_call 89; first | with_reducible exact Calls.qb (by assumption) (iRangeOk_any _ _ _) | with_reducible exact Calls.q (iRangeOk_any _ _ _)) | (go_at_call 56; first | with_reducible exact Calls.qb (by assumption) (isMark_any _ _) | with_reducible exact Calls.q (isMark_any _ _)) | (go_at_call 47; first | with_reducible exact Calls.qb (by assumption) (isHouse_any _ _) | with_reducible exact Calls.q (isHouse_any _ _)))))); refine wpQuiet_nil ?_; intro x))
      all_goals
        go_ret
        exact ⟨ret_bool (by simp [subj, *]), (by repeat (first | with_reducible exact Ext.refl _ | with_reducible apply Ext.and | with_reducible apply Ext.drewx | with_reducible apply Ext.alloc | with_reducible apply Ext.ext | with_reducible apply Ext.drew | with_reducible refine Ext.setCell ?_ (by simp) _))⟩
  have e : testV cif n f b = .nilIface := by simp [testV, *]
  go_enter Tryd.func95, Tryd.ntmps95
  go_wp2_with (first | (first | (go_at_call 64; (with_reducible refine (testOf_any _ _ _ _ _ _ _ _ _).mono ?_); rintro _ _ ⟨rfl, x, rfl⟩)) | ((first | with_reducible refine wp_region_qe (by kernel_rfl) (by kernel_rfl) ?_ | with_reducible refine wp_region_q (by kernel_rfl) (by kernel_rfl) ?_); (repeat (go_big_quiet_step ((first | (go_at_call 64; first | with_reducible exact Calls.qb (by assumption) (testOf_any _ _ _ _ _ _ _ _ _) | with_reducible exact Calls.q (testOf_any _ _ _ _ _ _ _ _ _)))))); refine wpQuiet_nil ?_; intro x))
  all_goals
    go_ret
    exact ⟨ret_bool (by simp [subj, *]), (by repeat (first | with_reducible exact Ext.refl _ | with_reducible apply Ext.and | with_reducible apply Ext.drewx | with_reducible apply Ext.alloc | with_reducible apply Ext.ext | with_reducible apply Ext.drew | with_reducible refine Ext.setCell ?_ (by simp) _))⟩

theorem zero_or {n : Int} : (decide (n = 0) || inB n 1 9) = inB n 0 9 := by
  rw [Bool.eq_iff_iff]
  simp [inB]
  omega
theorem cok_eq (cif n f b like mark clear : Int) (refuse : Bool) : cok ⟨cif, n, ⟨f, b⟩, refuse, like, mark, clear⟩ =
    (subj cif n f b && (decide (-1 ≤ like) && (decide (like ≤ 9) && ((decide (mark = 0) || inB mark 1 9) && (decide (clear = 0) || inB clear 1 9))))) := by
  rw [zero_or, zero_or]
  simp only [cok]
  have : inB like (-1) 9 = (decide (-1 ≤ like) && decide (like ≤ 9)) := by simp [inB]
  rw [this, Bool.and_assoc]
set_option maxHeartbeats 2000000 in
theorem iClauseOk_all (cif n f b like mark clear : Int) (refuse : Bool) (w : World) :
    Calls Tryd.prog 63 #[.agg #[.int .i64 cif, .int .i64 n, .int .i64 f, .int .i64 b, .bool refuse, .int .i64 like, .int .i64 mark, .int .i64 clear]] w fun e w' => e = .returned (.bool (cok ⟨cif, n, ⟨f, b⟩, refuse, like, mark, clear⟩)) ∧ Ext w w' := by
  rw [cok_eq]
  cases hs : subj cif n f b
  · go_enter Tryd.func63, Tryd.ntmps63
    go_wp2_with (first | (first | (go_at_call 95; (with_reducible refine (subjectOk_any _ _ _ _ _ _ _ _ _).mono ?_); rintro _ _ ⟨rfl, x, rfl⟩)) | ((first | with_reducible refine wp_region_qe (by kernel_rfl) (by kernel_rfl) ?_ | with_reducible refine wp_region_q (by kernel_rfl) (by kernel_rfl) ?_); (repeat (go_big_quiet_step ((first | (go_at_call 95; first | with_reducible exact Calls.qb (by assumption) (subjectOk_any _ _ _ _ _ _ _ _ _) | with_reducible exact Calls.q (subjectOk_any _ _ _ _ _ _ _ _ _)))))); refine wpQuiet_nil ?_; intro x))
    go_ret
    exact ⟨ret_bool (by simp), (by repeat (first | with_reducible exact Ext.refl _ | with_reducible apply Ext.and | with_reducible apply Ext.drewx | with_reducible apply Ext.alloc | with_reducible apply Ext.ext | with_reducible apply Ext.drew | with_reducible refine Ext.setCell ?_ (by simp) _))⟩
  · by_cases h1 : -1 ≤ like ∧ like ≤ 9
    · obtain ⟨h1, h2⟩ := h1
      have d1 : decide (-1 ≤ like) = true := by simpa using h1
      have d2 : decide (like ≤ 9) = true := by simpa using h2
      cases h3 : inB mark 1 9 <;> cases h4 : inB clear 1 9 <;> by_cases h5 : mark = 0 <;> by_cases h6 : clear = 0
      all_goals
        go_enter Tryd.func63, Tryd.ntmps63
        go_wp2_with (first | (first | (go_at_call 95; (with_reducible refine (subjectOk_any _ _ _ _ _ _ _ _ _).mono ?_); rintro _ _ ⟨rfl, x, rfl⟩) | (go_at_call 56; (with_reducible refine (isMark_any _ _).mono ?_); rintro _ _ ⟨rfl, x, rfl⟩)) | ((first | with_reducible refine wp_region_qe (by kernel_rfl) (by kernel_rfl) ?_ | with_reducible refine wp_region_q (by kernel_rfl) (by kernel_rfl) ?_); (repeat (go_big_quiet_step ((first | (go_at_call 95; first | with_reducible exact Calls.qb (by assumption) (subjectOk_any _ _ _ _ _ _ _ _ _) | with_reducible exact Calls.q (subjectOk_any _ _ _ _ _ _ _ _ _)) | (go_at_call 56; first | with_reducible exact Calls.qb (by assumption) (isMark_any _ _) | with_reducible exact Calls.q (isMark_any _ _)))))); refine wpQuiet_nil ?_; intro x))
        go_ret
        exact ⟨ret_bool (by simp [*]), (by repeat (first | with_reducible exact Ext.refl _ | with_reducible apply Ext.and | with_reducible apply Ext.drewx | with_reducible apply Ext.alloc | with_reducible apply Ext.ext | with_reducible apply Ext.drew | with_reducible refine Ext.setCell ?_ (by simp) _))⟩
    · have d0 : (decide (-1 ≤ like) && decide (like ≤ 9)) = false := by simp; omega
      by_cases h2 : -1 ≤ like
      · have h3 : ¬ like ≤ 9 := by omega
        have d2 := ge_false h3
        go_enter Tryd.func63, Tryd.ntmps63
        go_wp2_with (first | (first | (go_at_call 95; (with_reducible refine (subjectOk_any _ _ _ _ _ _ _ _ _).mono ?_); rintro _ _ ⟨rfl, x, rfl⟩)) | ((first | with_reducible refine wp_region_qe (by kernel_rfl) (by kernel_rfl) ?_ | with_reducible refine wp_region_q (by kernel_rfl) (by kernel_rfl) ?_); (repeat (go_big_quiet_step ((first | (go_at_call 95; first | with_reducible exact Calls.qb (by assumption) (subjectOk_any _ _ _ _ _ _ _ _ _) | with_reducible exact Calls.q (subjectOk_any _ _ _ _ _ _ _ _ _)))))); refine wpQuiet_nil ?_; intro x))
        go_ret
        exact ⟨ret_bool (by simp [d2]), (by repeat (first | with_reducible exact Ext.refl _ | with_reducible apply Ext.and | with_reducible apply Ext.drewx | with_reducible apply Ext.alloc | with_reducible apply Ext.ext | with_reducible apply Ext.drew | with_reducible refine Ext.setCell ?_ (by simp) _))⟩
      · have d2 := ge_false h2
        go_enter Tryd.func63, Tryd.ntmps63
        go_wp2_with (first | (first | (go_at_call 95; (with_reducible refine (subjectOk_any _ _ _ _ _ _ _ _ _).mono ?_); rintro _ _ ⟨rfl, x, rfl⟩)) | ((first | with_reducible refine wp_region_qe (by kernel_rfl) (by kernel_rfl) ?_ | with_reducible refine wp_region_q (by kernel_rfl) (by kernel_rfl) ?_); (repeat (go_big_quiet_step ((first | (go_at_call 95; first | with_reducible exact Calls.qb (by assumption) (subjectOk_any _ _ _ _ _ _ _ _ _) | with_reducible exact Calls.q (subjectOk_any _ _ _ _ _ _ _ _ _)))))); refine wpQuiet_nil ?_; intro x))
        go_ret
        exact ⟨ret_bool (by simp [d2]), (by repeat (first | with_reducible exact Ext.refl _ | with_reducible apply Ext.and | with_reducible apply Ext.drewx | with_reducible apply Ext.alloc | with_reducible apply Ext.ext | with_reducible apply Ext.drew | with_reducible refine Ext.setCell ?_ (by simp) _))⟩
theorem iClauseOk_any (c : Cl) (w : World) :
    Calls Tryd.prog 63 #[.agg #[.int .i64 c.cif, .int .i64 c.n, .int .i64 c.r.f, .int .i64 c.r.b, .bool c.refuse, .int .i64 c.like, .int .i64 c.mark, .int .i64 c.clear]] w fun e w' => e = .returned (.bool (cok c)) ∧ Ext w w' :=
  iClauseOk_all _ _ _ _ _ _ _ _ w

set_option maxHeartbeats 2000000 in
theorem sClauseOk_all (cif n f b like mark clear : Int) (refuse : Bool) (w : World) :
    Calls Tryd.prog 61 #[.agg #[.int .i64 cif, .int .i64 n, .int .i64 f, .int .i64 b, .bool refuse, .int .i64 like, .int .i64 mark, .int .i64 clear]] w fun e w' => e = .returned (.bool (cok ⟨cif, n, ⟨f, b⟩, refuse, like, mark, clear⟩)) ∧ Ext w w' := by
  cases h1 : inB like (-1) 9
  · go_enter Tryd.func61, Tryd.ntmps61
    go_wp2_with (first | (first | (go_at_call 52; (with_reducible refine (l6In_any _ _ _ _).mono ?_); rintro _ _ ⟨rfl, x, rfl⟩)) | ((first | with_reducible refine wp_region_qe (by kernel_rfl) (by kernel_rfl) ?_ | with_reducible refine wp_region_q (by kernel_rfl) (by kernel_rfl) ?_); (repeat (go_big_quiet_step ((first | (go_at_call 52; first | with_reducible exact Calls.qb (by assumption) (l6In_any _ _ _ _) | with_reducible exact Calls.q (l6In_any _ _ _ _)))))); refine wpQuiet_nil ?_; intro x))
    go_ret
    exact ⟨ret_bool (by simp [cok, h1]), (by repeat (first | with_reducible exact Ext.refl _ | with_reducible apply Ext.and | with_reducible apply Ext.drewx | with_reducible apply Ext.alloc | with_reducible apply Ext.ext | with_reducible apply Ext.drew | with_reducible refine Ext.setCell ?_ (by simp) _))⟩
  cases h2 : inB mark 0 9
  · go_enter Tryd.func61, Tryd.ntmps61
    go_wp2_with (first | (first | (go_at_call 52; (with_reducible refine (l6In_any _ _ _ _).mono ?_); rintro _ _ ⟨rfl, x, rfl⟩)) | ((first | with_reducible refine wp_region_qe (by kernel_rfl) (by kernel_rfl) ?_ | with_reducible refine wp_region_q (by kernel_rfl) (by kernel_rfl) ?_); (repeat (go_big_quiet_step ((first | (go_at_call 52; first | with_reducible exact Calls.qb (by assumption) (l6In_any _ _ _ _) | with_reducible exact Calls.q (l6In_any _ _ _ _)))))); refine wpQuiet_nil ?_; intro x))
    go_ret
    exact ⟨ret_bool (by simp [cok, h2]), (by repeat (first | with_reducible exact Ext.refl _ | with_reducible apply Ext.and | with_reducible apply Ext.drewx | with_reducible apply Ext.alloc | with_reducible apply Ext.ext | with_reducible apply Ext.drew | with_reducible refine Ext.setCell ?_ (by simp) _))⟩
  cases h3 : inB clear 0 9
  · go_enter Tryd.func61, Tryd.ntmps61
    go_wp2_with (first | (first | (go_at_call 52; (with_reducible refine (l6In_any _ _ _ _).mono ?_); rintro _ _ ⟨rfl, x, rfl⟩)) | ((first | with_reducible refine wp_region_qe (by kernel_rfl) (by kernel_rfl) ?_ | with_reducible refine wp_region_q (by kernel_rfl) (by kernel_rfl) ?_); (repeat (go_big_quiet_step ((first | (go_at_call 52; first | with_reducible exact Calls.qb (by assumption) (l6In_any _ _ _ _) | with_reducible exact Calls.q (l6In_any _ _ _ _)))))); refine wpQuiet_nil ?_; intro x))
    go_ret
    exact ⟨ret_bool (by simp [cok, h3]), (by repeat (first | with_reducible exact Ext.refl _ | with_reducible apply Ext.and | with_reducible apply Ext.drewx | with_reducible apply Ext.alloc | with_reducible apply Ext.ext | with_reducible apply Ext.drew | with_reducible refine Ext.setCell ?_ (by simp) _))⟩
  have hc : cok ⟨cif, n, ⟨f, b⟩, refuse, like, mark, clear⟩ = subj cif n f b := by simp [cok, h1, h2, h3]
  rw [hc]
  clear hc
  by_cases k1 : cif = 1
  · subst k1
    go_enter Tryd.func61, Tryd.ntmps61
    go_wp2_with (first | (first | (go_at_call 52; (with_reducible refine (l6In_any _ _ _ _).mono ?_); rintro _ _ ⟨rfl, x, rfl⟩) | (go_at_call 87; (with_reducible refine (sRangeOk_any _ _ _).mono ?_); rintro _ _ ⟨rfl, x, rfl⟩) | (go_at_call 43; (with_reducible refine (l3House_any _ _).mono ?_); rintro _ _ ⟨rfl, x, rfl⟩)) | ((first | with_reducible refine wp_region_qe (by kernel_rfl) (by kernel_rfl) ?_ | with_reducible refine wp_region_q (by kernel_rfl) (by kernel_rfl) ?_); (repeat (go_big_quiet_step ((first | (go_at_call 52; first | with_reducible exact Calls.qb (by assumption) (l6In_any _ _ _ _) | with_reducible exact Calls.q (l6In_any _ _ _ _)) | (go_at_call 87; first | with_reducible exact Calls.qb (by assumption) (sRangeOk_any _ _ _) | with_reducible exact Calls.q (sRangeOk_any _ _ _)) | (go_at_call 43; first | with_reducible exact Calls.qb (by assumption) (l3House_any _ _) | with_reducible exact Calls.q (l3House_any _ _)))))); refine wpQuiet_nil ?_; intro x))
    all_goals
      go_ret
      exact ⟨ret_bool (by simp [subj, *]), (by repeat (first | with_reducible exact Ext.refl _ | with_reducible apply Ext.and | with_reducible apply Ext.drewx | with_reducible apply Ext.alloc | with_reducible apply Ext.ext | with_reducible apply Ext.drew | with_reducible refine Ext.setCell ?_ (by simp) _))⟩
  by_cases k2 : cif = 2
  · subst k2
    go_enter Tryd.func61, Tryd.ntmps61
    go_wp2_with (first | (first | (go_at_call 52; (with_reducible refine (l6In_any _ _ _ _).mono ?_); rintro _ _ ⟨rfl, x, rfl⟩) | (go_at_call 87; (with_reducible refine (sRangeOk_any _ _ _).mono ?_); rintro _ _ ⟨rfl, x, rfl⟩) | (go_at_call 43; (with_reducible refine (l3House_any _ _).mono ?_); rintro _ _ ⟨rfl, x, rfl⟩)) | ((first | with_reducible refine wp_region_qe (by kernel_rfl) (by kernel_rfl) ?_ | with_reducible refine wp_region_q (by kernel_rfl) (by kernel_rfl) ?_); (repeat (go_big_quiet_step ((first | (go_at_call 52; first | with_reducible exact Calls.qb (by assumption) (l6In_any _ _ _ _) | with_reducible exact Calls.q (l6In_any _ _ _ _)) | (go_at_call 87; first | with_reducible exact Calls.qb (by assumption) (sRangeOk_any _ _ _) | with_reducible exact Calls.q (sRangeOk_any _ _ _)) | (go_at_call 43; first | with_reducible exact Calls.qb (by assumption) (l3House_any _ _) | with_reducible exact Calls.q (l3House_any _ _)))))); refine wpQuiet_nil ?_; intro x))
    all_goals
      go_ret
      exact ⟨ret_bool (by simp [subj, *]), (by repeat (first | with_reducible exact Ext.refl _ | with_reducible apply Ext.and | with_reducible apply Ext.drewx | with_reducible apply Ext.alloc | with_reducible apply Ext.ext | with_reducible apply Ext.drew | with_reducible refine Ext.setCell ?_ (by simp) _))⟩
  by_cases k3 : cif = 3
  · subst k3
    cases hn : inB n 1 9
    all_goals
      go_enter Tryd.func61, Tryd.ntmps61
      go_wp2_with (first | (first | (go_at_call 52; (with_reducible refine (l6In_any _ _ _ _).mono ?_); rintro _ _ ⟨rfl, x, rfl⟩) | (go_at_call 87; (with_reducible refine (sRangeOk_any _ _ _).mono ?_); rintro _ _ ⟨rfl, x, rfl⟩) | (go_at_call 43; (with_reducible refine (l3House_any _ _).mono ?_); rintro _ _ ⟨rfl, x, rfl⟩)) | ((first | with_reducible refine wp_region_qe (by kernel_rfl) (by kernel_rfl) ?_ | with_reducible refine wp_region_q (by kernel_rfl) (by kernel_rfl) ?_); (repeat (go_big_quiet_step ((first | (go_at_call 52; first | with_reducible exact Calls.qb (by assumption) (l6In_any _ _ _ _) | with_reducible exact Calls.q (l6In_any _ _ _ _)) | (go_at_call 87; first | with_reducible exact Calls.qb (by assumption) (sRangeOk_any _ _ _) | with_reducible exact Calls.q (sRangeOk_any _ _ _)) | (go_at_call 43; first | with_reducible exact Calls.qb (by assumption) (l3House_any _ _) | with_reducible exact Calls.q (l3House_any _ _)))))); refine wpQuiet_nil ?_; intro x))
      all_goals
        go_ret
        exact ⟨ret_bool (by simp [subj, *]), (by repeat (first | with_reducible exact Ext.refl _ | with_reducible apply Ext.and | with_reducible apply Ext.drewx | with_reducible apply Ext.alloc | with_reducible apply Ext.ext | with_reducible apply Ext.drew | with_reducible refine Ext.setCell ?_ (by simp) _))⟩
  by_cases k4 : cif = 4
  · subst k4
    cases hn : inB n 1 5
    all_goals
      go_enter Tryd.func61, Tryd.ntmps61
      go_wp2_with (first | (first | (go_at_call 52; (with_reducible refine (l6In_any _ _ _ _).mono ?_); rintro _ _ ⟨rfl, x, rfl⟩) | (go_at_call 87; (with_reducible refine (sRangeOk_any _ _ _).mono ?_); rintro _ _ ⟨rfl, x, rfl⟩) | (go_at_call 43; (with_reducible refine (l3House_any _ _).mono ?_); rintro _ _ ⟨rfl, x, rfl⟩)) | ((first | with_reducible refine wp_region_qe (by kernel_rfl) (by kernel_rfl) ?_ | with_reducible refine wp_region_q (by kernel_rfl) (by kernel_rfl) ?_); (repeat (go_big_quiet_step ((first | (go_at_call 52; first | with_reducible exact Calls.qb (by assumption) (l6In_any _ _ _ _) | with_reducible exact Calls.q (l6In_any _ _ _ _)) | (go_at_call 87; first | with_reducible exact Calls.qb (by assumption) (sRangeOk_any _ _ _) | with_reducible exact Calls.q (sRangeOk_any _ _ _)) | (go_at_call 43; first | with_reducible exact Calls.qb (by assumption) (l3House_any _ _) | with_reducible exact Calls.q (l3House_any _ _)))))); refine wpQuiet_nil ?_; intro x))
      all_goals
        go_ret
        exact ⟨ret_bool (by simp [subj, *]), (by repeat (first | with_reducible exact Ext.refl _ | with_reducible apply Ext.and | with_reducible apply Ext.drewx | with_reducible apply Ext.alloc | with_reducible apply Ext.ext | with_reducible apply Ext.drew | with_reducible refine Ext.setCell ?_ (by simp) _))⟩
  by_cases k5 : cif = 5
  · subst k5
    cases hn : inB n 1 5
    all_goals
      go_enter Tryd.func61, Tryd.ntmps61
      go_wp2_with (first | (first | (go_at_call 52; (with_reducible refine (l6In_any _ _ _ _).mono ?_); rintro _ _ ⟨rfl, x, rfl⟩) | (go_at_call 87; (with_reducible refine (sRangeOk_any _ _ _).mono ?_); rintro _ _ ⟨rfl, x, rfl⟩) | (go_at_call 43; (with_reducible refine (l3House_any _ _).mono ?_); rintro _ _ ⟨rfl, x, rfl⟩)) | ((first | with_reducible refine wp_region_qe (by kernel_rfl) (by kernel_rfl) ?_ | with_reducible refine wp_region_q (by kernel_rfl) (by kernel_rfl) ?_); (repeat (go_big_quiet_step ((first | (go_at_call 52; first | with_reducible exact Calls.qb (by assumption) (l6In_any _ _ _ _) | with_reducible exact Calls.q (l6In_any _ _ _ _)) | (go_at_call 87; first | with_reducible exact Calls.qb (by assumption) (sRangeOk_any _ _ _) | with_reducible exact Calls.q (sRangeOk_any _ _ _)) | (go_at_call 43; first | with_reducible exact Calls.qb (by assumption) (l3House_any _ _) | with_reducible exact Calls.q (l3House_any _ _)))))); refine wpQuiet_nil ?_; intro x))
      all_goals
        go_ret
        exact ⟨ret_bool (by simp [subj, *]), (by repeat (first | with_reducible exact Ext.refl _ | with_reducible apply Ext.and | with_reducible apply Ext.drewx | with_reducible apply Ext.alloc | with_reducible apply Ext.ext | with_reducible apply Ext.drew | with_reducible refine Ext.setCell ?_ (by simp) _))⟩
  go_enter Tryd.func61, Tryd.ntmps61
  go_wp2_with (first | (first | (go_at_call 52; (with_reducible refine (l6In_any _ _ _ _).mono ?_); rintro _ _ ⟨rfl, x, rfl⟩) | (go_at_call 87; (with_reducible refine (sRangeOk_any _ _ _).mono ?_); rintro _ _ ⟨rfl, x, rfl⟩) | (go_at_call 43; (with_reducible refine (l3House_any _ _).mono ?_); rintro _ _ ⟨rfl, x, rfl⟩)) | ((first | with_reducible refine wp_region_qe (by kernel_rfl) (by kernel_rfl) ?_ | with_reducible refine wp_region_q (by kernel_rfl) (by kernel_rfl) ?_); (repeat (go_big_quiet_step ((first | (go_at_call 52; first | with_reducible exact Calls.qb (by assumption) (l6In_any _ _ _ _) | with_reducible exact Calls.q (l6In_any _ _ _ _)) | (go_at_call 87; first | with_reducible exact Calls.qb (by assumption) (sRangeOk_any _ _ _) | with_reducible exact Calls.q (sRangeOk_any _ _ _)) | (go_at_call 43; first | with_reducible exact Calls.qb (by assumption) (l3House_any _ _) | with_reducible exact Calls.q (l3House_any _ _)))))); refine wpQuiet_nil ?_; intro x))
  all_goals
    go_ret
    exact ⟨ret_bool (by simp [subj, *]), (by repeat (first | with_reducible exact Ext.refl _ | with_reducible apply Ext.and | with_reducible apply Ext.drewx | with_reducible apply Ext.alloc | with_reducible apply Ext.ext | with_reducible apply Ext.drew | with_reducible refine Ext.setCell ?_ (by simp) _))⟩
theorem sClauseOk_any (c : Cl) (w : World) :
    Calls Tryd.prog 61 #[.agg #[.int .i64 c.cif, .int .i64 c.n, .int .i64 c.r.f, .int .i64 c.r.b, .bool c.refuse, .int .i64 c.like, .int .i64 c.mark, .int .i64 c.clear]] w fun e w' => e = .returned (.bool (cok c)) ∧ Ext w w' :=
  sClauseOk_all _ _ _ _ _ _ _ _ w

def pok (l : List Cl) : Bool := l.all cok && decide (l.length ≤ 5)



end Go.Proofs.YtfhagokhekodnaaDoor
