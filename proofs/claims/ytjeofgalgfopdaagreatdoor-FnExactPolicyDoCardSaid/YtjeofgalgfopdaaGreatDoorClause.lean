/- Clauses: which are valid. No condition. -/
import Derived.Test.YtjeofgalgfopdaaGreatDoorCopy
import Derived.Test.YtjeofgalgfopdaaGreatDoorHouse
import Derived.Laws.StructEq
namespace Go.Proofs.YtjeofgalgfopdaaGreatDoor
open Go Go.RowKit

/-- What a kind of clause asks of its number and its range. -/
def subj (cif n f b : Int) : Bool :=
  if cif = 1 then decide (n = 0 ∧ f = 0 ∧ b = 0) else if cif = 2 then decide (n = 0) && rok f b
  else if cif = 3 then inB n 1 9 && decide (f = 0 ∧ b = 0) else if cif = 4 ∨ cif = 5 then inB n 1 5 && decide (f = 0 ∧ b = 0) else false
def cok (c : Cl) : Bool := subj c.cif c.n c.r.f c.r.b && (inB c.like (-1) 9 && (inB c.mark 0 9 && inB c.clear 0 9))

/-- The test of a clause, by its kind. -/
def testV (cif n f b : Int) : Value :=
  if cif = 1 then .iface 172 (.agg #[]) else if cif = 2 then .iface 173 (.agg #[.int .i64 f, .int .i64 b]) else if cif = 3 then .iface 174 (.int .i64 n)
  else if cif = 4 then .iface 175 (.int .i64 n) else if cif = 5 then .iface 176 (.int .i64 n) else .nilIface
set_option maxHeartbeats 400000 in
theorem testOf_any (cif n f b like mark clear : Int) (refuse : Bool) (w : World) :
    Calls Tryz.prog 107 #[.agg #[.int .i64 cif, .int .i64 n, .int .i64 f, .int .i64 b, .bool refuse, .int .i64 like, .int .i64 mark, .int .i64 clear]] w fun e w' => e = .returned (testV cif n f b) ∧ Ext w w' := by
  go_enter Tryz.func107, Tryz.ntmps107
  go_wp2
  all_goals
    go_ret
    exact ⟨by simp_all [testV], (by repeat (first | with_reducible exact Ext.refl _ | with_reducible apply Ext.and | with_reducible apply Ext.drewx | with_reducible apply Ext.alloc | with_reducible apply Ext.ext | with_reducible apply Ext.drew | with_reducible refine Ext.setCell ?_ (by simp) _))⟩

theorem ta_0_0 (v : Value) (w : World) : (Instr.typeAssert (.iface 172 v) 135 172 true).run Tryz.prog w = .ok (.tuple #[v, .bool true]) w := by kernel_rfl
theorem ta_1_0 (v : Value) (w : World) : (Instr.typeAssert (.iface 173 v) 135 172 true).run Tryz.prog w = .ok (.tuple #[.agg #[], .bool false]) w := by kernel_rfl
theorem ta_1_1 (v : Value) (w : World) : (Instr.typeAssert (.iface 173 v) 135 173 true).run Tryz.prog w = .ok (.tuple #[v, .bool true]) w := by kernel_rfl
theorem ta_2_0 (v : Value) (w : World) : (Instr.typeAssert (.iface 174 v) 135 172 true).run Tryz.prog w = .ok (.tuple #[.agg #[], .bool false]) w := by kernel_rfl
theorem ta_2_1 (v : Value) (w : World) : (Instr.typeAssert (.iface 174 v) 135 173 true).run Tryz.prog w = .ok (.tuple #[.agg #[.int .i64 0, .int .i64 0], .bool false]) w := by kernel_rfl
theorem ta_2_2 (v : Value) (w : World) : (Instr.typeAssert (.iface 174 v) 135 174 true).run Tryz.prog w = .ok (.tuple #[v, .bool true]) w := by kernel_rfl
theorem ta_3_0 (v : Value) (w : World) : (Instr.typeAssert (.iface 175 v) 135 172 true).run Tryz.prog w = .ok (.tuple #[.agg #[], .bool false]) w := by kernel_rfl
theorem ta_3_1 (v : Value) (w : World) : (Instr.typeAssert (.iface 175 v) 135 173 true).run Tryz.prog w = .ok (.tuple #[.agg #[.int .i64 0, .int .i64 0], .bool false]) w := by kernel_rfl
theorem ta_3_2 (v : Value) (w : World) : (Instr.typeAssert (.iface 175 v) 135 174 true).run Tryz.prog w = .ok (.tuple #[.int .i64 0, .bool false]) w := by kernel_rfl
theorem ta_3_3 (v : Value) (w : World) : (Instr.typeAssert (.iface 175 v) 135 175 true).run Tryz.prog w = .ok (.tuple #[v, .bool true]) w := by kernel_rfl
theorem ta_4_0 (v : Value) (w : World) : (Instr.typeAssert (.iface 176 v) 135 172 true).run Tryz.prog w = .ok (.tuple #[.agg #[], .bool false]) w := by kernel_rfl
theorem ta_4_1 (v : Value) (w : World) : (Instr.typeAssert (.iface 176 v) 135 173 true).run Tryz.prog w = .ok (.tuple #[.agg #[.int .i64 0, .int .i64 0], .bool false]) w := by kernel_rfl
theorem ta_4_2 (v : Value) (w : World) : (Instr.typeAssert (.iface 176 v) 135 174 true).run Tryz.prog w = .ok (.tuple #[.int .i64 0, .bool false]) w := by kernel_rfl
theorem ta_4_3 (v : Value) (w : World) : (Instr.typeAssert (.iface 176 v) 135 175 true).run Tryz.prog w = .ok (.tuple #[.int .i64 0, .bool false]) w := by kernel_rfl
theorem ta_4_4 (v : Value) (w : World) : (Instr.typeAssert (.iface 176 v) 135 176 true).run Tryz.prog w = .ok (.tuple #[v, .bool true]) w := by kernel_rfl

set_option maxHeartbeats 1000000 in
theorem subjectOk_any (cif n f b like mark clear : Int) (refuse : Bool) (w : World) :
    Calls Tryz.prog 132 #[.agg #[.int .i64 cif, .int .i64 n, .int .i64 f, .int .i64 b, .bool refuse, .int .i64 like, .int .i64 mark, .int .i64 clear]] w fun e w' => e = .returned (.bool (subj cif n f b)) ∧ Ext w w' := by
  by_cases h1 : cif = 1
  · subst h1
    have e : testV 1 n f b = .iface 172 (.agg #[]) := by simp [testV]
    have t0 := ta_0_0
    go_enter Tryz.func132, Tryz.ntmps132
    go_wp2_with (first | (first | (go_at_call 107; (with_reducible refine (testOf_any _ _ _ _ _ _ _ _ _).mono ?_); rintro _ _ ⟨rfl, x, rfl⟩) | (go_at_call 93; (with_reducible refine (iRangeOk_any _ _ _).mono ?_); rintro _ _ ⟨rfl, x, rfl⟩) | (go_at_call 109; (with_reducible refine (isMark_any _ _).mono ?_); rintro _ _ ⟨rfl, x, rfl⟩) | (go_at_call 122; (with_reducible refine (isHouse_any _ _).mono ?_); rintro _ _ ⟨rfl, x, rfl⟩)) | ((first | with_reducible refine wp_region_qe (by kernel_rfl) (by kernel_rfl) ?_ | with_reducible refine wp_region_q (by kernel_rfl) (by kernel_rfl) ?_); (repeat (go_big_quiet_step ((first | (go_at_call 107; first | with_reducible exact Calls.qb (by assumption) (testOf_any _ _ _ _ _ _ _ _ _) | with_reducible exact Calls.q (testOf_any _ _ _ _ _ _ _ _ _)) | (go_at_call 93; first | with_reducible exact Calls.qb (by assumption) (iRangeOk_any _ _ _) | with_reducible exact Calls.q (iRangeOk_any _ _ _)) | (go_at_call 109; first | with_reducible exact Calls.qb (by assumption) (isMark_any _ _) | with_reducible exact Calls.q (isMark_any _ _)) | (go_at_call 122; first | with_reducible exact Calls.qb (by assumption) (isHouse_any _ _) | with_reducible exact Calls.q (isHouse_any _ _)))))); refine wpQuiet_nil ?_; intro x))
    all_goals
      go_ret
      exact ⟨ret_bool (by simp [subj, *]), (by repeat (first | with_reducible exact Ext.refl _ | with_reducible apply Ext.and | with_reducible apply Ext.drewx | with_reducible apply Ext.alloc | with_reducible apply Ext.ext | with_reducible apply Ext.drew | with_reducible refine Ext.setCell ?_ (by simp) _))⟩
  by_cases h2 : cif = 2
  · subst h2
    have e : testV 2 n f b = .iface 173 (.agg #[.int .i64 f, .int .i64 b]) := by simp [testV]
    have t0 := ta_1_0
    have t1 := ta_1_1
    cases hr : rok f b
    all_goals
      go_enter Tryz.func132, Tryz.ntmps132
      go_wp2_with (first | (first | (go_at_call 107; (with_reducible refine (testOf_any _ _ _ _ _ _ _ _ _).mono ?_); rintro _ _ ⟨rfl, x, rfl⟩) | (go_at_call 93; (with_reducible refine (iRangeOk_any _ _ _).mono ?_); rintro _ _ ⟨rfl, x, rfl⟩) | (go_at_call 109; (with_reducible refine (isMark_any _ _).mono ?_); rintro _ _ ⟨rfl, x, rfl⟩) | (go_at_call 122; (with_reducible refine (isHouse_any _ _).mono ?_); rintro _ _ ⟨rfl, x, rfl⟩)) | ((first | with_reducible refine wp_region_qe (by kernel_rfl) (by kernel_rfl) ?_ | with_reducible refine wp_region_q (by kernel_rfl) (by kernel_rfl) ?_); (repeat (go_big_quiet_step ((first | (go_at_call 107; first | with_reducible exact Calls.qb (by assumption) (testOf_any _ _ _ _ _ _ _ _ _) | with_reducible exact Calls.q (testOf_any _ _ _ _ _ _ _ _ _)) | (go_at_call 93; first | with_reducible exact Calls.qb (by assumption) (iRangeOk_any _ _ _) | with_reducible exact Calls.q (iRangeOk_any _ _ _)) | (go_at_call 109; first | with_reducible exact Calls.qb (by assumption) (isMark_any _ _) | with_reducible exact Calls.q (isMark_any _ _)) | (go_at_call 122; first | with_reducible exact Calls.qb (by assumption) (isHouse_any _ _) | with_reducible exact Calls.q (isHouse_any _ _)))))); refine wpQuiet_nil ?_; intro x))
      all_goals
        go_ret
        exact ⟨ret_bool (by simp [subj, *]), (by repeat (first | with_reducible exact Ext.refl _ | with_reducible apply Ext.and | with_reducible apply Ext.drewx | with_reducible apply Ext.alloc | with_reducible apply Ext.ext | with_reducible apply Ext.drew | with_reducible refine Ext.setCell ?_ (by simp) _))⟩
  by_cases h3 : cif = 3
  · subst h3
    have e : testV 3 n f b = .iface 174 (.int .i64 n) := by simp [testV]
    have t0 := ta_2_0
    have t1 := ta_2_1
    have t2 := ta_2_2
    cases hr : inB n 1 9
    all_goals
      go_enter Tryz.func132, Tryz.ntmps132
      go_wp2_with (first | (first | (go_at_call 107; (with_reducible refine (testOf_any _ _ _ _ _ _ _ _ _).mono ?_); rintro _ _ ⟨rfl, x, rfl⟩) | (go_at_call 93; (with_reducible refine (iRangeOk_any _ _ _).mono ?_); rintro _ _ ⟨rfl, x, rfl⟩) | (go_at_call 109; (with_reducible refine (isMark_any _ _).mono ?_); rintro _ _ ⟨rfl, x, rfl⟩) | (go_at_call 122; (with_reducible refine (isHouse_any _ _).mono ?_); rintro _ _ ⟨rfl, x, rfl⟩)) | ((first | with_reducible refine wp_region_qe (by kernel_rfl) (by kernel_rfl) ?_ | with_reducible refine wp_region_q (by kernel_rfl) (by kernel_rfl) ?_); (repeat (go_big_quiet_step ((first | (go_at_call 107; first | with_reducible exact Calls.qb (by assumption) (testOf_any _ _ _ _ _ _ _ _ _) | with_reducible exact Calls.q (testOf_any _ _ _ _ _ _ _ _ _)) | (go_at_call 93; first | with_reducible exact Calls.qb (by assumption) (iRangeOk_any _ _ _) | with_reducible exact Calls.q (iRangeOk_any _ _ _)) | (go_at_call 109; first | with_reducible exact Calls.qb (by assumption) (isMark_any _ _) | with_reducible exact Calls.q (isMark_any _ _)) | (go_at_call 122; first | with_reducible exact Calls.qb (by assumption) (isHouse_any _ _) | with_reducible exact Calls.q (isHouse_any _ _)))))); refine wpQuiet_nil ?_; intro x))
      all_goals
        go_ret
        exact ⟨ret_bool (by simp [subj, *]), (by repeat (first | with_reducible exact Ext.refl _ | with_reducible apply Ext.and | with_reducible apply Ext.drewx | with_reducible apply Ext.alloc | with_reducible apply Ext.ext | with_reducible apply Ext.drew | with_reducible refine Ext.setCell ?_ (by simp) _))⟩
  by_cases h4 : cif = 4
  · subst h4
    have e : testV 4 n f b = .iface 175 (.int .i64 n) := by simp [testV]
    have t0 := ta_3_0
    have t1 := ta_3_1
    have t2 := ta_3_2
    have t3 := ta_3_3
    cases hr : inB n 1 5
    all_goals
      go_enter Tryz.func132, Tryz.ntmps132
      go_wp2_with (first | (first | (go_at_call 107; (with_reducible refine (testOf_any _ _ _ _ _ _ _ _ _).mono ?_); rintro _ _ ⟨rfl, x, rfl⟩) | (go_at_call 93; (with_reducible refine (iRangeOk_any _ _ _).mono ?_); rintro _ _ ⟨rfl, x, rfl⟩) | (go_at_call 109; (with_reducible refine (isMark_any _ _).mono ?_); rintro _ _ ⟨rfl, x, rfl⟩) | (go_at_call 122; (with_reducible refine (isHouse_any _ _).mono ?_); rintro _ _ ⟨rfl, x, rfl⟩)) | ((first | with_reducible refine wp_region_qe (by kernel_rfl) (by kernel_rfl) ?_ | with_reducible refine wp_region_q (by kernel_rfl) (by kernel_rfl) ?_); (repeat (go_big_quiet_step ((first | (go_at_call 107; first | with_reducible exact Calls.qb (by assumption) (testOf_any _ _ _ _ _ _ _ _ _) | with_reducible exact Calls.q (testOf_any _ _ _ _ _ _ _ _ _)) | (go_at_call 93; first | with_reducible exact Calls.qb (by assumption) (iRangeOk_any _ _ _) | with_reducible exact Calls.q (iRangeOk_any _ _ _)) | (go_at_call 109; first | with_reducible exact Calls.qb (by assumption) (isMark_any _ _) | with_reducible exact Calls.q (isMark_any _ _)) | (go_at_call 122; first | with_reducible exact Calls.qb (by assumption) (isHouse_any _ _) | with_reducible exact Calls.q (isHouse_any _ _)))))); refine wpQuiet_nil ?_; intro x))
      all_goals
        go_ret
        exact ⟨ret_bool (by simp [subj, *]), (by repeat (first | with_reducible exact Ext.refl _ | with_reducible apply Ext.and | with_reducible apply Ext.drewx | with_reducible apply Ext.alloc | with_reducible apply Ext.ext | with_reducible apply Ext.drew | with_reducible refine Ext.setCell ?_ (by simp) _))⟩
  by_cases h5 : cif = 5
  · subst h5
    have e : testV 5 n f b = .iface 176 (.int .i64 n) := by simp [testV]
    have t0 := ta_4_0
    have t1 := ta_4_1
    have t2 := ta_4_2
    have t3 := ta_4_3
    have t4 := ta_4_4
    cases hr : inB n 1 5
    all_goals
      go_enter Tryz.func132, Tryz.ntmps132
      go_wp2_with (first | (first | (go_at_call 107; (with_reducible refine (testOf_any _ _ _ _ _ _ _ _ _).mono ?_); rintro _ _ ⟨rfl, x, rfl⟩) | (go_at_call 93; (with_reducible refine (iRangeOk_any _ _ _).mono ?_); rintro _ _ ⟨rfl, x, rfl⟩) | (go_at_call 109; (with_reducible refine (isMark_any _ _).mono ?_); rintro _ _ ⟨rfl, x, rfl⟩) | (go_at_call 122; (with_reducible refine (isHouse_any _ _).mono ?_); rintro _ _ ⟨rfl, x, rfl⟩)) | ((first | with_reducible refine wp_region_qe (by kernel_rfl) (by kernel_rfl) ?_ | with_reducible refine wp_region_q (by kernel_rfl) (by kernel_rfl) ?_); (repeat (go_big_quiet_step ((first | (go_at_call 107; first | with_reducible exact Calls.qb (by assumption) (testOf_any _ _ _ _ _ _ _ _ _) | with_reducible exact Calls.q (testOf_any _ _ _ _ _ _ _ _ _)) | (go_at_call 93; first | with_reducible exact Calls.qb (by assumption) (iRangeOk_any _ _ _) | with_reducible exact Calls.q (iRangeOk_any _ _ _)) | (go_at_call 109; first | with_reducible exact Calls.qb (by assumption) (isMark_any _ _) | with_reducible exact Calls.q (isMark_any _ _)) | (go_at_call 122; first | with_reducible exact Calls.qb (by assumption) (isHouse_any _ _) | with_reducible exact Calls.q (isHouse_any _ _)))))); refine wpQuiet_nil ?_; intro x))
      all_goals
        go_ret
        exact ⟨ret_bool (by simp [subj, *]), (by repeat (first | with_reducible exact Ext.refl _ | with_reducible apply Ext.and | with_reducible apply Ext.drewx | with_reducible apply Ext.alloc | with_reducible apply Ext.ext | with_reducible apply Ext.drew | with_reducible refine Ext.setCell ?_ (by simp) _))⟩
  have e : testV cif n f b = .nilIface := by simp [testV, *]
  go_enter Tryz.func132, Tryz.ntmps132
  go_wp2_with (first | (first | (go_at_call 107; (with_reducible refine (testOf_any _ _ _ _ _ _ _ _ _).mono ?_); rintro _ _ ⟨rfl, x, rfl⟩)) | ((first | with_reducible refine wp_region_qe (by kernel_rfl) (by kernel_rfl) ?_ | with_reducible refine wp_region_q (by kernel_rfl) (by kernel_rfl) ?_); (repeat (go_big_quiet_step ((first | (go_at_call 107; first | with_reducible exact Calls.qb (by assumption) (testOf_any _ _ _ _ _ _ _ _ _) | with_reducible exact Calls.q (testOf_any _ _ _ _ _ _ _ _ _)))))); refine wpQuiet_nil ?_; intro x))
  all_goals
    go_ret
    exact ⟨ret_bool (by simp [subj, *]), (by repeat (first | with_reducible exact Ext.refl _ | with_reducible apply Ext.and | with_reducible apply Ext.drewx | with_reducible apply Ext.alloc | with_reducible apply Ext.ext | with_reducible apply Ext.drew | with_reducible refine Ext.setCell ?_ (by simp) _))⟩

theorem zero_or {n : Int} : (decide (n = 0) || inB n 1 9) = inB n 0 9 := by
  rw [Bool.eq_iff_iff]
  simp [inB]
  omega
theorem cok_eq (cif n f b like mark clear : Int) (refuse : Bool) : cok ⟨cif, n, ⟨f, b⟩, refuse, like, mark, clear⟩ =
    (subj cif n f b && (decide (-1 ≤ like) && (decide (like ≤ 9) && ((decide (mark = 0) || inB mark 1 9) && (decide (clear = 0) || inB clear 1 9))))) := by
  rw [zero_or, zero_or]
  simp only [cok]
  have : inB like (-1) 9 = (decide (-1 ≤ like) && decide (like ≤ 9)) := by simp [inB]
  rw [this, Bool.and_assoc]
set_option maxHeartbeats 2000000 in
theorem iClauseOk_all (cif n f b like mark clear : Int) (refuse : Bool) (w : World) :
    Calls Tryz.prog 104 #[.agg #[.int .i64 cif, .int .i64 n, .int .i64 f, .int .i64 b, .bool refuse, .int .i64 like, .int .i64 mark, .int .i64 clear]] w fun e w' => e = .returned (.bool (cok ⟨cif, n, ⟨f, b⟩, refuse, like, mark, clear⟩)) ∧ Ext w w' := by
  rw [cok_eq]
  cases hs : subj cif n f b
  · go_enter Tryz.func104, Tryz.ntmps104
    go_wp2_with (first | (first | (go_at_call 132; (with_reducible refine (subjectOk_any _ _ _ _ _ _ _ _ _).mono ?_); rintro _ _ ⟨rfl, x, rfl⟩)) | ((first | with_reducible refine wp_region_qe (by kernel_rfl) (by kernel_rfl) ?_ | with_reducible refine wp_region_q (by kernel_rfl) (by kernel_rfl) ?_); (repeat (go_big_quiet_step ((first | (go_at_call 132; first | with_reducible exact Calls.qb (by assumption) (subjectOk_any _ _ _ _ _ _ _ _ _) | with_reducible exact Calls.q (subjectOk_any _ _ _ _ _ _ _ _ _)))))); refine wpQuiet_nil ?_; intro x))
    go_ret
    exact ⟨ret_bool (by simp), (by repeat (first | with_reducible exact Ext.refl _ | with_reducible apply Ext.and | with_reducible apply Ext.drewx | with_reducible apply Ext.alloc | with_reducible apply Ext.ext | with_reducible apply Ext.drew | with_reducible refine Ext.setCell ?_ (by simp) _))⟩
  · by_cases h1 : -1 ≤ like ∧ like ≤ 9
    · obtain ⟨h1, h2⟩ := h1
      have d1 : decide (-1 ≤ like) = true := by simpa using h1
      have d2 : decide (like ≤ 9) = true := by simpa using h2
      cases h3 : inB mark 1 9 <;> cases h4 : inB clear 1 9 <;> by_cases h5 : mark = 0 <;> by_cases h6 : clear = 0
      all_goals
        go_enter Tryz.func104, Tryz.ntmps104
        go_wp2_with (first | (first | (go_at_call 132; (with_reducible refine (subjectOk_any _ _ _ _ _ _ _ _ _).mono ?_); rintro _ _ ⟨rfl, x, rfl⟩) | (go_at_call 109; (with_reducible refine (isMark_any _ _).mono ?_); rintro _ _ ⟨rfl, x, rfl⟩)) | ((first | with_reducible refine wp_region_qe (by kernel_rfl) (by kernel_rfl) ?_ | with_reducible refine wp_region_q (by kernel_rfl) (by kernel_rfl) ?_); (repeat (go_big_quiet_step ((first | (go_at_call 132; first | with_reducible exact Calls.qb (by assumption) (subjectOk_any _ _ _ _ _ _ _ _ _) | with_reducible exact Calls.q (subjectOk_any _ _ _ _ _ _ _ _ _)) | (go_at_call 109; first | with_reducible exact Calls.qb (by assumption) (isMark_any _ _) | with_reducible exact Calls.q (isMark_any _ _)))))); refine wpQuiet_nil ?_; intro x))
        go_ret
        exact ⟨ret_bool (by simp [*]), (by repeat (first | with_reducible exact Ext.refl _ | with_reducible apply Ext.and | with_reducible apply Ext.drewx | with_reducible apply Ext.alloc | with_reducible apply Ext.ext | with_reducible apply Ext.drew | with_reducible refine Ext.setCell ?_ (by simp) _))⟩
    · have d0 : (decide (-1 ≤ like) && decide (like ≤ 9)) = false := by simp; omega
      by_cases h2 : -1 ≤ like
      · have h3 : ¬ like ≤ 9 := by omega
        have d2 := ge_false h3
        go_enter Tryz.func104, Tryz.ntmps104
        go_wp2_with (first | (first | (go_at_call 132; (with_reducible refine (subjectOk_any _ _ _ _ _ _ _ _ _).mono ?_); rintro _ _ ⟨rfl, x, rfl⟩)) | ((first | with_reducible refine wp_region_qe (by kernel_rfl) (by kernel_rfl) ?_ | with_reducible refine wp_region_q (by kernel_rfl) (by kernel_rfl) ?_); (repeat (go_big_quiet_step ((first | (go_at_call 132; first | with_reducible exact Calls.qb (by assumption) (subjectOk_any _ _ _ _ _ _ _ _ _) | with_reducible exact Calls.q (subjectOk_any _ _ _ _ _ _ _ _ _)))))); refine wpQuiet_nil ?_; intro x))
        go_ret
        exact ⟨ret_bool (by simp [d2]), (by repeat (first | with_reducible exact Ext.refl _ | with_reducible apply Ext.and | with_reducible apply Ext.drewx | with_reducible apply Ext.alloc | with_reducible apply Ext.ext | with_reducible apply Ext.drew | with_reducible refine Ext.setCell ?_ (by simp) _))⟩
      · have d2 := ge_false h2
        go_enter Tryz.func104, Tryz.ntmps104
        go_wp2_with (first | (first | (go_at_call 132; (with_reducible refine (subjectOk_any _ _ _ _ _ _ _ _ _).mono ?_); rintro _ _ ⟨rfl, x, rfl⟩)) | ((first | with_reducible refine wp_region_qe (by kernel_rfl) (by kernel_rfl) ?_ | with_reducible refine wp_region_q (by kernel_rfl) (by kernel_rfl) ?_); (repeat (go_big_quiet_step ((first | (go_at_call 132; first | with_reducible exact Calls.qb (by assumption) (subjectOk_any _ _ _ _ _ _ _ _ _) | with_reducible exact Calls.q (subjectOk_any _ _ _ _ _ _ _ _ _)))))); refine wpQuiet_nil ?_; intro x))
        go_ret
        exact ⟨ret_bool (by simp [d2]), (by repeat (first | with_reducible exact Ext.refl _ | with_reducible apply Ext.and | with_reducible apply Ext.drewx | with_reducible apply Ext.alloc | with_reducible apply Ext.ext | with_reducible apply Ext.drew | with_reducible refine Ext.setCell ?_ (by simp) _))⟩
theorem iClauseOk_any (c : Cl) (w : World) :
    Calls Tryz.prog 104 #[.agg #[.int .i64 c.cif, .int .i64 c.n, .int .i64 c.r.f, .int .i64 c.r.b, .bool c.refuse, .int .i64 c.like, .int .i64 c.mark, .int .i64 c.clear]] w fun e w' => e = .returned (.bool (cok c)) ∧ Ext w w' :=
  iClauseOk_all _ _ _ _ _ _ _ _ w

set_option maxHeartbeats 2000000 in
theorem sClauseOk_all (cif n f b like mark clear : Int) (refuse : Bool) (w : World) :
    Calls Tryz.prog 95 #[.agg #[.int .i64 cif, .int .i64 n, .int .i64 f, .int .i64 b, .bool refuse, .int .i64 like, .int .i64 mark, .int .i64 clear]] w fun e w' => e = .returned (.bool (cok ⟨cif, n, ⟨f, b⟩, refuse, like, mark, clear⟩)) ∧ Ext w w' := by
  cases h1 : inB like (-1) 9
  · go_enter Tryz.func95, Tryz.ntmps95
    go_wp2_with (first | (first | (go_at_call 97; (with_reducible refine (l6In_any _ _ _ _).mono ?_); rintro _ _ ⟨rfl, x, rfl⟩)) | ((first | with_reducible refine wp_region_qe (by kernel_rfl) (by kernel_rfl) ?_ | with_reducible refine wp_region_q (by kernel_rfl) (by kernel_rfl) ?_); (repeat (go_big_quiet_step ((first | (go_at_call 97; first | with_reducible exact Calls.qb (by assumption) (l6In_any _ _ _ _) | with_reducible exact Calls.q (l6In_any _ _ _ _)))))); refine wpQuiet_nil ?_; intro x))
    go_ret
    exact ⟨ret_bool (by simp [cok, h1]), (by repeat (first | with_reducible exact Ext.refl _ | with_reducible apply Ext.and | with_reducible apply Ext.drewx | with_reducible apply Ext.alloc | with_reducible apply Ext.ext | with_reducible apply Ext.drew | with_reducible refine Ext.setCell ?_ (by simp) _))⟩
  cases h2 : inB mark 0 9
  · go_enter Tryz.func95, Tryz.ntmps95
    go_wp2_with (first | (first | (go_at_call 97; (with_reducible refine (l6In_any _ _ _ _).mono ?_); rintro _ _ ⟨rfl, x, rfl⟩)) | ((first | with_reducible refine wp_region_qe (by kernel_rfl) (by kernel_rfl) ?_ | with_reducible refine wp_region_q (by kernel_rfl) (by kernel_rfl) ?_); (repeat (go_big_quiet_step ((first | (go_at_call 97; first | with_reducible exact Calls.qb (by assumption) (l6In_any _ _ _ _) | with_reducible exact Calls.q (l6In_any _ _ _ _)))))); refine wpQuiet_nil ?_; intro x))
    go_ret
    exact ⟨ret_bool (by simp [cok, h2]), (by repeat (first | with_reducible exact Ext.refl _ | with_reducible apply Ext.and | with_reducible apply Ext.drewx | with_reducible apply Ext.alloc | with_reducible apply Ext.ext | with_reducible apply Ext.drew | with_reducible refine Ext.setCell ?_ (by simp) _))⟩
  cases h3 : inB clear 0 9
  · go_enter Tryz.func95, Tryz.ntmps95
    go_wp2_with (first | (first | (go_at_call 97; (with_reducible refine (l6In_any _ _ _ _).mono ?_); rintro _ _ ⟨rfl, x, rfl⟩)) | ((first | with_reducible refine wp_region_qe (by kernel_rfl) (by kernel_rfl) ?_ | with_reducible refine wp_region_q (by kernel_rfl) (by kernel_rfl) ?_); (repeat (go_big_quiet_step ((first | (go_at_call 97; first | with_reducible exact Calls.qb (by assumption) (l6In_any _ _ _ _) | with_reducible exact Calls.q (l6In_any _ _ _ _)))))); refine wpQuiet_nil ?_; intro x))
    go_ret
    exact ⟨ret_bool (by simp [cok, h3]), (by repeat (first | with_reducible exact Ext.refl _ | with_reducible apply Ext.and | with_reducible apply Ext.drewx | with_reducible apply Ext.alloc | with_reducible apply Ext.ext | with_reducible apply Ext.drew | with_reducible refine Ext.setCell ?_ (by simp) _))⟩
  have hc : cok ⟨cif, n, ⟨f, b⟩, refuse, like, mark, clear⟩ = subj cif n f b := by simp [cok, h1, h2, h3]
  rw [hc]
  clear hc
  by_cases k1 : cif = 1
  · subst k1
    go_enter Tryz.func95, Tryz.ntmps95
    go_wp2_with (first | (first | (go_at_call 97; (with_reducible refine (l6In_any _ _ _ _).mono ?_); rintro _ _ ⟨rfl, x, rfl⟩) | (go_at_call 92; (with_reducible refine (sRangeOk_any _ _ _).mono ?_); rintro _ _ ⟨rfl, x, rfl⟩) | (go_at_call 120; (with_reducible refine (l3House_any _ _).mono ?_); rintro _ _ ⟨rfl, x, rfl⟩)) | ((first | with_reducible refine wp_region_qe (by kernel_rfl) (by kernel_rfl) ?_ | with_reducible refine wp_region_q (by kernel_rfl) (by kernel_rfl) ?_); (repeat (go_big_quiet_step ((first | (go_at_call 97; first | with_reducible exact Calls.qb (by assumption) (l6In_any _ _ _ _) | with_reducible exact Calls.q (l6In_any _ _ _ _)) | (go_at_call 92; first | with_reducible exact Calls.qb (by assumption) (sRangeOk_any _ _ _) | with_reducible exact Calls.q (sRangeOk_any _ _ _)) | (go_at_call 120; first | with_reducible exact Calls.qb (by assumption) (l3House_any _ _) | with_reducible exact Calls.q (l3House_any _ _)))))); refine wpQuiet_nil ?_; intro x))
    all_goals
      go_ret
      exact ⟨ret_bool (by simp [subj, *]), (by repeat (first | with_reducible exact Ext.refl _ | with_reducible apply Ext.and | with_reducible apply Ext.drewx | with_reducible apply Ext.alloc | with_reducible apply Ext.ext | with_reducible apply Ext.drew | with_reducible refine Ext.setCell ?_ (by simp) _))⟩
  by_cases k2 : cif = 2
  · subst k2
    go_enter Tryz.func95, Tryz.ntmps95
    go_wp2_with (first | (first | (go_at_call 97; (with_reducible refine (l6In_any _ _ _ _).mono ?_); rintro _ _ ⟨rfl, x, rfl⟩) | (go_at_call 92; (with_reducible refine (sRangeOk_any _ _ _).mono ?_); rintro _ _ ⟨rfl, x, rfl⟩) | (go_at_call 120; (with_reducible refine (l3House_any _ _).mono ?_); rintro _ _ ⟨rfl, x, rfl⟩)) | ((first | with_reducible refine wp_region_qe (by kernel_rfl) (by kernel_rfl) ?_ | with_reducible refine wp_region_q (by kernel_rfl) (by kernel_rfl) ?_); (repeat (go_big_quiet_step ((first | (go_at_call 97; first | with_reducible exact Calls.qb (by assumption) (l6In_any _ _ _ _) | with_reducible exact Calls.q (l6In_any _ _ _ _)) | (go_at_call 92; first | with_reducible exact Calls.qb (by assumption) (sRangeOk_any _ _ _) | with_reducible exact Calls.q (sRangeOk_any _ _ _)) | (go_at_call 120; first | with_reducible exact Calls.qb (by assumption) (l3House_any _ _) | with_reducible exact Calls.q (l3House_any _ _)))))); refine wpQuiet_nil ?_; intro x))
    all_goals
      go_ret
      exact ⟨ret_bool (by simp [subj, *]), (by repeat (first | with_reducible exact Ext.refl _ | with_reducible apply Ext.and | with_reducible apply Ext.drewx | with_reducible apply Ext.alloc | with_reducible apply Ext.ext | with_reducible apply Ext.drew | with_reducible refine Ext.setCell ?_ (by simp) _))⟩
  by_cases k3 : cif = 3
  · subst k3
    cases hn : inB n 1 9
    all_goals
      go_enter Tryz.func95, Tryz.ntmps95
      go_wp2_with (first | (first | (go_at_call 97; (with_reducible refine (l6In_any _ _ _ _).mono ?_); rintro _ _ ⟨rfl, x, rfl⟩) | (go_at_call 92; (with_reducible refine (sRangeOk_any _ _ _).mono ?_); rintro _ _ ⟨rfl, x, rfl⟩) | (go_at_call 120; (with_reducible refine (l3House_any _ _).mono ?_); rintro _ _ ⟨rfl, x, rfl⟩)) | ((first | with_reducible refine wp_region_qe (by kernel_rfl) (by kernel_rfl) ?_ | with_reducible refine wp_region_q (by kernel_rfl) (by kernel_rfl) ?_); (repeat (go_big_quiet_step ((first | (go_at_call 97; first | with_reducible exact Calls.qb (by assumption) (l6In_any _ _ _ _) | with_reducible exact Calls.q (l6In_any _ _ _ _)) | (go_at_call 92; first | with_reducible exact Calls.qb (by assumption) (sRangeOk_any _ _ _) | with_reducible exact Calls.q (sRangeOk_any _ _ _)) | (go_at_call 120; first | with_reducible exact Calls.qb (by assumption) (l3House_any _ _) | with_reducible exact Calls.q (l3House_any _ _)))))); refine wpQuiet_nil ?_; intro x))
      all_goals
        go_ret
        exact ⟨ret_bool (by simp [subj, *]), (by repeat (first | with_reducible exact Ext.refl _ | with_reducible apply Ext.and | with_reducible apply Ext.drewx | with_reducible apply Ext.alloc | with_reducible apply Ext.ext | with_reducible apply Ext.drew | with_reducible refine Ext.setCell ?_ (by simp) _))⟩
  by_cases k4 : cif = 4
  · subst k4
    cases hn : inB n 1 5
    all_goals
      go_enter Tryz.func95, Tryz.ntmps95
      go_wp2_with (first | (first | (go_at_call 97; (with_reducible refine (l6In_any _ _ _ _).mono ?_); rintro _ _ ⟨rfl, x, rfl⟩) | (go_at_call 92; (with_reducible refine (sRangeOk_any _ _ _).mono ?_); rintro _ _ ⟨rfl, x, rfl⟩) | (go_at_call 120; (with_reducible refine (l3House_any _ _).mono ?_); rintro _ _ ⟨rfl, x, rfl⟩)) | ((first | with_reducible refine wp_region_qe (by kernel_rfl) (by kernel_rfl) ?_ | with_reducible refine wp_region_q (by kernel_rfl) (by kernel_rfl) ?_); (repeat (go_big_quiet_step ((first | (go_at_call 97; first | with_reducible exact Calls.qb (by assumption) (l6In_any _ _ _ _) | with_reducible exact Calls.q (l6In_any _ _ _ _)) | (go_at_call 92; first | with_reducible exact Calls.qb (by assumption) (sRangeOk_any _ _ _) | with_reducible exact Calls.q (sRangeOk_any _ _ _)) | (go_at_call 120; first | with_reducible exact Calls.qb (by assumption) (l3House_any _ _) | with_reducible exact Calls.q (l3House_any _ _)))))); refine wpQuiet_nil ?_; intro x))
      all_goals
        go_ret
        exact ⟨ret_bool (by simp [subj, *]), (by repeat (first | with_reducible exact Ext.refl _ | with_reducible apply Ext.and | with_reducible apply Ext.drewx | with_reducible apply Ext.alloc | with_reducible apply Ext.ext | with_reducible apply Ext.drew | with_reducible refine Ext.setCell ?_ (by simp) _))⟩
  by_cases k5 : cif = 5
  · subst k5
    cases hn : inB n 1 5
    all_goals
      go_enter Tryz.func95, Tryz.ntmps95
      go_wp2_with (first | (first | (go_at_call 97; (with_reducible refine (l6In_any _ _ _ _).mono ?_); rintro _ _ ⟨rfl, x, rfl⟩) | (go_at_call 92; (with_reducible refine (sRangeOk_any _ _ _).mono ?_); rintro _ _ ⟨rfl, x, rfl⟩) | (go_at_call 120; (with_reducible refine (l3House_any _ _).mono ?_); rintro _ _ ⟨rfl, x, rfl⟩)) | ((first | with_reducible refine wp_region_qe (by kernel_rfl) (by kernel_rfl) ?_ | with_reducible refine wp_region_q (by kernel_rfl) (by kernel_rfl) ?_); (repeat (go_big_quiet_step ((first | (go_at_call 97; first | with_reducible exact Calls.qb (by assumption) (l6In_any _ _ _ _) | with_reducible exact Calls.q (l6In_any _ _ _ _)) | (go_at_call 92; first | with_reducible exact Calls.qb (by assumption) (sRangeOk_any _ _ _) | with_reducible exact Calls.q (sRangeOk_any _ _ _)) | (go_at_call 120; first | with_reducible exact Calls.qb (by assumption) (l3House_any _ _) | with_reducible exact Calls.q (l3House_any _ _)))))); refine wpQuiet_nil ?_; intro x))
      all_goals
        go_ret
        exact ⟨ret_bool (by simp [subj, *]), (by repeat (first | with_reducible exact Ext.refl _ | with_reducible apply Ext.and | with_reducible apply Ext.drewx | with_reducible apply Ext.alloc | with_reducible apply Ext.ext | with_reducible apply Ext.drew | with_reducible refine Ext.setCell ?_ (by simp) _))⟩
  go_enter Tryz.func95, Tryz.ntmps95
  go_wp2_with (first | (first | (go_at_call 97; (with_reducible refine (l6In_any _ _ _ _).mono ?_); rintro _ _ ⟨rfl, x, rfl⟩) | (go_at_call 92; (with_reducible refine (sRangeOk_any _ _ _).mono ?_); rintro _ _ ⟨rfl, x, rfl⟩) | (go_at_call 120; (with_reducible refine (l3House_any _ _).mono ?_); rintro _ _ ⟨rfl, x, rfl⟩)) | ((first | with_reducible refine wp_region_qe (by kernel_rfl) (by kernel_rfl) ?_ | with_reducible refine wp_region_q (by kernel_rfl) (by kernel_rfl) ?_); (repeat (go_big_quiet_step ((first | (go_at_call 97; first | with_reducible exact Calls.qb (by assumption) (l6In_any _ _ _ _) | with_reducible exact Calls.q (l6In_any _ _ _ _)) | (go_at_call 92; first | with_reducible exact Calls.qb (by assumption) (sRangeOk_any _ _ _) | with_reducible exact Calls.q (sRangeOk_any _ _ _)) | (go_at_call 120; first | with_reducible exact Calls.qb (by assumption) (l3House_any _ _) | with_reducible exact Calls.q (l3House_any _ _)))))); refine wpQuiet_nil ?_; intro x))
  all_goals
    go_ret
    exact ⟨ret_bool (by simp [subj, *]), (by repeat (first | with_reducible exact Ext.refl _ | with_reducible apply Ext.and | with_reducible apply Ext.drewx | with_reducible apply Ext.alloc | with_reducible apply Ext.ext | with_reducible apply Ext.drew | with_reducible refine Ext.setCell ?_ (by simp) _))⟩
theorem sClauseOk_any (c : Cl) (w : World) :
    Calls Tryz.prog 95 #[.agg #[.int .i64 c.cif, .int .i64 c.n, .int .i64 c.r.f, .int .i64 c.r.b, .bool c.refuse, .int .i64 c.like, .int .i64 c.mark, .int .i64 c.clear]] w fun e w' => e = .returned (.bool (cok c)) ∧ Ext w w' :=
  sClauseOk_all _ _ _ _ _ _ _ _ w

def pok (l : List Cl) : Bool := l.all cok && decide (l.length ≤ 5)

set_option maxHeartbeats 1000000 in
theorem indexCl_any (a : Option Addr) (len cap : Nat) (l : List Cl) (p : Cl → Bool) (g : FuncId) (cs : Array Value) (w : World) (hg : ∀ args w, (callFunc g args).run Tryz.prog w = .ok (.enter g args) w) (h : SlRd w a len cap l)
    (hf : ∀ (w' : World) (d : Cl), Ext w w' → Calls Tryz.prog g (#[.agg #[.int .i64 d.cif, .int .i64 d.n, .int .i64 d.r.f, .int .i64 d.r.b, .bool d.refuse, .int .i64 d.like, .int .i64 d.mark, .int .i64 d.clear]] ++ cs) w' fun e w2 => e = .returned (.bool (p d)) ∧ Ext w' w2) :
    Calls Tryz.prog 50 #[.slice a len cap, .func (.func g) #[] cs] w fun e w' => e = .returned (.int .i64 (findI p l)) ∧ Ext w w' := by
  have hm := h.2.2.1
  have hlc := h.2.1
  have HL := hidden h.1
  have HF := hidden hf
  clear hf
  unfold maxLen at hm
  go_enter Tryz.func50, Tryz.ntmps50
  go_wp2_with fail
  go_loopw [8] (fun i wr => ∃ k : Nat, k ≤ len ∧ i = .int .i64 k ∧ Ext w wr ∧ Hid ((l.take k).any p = false)) (fun i _ => len - (intOf i).toNat)
  case atStart => exact ⟨0, Nat.zero_le _, rfl, Ext.refl _, rfl⟩
  case round =>
    obtain ⟨k, hk, rfl, hE, HT⟩ := hrel
    by_cases hlt : k < len
    · obtain ⟨d, hd, b, off, ys, rfl, hys, hcell, hrd⟩ := h.at hE hlt
      obtain ⟨rfl, g0, g1, g2, g3, g4, g5, g6⟩ := hrd
      have c0 : wr.cell? ⟨b, off + k * 8, none⟩ = some _ := hcell 0 _ rfl
      have c1 : wr.cell? ⟨b, off + k * 8 + 1, none⟩ = some _ := hcell 1 _ rfl
      have c2 : wr.cell? ⟨b, off + k * 8 + 2, none⟩ = some _ := hcell 2 _ rfl
      have c3 : wr.cell? ⟨b, off + k * 8 + 3, none⟩ = some _ := hcell 3 _ rfl
      have c4 : wr.cell? ⟨b, off + k * 8 + 4, none⟩ = some _ := hcell 4 _ rfl
      have c5 : wr.cell? ⟨b, off + k * 8 + 5, none⟩ = some _ := hcell 5 _ rfl
      have c6 : wr.cell? ⟨b, off + k * 8 + 6, none⟩ = some _ := hcell 6 _ rfl
      have c7 : wr.cell? ⟨b, off + k * 8 + 7, none⟩ = some _ := hcell 7 _ rfl
      have lb := cell_lt c0
      have HD := hidden hd
      clear hcell hys hd
      cases hp : p d
      · go_wp2_with (first | ((with_reducible refine (HF.out _ d (by first | exact hE | exact hE.ext _ | exact hE.trans (by repeat (first | with_reducible exact Ext.refl _ | with_reducible apply Ext.and | with_reducible apply Ext.drewx | with_reducible apply Ext.alloc | with_reducible apply Ext.ext | with_reducible apply Ext.drew | with_reducible refine Ext.setCell ?_ (by simp) _)))).mono ?_); rintro _ _ ⟨rfl, x, rfl⟩))
        go_roundw
        case rel => exact ⟨k + 1, by omega, by go_num, (by first | exact hE | exact hE.ext _ | exact hE.trans (by repeat (first | with_reducible exact Ext.refl _ | with_reducible apply Ext.and | with_reducible apply Ext.drewx | with_reducible apply Ext.alloc | with_reducible apply Ext.ext | with_reducible apply Ext.drew | with_reducible refine Ext.setCell ?_ (by simp) _))), any_succ HT.out HD.out hp⟩
        case measure => simp [intOf]; omega
      · go_wp2_with (first | ((with_reducible refine (HF.out _ d (by first | exact hE | exact hE.ext _ | exact hE.trans (by repeat (first | with_reducible exact Ext.refl _ | with_reducible apply Ext.and | with_reducible apply Ext.drewx | with_reducible apply Ext.alloc | with_reducible apply Ext.ext | with_reducible apply Ext.drew | with_reducible refine Ext.setCell ?_ (by simp) _)))).mono ?_); rintro _ _ ⟨rfl, x, rfl⟩))
        go_ret
        exact ⟨ret_int (findI_at HT.out HD.out hp).symm, (by first | exact hE | exact hE.ext _ | exact hE.trans (by repeat (first | with_reducible exact Ext.refl _ | with_reducible apply Ext.and | with_reducible apply Ext.drewx | with_reducible apply Ext.alloc | with_reducible apply Ext.ext | with_reducible apply Ext.drew | with_reducible refine Ext.setCell ?_ (by simp) _)))⟩
    · obtain rfl : k = len := by omega
      go_wp2_with (first | ((first | with_reducible refine wp_region_qe (by kernel_rfl) (by kernel_rfl) ?_ | with_reducible refine wp_region_q (by kernel_rfl) (by kernel_rfl) ?_); (repeat (go_big_quiet_step (fail))); refine wpQuiet_nil ?_; intro x))
      go_ret
      exact ⟨ret_int (by have := HT.out; rw [List.take_of_length_le (Nat.le_of_eq HL.out)] at this; exact (findI_no this).symm), (by first | exact hE | exact hE.ext _ | exact hE.trans (by repeat (first | with_reducible exact Ext.refl _ | with_reducible apply Ext.and | with_reducible apply Ext.drewx | with_reducible apply Ext.alloc | with_reducible apply Ext.ext | with_reducible apply Ext.drew | with_reducible refine Ext.setCell ?_ (by simp) _)))⟩
set_option maxHeartbeats 1000000 in
theorem containsCl_any (a : Option Addr) (len cap : Nat) (l : List Cl) (p : Cl → Bool) (g : FuncId) (cs : Array Value) (w : World) (hg : ∀ args w, (callFunc g args).run Tryz.prog w = .ok (.enter g args) w) (h : SlRd w a len cap l)
    (hf : ∀ (w' : World) (d : Cl), Ext w w' → Calls Tryz.prog g (#[.agg #[.int .i64 d.cif, .int .i64 d.n, .int .i64 d.r.f, .int .i64 d.r.b, .bool d.refuse, .int .i64 d.like, .int .i64 d.mark, .int .i64 d.clear]] ++ cs) w' fun e w2 => e = .returned (.bool (p d)) ∧ Ext w' w2) :
    Calls Tryz.prog 102 #[.slice a len cap, .func (.func g) #[] cs] w fun e w' => e = .returned (.bool (l.any p)) ∧ Ext w w' := by
  have H := hidden (indexCl_any a len cap l p g cs w hg h hf)
  clear hg hf
  rw [← findI_ge]
  go_enter Tryz.func102, Tryz.ntmps102
  go_wp2_with (first | (go_at_call 50; (with_reducible refine H.out.mono ?_); rintro _ _ ⟨rfl, x, rfl⟩))
  all_goals
    go_ret
    exact ⟨ret_bool (by simp [*]), (by repeat (first | with_reducible exact Ext.refl _ | with_reducible apply Ext.and | with_reducible apply Ext.drewx | with_reducible apply Ext.alloc | with_reducible apply Ext.ext | with_reducible apply Ext.drew | with_reducible refine Ext.setCell ?_ (by simp) _))⟩

theorem any_not {α : Type} (p : α → Bool) (l : List α) : (!l.any (fun d => !p d)) = l.all p := by
  induction l with
  | nil => rfl
  | cons a l ih => simp [← ih]
set_option maxHeartbeats 1000000 in
theorem notClauseOk_any (c : Cl) (w : World) :
    Calls Tryz.prog 103 #[.agg #[.int .i64 c.cif, .int .i64 c.n, .int .i64 c.r.f, .int .i64 c.r.b, .bool c.refuse, .int .i64 c.like, .int .i64 c.mark, .int .i64 c.clear]] w fun e w' => e = .returned (.bool (!cok c)) ∧ Ext w w' := by
  go_enter Tryz.func103, Tryz.ntmps103
  go_wp2_with (first | (first | (go_at_call 104; (with_reducible refine (iClauseOk_any c _).mono ?_); rintro _ _ ⟨rfl, x, rfl⟩)) | ((first | with_reducible refine wp_region_qe (by kernel_rfl) (by kernel_rfl) ?_ | with_reducible refine wp_region_q (by kernel_rfl) (by kernel_rfl) ?_); (repeat (go_big_quiet_step ((first | (go_at_call 104; first | with_reducible exact Calls.qb (by assumption) (iClauseOk_any c _) | with_reducible exact Calls.q (iClauseOk_any c _)))))); refine wpQuiet_nil ?_; intro x))
  go_ret
  exact ⟨rfl, (by repeat (first | with_reducible exact Ext.refl _ | with_reducible apply Ext.and | with_reducible apply Ext.drewx | with_reducible apply Ext.alloc | with_reducible apply Ext.ext | with_reducible apply Ext.drew | with_reducible refine Ext.setCell ?_ (by simp) _))⟩
set_option maxHeartbeats 1000000 in
theorem iPolicyOk_any (a : Option Addr) (len cap : Nat) (l : List Cl) (w : World) (h : SlRd w a len cap l) :
    Calls Tryz.prog 48 #[.slice a len cap] w fun e w' => e = .returned (.bool (pok l)) ∧ Ext w w' := by
  have hm := h.2.2.1
  have hlc := h.2.1
  have hlen := h.1
  unfold maxLen at hm
  have H := hidden (containsCl_any a len cap l (fun d => !cok d) 103 #[] w (callBody Tryz.func103 (by kernel_rfl) (by kernel_rfl)) h (fun w' d _ => notClauseOk_any d w'))
  by_cases h5 : len ≤ 5
  · have d5 : decide ((len : Int) ≤ 5) = true := by simp; omega
    have e : pok l = !l.any (fun d => !cok d) := by rw [any_not]; simp [pok]; omega
    rw [e]
    clear e hlen
    go_enter Tryz.func48, Tryz.ntmps48
    go_wp2_with (first | (go_at_call 102; (with_reducible refine H.out.mono ?_); rintro _ _ ⟨rfl, x, rfl⟩))
    all_goals
      go_ret
      exact ⟨ret_bool (by simp [*]), (by repeat (first | with_reducible exact Ext.refl _ | with_reducible apply Ext.and | with_reducible apply Ext.drewx | with_reducible apply Ext.alloc | with_reducible apply Ext.ext | with_reducible apply Ext.drew | with_reducible refine Ext.setCell ?_ (by simp) _))⟩
  · have d5 : decide ((len : Int) ≤ 5) = false := by simp; omega
    have e : pok l = false := by simp [pok]; omega
    rw [e]
    clear e hlen H
    go_enter Tryz.func48, Tryz.ntmps48
    go_wp2_with (first | ((first | with_reducible refine wp_region_qe (by kernel_rfl) (by kernel_rfl) ?_ | with_reducible refine wp_region_q (by kernel_rfl) (by kernel_rfl) ?_); (repeat (go_big_quiet_step (fail))); refine wpQuiet_nil ?_; intro x))
    go_ret
    exact ⟨rfl, (by repeat (first | with_reducible exact Ext.refl _ | with_reducible apply Ext.and | with_reducible apply Ext.drewx | with_reducible apply Ext.alloc | with_reducible apply Ext.ext | with_reducible apply Ext.drew | with_reducible refine Ext.setCell ?_ (by simp) _))⟩

set_option maxHeartbeats 1000000 in
theorem sPolicyOk_any (a : Option Addr) (len cap : Nat) (l : List Cl) (w : World) (h : SlRd w a len cap l) :
    Calls Tryz.prog 43 #[.slice a len cap] w fun e w' => e = .returned (.bool (pok l)) ∧ Ext w w' := by
  have hm := h.2.2.1
  have hlc := h.2.1
  have HL := hidden h.1
  unfold maxLen at hm
  go_enter Tryz.func43, Tryz.ntmps43
  go_wp2_with fail
  go_loopw [3] (fun i wr => ∃ k : Nat, k ≤ len ∧ i = .int .i64 k ∧ Ext w wr ∧ Hid ((l.take k).any (fun d => !cok d) = false)) (fun i _ => len - (intOf i).toNat)
  case atStart => exact ⟨0, Nat.zero_le _, rfl, Ext.refl _, rfl⟩
  case round =>
    obtain ⟨k, hk, rfl, hE, HT⟩ := hrel
    by_cases hlt : k < len
    · obtain ⟨d, hd, b, off, ys, rfl, hys, hcell, hrd⟩ := h.at hE hlt
      obtain ⟨rfl, g0, g1, g2, g3, g4, g5, g6⟩ := hrd
      have c0 : wr.cell? ⟨b, off + k * 8, none⟩ = some _ := hcell 0 _ rfl
      have c1 : wr.cell? ⟨b, off + k * 8 + 1, none⟩ = some _ := hcell 1 _ rfl
      have c2 : wr.cell? ⟨b, off + k * 8 + 2, none⟩ = some _ := hcell 2 _ rfl
      have c3 : wr.cell? ⟨b, off + k * 8 + 3, none⟩ = some _ := hcell 3 _ rfl
      have c4 : wr.cell? ⟨b, off + k * 8 + 4, none⟩ = some _ := hcell 4 _ rfl
      have c5 : wr.cell? ⟨b, off + k * 8 + 5, none⟩ = some _ := hcell 5 _ rfl
      have c6 : wr.cell? ⟨b, off + k * 8 + 6, none⟩ = some _ := hcell 6 _ rfl
      have c7 : wr.cell? ⟨b, off + k * 8 + 7, none⟩ = some _ := hcell 7 _ rfl
      have lb := cell_lt c0
      have HD := hidden hd
      clear hcell hys hd
      cases hp : cok d
      · go_wp2_with (first | (first | (go_at_call 95; (with_reducible refine (sClauseOk_any d _).mono ?_); rintro _ _ ⟨rfl, x, rfl⟩)) | ((first | with_reducible refine wp_region_qe (by kernel_rfl) (by kernel_rfl) ?_ | with_reducible refine wp_region_q (by kernel_rfl) (by kernel_rfl) ?_); (repeat (go_big_quiet_step ((first | (go_at_call 95; first | with_reducible exact Calls.qb (by assumption) (sClauseOk_any d _) | with_reducible exact Calls.q (sClauseOk_any d _)))))); refine wpQuiet_nil ?_; intro x))
        go_ret
        exact ⟨ret_bool (by have : l.any (fun d => !cok d) = true := any_at HD.out (by simp [hp]); have h2 := any_not cok l; rw [this] at h2; simp [pok, ← h2]), (by first | exact hE | exact hE.ext _ | exact hE.trans (by repeat (first | with_reducible exact Ext.refl _ | with_reducible apply Ext.and | with_reducible apply Ext.drewx | with_reducible apply Ext.alloc | with_reducible apply Ext.ext | with_reducible apply Ext.drew | with_reducible refine Ext.setCell ?_ (by simp) _)))⟩
      · go_wp2_with (first | (first | (go_at_call 95; (with_reducible refine (sClauseOk_any d _).mono ?_); rintro _ _ ⟨rfl, x, rfl⟩)) | ((first | with_reducible refine wp_region_qe (by kernel_rfl) (by kernel_rfl) ?_ | with_reducible refine wp_region_q (by kernel_rfl) (by kernel_rfl) ?_); (repeat (go_big_quiet_step ((first | (go_at_call 95; first | with_reducible exact Calls.qb (by assumption) (sClauseOk_any d _) | with_reducible exact Calls.q (sClauseOk_any d _)))))); refine wpQuiet_nil ?_; intro x))
        go_roundw
        case rel => exact ⟨k + 1, by omega, by go_num, (by first | exact hE | exact hE.ext _ | exact hE.trans (by repeat (first | with_reducible exact Ext.refl _ | with_reducible apply Ext.and | with_reducible apply Ext.drewx | with_reducible apply Ext.alloc | with_reducible apply Ext.ext | with_reducible apply Ext.drew | with_reducible refine Ext.setCell ?_ (by simp) _))), any_succ HT.out HD.out (by simp [hp])⟩
        case measure => simp [intOf]; omega
    · obtain rfl : k = len := by omega
      go_wp2_with (first | ((first | with_reducible refine wp_region_qe (by kernel_rfl) (by kernel_rfl) ?_ | with_reducible refine wp_region_q (by kernel_rfl) (by kernel_rfl) ?_); (repeat (go_big_quiet_step (fail))); refine wpQuiet_nil ?_; intro x))
      all_goals
        go_ret
        exact ⟨ret_bool (by have h1 := HT.out; rw [List.take_of_length_le (Nat.le_of_eq HL.out)] at h1; have h2 := any_not cok l; rw [h1] at h2; have h3 := HL.out; simp [pok, ← h2]; try omega), (by first | exact hE | exact hE.ext _ | exact hE.trans (by repeat (first | with_reducible exact Ext.refl _ | with_reducible apply Ext.and | with_reducible apply Ext.drewx | with_reducible apply Ext.alloc | with_reducible apply Ext.ext | with_reducible apply Ext.drew | with_reducible refine Ext.setCell ?_ (by simp) _)))⟩

end Go.Proofs.YtjeofgalgfopdaaGreatDoor
