/- What houses are to each other: the program's answers. No condition. -/
import Derived.Test.YtddeecfhggfnkaaRelsI
import Derived.Test.YtddeecfhggfnkaaRelsS
namespace Go.Proofs.Ytddeecfhggfnkaa
open Go Go.RowKit Go.Maps

def rV (len : Nat) (B : Nat) : Value := .agg #[.int .i64 len, .map (some B)]
theorem Kn.later {w w' : World} {B : Nat} {m : List (List Int)} (h : Kn w B m) (he : Ext w w') : Kn w' B m := by
  obtain ⟨n, D, h1, h2⟩ := h
  exact ⟨n, D, ownsMap_ext h1 he, h2⟩

set_option maxHeartbeats 400000 in
theorem of_any (len B : Nat) (m : List (List Int)) (a b : Int) (w : World) (h : Kn w B m) (wa : WF a) (wb : WF b) :
    Calls Try.prog 56 #[.agg #[.int .i64 len, .map (some B)], .int .i64 a, .int .i64 b] w fun e w' => e = .returned (.int .i64 (gP m a b)) ∧ Ext w w' := by
  obtain ⟨n, D, h1, h2⟩ := h
  have HLK : (Instr.lookup 63 (.map (some B)) (.agg #[.int .i64 a, .int .i64 b]) false).run Try.prog (w.alloc (.cells #[.int .i64 len, .map (some B)] 65)) = .ok (.int .i64 (gP m a b)) (w.alloc (.cells #[.int .i64 len, .map (some B)] 65)) :=
    look_known (h1.alloc _) h2 wa wb
  clear h1 h2 wa wb
  go_enter Try.func56, Try.ntmps56
  go_wp2_with fail
  go_ret
  exact ⟨rfl, (by repeat (first | with_reducible exact Ext.refl _ | with_reducible apply Ext.and | with_reducible apply Ext.drewx | with_reducible apply Ext.alloc | with_reducible apply Ext.ext | with_reducible apply Ext.drew | with_reducible refine Ext.setCell ?_ (by simp) _))⟩

theorem has_b {len : Nat} {h : Int} (k : 1 ≤ h) : decide (h ≤ (len : Int)) = inB h 1 len := by unfold inB; rw [decide_eq_decide]; omega
set_option maxHeartbeats 400000 in
theorem has_any (len B : Nat) (h : Int) (w : World) :
    Calls Try.prog 58 #[.agg #[.int .i64 len, .map (some B)], .int .i64 h] w fun e w' => e = .returned (.bool (inB h 1 len)) ∧ Ext w w' := by
  by_cases k : 1 ≤ h
  · have hb : decide (1 ≤ h) = true := by simpa using k
    go_enter Try.func58, Try.ntmps58
    go_wp2_with fail
    go_ret
    exact ⟨ret_bool (has_b k), (by repeat (first | with_reducible exact Ext.refl _ | with_reducible apply Ext.and | with_reducible apply Ext.drewx | with_reducible apply Ext.alloc | with_reducible apply Ext.ext | with_reducible apply Ext.drew | with_reducible refine Ext.setCell ?_ (by simp) _))⟩
  · have hb : decide (1 ≤ h) = false := by simpa using k
    go_enter Try.func58, Try.ntmps58
    go_wp2_with fail
    go_ret
    exact ⟨ret_bool (inB_f (by omega)).symm, (by repeat (first | with_reducible exact Ext.refl _ | with_reducible apply Ext.and | with_reducible apply Ext.drewx | with_reducible apply Ext.alloc | with_reducible apply Ext.ext | with_reducible apply Ext.drew | with_reducible refine Ext.setCell ?_ (by simp) _))⟩

def expB (m : List (List Int)) (h o t : Int) : Bool := gP m h t != 0 && (o == 0 || gP m h o == 1 || gP m h t == 1)

set_option maxHeartbeats 1000000 in
theorem exports_any (len B : Nat) (m : List (List Int)) (x o t : Int) (w : World) (h : Kn w B m) (wx : WF x) (wo : WF o) (wt : WF t) :
    Calls Try.prog 59 #[.agg #[.int .i64 len, .map (some B)], .int .i64 x, .int .i64 o, .int .i64 t] w fun e w' => e = .returned (.bool (expB m x o t)) ∧ Ext w w' := by
  have wx := hidden wx
  have wo := hidden wo
  have wt := hidden wt
  cases b1 : gP m x t != 0
  case' true => cases b2 : o == 0
  case' true.false => cases b3 : gP m x o == 1
  all_goals
    go_enter Try.func59, Try.ntmps59
    go_wp2_with (first | (first | (go_at_call 56; (with_reducible refine (of_any len B m _ _ _ (h.later (by repeat (first | with_reducible exact Ext.refl _ | with_reducible apply Ext.and | with_reducible apply Ext.drewx | with_reducible apply Ext.alloc | with_reducible apply Ext.ext | with_reducible apply Ext.drew | with_reducible refine Ext.setCell ?_ (by simp) _))) (by first | exact wx.out | exact wo.out | exact wt.out) (by first | exact wo.out | exact wt.out)).mono ?_); rintro _ _ ⟨rfl, x, rfl⟩)) | ((first | with_reducible refine wp_region_qe (by kernel_rfl) (by kernel_rfl) ?_ | with_reducible refine wp_region_q (by kernel_rfl) (by kernel_rfl) ?_); (repeat' (first | go_big_quiet_step ((first | (go_at_call 56; first | with_reducible exact Calls.qb (by assumption) (of_any len B m _ _ _ (h.later (by repeat (first | with_reducible exact Ext.refl _ | with_reducible apply Ext.and | with_reducible apply Ext.drewx | with_reducible apply Ext.alloc | with_reducible apply Ext.ext | with_reducible apply Ext.drew | with_reducible refine Ext.setCell ?_ (by simp) _))) (by first | exact wx.out | exact wo.out | exact wt.out) (by first | exact wo.out | exact wt.out)) | with_reducible exact Calls.q (of_any len B m _ _ _ (h.later (by repeat (first | with_reducible exact Ext.refl _ | with_reducible apply Ext.and | with_reducible apply Ext.drewx | with_reducible apply Ext.alloc | with_reducible apply Ext.ext | with_reducible apply Ext.drew | with_reducible refine Ext.setCell ?_ (by simp) _))) (by first | exact wx.out | exact wo.out | exact wt.out) (by first | exact wo.out | exact wt.out))))) | (refine wpQuiet_split rfl rfl rfl rfl (fun hsp => ?_) (fun hsp => ?_); ((fail_if_success (cases hsp; done)); simp only [hsp]; (try first | have hsq : _ < _ := of_decide_eq_true hsp | have hsq : _ ≤ _ := of_decide_eq_true hsp | have hsq : ¬ _ < _ := of_decide_eq_false hsp | have hsq : ¬ _ ≤ _ := of_decide_eq_false hsp)); rotate_left; ((fail_if_success (cases hsp; done)); simp only [hsp]; (try first | have hsq : _ < _ := of_decide_eq_true hsp | have hsq : _ ≤ _ := of_decide_eq_true hsp | have hsq : ¬ _ < _ := of_decide_eq_false hsp | have hsq : ¬ _ ≤ _ := of_decide_eq_false hsp))))); (all_goals (refine wpQuiet_nil ?_; intro x))))
    go_ret
    exact ⟨ret_bool (by simp [expB, *]), (by repeat (first | with_reducible exact Ext.refl _ | with_reducible apply Ext.and | with_reducible apply Ext.drewx | with_reducible apply Ext.alloc | with_reducible apply Ext.ext | with_reducible apply Ext.drew | with_reducible refine Ext.setCell ?_ (by simp) _))⟩

set_option maxHeartbeats 400000 in
theorem iRelsOk_any (a : Option Addr) (len cap : Nat) (m : List (List Int)) (w : World) (h : SlRd w a len cap m) :
    Calls Try.prog 17 #[.slice a len cap] w fun e w' => e = .returned (.bool (rls m)) ∧ Ext w w' := by
  go_enter Try.func17, Try.ntmps17
  go_wp2_with (first | (first | ((go_at_call 54; (with_reducible refine (readRels_any _ _ _ m _ (h.stays ((by repeat (first | with_reducible exact Ext.refl _ | with_reducible apply Ext.and | with_reducible apply Ext.drewx | with_reducible apply Ext.alloc | with_reducible apply Ext.ext | with_reducible apply Ext.drew | with_reducible refine Ext.setCell ?_ (by simp) _)) : Ext _ _).below)).mono ?_); rintro _ _ ⟨⟨hr, B, rfl, hK⟩ | ⟨hr, rfl⟩, x, rfl⟩))) | ((first | with_reducible refine wp_region_qe (by kernel_rfl) (by kernel_rfl) ?_ | with_reducible refine wp_region_q (by kernel_rfl) (by kernel_rfl) ?_); (repeat' (first | go_big_quiet_step ((first | ((go_at_call 54; (with_reducible refine (readRels_any _ _ _ m _ (h.stays ((by repeat (first | with_reducible exact Ext.refl _ | with_reducible apply Ext.and | with_reducible apply Ext.drewx | with_reducible apply Ext.alloc | with_reducible apply Ext.ext | with_reducible apply Ext.drew | with_reducible refine Ext.setCell ?_ (by simp) _)) : Ext _ _).below)).mono ?_); rintro _ _ ⟨⟨hr, B, rfl, hK⟩ | ⟨hr, rfl⟩, x, rfl⟩)))) | (refine wpQuiet_split rfl rfl rfl rfl (fun hsp => ?_) (fun hsp => ?_); ((fail_if_success (cases hsp; done)); simp only [hsp]; (try first | have hsq : _ < _ := of_decide_eq_true hsp | have hsq : _ ≤ _ := of_decide_eq_true hsp | have hsq : ¬ _ < _ := of_decide_eq_false hsp | have hsq : ¬ _ ≤ _ := of_decide_eq_false hsp)); rotate_left; ((fail_if_success (cases hsp; done)); simp only [hsp]; (try first | have hsq : _ < _ := of_decide_eq_true hsp | have hsq : _ ≤ _ := of_decide_eq_true hsp | have hsq : ¬ _ < _ := of_decide_eq_false hsp | have hsq : ¬ _ ≤ _ := of_decide_eq_false hsp))))); (all_goals (refine wpQuiet_nil ?_; intro x))))
  all_goals
    go_ret
    exact ⟨ret_bool hr.symm, (by repeat (first | with_reducible exact Ext.refl _ | with_reducible apply Ext.and | with_reducible apply Ext.drewx | with_reducible apply Ext.alloc | with_reducible apply Ext.ext | with_reducible apply Ext.drew | with_reducible refine Ext.setCell ?_ (by simp) _))⟩

theorem relOf_gP {m : List (List Int)} (h : rls m = true) (a b : Int) : gP m a b = relOf m a b := by
  unfold gP relOf
  by_cases k : (1 ≤ a ∧ a ≤ (m.length : Int)) ∧ 1 ≤ b ∧ b ≤ (m.length : Int)
  · rw [if_pos k, if_pos ⟨h, inB_true.2 k.1, inB_true.2 k.2⟩]
  · rw [if_neg k, if_neg (fun hh => k ⟨inB_true.1 hh.2.1, inB_true.1 hh.2.2⟩)]
theorem relOf_no {m : List (List Int)} (h : rls m = false) (a b : Int) : relOf m a b = 0 := by unfold relOf; rw [if_neg (by simp [h])]

set_option maxHeartbeats 400000 in
theorem iRelOf_any (a : Option Addr) (len cap : Nat) (m : List (List Int)) (x y : Int) (w : World) (h : SlRd w a len cap m) (wx : I64 x) (wy : I64 y) :
    Calls Try.prog 20 #[.slice a len cap, .int .i64 x, .int .i64 y] w fun e w' => e = .returned (.int .i64 (relOf m x y)) ∧ Ext w w' := by
  have wx : Hid (WF x) := wx
  have wy : Hid (WF y) := wy
  go_enter Try.func20, Try.ntmps20
  go_wp2_with (first | (first | ((go_at_call 54; (with_reducible refine (readRels_any _ _ _ m _ (h.stays ((by repeat (first | with_reducible exact Ext.refl _ | with_reducible apply Ext.and | with_reducible apply Ext.drewx | with_reducible apply Ext.alloc | with_reducible apply Ext.ext | with_reducible apply Ext.drew | with_reducible refine Ext.setCell ?_ (by simp) _)) : Ext _ _).below)).mono ?_); rintro _ _ ⟨⟨hr, B, rfl, hK⟩ | ⟨hr, rfl⟩, z, rfl⟩)) | (go_at_call 56; (with_reducible refine (of_any len _ m _ _ _ (hK.later ((by repeat (first | with_reducible exact Ext.refl _ | with_reducible apply Ext.and | with_reducible apply Ext.drewx | with_reducible apply Ext.alloc | with_reducible apply Ext.ext | with_reducible apply Ext.drew | with_reducible refine Ext.setCell ?_ (by simp) _)) : Ext _ _)) wx.out wy.out).mono ?_); rintro _ _ ⟨rfl, x, rfl⟩)) | ((first | with_reducible refine wp_region_qe (by kernel_rfl) (by kernel_rfl) ?_ | with_reducible refine wp_region_q (by kernel_rfl) (by kernel_rfl) ?_); (repeat' (first | go_big_quiet_step ((first | ((go_at_call 54; (with_reducible refine (readRels_any _ _ _ m _ (h.stays ((by repeat (first | with_reducible exact Ext.refl _ | with_reducible apply Ext.and | with_reducible apply Ext.drewx | with_reducible apply Ext.alloc | with_reducible apply Ext.ext | with_reducible apply Ext.drew | with_reducible refine Ext.setCell ?_ (by simp) _)) : Ext _ _).below)).mono ?_); rintro _ _ ⟨⟨hr, B, rfl, hK⟩ | ⟨hr, rfl⟩, z, rfl⟩)) | (go_at_call 56; first | with_reducible exact Calls.qb (by assumption) (of_any len _ m _ _ _ (hK.later ((by repeat (first | with_reducible exact Ext.refl _ | with_reducible apply Ext.and | with_reducible apply Ext.drewx | with_reducible apply Ext.alloc | with_reducible apply Ext.ext | with_reducible apply Ext.drew | with_reducible refine Ext.setCell ?_ (by simp) _)) : Ext _ _)) wx.out wy.out) | with_reducible exact Calls.q (of_any len _ m _ _ _ (hK.later ((by repeat (first | with_reducible exact Ext.refl _ | with_reducible apply Ext.and | with_reducible apply Ext.drewx | with_reducible apply Ext.alloc | with_reducible apply Ext.ext | with_reducible apply Ext.drew | with_reducible refine Ext.setCell ?_ (by simp) _)) : Ext _ _)) wx.out wy.out)))) | (refine wpQuiet_split rfl rfl rfl rfl (fun hsp => ?_) (fun hsp => ?_); ((fail_if_success (cases hsp; done)); simp only [hsp]; (try first | have hsq : _ < _ := of_decide_eq_true hsp | have hsq : _ ≤ _ := of_decide_eq_true hsp | have hsq : ¬ _ < _ := of_decide_eq_false hsp | have hsq : ¬ _ ≤ _ := of_decide_eq_false hsp)); rotate_left; ((fail_if_success (cases hsp; done)); simp only [hsp]; (try first | have hsq : _ < _ := of_decide_eq_true hsp | have hsq : _ ≤ _ := of_decide_eq_true hsp | have hsq : ¬ _ < _ := of_decide_eq_false hsp | have hsq : ¬ _ ≤ _ := of_decide_eq_false hsp))))); (all_goals (refine wpQuiet_nil ?_; intro x))))
  · go_ret
    exact ⟨ret_int (relOf_gP hr _ _), (by repeat (first | with_reducible exact Ext.refl _ | with_reducible apply Ext.and | with_reducible apply Ext.drewx | with_reducible apply Ext.alloc | with_reducible apply Ext.ext | with_reducible apply Ext.drew | with_reducible refine Ext.setCell ?_ (by simp) _))⟩
  · go_ret
    exact ⟨ret_int (relOf_no hr _ _).symm, (by repeat (first | with_reducible exact Ext.refl _ | with_reducible apply Ext.and | with_reducible apply Ext.drewx | with_reducible apply Ext.alloc | with_reducible apply Ext.ext | with_reducible apply Ext.drew | with_reducible refine Ext.setCell ?_ (by simp) _))⟩

theorem relMay_eq {m : List (List Int)} (hr : rls m = true) (h o t : Int) : relMay m h o t = (inB h 1 m.length && inB t 1 m.length && (o == 0 || inB o 1 m.length) && expB m h o t) := by
  unfold relMay
  rw [hr, Bool.true_and]
  cases k1 : inB h 1 m.length
  · simp
  cases k2 : inB t 1 m.length
  · simp
  simp only [Bool.true_and]
  have h1 := inB_true.1 k1
  have h2 := inB_true.1 k2
  have e1 : gP m h t = gJ m h t := by unfold gP; rw [if_pos ⟨h1, h2⟩]
  by_cases k3 : o = 0
  · subst k3
    have e3 : inB 0 0 m.length = true := inB_t (by omega) (by omega)
    simp only [e3, Bool.true_and, mayB, expB, e1, beq_self_eq_true, Bool.true_or]
    by_cases z : gJ m h t = 0 <;> simp [z]
  · cases k4 : inB o 1 m.length
    · have e3 : inB o 0 m.length = false := inB_f (fun hh => by have := inB_false.1 k4; omega)
      simp [e3, k3]
    · have h4 := inB_true.1 k4
      have e3 : inB o 0 m.length = true := inB_t (by omega) (by omega)
      have e2 : gP m h o = gJ m h o := by unfold gP; rw [if_pos ⟨h1, h4⟩]
      simp only [e3, Bool.true_and, mayB, expB, e1, e2, Bool.or_true]
      by_cases z : gJ m h t = 0
      · simp [z]
      · simp only [z, if_false, k3, decide_false, Bool.false_or]
        rw [Bool.eq_iff_iff]; simp [z, k3]

set_option maxHeartbeats 1000000 in
theorem iRelMay_any (a : Option Addr) (len cap : Nat) (m : List (List Int)) (x o t : Int) (w : World) (h : SlRd w a len cap m) (wx : I64 x) (wo : I64 o) (wt : I64 t) :
    Calls Try.prog 22 #[.slice a len cap, .int .i64 x, .int .i64 o, .int .i64 t] w fun e w' => e = .returned (.bool (relMay m x o t)) ∧ Ext w w' := by
  have wx : Hid (WF x) := wx
  have wo : Hid (WF o) := wo
  have wt : Hid (WF t) := wt
  have HL := hidden h.1
  cases hr : rls m
  · go_enter Try.func22, Try.ntmps22
    go_wp2_with (first | (first | ((go_at_call 54; (with_reducible refine (readRels_any _ _ _ m _ (h.stays ((by repeat (first | with_reducible exact Ext.refl _ | with_reducible apply Ext.and | with_reducible apply Ext.drewx | with_reducible apply Ext.alloc | with_reducible apply Ext.ext | with_reducible apply Ext.drew | with_reducible refine Ext.setCell ?_ (by simp) _)) : Ext _ _).below)).mono ?_); rintro _ _ ⟨⟨hq, B, rfl, hK⟩ | ⟨hq, rfl⟩, z, rfl⟩; (first | (rw [hr] at hq; cases hq; done) | skip)))) | ((first | with_reducible refine wp_region_qe (by kernel_rfl) (by kernel_rfl) ?_ | with_reducible refine wp_region_q (by kernel_rfl) (by kernel_rfl) ?_); (repeat' (first | go_big_quiet_step ((first | ((go_at_call 54; (with_reducible refine (readRels_any _ _ _ m _ (h.stays ((by repeat (first | with_reducible exact Ext.refl _ | with_reducible apply Ext.and | with_reducible apply Ext.drewx | with_reducible apply Ext.alloc | with_reducible apply Ext.ext | with_reducible apply Ext.drew | with_reducible refine Ext.setCell ?_ (by simp) _)) : Ext _ _).below)).mono ?_); rintro _ _ ⟨⟨hq, B, rfl, hK⟩ | ⟨hq, rfl⟩, z, rfl⟩; (first | (rw [hr] at hq; cases hq; done) | skip))))) | (refine wpQuiet_split rfl rfl rfl rfl (fun hsp => ?_) (fun hsp => ?_); ((fail_if_success (cases hsp; done)); simp only [hsp]; (try first | have hsq : _ < _ := of_decide_eq_true hsp | have hsq : _ ≤ _ := of_decide_eq_true hsp | have hsq : ¬ _ < _ := of_decide_eq_false hsp | have hsq : ¬ _ ≤ _ := of_decide_eq_false hsp)); rotate_left; ((fail_if_success (cases hsp; done)); simp only [hsp]; (try first | have hsq : _ < _ := of_decide_eq_true hsp | have hsq : _ ≤ _ := of_decide_eq_true hsp | have hsq : ¬ _ < _ := of_decide_eq_false hsp | have hsq : ¬ _ ≤ _ := of_decide_eq_false hsp))))); (all_goals (refine wpQuiet_nil ?_; intro x))))
    all_goals first
      | (rw [hr] at hq; cases hq; done)
      | (go_ret; exact ⟨ret_bool (by simp [relMay, hr]), (by repeat (first | with_reducible exact Ext.refl _ | with_reducible apply Ext.and | with_reducible apply Ext.drewx | with_reducible apply Ext.alloc | with_reducible apply Ext.ext | with_reducible apply Ext.drew | with_reducible refine Ext.setCell ?_ (by simp) _))⟩)
  · have e := relMay_eq hr x o t
    rw [HL.out] at e
    rw [e]
    clear e
    cases k1 : inB x 1 len
    case' true => cases k2 : inB t 1 len
    case' true.true => cases k3 : o == 0
    case' true.true.false => cases k4 : inB o 1 len
    all_goals
      go_enter Try.func22, Try.ntmps22
      go_wp2_with (first | (first | ((go_at_call 54; (with_reducible refine (readRels_any _ _ _ m _ (h.stays ((by repeat (first | with_reducible exact Ext.refl _ | with_reducible apply Ext.and | with_reducible apply Ext.drewx | with_reducible apply Ext.alloc | with_reducible apply Ext.ext | with_reducible apply Ext.drew | with_reducible refine Ext.setCell ?_ (by simp) _)) : Ext _ _).below)).mono ?_); rintro _ _ ⟨⟨hq, B, rfl, hK⟩ | ⟨hq, rfl⟩, z, rfl⟩)) | (go_at_call 58; (with_reducible refine (has_any len _ _ _).mono ?_); rintro _ _ ⟨rfl, x, rfl⟩) | (go_at_call 59; (with_reducible refine (exports_any len _ m _ _ _ _ (hK.later ((by repeat (first | with_reducible exact Ext.refl _ | with_reducible apply Ext.and | with_reducible apply Ext.drewx | with_reducible apply Ext.alloc | with_reducible apply Ext.ext | with_reducible apply Ext.drew | with_reducible refine Ext.setCell ?_ (by simp) _)) : Ext _ _)) wx.out wo.out wt.out).mono ?_); rintro _ _ ⟨rfl, x, rfl⟩)) | ((first | with_reducible refine wp_region_qe (by kernel_rfl) (by kernel_rfl) ?_ | with_reducible refine wp_region_q (by kernel_rfl) (by kernel_rfl) ?_); (repeat' (first | go_big_quiet_step ((first | ((go_at_call 54; (with_reducible refine (readRels_any _ _ _ m _ (h.stays ((by repeat (first | with_reducible exact Ext.refl _ | with_reducible apply Ext.and | with_reducible apply Ext.drewx | with_reducible apply Ext.alloc | with_reducible apply Ext.ext | with_reducible apply Ext.drew | with_reducible refine Ext.setCell ?_ (by simp) _)) : Ext _ _).below)).mono ?_); rintro _ _ ⟨⟨hq, B, rfl, hK⟩ | ⟨hq, rfl⟩, z, rfl⟩)) | (go_at_call 58; first | with_reducible exact Calls.qb (by assumption) (has_any len _ _ _) | with_reducible exact Calls.q (has_any len _ _ _)) | (go_at_call 59; first | with_reducible exact Calls.qb (by assumption) (exports_any len _ m _ _ _ _ (hK.later ((by repeat (first | with_reducible exact Ext.refl _ | with_reducible apply Ext.and | with_reducible apply Ext.drewx | with_reducible apply Ext.alloc | with_reducible apply Ext.ext | with_reducible apply Ext.drew | with_reducible refine Ext.setCell ?_ (by simp) _)) : Ext _ _)) wx.out wo.out wt.out) | with_reducible exact Calls.q (exports_any len _ m _ _ _ _ (hK.later ((by repeat (first | with_reducible exact Ext.refl _ | with_reducible apply Ext.and | with_reducible apply Ext.drewx | with_reducible apply Ext.alloc | with_reducible apply Ext.ext | with_reducible apply Ext.drew | with_reducible refine Ext.setCell ?_ (by simp) _)) : Ext _ _)) wx.out wo.out wt.out)))) | (refine wpQuiet_split rfl rfl rfl rfl (fun hsp => ?_) (fun hsp => ?_); ((fail_if_success (cases hsp; done)); simp only [hsp]; (try first | have hsq : _ < _ := of_decide_eq_true hsp | have hsq : _ ≤ _ := of_decide_eq_true hsp | have hsq : ¬ _ < _ := of_decide_eq_false hsp | have hsq : ¬ _ ≤ _ := of_decide_eq_false hsp)); rotate_left; ((fail_if_success (cases hsp; done)); simp only [hsp]; (try first | have hsq : _ < _ := of_decide_eq_true hsp | have hsq : _ ≤ _ := of_decide_eq_true hsp | have hsq : ¬ _ < _ := of_decide_eq_false hsp | have hsq : ¬ _ ≤ _ := of_decide_eq_false hsp))))); (all_goals (refine wpQuiet_nil ?_; intro x))))
    all_goals first
      | (rw [hr] at hq; cases hq; done)
      | (go_ret; exact ⟨ret_bool (by first | (simp; done) | (simp [*]; done)), (by repeat (first | with_reducible exact Ext.refl _ | with_reducible apply Ext.and | with_reducible apply Ext.drewx | with_reducible apply Ext.alloc | with_reducible apply Ext.ext | with_reducible apply Ext.drew | with_reducible refine Ext.setCell ?_ (by simp) _))⟩)

end Go.Proofs.Ytddeecfhggfnkaa
