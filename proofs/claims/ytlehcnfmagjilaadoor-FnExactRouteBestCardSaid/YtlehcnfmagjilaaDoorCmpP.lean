/- The order of paths and of routes. No condition. -/
import Derived.Test.YtlehcnfmagjilaaDoorRoute
import Derived.Test.YtlehcnfmagjilaaDoorSeq
namespace Go.Proofs.YtlehcnfmagjilaaDoor
open Go Go.RowKit

/-- Lists in the order of their numbers. -/
def lexC : List Int → List Int → Int
  | [], [] => 0
  | [], _ :: _ => -1
  | _ :: _, [] => 1
  | x :: a, y :: b => if x < y then -1 else if y < x then 1 else lexC a b
theorem lexC_bd : ∀ a b : List Int, -1 ≤ lexC a b ∧ lexC a b ≤ 1
  | [], [] => by simp [lexC]
  | [], _ :: _ => by simp [lexC]
  | _ :: _, [] => by simp [lexC]
  | x :: a, y :: b => by
    have := lexC_bd a b
    unfold lexC
    split
    · omega
    · split
      · omega
      · exact this
theorem drop_at {α : Type} {l : List α} {k : Nat} {x : α} (h : l[k]? = some x) : l.drop k = x :: l.drop (k + 1) := by
  obtain ⟨h1, h2⟩ := List.getElem?_eq_some_iff.1 h
  rw [List.drop_eq_getElem_cons h1, h2]
def LexK (l l' : List Int) (k : Nat) : Prop := lexC l l' = lexC (l.drop k) (l'.drop k)
theorem LexK.zero {l l' : List Int} : Hid (LexK l l' 0) := hidden rfl
theorem LexK.lt {l l' : List Int} {k : Nat} {x y : Int} (h : LexK l l' k) (hx : l[k]? = some x) (hy : l'[k]? = some y) (hl : x < y) : lexC l l' = -1 := by
  unfold LexK at h
  rw [h, drop_at hx, drop_at hy, lexC, if_pos hl]
theorem LexK.gt {l l' : List Int} {k : Nat} {x y : Int} (h : LexK l l' k) (hx : l[k]? = some x) (hy : l'[k]? = some y) (hl : y < x) : lexC l l' = 1 := by
  unfold LexK at h
  rw [h, drop_at hx, drop_at hy, lexC, if_neg (by omega), if_pos hl]
theorem LexK.step {l l' : List Int} {k : Nat} {x y : Int} (h : LexK l l' k) (hx : l[k]? = some x) (hy : l'[k]? = some y) (h1 : ¬ x < y) (h2 : ¬ y < x) : Hid (LexK l l' (k + 1)) := by
  unfold LexK at h
  refine hidden ?_
  unfold LexK
  rw [h, drop_at hx, drop_at hy, lexC, if_neg h1, if_neg h2]
theorem LexK.longer {l l' : List Int} {k : Nat} {x : Int} (h : LexK l l' k) (hx : l[k]? = some x) (hk : l'.length ≤ k) : lexC l l' = 1 := by
  unfold LexK at h
  rw [h, drop_at hx, List.drop_eq_nil_of_le hk]
  rfl
theorem LexK.shorter {l l' : List Int} {k : Nat} (h : LexK l l' k) (hl : l.length = k) (hk : k < l'.length) : lexC l l' = -1 := by
  unfold LexK at h
  rw [h, List.drop_eq_nil_of_le (by omega : l.length ≤ k), List.drop_eq_getElem_cons hk]
  rfl
theorem LexK.same {l l' : List Int} {k : Nat} (h : LexK l l' k) (hl : l.length = k) (hk : l'.length ≤ k) : lexC l l' = 0 := by
  unfold LexK at h
  rw [h, List.drop_eq_nil_of_le (by omega : l.length ≤ k), List.drop_eq_nil_of_le hk]
  rfl
/-- Shorter ones first. -/
def pcmp (l l' : List Int) : Int := orL [cmpI l.length l'.length, lexC l l']
theorem pcmp_lt {l l' : List Int} {n n' : Nat} (h : l.length = n) (h' : l'.length = n') (hl : n < n') : pcmp l l' = -1 := by
  unfold pcmp; rw [h, h', cmpI_lt (by omega)]; rfl
theorem pcmp_gt {l l' : List Int} {n n' : Nat} (h : l.length = n) (h' : l'.length = n') (hl : n' < n) : pcmp l l' = 1 := by
  unfold pcmp; rw [h, h', cmpI_gt (by omega)]; rfl
theorem pcmp_eq {l l' : List Int} {n : Nat} (h : l.length = n) (h' : l'.length = n) : pcmp l l' = lexC l l' := by
  unfold pcmp; rw [h, h', cmpI_eq]
  simp only [orL, if_true]
  split
  · exact (by assumption : lexC l l' = 0).symm
  · rfl
theorem pcmp_bd (l l' : List Int) : -1 ≤ pcmp l l' ∧ pcmp l l' ≤ 1 := by
  have h1 := cmpI_bd l.length l'.length
  have h2 := lexC_bd l l'
  unfold pcmp orL orL orL
  split
  · split <;> omega
  · exact h1

set_option maxHeartbeats 1000000 in
theorem l3Cmp_any (a : Option Addr) (len cap : Nat) (l : List Int) (a' : Option Addr) (len' cap' : Nat) (l' : List Int) (w : World) (h : SlRd w a len cap l) (h' : SlRd w a' len' cap' l') :
    Calls Tryd.prog 57 #[.slice a len cap, .slice a' len' cap'] w fun e w' => e = .returned (.int .i64 (pcmp l l')) ∧ Ext w w' := by
  have hm := h.2.2.1
  have hlc := h.2.1
  have hlc' := h'.2.1
  have hm' := h'.2.2.1
  have HL := hidden h.1
  have HL' := hidden h'.1
  unfold maxLen at hm hm'
  rcases Nat.lt_trichotomy len len' with hlt | rfl | hlt
  · go_enter Tryd.func57, Tryd.ntmps57
    go_wp2_with (first | ((first | with_reducible refine wp_region_qe (by kernel_rfl) (by kernel_rfl) ?_ | with_reducible refine wp_region_q (by kernel_rfl) (by kernel_rfl) ?_); (repeat' (first | go_big_quiet_step (fail) | (refine wpQuiet_split rfl rfl rfl rfl (fun hsp => ?_) (fun hsp => ?_); ((fail_if_success (cases hsp; done)); simp only [hsp]; (try first | have hsq : _ < _ := of_decide_eq_true hsp | have hsq : _ ≤ _ := of_decide_eq_true hsp | have hsq : ¬ _ < _ := of_decide_eq_false hsp | have hsq : ¬ _ ≤ _ := of_decide_eq_false hsp)); rotate_left; ((fail_if_success (cases hsp; done)); simp only [hsp]; (try first | have hsq : _ < _ := of_decide_eq_true hsp | have hsq : _ ≤ _ := of_decide_eq_true hsp | have hsq : ¬ _ < _ := of_decide_eq_false hsp | have hsq : ¬ _ ≤ _ := of_decide_eq_false hsp))))); (all_goals (refine wpQuiet_nil ?_; intro x))))
    go_ret
    exact ⟨ret_int (pcmp_lt HL.out HL'.out hlt).symm, Ext.refl _⟩
  · go_enter Tryd.func57, Tryd.ntmps57
    go_wp2_with fail
    go_loopw [5] (fun i wr => ∃ k : Nat, k ≤ len ∧ i = .int .i64 k ∧ Ext w wr ∧ Hid (LexK l l' k)) (fun i _ => len - (intOf i).toNat)
    case atStart => exact ⟨0, Nat.zero_le _, rfl, Ext.refl _, LexK.zero⟩
    case round =>
      obtain ⟨k, hk, rfl, hE, HT⟩ := hrel
      by_cases hlt : k < len
      · obtain ⟨x, xhd, xb, xoff, xys, rfl, xhys, xhcell, xhrd⟩ := h.at hE hlt
        obtain ⟨rfl, xg0⟩ := xhrd
        have xc0 : wr.cell? ⟨xb, xoff + k, none⟩ = some (.int .i64 x) := by have := xhcell 0 _ rfl; simpa [Lay.n] using this
        have xlb := cell_lt xc0
        have xHD := hidden xhd
        clear xhcell xhys xhd
        obtain ⟨y, yhd, yb, yoff, yys, rfl, yhys, yhcell, yhrd⟩ := h'.at hE hlt
        obtain ⟨rfl, yg0⟩ := yhrd
        have yc0 : wr.cell? ⟨yb, yoff + k, none⟩ = some (.int .i64 y) := by have := yhcell 0 _ rfl; simpa [Lay.n] using this
        have ylb := cell_lt yc0
        have yHD := hidden yhd
        clear yhcell yhys yhd
        go_wp2_with (first | ((first | with_reducible refine wp_region_qe (by kernel_rfl) (by kernel_rfl) ?_ | with_reducible refine wp_region_q (by kernel_rfl) (by kernel_rfl) ?_); (repeat' (first | go_big_quiet_step (fail) | (refine wpQuiet_split rfl rfl rfl rfl (fun hsp => ?_) (fun hsp => ?_); ((fail_if_success (cases hsp; done)); simp only [hsp]; (try first | have hsq : _ < _ := of_decide_eq_true hsp | have hsq : _ ≤ _ := of_decide_eq_true hsp | have hsq : ¬ _ < _ := of_decide_eq_false hsp | have hsq : ¬ _ ≤ _ := of_decide_eq_false hsp)); rotate_left; ((fail_if_success (cases hsp; done)); simp only [hsp]; (try first | have hsq : _ < _ := of_decide_eq_true hsp | have hsq : _ ≤ _ := of_decide_eq_true hsp | have hsq : ¬ _ < _ := of_decide_eq_false hsp | have hsq : ¬ _ ≤ _ := of_decide_eq_false hsp))))); (all_goals (refine wpQuiet_nil ?_; intro x))))
        all_goals first
          | (go_ret; exact ⟨ret_int (by rw [pcmp_eq HL.out HL'.out, HT.out.lt xHD.out yHD.out (by assumption)]), (by first | exact hE | exact hE.ext _ | exact hE.trans (by repeat (first | with_reducible exact Ext.refl _ | with_reducible apply Ext.and | with_reducible apply Ext.drewx | with_reducible apply Ext.alloc | with_reducible apply Ext.ext | with_reducible apply Ext.drew | with_reducible refine Ext.setCell ?_ (by simp) _)))⟩)
          | (go_ret; exact ⟨ret_int (by rw [pcmp_eq HL.out HL'.out, HT.out.gt xHD.out yHD.out (by assumption)]), (by first | exact hE | exact hE.ext _ | exact hE.trans (by repeat (first | with_reducible exact Ext.refl _ | with_reducible apply Ext.and | with_reducible apply Ext.drewx | with_reducible apply Ext.alloc | with_reducible apply Ext.ext | with_reducible apply Ext.drew | with_reducible refine Ext.setCell ?_ (by simp) _)))⟩)
          | (go_roundw; (case rel => exact ⟨k + 1, by omega, by go_num, (by first | exact hE | exact hE.ext _ | exact hE.trans (by repeat (first | with_reducible exact Ext.refl _ | with_reducible apply Ext.and | with_reducible apply Ext.drewx | with_reducible apply Ext.alloc | with_reducible apply Ext.ext | with_reducible apply Ext.drew | with_reducible refine Ext.setCell ?_ (by simp) _))), HT.out.step xHD.out yHD.out (by omega) (by omega)⟩); (case measure => simp [intOf]; omega))
      · obtain rfl : len = k := by omega
        go_wp2_with (first | ((first | with_reducible refine wp_region_qe (by kernel_rfl) (by kernel_rfl) ?_ | with_reducible refine wp_region_q (by kernel_rfl) (by kernel_rfl) ?_); (repeat' (first | go_big_quiet_step (fail) | (refine wpQuiet_split rfl rfl rfl rfl (fun hsp => ?_) (fun hsp => ?_); ((fail_if_success (cases hsp; done)); simp only [hsp]; (try first | have hsq : _ < _ := of_decide_eq_true hsp | have hsq : _ ≤ _ := of_decide_eq_true hsp | have hsq : ¬ _ < _ := of_decide_eq_false hsp | have hsq : ¬ _ ≤ _ := of_decide_eq_false hsp)); rotate_left; ((fail_if_success (cases hsp; done)); simp only [hsp]; (try first | have hsq : _ < _ := of_decide_eq_true hsp | have hsq : _ ≤ _ := of_decide_eq_true hsp | have hsq : ¬ _ < _ := of_decide_eq_false hsp | have hsq : ¬ _ ≤ _ := of_decide_eq_false hsp))))); (all_goals (refine wpQuiet_nil ?_; intro x))))
        go_ret
        exact ⟨ret_int (by rw [pcmp_eq HL.out HL'.out, HT.out.same HL.out (by have := HL'.out; omega)]), (by first | exact hE | exact hE.ext _ | exact hE.trans (by repeat (first | with_reducible exact Ext.refl _ | with_reducible apply Ext.and | with_reducible apply Ext.drewx | with_reducible apply Ext.alloc | with_reducible apply Ext.ext | with_reducible apply Ext.drew | with_reducible refine Ext.setCell ?_ (by simp) _)))⟩
  · go_enter Tryd.func57, Tryd.ntmps57
    go_wp2_with (first | ((first | with_reducible refine wp_region_qe (by kernel_rfl) (by kernel_rfl) ?_ | with_reducible refine wp_region_q (by kernel_rfl) (by kernel_rfl) ?_); (repeat' (first | go_big_quiet_step (fail) | (refine wpQuiet_split rfl rfl rfl rfl (fun hsp => ?_) (fun hsp => ?_); ((fail_if_success (cases hsp; done)); simp only [hsp]; (try first | have hsq : _ < _ := of_decide_eq_true hsp | have hsq : _ ≤ _ := of_decide_eq_true hsp | have hsq : ¬ _ < _ := of_decide_eq_false hsp | have hsq : ¬ _ ≤ _ := of_decide_eq_false hsp)); rotate_left; ((fail_if_success (cases hsp; done)); simp only [hsp]; (try first | have hsq : _ < _ := of_decide_eq_true hsp | have hsq : _ ≤ _ := of_decide_eq_true hsp | have hsq : ¬ _ < _ := of_decide_eq_false hsp | have hsq : ¬ _ ≤ _ := of_decide_eq_false hsp))))); (all_goals (refine wpQuiet_nil ?_; intro x))))
    go_ret
    exact ⟨ret_int (pcmp_gt HL.out HL'.out hlt).symm, Ext.refl _⟩

set_option maxHeartbeats 1000000 in
theorem slCmp_any (a : Option Addr) (len cap : Nat) (l : List Int) (a' : Option Addr) (len' cap' : Nat) (l' : List Int) (w : World) (h : SlRd w a len cap l) (h' : SlRd w a' len' cap' l') :
    Calls Tryd.prog 155 #[.slice a len cap, .slice a' len' cap'] w fun e w' => e = .returned (.int .i64 (lexC l l')) ∧ Ext w w' := by
  have hm := h.2.2.1
  have hlc := h.2.1
  have hlc' := h'.2.1
  have hm' := h'.2.2.1
  have HL := hidden h.1
  have HL' := hidden h'.1
  unfold maxLen at hm hm'
  go_enter Tryd.func155, Tryd.ntmps155
  go_wp2_with fail
  go_loopw [11] (fun i wr => ∃ k : Nat, k ≤ len ∧ i = .int .i64 k ∧ k ≤ len' ∧ Ext w wr ∧ Hid (LexK l l' k)) (fun i _ => len - (intOf i).toNat)
  case atStart => exact ⟨0, Nat.zero_le _, rfl, Nat.zero_le _, Ext.refl _, LexK.zero⟩
  case round =>
    obtain ⟨k, hk, rfl, hk', hE, HT⟩ := hrel
    by_cases hlt : k < len
    · obtain ⟨x, xhd, xb, xoff, xys, rfl, xhys, xhcell, xhrd⟩ := h.at hE hlt
      obtain ⟨rfl, xg0⟩ := xhrd
      have xc0 : wr.cell? ⟨xb, xoff + k, none⟩ = some (.int .i64 x) := by have := xhcell 0 _ rfl; simpa [Lay.n] using this
      have xlb := cell_lt xc0
      have xHD := hidden xhd
      clear xhcell xhys xhd
      by_cases hlt' : k < len'
      · obtain ⟨y, yhd, yb, yoff, yys, rfl, yhys, yhcell, yhrd⟩ := h'.at hE hlt'
        obtain ⟨rfl, yg0⟩ := yhrd
        have yc0 : wr.cell? ⟨yb, yoff + k, none⟩ = some (.int .i64 y) := by have := yhcell 0 _ rfl; simpa [Lay.n] using this
        have ylb := cell_lt yc0
        have yHD := hidden yhd
        clear yhcell yhys yhd
        rcases Int.lt_trichotomy x y with hxy | hxy | hxy
        · have e := cmpI_lt hxy
          go_wp2_with (first | (first | (go_at_call 83; (with_reducible refine (compare_any x y _).mono ?_); rintro _ _ ⟨rfl, x, rfl⟩)) | ((first | with_reducible refine wp_region_qe (by kernel_rfl) (by kernel_rfl) ?_ | with_reducible refine wp_region_q (by kernel_rfl) (by kernel_rfl) ?_); (repeat' (first | go_big_quiet_step ((first | (go_at_call 83; first | with_reducible exact Calls.qb (by assumption) (compare_any x y _) | with_reducible exact Calls.q (compare_any x y _)))) | (refine wpQuiet_split rfl rfl rfl rfl (fun hsp => ?_) (fun hsp => ?_); ((fail_if_success (cases hsp; done)); simp only [hsp]; (try first | have hsq : _ < _ := of_decide_eq_true hsp | have hsq : _ ≤ _ := of_decide_eq_true hsp | have hsq : ¬ _ < _ := of_decide_eq_false hsp | have hsq : ¬ _ ≤ _ := of_decide_eq_false hsp)); rotate_left; ((fail_if_success (cases hsp; done)); simp only [hsp]; (try first | have hsq : _ < _ := of_decide_eq_true hsp | have hsq : _ ≤ _ := of_decide_eq_true hsp | have hsq : ¬ _ < _ := of_decide_eq_false hsp | have hsq : ¬ _ ≤ _ := of_decide_eq_false hsp))))); (all_goals (refine wpQuiet_nil ?_; intro x))))
          go_ret
          exact ⟨ret_int (by rw [HT.out.lt xHD.out yHD.out hxy]), (by first | exact hE | exact hE.ext _ | exact hE.trans (by repeat (first | with_reducible exact Ext.refl _ | with_reducible apply Ext.and | with_reducible apply Ext.drewx | with_reducible apply Ext.alloc | with_reducible apply Ext.ext | with_reducible apply Ext.drew | with_reducible refine Ext.setCell ?_ (by simp) _)))⟩
        · have e : cmpI x y = 0 := by rw [hxy]; exact cmpI_eq _
          subst hxy
          go_wp2_with (first | (first | (go_at_call 83; (with_reducible refine (compare_any _ _ _).mono ?_); rintro _ _ ⟨rfl, x, rfl⟩)) | ((first | with_reducible refine wp_region_qe (by kernel_rfl) (by kernel_rfl) ?_ | with_reducible refine wp_region_q (by kernel_rfl) (by kernel_rfl) ?_); (repeat' (first | go_big_quiet_step ((first | (go_at_call 83; first | with_reducible exact Calls.qb (by assumption) (compare_any _ _ _) | with_reducible exact Calls.q (compare_any _ _ _)))) | (refine wpQuiet_split rfl rfl rfl rfl (fun hsp => ?_) (fun hsp => ?_); ((fail_if_success (cases hsp; done)); simp only [hsp]; (try first | have hsq : _ < _ := of_decide_eq_true hsp | have hsq : _ ≤ _ := of_decide_eq_true hsp | have hsq : ¬ _ < _ := of_decide_eq_false hsp | have hsq : ¬ _ ≤ _ := of_decide_eq_false hsp)); rotate_left; ((fail_if_success (cases hsp; done)); simp only [hsp]; (try first | have hsq : _ < _ := of_decide_eq_true hsp | have hsq : _ ≤ _ := of_decide_eq_true hsp | have hsq : ¬ _ < _ := of_decide_eq_false hsp | have hsq : ¬ _ ≤ _ := of_decide_eq_false hsp))))); (all_goals (refine wpQuiet_nil ?_; intro x))))
          go_roundw
          case rel => exact ⟨k + 1, by omega, by go_num, by omega, (by first | exact hE | exact hE.ext _ | exact hE.trans (by repeat (first | with_reducible exact Ext.refl _ | with_reducible apply Ext.and | with_reducible apply Ext.drewx | with_reducible apply Ext.alloc | with_reducible apply Ext.ext | with_reducible apply Ext.drew | with_reducible refine Ext.setCell ?_ (by simp) _))), HT.out.step xHD.out yHD.out (by omega) (by omega)⟩
          case measure => simp [intOf]; omega
        · have e := cmpI_gt hxy
          go_wp2_with (first | (first | (go_at_call 83; (with_reducible refine (compare_any x y _).mono ?_); rintro _ _ ⟨rfl, x, rfl⟩)) | ((first | with_reducible refine wp_region_qe (by kernel_rfl) (by kernel_rfl) ?_ | with_reducible refine wp_region_q (by kernel_rfl) (by kernel_rfl) ?_); (repeat' (first | go_big_quiet_step ((first | (go_at_call 83; first | with_reducible exact Calls.qb (by assumption) (compare_any x y _) | with_reducible exact Calls.q (compare_any x y _)))) | (refine wpQuiet_split rfl rfl rfl rfl (fun hsp => ?_) (fun hsp => ?_); ((fail_if_success (cases hsp; done)); simp only [hsp]; (try first | have hsq : _ < _ := of_decide_eq_true hsp | have hsq : _ ≤ _ := of_decide_eq_true hsp | have hsq : ¬ _ < _ := of_decide_eq_false hsp | have hsq : ¬ _ ≤ _ := of_decide_eq_false hsp)); rotate_left; ((fail_if_success (cases hsp; done)); simp only [hsp]; (try first | have hsq : _ < _ := of_decide_eq_true hsp | have hsq : _ ≤ _ := of_decide_eq_true hsp | have hsq : ¬ _ < _ := of_decide_eq_false hsp | have hsq : ¬ _ ≤ _ := of_decide_eq_false hsp))))); (all_goals (refine wpQuiet_nil ?_; intro x))))
          go_ret
          exact ⟨ret_int (by rw [HT.out.gt xHD.out yHD.out hxy]), (by first | exact hE | exact hE.ext _ | exact hE.trans (by repeat (first | with_reducible exact Ext.refl _ | with_reducible apply Ext.and | with_reducible apply Ext.drewx | with_reducible apply Ext.alloc | with_reducible apply Ext.ext | with_reducible apply Ext.drew | with_reducible refine Ext.setCell ?_ (by simp) _)))⟩
      · go_wp2_with (first | ((first | with_reducible refine wp_region_qe (by kernel_rfl) (by kernel_rfl) ?_ | with_reducible refine wp_region_q (by kernel_rfl) (by kernel_rfl) ?_); (repeat' (first | go_big_quiet_step (fail) | (refine wpQuiet_split rfl rfl rfl rfl (fun hsp => ?_) (fun hsp => ?_); ((fail_if_success (cases hsp; done)); simp only [hsp]; (try first | have hsq : _ < _ := of_decide_eq_true hsp | have hsq : _ ≤ _ := of_decide_eq_true hsp | have hsq : ¬ _ < _ := of_decide_eq_false hsp | have hsq : ¬ _ ≤ _ := of_decide_eq_false hsp)); rotate_left; ((fail_if_success (cases hsp; done)); simp only [hsp]; (try first | have hsq : _ < _ := of_decide_eq_true hsp | have hsq : _ ≤ _ := of_decide_eq_true hsp | have hsq : ¬ _ < _ := of_decide_eq_false hsp | have hsq : ¬ _ ≤ _ := of_decide_eq_false hsp))))); (all_goals (refine wpQuiet_nil ?_; intro x))))
        go_ret
        exact ⟨ret_int (by rw [HT.out.longer xHD.out (by have := HL'.out; omega)]), (by first | exact hE | exact hE.ext _ | exact hE.trans (by repeat (first | with_reducible exact Ext.refl _ | with_reducible apply Ext.and | with_reducible apply Ext.drewx | with_reducible apply Ext.alloc | with_reducible apply Ext.ext | with_reducible apply Ext.drew | with_reducible refine Ext.setCell ?_ (by simp) _)))⟩
    · obtain rfl : len = k := by omega
      go_wp2_with (first | ((first | with_reducible refine wp_region_qe (by kernel_rfl) (by kernel_rfl) ?_ | with_reducible refine wp_region_q (by kernel_rfl) (by kernel_rfl) ?_); (repeat' (first | go_big_quiet_step (fail) | (refine wpQuiet_split rfl rfl rfl rfl (fun hsp => ?_) (fun hsp => ?_); ((fail_if_success (cases hsp; done)); simp only [hsp]; (try first | have hsq : _ < _ := of_decide_eq_true hsp | have hsq : _ ≤ _ := of_decide_eq_true hsp | have hsq : ¬ _ < _ := of_decide_eq_false hsp | have hsq : ¬ _ ≤ _ := of_decide_eq_false hsp)); rotate_left; ((fail_if_success (cases hsp; done)); simp only [hsp]; (try first | have hsq : _ < _ := of_decide_eq_true hsp | have hsq : _ ≤ _ := of_decide_eq_true hsp | have hsq : ¬ _ < _ := of_decide_eq_false hsp | have hsq : ¬ _ ≤ _ := of_decide_eq_false hsp))))); (all_goals (refine wpQuiet_nil ?_; intro x))))
      all_goals
        go_ret
        first
          | exact ⟨ret_int (by rw [HT.out.shorter HL.out (by have := HL'.out; omega)]), (by first | exact hE | exact hE.ext _ | exact hE.trans (by repeat (first | with_reducible exact Ext.refl _ | with_reducible apply Ext.and | with_reducible apply Ext.drewx | with_reducible apply Ext.alloc | with_reducible apply Ext.ext | with_reducible apply Ext.drew | with_reducible refine Ext.setCell ?_ (by simp) _)))⟩
          | exact ⟨ret_int (by rw [HT.out.same HL.out (by have := HL'.out; omega)]), (by first | exact hE | exact hE.ext _ | exact hE.trans (by repeat (first | with_reducible exact Ext.refl _ | with_reducible apply Ext.and | with_reducible apply Ext.drewx | with_reducible apply Ext.alloc | with_reducible apply Ext.ext | with_reducible apply Ext.drew | with_reducible refine Ext.setCell ?_ (by simp) _)))⟩

/-- The order of paths that are. -/
noncomputable def pathC (l l' : List Int) : Int := if pathB l = true ∧ pathB l' = true then pcmp l l' else 0


set_option maxHeartbeats 1000000 in
theorem iPathCmp_any (ea : Addr) (a : Option Addr) (len cap : Nat) (l : List Int) (a' : Option Addr) (len' cap' : Nat) (l' : List Int) (w : World) (h : SlRd w a len cap l) (h' : SlRd w a' len' cap' l') (hp : EP w ea) :
    Calls Tryd.prog 154 #[.slice a len cap, .slice a' len' cap'] w fun e w' => e = .returned (.int .i64 (pathC l l')) ∧ Ext w w' := by
  cases hA : pathB l <;> cases hB : pathB l'
  case true.true =>
    have e : pathC l l' = orL [cmpI len len', lexC l l'] := by unfold pathC pcmp; rw [if_pos ⟨hA, hB⟩, h.1, h'.1]
    rw [e]
    clear e
    go_enter Tryd.func154, Tryd.ntmps154
    go_wp2_with (first | (first | (go_at_call 48; (with_reducible refine (iPathOk_any ea _ _ _ l _ (h.stays ((by repeat (first | with_reducible exact Ext.refl _ | with_reducible apply Ext.and | with_reducible apply Ext.drewx | with_reducible apply Ext.alloc | with_reducible apply Ext.ext | with_reducible apply Ext.drew | with_reducible refine Ext.setCell ?_ (by simp) _)) : Ext _ _).below) (hp.later (by repeat (first | with_reducible exact Ext.refl _ | with_reducible apply Ext.and | with_reducible apply Ext.drewx | with_reducible apply Ext.alloc | with_reducible apply Ext.ext | with_reducible apply Ext.drew | with_reducible refine Ext.setCell ?_ (by simp) _)))).mono ?_); rintro _ _ ⟨rfl, x, rfl⟩) | (go_at_call 48; (with_reducible refine (iPathOk_any ea _ _ _ l' _ (h'.stays ((by repeat (first | with_reducible exact Ext.refl _ | with_reducible apply Ext.and | with_reducible apply Ext.drewx | with_reducible apply Ext.alloc | with_reducible apply Ext.ext | with_reducible apply Ext.drew | with_reducible refine Ext.setCell ?_ (by simp) _)) : Ext _ _).below) (hp.later (by repeat (first | with_reducible exact Ext.refl _ | with_reducible apply Ext.and | with_reducible apply Ext.drewx | with_reducible apply Ext.alloc | with_reducible apply Ext.ext | with_reducible apply Ext.drew | with_reducible refine Ext.setCell ?_ (by simp) _)))).mono ?_); rintro _ _ ⟨rfl, x, rfl⟩) | (go_at_call 83; (with_reducible refine (compare_any _ _ _).mono ?_); rintro _ _ ⟨rfl, x, rfl⟩) | (go_at_call 155; (with_reducible refine (slCmp_any _ _ _ l _ _ _ l' _ (h.stays ((by repeat (first | with_reducible exact Ext.refl _ | with_reducible apply Ext.and | with_reducible apply Ext.drewx | with_reducible apply Ext.alloc | with_reducible apply Ext.ext | with_reducible apply Ext.drew | with_reducible refine Ext.setCell ?_ (by simp) _)) : Ext _ _).below) (h'.stays ((by repeat (first | with_reducible exact Ext.refl _ | with_reducible apply Ext.and | with_reducible apply Ext.drewx | with_reducible apply Ext.alloc | with_reducible apply Ext.ext | with_reducible apply Ext.drew | with_reducible refine Ext.setCell ?_ (by simp) _)) : Ext _ _).below)).mono ?_); rintro _ _ ⟨rfl, x, rfl⟩) | (go_at_call 82; (with_reducible refine (or2_any (cmpI len len') (lexC l l') _ _ _ (by simp [go_sem]) (by simp [go_sem])).mono ?_); rintro _ _ ⟨rfl, x, rfl⟩)) | ((first | with_reducible refine wp_region_qe (by kernel_rfl) (by kernel_rfl) ?_ | with_reducible refine wp_region_q (by kernel_rfl) (by kernel_rfl) ?_); (repeat' (first | go_big_quiet_step ((first | (go_at_call 48; first | with_reducible exact Calls.qb (by assumption) (iPathOk_any ea _ _ _ l _ (h.stays ((by repeat (first | with_reducible exact Ext.refl _ | with_reducible apply Ext.and | with_reducible apply Ext.drewx | with_reducible apply Ext.alloc | with_reducible apply Ext.ext | with_reducible apply Ext.drew | with_reducible refine Ext.setCell ?_ (by simp) _)) : Ext _ _).below) (hp.later (by repeat (first | with_reducible exact Ext.refl _ | with_reducible apply Ext.and | with_reducible apply Ext.drewx | with_reducible apply Ext.alloc | with_reducible apply Ext.ext | with_reducible apply Ext.drew | with_reducible refine Ext.setCell ?_ (by simp) _)))) | with_reducible exact Calls.q (iPathOk_any ea _ _ _ l _ (h.stays ((by repeat (first | with_reducible exact Ext.refl _ | with_reducible apply Ext.and | with_reducible apply Ext.drewx | with_reducible apply Ext.alloc | with_reducible apply Ext.ext | with_reducible apply Ext.drew | with_reducible refine Ext.setCell ?_ (by simp) _)) : Ext _ _).below) (hp.later (by repeat (first | with_reducible exact Ext.refl _ | with_reducible apply Ext.and | with_reducible apply Ext.drewx | with_reducible apply Ext.alloc | with_reducible apply Ext.ext | with_reducible apply Ext.drew | with_reducible refine Ext.setCell ?_ (by simp) _))))) | (go_at_call 48; first | with_reducible exact Calls.qb (by assumption) (iPathOk_any ea _ _ _ l' _ (h'.stays ((by repeat (first | with_reducible exact Ext.refl _ | with_reducible apply Ext.and | with_reducible apply Ext.drewx | with_reducible apply Ext.alloc | with_reducible apply Ext.ext | with_reducible apply Ext.drew | with_reducible refine Ext.setCell ?_ (by simp) _)) : Ext _ _).below) (hp.later (by repeat (first | with_reducible exact Ext.refl _ | with_reducible apply Ext.and | with_reducible apply Ext.drewx | with_reducible apply Ext.alloc | with_reducible apply Ext.ext | with_reducible apply Ext.drew | with_reducible refine Ext.setCell ?_ (by simp) _)))) | with_reducible exact Calls.q (iPathOk_any ea _ _ _ l' _ (h'.stays ((by repeat (first | with_reducible exact Ext.refl _ | with_reducible apply Ext.and | with_reducible apply Ext.drewx | with_reducible apply Ext.alloc | with_reducible apply Ext.ext | with_reducible apply Ext.drew | with_reducible refine Ext.setCell ?_ (by simp) _)) : Ext _ _).below) (hp.later (by repeat (first | with_reducible exact Ext.refl _ | with_reducible apply Ext.and | with_reducible apply Ext.drewx | with_reducible apply Ext.alloc | with_reducible apply Ext.ext | with_reducible apply Ext.drew | with_reducible refine Ext.setCell ?_ (by simp) _))))) | (go_at_call 83; first | with_reducible exact Calls.qb (by assumption) (compare_any _ _ _) | with_reducible exact Calls.q (compare_any _ _ _)) | (go_at_call 155; first | with_reducible exact Calls.qb (by assumption) (slCmp_any _ _ _ l _ _ _ l' _ (h.stays ((by repeat (first | with_reducible exact Ext.refl _ | with_reducible apply Ext.and | with_reducible apply Ext.drewx | with_reducible apply Ext.alloc | with_reducible apply Ext.ext | with_reducible apply Ext.drew | with_reducible refine Ext.setCell ?_ (by simp) _)) : Ext _ _).below) (h'.stays ((by repeat (first | with_reducible exact Ext.refl _ | with_reducible apply Ext.and | with_reducible apply Ext.drewx | with_reducible apply Ext.alloc | with_reducible apply Ext.ext | with_reducible apply Ext.drew | with_reducible refine Ext.setCell ?_ (by simp) _)) : Ext _ _).below)) | with_reducible exact Calls.q (slCmp_any _ _ _ l _ _ _ l' _ (h.stays ((by repeat (first | with_reducible exact Ext.refl _ | with_reducible apply Ext.and | with_reducible apply Ext.drewx | with_reducible apply Ext.alloc | with_reducible apply Ext.ext | with_reducible apply Ext.drew | with_reducible refine Ext.setCell ?_ (by simp) _)) : Ext _ _).below) (h'.stays ((by repeat (first | with_reducible exact Ext.refl _ | with_reducible apply Ext.and | with_reducible apply Ext.drewx | with_reducible apply Ext.alloc | with_reducible apply Ext.ext | with_reducible apply Ext.drew | with_reducible refine Ext.setCell ?_ (by simp) _)) : Ext _ _).below))) | (go_at_call 82; first | with_reducible exact Calls.qb (by assumption) (or2_any (cmpI len len') (lexC l l') _ _ _ (by simp [go_sem]) (by simp [go_sem])) | with_reducible exact Calls.q (or2_any (cmpI len len') (lexC l l') _ _ _ (by simp [go_sem]) (by simp [go_sem]))))) | (refine wpQuiet_split rfl rfl rfl rfl (fun hsp => ?_) (fun hsp => ?_); ((fail_if_success (cases hsp; done)); simp only [hsp]; (try first | have hsq : _ < _ := of_decide_eq_true hsp | have hsq : _ ≤ _ := of_decide_eq_true hsp | have hsq : ¬ _ < _ := of_decide_eq_false hsp | have hsq : ¬ _ ≤ _ := of_decide_eq_false hsp)); rotate_left; ((fail_if_success (cases hsp; done)); simp only [hsp]; (try first | have hsq : _ < _ := of_decide_eq_true hsp | have hsq : _ ≤ _ := of_decide_eq_true hsp | have hsq : ¬ _ < _ := of_decide_eq_false hsp | have hsq : ¬ _ ≤ _ := of_decide_eq_false hsp))))); (all_goals (refine wpQuiet_nil ?_; intro x))))
    go_ret
    exact ⟨rfl, (by repeat (first | with_reducible exact Ext.refl _ | with_reducible apply Ext.and | with_reducible apply Ext.drewx | with_reducible apply Ext.alloc | with_reducible apply Ext.ext | with_reducible apply Ext.drew | with_reducible refine Ext.setCell ?_ (by simp) _))⟩
  all_goals
    go_enter Tryd.func154, Tryd.ntmps154
    go_wp2_with (first | (first | (go_at_call 48; (with_reducible refine (iPathOk_any ea _ _ _ l _ (h.stays ((by repeat (first | with_reducible exact Ext.refl _ | with_reducible apply Ext.and | with_reducible apply Ext.drewx | with_reducible apply Ext.alloc | with_reducible apply Ext.ext | with_reducible apply Ext.drew | with_reducible refine Ext.setCell ?_ (by simp) _)) : Ext _ _).below) (hp.later (by repeat (first | with_reducible exact Ext.refl _ | with_reducible apply Ext.and | with_reducible apply Ext.drewx | with_reducible apply Ext.alloc | with_reducible apply Ext.ext | with_reducible apply Ext.drew | with_reducible refine Ext.setCell ?_ (by simp) _)))).mono ?_); rintro _ _ ⟨rfl, x, rfl⟩) | (go_at_call 48; (with_reducible refine (iPathOk_any ea _ _ _ l' _ (h'.stays ((by repeat (first | with_reducible exact Ext.refl _ | with_reducible apply Ext.and | with_reducible apply Ext.drewx | with_reducible apply Ext.alloc | with_reducible apply Ext.ext | with_reducible apply Ext.drew | with_reducible refine Ext.setCell ?_ (by simp) _)) : Ext _ _).below) (hp.later (by repeat (first | with_reducible exact Ext.refl _ | with_reducible apply Ext.and | with_reducible apply Ext.drewx | with_reducible apply Ext.alloc | with_reducible apply Ext.ext | with_reducible apply Ext.drew | with_reducible refine Ext.setCell ?_ (by simp) _)))).mono ?_); rintro _ _ ⟨rfl, x, rfl⟩)) | ((first | with_reducible refine wp_region_qe (by kernel_rfl) (by kernel_rfl) ?_ | with_reducible refine wp_region_q (by kernel_rfl) (by kernel_rfl) ?_); (repeat' (first | go_big_quiet_step ((first | (go_at_call 48; first | with_reducible exact Calls.qb (by assumption) (iPathOk_any ea _ _ _ l _ (h.stays ((by repeat (first | with_reducible exact Ext.refl _ | with_reducible apply Ext.and | with_reducible apply Ext.drewx | with_reducible apply Ext.alloc | with_reducible apply Ext.ext | with_reducible apply Ext.drew | with_reducible refine Ext.setCell ?_ (by simp) _)) : Ext _ _).below) (hp.later (by repeat (first | with_reducible exact Ext.refl _ | with_reducible apply Ext.and | with_reducible apply Ext.drewx | with_reducible apply Ext.alloc | with_reducible apply Ext.ext | with_reducible apply Ext.drew | with_reducible refine Ext.setCell ?_ (by simp) _)))) | with_reducible exact Calls.q (iPathOk_any ea _ _ _ l _ (h.stays ((by repeat (first | with_reducible exact Ext.refl _ | with_reducible apply Ext.and | with_reducible apply Ext.drewx | with_reducible apply Ext.alloc | with_reducible apply Ext.ext | with_reducible apply Ext.drew | with_reducible refine Ext.setCell ?_ (by simp) _)) : Ext _ _).below) (hp.later (by repeat (first | with_reducible exact Ext.refl _ | with_reducible apply Ext.and | with_reducible apply Ext.drewx | with_reducible apply Ext.alloc | with_reducible apply Ext.ext | with_reducible apply Ext.drew | with_reducible refine Ext.setCell ?_ (by simp) _))))) | (go_at_call 48; first | with_reducible exact Calls.qb (by assumption) (iPathOk_any ea _ _ _ l' _ (h'.stays ((by repeat (first | with_reducible exact Ext.refl _ | with_reducible apply Ext.and | with_reducible apply Ext.drewx | with_reducible apply Ext.alloc | with_reducible apply Ext.ext | with_reducible apply Ext.drew | with_reducible refine Ext.setCell ?_ (by simp) _)) : Ext _ _).below) (hp.later (by repeat (first | with_reducible exact Ext.refl _ | with_reducible apply Ext.and | with_reducible apply Ext.drewx | with_reducible apply Ext.alloc | with_reducible apply Ext.ext | with_reducible apply Ext.drew | with_reducible refine Ext.setCell ?_ (by simp) _)))) | with_reducible exact Calls.q (iPathOk_any ea _ _ _ l' _ (h'.stays ((by repeat (first | with_reducible exact Ext.refl _ | with_reducible apply Ext.and | with_reducible apply Ext.drewx | with_reducible apply Ext.alloc | with_reducible apply Ext.ext | with_reducible apply Ext.drew | with_reducible refine Ext.setCell ?_ (by simp) _)) : Ext _ _).below) (hp.later (by repeat (first | with_reducible exact Ext.refl _ | with_reducible apply Ext.and | with_reducible apply Ext.drewx | with_reducible apply Ext.alloc | with_reducible apply Ext.ext | with_reducible apply Ext.drew | with_reducible refine Ext.setCell ?_ (by simp) _))))))) | (refine wpQuiet_split rfl rfl rfl rfl (fun hsp => ?_) (fun hsp => ?_); ((fail_if_success (cases hsp; done)); simp only [hsp]; (try first | have hsq : _ < _ := of_decide_eq_true hsp | have hsq : _ ≤ _ := of_decide_eq_true hsp | have hsq : ¬ _ < _ := of_decide_eq_false hsp | have hsq : ¬ _ ≤ _ := of_decide_eq_false hsp)); rotate_left; ((fail_if_success (cases hsp; done)); simp only [hsp]; (try first | have hsq : _ < _ := of_decide_eq_true hsp | have hsq : _ ≤ _ := of_decide_eq_true hsp | have hsq : ¬ _ < _ := of_decide_eq_false hsp | have hsq : ¬ _ ≤ _ := of_decide_eq_false hsp))))); (all_goals (refine wpQuiet_nil ?_; intro x))))
    go_ret
    exact ⟨ret_int (by simp [pathC, *]), (by repeat (first | with_reducible exact Ext.refl _ | with_reducible apply Ext.and | with_reducible apply Ext.drewx | with_reducible apply Ext.alloc | with_reducible apply Ext.ext | with_reducible apply Ext.drew | with_reducible refine Ext.setCell ?_ (by simp) _))⟩

end Go.Proofs.YtlehcnfmagjilaaDoor
