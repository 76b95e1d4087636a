/- Texts of ranges, paths and routes: what the functions do. No condition. -/
import Derived.Test.YtlehcnfmagjilaaDoorStr
namespace Go.Proofs.YtlehcnfmagjilaaDoor
open Go Go.RowKit

def dig (x : Int) : List UInt8 := Lib.decDigits x.toNat
def rtx (r : Rg) : List UInt8 := dig r.f ++ 47 :: dig r.b
def rangeText (r : Rg) : ByteArray := if rok r.f r.b = true then bs (rtx r) else bs []
theorem rangeText_no {r : Rg} (h : rok r.f r.b = false) : rangeText r = bs [] := by unfold rangeText; rw [h]; rfl
theorem rangeText_yes {r : Rg} (h : rok r.f r.b = true) : rangeText r = bs (rtx r) := by unfold rangeText; rw [if_pos h]
theorem rok_nat {r : Rg} (h : rok r.f r.b = true) : ∃ n m : Nat, r = ⟨(n : Int), (m : Int)⟩ ∧ n < 1000 ∧ m < 10 := by
  obtain ⟨f, b⟩ := r
  simp only [rok, decide_eq_true_eq] at h
  obtain ⟨n, rfl⟩ := Int.eq_ofNat_of_zero_le h.2.2.1
  obtain ⟨m, rfl⟩ := Int.eq_ofNat_of_zero_le h.1
  exact ⟨n, m, rfl, by omega, by omega⟩
theorem bs_one (x : UInt8) : (⟨#[x]⟩ : ByteArray) = bs [x] := rfl
theorem bs_two (x y : UInt8) : (⟨#[x, y]⟩ : ByteArray) = bs [x, y] := rfl

set_option maxHeartbeats 1000000 in
theorem l1Text_any (n m : Nat) (hn : n < 1000) (hm : m < 10) (w : World) : Calls Tryd.prog 67 #[.agg #[.int .i64 n, .int .i64 m]] w fun e w' => e = .returned (.string (bs (rtx ⟨n, m⟩))) ∧ Ext w w' := by
  have ln := dec_len n hn
  have lm := dec_len m (by omega)
  have s1 : ¬ 9223372036854775807 < (bs (Lib.decDigits n)).size + 1 := by rw [bs_size]; omega
  have s2 : ¬ 9223372036854775807 < (bs (Lib.decDigits n)).size + 1 + (bs (Lib.decDigits m)).size := by rw [bs_size, bs_size]; omega
  clear ln lm
  go_enter Tryd.func67, Tryd.ntmps67
  go_wp2_with (first | (first | (go_at_call 74; (with_reducible refine (l6Dec_any n hn _).mono ?_); rintro _ _ ⟨rfl, x, rfl⟩) | (go_at_call 74; (with_reducible refine (l6Dec_any m (by omega) _).mono ?_); rintro _ _ ⟨rfl, x, rfl⟩)) | ((first | with_reducible refine wp_region_qe (by kernel_rfl) (by kernel_rfl) ?_ | with_reducible refine wp_region_q (by kernel_rfl) (by kernel_rfl) ?_); (repeat' (first | go_big_quiet_step ((first | (go_at_call 74; first | with_reducible exact Calls.qb (by assumption) (l6Dec_any n hn _) | with_reducible exact Calls.q (l6Dec_any n hn _)) | (go_at_call 74; first | with_reducible exact Calls.qb (by assumption) (l6Dec_any m (by omega) _) | with_reducible exact Calls.q (l6Dec_any m (by omega) _)))) | (refine wpQuiet_split rfl rfl rfl rfl (fun hsp => ?_) (fun hsp => ?_); ((fail_if_success (cases hsp; done)); simp only [hsp]; (try first | have hsq : _ < _ := of_decide_eq_true hsp | have hsq : _ ≤ _ := of_decide_eq_true hsp | have hsq : ¬ _ < _ := of_decide_eq_false hsp | have hsq : ¬ _ ≤ _ := of_decide_eq_false hsp)); rotate_left; ((fail_if_success (cases hsp; done)); simp only [hsp]; (try first | have hsq : _ < _ := of_decide_eq_true hsp | have hsq : _ ≤ _ := of_decide_eq_true hsp | have hsq : ¬ _ < _ := of_decide_eq_false hsp | have hsq : ¬ _ ≤ _ := of_decide_eq_false hsp))))); (all_goals (refine wpQuiet_nil ?_; intro x))))
  go_ret
  exact ⟨by rw [bs_one, bs_add, bs_add]; simp [rtx, dig], (by repeat (first | with_reducible exact Ext.refl _ | with_reducible apply Ext.and | with_reducible apply Ext.drewx | with_reducible apply Ext.alloc | with_reducible apply Ext.ext | with_reducible apply Ext.drew | with_reducible refine Ext.setCell ?_ (by simp) _))⟩

set_option maxHeartbeats 1000000 in
theorem sRangeText_any (r : Rg) (w : World) : Calls Tryd.prog 42 #[.agg #[.int .i64 r.f, .int .i64 r.b]] w fun e w' => e = .returned (.string (rangeText r)) ∧ Ext w w' := by
  cases hr : rok r.f r.b
  · rw [rangeText_no hr]
    go_enter Tryd.func42, Tryd.ntmps42
    go_wp2_with (first | (first | (go_at_call 66; (with_reducible refine (sRangeOk_any _ _ _).mono ?_); rintro _ _ ⟨rfl, x, rfl⟩)) | ((first | with_reducible refine wp_region_qe (by kernel_rfl) (by kernel_rfl) ?_ | with_reducible refine wp_region_q (by kernel_rfl) (by kernel_rfl) ?_); (repeat' (first | go_big_quiet_step ((first | (go_at_call 66; first | with_reducible exact Calls.qb (by assumption) (sRangeOk_any _ _ _) | with_reducible exact Calls.q (sRangeOk_any _ _ _)))) | (refine wpQuiet_split rfl rfl rfl rfl (fun hsp => ?_) (fun hsp => ?_); ((fail_if_success (cases hsp; done)); simp only [hsp]; (try first | have hsq : _ < _ := of_decide_eq_true hsp | have hsq : _ ≤ _ := of_decide_eq_true hsp | have hsq : ¬ _ < _ := of_decide_eq_false hsp | have hsq : ¬ _ ≤ _ := of_decide_eq_false hsp)); rotate_left; ((fail_if_success (cases hsp; done)); simp only [hsp]; (try first | have hsq : _ < _ := of_decide_eq_true hsp | have hsq : _ ≤ _ := of_decide_eq_true hsp | have hsq : ¬ _ < _ := of_decide_eq_false hsp | have hsq : ¬ _ ≤ _ := of_decide_eq_false hsp))))); (all_goals (refine wpQuiet_nil ?_; intro x))))
    go_ret
    exact ⟨rfl, (by repeat (first | with_reducible exact Ext.refl _ | with_reducible apply Ext.and | with_reducible apply Ext.drewx | with_reducible apply Ext.alloc | with_reducible apply Ext.ext | with_reducible apply Ext.drew | with_reducible refine Ext.setCell ?_ (by simp) _))⟩
  · rw [rangeText_yes hr]
    obtain ⟨n, m, rfl, hn, hm⟩ := rok_nat hr
    go_enter Tryd.func42, Tryd.ntmps42
    go_wp2_with (first | (first | (go_at_call 66; (with_reducible refine (sRangeOk_any _ _ _).mono ?_); rintro _ _ ⟨rfl, x, rfl⟩) | (go_at_call 67; (with_reducible refine (l1Text_any n m hn hm _).mono ?_); rintro _ _ ⟨rfl, x, rfl⟩)) | ((first | with_reducible refine wp_region_qe (by kernel_rfl) (by kernel_rfl) ?_ | with_reducible refine wp_region_q (by kernel_rfl) (by kernel_rfl) ?_); (repeat' (first | go_big_quiet_step ((first | (go_at_call 66; first | with_reducible exact Calls.qb (by assumption) (sRangeOk_any _ _ _) | with_reducible exact Calls.q (sRangeOk_any _ _ _)) | (go_at_call 67; first | with_reducible exact Calls.qb (by assumption) (l1Text_any n m hn hm _) | with_reducible exact Calls.q (l1Text_any n m hn hm _)))) | (refine wpQuiet_split rfl rfl rfl rfl (fun hsp => ?_) (fun hsp => ?_); ((fail_if_success (cases hsp; done)); simp only [hsp]; (try first | have hsq : _ < _ := of_decide_eq_true hsp | have hsq : _ ≤ _ := of_decide_eq_true hsp | have hsq : ¬ _ < _ := of_decide_eq_false hsp | have hsq : ¬ _ ≤ _ := of_decide_eq_false hsp)); rotate_left; ((fail_if_success (cases hsp; done)); simp only [hsp]; (try first | have hsq : _ < _ := of_decide_eq_true hsp | have hsq : _ ≤ _ := of_decide_eq_true hsp | have hsq : ¬ _ < _ := of_decide_eq_false hsp | have hsq : ¬ _ ≤ _ := of_decide_eq_false hsp))))); (all_goals (refine wpQuiet_nil ?_; intro x))))
    go_ret
    exact ⟨rfl, (by repeat (first | with_reducible exact Ext.refl _ | with_reducible apply Ext.and | with_reducible apply Ext.drewx | with_reducible apply Ext.alloc | with_reducible apply Ext.ext | with_reducible apply Ext.drew | with_reducible refine Ext.setCell ?_ (by simp) _))⟩

def ptxS : List Int → List UInt8
  | [] => []
  | x :: r => dig x ++ r.flatMap fun y => 45 :: dig y
theorem ptx_snoc {l : List Int} {d : Int} (h : l ≠ []) : ptxS (l ++ [d]) = ptxS l ++ [45] ++ dig d := by
  cases l with
  | nil => exact absurd rfl h
  | cons x r => simp [ptxS, List.flatMap_append]
theorem ptx_one {d : Int} : ptxS [d] = dig d := by simp [ptxS]
theorem ptx_ne {l : List Int} (h : l ≠ []) : ptxS l ≠ [] := by
  cases l with
  | nil => exact absurd rfl h
  | cons x r => intro e; exact dec_ne _ (List.append_eq_nil_iff.1 e).1
theorem ptx_join (l : List Int) : Lib.join (l.map dig) [45] = ptxS l := by
  cases l with
  | nil => rfl
  | cons x r =>
    rw [List.map_cons, Lib.join_cons]
    simp [ptxS, Lib.joinTail, List.flatMap, Function.comp_def]
noncomputable def ptB (l : List Int) : List UInt8 := if l = [] then [46] else ptxS l
noncomputable def pathText (l : List Int) : ByteArray := if pathB l = true then bs (ptB l) else bs []
theorem pathText_no {l : List Int} (h : pathB l = false) : pathText l = bs [] := by unfold pathText; rw [h]; rfl
theorem pathText_yes {l : List Int} (h : pathB l = true) : pathText l = bs (ptB l) := by unfold pathText; rw [if_pos h]
theorem path_dig {l : List Int} (h : pathB l = true) {k : Nat} {d : Int} (hd : l[k]? = some d) : ∃ n : Nat, d = n ∧ n < 10 := by
  have := inB_true.1 ((pathB_iff.1 h) k d (List.getElem?_eq_some_iff.1 hd).1 hd).1
  obtain ⟨n, rfl⟩ := Int.eq_ofNat_of_zero_le (show 0 ≤ d by omega)
  exact ⟨n, rfl, by omega⟩

theorem ptx_le : ∀ (l : List Int), (∀ d ∈ l, ∃ n : Nat, d = n ∧ n < 10) → (ptxS l).length ≤ 2 * l.length
  | [], _ => Nat.zero_le _
  | x :: r, h => by
    have h1 : (dig x).length ≤ 1 := by
      obtain ⟨n, rfl, hn⟩ := h x (by simp)
      unfold dig
      rw [Int.toNat_natCast, dec_lt hn]; exact Nat.le_refl _
    have h2 : ∀ r : List Int, (∀ d ∈ r, ∃ n : Nat, d = n ∧ n < 10) → (r.flatMap fun y => 45 :: dig y).length ≤ 2 * r.length := by
      intro r hr
      induction r with
      | nil => exact Nat.zero_le _
      | cons y r ih =>
        have h3 := ih (fun d hd => hr d (by simp [hd]))
        obtain ⟨n, rfl, hn⟩ := hr y (by simp)
        rw [List.flatMap_cons, List.length_append]
        unfold dig
        rw [Int.toNat_natCast, dec_lt hn]
        simp only [List.length_cons, List.length_nil]
        unfold dig at h3
        omega
    have h4 := h2 r (fun d hd => h d (by simp [hd]))
    show (dig x ++ r.flatMap fun y => 45 :: dig y).length ≤ 2 * (r.length + 1)
    rw [List.length_append]
    omega
theorem ptx_len {l : List Int} (h : pathB l = true) {k : Nat} : (ptxS (l.take k)).length ≤ 10 := by
  have h1 := ptx_le (l.take k) (fun d hd => by
    obtain ⟨i, hi, he⟩ := List.mem_iff_getElem.1 (List.mem_of_mem_take hd)
    exact path_dig h (k := i) (List.getElem?_eq_some_iff.2 ⟨hi, he⟩))
  have h2 := path_le h
  rw [List.length_take] at h1
  omega

set_option maxHeartbeats 2000000 in
theorem sPathText_any (a : Option Addr) (len cap : Nat) (l : List Int) (w : World) (h : SlRd w a len cap l) :
    Calls Tryd.prog 46 #[.slice a len cap] w fun e w' => e = .returned (.string (pathText l)) ∧ Ext w w' := by
  have hm := h.2.2.1
  have hlc := h.2.1
  have HL := hidden h.1
  have H := hidden h
  unfold maxLen at hm
  cases hp : pathB l
  · rw [pathText_no hp]
    go_enter Tryd.func46, Tryd.ntmps46
    go_wp2_with (first | (first | (go_at_call 73; (with_reducible refine (sPathOk_any _ _ _ l _ (H.out.stays ((by repeat (first | with_reducible exact Ext.refl _ | with_reducible apply Ext.and | with_reducible apply Ext.drewx | with_reducible apply Ext.alloc | with_reducible apply Ext.ext | with_reducible apply Ext.drew | with_reducible refine Ext.setCell ?_ (by simp) _)) : Ext _ _).below)).mono ?_); rintro _ _ ⟨rfl, x, rfl⟩)) | ((first | with_reducible refine wp_region_qe (by kernel_rfl) (by kernel_rfl) ?_ | with_reducible refine wp_region_q (by kernel_rfl) (by kernel_rfl) ?_); (repeat' (first | go_big_quiet_step ((first | (go_at_call 73; first | with_reducible exact Calls.qb (by assumption) (sPathOk_any _ _ _ l _ (H.out.stays ((by repeat (first | with_reducible exact Ext.refl _ | with_reducible apply Ext.and | with_reducible apply Ext.drewx | with_reducible apply Ext.alloc | with_reducible apply Ext.ext | with_reducible apply Ext.drew | with_reducible refine Ext.setCell ?_ (by simp) _)) : Ext _ _).below)) | with_reducible exact Calls.q (sPathOk_any _ _ _ l _ (H.out.stays ((by repeat (first | with_reducible exact Ext.refl _ | with_reducible apply Ext.and | with_reducible apply Ext.drewx | with_reducible apply Ext.alloc | with_reducible apply Ext.ext | with_reducible apply Ext.drew | with_reducible refine Ext.setCell ?_ (by simp) _)) : Ext _ _).below))))) | (refine wpQuiet_split rfl rfl rfl rfl (fun hsp => ?_) (fun hsp => ?_); ((fail_if_success (cases hsp; done)); simp only [hsp]; (try first | have hsq : _ < _ := of_decide_eq_true hsp | have hsq : _ ≤ _ := of_decide_eq_true hsp | have hsq : ¬ _ < _ := of_decide_eq_false hsp | have hsq : ¬ _ ≤ _ := of_decide_eq_false hsp)); rotate_left; ((fail_if_success (cases hsp; done)); simp only [hsp]; (try first | have hsq : _ < _ := of_decide_eq_true hsp | have hsq : _ ≤ _ := of_decide_eq_true hsp | have hsq : ¬ _ < _ := of_decide_eq_false hsp | have hsq : ¬ _ ≤ _ := of_decide_eq_false hsp))))); (all_goals (refine wpQuiet_nil ?_; intro x))))
    go_ret
    exact ⟨rfl, (by repeat (first | with_reducible exact Ext.refl _ | with_reducible apply Ext.and | with_reducible apply Ext.drewx | with_reducible apply Ext.alloc | with_reducible apply Ext.ext | with_reducible apply Ext.drew | with_reducible refine Ext.setCell ?_ (by simp) _))⟩
  have HP := hidden hp
  rw [pathText_yes hp]
  go_enter Tryd.func46, Tryd.ntmps46
  go_wp2_with (first | (go_at_call 73; (with_reducible refine (sPathOk_any _ _ _ l _ (H.out.stays ((by repeat (first | with_reducible exact Ext.refl _ | with_reducible apply Ext.and | with_reducible apply Ext.drewx | with_reducible apply Ext.alloc | with_reducible apply Ext.ext | with_reducible apply Ext.drew | with_reducible refine Ext.setCell ?_ (by simp) _)) : Ext _ _).below)).mono ?_); rintro _ _ ⟨rfl, z1, rfl⟩))
  go_loopw [3, 4] (fun v i wr => ∃ k : Nat, k ≤ len ∧ i = .int .i64 k ∧ v = .string (bs (ptxS (l.take k))) ∧ Ext w wr) (fun _ i _ => len - (intOf i).toNat)
  case atStart => exact ⟨0, Nat.zero_le _, rfl, rfl, (by repeat (first | with_reducible exact Ext.refl _ | with_reducible apply Ext.and | with_reducible apply Ext.drewx | with_reducible apply Ext.alloc | with_reducible apply Ext.ext | with_reducible apply Ext.drew | with_reducible refine Ext.setCell ?_ (by simp) _))⟩
  case round =>
    obtain ⟨k, hk, rfl, rfl, hE⟩ := hrel
    by_cases hlt : k < len
    · obtain ⟨d, dhd, db, doff, dys, rfl, dhys, dhcell, dhrd⟩ := h.at hE hlt
      obtain ⟨rfl, dg0⟩ := dhrd
      have dc0 : wr.cell? ⟨db, doff + k, none⟩ = some (.int .i64 d) := by have := dhcell 0 _ rfl; simpa [Lay.n] using this
      have dlb := cell_lt dc0
      have dHD := hidden dhd
      clear dhcell dhys dhd
      obtain ⟨n, rfl, hn⟩ := path_dig HP.out dHD.out
      have ln := dec_len n (by omega)
      have lk := ptx_len HP.out (k := k)
      have s1 : ¬ 9223372036854775807 < (bs (ptxS (l.take k))).size + 1 := by rw [bs_size]; omega
      have s2 : ¬ 9223372036854775807 < (bs (ptxS (l.take k))).size + 1 + (bs (Lib.decDigits n)).size := by rw [bs_size, bs_size]; omega
      have s3 : ¬ 9223372036854775807 < (bs (ptxS (l.take k))).size + (bs (Lib.decDigits n)).size := by rw [bs_size, bs_size]; omega
      clear ln lk
      by_cases hk0 : k = 0
      · subst hk0
        simp only [Nat.add_zero] at dc0
        go_wp2_with (first | (first | (go_at_call 74; (with_reducible refine (l6Dec_any n (by omega) _).mono ?_); rintro _ _ ⟨rfl, x, rfl⟩)) | ((first | with_reducible refine wp_region_qe (by kernel_rfl) (by kernel_rfl) ?_ | with_reducible refine wp_region_q (by kernel_rfl) (by kernel_rfl) ?_); (repeat' (first | go_big_quiet_step ((first | (go_at_call 74; first | with_reducible exact Calls.qb (by assumption) (l6Dec_any n (by omega) _) | with_reducible exact Calls.q (l6Dec_any n (by omega) _)))) | (refine wpQuiet_split rfl rfl rfl rfl (fun hsp => ?_) (fun hsp => ?_); ((fail_if_success (cases hsp; done)); simp only [hsp]; (try first | have hsq : _ < _ := of_decide_eq_true hsp | have hsq : _ ≤ _ := of_decide_eq_true hsp | have hsq : ¬ _ < _ := of_decide_eq_false hsp | have hsq : ¬ _ ≤ _ := of_decide_eq_false hsp)); rotate_left; ((fail_if_success (cases hsp; done)); simp only [hsp]; (try first | have hsq : _ < _ := of_decide_eq_true hsp | have hsq : _ ≤ _ := of_decide_eq_true hsp | have hsq : ¬ _ < _ := of_decide_eq_false hsp | have hsq : ¬ _ ≤ _ := of_decide_eq_false hsp))))); (all_goals (refine wpQuiet_nil ?_; intro x))))
        go_roundw
        case rel => exact ⟨1, by omega, by go_num, by rw [List.take_add_one, dHD.out, List.take_zero]; exact congrArg Value.string (by simp [ptxS, bs_add, dig]), hE.trans ((by repeat (first | with_reducible exact Ext.refl _ | with_reducible apply Ext.and | with_reducible apply Ext.drewx | with_reducible apply Ext.alloc | with_reducible apply Ext.ext | with_reducible apply Ext.drew | with_reducible refine Ext.setCell ?_ (by simp) _)) : Ext wr _)⟩
        case measure => simp [intOf]; omega
      · have hkp : 0 < k := by omega
        have HT := hidden (show l.take k ≠ [] from fun e => by have := congrArg List.length e; rw [List.length_take, HL.out] at this; simp at this; omega)
        go_wp2_with (first | (first | (go_at_call 74; (with_reducible refine (l6Dec_any n (by omega) _).mono ?_); rintro _ _ ⟨rfl, x, rfl⟩)) | ((first | with_reducible refine wp_region_qe (by kernel_rfl) (by kernel_rfl) ?_ | with_reducible refine wp_region_q (by kernel_rfl) (by kernel_rfl) ?_); (repeat' (first | go_big_quiet_step ((first | (go_at_call 74; first | with_reducible exact Calls.qb (by assumption) (l6Dec_any n (by omega) _) | with_reducible exact Calls.q (l6Dec_any n (by omega) _)))) | (refine wpQuiet_split rfl rfl rfl rfl (fun hsp => ?_) (fun hsp => ?_); ((fail_if_success (cases hsp; done)); simp only [hsp]; (try first | have hsq : _ < _ := of_decide_eq_true hsp | have hsq : _ ≤ _ := of_decide_eq_true hsp | have hsq : ¬ _ < _ := of_decide_eq_false hsp | have hsq : ¬ _ ≤ _ := of_decide_eq_false hsp)); rotate_left; ((fail_if_success (cases hsp; done)); simp only [hsp]; (try first | have hsq : _ < _ := of_decide_eq_true hsp | have hsq : _ ≤ _ := of_decide_eq_true hsp | have hsq : ¬ _ < _ := of_decide_eq_false hsp | have hsq : ¬ _ ≤ _ := of_decide_eq_false hsp))))); (all_goals (refine wpQuiet_nil ?_; intro x))))
        go_roundw
        case rel => exact ⟨k + 1, by omega, by go_num, by rw [List.take_add_one, dHD.out]; exact congrArg Value.string (by rw [bs_one, bs_add, bs_add]; exact congrArg bs (ptx_snoc (d := (n : Int)) HT.out).symm), hE.trans ((by repeat (first | with_reducible exact Ext.refl _ | with_reducible apply Ext.and | with_reducible apply Ext.drewx | with_reducible apply Ext.alloc | with_reducible apply Ext.ext | with_reducible apply Ext.drew | with_reducible refine Ext.setCell ?_ (by simp) _)) : Ext wr _)⟩
        case measure => simp [intOf]; omega
    · obtain rfl : len = k := by omega
      have hall : l.take len = l := List.take_of_length_le (Nat.le_of_eq HL.out)
      rw [hall]
      by_cases hl0 : l = []
      · subst hl0
        have hne : (bs (ptxS [])).toList.isEmpty = true := bs_empty
        go_wp2_with (first | ((first | with_reducible refine wp_region_qe (by kernel_rfl) (by kernel_rfl) ?_ | with_reducible refine wp_region_q (by kernel_rfl) (by kernel_rfl) ?_); (repeat' (first | go_big_quiet_step (fail) | (refine wpQuiet_split rfl rfl rfl rfl (fun hsp => ?_) (fun hsp => ?_); ((fail_if_success (cases hsp; done)); simp only [hsp]; (try first | have hsq : _ < _ := of_decide_eq_true hsp | have hsq : _ ≤ _ := of_decide_eq_true hsp | have hsq : ¬ _ < _ := of_decide_eq_false hsp | have hsq : ¬ _ ≤ _ := of_decide_eq_false hsp)); rotate_left; ((fail_if_success (cases hsp; done)); simp only [hsp]; (try first | have hsq : _ < _ := of_decide_eq_true hsp | have hsq : _ ≤ _ := of_decide_eq_true hsp | have hsq : ¬ _ < _ := of_decide_eq_false hsp | have hsq : ¬ _ ≤ _ := of_decide_eq_false hsp))))); (all_goals (refine wpQuiet_nil ?_; intro x))))
        go_ret
        exact ⟨rfl, (by first | exact hE | exact hE.ext _ | exact hE.trans (by repeat (first | with_reducible exact Ext.refl _ | with_reducible apply Ext.and | with_reducible apply Ext.drewx | with_reducible apply Ext.alloc | with_reducible apply Ext.ext | with_reducible apply Ext.drew | with_reducible refine Ext.setCell ?_ (by simp) _)))⟩
      · have hne : (bs (ptxS l)).toList.isEmpty = false := bs_full (ptx_ne hl0)
        have HB := hidden (show ptB l = ptxS l by unfold ptB; rw [if_neg hl0])
        clear hl0
        go_wp2_with (first | ((first | with_reducible refine wp_region_qe (by kernel_rfl) (by kernel_rfl) ?_ | with_reducible refine wp_region_q (by kernel_rfl) (by kernel_rfl) ?_); (repeat' (first | go_big_quiet_step (fail) | (refine wpQuiet_split rfl rfl rfl rfl (fun hsp => ?_) (fun hsp => ?_); ((fail_if_success (cases hsp; done)); simp only [hsp]; (try first | have hsq : _ < _ := of_decide_eq_true hsp | have hsq : _ ≤ _ := of_decide_eq_true hsp | have hsq : ¬ _ < _ := of_decide_eq_false hsp | have hsq : ¬ _ ≤ _ := of_decide_eq_false hsp)); rotate_left; ((fail_if_success (cases hsp; done)); simp only [hsp]; (try first | have hsq : _ < _ := of_decide_eq_true hsp | have hsq : _ ≤ _ := of_decide_eq_true hsp | have hsq : ¬ _ < _ := of_decide_eq_false hsp | have hsq : ¬ _ ≤ _ := of_decide_eq_false hsp))))); (all_goals (refine wpQuiet_nil ?_; intro x))))
        go_ret
        exact ⟨by rw [HB.out]; rfl, (by first | exact hE | exact hE.ext _ | exact hE.trans (by repeat (first | with_reducible exact Ext.refl _ | with_reducible apply Ext.and | with_reducible apply Ext.drewx | with_reducible apply Ext.alloc | with_reducible apply Ext.ext | with_reducible apply Ext.drew | with_reducible refine Ext.setCell ?_ (by simp) _)))⟩

/-- A text in memory. -/
structure Tx where
  s : ByteArray
instance layTx : Lay Tx := ⟨1, fun _ cs d => cs = [.string d.s], fun h _ => h⟩
instance owTx : Ow Tx := ⟨fun w cs d fp => Lay.rd w cs d ∧ fp = [], fun h _ => h, fun h => h.1, fun h b hb => by rw [h.2] at hb; cases hb⟩
instance : OneC Tx := ⟨fun h => by obtain rfl := h; intro u hu; simp only [List.mem_cons, List.not_mem_nil, or_false] at hu; subst hu; rfl, fun h => by obtain rfl := h; rfl, by decide⟩
instance : FlO Tx := ⟨fun h => ⟨h, rfl⟩, fun h => h⟩
theorem tyinfo_Tx : (Tryd.prog.info? 9).map (fun i => (i.zero, i.size, i.bytes)) = some (some (.string ⟨#[]⟩), 1, 16) := by kernel_rfl
theorem tyi_Tx : TyI Tryd.prog 71 9 1 16 := by
  obtain ⟨i, hi, hz0, hz1, hz2⟩ := info_parts tyinfo_Tx
  exact ⟨Tryd.underlying71, by decide, i, _, hi, hz0, hz1, hz2, rfl⟩

def mtxS (l : List Int) : List UInt8 := l.flatMap dig
noncomputable def routeText (r : Rt) : ByteArray := if rtOk r = true then bs (rtx r.r ++ [32] ++ ptB r.path ++ [32] ++ dig r.like ++ [32, 109] ++ mtxS r.marks) else bs []
theorem routeText_no {r : Rt} (h : rtOk r = false) : routeText r = bs [] := by unfold routeText; rw [h]; rfl
theorem routeText_yes {r : Rt} (h : rtOk r = true) : routeText r = bs (rtx r.r ++ [32] ++ ptB r.path ++ [32] ++ dig r.like ++ [32, 109] ++ mtxS r.marks) := by unfold routeText; rw [if_pos h]

end Go.Proofs.YtlehcnfmagjilaaDoor
