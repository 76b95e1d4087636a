/- Where a thing stands in a sorted list, or would stand; slices.BinarySearchFunc. No condition. -/
import Derived.Test.YtlehcnfmagjilaaDoorRows
import Derived.Test.YtlehcnfmagjilaaDoorCopy
import Derived.Test.YtlehcnfmagjilaaDoorRow
import Derived.Test.YtlehcnfmagjilaaDoorSeq
namespace Go.Proofs.YtlehcnfmagjilaaDoor
open Go Go.RowKit

/-- Where the first stands for which p is not below 0. -/
def posC {α : Type} (p : α → Int) : List α → Nat
  | [] => 0
  | d :: l => if p d < 0 then posC p l + 1 else 0
def atC {α : Type} (p : α → Int) (l : List α) : Bool := match l[posC p l]? with
  | some d => p d == 0
  | none => false
/-- What is below 0 stands ahead. -/
def MonoC {α : Type} (p : α → Int) (l : List α) : Prop := ∀ (i j : Nat) (d e : α), i < j → l[i]? = some d → l[j]? = some e → p e < 0 → p d < 0
def BelowC {α : Type} (p : α → Int) (l : List α) (x : Nat) : Prop := ∀ (i : Nat) (d : α), i < x → l[i]? = some d → p d < 0
def AboveC {α : Type} (p : α → Int) (l : List α) (y : Nat) : Prop := ∀ (i : Nat) (d : α), y ≤ i → l[i]? = some d → 0 ≤ p d
section
variable {α : Type} {p : α → Int} {l : List α} {x y m : Nat} {d : α}
theorem BelowC.zero : BelowC p l 0 := fun _ _ h => absurd h (Nat.not_lt_zero _)
theorem AboveC.all (h : l.length = y) : AboveC p l y := fun i d hi hd => by
  have := (List.getElem?_eq_some_iff.1 hd).1
  omega
theorem BelowC.step (_h : BelowC p l x) (hm : MonoC p l) (hd : l[m]? = some d) (hn : p d < 0) : BelowC p l (m + 1) := fun i e hi he => by
  by_cases hie : i = m
  · subst hie; rw [hd] at he; exact Option.some.inj he ▸ hn
  · exact hm i m e d (by omega) he hd hn
theorem AboveC.step (_h : AboveC p l y) (hm : MonoC p l) (hd : l[m]? = some d) (hn : ¬ p d < 0) : AboveC p l m := fun i e hi he => by
  by_cases hie : i = m
  · subst hie; rw [hd] at he; have := Option.some.inj he ▸ hn; omega
  · have h1 : ¬ p e < 0 := fun hc => hn (hm m i d e (by omega) hd he hc)
    omega
theorem posC_eq (hx : BelowC p l x) (hy : AboveC p l x) (hl : x ≤ l.length) : posC p l = x := by
  induction l generalizing x with
  | nil => simp at hl; subst hl; rfl
  | cons a l ih =>
    cases x with
    | zero =>
      have := hy 0 a (Nat.le_refl _) rfl
      simp [posC]; omega
    | succ x =>
      have h0 := hx 0 a (by omega) rfl
      simp only [posC, h0, if_true]
      rw [ih (x := x) (fun i d hi hd => hx (i + 1) d (by omega) (by simpa using hd)) (fun i d hi hd => hy (i + 1) d (by omega) (by simpa using hd)) (by simpa using hl)]
theorem atC_eq (h : posC p l = x) (hd : l[x]? = some d) : atC p l = (p d == 0) := by unfold atC; rw [h, hd]
theorem atC_end (h : posC p l = x) (hl : l.length ≤ x) : atC p l = false := by unfold atC; rw [h, List.getElem?_eq_none hl]
theorem posC_le (p : α → Int) : ∀ l : List α, posC p l ≤ l.length
  | [] => Nat.le_refl _
  | d :: l => by
    simp only [posC, List.length_cons]
    split
    · have := posC_le p l; omega
    · omega
end



set_option maxRecDepth 20000 in
set_option maxHeartbeats 2000000 in
theorem bsf_Rt (a : Option Addr) (len cap : Nat) (l : List Rt) (r : Rg) (p : Rt → Int) (g : FuncId) (w : World) (hg : ∀ args w, (callFunc g args).run Tryd.prog w = .ok (.enter g args) w) (h : SlRd w a len cap l) (hmono : MonoC p l)
    (hf : ∀ (w' : World) (d : Rt) (a_path : Option Addr) (n_path c_path : Nat) (a_marks : Option Addr) (n_marks c_marks : Nat), Ext w w' → d ∈ l → SlRd w' a_path n_path c_path d.path → SlRd w' a_marks n_marks c_marks d.marks → Calls Tryd.prog g #[.agg #[.int .i64 d.r.f, .int .i64 d.r.b, .slice a_path n_path c_path, .int .i64 d.like, .slice a_marks n_marks c_marks], .agg #[.int .i64 r.f, .int .i64 r.b]] w' fun e w2 => e = .returned (.int .i64 (p d)) ∧ Ext w' w2) (hm : len ≤ 1000000000) :
    Calls Tryd.prog 61 #[.slice a len cap, .agg #[.int .i64 r.f, .int .i64 r.b], .func (.func g) #[] #[]] w fun e w' => e = .returned (.tuple #[.int .i64 (posC p l : Nat), .bool (atC p l)]) ∧ Ext w w' := by
  have hlc := h.2.1
  have hcm := h.2.2.1
  unfold maxLen at hcm
  have HL := hidden h.1
  have HF := hidden hf
  have HM := hidden hmono
  clear hf hmono
  go_enter Tryd.func61, Tryd.ntmps61
  go_wp2_with fail
  obtain ⟨W, hW⟩ : ∃ W, W = w.alloc (Obj.cells #[Value.int IntKind.i64 r.f, Value.int IntKind.i64 r.b] 36) := ⟨_, rfl⟩
  have hE0 : Ext w W := by rw [hW]; exact (by repeat (first | with_reducible exact Ext.refl _ | with_reducible apply Ext.and | with_reducible apply Ext.drewx | with_reducible apply Ext.alloc | with_reducible apply Ext.ext | with_reducible apply Ext.drew | with_reducible refine Ext.setCell ?_ (by simp) _))
  have b0 : W.cell? ⟨w.heap.size, 0, none⟩ = some (.int .i64 r.f) := by rw [hW]; go_simp
  have b1 : W.cell? ⟨w.heap.size, 1, none⟩ = some (.int .i64 r.b) := by rw [hW]; go_simp
  rw [← hW]
  clear hW
  go_loopw [9, 10] (fun i j wr => ∃ lo hi : Nat, i = .int .i64 lo ∧ j = .int .i64 hi ∧ lo ≤ hi ∧ hi ≤ len ∧ Ext W wr ∧ Hid (BelowC p l lo) ∧ Hid (AboveC p l hi)) (fun i j _ => (intOf j).toNat - (intOf i).toNat)
  case atStart => exact ⟨0, len, rfl, rfl, Nat.zero_le _, Nat.le_refl _, Ext.refl _, BelowC.zero, AboveC.all HL.out⟩
  case round =>
    obtain ⟨lo, hi, rfl, rfl, hxy, hy, hE, HX, HY⟩ := hrel
    have hE' := hE0.trans hE
    have b0' := (hE.below.cell (p := ⟨w.heap.size, 0, none⟩) (cell_lt b0)).trans b0
    have b1' := (hE.below.cell (p := ⟨w.heap.size, 1, none⟩) (cell_lt b1)).trans b1
    have lb' := cell_lt b0'
    by_cases hlt : lo < hi
    · obtain ⟨m, hm2⟩ : ∃ m, m = (lo + hi) / 2 := ⟨_, rfl⟩
      have hmx : lo ≤ m := by omega
      have hmy : m < hi := by omega
      have hml : m < len := by omega
      have hh : ((lo : Int) + (hi : Int)) / 2 = (m : Int) := by omega
      clear hm2
      obtain ⟨d, dhd, db, doff, dys, rfl, dhys, dhcell, dhrd⟩ := h.at hE' hml
      obtain ⟨da_path, dn_path, dc_path, da_marks, dn_marks, dc_marks, rfl, dg0, dg1, dg2, dg3, dg4⟩ := dhrd
      have dc0 : wr.cell? ⟨db, doff + m * 5, none⟩ = some _ := dhcell 0 _ rfl
      have dc1 : wr.cell? ⟨db, doff + m * 5 + 1, none⟩ = some _ := dhcell 1 _ rfl
      have dc2 : wr.cell? ⟨db, doff + m * 5 + 2, none⟩ = some _ := dhcell 2 _ rfl
      have dc3 : wr.cell? ⟨db, doff + m * 5 + 3, none⟩ = some _ := dhcell 3 _ rfl
      have dc4 : wr.cell? ⟨db, doff + m * 5 + 4, none⟩ = some _ := dhcell 4 _ rfl
      have dlb := cell_lt dc0
      have dHD := hidden dhd
      clear dhcell dhys dhd
      by_cases hneg : p d < 0
      · go_wp2_with (first | (first | ((first | (with_reducible exact Calls.q (HF.out _ d _ _ _ _ _ _ (hE0.trans (by first | exact hE | exact hE.ext _ | exact hE.trans (by repeat (first | with_reducible exact Ext.refl _ | with_reducible apply Ext.and | with_reducible apply Ext.drewx | with_reducible apply Ext.alloc | with_reducible apply Ext.ext | with_reducible apply Ext.drew | with_reducible refine Ext.setCell ?_ (by simp) _)))) (List.mem_of_getElem? dHD.out) (dg2.stays ((by repeat (first | with_reducible exact Ext.refl _ | with_reducible apply Ext.and | with_reducible apply Ext.drewx | with_reducible apply Ext.alloc | with_reducible apply Ext.ext | with_reducible apply Ext.drew | with_reducible refine Ext.setCell ?_ (by simp) _)) : Ext _ _).below) (dg4.stays ((by repeat (first | with_reducible exact Ext.refl _ | with_reducible apply Ext.and | with_reducible apply Ext.drewx | with_reducible apply Ext.alloc | with_reducible apply Ext.ext | with_reducible apply Ext.drew | with_reducible refine Ext.setCell ?_ (by simp) _)) : Ext _ _).below))) | ((with_reducible refine (HF.out _ d _ _ _ _ _ _ (hE0.trans (by first | exact hE | exact hE.ext _ | exact hE.trans (by repeat (first | with_reducible exact Ext.refl _ | with_reducible apply Ext.and | with_reducible apply Ext.drewx | with_reducible apply Ext.alloc | with_reducible apply Ext.ext | with_reducible apply Ext.drew | with_reducible refine Ext.setCell ?_ (by simp) _)))) (List.mem_of_getElem? dHD.out) (dg2.stays ((by repeat (first | with_reducible exact Ext.refl _ | with_reducible apply Ext.and | with_reducible apply Ext.drewx | with_reducible apply Ext.alloc | with_reducible apply Ext.ext | with_reducible apply Ext.drew | with_reducible refine Ext.setCell ?_ (by simp) _)) : Ext _ _).below) (dg4.stays ((by repeat (first | with_reducible exact Ext.refl _ | with_reducible apply Ext.and | with_reducible apply Ext.drewx | with_reducible apply Ext.alloc | with_reducible apply Ext.ext | with_reducible apply Ext.drew | with_reducible refine Ext.setCell ?_ (by simp) _)) : Ext _ _).below)).mono ?_); rintro _ _ ⟨rfl, x1, rfl⟩)))) | ((first | with_reducible refine wp_region_qe (by kernel_rfl) (by kernel_rfl) ?_ | with_reducible refine wp_region_q (by kernel_rfl) (by kernel_rfl) ?_); (repeat' (first | go_big_quiet_step ((first | ((first | (with_reducible exact Calls.q (HF.out _ d _ _ _ _ _ _ (hE0.trans (by first | exact hE | exact hE.ext _ | exact hE.trans (by repeat (first | with_reducible exact Ext.refl _ | with_reducible apply Ext.and | with_reducible apply Ext.drewx | with_reducible apply Ext.alloc | with_reducible apply Ext.ext | with_reducible apply Ext.drew | with_reducible refine Ext.setCell ?_ (by simp) _)))) (List.mem_of_getElem? dHD.out) (dg2.stays ((by repeat (first | with_reducible exact Ext.refl _ | with_reducible apply Ext.and | with_reducible apply Ext.drewx | with_reducible apply Ext.alloc | with_reducible apply Ext.ext | with_reducible apply Ext.drew | with_reducible refine Ext.setCell ?_ (by simp) _)) : Ext _ _).below) (dg4.stays ((by repeat (first | with_reducible exact Ext.refl _ | with_reducible apply Ext.and | with_reducible apply Ext.drewx | with_reducible apply Ext.alloc | with_reducible apply Ext.ext | with_reducible apply Ext.drew | with_reducible refine Ext.setCell ?_ (by simp) _)) : Ext _ _).below))) | ((with_reducible refine (HF.out _ d _ _ _ _ _ _ (hE0.trans (by first | exact hE | exact hE.ext _ | exact hE.trans (by repeat (first | with_reducible exact Ext.refl _ | with_reducible apply Ext.and | with_reducible apply Ext.drewx | with_reducible apply Ext.alloc | with_reducible apply Ext.ext | with_reducible apply Ext.drew | with_reducible refine Ext.setCell ?_ (by simp) _)))) (List.mem_of_getElem? dHD.out) (dg2.stays ((by repeat (first | with_reducible exact Ext.refl _ | with_reducible apply Ext.and | with_reducible apply Ext.drewx | with_reducible apply Ext.alloc | with_reducible apply Ext.ext | with_reducible apply Ext.drew | with_reducible refine Ext.setCell ?_ (by simp) _)) : Ext _ _).below) (dg4.stays ((by repeat (first | with_reducible exact Ext.refl _ | with_reducible apply Ext.and | with_reducible apply Ext.drewx | with_reducible apply Ext.alloc | with_reducible apply Ext.ext | with_reducible apply Ext.drew | with_reducible refine Ext.setCell ?_ (by simp) _)) : Ext _ _).below)).mono ?_); rintro _ _ ⟨rfl, x1, rfl⟩))))) | (refine wpQuiet_split rfl rfl rfl rfl (fun hsp => ?_) (fun hsp => ?_); ((fail_if_success (cases hsp; done)); simp only [hsp]; (try first | have hsq : _ < _ := of_decide_eq_true hsp | have hsq : _ ≤ _ := of_decide_eq_true hsp | have hsq : ¬ _ < _ := of_decide_eq_false hsp | have hsq : ¬ _ ≤ _ := of_decide_eq_false hsp)); rotate_left; ((fail_if_success (cases hsp; done)); simp only [hsp]; (try first | have hsq : _ < _ := of_decide_eq_true hsp | have hsq : _ ≤ _ := of_decide_eq_true hsp | have hsq : ¬ _ < _ := of_decide_eq_false hsp | have hsq : ¬ _ ≤ _ := of_decide_eq_false hsp))))); (all_goals (refine wpQuiet_nil ?_; intro x))))
        go_roundw
        case rel => exact ⟨m + 1, hi, by first | rfl | go_num, rfl, by omega, hy, (by first | exact hE | exact hE.ext _ | exact hE.trans (by repeat (first | with_reducible exact Ext.refl _ | with_reducible apply Ext.and | with_reducible apply Ext.drewx | with_reducible apply Ext.alloc | with_reducible apply Ext.ext | with_reducible apply Ext.drew | with_reducible refine Ext.setCell ?_ (by simp) _))), HX.out.step HM.out dHD.out hneg, HY⟩
        case measure => simp [intOf]; omega
      · go_wp2_with (first | (first | ((first | (with_reducible exact Calls.q (HF.out _ d _ _ _ _ _ _ (hE0.trans (by first | exact hE | exact hE.ext _ | exact hE.trans (by repeat (first | with_reducible exact Ext.refl _ | with_reducible apply Ext.and | with_reducible apply Ext.drewx | with_reducible apply Ext.alloc | with_reducible apply Ext.ext | with_reducible apply Ext.drew | with_reducible refine Ext.setCell ?_ (by simp) _)))) (List.mem_of_getElem? dHD.out) (dg2.stays ((by repeat (first | with_reducible exact Ext.refl _ | with_reducible apply Ext.and | with_reducible apply Ext.drewx | with_reducible apply Ext.alloc | with_reducible apply Ext.ext | with_reducible apply Ext.drew | with_reducible refine Ext.setCell ?_ (by simp) _)) : Ext _ _).below) (dg4.stays ((by repeat (first | with_reducible exact Ext.refl _ | with_reducible apply Ext.and | with_reducible apply Ext.drewx | with_reducible apply Ext.alloc | with_reducible apply Ext.ext | with_reducible apply Ext.drew | with_reducible refine Ext.setCell ?_ (by simp) _)) : Ext _ _).below))) | ((with_reducible refine (HF.out _ d _ _ _ _ _ _ (hE0.trans (by first | exact hE | exact hE.ext _ | exact hE.trans (by repeat (first | with_reducible exact Ext.refl _ | with_reducible apply Ext.and | with_reducible apply Ext.drewx | with_reducible apply Ext.alloc | with_reducible apply Ext.ext | with_reducible apply Ext.drew | with_reducible refine Ext.setCell ?_ (by simp) _)))) (List.mem_of_getElem? dHD.out) (dg2.stays ((by repeat (first | with_reducible exact Ext.refl _ | with_reducible apply Ext.and | with_reducible apply Ext.drewx | with_reducible apply Ext.alloc | with_reducible apply Ext.ext | with_reducible apply Ext.drew | with_reducible refine Ext.setCell ?_ (by simp) _)) : Ext _ _).below) (dg4.stays ((by repeat (first | with_reducible exact Ext.refl _ | with_reducible apply Ext.and | with_reducible apply Ext.drewx | with_reducible apply Ext.alloc | with_reducible apply Ext.ext | with_reducible apply Ext.drew | with_reducible refine Ext.setCell ?_ (by simp) _)) : Ext _ _).below)).mono ?_); rintro _ _ ⟨rfl, x1, rfl⟩)))) | ((first | with_reducible refine wp_region_qe (by kernel_rfl) (by kernel_rfl) ?_ | with_reducible refine wp_region_q (by kernel_rfl) (by kernel_rfl) ?_); (repeat' (first | go_big_quiet_step ((first | ((first | (with_reducible exact Calls.q (HF.out _ d _ _ _ _ _ _ (hE0.trans (by first | exact hE | exact hE.ext _ | exact hE.trans (by repeat (first | with_reducible exact Ext.refl _ | with_reducible apply Ext.and | with_reducible apply Ext.drewx | with_reducible apply Ext.alloc | with_reducible apply Ext.ext | with_reducible apply Ext.drew | with_reducible refine Ext.setCell ?_ (by simp) _)))) (List.mem_of_getElem? dHD.out) (dg2.stays ((by repeat (first | with_reducible exact Ext.refl _ | with_reducible apply Ext.and | with_reducible apply Ext.drewx | with_reducible apply Ext.alloc | with_reducible apply Ext.ext | with_reducible apply Ext.drew | with_reducible refine Ext.setCell ?_ (by simp) _)) : Ext _ _).below) (dg4.stays ((by repeat (first | with_reducible exact Ext.refl _ | with_reducible apply Ext.and | with_reducible apply Ext.drewx | with_reducible apply Ext.alloc | with_reducible apply Ext.ext | with_reducible apply Ext.drew | with_reducible refine Ext.setCell ?_ (by simp) _)) : Ext _ _).below))) | ((with_reducible refine (HF.out _ d _ _ _ _ _ _ (hE0.trans (by first | exact hE | exact hE.ext _ | exact hE.trans (by repeat (first | with_reducible exact Ext.refl _ | with_reducible apply Ext.and | with_reducible apply Ext.drewx | with_reducible apply Ext.alloc | with_reducible apply Ext.ext | with_reducible apply Ext.drew | with_reducible refine Ext.setCell ?_ (by simp) _)))) (List.mem_of_getElem? dHD.out) (dg2.stays ((by repeat (first | with_reducible exact Ext.refl _ | with_reducible apply Ext.and | with_reducible apply Ext.drewx | with_reducible apply Ext.alloc | with_reducible apply Ext.ext | with_reducible apply Ext.drew | with_reducible refine Ext.setCell ?_ (by simp) _)) : Ext _ _).below) (dg4.stays ((by repeat (first | with_reducible exact Ext.refl _ | with_reducible apply Ext.and | with_reducible apply Ext.drewx | with_reducible apply Ext.alloc | with_reducible apply Ext.ext | with_reducible apply Ext.drew | with_reducible refine Ext.setCell ?_ (by simp) _)) : Ext _ _).below)).mono ?_); rintro _ _ ⟨rfl, x1, rfl⟩))))) | (refine wpQuiet_split rfl rfl rfl rfl (fun hsp => ?_) (fun hsp => ?_); ((fail_if_success (cases hsp; done)); simp only [hsp]; (try first | have hsq : _ < _ := of_decide_eq_true hsp | have hsq : _ ≤ _ := of_decide_eq_true hsp | have hsq : ¬ _ < _ := of_decide_eq_false hsp | have hsq : ¬ _ ≤ _ := of_decide_eq_false hsp)); rotate_left; ((fail_if_success (cases hsp; done)); simp only [hsp]; (try first | have hsq : _ < _ := of_decide_eq_true hsp | have hsq : _ ≤ _ := of_decide_eq_true hsp | have hsq : ¬ _ < _ := of_decide_eq_false hsp | have hsq : ¬ _ ≤ _ := of_decide_eq_false hsp))))); (all_goals (refine wpQuiet_nil ?_; intro x))))
        go_roundw
        case rel => exact ⟨lo, m, rfl, by first | rfl | go_num, by omega, by omega, (by first | exact hE | exact hE.ext _ | exact hE.trans (by repeat (first | with_reducible exact Ext.refl _ | with_reducible apply Ext.and | with_reducible apply Ext.drewx | with_reducible apply Ext.alloc | with_reducible apply Ext.ext | with_reducible apply Ext.drew | with_reducible refine Ext.setCell ?_ (by simp) _))), HX, HY.out.step HM.out dHD.out hneg⟩
        case measure => simp [intOf]; omega
    · obtain rfl : lo = hi := by omega
      have hpos := posC_eq HX.out HY.out (by rw [HL.out]; exact hy)
      have HP := hidden hpos
      clear hpos
      by_cases hend : lo < len
      · obtain ⟨d, dhd, db, doff, dys, rfl, dhys, dhcell, dhrd⟩ := h.at hE' hend
        obtain ⟨da_path, dn_path, dc_path, da_marks, dn_marks, dc_marks, rfl, dg0, dg1, dg2, dg3, dg4⟩ := dhrd
        have dc0 : wr.cell? ⟨db, doff + lo * 5, none⟩ = some _ := dhcell 0 _ rfl
        have dc1 : wr.cell? ⟨db, doff + lo * 5 + 1, none⟩ = some _ := dhcell 1 _ rfl
        have dc2 : wr.cell? ⟨db, doff + lo * 5 + 2, none⟩ = some _ := dhcell 2 _ rfl
        have dc3 : wr.cell? ⟨db, doff + lo * 5 + 3, none⟩ = some _ := dhcell 3 _ rfl
        have dc4 : wr.cell? ⟨db, doff + lo * 5 + 4, none⟩ = some _ := dhcell 4 _ rfl
        have dlb := cell_lt dc0
        have dHD := hidden dhd
        clear dhcell dhys dhd
        have HA := hidden (atC_eq HP.out dHD.out)
        go_wp2_with (first | (first | ((first | (with_reducible exact Calls.q (HF.out _ d _ _ _ _ _ _ (hE0.trans (by first | exact hE | exact hE.ext _ | exact hE.trans (by repeat (first | with_reducible exact Ext.refl _ | with_reducible apply Ext.and | with_reducible apply Ext.drewx | with_reducible apply Ext.alloc | with_reducible apply Ext.ext | with_reducible apply Ext.drew | with_reducible refine Ext.setCell ?_ (by simp) _)))) (List.mem_of_getElem? dHD.out) (dg2.stays ((by repeat (first | with_reducible exact Ext.refl _ | with_reducible apply Ext.and | with_reducible apply Ext.drewx | with_reducible apply Ext.alloc | with_reducible apply Ext.ext | with_reducible apply Ext.drew | with_reducible refine Ext.setCell ?_ (by simp) _)) : Ext _ _).below) (dg4.stays ((by repeat (first | with_reducible exact Ext.refl _ | with_reducible apply Ext.and | with_reducible apply Ext.drewx | with_reducible apply Ext.alloc | with_reducible apply Ext.ext | with_reducible apply Ext.drew | with_reducible refine Ext.setCell ?_ (by simp) _)) : Ext _ _).below))) | ((with_reducible refine (HF.out _ d _ _ _ _ _ _ (hE0.trans (by first | exact hE | exact hE.ext _ | exact hE.trans (by repeat (first | with_reducible exact Ext.refl _ | with_reducible apply Ext.and | with_reducible apply Ext.drewx | with_reducible apply Ext.alloc | with_reducible apply Ext.ext | with_reducible apply Ext.drew | with_reducible refine Ext.setCell ?_ (by simp) _)))) (List.mem_of_getElem? dHD.out) (dg2.stays ((by repeat (first | with_reducible exact Ext.refl _ | with_reducible apply Ext.and | with_reducible apply Ext.drewx | with_reducible apply Ext.alloc | with_reducible apply Ext.ext | with_reducible apply Ext.drew | with_reducible refine Ext.setCell ?_ (by simp) _)) : Ext _ _).below) (dg4.stays ((by repeat (first | with_reducible exact Ext.refl _ | with_reducible apply Ext.and | with_reducible apply Ext.drewx | with_reducible apply Ext.alloc | with_reducible apply Ext.ext | with_reducible apply Ext.drew | with_reducible refine Ext.setCell ?_ (by simp) _)) : Ext _ _).below)).mono ?_); rintro _ _ ⟨rfl, x1, rfl⟩)))) | ((first | with_reducible refine wp_region_qe (by kernel_rfl) (by kernel_rfl) ?_ | with_reducible refine wp_region_q (by kernel_rfl) (by kernel_rfl) ?_); (repeat' (first | go_big_quiet_step ((first | ((first | (with_reducible exact Calls.q (HF.out _ d _ _ _ _ _ _ (hE0.trans (by first | exact hE | exact hE.ext _ | exact hE.trans (by repeat (first | with_reducible exact Ext.refl _ | with_reducible apply Ext.and | with_reducible apply Ext.drewx | with_reducible apply Ext.alloc | with_reducible apply Ext.ext | with_reducible apply Ext.drew | with_reducible refine Ext.setCell ?_ (by simp) _)))) (List.mem_of_getElem? dHD.out) (dg2.stays ((by repeat (first | with_reducible exact Ext.refl _ | with_reducible apply Ext.and | with_reducible apply Ext.drewx | with_reducible apply Ext.alloc | with_reducible apply Ext.ext | with_reducible apply Ext.drew | with_reducible refine Ext.setCell ?_ (by simp) _)) : Ext _ _).below) (dg4.stays ((by repeat (first | with_reducible exact Ext.refl _ | with_reducible apply Ext.and | with_reducible apply Ext.drewx | with_reducible apply Ext.alloc | with_reducible apply Ext.ext | with_reducible apply Ext.drew | with_reducible refine Ext.setCell ?_ (by simp) _)) : Ext _ _).below))) | ((with_reducible refine (HF.out _ d _ _ _ _ _ _ (hE0.trans (by first | exact hE | exact hE.ext _ | exact hE.trans (by repeat (first | with_reducible exact Ext.refl _ | with_reducible apply Ext.and | with_reducible apply Ext.drewx | with_reducible apply Ext.alloc | with_reducible apply Ext.ext | with_reducible apply Ext.drew | with_reducible refine Ext.setCell ?_ (by simp) _)))) (List.mem_of_getElem? dHD.out) (dg2.stays ((by repeat (first | with_reducible exact Ext.refl _ | with_reducible apply Ext.and | with_reducible apply Ext.drewx | with_reducible apply Ext.alloc | with_reducible apply Ext.ext | with_reducible apply Ext.drew | with_reducible refine Ext.setCell ?_ (by simp) _)) : Ext _ _).below) (dg4.stays ((by repeat (first | with_reducible exact Ext.refl _ | with_reducible apply Ext.and | with_reducible apply Ext.drewx | with_reducible apply Ext.alloc | with_reducible apply Ext.ext | with_reducible apply Ext.drew | with_reducible refine Ext.setCell ?_ (by simp) _)) : Ext _ _).below)).mono ?_); rintro _ _ ⟨rfl, x1, rfl⟩))))) | (refine wpQuiet_split rfl rfl rfl rfl (fun hsp => ?_) (fun hsp => ?_); ((fail_if_success (cases hsp; done)); simp only [hsp]; (try first | have hsq : _ < _ := of_decide_eq_true hsp | have hsq : _ ≤ _ := of_decide_eq_true hsp | have hsq : ¬ _ < _ := of_decide_eq_false hsp | have hsq : ¬ _ ≤ _ := of_decide_eq_false hsp)); rotate_left; ((fail_if_success (cases hsp; done)); simp only [hsp]; (try first | have hsq : _ < _ := of_decide_eq_true hsp | have hsq : _ ≤ _ := of_decide_eq_true hsp | have hsq : ¬ _ < _ := of_decide_eq_false hsp | have hsq : ¬ _ ≤ _ := of_decide_eq_false hsp))))); (all_goals (refine wpQuiet_nil ?_; intro x))))
        all_goals
          go_ret2
          exact ⟨by rw [HP.out, HA.out]; (first | rfl | (simp; done) | simp_all), hE0.trans (by first | exact hE | exact hE.ext _ | exact hE.trans (by repeat (first | with_reducible exact Ext.refl _ | with_reducible apply Ext.and | with_reducible apply Ext.drewx | with_reducible apply Ext.alloc | with_reducible apply Ext.ext | with_reducible apply Ext.drew | with_reducible refine Ext.setCell ?_ (by simp) _)))⟩
      · have HA := hidden (atC_end HP.out (by rw [HL.out]; omega))
        go_wp2_with (first | ((first | with_reducible refine wp_region_qe (by kernel_rfl) (by kernel_rfl) ?_ | with_reducible refine wp_region_q (by kernel_rfl) (by kernel_rfl) ?_); (repeat' (first | go_big_quiet_step (fail) | (refine wpQuiet_split rfl rfl rfl rfl (fun hsp => ?_) (fun hsp => ?_); ((fail_if_success (cases hsp; done)); simp only [hsp]; (try first | have hsq : _ < _ := of_decide_eq_true hsp | have hsq : _ ≤ _ := of_decide_eq_true hsp | have hsq : ¬ _ < _ := of_decide_eq_false hsp | have hsq : ¬ _ ≤ _ := of_decide_eq_false hsp)); rotate_left; ((fail_if_success (cases hsp; done)); simp only [hsp]; (try first | have hsq : _ < _ := of_decide_eq_true hsp | have hsq : _ ≤ _ := of_decide_eq_true hsp | have hsq : ¬ _ < _ := of_decide_eq_false hsp | have hsq : ¬ _ ≤ _ := of_decide_eq_false hsp))))); (all_goals (refine wpQuiet_nil ?_; intro x))))
        all_goals
          go_ret2
          exact ⟨by rw [HP.out, HA.out]; (first | rfl | (simp; done) | simp_all), hE0.trans (by first | exact hE | exact hE.ext _ | exact hE.trans (by repeat (first | with_reducible exact Ext.refl _ | with_reducible apply Ext.and | with_reducible apply Ext.drewx | with_reducible apply Ext.alloc | with_reducible apply Ext.ext | with_reducible apply Ext.drew | with_reducible refine Ext.setCell ?_ (by simp) _)))⟩

end Go.Proofs.YtlehcnfmagjilaaDoor
