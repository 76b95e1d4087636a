/- Routing tables as linked lists: looking for a range, and taking out. No condition. -/
import Derived.Test.YtlehcnfmagjilaaGreatDoorRdP
import Derived.Test.YtlehcnfmagjilaaGreatDoorAs
import Derived.Test.YtlehcnfmagjilaaGreatDoorFloat
namespace Go.Proofs.YtlehcnfmagjilaaGreatDoor
open Go Go.RowKit

set_option maxRecDepth 20000 in
set_option maxHeartbeats 4000000 in
theorem iSeek_any (N s : Nat) (hs : Int) (up : Bool) (many : Int) (L : List Nd) (xr : Rg) (w : World) (h : Ses N w s hs up many L) (hr : ∀ n ∈ L, rok n.d.route.r.f n.d.route.r.b = true) (hx : rok xr.f xr.b = true) :
    Calls Tryz.prog 79 #[.pointer (some ⟨s, 0, none⟩), .agg #[.int .i64 xr.f, .int .i64 xr.b]] w fun e w' => ∃ A, e = .returned (.pointer (some (lastL s A))) ∧ Hid (∃ B, L = A ++ B ∧ (∀ n ∈ A, rc n.d.route.r xr < 0) ∧ (∀ n B', B = n :: B' → 0 ≤ rc n.d.route.r xr)) ∧ Ext w w' := by
  have H := hidden h
  have HX := hidden hx
  have HRK := hidden hr
  clear hr hx h
  go_enter Tryz.func79, Tryz.ntmps79
  go_upto_region 2 with fail
  refine wp_name (fun W hW => ?_)
  have hE0 : Ext w W := by rw [hW]; exact (by repeat (first | with_reducible exact Ext.refl _ | with_reducible apply Ext.and | with_reducible apply Ext.drewx | with_reducible apply Ext.alloc | with_reducible apply Ext.ext | with_reducible apply Ext.drew | with_reducible refine Ext.setCell ?_ (by simp) _))
  have BX := hidden (show Blk W w.heap.size 38 [.int .i64 xr.f, .int .i64 xr.b] by rw [hW]; exact (Blk.newAt w #[_, _] _ (by simp)).extends (by repeat (first | with_reducible exact Ext.refl _ | with_reducible apply Ext.and | with_reducible apply Ext.drewx | with_reducible apply Ext.alloc | with_reducible apply Ext.ext | with_reducible apply Ext.drew | with_reducible refine Ext.setCell ?_ (by simp) _)))
  clear hW
  have HS := hidden (H.out.ext hE0)
  go_loopw [5] (fun p wr => ∃ (A B : List Nd), Hid (L = A ++ B) ∧ p = .pointer (some (lastL s A)) ∧ Hid (∀ n ∈ A, rc n.d.route.r xr < 0) ∧ Ext W wr) (fun p wr => mN (L.map Nd.b) (atA wr p))
  case atStart => exact ⟨[], L, rfl, rfl, hidden (by simp), Ext.refl _⟩
  case round =>
    obtain ⟨A, B, HL, rfl, HA, hE1⟩ := hrel
    have hE := hE0.trans hE1
    have HW := hidden (show Ses N wr s hs up many (A ++ B) by rw [← HL.out]; exact HS.out.ext hE1)
    obtain ⟨eb, eo, ee, ecs, he, hm, hbk, hcs⟩ := HW.out.lastBlk
    have hel := hbk.lt
    have hec := hbk.cell hcs
    have BY := hidden (BX.out.extends hE1)
    have x0 := BY.out.cell (j := 0) rfl
    have x1 := BY.out.cell (j := 1) rfl
    have xl := BY.out.lt
    rw [he]
    have HE := hidden he
    clear he hm hbk hcs
    have hnd := HS.out.nodupB
    rw [HL.out] at hnd
    have HND := hidden hnd
    clear hnd
    cases B with
    | nil =>
      rw [show hdv [] nilp = .pointer none from rfl] at hec
      go_wp2_with (first | ((first | with_reducible refine wp_region_qe (by kernel_rfl) (by kernel_rfl) ?_ | with_reducible refine wp_region_q (by kernel_rfl) (by kernel_rfl) ?_); (repeat' (first | go_big_quiet_step (fail) | (refine wpQuiet_split rfl rfl rfl rfl (fun hsp => ?_) (fun hsp => ?_); ((fail_if_success (cases hsp; done)); simp only [hsp]; (try first | have hsq : _ < _ := of_decide_eq_true hsp | have hsq : _ ≤ _ := of_decide_eq_true hsp | have hsq : ¬ _ < _ := of_decide_eq_false hsp | have hsq : ¬ _ ≤ _ := of_decide_eq_false hsp)); rotate_left; ((fail_if_success (cases hsp; done)); simp only [hsp]; (try first | have hsq : _ < _ := of_decide_eq_true hsp | have hsq : _ ≤ _ := of_decide_eq_true hsp | have hsq : ¬ _ < _ := of_decide_eq_false hsp | have hsq : ¬ _ ≤ _ := of_decide_eq_false hsp))))); (all_goals (refine wpQuiet_nil ?_; intro x))))
      exact bodyPost_ret (v := .pointer (some ⟨eb, eo, none⟩)) (by simp [results, Tryz.results79, go_sem]) rfl ⟨A, by rw [HE.out], hidden ⟨[], HL.out, HA.out, fun n B' e => by cases e⟩, (by first | exact hE | exact hE.ext _ | exact hE.trans (by repeat (first | with_reducible exact Ext.refl _ | with_reducible apply Ext.and | with_reducible apply Ext.drewx | with_reducible apply Ext.alloc | with_reducible apply Ext.ext | with_reducible apply Ext.drew | with_reducible refine Ext.setCell ?_ (by simp) _)))⟩
    | cons nd B =>
      obtain ⟨ys, y1, y2, y3, _⟩ := HW.out.node
      obtain ⟨b1, m1, d1, b2, m2, d2, p1, p2, rfl, i1, i2, i3, i4, i5, hpf⟩ := y3
      have n0 := y2.cell (j := 0) rfl
      have n1 := y2.cell (j := 1) rfl
      have n6 := y2.cell (j := 6) rfl
      have nl := y2.lt
      have hk := HRK.out nd (by rw [HL.out]; simp)
      have HN6 := hidden n6
      clear y1 y2 i1 i2 i3 i4 i5 hpf n6
      rw [show hdv (nd :: B) nilp = .pointer (some ⟨nd.b, 0, none⟩) from rfl] at hec
      by_cases hq : rc nd.d.route.r xr < 0
      · have HQ := hidden hq
        have hqd := decide_eq_true hq
        clear hq
        go_wp2_with (first | (first | (go_at_call 74; (with_reducible refine (iRangeCmp_rc nd.d.route.r xr _ hk HX.out).mono ?_); rintro _ _ ⟨rfl, x, rfl⟩)) | ((first | with_reducible refine wp_region_qe (by kernel_rfl) (by kernel_rfl) ?_ | with_reducible refine wp_region_q (by kernel_rfl) (by kernel_rfl) ?_); (repeat' (first | go_big_quiet_step ((first | (go_at_call 74; first | with_reducible exact Calls.qb (by assumption) (iRangeCmp_rc nd.d.route.r xr _ hk HX.out) | with_reducible exact Calls.q (iRangeCmp_rc nd.d.route.r xr _ hk HX.out)))) | (refine wpQuiet_split rfl rfl rfl rfl (fun hsp => ?_) (fun hsp => ?_); ((fail_if_success (cases hsp; done)); simp only [hsp]; (try first | have hsq : _ < _ := of_decide_eq_true hsp | have hsq : _ ≤ _ := of_decide_eq_true hsp | have hsq : ¬ _ < _ := of_decide_eq_false hsp | have hsq : ¬ _ ≤ _ := of_decide_eq_false hsp)); rotate_left; ((fail_if_success (cases hsp; done)); simp only [hsp]; (try first | have hsq : _ < _ := of_decide_eq_true hsp | have hsq : _ ≤ _ := of_decide_eq_true hsp | have hsq : ¬ _ < _ := of_decide_eq_false hsp | have hsq : ¬ _ ≤ _ := of_decide_eq_false hsp))))); (all_goals (refine wpQuiet_nil ?_; intro x))))
        go_roundw
        case rel => exact ⟨A ++ [nd], B, by refine hidden ?_; rw [HL.out]; simp, by rw [lastL_snoc], hidden (fun n hn => by
          rcases List.mem_append.1 hn with hn | hn
          · exact HA.out n hn
          · rw [List.mem_singleton.1 hn]; exact HQ.out), hE1.trans (by repeat (first | with_reducible exact Ext.refl _ | with_reducible apply Ext.and | with_reducible apply Ext.drewx | with_reducible apply Ext.alloc | with_reducible apply Ext.ext | with_reducible apply Ext.drew | with_reducible refine Ext.setCell ?_ (by simp) _))⟩
        case measure =>
          have e1 := mN_at (o := 0) HND.out
          have e2 := mN_hdv (A := A ++ [nd]) (B := B) (by simpa using HND.out)
          rw [List.append_assoc, List.singleton_append] at e2
          have e3 : ∀ W', Ext wr W' → W'.cell? ⟨nd.b, 6, none⟩ = some (hdv B nilp) := fun W' h => (h.below.cell (p := ⟨nd.b, 6, none⟩) nl).trans HN6.out
          rw [HL.out]
          show mN _ (World.cell? _ ⟨nd.b, 6, none⟩) < mN _ (wr.cell? ⟨eb, eo, none⟩)
          rw [e3, hec, e1, e2]
          · omega
          · exact (by repeat (first | with_reducible exact Ext.refl _ | with_reducible apply Ext.and | with_reducible apply Ext.drewx | with_reducible apply Ext.alloc | with_reducible apply Ext.ext | with_reducible apply Ext.drew | with_reducible refine Ext.setCell ?_ (by simp) _))
      · have HQ := hidden hq
        have hqd := decide_eq_false hq
        clear hq
        go_wp2_with (first | (first | (go_at_call 74; (with_reducible refine (iRangeCmp_rc nd.d.route.r xr _ hk HX.out).mono ?_); rintro _ _ ⟨rfl, x, rfl⟩)) | ((first | with_reducible refine wp_region_qe (by kernel_rfl) (by kernel_rfl) ?_ | with_reducible refine wp_region_q (by kernel_rfl) (by kernel_rfl) ?_); (repeat' (first | go_big_quiet_step ((first | (go_at_call 74; first | with_reducible exact Calls.qb (by assumption) (iRangeCmp_rc nd.d.route.r xr _ hk HX.out) | with_reducible exact Calls.q (iRangeCmp_rc nd.d.route.r xr _ hk HX.out)))) | (refine wpQuiet_split rfl rfl rfl rfl (fun hsp => ?_) (fun hsp => ?_); ((fail_if_success (cases hsp; done)); simp only [hsp]; (try first | have hsq : _ < _ := of_decide_eq_true hsp | have hsq : _ ≤ _ := of_decide_eq_true hsp | have hsq : ¬ _ < _ := of_decide_eq_false hsp | have hsq : ¬ _ ≤ _ := of_decide_eq_false hsp)); rotate_left; ((fail_if_success (cases hsp; done)); simp only [hsp]; (try first | have hsq : _ < _ := of_decide_eq_true hsp | have hsq : _ ≤ _ := of_decide_eq_true hsp | have hsq : ¬ _ < _ := of_decide_eq_false hsp | have hsq : ¬ _ ≤ _ := of_decide_eq_false hsp))))); (all_goals (refine wpQuiet_nil ?_; intro x))))
        exact bodyPost_ret (v := .pointer (some ⟨eb, eo, none⟩)) (by simp [results, Tryz.results79, go_sem]) rfl ⟨A, by rw [HE.out], hidden ⟨nd :: B, HL.out, HA.out, fun n B' e => by simp only [List.cons.injEq] at e; rw [← e.1]; have := HQ.out; omega⟩, (by first | exact hE | exact hE.ext _ | exact hE.trans (by repeat (first | with_reducible exact Ext.refl _ | with_reducible apply Ext.and | with_reducible apply Ext.drewx | with_reducible apply Ext.alloc | with_reducible apply Ext.ext | with_reducible apply Ext.drew | with_reducible refine Ext.setCell ?_ (by simp) _)))⟩

/-- Strictly ascending, pair by pair. -/
def ascR (l : List Gt) : Prop := ∀ (i j : Nat) (a b : Gt), i < j → l[i]? = some a → l[j]? = some b → rc a.route.r b.route.r < 0
theorem rib_asc {d : Rb} (h : ribOk d = true) : ascR d.all := by
  simp only [ribOk, Bool.and_eq_true] at h
  have hk := (ascB_iff.1 h.2.2).2
  intro i j a b hij ha hb
  induction j generalizing b with
  | zero => omega
  | succ j ih =>
    obtain ⟨c, hc⟩ : ∃ c, d.all[j]? = some c := ⟨_, List.getElem?_eq_getElem (by have := (List.getElem?_eq_some_iff.1 hb).1; omega)⟩
    have h1 := hk j _ _ (List.getElem?_eq_some_iff.1 hb).1 hc hb
    simp only [gLt, rlt, decide_eq_true_eq] at h1
    by_cases hji : i = j
    · subst hji
      rw [hc] at ha
      rw [← Option.some.inj ha]; exact h1
    · exact rc_trans (ih c (by omega) hc) h1
theorem ses_split {L A B : List Nd} {x : Rg} (hL : L = A ++ B) (hA : ∀ n ∈ A, rc n.d.route.r x < 0) (hB : ∀ n B', B = n :: B' → 0 ≤ rc n.d.route.r x) (ha : ascR (L.map Nd.d)) :
    (∃ n B', B = n :: B' ∧ n.d.route.r = x ∧ (L.map Nd.d).any (gotR x) = true ∧ findI (gotR x) (L.map Nd.d) = (A.length : Int)) ∨ ((∀ n B', B = n :: B' → n.d.route.r ≠ x) ∧ (L.map Nd.d).any (gotR x) = false) := by
  have hAn : ∀ n ∈ A, gotR x n.d = false := fun n hn => decide_eq_false (fun e => by
    have := hA n hn; rw [rc_zero.2 e] at this; omega)
  have htake : ((L.map Nd.d).take A.length).any (gotR x) = false := by
    rw [hL, List.map_append, List.take_append_of_le_length (by simp), List.take_of_length_le (by simp), List.any_eq_false]
    intro g hg
    obtain ⟨n, hn, rfl⟩ := List.mem_map.1 hg
    rw [hAn n hn]; simp
  cases B with
  | nil =>
    refine .inr ⟨fun n B' e => (by cases e), ?_⟩
    rw [List.append_nil] at hL
    rw [hL, List.any_eq_false]
    intro g hg
    obtain ⟨n, hn, rfl⟩ := List.mem_map.1 hg
    rw [hAn n hn]; simp
  | cons n B' =>
    have hn0 := hB n B' rfl
    have hat : (L.map Nd.d)[A.length]? = some n.d := by rw [hL]; simp
    by_cases e : n.d.route.r = x
    · exact .inl ⟨n, B', rfl, e, any_at hat (decide_eq_true e), findI_at htake hat (decide_eq_true e)⟩
    · refine .inr ⟨fun m B'' h => by simp only [List.cons.injEq] at h; rw [← h.1]; exact e, ?_⟩
      rw [List.any_eq_false]
      intro g hg
      obtain ⟨j, hj, rfl⟩ := List.mem_iff_getElem.1 hg
      have hgj := List.getElem?_eq_getElem hj
      rw [Bool.not_eq_true]
      refine decide_eq_false (fun e2 => ?_)
      rcases Nat.lt_trichotomy j A.length with h1 | h1 | h1
      · have : (((L.map Nd.d).take A.length)[j]?) = some (L.map Nd.d)[j] := by rw [List.getElem?_take, if_pos h1, hgj]
        have h3 := List.any_eq_false.1 htake _ (List.mem_of_getElem? this)
        exact h3 (decide_eq_true e2)
      · subst h1
        rw [hgj] at hat
        rw [Option.some.inj hat] at e2
        exact e e2
      · have h3 := ha _ _ _ _ h1 hat hgj
        rw [e2] at h3
        omega

theorem drop_map {A B : List Nd} {n : Nd} : (A ++ B).map Nd.d = ((A ++ n :: B).map Nd.d).take A.length ++ ((A ++ n :: B).map Nd.d).drop (A.length + 1) := by
  simp only [List.map_append, List.map_cons]
  rw [List.take_append_of_le_length (by simp), List.take_of_length_le (by simp), List.drop_append, List.drop_eq_nil_of_le (by simp)]
  simp

end Go.Proofs.YtlehcnfmagjilaaGreatDoor
