/- Lemmas for it, part 19. No condition. -/
import Derived.Conc.Own3
import Derived.Test.YtngehfhcnfobbaaPk13
import Derived.Test.YtngehfhcnfobbaaPk18
namespace Go.Proofs.Ytngehfhcnfobbaa
open Go Go.Conc Go.RowKit

theorem dcSt_cnt (d : Dl) : ∀ k, cntL (dcSt d k).2.2 + cntL (dcSt d k).1 + cntL (dcSt d k).2.1 ≤ cntL (d.drop.take k) + cntL (d.tell.take (k - d.drop.length)) := by
  intro k
  induction k with
  | zero => simp [dcSt, cntL]
  | succ k ih =>
    have h1 : cntL (dcAdd d k (dcSt d k).1 (dcSt d k).2.1).1 + cntL (dcAdd d k (dcSt d k).1 (dcSt d k).2.1).2 + (cntL (d.drop.take k) + cntL (d.tell.take (k - d.drop.length))) ≤ cntL (dcSt d k).1 + cntL (dcSt d k).2.1 + (cntL (d.drop.take (k + 1)) + cntL (d.tell.take (k + 1 - d.drop.length))) := by
      unfold dcAdd
      by_cases hk : k < d.drop.length
      · rw [List.getElem?_eq_getElem hk]
        have e1 := cntL_take (i := k) (List.getElem?_eq_getElem hk)
        have e2 : k + 1 - d.drop.length = 0 := by omega
        have e3 : k - d.drop.length = 0 := by omega
        simp only [e1, e2, e3, cntL_append, cntL]
        omega
      · rw [List.getElem?_eq_none (by omega)]
        have e2 : k + 1 - d.drop.length = (k - d.drop.length) + 1 := by omega
        have e4 : d.drop.take (k + 1) = d.drop.take k := by rw [List.take_of_length_le (by omega), List.take_of_length_le (by omega)]
        rw [e2, e4]
        cases h : d.tell[k - d.drop.length]? with
        | none =>
          have := List.getElem?_eq_none_iff.1 h
          rw [List.take_of_length_le (by omega : d.tell.length ≤ k - d.drop.length + 1), List.take_of_length_le this]
          simp only
          omega
        | some t =>
          have e1 := cntL_take (i := k - d.drop.length) h
          simp only [e1, cntL_append, cntL]
          omega
    simp only [dcSt]
    split
    · have e5 : cntL ((dcSt d k).2.2 ++ [(⟨(dcAdd d k (dcSt d k).1 (dcSt d k).2.1).1, (dcAdd d k (dcSt d k).1 (dcSt d k).2.1).2⟩ : Dl)]) = cntL (dcSt d k).2.2 + (0 + cntL (dcAdd d k (dcSt d k).1 (dcSt d k).2.1).1 + cntL (dcAdd d k (dcSt d k).1 (dcSt d k).2.1).2 + 0) := by
        rw [cntL_append]; rfl
      simp only [e5, cntL]
      omega
    · simp only
      omega
theorem dcut_cnt {d : Dl} (h : Sz.sz d ≤ 1048576) : Mt.cnt (dcut d) ≤ 1099511627776 := by
  have h1 := dcSt_cnt d (dcN d)
  have h2 := cntL_le d.drop (dcN d)
  have h3 := cntL_le d.tell (dcN d - d.drop.length)
  have h4 : Mt.cnt d = cntL d.drop + cntL d.tell := rfl
  have h5 := cnt_sz d
  have h6 : Mt.cnt (dcut d) ≤ cntL (dcSt d (dcN d)).2.2 + cntL (dcSt d (dcN d)).1 + cntL (dcSt d (dcN d)).2.1 := by
    show cntL (dcut d) ≤ _
    unfold dcut dcEnd
    split
    · omega
    · rw [cntL_append]
      show cntL (dcSt d (dcN d)).2.2 + (0 + cntL (dcSt d (dcN d)).1 + cntL (dcSt d (dcN d)).2.1 + 0) ≤ _
      omega
  omega

noncomputable def lwX8 : Code := sq1 lwT1
noncomputable def lwX10 : Code := sq1 (sq2 lwT1)
noncomputable def lwR12 : Code := sq1 (sq2 (sq2 lwT1))
noncomputable def lwR13 : Code := sq1 (sq2 (sq2 (sq2 lwT1)))
noncomputable def lwX14 : Code := sq1 (sq2 (sq2 (sq2 (sq2 lwT1))))
noncomputable def lwR16 : Code := sq1 (sq2 (sq2 (sq2 (sq2 (sq2 lwT1)))))
noncomputable def lwR17 : Code := sq1 (sq2 (sq2 (sq2 (sq2 (sq2 (sq2 lwT1))))))
noncomputable def lwR18 : Code := sq1 (sq2 (sq2 (sq2 (sq2 (sq2 (sq2 (sq2 lwT1)))))))
noncomputable def lwR19 : Code := sq1 (sq2 (sq2 (sq2 (sq2 (sq2 (sq2 (sq2 (sq2 lwT1))))))))
noncomputable def lwX20 : Code := sq1 (sq2 (sq2 (sq2 (sq2 (sq2 (sq2 (sq2 (sq2 (sq2 lwT1)))))))))
noncomputable def lwX22 : Code := sq1 (sq2 (sq2 (sq2 (sq2 (sq2 (sq2 (sq2 (sq2 (sq2 (sq2 lwT1))))))))))
noncomputable def lwR24 : Array Oper := rgO' (sq1 (sq2 (sq2 (sq2 (sq2 (sq2 (sq2 (sq2 (sq2 (sq2 (sq2 (sq2 lwT1))))))))))))
noncomputable def lwT2 : Code := sq2 (sq2 (sq2 (sq2 (sq2 (sq2 (sq2 (sq2 (sq2 (sq2 (sq2 (sq2 lwT1)))))))))))
theorem lwT1_eq : lwT1 = [lwX8, lwX10, lwR12, lwR13, lwX14, lwR16, lwR17, lwR18, lwR19, lwX20, lwX22].foldr .seq (.seq (.region 24 lwR24 false) lwT2) := by kernel_rfl

def LT (a1 : Option Addr) (n1 c1 : Nat) (a2 : Option Addr) (n2 c2 : Nat) (X : Nat) (aw : Option Addr) (nw cw : Nat) (ag : Option Addr) (ng cg : Nat) (m : Int) (a : Act) : Prop := ∃ y3 y5 y7 y9 y10 y11 y12 y13 y14 y15 y16 y17 y18 y19 y20 y21 y22 y23 y24 y25 y26 y27 y28 y29 y30 y31 y32 y33 y34 y35 y36 y37 y38 y39 y40 y41 y42 y43 y44 y45 y46 y47 y48 y49 y50 y51 y52 y53 y54 y55 y56 y57 y58 y59 y60 y61 y62 y63 y64 y65 y66 y67 y68 : Value, a = ⟨#[.agg #[.slice a1 n1 c1, .slice a2 n2 c2], .pointer (some ⟨X, 0, none⟩), .bool false, y3, .slice aw nw cw, y5, .slice ag ng cg, y7, .int .i64 m, y9, y10, y11, y12, y13, y14, y15, y16, y17, y18, y19, y20, y21, y22, y23, y24, y25, y26, y27, y28, y29, y30, y31, y32, y33, y34, y35, y36, y37, y38, y39, y40, y41, y42, y43, y44, y45, y46, y47, y48, y49, y50, y51, y52, y53, y54, y55, y56, y57, y58, y59, y60, y61, y62, y63, y64, y65, y66, y67, y68], []⟩

set_option maxRecDepth 40000 in
set_option maxHeartbeats 16000000 in
/-- Between the calls. -/
theorem law_B (d : Dl) (a1 : Option Addr) (n1 c1 : Nat) (a2 : Option Addr) (n2 c2 : Nat) (w wr : World) (h1 : SlRd w a1 n1 c1 d.drop) (h2 : SlRd w a2 n2 c2 d.tell) (z0 : Sz.sz d ≤ 1048576) (X B V1 H1 N H2 : Nat) (aw : Option Addr) (nw cw : Nat) (e1 : Option Addr) (f1 g1 : Nat) (e2 : Option Addr) (f2 g2 : Nat) (ag : Option Addr) (ng cg : Nat) (y3 y7 y8 y9 y10 y11 y12 y13 y14 y15 y16 y17 y18 y19 y20 y21 y22 y23 y24 y25 y26 y27 y28 y29 y30 y31 y32 y33 y34 y35 y36 y37 y38 y39 y40 y41 y42 y43 y44 y45 y46 y47 y48 y49 y50 y51 y52 y53 y54 y55 y56 y57 y58 y59 y60 y61 y62 y63 y64 y65 y66 y67 y68 : Value)
    (hl : LW d w a1 n1 c1 a2 n2 c2 X B V1 aw nw cw e1 f1 g1 e2 f2 g2 wr) (hx : Own2 V1 wr [.slice e1 f1 g1, .slice e2 f2 g2] d H1) (hH : H1 ≤ B) (hg : Own2 N wr [.slice ag ng cg] (dcut d) H2) (hN : B < N) (Q : Act → World → Prop)
    (hcont : ∀ a' w3, LT a1 n1 c1 a2 n2 c2 X aw nw cw ag ng cg (1 + (Mt.cnt (dcut d) : Nat)) a' → Ext w w3 → Blk w3 X 25 [.slice a1 n1 c1, .slice a2 n2 c2] → Rd2 V1 w3 [.slice aw nw cw] (dcut d) → Lay.rd w3 [.slice ag ng cg] (Mt.ov (dcut d) 1) → Q a' w3) :
    wpC Try.prog [lwX8, lwX10, lwR12, lwR13, lwX14, lwR16, lwR17, lwR18, lwR19, lwX20, lwX22] Q ⟨#[.agg #[.slice a1 n1 c1, .slice a2 n2 c2], .pointer (some ⟨X, 0, none⟩), .bool false, y3, .slice aw nw cw, .pointer (some ⟨B, 0, none⟩), .slice ag ng cg, y7, y8, y9, y10, y11, y12, y13, y14, y15, y16, y17, y18, y19, y20, y21, y22, y23, y24, y25, y26, y27, y28, y29, y30, y31, y32, y33, y34, y35, y36, y37, y38, y39, y40, y41, y42, y43, y44, y45, y46, y47, y48, y49, y50, y51, y52, y53, y54, y55, y56, y57, y58, y59, y60, y61, y62, y63, y64, y65, y66, y67, y68], []⟩ wr := by
  have HC := hidden hcont
  have HA1 := hidden h1
  have HA2 := hidden h2
  have HZ := hidden z0
  have hE := hl.ext
  have BA := hidden hl.bA
  have BX := hidden hl.bX
  have WR := hidden hl.wr
  have XO := hidden hx
  have GO := hidden hg
  have hXV := hl.XV
  have hVB := hl.VB
  have hXw := hidden hl.hX
  have ca0 := hl.bA.cell (j := 0) rfl
  have ca1 := hl.bA.cell (j := 1) rfl
  have cx0 := hl.bX.cell (j := 0) rfl
  have cx1 := hl.bX.cell (j := 1) rfl
  have la := hl.bA.lt
  have lx := hl.bX.lt
  have y0 : Mt.cnt d ≤ 1099511627776 := Nat.le_trans (cnt_sz d) (by omega)
  have yr : Mt.cnt (dcut d) ≤ 1099511627776 := dcut_cnt z0
  have nk : decide ((1 : Int) + ((Mt.cnt d : Nat) : Int) < 0) = false := by first | (simp; done) | (simp; omega)
  have nr : decide ((1 : Int) + ((Mt.cnt (dcut d) : Nat) : Int) < 0) = false := by first | (simp; done) | (simp; omega)
  clear hl hx hg h1 h2 hcont
  show (Code.seq (Code.region _ _ _) (Code.cond _ _ _)).wp _ _ _ _
  go_wp2_with (first | (first | ((go_at_call 8; (with_reducible refine (eqF_LDl _ _ _ _ _ _ _ _ _ (Own2.later GO.out ((by repeat (first | with_reducible exact Ext.refl _ | with_reducible apply Ext.and | with_reducible apply Ext.drewx | with_reducible apply Ext.alloc | with_reducible apply Ext.ext | with_reducible apply Ext.drew | with_reducible refine Ext.setCell ?_ (by simp) _)) : Ext wr _)).rd (Rd2.later WR.out ((by repeat (first | with_reducible exact Ext.refl _ | with_reducible apply Ext.and | with_reducible apply Ext.drewx | with_reducible apply Ext.alloc | with_reducible apply Ext.ext | with_reducible apply Ext.drew | with_reducible refine Ext.setCell ?_ (by simp) _)) : Ext wr _)).rd).mono ?_); rintro _ _ ⟨rfl, x0, rfl⟩))) | ((with_reducible refine wp_region_seqT (by kernel_rfl) (by kernel_rfl) ?_); (repeat' (first | ((with_reducible refine wpSeq_pure (by with_unfolding_all rfl) (fun Kq hKq => ?_)); (repeat' (go_big_quiet_step (fail))); (all_goals (refine wpQuiet_nil ?_; refine hKq _ ?_; clear hKq Kq))) | ((with_reducible refine wpSeq_act (by with_unfolding_all rfl) (fun Q' hQ' => ?_)); (go_wp2_with (first | ((go_at_call 8; (with_reducible refine (eqF_LDl _ _ _ _ _ _ _ _ _ (Own2.later GO.out ((by repeat (first | with_reducible exact Ext.refl _ | with_reducible apply Ext.and | with_reducible apply Ext.drewx | with_reducible apply Ext.alloc | with_reducible apply Ext.ext | with_reducible apply Ext.drew | with_reducible refine Ext.setCell ?_ (by simp) _)) : Ext wr _)).rd (Rd2.later WR.out ((by repeat (first | with_reducible exact Ext.refl _ | with_reducible apply Ext.and | with_reducible apply Ext.drewx | with_reducible apply Ext.alloc | with_reducible apply Ext.ext | with_reducible apply Ext.drew | with_reducible refine Ext.setCell ?_ (by simp) _)) : Ext wr _)).rd).mono ?_); rintro _ _ ⟨rfl, x0, rfl⟩)))); (all_goals (refine hQ' _ _ rfl trivial ?_; clear hQ' Q'))))); (all_goals ((with_reducible refine wpSeq_nil ?_)))))
  show (Code.seq (Code.region _ _ _) (Code.cond _ _ _)).wp _ _ _ _
  go_wp2_with (first | (first | ((go_at_call 6; (with_reducible refine (to_Dl d a1 n1 c1 a2 n2 c2 _ z0 (HA1.out.stays (hE.trans ((by repeat (first | with_reducible exact Ext.refl _ | with_reducible apply Ext.and | with_reducible apply Ext.drewx | with_reducible apply Ext.alloc | with_reducible apply Ext.ext | with_reducible apply Ext.drew | with_reducible refine Ext.setCell ?_ (by simp) _)) : Ext wr _)).below) (HA2.out.stays (hE.trans ((by repeat (first | with_reducible exact Ext.refl _ | with_reducible apply Ext.and | with_reducible apply Ext.drewx | with_reducible apply Ext.alloc | with_reducible apply Ext.ext | with_reducible apply Ext.drew | with_reducible refine Ext.setCell ?_ (by simp) _)) : Ext wr _)).below)).mono ?_); rintro _ _ ⟨b1, m1, k1, b2, m2, k2, rfl, x1, rfl, F2⟩; (try rw [ext_ext] at F2))) | ((go_at_call 9; (with_reducible refine (eqF_Dl _ _ _ _ _ _ _ _ _ _ _ _ d d _ (Lay.stays XO.out.rd ((by repeat (first | with_reducible exact Ext.refl _ | with_reducible apply Ext.and | with_reducible apply Ext.drewx | with_reducible apply Ext.alloc | with_reducible apply Ext.ext | with_reducible apply Ext.drew | with_reducible refine Ext.setCell ?_ (by simp) _)) : Ext wr _).below) (Lay.stays F2.out.rd ((by repeat (first | with_reducible exact Ext.refl _ | with_reducible apply Ext.and | with_reducible apply Ext.drewx | with_reducible apply Ext.alloc | with_reducible apply Ext.ext | with_reducible apply Ext.drew | with_reducible refine Ext.setCell ?_ (by simp) _)) : Ext _ _).below)).mono ?_); rintro _ _ ⟨rfl, x2, rfl⟩))) | ((first | with_reducible refine wp_region_qe (by kernel_rfl) (by kernel_rfl) ?_ | with_reducible refine wp_region_q (by kernel_rfl) (by kernel_rfl) ?_); (repeat' (first | go_big_quiet_step ((first | ((go_at_call 6; (with_reducible refine (to_Dl d a1 n1 c1 a2 n2 c2 _ z0 (HA1.out.stays (hE.trans ((by repeat (first | with_reducible exact Ext.refl _ | with_reducible apply Ext.and | with_reducible apply Ext.drewx | with_reducible apply Ext.alloc | with_reducible apply Ext.ext | with_reducible apply Ext.drew | with_reducible refine Ext.setCell ?_ (by simp) _)) : Ext wr _)).below) (HA2.out.stays (hE.trans ((by repeat (first | with_reducible exact Ext.refl _ | with_reducible apply Ext.and | with_reducible apply Ext.drewx | with_reducible apply Ext.alloc | with_reducible apply Ext.ext | with_reducible apply Ext.drew | with_reducible refine Ext.setCell ?_ (by simp) _)) : Ext wr _)).below)).mono ?_); rintro _ _ ⟨b1, m1, k1, b2, m2, k2, rfl, x1, rfl, F2⟩; (try rw [ext_ext] at F2))) | ((go_at_call 9; (with_reducible refine (eqF_Dl _ _ _ _ _ _ _ _ _ _ _ _ d d _ (Lay.stays XO.out.rd ((by repeat (first | with_reducible exact Ext.refl _ | with_reducible apply Ext.and | with_reducible apply Ext.drewx | with_reducible apply Ext.alloc | with_reducible apply Ext.ext | with_reducible apply Ext.drew | with_reducible refine Ext.setCell ?_ (by simp) _)) : Ext wr _).below) (Lay.stays F2.out.rd ((by repeat (first | with_reducible exact Ext.refl _ | with_reducible apply Ext.and | with_reducible apply Ext.drewx | with_reducible apply Ext.alloc | with_reducible apply Ext.ext | with_reducible apply Ext.drew | with_reducible refine Ext.setCell ?_ (by simp) _)) : Ext _ _).below)).mono ?_); rintro _ _ ⟨rfl, x2, rfl⟩)))) | (refine wpQuiet_split rfl rfl rfl rfl (fun hsp => ?_) (fun hsp => ?_); ((fail_if_success (cases hsp; done)); simp only [hsp]; (try first | have hsq : _ < _ := of_decide_eq_true hsp | have hsq : _ ≤ _ := of_decide_eq_true hsp | have hsq : ¬ _ < _ := of_decide_eq_false hsp | have hsq : ¬ _ ≤ _ := of_decide_eq_false hsp)); rotate_left; ((fail_if_success (cases hsp; done)); simp only [hsp]; (try first | have hsq : _ < _ := of_decide_eq_true hsp | have hsq : _ ≤ _ := of_decide_eq_true hsp | have hsq : ¬ _ < _ := of_decide_eq_false hsp | have hsq : ¬ _ ≤ _ := of_decide_eq_false hsp))))); (all_goals (refine wpQuiet_nil ?_; intro x))) | ((first | with_reducible refine wp_region_seqe (by kernel_rfl) (by kernel_rfl) ?_ | with_reducible refine wp_region_seqw (by kernel_rfl) (by kernel_rfl) ?_); (repeat' (first | ((with_reducible refine wpSeq_pure (by with_unfolding_all rfl) (fun Kq hKq => ?_)); (repeat' (first | go_big_quiet_step (fail) | (refine wpQuiet_split rfl rfl rfl rfl (fun hsp => ?_) (fun hsp => ?_); ((fail_if_success (cases hsp; done)); simp only [hsp]; (try first | have hsq : _ < _ := of_decide_eq_true hsp | have hsq : _ ≤ _ := of_decide_eq_true hsp | have hsq : ¬ _ < _ := of_decide_eq_false hsp | have hsq : ¬ _ ≤ _ := of_decide_eq_false hsp)); rotate_left; ((fail_if_success (cases hsp; done)); simp only [hsp]; (try first | have hsq : _ < _ := of_decide_eq_true hsp | have hsq : _ ≤ _ := of_decide_eq_true hsp | have hsq : ¬ _ < _ := of_decide_eq_false hsp | have hsq : ¬ _ ≤ _ := of_decide_eq_false hsp))))); (all_goals (refine wpQuiet_nil ?_; refine hKq _ ?_; clear hKq Kq))) | ((with_reducible refine wpSeq_act (by with_unfolding_all rfl) (fun Q' hQ' => ?_)); (go_wp2_with (first | ((go_at_call 6; (with_reducible refine (to_Dl d a1 n1 c1 a2 n2 c2 _ z0 (HA1.out.stays (hE.trans ((by repeat (first | with_reducible exact Ext.refl _ | with_reducible apply Ext.and | with_reducible apply Ext.drewx | with_reducible apply Ext.alloc | with_reducible apply Ext.ext | with_reducible apply Ext.drew | with_reducible refine Ext.setCell ?_ (by simp) _)) : Ext wr _)).below) (HA2.out.stays (hE.trans ((by repeat (first | with_reducible exact Ext.refl _ | with_reducible apply Ext.and | with_reducible apply Ext.drewx | with_reducible apply Ext.alloc | with_reducible apply Ext.ext | with_reducible apply Ext.drew | with_reducible refine Ext.setCell ?_ (by simp) _)) : Ext wr _)).below)).mono ?_); rintro _ _ ⟨b1, m1, k1, b2, m2, k2, rfl, x1, rfl, F2⟩; (try rw [ext_ext] at F2))) | ((go_at_call 9; (with_reducible refine (eqF_Dl _ _ _ _ _ _ _ _ _ _ _ _ d d _ (Lay.stays XO.out.rd ((by repeat (first | with_reducible exact Ext.refl _ | with_reducible apply Ext.and | with_reducible apply Ext.drewx | with_reducible apply Ext.alloc | with_reducible apply Ext.ext | with_reducible apply Ext.drew | with_reducible refine Ext.setCell ?_ (by simp) _)) : Ext wr _).below) (Lay.stays F2.out.rd ((by repeat (first | with_reducible exact Ext.refl _ | with_reducible apply Ext.and | with_reducible apply Ext.drewx | with_reducible apply Ext.alloc | with_reducible apply Ext.ext | with_reducible apply Ext.drew | with_reducible refine Ext.setCell ?_ (by simp) _)) : Ext _ _).below)).mono ?_); rintro _ _ ⟨rfl, x2, rfl⟩)))); (all_goals (refine hQ' _ _ rfl ?_ ?_; (change Ext _ _; exact (by repeat (first | with_reducible exact Ext.refl _ | with_reducible apply Ext.and | with_reducible apply Ext.drewx | with_reducible apply Ext.alloc | with_reducible apply Ext.ext | with_reducible apply Ext.drew | with_reducible refine Ext.setCell ?_ (by simp) _))); clear hQ' Q'))))); (all_goals ((with_reducible refine wpSeq_nil ?_)))))
  show (Code.region _ _ _).wp _ _ _ _
  go_wp2_with fail
  show (Code.region _ _ _).wp _ _ _ _
  go_wp2_with (first | (first | ((go_at_call 10; (with_reducible refine (markF_Dl _ _ _ _ _ _ d _ _ (Own2.later XO.out ((by repeat (first | with_reducible exact Ext.refl _ | with_reducible apply Ext.and | with_reducible apply Ext.drewx | with_reducible apply Ext.alloc | with_reducible apply Ext.ext | with_reducible apply Ext.drew | with_reducible refine Ext.setCell ?_ (by simp) _)) : Ext wr _)) (by omega) (by omega)).mono ?_); rintro _ W1 ⟨rfl, C0, _⟩; have WR := hidden (Rd2.chg (Rd2.later WR.out ((by repeat (first | with_reducible exact Ext.refl _ | with_reducible apply Ext.and | with_reducible apply Ext.drewx | with_reducible apply Ext.alloc | with_reducible apply Ext.ext | with_reducible apply Ext.drew | with_reducible refine Ext.setCell ?_ (by simp) _)) : Ext wr _)) C0 (Nat.le_refl _)); have GO := hidden (Own2.chg (Own2.later GO.out ((by repeat (first | with_reducible exact Ext.refl _ | with_reducible apply Ext.and | with_reducible apply Ext.drewx | with_reducible apply Ext.alloc | with_reducible apply Ext.ext | with_reducible apply Ext.drew | with_reducible refine Ext.setCell ?_ (by simp) _)) : Ext wr _)) C0 (.inr (by omega))); have BA := hidden (Chg2.box C0 (BA.out.extends ((by repeat (first | with_reducible exact Ext.refl _ | with_reducible apply Ext.and | with_reducible apply Ext.drewx | with_reducible apply Ext.alloc | with_reducible apply Ext.ext | with_reducible apply Ext.drew | with_reducible refine Ext.setCell ?_ (by simp) _)) : Ext wr _)) (.inl hXV)); have hE1 := Ext.byChg2 (hE.trans ((by repeat (first | with_reducible exact Ext.refl _ | with_reducible apply Ext.and | with_reducible apply Ext.drewx | with_reducible apply Ext.alloc | with_reducible apply Ext.ext | with_reducible apply Ext.drew | with_reducible refine Ext.setCell ?_ (by simp) _)) : Ext wr _)) C0 (by have := hXw.out; omega); have ca0 := BA.out.cell (j := 0) rfl; have ca1 := BA.out.cell (j := 1) rfl; have la := BA.out.lt; clear C0))) | ((with_reducible refine wp_region_seqT (by kernel_rfl) (by kernel_rfl) ?_); (repeat' (first | ((with_reducible refine wpSeq_pure (by with_unfolding_all rfl) (fun Kq hKq => ?_)); (repeat' (go_big_quiet_step (fail))); (all_goals (refine wpQuiet_nil ?_; refine hKq _ ?_; clear hKq Kq))) | ((with_reducible refine wpSeq_act (by with_unfolding_all rfl) (fun Q' hQ' => ?_)); (go_wp2_with (first | ((go_at_call 10; (with_reducible refine (markF_Dl _ _ _ _ _ _ d _ _ (Own2.later XO.out ((by repeat (first | with_reducible exact Ext.refl _ | with_reducible apply Ext.and | with_reducible apply Ext.drewx | with_reducible apply Ext.alloc | with_reducible apply Ext.ext | with_reducible apply Ext.drew | with_reducible refine Ext.setCell ?_ (by simp) _)) : Ext wr _)) (by omega) (by omega)).mono ?_); rintro _ W1 ⟨rfl, C0, _⟩; have WR := hidden (Rd2.chg (Rd2.later WR.out ((by repeat (first | with_reducible exact Ext.refl _ | with_reducible apply Ext.and | with_reducible apply Ext.drewx | with_reducible apply Ext.alloc | with_reducible apply Ext.ext | with_reducible apply Ext.drew | with_reducible refine Ext.setCell ?_ (by simp) _)) : Ext wr _)) C0 (Nat.le_refl _)); have GO := hidden (Own2.chg (Own2.later GO.out ((by repeat (first | with_reducible exact Ext.refl _ | with_reducible apply Ext.and | with_reducible apply Ext.drewx | with_reducible apply Ext.alloc | with_reducible apply Ext.ext | with_reducible apply Ext.drew | with_reducible refine Ext.setCell ?_ (by simp) _)) : Ext wr _)) C0 (.inr (by omega))); have BA := hidden (Chg2.box C0 (BA.out.extends ((by repeat (first | with_reducible exact Ext.refl _ | with_reducible apply Ext.and | with_reducible apply Ext.drewx | with_reducible apply Ext.alloc | with_reducible apply Ext.ext | with_reducible apply Ext.drew | with_reducible refine Ext.setCell ?_ (by simp) _)) : Ext wr _)) (.inl hXV)); have hE1 := Ext.byChg2 (hE.trans ((by repeat (first | with_reducible exact Ext.refl _ | with_reducible apply Ext.and | with_reducible apply Ext.drewx | with_reducible apply Ext.alloc | with_reducible apply Ext.ext | with_reducible apply Ext.drew | with_reducible refine Ext.setCell ?_ (by simp) _)) : Ext wr _)) C0 (by have := hXw.out; omega); have ca0 := BA.out.cell (j := 0) rfl; have ca1 := BA.out.cell (j := 1) rfl; have la := BA.out.lt; clear C0)))); (all_goals (refine hQ' _ _ rfl trivial ?_; clear hQ' Q'))))); (all_goals ((with_reducible refine wpSeq_nil ?_)))))
  show (Code.seq (Code.region _ _ _) (Code.cond _ _ _)).wp _ _ _ _
  go_wp2_with (first | (first | ((go_at_call 8; (with_reducible refine (eqF_LDl _ _ _ _ _ _ _ _ _ (Own2.later GO.out ((by repeat (first | with_reducible exact Ext.refl _ | with_reducible apply Ext.and | with_reducible apply Ext.drewx | with_reducible apply Ext.alloc | with_reducible apply Ext.ext | with_reducible apply Ext.drew | with_reducible refine Ext.setCell ?_ (by simp) _)) : Ext W1 _)).rd (Rd2.later WR.out ((by repeat (first | with_reducible exact Ext.refl _ | with_reducible apply Ext.and | with_reducible apply Ext.drewx | with_reducible apply Ext.alloc | with_reducible apply Ext.ext | with_reducible apply Ext.drew | with_reducible refine Ext.setCell ?_ (by simp) _)) : Ext W1 _)).rd).mono ?_); rintro _ _ ⟨rfl, x3, rfl⟩))) | ((first | with_reducible refine wp_region_qe (by kernel_rfl) (by kernel_rfl) ?_ | with_reducible refine wp_region_q (by kernel_rfl) (by kernel_rfl) ?_); (repeat' (first | go_big_quiet_step ((first | ((go_at_call 8; (with_reducible refine (eqF_LDl _ _ _ _ _ _ _ _ _ (Own2.later GO.out ((by repeat (first | with_reducible exact Ext.refl _ | with_reducible apply Ext.and | with_reducible apply Ext.drewx | with_reducible apply Ext.alloc | with_reducible apply Ext.ext | with_reducible apply Ext.drew | with_reducible refine Ext.setCell ?_ (by simp) _)) : Ext W1 _)).rd (Rd2.later WR.out ((by repeat (first | with_reducible exact Ext.refl _ | with_reducible apply Ext.and | with_reducible apply Ext.drewx | with_reducible apply Ext.alloc | with_reducible apply Ext.ext | with_reducible apply Ext.drew | with_reducible refine Ext.setCell ?_ (by simp) _)) : Ext W1 _)).rd).mono ?_); rintro _ _ ⟨rfl, x3, rfl⟩)))) | (refine wpQuiet_split rfl rfl rfl rfl (fun hsp => ?_) (fun hsp => ?_); ((fail_if_success (cases hsp; done)); simp only [hsp]; (try first | have hsq : _ < _ := of_decide_eq_true hsp | have hsq : _ ≤ _ := of_decide_eq_true hsp | have hsq : ¬ _ < _ := of_decide_eq_false hsp | have hsq : ¬ _ ≤ _ := of_decide_eq_false hsp)); rotate_left; ((fail_if_success (cases hsp; done)); simp only [hsp]; (try first | have hsq : _ < _ := of_decide_eq_true hsp | have hsq : _ ≤ _ := of_decide_eq_true hsp | have hsq : ¬ _ < _ := of_decide_eq_false hsp | have hsq : ¬ _ ≤ _ := of_decide_eq_false hsp))))); (all_goals (refine wpQuiet_nil ?_; intro x))) | ((first | with_reducible refine wp_region_seqe (by kernel_rfl) (by kernel_rfl) ?_ | with_reducible refine wp_region_seqw (by kernel_rfl) (by kernel_rfl) ?_); (repeat' (first | ((with_reducible refine wpSeq_pure (by with_unfolding_all rfl) (fun Kq hKq => ?_)); (repeat' (first | go_big_quiet_step (fail) | (refine wpQuiet_split rfl rfl rfl rfl (fun hsp => ?_) (fun hsp => ?_); ((fail_if_success (cases hsp; done)); simp only [hsp]; (try first | have hsq : _ < _ := of_decide_eq_true hsp | have hsq : _ ≤ _ := of_decide_eq_true hsp | have hsq : ¬ _ < _ := of_decide_eq_false hsp | have hsq : ¬ _ ≤ _ := of_decide_eq_false hsp)); rotate_left; ((fail_if_success (cases hsp; done)); simp only [hsp]; (try first | have hsq : _ < _ := of_decide_eq_true hsp | have hsq : _ ≤ _ := of_decide_eq_true hsp | have hsq : ¬ _ < _ := of_decide_eq_false hsp | have hsq : ¬ _ ≤ _ := of_decide_eq_false hsp))))); (all_goals (refine wpQuiet_nil ?_; refine hKq _ ?_; clear hKq Kq))) | ((with_reducible refine wpSeq_act (by with_unfolding_all rfl) (fun Q' hQ' => ?_)); (go_wp2_with (first | ((go_at_call 8; (with_reducible refine (eqF_LDl _ _ _ _ _ _ _ _ _ (Own2.later GO.out ((by repeat (first | with_reducible exact Ext.refl _ | with_reducible apply Ext.and | with_reducible apply Ext.drewx | with_reducible apply Ext.alloc | with_reducible apply Ext.ext | with_reducible apply Ext.drew | with_reducible refine Ext.setCell ?_ (by simp) _)) : Ext W1 _)).rd (Rd2.later WR.out ((by repeat (first | with_reducible exact Ext.refl _ | with_reducible apply Ext.and | with_reducible apply Ext.drewx | with_reducible apply Ext.alloc | with_reducible apply Ext.ext | with_reducible apply Ext.drew | with_reducible refine Ext.setCell ?_ (by simp) _)) : Ext W1 _)).rd).mono ?_); rintro _ _ ⟨rfl, x3, rfl⟩)))); (all_goals (refine hQ' _ _ rfl ?_ ?_; (change Ext _ _; exact (by repeat (first | with_reducible exact Ext.refl _ | with_reducible apply Ext.and | with_reducible apply Ext.drewx | with_reducible apply Ext.alloc | with_reducible apply Ext.ext | with_reducible apply Ext.drew | with_reducible refine Ext.setCell ?_ (by simp) _))); clear hQ' Q'))))); (all_goals ((with_reducible refine wpSeq_nil ?_)))))
  show (Code.region _ _ _).wp _ _ _ _
  go_wp2_with fail
  show (Code.region _ _ _).wp _ _ _ _
  go_wp2_with (first | (first | ((go_at_call 11; (with_reducible refine (markF_LDl _ _ _ _ _ _ (Own2.later GO.out ((by repeat (first | with_reducible exact Ext.refl _ | with_reducible apply Ext.and | with_reducible apply Ext.drewx | with_reducible apply Ext.alloc | with_reducible apply Ext.ext | with_reducible apply Ext.drew | with_reducible refine Ext.setCell ?_ (by simp) _)) : Ext W1 _)) (by omega) (by omega)).mono ?_); rintro _ W2 ⟨rfl, C1, P1⟩; have WR := hidden (Rd2.chg (Rd2.later WR.out ((by repeat (first | with_reducible exact Ext.refl _ | with_reducible apply Ext.and | with_reducible apply Ext.drewx | with_reducible apply Ext.alloc | with_reducible apply Ext.ext | with_reducible apply Ext.drew | with_reducible refine Ext.setCell ?_ (by simp) _)) : Ext W1 _)) C1 (by omega)); have GR := hidden (Own2.rd P1); have BA := hidden (Chg2.box C1 (BA.out.extends ((by repeat (first | with_reducible exact Ext.refl _ | with_reducible apply Ext.and | with_reducible apply Ext.drewx | with_reducible apply Ext.alloc | with_reducible apply Ext.ext | with_reducible apply Ext.drew | with_reducible refine Ext.setCell ?_ (by simp) _)) : Ext W1 _)) (.inl (by omega))); have hE2 := Ext.byChg2 (hE1.trans ((by repeat (first | with_reducible exact Ext.refl _ | with_reducible apply Ext.and | with_reducible apply Ext.drewx | with_reducible apply Ext.alloc | with_reducible apply Ext.ext | with_reducible apply Ext.drew | with_reducible refine Ext.setCell ?_ (by simp) _)) : Ext W1 _)) C1 (by have := hXw.out; omega); clear C1 P1))) | ((with_reducible refine wp_region_seqT (by kernel_rfl) (by kernel_rfl) ?_); (repeat' (first | ((with_reducible refine wpSeq_pure (by with_unfolding_all rfl) (fun Kq hKq => ?_)); (repeat' (go_big_quiet_step (fail))); (all_goals (refine wpQuiet_nil ?_; refine hKq _ ?_; clear hKq Kq))) | ((with_reducible refine wpSeq_act (by with_unfolding_all rfl) (fun Q' hQ' => ?_)); (go_wp2_with (first | ((go_at_call 11; (with_reducible refine (markF_LDl _ _ _ _ _ _ (Own2.later GO.out ((by repeat (first | with_reducible exact Ext.refl _ | with_reducible apply Ext.and | with_reducible apply Ext.drewx | with_reducible apply Ext.alloc | with_reducible apply Ext.ext | with_reducible apply Ext.drew | with_reducible refine Ext.setCell ?_ (by simp) _)) : Ext W1 _)) (by omega) (by omega)).mono ?_); rintro _ W2 ⟨rfl, C1, P1⟩; have WR := hidden (Rd2.chg (Rd2.later WR.out ((by repeat (first | with_reducible exact Ext.refl _ | with_reducible apply Ext.and | with_reducible apply Ext.drewx | with_reducible apply Ext.alloc | with_reducible apply Ext.ext | with_reducible apply Ext.drew | with_reducible refine Ext.setCell ?_ (by simp) _)) : Ext W1 _)) C1 (by omega)); have GR := hidden (Own2.rd P1); have BA := hidden (Chg2.box C1 (BA.out.extends ((by repeat (first | with_reducible exact Ext.refl _ | with_reducible apply Ext.and | with_reducible apply Ext.drewx | with_reducible apply Ext.alloc | with_reducible apply Ext.ext | with_reducible apply Ext.drew | with_reducible refine Ext.setCell ?_ (by simp) _)) : Ext W1 _)) (.inl (by omega))); have hE2 := Ext.byChg2 (hE1.trans ((by repeat (first | with_reducible exact Ext.refl _ | with_reducible apply Ext.and | with_reducible apply Ext.drewx | with_reducible apply Ext.alloc | with_reducible apply Ext.ext | with_reducible apply Ext.drew | with_reducible refine Ext.setCell ?_ (by simp) _)) : Ext W1 _)) C1 (by have := hXw.out; omega); clear C1 P1)))); (all_goals (refine hQ' _ _ rfl trivial ?_; clear hQ' Q'))))); (all_goals ((with_reducible refine wpSeq_nil ?_)))))
  show (Code.region _ _ _).wp _ _ _ _
  go_wp2_with fail
  show (Code.region _ _ _).wp _ _ _ _
  go_wp2_with (first | (first | ((go_at_call 12; (with_reducible refine (heldF_LDl _ _ _ (dcut d) _ _ (Lay.stays GR.out ((by repeat (first | with_reducible exact Ext.refl _ | with_reducible apply Ext.and | with_reducible apply Ext.drewx | with_reducible apply Ext.alloc | with_reducible apply Ext.ext | with_reducible apply Ext.drew | with_reducible refine Ext.setCell ?_ (by simp) _)) : Ext W2 _).below) (by omega) (by omega)).mono ?_); rintro _ _ ⟨rfl, x4, rfl⟩))) | ((with_reducible refine wp_region_seqT (by kernel_rfl) (by kernel_rfl) ?_); (repeat' (first | ((with_reducible refine wpSeq_pure (by with_unfolding_all rfl) (fun Kq hKq => ?_)); (repeat' (go_big_quiet_step (fail))); (all_goals (refine wpQuiet_nil ?_; refine hKq _ ?_; clear hKq Kq))) | ((with_reducible refine wpSeq_act (by with_unfolding_all rfl) (fun Q' hQ' => ?_)); (go_wp2_with (first | ((go_at_call 12; (with_reducible refine (heldF_LDl _ _ _ (dcut d) _ _ (Lay.stays GR.out ((by repeat (first | with_reducible exact Ext.refl _ | with_reducible apply Ext.and | with_reducible apply Ext.drewx | with_reducible apply Ext.alloc | with_reducible apply Ext.ext | with_reducible apply Ext.drew | with_reducible refine Ext.setCell ?_ (by simp) _)) : Ext W2 _).below) (by omega) (by omega)).mono ?_); rintro _ _ ⟨rfl, x4, rfl⟩)))); (all_goals (refine hQ' _ _ rfl trivial ?_; clear hQ' Q'))))); (all_goals ((with_reducible refine wpSeq_nil ?_)))))
  show (Code.seq (Code.region _ _ _) (Code.cond _ _ _)).wp _ _ _ _
  go_wp2_with fail
  show (Code.seq (Code.region _ _ _) (Code.cond _ _ _)).wp _ _ _ _
  go_wp2_with fail
  exact HC.out _ _ ⟨_, _, _, _, _, _, _, _, _, _, _, _, _, _, _, _, _, _, _, _, _, _, _, _, _, _, _, _, _, _, _, _, _, _, _, _, _, _, _, _, _, _, _, _, _, _, _, _, _, _, _, _, _, _, _, _, _, _, _, _, _, _, _, rfl⟩ (hE2.trans (by repeat (first | with_reducible exact Ext.refl _ | with_reducible apply Ext.and | with_reducible apply Ext.drewx | with_reducible apply Ext.alloc | with_reducible apply Ext.ext | with_reducible apply Ext.drew | with_reducible refine Ext.setCell ?_ (by simp) _))) (BA.out.extends (by repeat (first | with_reducible exact Ext.refl _ | with_reducible apply Ext.and | with_reducible apply Ext.drewx | with_reducible apply Ext.alloc | with_reducible apply Ext.ext | with_reducible apply Ext.drew | with_reducible refine Ext.setCell ?_ (by simp) _))) (Rd2.later WR.out (by repeat (first | with_reducible exact Ext.refl _ | with_reducible apply Ext.and | with_reducible apply Ext.drewx | with_reducible apply Ext.alloc | with_reducible apply Ext.ext | with_reducible apply Ext.drew | with_reducible refine Ext.setCell ?_ (by simp) _))) (Lay.stays GR.out ((by repeat (first | with_reducible exact Ext.refl _ | with_reducible apply Ext.and | with_reducible apply Ext.drewx | with_reducible apply Ext.alloc | with_reducible apply Ext.ext | with_reducible apply Ext.drew | with_reducible refine Ext.setCell ?_ (by simp) _)) : Ext W2 _).below)
end Go.Proofs.Ytngehfhcnfobbaa
namespace Go.Proofs.Ytngehfhcnfobbaa
open Go Go.Conc

/-- A CALL. -/
theorem Tri.call {P : Program} {c : Cx} {p : Pl} {k : List Item} {a : Act} {w : World} (hC : COk P c) (hF : FnsOk P c) (hk : (p.b.kind == .early) = false) {ops : Array Oper} {i : Nat} {rest : List Nat} {o : Oper} (ho : ops[i]? = some o) (hw : Region.wanted o (yielded ops a.tmps) = true) (hop : OpOk P c o.op)
    {f : FuncId} {args : Array Value} {Q : Value → World → Prop} (hT : c.T f) (hb : ∃ fn, P.funcs[f]? = some fn ∧ fn.body.isSome = true) (hr : ∀ τ, ∃ d, (execOp a.eval o).run P (td w τ 0) = .ok (.enter f args) (td w τ d))
    (con : ∀ τ, Calls P f args (td w τ 0) fun e w' => ∃ v, e = .returned v ∧ Q v w') (next : ∀ v w', Q v w' → Tri P c p (.inRegion ops rest :: k) (a.put o.dst v) w') : Tri P c p (.inRegion ops (i :: rest) :: k) a w := by
  intro ρ O tmps' W hA hd hh
  refine Co.step rfl fun W1 hrel => ?_
  have hw1 := hh.wr.rely hh.vis hrel
  obtain ⟨σ, m, r, h0, h1⟩ := sim_execOp hC (evA (a := a) hw1 hA p.ds) hop w W1 #[] hw1 (fun e he => by simp at he)
  have hy : Region.wanted o (yielded ops (Act.mk tmps' p.ds).tmps) = true := by
    have e : yielded ops tmps' = yielded ops a.tmps := funext fun j => (yielded_rel hA j).symm
    show Region.wanted o (yielded ops tmps') = true
    rw [e]; exact hw
  have hkd : p.b.kind ≠ .early := by simpa using hk
  have e0 := h0 σ 0 (fun i q _ => by rw [Nat.zero_add])
  obtain ⟨d, hd'⟩ := hr σ
  rw [hd'] at e0
  cases r with
  | halt h w2 => cases e0
  | ok n w2 =>
    simp only [tdR, Result.ok.injEq] at e0
    obtain ⟨rfl, e2⟩ := e0
    obtain ⟨ρ1, n', W2, es1, g1, g2, g3, g4, g5⟩ := h1
    have hrun : (execOp (Act.mk tmps' p.ds).eval o).run P W1 = .ok n' W2 := by rw [← Sem.runT_fst P _ W1 #[], g1]
    have hevs : (execOp (Act.mk tmps' p.ds).eval o).events P W1 #[] = es1 := by rw [Sem.events, g1]
    have hl : ∀ e ∈ listed P p.b.fn (Act.mk tmps' p.ds) o W1, EvC c ρ1 e := fun e he => g4 e (by
      have := mem_seen he
      rwa [hevs] at this)
    obtain ⟨q1, q2, q3⟩ := guar_of g2 g3 hh.vis hh.own hl
    have hsi := (hh.since.rely hrel).step g2 hh.own
    cases g5 with
    | enter _ _ hargs =>
      refine ⟨_, W2, _, _, stepG_enter ho hy hkd hrun, q1, ?_⟩
      have hwt : WR c ρ1 w W2 := by
        have h3 : td w2 σ d = td w σ d := by
          have := congrArg (fun x => td x σ d) e2
          simpa [td] using this.symm
        have h4 : WR c ρ1 (td w2 σ d) W2 := ⟨g3.fn, g3.inj, g3.obj, g3.glob, g3.fz⟩
        rw [h3] at h4
        exact ⟨h4.fn, h4.inj, h4.obj, h4.glob, h4.fz⟩
      have hsz : w2.heap.size = w.heap.size := by
        have := congrArg (fun x : World => x.heap.size) e2
        simpa [td] using this.symm
      refine (lift hC hF hT hb hargs hwt q2 q3 con).bind fun O2 g W3 hB => ?_
      obtain ⟨v, v', w', ρ2, τ, e, rfl, hQ, hv, hw3, hvis, hown, hs3⟩ := hB W3 (Rely.refl ..)
      rw [Frame.finish_at, ho]
      show Co P p.main p.Vis p.Stop O2 (G (p.b.at ((Act.mk tmps' p.ds).put o.dst v') (.inRegion ops rest :: k)) p.cs) W3
      rw [put_mk]
      have hT2 : Tri P c p (.inRegion ops rest :: k) (a.put o.dst v) w' := (Tri.tape τ e).1 (next v _ hQ)
      have hsi2 : Since0 p.Vis p.ρ0 p.w0 p.W0 p.O0 ρ1 w W2 (fun b => O b ∨ (W1.heap.size ≤ b ∧ b < W2.heap.size)) := ⟨hsi.sub, hsi.new, by rw [← hsz]; exact hsi.lsz, hsi.csz, hsi.own, hsi.ownNew, hsi.tape, hsi.os, hsi.output, hsi.keep⟩
      exact hT2 ρ2 O2 _ W3 (AR.put' (hA.mono fun _ _ x => hs3.sub _ _ (g2.sub _ _ x)) hv _ _) (put_defers.trans hd) ⟨hw3, hvis, hown, hsi2.trans hs3⟩
end Go.Proofs.Ytngehfhcnfobbaa
namespace Go.Proofs.Ytngehfhcnfobbaa
open Go Go.Conc Go.RowKit

noncomputable def lwX25 : Code := sq1 lwT2
noncomputable def lwR27 : Code := sq1 (sq2 lwT2)
noncomputable def lwR28 : Code := sq1 (sq2 (sq2 lwT2))
noncomputable def lwX29 : Code := sq1 (sq2 (sq2 (sq2 lwT2)))
noncomputable def lwX31 : Code := sq1 (sq2 (sq2 (sq2 (sq2 lwT2))))
noncomputable def lwR33 : Code := sq1 (sq2 (sq2 (sq2 (sq2 (sq2 lwT2)))))
theorem lwT2_eq : lwT2 = [lwX25, lwR27, lwR28, lwX29, lwX31, lwR33].foldr .seq .ret := by kernel_rfl

set_option maxRecDepth 40000 in
set_option maxHeartbeats 8000000 in
/-- Behind the second call. -/
theorem law_C (d : Dl) (a1 : Option Addr) (n1 c1 : Nat) (a2 : Option Addr) (n2 c2 : Nat) (wr : World) (z0 : Sz.sz d ≤ 1048576) (X V1 : Nat) (aw : Option Addr) (nw cw : Nat) (ag : Option Addr) (ng cg : Nat) (ah : Option Addr) (nh ch : Nat) (m : Int) (y3 y5 y7 y9 y11 y12 y13 y14 y15 y16 y17 y18 y19 y20 y21 y22 y23 y24 y25 y26 y27 y28 y29 y30 y31 y32 y33 y34 y35 y36 y37 y38 y39 y40 y41 y42 y43 y44 y45 y46 y47 y48 y49 y50 y51 y52 y53 y54 y55 y56 y57 y58 y59 y60 y61 y62 y63 y64 y65 y66 y67 y68 : Value)
    (hm : m = 1 + (Mt.cnt (dcut d) : Nat)) (wr' : Rd2 V1 wr [.slice aw nw cw] (dcut d)) (gr : Lay.rd wr [.slice ag ng cg] (Mt.ov (dcut d) 1)) (hr : Lay.rd wr [.slice ah nh ch] (dcut d)) (Q : Act → World → Prop)
    (hcont : ∀ a' w3, a'.tmps[2]? = some (.bool true) → Q a' w3) :
    wpC Try.prog [lwX25, lwR27, lwR28, lwX29, lwX31, lwR33] Q ⟨#[.agg #[.slice a1 n1 c1, .slice a2 n2 c2], .pointer (some ⟨X, 0, none⟩), .bool false, y3, .slice aw nw cw, y5, .slice ag ng cg, y7, .int .i64 m, y9, .slice ah nh ch, y11, y12, y13, y14, y15, y16, y17, y18, y19, y20, y21, y22, y23, y24, y25, y26, y27, y28, y29, y30, y31, y32, y33, y34, y35, y36, y37, y38, y39, y40, y41, y42, y43, y44, y45, y46, y47, y48, y49, y50, y51, y52, y53, y54, y55, y56, y57, y58, y59, y60, y61, y62, y63, y64, y65, y66, y67, y68], []⟩ wr := by
  subst hm
  have HC := hidden hcont
  have WR := hidden wr'
  have GR := hidden gr
  have HR := hidden hr
  have yr : Mt.cnt (dcut d) ≤ 1099511627776 := dcut_cnt z0
  have nr : decide ((1 : Int) + ((Mt.cnt (dcut d) : Nat) : Int) < 0) = false := by first | (simp; done) | (simp; omega)
  clear wr' gr hr hcont
  show (Code.seq (Code.region _ _ _) (Code.cond _ _ _)).wp _ _ _ _
  go_wp2_with (first | (first | ((go_at_call 8; (with_reducible refine (eqF_LDl _ _ _ _ _ _ _ _ _ (Lay.stays HR.out ((by repeat (first | with_reducible exact Ext.refl _ | with_reducible apply Ext.and | with_reducible apply Ext.drewx | with_reducible apply Ext.alloc | with_reducible apply Ext.ext | with_reducible apply Ext.drew | with_reducible refine Ext.setCell ?_ (by simp) _)) : Ext wr _).below) (Rd2.later WR.out ((by repeat (first | with_reducible exact Ext.refl _ | with_reducible apply Ext.and | with_reducible apply Ext.drewx | with_reducible apply Ext.alloc | with_reducible apply Ext.ext | with_reducible apply Ext.drew | with_reducible refine Ext.setCell ?_ (by simp) _)) : Ext wr _)).rd).mono ?_); rintro _ _ ⟨rfl, x0, rfl⟩))) | ((with_reducible refine wp_region_seqT (by kernel_rfl) (by kernel_rfl) ?_); (repeat' (first | ((with_reducible refine wpSeq_pure (by with_unfolding_all rfl) (fun Kq hKq => ?_)); (repeat' (go_big_quiet_step (fail))); (all_goals (refine wpQuiet_nil ?_; refine hKq _ ?_; clear hKq Kq))) | ((with_reducible refine wpSeq_act (by with_unfolding_all rfl) (fun Q' hQ' => ?_)); (go_wp2_with (first | ((go_at_call 8; (with_reducible refine (eqF_LDl _ _ _ _ _ _ _ _ _ (Lay.stays HR.out ((by repeat (first | with_reducible exact Ext.refl _ | with_reducible apply Ext.and | with_reducible apply Ext.drewx | with_reducible apply Ext.alloc | with_reducible apply Ext.ext | with_reducible apply Ext.drew | with_reducible refine Ext.setCell ?_ (by simp) _)) : Ext wr _).below) (Rd2.later WR.out ((by repeat (first | with_reducible exact Ext.refl _ | with_reducible apply Ext.and | with_reducible apply Ext.drewx | with_reducible apply Ext.alloc | with_reducible apply Ext.ext | with_reducible apply Ext.drew | with_reducible refine Ext.setCell ?_ (by simp) _)) : Ext wr _)).rd).mono ?_); rintro _ _ ⟨rfl, x0, rfl⟩)))); (all_goals (refine hQ' _ _ rfl trivial ?_; clear hQ' Q'))))); (all_goals ((with_reducible refine wpSeq_nil ?_)))))
  show (Code.region _ _ _).wp _ _ _ _
  go_wp2_with fail
  show (Code.region _ _ _).wp _ _ _ _
  go_wp2_with (first | (first | ((go_at_call 12; (with_reducible refine (heldF_LDl _ _ _ (dcut d) _ _ (Lay.stays GR.out ((by repeat (first | with_reducible exact Ext.refl _ | with_reducible apply Ext.and | with_reducible apply Ext.drewx | with_reducible apply Ext.alloc | with_reducible apply Ext.ext | with_reducible apply Ext.drew | with_reducible refine Ext.setCell ?_ (by simp) _)) : Ext wr _).below) (by omega) (by omega)).mono ?_); rintro _ _ ⟨rfl, x4, rfl⟩))) | ((with_reducible refine wp_region_seqT (by kernel_rfl) (by kernel_rfl) ?_); (repeat' (first | ((with_reducible refine wpSeq_pure (by with_unfolding_all rfl) (fun Kq hKq => ?_)); (repeat' (go_big_quiet_step (fail))); (all_goals (refine wpQuiet_nil ?_; refine hKq _ ?_; clear hKq Kq))) | ((with_reducible refine wpSeq_act (by with_unfolding_all rfl) (fun Q' hQ' => ?_)); (go_wp2_with (first | ((go_at_call 12; (with_reducible refine (heldF_LDl _ _ _ (dcut d) _ _ (Lay.stays GR.out ((by repeat (first | with_reducible exact Ext.refl _ | with_reducible apply Ext.and | with_reducible apply Ext.drewx | with_reducible apply Ext.alloc | with_reducible apply Ext.ext | with_reducible apply Ext.drew | with_reducible refine Ext.setCell ?_ (by simp) _)) : Ext wr _).below) (by omega) (by omega)).mono ?_); rintro _ _ ⟨rfl, x4, rfl⟩)))); (all_goals (refine hQ' _ _ rfl trivial ?_; clear hQ' Q'))))); (all_goals ((with_reducible refine wpSeq_nil ?_)))))
  show (Code.seq (Code.region _ _ _) (Code.cond _ _ _)).wp _ _ _ _
  go_wp2_with fail
  show (Code.seq (Code.region _ _ _) (Code.cond _ _ _)).wp _ _ _ _
  go_wp2_with fail
  show (Code.region _ _ _).wp _ _ _ _
  go_wp2_with fail
  exact HC.out _ _ rfl

noncomputable def lwR3 : Code := sq1 lwX3
noncomputable def lwR4 : Code := sq1 (cdT (sq2 lwX3))
theorem lwX3_eq : lwX3 = .seq lwR3 (.cond (.tmp 15) (.seq lwR4 .ret) .skip) := by kernel_rfl
set_option maxRecDepth 40000 in
set_option maxHeartbeats 8000000 in
/-- The argument is too large. -/
theorem law_big (d : Dl) (a1 : Option Addr) (n1 c1 : Nat) (a2 : Option Addr) (n2 c2 : Nat) (w : World) (h1 : SlRd w a1 n1 c1 d.drop) (h2 : SlRd w a2 n2 c2 d.tell) (z0 : ¬ (Sz.sz d : Int) ≤ 1048576) (Q : Act → World → Prop)
    (hcont : ∀ a' w', a'.eval (.tmp 15) = .bool true → a'.tmps.size = 69 → Q a' w') :
    wpC Try.prog [lwR0, lwR1, lwR2, lwR3] Q ⟨#[.agg #[.slice a1 n1 c1, .slice a2 n2 c2], undef, undef, undef, undef, undef, undef, undef, undef, undef, undef, undef, undef, undef, undef, undef, undef, undef, undef, undef, undef, undef, undef, undef, undef, undef, undef, undef, undef, undef, undef, undef, undef, undef, undef, undef, undef, undef, undef, undef, undef, undef, undef, undef, undef, undef, undef, undef, undef, undef, undef, undef, undef, undef, undef, undef, undef, undef, undef, undef, undef, undef, undef, undef, undef, undef, undef, undef, undef], []⟩ w := by
  have HC := hidden hcont
  have H1 := hidden h1
  have H2 := hidden h2
  have e0 := szR_gt z0
  clear h1 h2 hcont
  show (Code.region _ _ _).wp _ _ _ _
  go_wp2_with fail
  show (Code.region _ _ _).wp _ _ _ _
  go_wp2_with fail
  show (Code.region _ _ _).wp _ _ _ _
  go_wp2_with (first | (first | ((go_at_call 4; (with_reducible refine (sz_Dl d a1 n1 c1 a2 n2 c2 _ _ (H1.out.stays ((by repeat (first | with_reducible exact Ext.refl _ | with_reducible apply Ext.and | with_reducible apply Ext.drewx | with_reducible apply Ext.alloc | with_reducible apply Ext.ext | with_reducible apply Ext.drew | with_reducible refine Ext.setCell ?_ (by simp) _)) : Ext _ _).below) (H2.out.stays ((by repeat (first | with_reducible exact Ext.refl _ | with_reducible apply Ext.and | with_reducible apply Ext.drewx | with_reducible apply Ext.alloc | with_reducible apply Ext.ext | with_reducible apply Ext.drew | with_reducible refine Ext.setCell ?_ (by simp) _)) : Ext _ _).below) (by omega) (by omega)).mono ?_); rintro _ _ ⟨rfl, x, rfl⟩))) | ((with_reducible refine wp_region_seqT (by kernel_rfl) (by kernel_rfl) ?_); (repeat' (first | ((with_reducible refine wpSeq_pure (by with_unfolding_all rfl) (fun Kq hKq => ?_)); (repeat' (go_big_quiet_step (fail))); (all_goals (refine wpQuiet_nil ?_; refine hKq _ ?_; clear hKq Kq))) | ((with_reducible refine wpSeq_act (by with_unfolding_all rfl) (fun Q' hQ' => ?_)); (go_wp2_with (first | ((go_at_call 4; (with_reducible refine (sz_Dl d a1 n1 c1 a2 n2 c2 _ _ (H1.out.stays ((by repeat (first | with_reducible exact Ext.refl _ | with_reducible apply Ext.and | with_reducible apply Ext.drewx | with_reducible apply Ext.alloc | with_reducible apply Ext.ext | with_reducible apply Ext.drew | with_reducible refine Ext.setCell ?_ (by simp) _)) : Ext _ _).below) (H2.out.stays ((by repeat (first | with_reducible exact Ext.refl _ | with_reducible apply Ext.and | with_reducible apply Ext.drewx | with_reducible apply Ext.alloc | with_reducible apply Ext.ext | with_reducible apply Ext.drew | with_reducible refine Ext.setCell ?_ (by simp) _)) : Ext _ _).below) (by omega) (by omega)).mono ?_); rintro _ _ ⟨rfl, x, rfl⟩)))); (all_goals (refine hQ' _ _ rfl trivial ?_; clear hQ' Q'))))); (all_goals ((with_reducible refine wpSeq_nil ?_)))))
  show (Code.region _ _ _).wp _ _ _ _
  go_wp2_with fail
  exact HC.out _ _ rfl rfl
theorem lwR4_wp (a : Act) (w : World) (h : a.tmps.size = 69) (hd : a.defers = []) (Q : Act → World → Prop) (hcont : ∀ a' w', a'.tmps[2]? = some (.bool true) → Q a' w') : lwR4.wp Try.prog (fun e a1 w1 => e = .normal ∧ Q a1 w1) a w := by
  obtain ⟨tmps, ds⟩ := a
  simp only at h hd
  subst hd
  have HC := hidden hcont
  clear hcont
  have h2 : 2 < tmps.size := by omega
  show (Code.region _ _ _).wp _ _ _ _
  go_wp2_with fail
  exact HC.out _ _ (Array.getElem?_setIfInBounds_self_of_lt h2)

theorem load_dl (a : Act) (t b : Nat) (W : World) (u1 u2 : Value) (h0 : a.eval (.tmp t) = .pointer (some ⟨b, 0, none⟩)) (h1 : W.cell? ⟨b, 0, none⟩ = some u1) (h2 : W.cell? ⟨b, 1, none⟩ = some u2) (o : Oper) (ho : o.op = .load 32 (.tmp t)) : (execOp a.eval o).run Try.prog W = .ok (.value (.agg #[u1, u2])) W := by
  unfold execOp
  simp only [ho, h0]
  go_simp
theorem load_ll (a : Act) (t b : Nat) (W : World) (u1 u2 : Value) (h0 : a.eval (.tmp t) = .pointer (some ⟨b, 0, none⟩)) (h1 : W.cell? ⟨b, 0, none⟩ = some u1) (h2 : W.cell? ⟨b, 1, none⟩ = some u2) (o : Oper) (ho : o.op = .load 25 (.tmp t)) : (execOp a.eval o).run Try.prog W = .ok (.value (.agg #[u1, u2])) W := by
  unfold execOp
  simp only [ho, h0]
  go_simp
theorem call_to (a : Act) (t : Nat) (W : World) (x : Value) (h0 : a.eval (.tmp t) = x) (o : Oper) (ats : Array TypeId) (ho : o.op = .call { callee := .value (.func 6), args := #[.tmp t], argTypes := ats }) : (execOp a.eval o).run Try.prog W = .ok (.enter 6 #[x]) W := by
  have hf : Try.prog.funcs[6]? = some Try.f6 := by kernel_rfl
  have h1 : ¬ (Try.f6).name = "runtime.NumGoroutine" := by
    have : ((Try.f6).name == "runtime.NumGoroutine") = false := by kernel_rfl
    simpa using this
  have h2 : (Try.f6).body.isNone = false := by kernel_rfl
  have e1 : a.eval (.func 6) = .func (.func 6) #[] #[] := rfl
  unfold execOp
  simp only [ho]
  simp [e1, h0, resolve, Deferred.ofValue, invoke, callFunc, hf, h1]
  intro e
  rw [e] at h2; cases h2
theorem r7_ops : ∃ o0 o1 o2 ats, lwR7 = #[o0, o1, o2] ∧ o0.dst = some 21 ∧ o1.dst = some 22 ∧ o2.dst = some 6 ∧ o0.op = .load 32 (.tmp 5) ∧ o1.op = .call { callee := .value (.func 7), args := #[.tmp 21], argTypes := ats } ∧ o2.op = .assign (.tmp 22) ∧ o0.guard = none ∧ o1.guard = none ∧ o2.guard = none :=
  ⟨_, _, _, _, rfl, rfl, rfl, rfl, rfl, rfl, rfl, rfl, rfl, rfl⟩
theorem r24_ops : ∃ o0 o1 o2 o3 ats ats', lwR24 = #[o0, o1, o2, o3] ∧ o0.dst = some 54 ∧ o1.dst = some 55 ∧ o2.dst = some 56 ∧ o3.dst = some 10 ∧ o0.op = .load 25 (.tmp 1) ∧ o1.op = .call { callee := .value (.func 6), args := #[.tmp 54], argTypes := ats } ∧ o2.op = .call { callee := .value (.func 7), args := #[.tmp 55], argTypes := ats' } ∧ o3.op = .assign (.tmp 56) ∧ o0.guard = none ∧ o1.guard = none ∧ o2.guard = none ∧ o3.guard = none :=
  ⟨_, _, _, _, _, _, rfl, rfl, rfl, rfl, rfl, rfl, rfl, rfl, rfl, rfl, rfl, rfl, rfl⟩
theorem cd_law : ([lwR0, lwR1, lwR2, lwX3, lwR5, lwR6, lwR3, lwR4, lwX8, lwX10, lwR12, lwR13, lwX14, lwR16, lwR17, lwR18, lwR19, lwX20, lwX22, lwX25, lwR27, lwR28, lwX29, lwX31, lwR33] : List Code).all (cdB Try.prog 0 cKT (fun _ => false) false) = true := by kernel_rfl
end Go.Proofs.Ytngehfhcnfobbaa
