/- What slices.Insert does. No condition. -/
import Derived.Test.YtjeofgalgfopdaaGreatDoorSlc
import Derived.Test.YtjeofgalgfopdaaGreatDoorSeq
import Derived.Lib.Overlaps
namespace Go.Proofs.YtjeofgalgfopdaaGreatDoor
open Go Go.RowKit

set_option maxRecDepth 20000 in
set_option maxHeartbeats 2000000 in
theorem insert_int (N : Nat) (v : Value) (n : Nat) (xs ys : List Value) (i B : Nat) (w : World) (h : w.ownsRow N 3 1 v n xs) (hN : N ≤ w.heap.size) (hi : i ≤ n) (hB : Blk w B 3 ys) (hY : ys.length = 1) (hvB : v.ownBlock ≠ some B) (h1 : One xs) (h1y : One ys) (hm : n ≤ 1000000000) :
    Calls Tryz.prog 111 #[v, .int .i64 i, .slice (some ⟨B, 0, none⟩) 1 1] w fun e w' => ∃ v', e = .returned v' ∧ w'.ownsRow N 3 1 v' (n + 1) (xs.take (i) ++ ys ++ xs.drop (i)) ∧ w.grownBy w' v.ownBlock ∧ NewB v v' w := by
  obtain ⟨a, cap, rfl, hlc, hcm, ha, hsrc, hg⟩ := ownsRow_shape h
  have hxl : xs.length = n := by simpa using h.1
  have H := hidden h
  have HY := hidden hY
  have HB := hidden (Src.blk hB)
  have HBB := hidden hB
  have H1y := hidden h1y
  have H1 := hidden h1
  have HN := hidden hN
  have HM := hidden hm
  have HS := hidden hsrc
  have HX := hidden hxl
  have hlB := hB.lt
  have HV := hidden hvB
  have HC := hidden hcm
  clear h hY hB h1y h1 hN hsrc hxl hvB
  unfold maxLen at hcm
  by_cases hin : i = n
  · have hin' : ((i : Int) == (n : Int)) = true := by subst hin; simp
    have HI := hidden hin
    clear hin
    go_enter Tryz.func111, Tryz.ntmps111
    go_wp2_with (first | (at_builtin; refine wpList_app (N := N) rfl _ _ rfl tyi_int (by rfl) (H.out) (by rfl) (Nat.le_refl 1) (fun h => by cases h) (by have := HY.out; omega) HB.out H1y.out (by have := HM.out; unfold maxLen; omega) (by have := HM.out; omega) (by simpa using HN.out) ?_; intro v1 w1 hw1 hg1 hb1))
    all_goals go_ret
    all_goals refine ⟨_, rfl, ?_, (by first | exact hg1 | (cases a <;> exact hg1)), NewB.of (by first | exact hb1 | (cases a <;> exact hb1))⟩
    all_goals
      have e1 : xs.take (i) = xs := List.take_of_length_le (by have := HX.out; have := HI.out; subst this; omega)
      have e2 : xs.drop (i) = [] := List.drop_eq_nil_of_le (by have := HX.out; have := HI.out; subst this; omega)
      rw [e1, e2, List.append_nil]; exact hw1
  obtain ⟨g, cur, rfl, hcb, hcl, hct⟩ := ownsRow_cur H.out (by omega)
  simp only [Nat.mul_one] at hcl hct
  have hin' : ((i : Int) == (n : Int)) = false := by simp; omega
  have hci : ¬ cap = i := by omega
  have hlt : i < n := by omega
  have HI := hidden hlt
  have hgB : B ≠ g := fun e => HV.out (by simp [Value.ownBlock, e])
  have HCB := hidden hcb
  have HCL := hidden hcl
  have HCT := hidden hct
  have lg := hcb.lt
  have hBx : (xs.drop (i)).length = (n - i) := by rw [List.length_drop, HX.out]
  have HBX := hidden hBx
  have hlen : i + 1 + (xs.drop (i)).length = (n + 1) := by rw [hBx]; omega
  have HLEN := hidden hlen
  have HGN : Hid (N ≤ g) := (H.out.lt g rfl).1
  clear hin hcb hcl hct ha hBx hlen hg
  have i1 : (0 : Int) ≤ (i : Int) + 1 := by omega
  have i2 : (i : Int) + 1 ≤ (n : Int) + 1 := by omega
  have i3 : (i : Int) ≤ (n : Int) := by omega
  have i4 : (0 : Int) ≤ (i : Int) := by omega
  have i5 : (n : Int) ≤ (cap : Int) := by omega
  have i6 : (i : Int) + 1 ≤ (n : Int) := by omega
  by_cases hroom : cap < n + 1
  · go_enter Tryz.func111, Tryz.ntmps111
    go_wp2_with (first | (first | ((at_builtin; refine wpList_app_make (ax := some ⟨g, 0, none⟩) (n := i) (cap := cap) (k := n + 1 - i) (L := n + 1) (olds := xs.take (i)) rfl _ _ rfl tyi_int Tryz.underlying3 (by rfl) (by exact int_eq (by omega)) (by rw [List.length_take, HX.out]; omega) (HS.out.take _) (fun h => by cases h) (by omega) (by omega) (by omega) (by have := HM.out; omega) (by have := HM.out; unfold maxLen; omega) ?_; intro c w1 cur1 hb1 hl1 hc1 hm1 ht1 hg1 hs1; have hc1' : ¬ c = i := (by omega); have hc3 : (n : Int) + 1 ≤ (c : Int) := (by omega); have hc4 : (n : Int) ≤ (c : Int) := (by omega); have hc2' : ¬ c = i + 1 := (by omega); have HB1 := hidden hb1; have HL1 := hidden hl1; have HM1 := hidden hm1; simp only [Nat.mul_one] at ht1; have HT1 := hidden ht1; have HG1 := hidden hg1; clear hb1 hl1 hm1 ht1 hg1)) | (((with_reducible show wpList _ _ _ ({ dst := _, op := Op.call { callee := Callee.builtin Builtin.copy, args := _, argTypes := _ }, type := _, pos := _, after := _, guard := _ } :: _) _ _); refine wpList_copy_sz (size := 1) rfl _ _ rfl cur1 ys (by rfl) (by rfl) Tryz.underlying25 (by kernel_rfl) HB1.out (by rw [HY.out]; simp only [Nat.min_eq_left (show 1 ≤ n + 1 - i by omega), Nat.one_mul]) (Src.grown HB.out HG1.out (fun b off e _ => by cases e)) (fun h => by cases h) (by rw [HL1.out, HY.out]; have := Nat.mul_le_mul_right 1 (show i + 1 ≤ c by omega); omega) H1y.out ?_; intro w2 hb2 hg2; (try simp only [go_sem, goInt, List.setIfInBounds_toArray, List.set_cons_succ, List.set_cons_zero]); have HB2 := hidden hb2; have HG2 := hidden hg2; clear hb2 hg2)) | (((with_reducible show wpList _ _ _ ({ dst := _, op := Op.call { callee := Callee.builtin Builtin.copy, args := _, argTypes := _ }, type := _, pos := _, after := _, guard := _ } :: _) _ _); refine wpList_copy_sz (size := 1) rfl _ _ rfl (splice cur1 (i) ys) (xs.drop (i)) (by rfl) (by rfl) Tryz.underlying25 (by kernel_rfl) HB2.out (by rw [HBX.out, Nat.mul_one]; (first | omega | (simp only [Nat.min_def]; split <;> omega) | simp)) (Src.grown (Src.grown (Src.drop0 HS.out (i)) HG1.out (fun b off e _ => by cases e)) (grownBy_drew HG2.out) (fun b off e he => by cases e; cases he; exact absurd lg (by omega))) (fun h => by cases h) (by rw [length_splice _ _ _ (by rw [HL1.out, HY.out]; have := Nat.mul_le_mul_right 1 (show i + 1 ≤ c by omega); omega), HL1.out]; have := Nat.mul_le_mul_right 1 (show n + 1 ≤ c by omega); have := HLEN.out; omega) (One.drop H1.out _) ?_; intro w3 hb3 hg3; (try simp only [go_sem, goInt, List.setIfInBounds_toArray, List.set_cons_succ, List.set_cons_zero]); have HB3 := hidden hb3; have HG3 := hidden hg3; clear hb3 hg3))) | ((with_reducible refine wp_region_seqT (by kernel_rfl) (by kernel_rfl) ?_); (repeat' (first | ((with_reducible refine wpSeq_pure (by with_unfolding_all rfl) (fun Kq hKq => ?_)); (repeat' (go_big_quiet_step (fail))); (all_goals (refine wpQuiet_nil ?_; refine hKq _ ?_; clear hKq Kq))) | ((with_reducible refine wpSeq_act (by with_unfolding_all rfl) (fun Q' hQ' => ?_)); (go_wp2_with (first | ((at_builtin; refine wpList_app_make (ax := some ⟨g, 0, none⟩) (n := i) (cap := cap) (k := n + 1 - i) (L := n + 1) (olds := xs.take (i)) rfl _ _ rfl tyi_int Tryz.underlying3 (by rfl) (by exact int_eq (by omega)) (by rw [List.length_take, HX.out]; omega) (HS.out.take _) (fun h => by cases h) (by omega) (by omega) (by omega) (by have := HM.out; omega) (by have := HM.out; unfold maxLen; omega) ?_; intro c w1 cur1 hb1 hl1 hc1 hm1 ht1 hg1 hs1; have hc1' : ¬ c = i := (by omega); have hc3 : (n : Int) + 1 ≤ (c : Int) := (by omega); have hc4 : (n : Int) ≤ (c : Int) := (by omega); have hc2' : ¬ c = i + 1 := (by omega); have HB1 := hidden hb1; have HL1 := hidden hl1; have HM1 := hidden hm1; simp only [Nat.mul_one] at ht1; have HT1 := hidden ht1; have HG1 := hidden hg1; clear hb1 hl1 hm1 ht1 hg1)) | (((with_reducible show wpList _ _ _ ({ dst := _, op := Op.call { callee := Callee.builtin Builtin.copy, args := _, argTypes := _ }, type := _, pos := _, after := _, guard := _ } :: _) _ _); refine wpList_copy_sz (size := 1) rfl _ _ rfl cur1 ys (by rfl) (by rfl) Tryz.underlying25 (by kernel_rfl) HB1.out (by rw [HY.out]; simp only [Nat.min_eq_left (show 1 ≤ n + 1 - i by omega), Nat.one_mul]) (Src.grown HB.out HG1.out (fun b off e _ => by cases e)) (fun h => by cases h) (by rw [HL1.out, HY.out]; have := Nat.mul_le_mul_right 1 (show i + 1 ≤ c by omega); omega) H1y.out ?_; intro w2 hb2 hg2; (try simp only [go_sem, goInt, List.setIfInBounds_toArray, List.set_cons_succ, List.set_cons_zero]); have HB2 := hidden hb2; have HG2 := hidden hg2; clear hb2 hg2)) | (((with_reducible show wpList _ _ _ ({ dst := _, op := Op.call { callee := Callee.builtin Builtin.copy, args := _, argTypes := _ }, type := _, pos := _, after := _, guard := _ } :: _) _ _); refine wpList_copy_sz (size := 1) rfl _ _ rfl (splice cur1 (i) ys) (xs.drop (i)) (by rfl) (by rfl) Tryz.underlying25 (by kernel_rfl) HB2.out (by rw [HBX.out, Nat.mul_one]; (first | omega | (simp only [Nat.min_def]; split <;> omega) | simp)) (Src.grown (Src.grown (Src.drop0 HS.out (i)) HG1.out (fun b off e _ => by cases e)) (grownBy_drew HG2.out) (fun b off e he => by cases e; cases he; exact absurd lg (by omega))) (fun h => by cases h) (by rw [length_splice _ _ _ (by rw [HL1.out, HY.out]; have := Nat.mul_le_mul_right 1 (show i + 1 ≤ c by omega); omega), HL1.out]; have := Nat.mul_le_mul_right 1 (show n + 1 ≤ c by omega); have := HLEN.out; omega) (One.drop H1.out _) ?_; intro w3 hb3 hg3; (try simp only [go_sem, goInt, List.setIfInBounds_toArray, List.set_cons_succ, List.set_cons_zero]); have HB3 := hidden hb3; have HG3 := hidden hg3; clear hb3 hg3)))); (all_goals (refine hQ' _ _ rfl trivial ?_; clear hQ' Q'))))); (all_goals ((with_reducible refine wpSeq_nil ?_)))))
    go_ret
    have hsz : i + ys.length ≤ cur1.length := by rw [HL1.out, HY.out]; have := Nat.mul_le_mul_right 1 (show i + 1 ≤ c by omega); omega
    have hsz2 : i + 1 + (xs.drop (i)).length ≤ cur1.length := by rw [HL1.out, HLEN.out]; omega
    refine ⟨_, rfl, ownsRow_of HN.out HB3.out (by rw [length_splice _ _ _ (by rw [length_splice _ _ _ hsz]; first | omega | (have := hsz2; omega)), length_splice _ _ _ hsz, HL1.out]) hc1 HM1.out (by rw [List.length_append, List.length_append, List.length_take, HX.out, HY.out, Nat.min_eq_left (Nat.le_of_lt HI.out)]; have := HLEN.out; omega) ?_, ?_, NewB.new⟩
    · have := ins_grow (B := xs.drop (i)) HY.out hsz2; rw [HLEN.out, HT1.out] at this; simpa [Nat.add_mul] using this
    · exact grownBy_tr (grownBy_drew (grownBy_tr HG1.out HG2.out (fun b e => by cases e) (fun b e => .inr (by cases e; exact Nat.le_refl _)))) HG3.out (fun b e => .inl e) (fun b e => .inr (by cases e; exact Nat.le_refl _))
  · have hov : ∀ lb cb, (callFunc 137 #[.slice (some ⟨B, 0, none⟩) 1 1, .slice (some ⟨g, (i + 1), none⟩) lb cb]).run Tryz.prog w = .ok (.value (.bool false)) w := fun lb cb => by
      rw [run_callFunc_extern Tryz.func137 (by kernel_rfl) (by kernel_rfl) (by kernel_rfl) (e := Extern.SlicesOverlaps.overlaps #[25, 25] #[4]) (by kernel_rfl),
        Lib.run_overlaps_apart w 25 4 3 Tryz.underlying25 1 (fun _ => by kernel_rfl) ⟨B, 0, none⟩ ⟨g, (i + 1), none⟩ 1 1 lb cb hgB _ _ _ _ (Blk.shape HBB.out) (Blk.shape HCB.out) (by rw [HCL.out]; omega) (Blk.frozen HBB.out _) (Blk.frozen HBB.out _)]
      rfl
    have hcap : n + 1 ≤ cap := by omega
    have hci2 : ¬ cap = i + 1 := by omega
    have i7 : (n : Int) + 1 ≤ (cap : Int) := by omega
    go_enter Tryz.func111, Tryz.ntmps111
    go_wp2_with (first | (first | (((with_reducible show wpList _ _ _ ({ dst := _, op := Op.call { callee := Callee.builtin Builtin.copy, args := _, argTypes := _ }, type := _, pos := _, after := _, guard := _ } :: _) _ _); refine wpList_copy_sz (size := 1) rfl _ _ rfl cur (xs.drop (i)) (by rfl) (by rfl) Tryz.underlying25 (by kernel_rfl) HCB.out (by rw [HBX.out, Nat.mul_one]; first | omega | (simp only [Nat.min_def]; split <;> omega) | simp) (Src.drop0 HS.out (i)) (fun h => by cases h) (by rw [HCL.out]; have := Nat.mul_le_mul_right 1 (show n + 1 ≤ cap by omega); have := HLEN.out; omega) (One.drop H1.out _) ?_; intro w3 hb3 hg3; (try simp only [go_sem, goInt, List.setIfInBounds_toArray, List.set_cons_succ, List.set_cons_zero]); have HB3 := hidden hb3; have HG3 := hidden hg3; clear hb3 hg3)) | (((with_reducible show wpList _ _ _ ({ dst := _, op := Op.call { callee := Callee.builtin Builtin.copy, args := _, argTypes := _ }, type := _, pos := _, after := _, guard := _ } :: _) _ _); refine wpList_copy_sz (size := 1) rfl _ _ rfl (splice cur ((i + 1)) (xs.drop (i))) ys (by rfl) (by rfl) Tryz.underlying25 (by kernel_rfl) HB3.out (by rw [HY.out]; simp only [Nat.min_eq_left (show 1 ≤ n + 1 - i by omega), Nat.one_mul]) (Src.grown (w := w.drew) HB.out HG3.out (fun b off e he => by cases e; cases he; exact hgB rfl)) (fun h => by cases h) (by rw [length_splice _ _ _ (by rw [HCL.out]; have := Nat.mul_le_mul_right 1 (show n + 1 ≤ cap by omega); have := HLEN.out; omega), HCL.out, HY.out]; have := Nat.mul_le_mul_right 1 (show i + 1 ≤ cap by omega); omega) H1y.out ?_; intro w4 hb4 hg4; (try simp only [go_sem, goInt, List.setIfInBounds_toArray, List.set_cons_succ, List.set_cons_zero]); have HB4 := hidden hb4; have HG4 := hidden hg4; clear hb4 hg4))) | ((with_reducible refine wp_region_seqT (by kernel_rfl) (by kernel_rfl) ?_); (repeat' (first | ((with_reducible refine wpSeq_pure (by with_unfolding_all rfl) (fun Kq hKq => ?_)); (repeat' (go_big_quiet_step (fail))); (all_goals (refine wpQuiet_nil ?_; refine hKq _ ?_; clear hKq Kq))) | ((with_reducible refine wpSeq_act (by with_unfolding_all rfl) (fun Q' hQ' => ?_)); (go_wp2_with (first | (((with_reducible show wpList _ _ _ ({ dst := _, op := Op.call { callee := Callee.builtin Builtin.copy, args := _, argTypes := _ }, type := _, pos := _, after := _, guard := _ } :: _) _ _); refine wpList_copy_sz (size := 1) rfl _ _ rfl cur (xs.drop (i)) (by rfl) (by rfl) Tryz.underlying25 (by kernel_rfl) HCB.out (by rw [HBX.out, Nat.mul_one]; first | omega | (simp only [Nat.min_def]; split <;> omega) | simp) (Src.drop0 HS.out (i)) (fun h => by cases h) (by rw [HCL.out]; have := Nat.mul_le_mul_right 1 (show n + 1 ≤ cap by omega); have := HLEN.out; omega) (One.drop H1.out _) ?_; intro w3 hb3 hg3; (try simp only [go_sem, goInt, List.setIfInBounds_toArray, List.set_cons_succ, List.set_cons_zero]); have HB3 := hidden hb3; have HG3 := hidden hg3; clear hb3 hg3)) | (((with_reducible show wpList _ _ _ ({ dst := _, op := Op.call { callee := Callee.builtin Builtin.copy, args := _, argTypes := _ }, type := _, pos := _, after := _, guard := _ } :: _) _ _); refine wpList_copy_sz (size := 1) rfl _ _ rfl (splice cur ((i + 1)) (xs.drop (i))) ys (by rfl) (by rfl) Tryz.underlying25 (by kernel_rfl) HB3.out (by rw [HY.out]; simp only [Nat.min_eq_left (show 1 ≤ n + 1 - i by omega), Nat.one_mul]) (Src.grown (w := w.drew) HB.out HG3.out (fun b off e he => by cases e; cases he; exact hgB rfl)) (fun h => by cases h) (by rw [length_splice _ _ _ (by rw [HCL.out]; have := Nat.mul_le_mul_right 1 (show n + 1 ≤ cap by omega); have := HLEN.out; omega), HCL.out, HY.out]; have := Nat.mul_le_mul_right 1 (show i + 1 ≤ cap by omega); omega) H1y.out ?_; intro w4 hb4 hg4; (try simp only [go_sem, goInt, List.setIfInBounds_toArray, List.set_cons_succ, List.set_cons_zero]); have HB4 := hidden hb4; have HG4 := hidden hg4; clear hb4 hg4)))); (all_goals (refine hQ' _ _ rfl trivial ?_; clear hQ' Q'))))); (all_goals ((with_reducible refine wpSeq_nil ?_)))))
    go_ret
    have hsz2 : i + 1 + (xs.drop (i)).length ≤ cur.length := by rw [HCL.out, HLEN.out]; omega
    have hpre : xs.take (i) = cur.take (i) := by rw [← HCT.out, List.take_take, Nat.min_eq_left (Nat.le_of_lt HI.out)]
    have hl1 : (splice cur ((i + 1)) (xs.drop (i))).length = cap := by rw [length_splice _ _ _ (by omega), HCL.out]
    refine ⟨_, rfl, ownsRow_of HGN.out HB4.out (by rw [length_splice _ _ _ (by rw [hl1, HY.out]; have := Nat.mul_le_mul_right 1 (show i + 1 ≤ cap by omega); omega), hl1, Nat.mul_one]) hcap HC.out (by rw [List.length_append, List.length_append, List.length_take, HX.out, HY.out, Nat.min_eq_left (Nat.le_of_lt HI.out)]; have := HLEN.out; omega) ?_, ?_, NewB.same⟩
    · have := ins_room (B := xs.drop (i)) HY.out hsz2; rw [HLEN.out, ← hpre] at this; simpa [Nat.add_mul] using this
    · exact grownBy_tr (grownBy_undrew HG3.out) HG4.out (fun b e => .inl e) (fun b e => .inl e)



end Go.Proofs.YtjeofgalgfopdaaGreatDoor
