/- What slices.Grow and slices.Concat do. No condition. -/
import Derived.Test.YtfhagokhekodnaaDoorSlc
import Derived.Test.YtfhagokhekodnaaDoorSeq
namespace Go.Proofs.YtfhagokhekodnaaDoor
open Go Go.RowKit

set_option maxRecDepth 20000 in
set_option maxHeartbeats 1000000 in
theorem grow_int (m : Nat) (w : World) (hm : m ≤ 2000000000) :
    Calls Tryd.prog 86 #[.slice none 0 0, .int .i64 m] w fun e w' => ∃ v, e = .returned v ∧ w'.ownsRow w.heap.size 3 1 v 0 [] ∧ Ext w w' := by
  by_cases h0 : m = 0
  · subst h0
    go_enter Tryd.func86, Tryd.ntmps86
    go_wp2_with fail
    go_ret
    exact ⟨_, rfl, World.ownsRow_nil _ _ _ _, Ext.refl _⟩
  · have hm0 : 0 < m := by omega
    have hm1 : (0 : Int) < (m : Int) := by omega
    go_enter Tryd.func86, Tryd.ntmps86
    go_wp2_with (at_builtin; refine wpList_app_make (ax := none) (n := 0) (cap := 0) (k := m) (L := m) (olds := []) rfl _ _ rfl tyi_int Tryd.underlying3 (by rfl) (by rfl) (by simp) Src.nil (fun _ => ⟨rfl, rfl⟩) hm0 (by omega) hm0 (by omega) (by unfold maxLen; omega) ?_; intro c w1 cur1 hb1 hl1 hc1 hm1 ht1 hg1 hs1; have hc3 : (m : Int) ≤ (c : Int) := (by omega); have hc4 : (0 : Int) ≤ (c : Int) := (by omega); have HB1 := hidden hb1; have HL1 := hidden hl1; have HM1 := hidden hm1; have HG1 := hidden hg1; clear hb1 hl1 hm1 ht1 hg1)
    go_ret
    exact ⟨_, rfl, ownsRow_of (Nat.le_refl _) HB1.out HL1.out (Nat.zero_le _) HM1.out (by simp) (by simp), Ext.by (Ext.refl w) HG1.out (fun j hj => by cases hj)⟩
set_option maxRecDepth 20000 in
set_option maxHeartbeats 2000000 in
theorem concat_int (B : Nat) (a1 a2 : Option Addr) (n1 c1 n2 c2 : Nat) (xs1 xs2 : List Value) (w : World) (b0 : w.cell? ⟨B, 0, none⟩ = some (.slice a1 n1 c1)) (b1 : w.cell? ⟨B, 1, none⟩ = some (.slice a2 n2 c2)) (hs1 : Src w a1 xs1) (hs2 : Src w a2 xs2) (hl1 : xs1.length = n1 * 1) (hl2 : xs2.length = n2 * 1) (h11 : One xs1) (h12 : One xs2) (hc1 : n1 ≤ c1) (hc2 : n2 ≤ c2) (ha1 : a1 = none → c1 = 0) (ha2 : a2 = none → c2 = 0) (hm1 : n1 ≤ 1000000000) (hm2 : n2 ≤ 1000000000) :
    Calls Tryd.prog 49 #[.slice (some ⟨B, 0, none⟩) 2 2] w fun e w' => ∃ v, e = .returned v ∧ w'.ownsRow w.heap.size 3 1 v (n1 + n2) (xs1 ++ xs2) ∧ Ext w w' := by
  have HS1 := hidden hs1
  have HS2 := hidden hs2
  have HL1 := hidden hl1
  have HL2 := hidden hl2
  have H11 := hidden h11
  have H12 := hidden h12
  have HC1 := hidden hc1
  have HC2 := hidden hc2
  have HA1 := hidden ha1
  have HA2 := hidden ha2
  have hN1 : (0 : Int) ≤ (n1 : Int) := by omega
  have hN2 : (0 : Int) ≤ (n1 : Int) + (n2 : Int) := by omega
  clear hs1 hs2 hl1 hl2 h11 h12 hc1 hc2 ha1 ha2
  obtain ⟨m, hm⟩ : ∃ m, m = n1 + n2 := ⟨_, rfl⟩
  have HM := hidden hm
  have hm3 : m ≤ 2000000000 := by omega
  clear hm
  have lB := cell_lt b0
  go_enter Tryd.func49, Tryd.ntmps49
  go_wp2_with fail
  go_loop [3, 11] (fun s i => (i = .int .i64 0 ∧ s = .int .i64 0) ∨ (i = .int .i64 1 ∧ s = .int .i64 n1) ∨ (i = .int .i64 2 ∧ s = .int .i64 (m : Nat))) (fun _ i => 2 - (intOf i).toNat)
  case atStart => exact .inl ⟨rfl, rfl⟩
  case round =>
    rcases hrel with ⟨rfl, rfl⟩ | ⟨rfl, rfl⟩ | ⟨rfl, rfl⟩
    · go_wp2_with fail
      go_round
      case rel => exact .inr (.inl ⟨rfl, rfl⟩)
      case measure => simp [intOf]
    · go_wp2_with fail
      go_round
      case rel => exact .inr (.inr ⟨rfl, int_eq (by have := HM.out; omega)⟩)
      case measure => simp [intOf]
    · go_wp2_with (first | (go_at_call 86; (with_reducible refine (grow_int m _ hm3).mono ?_); rintro _ wg ⟨v0, rfl, ho, hE⟩; have HO := hidden ho; have HE := hidden hE; clear ho))
      have c0 : wg.cell? ⟨B, 0, none⟩ = some (.slice a1 n1 c1) := by rw [hE.below.cell (p := ⟨B, 0, none⟩) lB]; exact b0
      have c1' : wg.cell? ⟨B, 1, none⟩ = some (.slice a2 n2 c2) := by rw [hE.below.cell (p := ⟨B, 1, none⟩) lB]; exact b1
      clear hE
      go_loopw [6, 27] (fun v i wr => (∃ k : Nat, i = .int .i64 k ∧ ((k = 0 ∧ wr.ownsRow w.heap.size 3 1 v 0 []) ∨ (k = 1 ∧ wr.ownsRow w.heap.size 3 1 v n1 xs1) ∨ (k = 2 ∧ wr.ownsRow w.heap.size 3 1 v (n1 + n2) (xs1 ++ xs2)))) ∧ Ext w wr) (fun _ i _ => 2 - (intOf i).toNat)
      case atStart => exact ⟨⟨0, rfl, .inl ⟨rfl, HO.out⟩⟩, HE.out⟩
      case round =>
        clear HO HE c0 c1'
        obtain ⟨⟨k, rfl, hk⟩, hE⟩ := hrel
        have c0 : wr.cell? ⟨B, 0, none⟩ = some (.slice a1 n1 c1) := by rw [hE.below.cell (p := ⟨B, 0, none⟩) lB]; exact b0
        have c1' : wr.cell? ⟨B, 1, none⟩ = some (.slice a2 n2 c2) := by rw [hE.below.cell (p := ⟨B, 1, none⟩) lB]; exact b1
        have lB' := cell_lt c0
        rcases hk with ⟨rfl, ho⟩ | ⟨rfl, ho⟩ | ⟨rfl, ho⟩
        · have HO := hidden ho
          clear ho
          go_wp2_with (at_builtin; refine wpList_app (N := w.heap.size) rfl _ _ rfl tyi_int (by rfl) HO.out (by rfl) HC1.out HA1.out HL1.out (HS1.out.stays hE.below) H11.out (by unfold maxLen; omega) (by omega) hE.size ?_; intro v1 w1 hw1 hg1 hb1)
          go_roundw
          case rel => exact ⟨⟨1, rfl, .inr (.inl ⟨rfl, by simpa using hw1⟩)⟩, Ext.by hE hg1 (fun j hj => (HO.out.lt j hj).1)⟩
          case measure => simp [intOf]
        · have HO := hidden ho
          clear ho
          go_wp2_with (at_builtin; refine wpList_app (N := w.heap.size) rfl _ _ rfl tyi_int (by rfl) HO.out (by rfl) HC2.out HA2.out HL2.out (HS2.out.stays hE.below) H12.out (by unfold maxLen; omega) (by omega) hE.size ?_; intro v1 w1 hw1 hg1 hb1)
          go_roundw
          case rel => exact ⟨⟨2, rfl, .inr (.inr ⟨rfl, hw1⟩)⟩, Ext.by hE hg1 (fun j hj => (HO.out.lt j hj).1)⟩
          case measure => simp [intOf]
        · have HO := hidden ho
          clear ho
          go_wp2_with fail
          go_ret
          exact ⟨_, rfl, HO.out, hE⟩



end Go.Proofs.YtfhagokhekodnaaDoor
