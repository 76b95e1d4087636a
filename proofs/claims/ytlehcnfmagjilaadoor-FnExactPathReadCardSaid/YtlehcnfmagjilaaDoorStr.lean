/- Texts: numbers in decimals, as both sides write them. No condition. -/
import Derived.Test.YtlehcnfmagjilaaDoorRmkP
import Derived.Test.YtlehcnfmagjilaaDoorPush
import Derived.Test.YtlehcnfmagjilaaDoorShelf
import Derived.Lib.ItoaNum
import Derived.Lib.Join
import Derived.Deep.RegionWith
import Derived.Deep.Cut
import Derived.Laws.BytesArg
namespace Go.Proofs.YtlehcnfmagjilaaDoor
open Go Go.RowKit

def bs (l : List UInt8) : ByteArray := ⟨l.toArray⟩
theorem bs_add (a b : List UInt8) : bs a ++ bs b = bs (a ++ b) := by
  apply ByteArray.ext
  simp [bs]
theorem bs_data (a : List UInt8) : (bs a).data.toList = a := by simp [bs]
theorem bs_size (a : List UInt8) : (bs a).size = a.length := by simp [bs, ByteArray.size]
theorem bs_inj {a b : List UInt8} (h : bs a = bs b) : a = b := by
  have := congrArg (fun x => x.data.toList) h
  simpa [bs] using this
theorem toList_bs (a : List UInt8) : (bs a).toList = a := by
  have : ∀ (x : ByteArray), x.toList = x.data.toList := fun x => by simp [ByteArray.toList_eq]
  rw [this, bs_data]
theorem bs_empty : (bs []).toList.isEmpty = true := by rw [toList_bs]; rfl
theorem bs_full {a : List UInt8} (h : a ≠ []) : (bs a).toList.isEmpty = false := by
  rw [toList_bs]
  cases a with
  | nil => exact absurd rfl h
  | cons x t => rfl
theorem dec_lt {n : Nat} (h : n < 10) : Lib.decDigits n = [UInt8.ofNat (48 + n)] := by rw [Lib.decDigits, dif_pos h]
theorem dec_ge {n : Nat} (h : ¬ n < 10) : Lib.decDigits n = Lib.decDigits (n / 10) ++ [UInt8.ofNat (48 + n % 10)] := by rw [Lib.decDigits, dif_neg h]
theorem dec_ne (n : Nat) : Lib.decDigits n ≠ [] := by
  by_cases h : n < 10
  · rw [dec_lt h]; simp
  · rw [dec_ge h]; simp
theorem dec_len (n : Nat) (h : n < 1000) : (Lib.decDigits n).length ≤ 3 := by
  by_cases h1 : n < 10
  · rw [dec_lt h1]; simp
  · rw [dec_ge h1]
    by_cases h2 : n / 10 < 10
    · rw [dec_lt h2]; simp
    · rw [dec_ge h2, dec_lt (by omega)]; simp

/-- The table of powers of ten lies where start-up laid it. -/
def TB (w : World) : Prop := Lib.TabIs Tryd.prog w "internal/strconv.uint64pow10" .u64 Lib.pow10Tab
theorem TB.later {w w' : World} (h : TB w) (k : Ext w w') : TB w' := by
  have b := k.below
  unfold TB Lib.TabIs World.var? at *
  cases hg : (Tryd.prog).globalNamed "internal/strconv.uint64pow10" with
  | none => simp [hg] at h
  | some g =>
    simp only [hg, Option.bind_some] at h ⊢
    have hlt : g < w.heap.size := by
      rcases Nat.lt_or_ge g w.heap.size with h' | h'
      · exact h'
      · simp [Array.getElem?_eq_none h'] at h
    rw [b.block g hlt]; exact h
theorem itoaS (n : Nat) (hn : n < 100) (w : World) : Calls Tryd.prog 70 #[.int .i64 n] w fun e w' => e = .returned (.string (bs (Lib.decDigits n))) ∧ Ext w w' :=
  (Tryd.strconv_Itoa_small n hn w).mono fun _ _ ⟨h1, h2⟩ => ⟨h1, h2 ▸ Ext.refl _⟩
theorem itoaB (n : Nat) (hn : n < 1000) (w : World) (h : TB w) : Calls Tryd.prog 70 #[.int .i64 n] w fun e w' => e = .returned (.string (bs (Lib.decDigits n))) ∧ Ext w w' :=
  (Tryd.strconv_Itoa n (by omega) (by omega) w h).mono fun _ _ ⟨h1, k, os, h2⟩ => ⟨by rw [h1]; unfold Lib.itoa bs; rw [if_neg (by omega)]; rfl, h2 ▸ ⟨⟨os, _⟩, rfl⟩⟩

theorem conv1 (B : Nat) (x : Int) (w : World) (h : w.cell? ⟨B, 0, none⟩ = some (.int .u8 x)) : (convert 112 9 (.slice (some ⟨B, 0, none⟩) 1 1)).run Tryd.prog w = .ok (.string (bs [UInt8.ofNat x.toNat])) w := by
  rw [run_convert_bytes_arg _ _ _ Tryd.underlying112 Tryd.underlying5 B 0 1 1 [x] rfl (fun i hi => by have h0 : i = 0 := (by omega); rw [h0]; exact h) _ Tryd.underlying9]
  rfl

set_option maxRecDepth 20000 in
set_option maxHeartbeats 1000000 in
theorem l6Dec_1 (n : Nat) (hn : n < 10) (w : World) : Calls Tryd.prog 74 #[.int .i64 n] w fun e w' => e = .returned (.string (bs (Lib.decDigits n))) ∧ Ext w w' := by
  have h0 : decide ((n : Int) < -9223372036854775807) = false := by first | (simp; done) | (simp; omega)
  have h1 : decide ((n : Int) < 0) = false := by first | (simp; done) | (simp; omega)
  have h2 : decide ((n : Int) < 10) = true := by simp; omega
  rw [dec_lt hn]
  go_enter Tryd.func74, Tryd.ntmps74
  go_wp2_with fail
  rw [conv1 _ (48 + (n : Int)) _ (by go_simp)]
  go_wp2_with fail
  go_ret
  exact ⟨by rw [show ((48 : Int) + n).toNat = 48 + n by omega]; rfl, (by repeat (first | with_reducible exact Ext.refl _ | with_reducible apply Ext.and | with_reducible apply Ext.drewx | with_reducible apply Ext.alloc | with_reducible apply Ext.ext | with_reducible apply Ext.drew | with_reducible refine Ext.setCell ?_ (by simp) _))⟩

set_option maxRecDepth 20000 in
set_option maxHeartbeats 1000000 in
theorem l6Dec_up (N : Nat) (hN : N ≤ 100) (IH : ∀ (n : Nat) (w : World), n < N → Calls Tryd.prog 74 #[.int .i64 n] w fun e w' => e = .returned (.string (bs (Lib.decDigits n))) ∧ Ext w w')
    (n : Nat) (hn : n < 10 * N) (w : World) : Calls Tryd.prog 74 #[.int .i64 n] w fun e w' => e = .returned (.string (bs (Lib.decDigits n))) ∧ Ext w w' := by
  by_cases h : n < 10
  · exact l6Dec_1 n h w
  have h0 : decide ((n : Int) < -9223372036854775807) = false := by first | (simp; done) | (simp; omega)
  have h1 : decide ((n : Int) < 0) = false := by first | (simp; done) | (simp; omega)
  have h2 : decide ((n : Int) < 10) = false := by first | (simp; done) | (simp; omega)
  rw [dec_ge h]
  go_enter Tryd.func74, Tryd.ntmps74
  go_upto_region 7 with fail
  have hw1 : IntKind.i64.wrap ((n : Int) / 10) = (n : Int) / 10 := by simp [IntKind.wrap, IntKind.bits, IntKind.signed]; omega
  have hw2 : IntKind.u8.wrap (IntKind.i64.wrap (48 + (n : Int).tmod 10)) = 48 + (n : Int) % 10 := by
    rw [Int.tmod_eq_emod_of_nonneg (by omega)]
    simp [IntKind.wrap, IntKind.bits, IntKind.signed]
    omega
  have hcv := fun B w h => conv1 B (48 + (n : Int) % 10) w h
  have HW := hidden (show ((n : Int) / 10) = ((n / 10 : Nat) : Int) by omega)
  have HV := hidden (show (48 + (n : Int) % 10).toNat = 48 + n % 10 by omega)
  have hs1 : (bs (Lib.decDigits (n / 10))).size + (bs [UInt8.ofNat (48 + (n : Int) % 10).toNat]).size ≤ 9223372036854775807 := by
    have := dec_len (n / 10) (by omega)
    rw [bs_size, bs_size, List.length_singleton]; omega
  go_region_with (go_at_call 74; rw [HW.out]; refine (IH (n / 10) _ (by omega)).mono ?_; rintro _ _ ⟨rfl, x, rfl⟩)
  all_goals
    go_wp2_with fail
    go_ret
    exact ⟨by simp [bs_add, Act.put], (by repeat (first | with_reducible exact Ext.refl _ | with_reducible apply Ext.and | with_reducible apply Ext.drewx | with_reducible apply Ext.alloc | with_reducible apply Ext.ext | with_reducible apply Ext.drew | with_reducible refine Ext.setCell ?_ (by simp) _))⟩
theorem l6Dec_any (n : Nat) (hn : n < 1000) (w : World) : Calls Tryd.prog 74 #[.int .i64 n] w fun e w' => e = .returned (.string (bs (Lib.decDigits n))) ∧ Ext w w' :=
  l6Dec_up 100 (by omega) (fun n w h => l6Dec_up 10 (by omega) (fun n w h => l6Dec_1 n h w) n h w) n hn w

end Go.Proofs.YtlehcnfmagjilaaDoor
