/- How many withdrawals and announcements an update has. No condition. -/
import Derived.Test.YtgcmbmjpgaadcaaCopy
namespace Go.Proofs.Ytgcmbmjpgaadcaa
open Go Go.RowKit

def dmany (d : Dl) : Int := d.drop.length + d.tell.length

set_option maxHeartbeats 1000000 in
theorem sDeltaMany_any (d : Dl) (a : Option Addr) (n c : Nat) (a' : Option Addr) (n' c' : Nat) (w : World) (h : SlRd w a n c d.drop) (h' : SlRd w a' n' c' d.tell) (z : Sz.sz d ≤ 1048576) :
    Calls Try.prog 7 #[.agg #[.slice a n c, .slice a' n' c']] w fun e w' => e = .returned (.int .i64 (dmany d)) ∧ Ext w w' := by
  have hl := h.1
  have hl' := h'.1
  have e : dmany d = (n : Int) + (n' : Int) := by unfold dmany; rw [hl, hl']
  have z' : n + n' ≤ 1048576 := by
    have h1 : Sz.sz d = Sz.sz d.drop + Sz.sz d.tell := rfl
    have h2 : Sz.sz d.drop = d.drop.length + (d.drop.map Sz.sz).sum := rfl
    have h3 : Sz.sz d.tell = d.tell.length + (d.tell.map Sz.sz).sum := rfl
    omega
  rw [e]
  clear e hl hl' h h' z
  go_enter Try.func7, Try.ntmps7
  go_wp2_with (first | ((first | with_reducible refine wp_region_qe (by kernel_rfl) (by kernel_rfl) ?_ | with_reducible refine wp_region_q (by kernel_rfl) (by kernel_rfl) ?_); (repeat (go_big_quiet_step (fail))); refine wpQuiet_nil ?_; intro x))
  go_ret
  exact ⟨rfl, (by repeat (first | with_reducible exact Ext.refl _ | with_reducible apply Ext.and | with_reducible apply Ext.drewx | with_reducible apply Ext.alloc | with_reducible apply Ext.ext | with_reducible apply Ext.drew | with_reducible refine Ext.setCell ?_ (by simp) _))⟩

set_option maxHeartbeats 1000000 in
theorem iDeltaMany_any (d : Dl) (a : Option Addr) (n c : Nat) (a' : Option Addr) (n' c' : Nat) (w : World) (h : SlRd w a n c d.drop) (h' : SlRd w a' n' c' d.tell) (z : Sz.sz d ≤ 1048576) :
    Calls Try.prog 9 #[.agg #[.slice a n c, .slice a' n' c']] w fun e w' => e = .returned (.int .i64 (dmany d)) ∧ Ext w w' := by
  have hl := h.1
  have hl' := h'.1
  have e : dmany d = (n : Int) + (n' : Int) := by unfold dmany; rw [hl, hl']
  have z' : n + n' ≤ 1048576 := by
    have h1 : Sz.sz d = Sz.sz d.drop + Sz.sz d.tell := rfl
    have h2 : Sz.sz d.drop = d.drop.length + (d.drop.map Sz.sz).sum := rfl
    have h3 : Sz.sz d.tell = d.tell.length + (d.tell.map Sz.sz).sum := rfl
    omega
  rw [e]
  clear e hl hl' h h' z
  go_enter Try.func9, Try.ntmps9
  go_wp2_with (first | ((first | with_reducible refine wp_region_qe (by kernel_rfl) (by kernel_rfl) ?_ | with_reducible refine wp_region_q (by kernel_rfl) (by kernel_rfl) ?_); (repeat (go_big_quiet_step (fail))); refine wpQuiet_nil ?_; intro x))
  go_ret
  exact ⟨rfl, (by repeat (first | with_reducible exact Ext.refl _ | with_reducible apply Ext.and | with_reducible apply Ext.drewx | with_reducible apply Ext.alloc | with_reducible apply Ext.ext | with_reducible apply Ext.drew | with_reducible refine Ext.setCell ?_ (by simp) _))⟩

end Go.Proofs.Ytgcmbmjpgaadcaa
