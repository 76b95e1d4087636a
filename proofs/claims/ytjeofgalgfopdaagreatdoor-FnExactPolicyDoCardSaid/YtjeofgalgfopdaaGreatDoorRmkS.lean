/- Routes with a mark more, or without one: the reference's answers. No condition. -/
import Derived.Test.YtjeofgalgfopdaaGreatDoorRmk
namespace Go.Proofs.YtjeofgalgfopdaaGreatDoor
open Go Go.RowKit

theorem i64_zero : I64 0 := I64.mk (by omega) (by omega)
theorem Cp.zero {lo : Nat} {w : World} : Cp lo w (.slice none 0 0) (.slice none 0 0) [] [] := ⟨AccF.nil, AccF.nil, fun b e => by cases e⟩
theorem fin_rt0 {w0 w : World} (hE : Ext w0 w) : ∃ x, w = Go.Proofs.YtjeofgalgfopdaaGreatDoor.ext w0 x ∧ Hid (Fresh w0 (Go.Proofs.YtjeofgalgfopdaaGreatDoor.ext w0 x) [.int .i64 rt0.r.f, .int .i64 rt0.r.b, .slice none 0 0, .int .i64 rt0.like, .slice none 0 0] rt0) :=
  Cp.fin (lo := w0.heap.size) (d := rt0) Cp.zero hE (Nat.le_refl _) i64_zero i64_zero i64_zero

end Go.Proofs.YtjeofgalgfopdaaGreatDoor
