/- Routes with a mark more, or without one: what the reference does. No condition. -/
import Derived.Test.YtlinngelibpihaaDoorRmkP
import Derived.Test.YtlinngelibpihaaDoorCopyR
namespace Go.Proofs.YtlinngelibpihaaDoor
open Go Go.RowKit

theorem filt_take {l : List Int} {m : Int} {k : Nat} {d : Int} (hd : l[k]? = some d) : (l.take (k + 1)).filter (fun x => x != m) = (l.take k).filter (fun x => x != m) ++ if d = m then [] else [d] := by
  rw [List.take_add_one, hd, List.filter_append]
  congr 1
  simp only [Option.toList_some]
  by_cases h : d = m
  · rw [List.filter_cons_of_neg (by simp [h])]; simp [h]
  · rw [List.filter_cons_of_pos (by simp [h])]; simp [h]

end Go.Proofs.YtlinngelibpihaaDoor
