/- How large data is. No condition. -/
import Derived.Test.YtlehcnfmagjilaaDoorOwn
namespace Go.Proofs.YtlehcnfmagjilaaDoor
open Go Go.RowKit

class Sz (α : Type) where
  sz : α → Nat
instance : Sz Int := ⟨fun _ => 0⟩
instance : Sz Bool := ⟨fun _ => 0⟩
instance szL {α : Type} [Sz α] : Sz (List α) := ⟨fun l => l.length + (l.map Sz.sz).sum⟩
instance : Sz Rg := ⟨fun _ => 0⟩
instance : Sz Cl := ⟨fun _ => 0⟩
instance : Sz Rt := ⟨fun d => Sz.sz d.path + Sz.sz d.marks⟩
instance : Sz Hd := ⟨fun _ => 0⟩
instance : Sz Se := ⟨fun d => Sz.sz d.path⟩
instance : Sz Gt := ⟨fun d => Sz.sz d.route⟩
instance : Sz Rb := ⟨fun d => Sz.sz d.all⟩
instance : Sz Dl := ⟨fun d => Sz.sz d.drop + Sz.sz d.tell⟩
instance : Sz En := ⟨fun _ => 0⟩
deriving instance DecidableEq for Rg
theorem Rg_eq (d d' : Rg) : d = d' ↔ d.f = d'.f ∧ d.b = d'.b := by
  cases d; cases d'; simp
deriving instance DecidableEq for Cl
theorem Cl_eq (d d' : Cl) : d = d' ↔ d.cif = d'.cif ∧ d.n = d'.n ∧ d.r = d'.r ∧ d.refuse = d'.refuse ∧ d.like = d'.like ∧ d.mark = d'.mark ∧ d.clear = d'.clear := by
  cases d; cases d'; simp
deriving instance DecidableEq for Rt
theorem Rt_eq (d d' : Rt) : d = d' ↔ d.r = d'.r ∧ d.path = d'.path ∧ d.like = d'.like ∧ d.marks = d'.marks := by
  cases d; cases d'; simp
deriving instance DecidableEq for Hd
theorem Hd_eq (d d' : Hd) : d = d' ↔ d.house = d'.house ∧ d.r = d'.r := by
  cases d; cases d'; simp
deriving instance DecidableEq for Se
theorem Se_eq (d d' : Se) : d = d' ↔ d.sby = d'.sby ∧ d.to = d'.to ∧ d.r = d'.r ∧ d.path = d'.path := by
  cases d; cases d'; simp
deriving instance DecidableEq for Gt
theorem Gt_eq (d d' : Gt) : d = d' ↔ d.route = d'.route ∧ d.old = d'.old := by
  cases d; cases d'; simp
deriving instance DecidableEq for Rb
theorem Rb_eq (d d' : Rb) : d = d' ↔ d.house = d'.house ∧ d.up = d'.up ∧ d.all = d'.all := by
  cases d; cases d'; simp
deriving instance DecidableEq for Dl
theorem Dl_eq (d d' : Dl) : d = d' ↔ d.drop = d'.drop ∧ d.tell = d'.tell := by
  cases d; cases d'; simp
deriving instance DecidableEq for En
theorem En_eq (d d' : En) : d = d' ↔ d.r = d'.r ∧ d.via = d'.via := by
  cases d; cases d'; simp
def szR (n : Nat) (left : Int) : Int := if (n : Int) ≤ left then left - n else -1
theorem int_eq {k : IntKind} {a b : Int} (h : a = b) : Value.int k a = .int k b := by rw [h]
theorem szR_le {n : Nat} {left : Int} (h : (n : Int) ≤ left) : szR n left = left - n := by simp [szR, h]
theorem szR_gt {n : Nat} {left : Int} (h : ¬ (n : Int) ≤ left) : szR n left = -1 := by simp [szR, h]
theorem szL_flat {α : Type} [Sz α] (l : List α) (h : ∀ d : α, Sz.sz d = 0) : Sz.sz l = l.length := by
  have : (l.map Sz.sz).sum = 0 := by
    induction l with
    | nil => rfl
    | cons a l ih => simp [h a, ih]
  show l.length + (l.map Sz.sz).sum = l.length
  omega
theorem sum_take_succ {α : Type} [Sz α] {l : List α} {k : Nat} {d : α} (h : l[k]? = some d) : ((l.take (k + 1)).map Sz.sz).sum = ((l.take k).map Sz.sz).sum + Sz.sz d := by
  rw [List.take_add_one, h]
  simp
theorem sum_take_le {α : Type} [Sz α] (l : List α) (k : Nat) : ((l.take k).map Sz.sz).sum ≤ (l.map Sz.sz).sum := by
  have h := List.take_append_drop k l
  have : (l.map Sz.sz).sum = ((l.take k).map Sz.sz).sum + ((l.drop k).map Sz.sz).sum := by
    rw [← List.sum_append, ← List.map_append, h]
  omega
theorem take_succ_eq {α : Type} {l l' : List α} {k : Nat} {d : α} (h : l.take k = l'.take k) (hd : l[k]? = some d) (hd' : l'[k]? = some d) : l.take (k + 1) = l'.take (k + 1) := by
  rw [List.take_add_one, List.take_add_one, h, hd, hd']
theorem ne_at {α : Type} {l l' : List α} {k : Nat} {d d' : α} (hd : l[k]? = some d) (hd' : l'[k]? = some d') (h : ¬ d = d') : ¬ l = l' := by
  intro e
  rw [e, hd'] at hd
  exact h (Option.some.inj hd).symm
theorem eq_take {α : Type} {l l' : List α} {k : Nat} (h : l.take k = l'.take k) (hl : l.length = k) (hl' : l'.length = k) : l = l' := by
  rwa [List.take_of_length_le (Nat.le_of_eq hl), List.take_of_length_le (Nat.le_of_eq hl')] at h
theorem any_succ {α : Type} {l : List α} {k : Nat} {d : α} {p : α → Bool} (h : (l.take k).any p = false) (hd : l[k]? = some d) (hp : p d = false) : (l.take (k + 1)).any p = false := by
  rw [List.take_add_one, hd]
  simp [h, hp]
theorem any_at {α : Type} {l : List α} {k : Nat} {d : α} {p : α → Bool} (hd : l[k]? = some d) (hp : p d = true) : l.any p = true :=
  List.any_eq_true.2 ⟨d, List.mem_of_getElem? hd, hp⟩
theorem sz_at {α : Type} [Sz α] {l : List α} {k : Nat} {d : α} (h : l[k]? = some d) : Sz.sz d ≤ Sz.sz l := by
  have h1 := sum_take_succ h
  have h2 := sum_take_le l (k + 1)
  have h3 : Sz.sz l = l.length + (l.map Sz.sz).sum := rfl
  omega

theorem callBody {P : Program} {f : FuncId} {fn : Func} (hf : P.funcs[f]? = some fn) (hn : (fn.name == "runtime.NumGoroutine") = false) (hb : fn.body.isNone = false) (args : Array Value) (w : World) :
    (callFunc f args).run P w = .ok (.enter f args) w := by
  have h1 : fn.name ≠ "runtime.NumGoroutine" := by simpa using hn
  have h2 : fn.body ≠ none := by intro e; rw [e] at hb; cases hb
  simp [callFunc, hf, h1, h2]

/-- Where the first is that a function of the program says yes to; -1: none. -/
def findI {α : Type} (p : α → Bool) (l : List α) : Int := if l.any p = true then (l.findIdx p : Int) else -1
theorem findI_no {α : Type} {p : α → Bool} {l : List α} (h : l.any p = false) : findI p l = -1 := by simp [findI, h]
theorem findI_at {α : Type} {p : α → Bool} {l : List α} {k : Nat} {d : α} (h : (l.take k).any p = false) (hd : l[k]? = some d) (hp : p d = true) : findI p l = k := by
  have hk := (List.getElem?_eq_some_iff.1 hd).1
  have hdk : l[k] = d := (List.getElem?_eq_some_iff.1 hd).2
  have : l.findIdx p = k := by
    rw [List.findIdx_eq hk]
    refine ⟨by rw [hdk]; exact hp, fun j hj => ?_⟩
    have h1 : l[j] ∈ l.take k := List.mem_take_iff_getElem.2 ⟨j, by omega, rfl⟩
    have := List.any_eq_false.1 h _ h1
    simpa using this
  simp [findI, any_at hd hp, this]

theorem findI_ge {α : Type} (p : α → Bool) (l : List α) : decide (0 ≤ findI p l) = l.any p := by
  unfold findI
  cases h : l.any p <;> simp
end Go.Proofs.YtlehcnfmagjilaaDoor
