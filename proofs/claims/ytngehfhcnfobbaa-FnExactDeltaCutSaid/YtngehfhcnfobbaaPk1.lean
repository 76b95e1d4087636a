/- Lemmas for it, part 1. No condition. -/
import Derived.WalkKit
import Derived.BigQuiet
import Derived.WalkSpells
import Derived.WalkLawsBesides
import Derived.Deep.RegionHeld3
import Derived.ProofKit
import Derived.OpenShut
import Derived.ShutString
import Derived.ChangeOld
import Derived.Carry
namespace Go.Proofs.Ytngehfhcnfobbaa
open Go Go.RowKit

theorem hidden {p : Prop} (h : p) : Hid p := h
/-- What a call leaves: new blocks behind the old ones, and a count of draws. -/
structure Nx where
  objs : Array Obj
  n : Nat

instance : Nonempty Nx := ⟨⟨#[], 0⟩⟩

/-- w, with new blocks behind, and another count of draws. -/
def ext (w : World) (x : Nx) : World := { w with heap := w.heap ++ x.objs, drawn := x.n }

def Nx.and (x y : Nx) : Nx := ⟨x.objs ++ y.objs, y.n⟩
def Nx.drew (x : Nx) : Nx := ⟨x.objs, x.n + 1⟩

@[simp, go_sem] theorem ext_size (w : World) (x : Nx) : (ext w x).heap.size = w.heap.size + x.objs.size := by simp [ext]
@[simp, go_sem] theorem ext_ext (w : World) (x y : Nx) : ext (ext w x) y = ext w (x.and y) := by simp [ext, Nx.and]
@[simp, go_sem] theorem drew_ext (w : World) (x : Nx) : (ext w x).drew = ext w x.drew := rfl
theorem ext_heap (w : World) (x : Nx) (b : Nat) (h : b < w.heap.size) : (ext w x).heap[b]? = w.heap[b]? := by
  simp [ext, Array.getElem?_append, h]
theorem cell?_ext (w : World) (x : Nx) (a : Addr) (h : a.block < w.heap.size) : (ext w x).cell? a = w.cell? a :=
  World.cell?_of_block (w := w) (ext_heap w x a.block h)
theorem frozen?_ext (w : World) (x : Nx) (a : Addr) (h : a.block < w.heap.size) : (ext w x).frozen? a = w.frozen? a :=
  World.frozen?_of_block (w := w) (ext_heap w x a.block h)
@[simp, go_sem] theorem cell?_ext' (w : World) (x : Nx) (b o : Nat) (h : b < w.heap.size) : (ext w x).cell? ⟨b, o, none⟩ = w.cell? ⟨b, o, none⟩ := cell?_ext w x _ h
@[simp, go_sem] theorem frozen?_ext' (w : World) (x : Nx) (b o : Nat) (h : b < w.heap.size) : (ext w x).frozen? ⟨b, o, none⟩ = w.frozen? ⟨b, o, none⟩ := frozen?_ext w x _ h

@[simp, go_sem] theorem lt_0_1_0 (n : Nat) : n < n + 1 := by omega
@[simp, go_sem] theorem lt_0_1_1 (n s : Nat) : n < n + 1 + s := by omega
@[simp, go_sem] theorem lt_0_1_2 (n s : Nat) : n < n + 1 + s + 1 := by omega
@[simp, go_sem] theorem lt_0_1_3 (n s : Nat) : n < n + 1 + s + 1 + 1 := by omega
@[simp, go_sem] theorem lt_0_1_4 (n s : Nat) : n < n + 1 + s + 1 + 1 + 1 := by omega
@[simp, go_sem] theorem lt_0_1_5 (n s t : Nat) : n < n + 1 + s + t := by omega
@[simp, go_sem] theorem lt_0_1_6 (n s t : Nat) : n < n + 1 + s + 1 + t := by omega
@[simp, go_sem] theorem lt_0_1_7 (n s t : Nat) : n < n + 1 + s + 1 + 1 + t := by omega
@[simp, go_sem] theorem lt_0_1_8 (n s t : Nat) : n < n + 1 + s + 1 + 1 + 1 + t := by omega
@[simp, go_sem] theorem lt_0_2_0 (n : Nat) : n < n + 1 + 1 := by omega
@[simp, go_sem] theorem lt_0_2_1 (n s : Nat) : n < n + 1 + 1 + s := by omega
@[simp, go_sem] theorem lt_0_2_2 (n s : Nat) : n < n + 1 + 1 + s + 1 := by omega
@[simp, go_sem] theorem lt_0_2_3 (n s : Nat) : n < n + 1 + 1 + s + 1 + 1 := by omega
@[simp, go_sem] theorem lt_0_2_4 (n s : Nat) : n < n + 1 + 1 + s + 1 + 1 + 1 := by omega
@[simp, go_sem] theorem lt_0_2_5 (n s t : Nat) : n < n + 1 + 1 + s + t := by omega
@[simp, go_sem] theorem lt_0_2_6 (n s t : Nat) : n < n + 1 + 1 + s + 1 + t := by omega
@[simp, go_sem] theorem lt_0_2_7 (n s t : Nat) : n < n + 1 + 1 + s + 1 + 1 + t := by omega
@[simp, go_sem] theorem lt_0_2_8 (n s t : Nat) : n < n + 1 + 1 + s + 1 + 1 + 1 + t := by omega
@[simp, go_sem] theorem lt_0_3_0 (n : Nat) : n < n + 1 + 1 + 1 := by omega
@[simp, go_sem] theorem lt_0_3_1 (n s : Nat) : n < n + 1 + 1 + 1 + s := by omega
@[simp, go_sem] theorem lt_0_3_2 (n s : Nat) : n < n + 1 + 1 + 1 + s + 1 := by omega
@[simp, go_sem] theorem lt_0_3_3 (n s : Nat) : n < n + 1 + 1 + 1 + s + 1 + 1 := by omega
@[simp, go_sem] theorem lt_0_3_4 (n s : Nat) : n < n + 1 + 1 + 1 + s + 1 + 1 + 1 := by omega
@[simp, go_sem] theorem lt_0_3_5 (n s t : Nat) : n < n + 1 + 1 + 1 + s + t := by omega
@[simp, go_sem] theorem lt_0_3_6 (n s t : Nat) : n < n + 1 + 1 + 1 + s + 1 + t := by omega
@[simp, go_sem] theorem lt_0_3_7 (n s t : Nat) : n < n + 1 + 1 + 1 + s + 1 + 1 + t := by omega
@[simp, go_sem] theorem lt_0_3_8 (n s t : Nat) : n < n + 1 + 1 + 1 + s + 1 + 1 + 1 + t := by omega
@[simp, go_sem] theorem lt_0_4_0 (n : Nat) : n < n + 1 + 1 + 1 + 1 := by omega
@[simp, go_sem] theorem lt_0_4_1 (n s : Nat) : n < n + 1 + 1 + 1 + 1 + s := by omega
@[simp, go_sem] theorem lt_0_4_2 (n s : Nat) : n < n + 1 + 1 + 1 + 1 + s + 1 := by omega
@[simp, go_sem] theorem lt_0_4_3 (n s : Nat) : n < n + 1 + 1 + 1 + 1 + s + 1 + 1 := by omega
@[simp, go_sem] theorem lt_0_4_4 (n s : Nat) : n < n + 1 + 1 + 1 + 1 + s + 1 + 1 + 1 := by omega
@[simp, go_sem] theorem lt_0_4_5 (n s t : Nat) : n < n + 1 + 1 + 1 + 1 + s + t := by omega
@[simp, go_sem] theorem lt_0_4_6 (n s t : Nat) : n < n + 1 + 1 + 1 + 1 + s + 1 + t := by omega
@[simp, go_sem] theorem lt_0_4_7 (n s t : Nat) : n < n + 1 + 1 + 1 + 1 + s + 1 + 1 + t := by omega
@[simp, go_sem] theorem lt_0_4_8 (n s t : Nat) : n < n + 1 + 1 + 1 + 1 + s + 1 + 1 + 1 + t := by omega
@[simp, go_sem] theorem lt_1_2_0 (n : Nat) : n + 1 < n + 1 + 1 := by omega
@[simp, go_sem] theorem lt_1_2_1 (n s : Nat) : n + 1 < n + 1 + 1 + s := by omega
@[simp, go_sem] theorem lt_1_2_2 (n s : Nat) : n + 1 < n + 1 + 1 + s + 1 := by omega
@[simp, go_sem] theorem lt_1_2_3 (n s : Nat) : n + 1 < n + 1 + 1 + s + 1 + 1 := by omega
@[simp, go_sem] theorem lt_1_2_4 (n s : Nat) : n + 1 < n + 1 + 1 + s + 1 + 1 + 1 := by omega
@[simp, go_sem] theorem lt_1_2_5 (n s t : Nat) : n + 1 < n + 1 + 1 + s + t := by omega
@[simp, go_sem] theorem lt_1_2_6 (n s t : Nat) : n + 1 < n + 1 + 1 + s + 1 + t := by omega
@[simp, go_sem] theorem lt_1_2_7 (n s t : Nat) : n + 1 < n + 1 + 1 + s + 1 + 1 + t := by omega
@[simp, go_sem] theorem lt_1_2_8 (n s t : Nat) : n + 1 < n + 1 + 1 + s + 1 + 1 + 1 + t := by omega
@[simp, go_sem] theorem lt_1_3_0 (n : Nat) : n + 1 < n + 1 + 1 + 1 := by omega
@[simp, go_sem] theorem lt_1_3_1 (n s : Nat) : n + 1 < n + 1 + 1 + 1 + s := by omega
@[simp, go_sem] theorem lt_1_3_2 (n s : Nat) : n + 1 < n + 1 + 1 + 1 + s + 1 := by omega
@[simp, go_sem] theorem lt_1_3_3 (n s : Nat) : n + 1 < n + 1 + 1 + 1 + s + 1 + 1 := by omega
@[simp, go_sem] theorem lt_1_3_4 (n s : Nat) : n + 1 < n + 1 + 1 + 1 + s + 1 + 1 + 1 := by omega
@[simp, go_sem] theorem lt_1_3_5 (n s t : Nat) : n + 1 < n + 1 + 1 + 1 + s + t := by omega
@[simp, go_sem] theorem lt_1_3_6 (n s t : Nat) : n + 1 < n + 1 + 1 + 1 + s + 1 + t := by omega
@[simp, go_sem] theorem lt_1_3_7 (n s t : Nat) : n + 1 < n + 1 + 1 + 1 + s + 1 + 1 + t := by omega
@[simp, go_sem] theorem lt_1_3_8 (n s t : Nat) : n + 1 < n + 1 + 1 + 1 + s + 1 + 1 + 1 + t := by omega
@[simp, go_sem] theorem lt_1_4_0 (n : Nat) : n + 1 < n + 1 + 1 + 1 + 1 := by omega
@[simp, go_sem] theorem lt_1_4_1 (n s : Nat) : n + 1 < n + 1 + 1 + 1 + 1 + s := by omega
@[simp, go_sem] theorem lt_1_4_2 (n s : Nat) : n + 1 < n + 1 + 1 + 1 + 1 + s + 1 := by omega
@[simp, go_sem] theorem lt_1_4_3 (n s : Nat) : n + 1 < n + 1 + 1 + 1 + 1 + s + 1 + 1 := by omega
@[simp, go_sem] theorem lt_1_4_4 (n s : Nat) : n + 1 < n + 1 + 1 + 1 + 1 + s + 1 + 1 + 1 := by omega
@[simp, go_sem] theorem lt_1_4_5 (n s t : Nat) : n + 1 < n + 1 + 1 + 1 + 1 + s + t := by omega
@[simp, go_sem] theorem lt_1_4_6 (n s t : Nat) : n + 1 < n + 1 + 1 + 1 + 1 + s + 1 + t := by omega
@[simp, go_sem] theorem lt_1_4_7 (n s t : Nat) : n + 1 < n + 1 + 1 + 1 + 1 + s + 1 + 1 + t := by omega
@[simp, go_sem] theorem lt_1_4_8 (n s t : Nat) : n + 1 < n + 1 + 1 + 1 + 1 + s + 1 + 1 + 1 + t := by omega
@[simp, go_sem] theorem lt_2_3_0 (n : Nat) : n + 1 + 1 < n + 1 + 1 + 1 := by omega
@[simp, go_sem] theorem lt_2_3_1 (n s : Nat) : n + 1 + 1 < n + 1 + 1 + 1 + s := by omega
@[simp, go_sem] theorem lt_2_3_2 (n s : Nat) : n + 1 + 1 < n + 1 + 1 + 1 + s + 1 := by omega
@[simp, go_sem] theorem lt_2_3_3 (n s : Nat) : n + 1 + 1 < n + 1 + 1 + 1 + s + 1 + 1 := by omega
@[simp, go_sem] theorem lt_2_3_4 (n s : Nat) : n + 1 + 1 < n + 1 + 1 + 1 + s + 1 + 1 + 1 := by omega
@[simp, go_sem] theorem lt_2_3_5 (n s t : Nat) : n + 1 + 1 < n + 1 + 1 + 1 + s + t := by omega
@[simp, go_sem] theorem lt_2_3_6 (n s t : Nat) : n + 1 + 1 < n + 1 + 1 + 1 + s + 1 + t := by omega
@[simp, go_sem] theorem lt_2_3_7 (n s t : Nat) : n + 1 + 1 < n + 1 + 1 + 1 + s + 1 + 1 + t := by omega
@[simp, go_sem] theorem lt_2_3_8 (n s t : Nat) : n + 1 + 1 < n + 1 + 1 + 1 + s + 1 + 1 + 1 + t := by omega
@[simp, go_sem] theorem lt_2_4_0 (n : Nat) : n + 1 + 1 < n + 1 + 1 + 1 + 1 := by omega
@[simp, go_sem] theorem lt_2_4_1 (n s : Nat) : n + 1 + 1 < n + 1 + 1 + 1 + 1 + s := by omega
@[simp, go_sem] theorem lt_2_4_2 (n s : Nat) : n + 1 + 1 < n + 1 + 1 + 1 + 1 + s + 1 := by omega
@[simp, go_sem] theorem lt_2_4_3 (n s : Nat) : n + 1 + 1 < n + 1 + 1 + 1 + 1 + s + 1 + 1 := by omega
@[simp, go_sem] theorem lt_2_4_4 (n s : Nat) : n + 1 + 1 < n + 1 + 1 + 1 + 1 + s + 1 + 1 + 1 := by omega
@[simp, go_sem] theorem lt_2_4_5 (n s t : Nat) : n + 1 + 1 < n + 1 + 1 + 1 + 1 + s + t := by omega
@[simp, go_sem] theorem lt_2_4_6 (n s t : Nat) : n + 1 + 1 < n + 1 + 1 + 1 + 1 + s + 1 + t := by omega
@[simp, go_sem] theorem lt_2_4_7 (n s t : Nat) : n + 1 + 1 < n + 1 + 1 + 1 + 1 + s + 1 + 1 + t := by omega
@[simp, go_sem] theorem lt_2_4_8 (n s t : Nat) : n + 1 + 1 < n + 1 + 1 + 1 + 1 + s + 1 + 1 + 1 + t := by omega
@[simp, go_sem] theorem lt_3_4_0 (n : Nat) : n + 1 + 1 + 1 < n + 1 + 1 + 1 + 1 := by omega
@[simp, go_sem] theorem lt_3_4_1 (n s : Nat) : n + 1 + 1 + 1 < n + 1 + 1 + 1 + 1 + s := by omega
@[simp, go_sem] theorem lt_3_4_2 (n s : Nat) : n + 1 + 1 + 1 < n + 1 + 1 + 1 + 1 + s + 1 := by omega
@[simp, go_sem] theorem lt_3_4_3 (n s : Nat) : n + 1 + 1 + 1 < n + 1 + 1 + 1 + 1 + s + 1 + 1 := by omega
@[simp, go_sem] theorem lt_3_4_4 (n s : Nat) : n + 1 + 1 + 1 < n + 1 + 1 + 1 + 1 + s + 1 + 1 + 1 := by omega
@[simp, go_sem] theorem lt_3_4_5 (n s t : Nat) : n + 1 + 1 + 1 < n + 1 + 1 + 1 + 1 + s + t := by omega
@[simp, go_sem] theorem lt_3_4_6 (n s t : Nat) : n + 1 + 1 + 1 < n + 1 + 1 + 1 + 1 + s + 1 + t := by omega
@[simp, go_sem] theorem lt_3_4_7 (n s t : Nat) : n + 1 + 1 + 1 < n + 1 + 1 + 1 + 1 + s + 1 + 1 + t := by omega
@[simp, go_sem] theorem lt_3_4_8 (n s t : Nat) : n + 1 + 1 + 1 < n + 1 + 1 + 1 + 1 + s + 1 + 1 + 1 + t := by omega
@[simp, go_sem] theorem lt_add_r {a b c : Nat} (h : a < b) : a < b + c := by omega
@[simp, go_sem] theorem le_add_r {a b c : Nat} (h : a ≤ b) : a ≤ b + c := by omega

/-- The one is the other with new blocks behind. -/
def Ext (w w' : World) : Prop := ∃ x, w' = ext w x

theorem Ext.below {w w' : World} (h : Ext w w') : Below w.heap.size w w' := by
  obtain ⟨x, rfl⟩ := h
  exact ⟨rfl, rfl, rfl, by simp, fun k hk => ext_heap w x k hk⟩
theorem Ext.of {w w' : World} (h : Below w.heap.size w w') : Ext w w' := by
  obtain ⟨h1, h2, h3, h4, h5⟩ := h
  refine ⟨⟨w'.heap.extract w.heap.size w'.heap.size, w'.drawn⟩, ?_⟩
  have hh : w'.heap = w.heap ++ w'.heap.extract w.heap.size w'.heap.size := by
    apply Array.ext_getElem?
    intro i
    rw [Array.getElem?_append]
    split
    · rename_i h; exact h5 i h
    · rename_i h
      rw [Array.getElem?_extract]
      split
      · congr 1; omega
      · rw [Array.getElem?_eq_none (by omega)]
  cases w'; cases w
  simp only [ext] at *
  subst h1 h2 h3
  rw [← hh]
theorem Ext.refl (w : World) : Ext w w := ⟨⟨#[], w.drawn⟩, by simp [ext]⟩
theorem Ext.trans {a b c : World} (h : Ext a b) (k : Ext b c) : Ext a c := by
  obtain ⟨x, rfl⟩ := h
  obtain ⟨y, rfl⟩ := k
  exact ⟨_, ext_ext a x y⟩
theorem Ext.drew {a b : World} (h : Ext a b) : Ext a b.drew := h.trans ⟨⟨#[], b.drawn + 1⟩, by simp [Go.Proofs.Ytngehfhcnfobbaa.ext]⟩
theorem Ext.drewN {a b : World} (h : Ext a b) (n : Nat) : Ext a (b.drewN n) := h.trans ⟨⟨#[], b.drawn + n⟩, by simp [Go.Proofs.Ytngehfhcnfobbaa.ext]; rfl⟩
theorem Ext.alloc {a b : World} (h : Ext a b) (o : Obj) : Ext a (b.alloc o) := h.trans ⟨⟨#[o], b.drawn⟩, by unfold Go.Proofs.Ytngehfhcnfobbaa.ext World.alloc; simp⟩
theorem Ext.ext {a b : World} (h : Ext a b) (x : Nx) : Ext a (ext b x) := h.trans ⟨x, rfl⟩
theorem Ext.and {a W : World} {x y : Nx} (h : Ext a (Go.Proofs.Ytngehfhcnfobbaa.ext W x)) : Ext a (Go.Proofs.Ytngehfhcnfobbaa.ext W (x.and y)) := h.trans ⟨y, (ext_ext W x y).symm⟩
theorem Ext.drewx {a W : World} {x : Nx} (h : Ext a (Go.Proofs.Ytngehfhcnfobbaa.ext W x)) : Ext a (Go.Proofs.Ytngehfhcnfobbaa.ext W x.drew) := h.drew
theorem Ext.size {a b : World} (h : Ext a b) : a.heap.size ≤ b.heap.size := h.below.size
theorem Ext.setCell {a b : World} (h : Ext a b) {p : Addr} (hp : a.heap.size ≤ p.block) (v : Value) : Ext a (b.setCell p v) := Ext.of (h.below.setCell hp v)

section
variable {P : Program}

theorem Calls.ext_of {f : FuncId} {args : Array Value} {W w : World} {v : Value} (hw : Ext W w) (h : Calls P f args w fun e w' => e = .returned v ∧ Ext w w') :
    Calls P f args w fun e w'' => e = .returned v ∧ ∃ x, w'' = Go.Proofs.Ytngehfhcnfobbaa.ext W x :=
  h.mono fun _ _ ⟨he, hm⟩ => ⟨he, hw.trans hm⟩

/-- At a call inside such a region: the contract, in whatever world of the class. -/
theorem Calls.q {f : FuncId} {args : Array Value} {W : World} {x : Nx} {v : Value} (h : Calls P f args (ext W x) fun e w' => e = .returned v ∧ Ext (ext W x) w') :
    Calls P f args (ext W x) fun e w'' => e = .returned v ∧ ∃ y, w'' = ext W y :=
  Calls.ext_of ⟨x, rfl⟩ h

theorem Calls.qb {f : FuncId} {args : Array Value} {W : World} {x : Nx} {b c : Bool} (hb : b = c) (h : Calls P f args (ext W x) fun e w' => e = .returned (.bool b) ∧ Ext (ext W x) w') :
    Calls P f args (ext W x) fun e w'' => e = .returned (.bool c) ∧ ∃ y, w'' = ext W y := hb ▸ Calls.q h

/-- A region that draws its order, whose own operations only read, and whose callees leave nothing but new blocks: one walk in the order of the text. -/
theorem wp_region_q {id : Nat} {Q : Exit → Act → World → Prop} {a : Act} {w : World} {l : List Oper} (hm : P.follows .mixedOrders = true) (hB : Region.lexB .any l.toArray = true)
    (h : wpQuiet P l.toArray (fun w' => ∃ x, w' = ext w x) (fun a' => ∀ x, Q .normal a' (ext w x)) l a) : (Code.region id l.toArray true).wp P Q a w := by
  refine wp_region_quiet (C := fun w' => ∃ x, w' = ext w x) hm hB (Ext.refl w).drew ?_
  have e : (fun a' => ∀ w', (∃ x, w' = ext w x) → Q .normal a' w') = (fun a' => ∀ x, Q .normal a' (ext w x)) := by
    funext a'
    apply propext
    exact ⟨fun h x => h _ ⟨x, rfl⟩, fun h w' ⟨x, hx⟩ => hx ▸ h x⟩
  rw [e]
  simpa using h
theorem wp_region_qe {id : Nat} {Q : Exit → Act → World → Prop} {a : Act} {W : World} {z : Nx} {l : List Oper} (hm : P.follows .mixedOrders = true) (hB : Region.lexB .any l.toArray = true)
    (h : wpQuiet P l.toArray (fun w' => ∃ x, w' = ext W x) (fun a' => ∀ x, Q .normal a' (ext W x)) l a) : (Code.region id l.toArray true).wp P Q a (ext W z) := by
  refine wp_region_quiet (C := fun w' => ∃ x, w' = ext W x) hm hB ⟨z.drew, rfl⟩ ?_
  have e : (fun a' => ∀ w', (∃ x, w' = ext W x) → Q .normal a' w') = (fun a' => ∀ x, Q .normal a' (ext W x)) := by
    funext a'
    apply propext
    exact ⟨fun h x => h _ ⟨x, rfl⟩, fun h w' ⟨x, hx⟩ => hx ▸ h x⟩
  rw [e]
  simpa using h

/-- A guard that is not decided: both ways. -/
theorem wpQuiet_split {ops : Array Oper} {C : World → Prop} {Q : Act → Prop} {a : Act} {o o2 : Oper} {rest : List Oper} {j d : Nat} {want b : Bool} (_hg : o.guard = some (j, want)) (_hj : ops[j]? = some o2) (_hd : o2.dst = some d) (_hv : a.tmps[d]? = some (.bool b))
    (h1 : b = true → wpQuiet P ops C Q (o :: rest) a) (h2 : b = false → wpQuiet P ops C Q (o :: rest) a) : wpQuiet P ops C Q (o :: rest) a := by
  cases b
  · exact h2 rfl
  · exact h1 rfl
end

end Go.Proofs.Ytngehfhcnfobbaa
namespace Go.Proofs.Ytngehfhcnfobbaa
open Go Go.RowKit Go.ChangeShapes Go.WideShapes

/-- Cells that read as a plain value. -/
class Lay (α : Type) where
  n : Nat
  rd : World → List Value → α → Prop
  stays : ∀ {w w' : World} {cs : List Value} {d : α}, rd w cs d → Below w.heap.size w w' → rd w' cs d

/-- The number fits an int. -/
def I64 (n : Int) : Prop := (Lit.int .i64 n).wf = true
theorem I64.bd {n : Int} (h : I64 n) : -9223372036854775808 ≤ n ∧ n ≤ 9223372036854775807 := by
  have := bounds_i64 h
  omega

instance layInt : Lay Int := ⟨1, fun _ cs d => cs = [.int .i64 d] ∧ I64 d, fun h _ => h⟩
instance layBool : Lay Bool := ⟨1, fun _ cs d => cs = [.bool d], fun h _ => h⟩

/-- A byte. -/
structure U8 where
  v : Int
instance layU8 : Lay U8 := ⟨1, fun _ cs d => cs = [.int .u8 d.v] ∧ (Lit.int .u8 d.v).wf = true, fun h _ => h⟩

/-- A slice that reads as a list. -/
def SlRd {α : Type} [Lay α] (w : World) (a : Option Addr) (len cap : Nat) (l : List α) : Prop :=
  l.length = len ∧ len ≤ cap ∧ cap ≤ maxLen ∧ (a = none → cap = 0) ∧
    ∀ (i : Nat) (d : α), l[i]? = some d → ∃ b off cs, a = some ⟨b, off, none⟩ ∧ cs.length = Lay.n α ∧
      (∀ (j : Nat) (u : Value), cs[j]? = some u → w.cell? ⟨b, off + i * Lay.n α + j, none⟩ = some u) ∧ Lay.rd w cs d

theorem cell_lt {w : World} {a : Addr} {v : Value} (h : w.cell? a = some v) : a.block < w.heap.size := by
  rcases Nat.lt_or_ge a.block w.heap.size with h' | h'
  · exact h'
  · simp [World.cell?, Array.getElem?_eq_none h'] at h

theorem SlRd.stays {α : Type} [Lay α] {w w' : World} {a : Option Addr} {len cap : Nat} {l : List α} (h : SlRd w a len cap l) (hb : Below w.heap.size w w') : SlRd w' a len cap l := by
  obtain ⟨h1, h2, h3, h4, h5⟩ := h
  refine ⟨h1, h2, h3, h4, fun i d hi => ?_⟩
  obtain ⟨b, off, cs, r1, r2, r3, r4⟩ := h5 i d hi
  exact ⟨b, off, cs, r1, r2, fun j u hu => by rw [hb.cell (p := ⟨b, _, none⟩) (cell_lt (r3 j u hu))]; exact r3 j u hu, Lay.stays r4 hb⟩

instance layList {α : Type} [Lay α] : Lay (List α) :=
  ⟨1, fun w cs l => ∃ a len cap, cs = [.slice a len cap] ∧ SlRd w a len cap l, fun ⟨a, len, cap, h, k⟩ hb => ⟨a, len, cap, h, k.stays hb⟩⟩

/-- Whatever the form reads at type t, reads as a value of α. -/
def Opens (P : Program) (t : TypeId) (α : Type) [Lay α] : Prop :=
  P.cellsOf t = Lay.n α ∧
  ∀ {H : Type} {enc : TypeId × Value → H} {w : World} {base : Nat} {fuel : Nat} {cs : List Value} {x : DataW H × List MemPlace},
    DataW.trod enc P w base (fun _ => true) true fuel t cs = some x → cs.length = Lay.n α ∧ ∃ d : α, Lay.rd w cs d

section
variable {P : Program}
theorem opens_int {t : TypeId} (ht : P.underlying t = some (.int .i64)) (hc : P.cellsOf t = 1) : Opens P t Int :=
  ⟨hc, fun h => by obtain ⟨n, rfl, _, hw⟩ := DataW.trod_int ht h; exact ⟨rfl, n, rfl, hw⟩⟩
theorem opens_u8 {t : TypeId} (ht : P.underlying t = some (.int .u8)) (hc : P.cellsOf t = 1) : Opens P t U8 :=
  ⟨hc, fun h => by obtain ⟨n, rfl, _, hw⟩ := DataW.trod_int ht h; exact ⟨rfl, ⟨n⟩, rfl, hw⟩⟩
theorem opens_bool {t : TypeId} (ht : P.underlying t = some .bool) (hc : P.cellsOf t = 1) : Opens P t Bool :=
  ⟨hc, fun h => by obtain ⟨n, rfl, _⟩ := DataW.trod_bool ht h; exact ⟨rfl, n, rfl⟩⟩

theorem choose_list {α : Type} {len : Nat} {R : Nat → α → Prop} (h : ∀ i, i < len → ∃ d, R i d) : ∃ l : List α, l.length = len ∧ ∀ i d, l[i]? = some d → R i d := by
  induction len with
  | zero => exact ⟨[], rfl, fun i d hi => by simp at hi⟩
  | succ n ih =>
    obtain ⟨l, hl, hr⟩ := ih fun i hi => h i (by omega)
    obtain ⟨d, hd⟩ := h n (by omega)
    refine ⟨l ++ [d], by simp [hl], fun i d' hi => ?_⟩
    rw [List.getElem?_append] at hi
    split at hi
    · exact hr i d' hi
    · rename_i hi'
      have h1 := (List.getElem?_eq_some_iff.1 hi).1
      simp at h1
      have : i = n := by omega
      subst this
      have : d' = d := by simpa [hl] using hi.symm
      exact this ▸ hd

theorem opens_slice {t e : TypeId} {α : Type} [Lay α] (ht : P.underlying t = some (.slice e)) (hc : P.cellsOf t = 1) (hn : 0 < Lay.n α) (ho : Opens P e α) : Opens P t (List α) := by
  refine ⟨hc, fun {H enc w base fuel cs x} h => ?_⟩
  rcases DataW.trod_slice ht h with ⟨rfl, _⟩ | ⟨a, len, cap, elems, rest, n, rfl, rfl, hx, hb, hl, hm, hle, hel, _⟩
  · exact ⟨rfl, [], none, 0, 0, rfl, rfl, Nat.le_refl _, by unfold maxLen; omega, fun _ => rfl, fun i d hi => by simp at hi⟩
  · refine ⟨rfl, ?_⟩
    have el : ∀ i, i < len → ∃ cs d, cs.length = Lay.n α ∧ (∀ (j : Nat) (u : Value), cs[j]? = some u → w.cell? ((a.add (i * Lay.n α)).add j) = some u) ∧ Lay.rd w cs (d : α) := by
      intro i hi
      have h1 := hel i hi
      rw [List.getElem?_eq_getElem (by omega)] at h1
      obtain ⟨cs, hcs, htr⟩ := Option.bind_eq_some_iff.1 h1
      obtain ⟨_, hlen, hcell⟩ := World.cells?_some hcs
      obtain ⟨hcn, d, hd⟩ := ho.2 htr
      refine ⟨cs, d, hcn, fun j u hu => ?_, hd⟩
      rw [← ho.1, hcell j (by have := (List.getElem?_eq_some_iff.1 hu).1; omega)]
      exact hu
    have hs : 0 < len → a.spot = none := by
      intro h0
      obtain ⟨cs, d, hcn, hcell, _⟩ := el 0 h0
      have hj : cs[0]? = some cs[0] := List.getElem?_eq_getElem (by omega)
      have := World.cell?_spot (hcell 0 _ hj)
      simpa [Addr.add] using this
    have key : ∀ i, i < len → ∃ d : α, ∃ b off cs, some a = some ⟨b, off, none⟩ ∧ cs.length = Lay.n α ∧
        (∀ (j : Nat) (u : Value), cs[j]? = some u → w.cell? ⟨b, off + i * Lay.n α + j, none⟩ = some u) ∧ Lay.rd w cs d := by
      intro i hi
      obtain ⟨cs, d, hcn, hcell, hd⟩ := el i hi
      have hs' := hs (by omega)
      obtain ⟨b, off, spot⟩ := a
      simp only at hs'
      subst hs'
      refine ⟨d, b, off, cs, rfl, hcn, fun j u hu => ?_, hd⟩
      have := hcell j u hu
      rwa [Addr.add_lit, Addr.add_lit] at this
    obtain ⟨l, hll, hr⟩ := choose_list key
    exact ⟨l, some a, len, cap, rfl, hll, hl, hm, (fun h => (by simp at h)), hr⟩

theorem open_str {H : Type} {enc : TypeId × Value → H} {w : World} {base : Nat} {t : TypeId} {s : ByteArray} {d : DataW H} {ps : List MemPlace}
    (ht : P.underlying t = some .string) (hd : DataW.Trod enc P w base (fun _ => true) true t (.string s) d ps) : s.size ≤ maxLen := by
  obtain ⟨fuel, hf⟩ := hd
  obtain ⟨s', e, _, h⟩ := DataW.trod_string ht hf
  have e' : s = s' := by simpa [Value.cells] using e
  exact e' ▸ h
/-- An argument that is one cell. -/
theorem open_cell {H : Type} {enc : TypeId × Value → H} {w : World} {base : Nat} {t : TypeId} {v : Value} {d : DataW H} {ps : List MemPlace} {α : Type} [Lay α]
    (ho : Opens P t α) (hval : v.cells.toList = [v]) (hd : DataW.Trod enc P w base (fun _ => true) true t v d ps) : ∃ x : α, Lay.rd w [v] x := by
  obtain ⟨fuel, hf⟩ := hd
  rw [hval] at hf
  exact (ho.2 hf).2
/-- An argument that is a struct. -/
theorem open_agg {H : Type} {enc : TypeId × Value → H} {w : World} {base : Nat} {t : TypeId} {cs : Array Value} {d : DataW H} {ps : List MemPlace} {α : Type} [Lay α]
    (ho : Opens P t α) (hd : DataW.Trod enc P w base (fun _ => true) true t (.agg cs) d ps) : ∃ x : α, Lay.rd w cs.toList x := by
  obtain ⟨fuel, hf⟩ := hd
  exact (ho.2 hf).2

end
end Go.Proofs.Ytngehfhcnfobbaa
namespace Go.Proofs.Ytngehfhcnfobbaa
open Go Go.RowKit

structure Rg where
  f : Int
  b : Int
instance layRg : Lay Rg := ⟨2, fun _ cs d => cs = [.int .i64 d.f, .int .i64 d.b] ∧ I64 d.f ∧ I64 d.b,
  fun h _ => h⟩
structure Cl where
  cif : Int
  n : Int
  r : Rg
  refuse : Bool
  like : Int
  mark : Int
  clear : Int
instance layCl : Lay Cl := ⟨8, fun _ cs d => cs = [.int .i64 d.cif, .int .i64 d.n, .int .i64 d.r.f, .int .i64 d.r.b, .bool d.refuse, .int .i64 d.like, .int .i64 d.mark, .int .i64 d.clear] ∧ I64 d.cif ∧ I64 d.n ∧ I64 d.r.f ∧ I64 d.r.b ∧ I64 d.like ∧ I64 d.mark ∧ I64 d.clear,
  fun h _ => h⟩
structure Rt where
  r : Rg
  path : (List Int)
  like : Int
  marks : (List Int)
instance layRt : Lay Rt := ⟨5, fun w cs d => ∃ a_path, ∃ n_path, ∃ c_path, ∃ a_marks, ∃ n_marks, ∃ c_marks, cs = [.int .i64 d.r.f, .int .i64 d.r.b, .slice a_path n_path c_path, .int .i64 d.like, .slice a_marks n_marks c_marks] ∧ I64 d.r.f ∧ I64 d.r.b ∧ SlRd w a_path n_path c_path d.path ∧ I64 d.like ∧ SlRd w a_marks n_marks c_marks d.marks,
  fun ⟨a_path, n_path, c_path, a_marks, n_marks, c_marks, e, h0, h1, h2, h3, h4⟩ hb => ⟨a_path, n_path, c_path, a_marks, n_marks, c_marks, e, h0, h1, SlRd.stays h2 hb, h3, SlRd.stays h4 hb⟩⟩
structure Hd where
  house : Int
  r : Rg
instance layHd : Lay Hd := ⟨3, fun _ cs d => cs = [.int .i64 d.house, .int .i64 d.r.f, .int .i64 d.r.b] ∧ I64 d.house ∧ I64 d.r.f ∧ I64 d.r.b,
  fun h _ => h⟩
structure Se where
  sby : Int
  to : Int
  r : Rg
  path : (List Int)
instance laySe : Lay Se := ⟨5, fun w cs d => ∃ a_path, ∃ n_path, ∃ c_path, cs = [.int .i64 d.sby, .int .i64 d.to, .int .i64 d.r.f, .int .i64 d.r.b, .slice a_path n_path c_path] ∧ I64 d.sby ∧ I64 d.to ∧ I64 d.r.f ∧ I64 d.r.b ∧ SlRd w a_path n_path c_path d.path,
  fun ⟨a_path, n_path, c_path, e, h0, h1, h2, h3, h4⟩ hb => ⟨a_path, n_path, c_path, e, h0, h1, h2, h3, SlRd.stays h4 hb⟩⟩
structure Gt where
  route : Rt
  old : Bool
instance layGt : Lay Gt := ⟨6, fun w cs d => ∃ a_route_path, ∃ n_route_path, ∃ c_route_path, ∃ a_route_marks, ∃ n_route_marks, ∃ c_route_marks, cs = [.int .i64 d.route.r.f, .int .i64 d.route.r.b, .slice a_route_path n_route_path c_route_path, .int .i64 d.route.like, .slice a_route_marks n_route_marks c_route_marks, .bool d.old] ∧ I64 d.route.r.f ∧ I64 d.route.r.b ∧ SlRd w a_route_path n_route_path c_route_path d.route.path ∧ I64 d.route.like ∧ SlRd w a_route_marks n_route_marks c_route_marks d.route.marks,
  fun ⟨a_route_path, n_route_path, c_route_path, a_route_marks, n_route_marks, c_route_marks, e, h0, h1, h2, h3, h4⟩ hb => ⟨a_route_path, n_route_path, c_route_path, a_route_marks, n_route_marks, c_route_marks, e, h0, h1, SlRd.stays h2 hb, h3, SlRd.stays h4 hb⟩⟩
structure Rb where
  house : Int
  up : Bool
  all : (List Gt)
instance layRb : Lay Rb := ⟨3, fun w cs d => ∃ a_all, ∃ n_all, ∃ c_all, cs = [.int .i64 d.house, .bool d.up, .slice a_all n_all c_all] ∧ I64 d.house ∧ SlRd w a_all n_all c_all d.all,
  fun ⟨a_all, n_all, c_all, e, h0, h1⟩ hb => ⟨a_all, n_all, c_all, e, h0, SlRd.stays h1 hb⟩⟩
structure Dl where
  drop : (List Rg)
  tell : (List Rt)
instance layDl : Lay Dl := ⟨2, fun w cs d => ∃ a_drop, ∃ n_drop, ∃ c_drop, ∃ a_tell, ∃ n_tell, ∃ c_tell, cs = [.slice a_drop n_drop c_drop, .slice a_tell n_tell c_tell] ∧ SlRd w a_drop n_drop c_drop d.drop ∧ SlRd w a_tell n_tell c_tell d.tell,
  fun ⟨a_drop, n_drop, c_drop, a_tell, n_tell, c_tell, e, h0, h1⟩ hb => ⟨a_drop, n_drop, c_drop, a_tell, n_tell, c_tell, e, SlRd.stays h0 hb, SlRd.stays h1 hb⟩⟩
structure En where
  r : Rg
  via : Int
instance layEn : Lay En := ⟨3, fun _ cs d => cs = [.int .i64 d.r.f, .int .i64 d.r.b, .int .i64 d.via] ∧ I64 d.r.f ∧ I64 d.r.b ∧ I64 d.via,
  fun h _ => h⟩

end Go.Proofs.Ytngehfhcnfobbaa
namespace Go.Proofs.Ytngehfhcnfobbaa
open Go Go.RowKit

/-- Block b holds just these cells, and none is shared with a string. -/
def Blk (w : World) (b : Nat) (e : TypeId) (cs : List Value) : Prop := w.heap[b]? = some (.cells cs.toArray e (0, 0))

section
variable {w : World} {b : Nat} {e : TypeId} {cs : List Value}
theorem Blk.cell? (h : Blk w b e cs) (j : Nat) : w.cell? ⟨b, j, none⟩ = cs[j]? := by
  unfold Blk at h
  simp [World.cell?, h]
theorem Blk.cell (h : Blk w b e cs) {j : Nat} {u : Value} (hu : cs[j]? = some u) : w.cell? ⟨b, j, none⟩ = some u := (h.cell? j).trans hu
theorem Blk.frozen (h : Blk w b e cs) (j : Nat) : w.frozen? ⟨b, j, none⟩ = false := by
  unfold Blk at h
  simp [World.frozen?, h]
theorem Blk.get (h : Blk w b e cs) {j : Nat} (hj : j < cs.length) : ∃ z, w.cell? ⟨b, j, none⟩ = some z := ⟨_, h.cell (List.getElem?_eq_getElem hj)⟩
theorem Blk.lt (h : Blk w b e cs) : b < w.heap.size := by
  unfold Blk at h
  exact (Array.getElem?_eq_some_iff.1 h).1
theorem Blk.of_heap {w' : World} (h : Blk w b e cs) (k : w'.heap[b]? = w.heap[b]?) : Blk w' b e cs := k.trans h
theorem Blk.ext (h : Blk w b e cs) (x : Nx) : Blk (Go.Proofs.Ytngehfhcnfobbaa.ext w x) b e cs := h.of_heap (ext_heap w x b h.lt)
theorem Blk.alloc (h : Blk w b e cs) (o : Obj) : Blk (w.alloc o) b e cs := h.of_heap (Below.heap_alloc w o b h.lt)
theorem Blk.drew (h : Blk w b e cs) : Blk w.drew b e cs := h
theorem Blk.setOther (h : Blk w b e cs) {a : Addr} (u : Value) (hne : b ≠ a.block) : Blk (w.setCell a u) b e cs := h.of_heap (Below.heap_setCell w a u b hne)
theorem Blk.set (h : Blk w b e cs) (j : Nat) (u : Value) : Blk (w.setCell ⟨b, j, none⟩ u) b e (cs.set j u) := by
  unfold Blk at *
  simp only [World.setCell, Array.getElem?_modify, if_true, h]
  simp
theorem Blk.new (w : World) (C : Array Value) (e : TypeId) : Blk (w.alloc (.cells C e)) w.heap.size e C.toList := by
  unfold Blk
  show (w.heap.push _)[w.heap.size]? = _
  simp
theorem Blk.below {w' : World} (h : Blk w b e cs) (hb : Below w.heap.size w w') : Blk w' b e cs := h.of_heap (hb.block b h.lt)
theorem Blk.extends {w' : World} (h : Blk w b e cs) (hb : Ext w w') : Blk w' b e cs := h.below hb.below
end

end Go.Proofs.Ytngehfhcnfobbaa
namespace Go.Proofs.Ytngehfhcnfobbaa
open Go Go.RowKit

/-- ys stands at element i of a row of elements of n cells. -/
def Elt (cs : List Value) (n i : Nat) (ys : List Value) : Prop := ∀ (t : Nat) (u : Value), ys[t]? = some u → cs[i * n + t]? = some u

/-- Writing ys from place o on. -/
def setL : List Value → Nat → List Value → List Value
  | cs, _, [] => cs
  | cs, o, y :: ys => setL (cs.set o y) (o + 1) ys
def setW : World → Nat → Nat → List Value → World
  | w, _, _, [] => w
  | w, b, o, y :: ys => setW (w.setCell ⟨b, o, none⟩ y) b (o + 1) ys

theorem length_setL (ys : List Value) : ∀ (cs : List Value) (o : Nat), (setL cs o ys).length = cs.length := by
  induction ys with
  | nil => intro cs o; rfl
  | cons y ys ih => intro cs o; simp [setL, ih]
theorem setL_lt (ys : List Value) : ∀ (cs : List Value) (o j : Nat), j < o → (setL cs o ys)[j]? = cs[j]? := by
  induction ys with
  | nil => intro cs o j _; rfl
  | cons y ys ih =>
    intro cs o j h
    rw [setL, ih _ _ _ (by omega), List.getElem?_set_ne (by omega)]
theorem setL_ge (ys : List Value) : ∀ (cs : List Value) (o j : Nat), o + ys.length ≤ j → (setL cs o ys)[j]? = cs[j]? := by
  induction ys with
  | nil => intro cs o j _; rfl
  | cons y ys ih =>
    intro cs o j h
    simp only [List.length_cons] at h
    rw [setL, ih _ _ _ (by omega), List.getElem?_set_ne (by omega)]
theorem setL_at (ys : List Value) : ∀ (cs : List Value) (o t : Nat), o + ys.length ≤ cs.length → t < ys.length → (setL cs o ys)[o + t]? = ys[t]? := by
  induction ys with
  | nil => intro cs o t _ h; exact absurd h (Nat.not_lt_zero _)
  | cons y ys ih =>
    intro cs o t h ht
    simp only [List.length_cons] at h ht
    cases t with
    | zero => rw [setL, setL_lt _ _ _ _ (by omega), Nat.add_zero, List.getElem?_set_self (by omega)]; rfl
    | succ t =>
      rw [setL, show o + (t + 1) = (o + 1) + t by omega, ih _ _ _ (by simp; omega) (by omega)]
      rfl
theorem Blk.setW {b : Nat} {e : TypeId} (ys : List Value) : ∀ {w : World} {cs : List Value} (o : Nat), Blk w b e cs → Blk (Go.Proofs.Ytngehfhcnfobbaa.setW w b o ys) b e (setL cs o ys) := by
  induction ys with
  | nil => intro w cs o h; exact h
  | cons y ys ih => intro w cs o h; exact ih (o + 1) (h.set o y)
theorem Ext.setW {a : World} {b : Nat} (hb : a.heap.size ≤ b) (ys : List Value) : ∀ {w : World} (o : Nat), Ext a w → Ext a (Go.Proofs.Ytngehfhcnfobbaa.setW w b o ys) := by
  induction ys with
  | nil => intro w o h; exact h
  | cons y ys ih => intro w o h; exact ih (o + 1) (h.setCell hb y)
theorem heap_setW {b : Nat} (ys : List Value) : ∀ {w : World} (o k : Nat), k ≠ b → (Go.Proofs.Ytngehfhcnfobbaa.setW w b o ys).heap[k]? = w.heap[k]? := by
  induction ys with
  | nil => intro w o k _; rfl
  | cons y ys ih => intro w o k h; rw [Go.Proofs.Ytngehfhcnfobbaa.setW, ih _ _ h, Below.heap_setCell _ _ _ _ h]
theorem size_setW {b : Nat} (ys : List Value) : ∀ {w : World} (o : Nat), (Go.Proofs.Ytngehfhcnfobbaa.setW w b o ys).heap.size = w.heap.size := by
  induction ys with
  | nil => intro w o; rfl
  | cons y ys ih => intro w o; rw [Go.Proofs.Ytngehfhcnfobbaa.setW, ih]; simp [World.setCell]

theorem Elt.set_self {cs ys : List Value} {n k : Nat} (hy : ys.length = n) (h : k * n + n ≤ cs.length) : Elt (setL cs (k * n) ys) n k ys := by
  intro t u hu
  have ht : t < ys.length := (List.getElem?_eq_some_iff.1 hu).1
  rw [setL_at ys cs (k * n) t (by omega) ht]
  exact hu
theorem Elt.set_other {cs ys zs : List Value} {n k j : Nat} (hy : ys.length = n) (hz : zs.length = n) (h : Elt cs n j zs) (hne : j ≠ k) : Elt (setL cs (k * n) ys) n j zs := by
  intro t u hu
  have ht : t < zs.length := (List.getElem?_eq_some_iff.1 hu).1
  rcases Nat.lt_or_gt_of_ne hne with hlt | hgt
  · have : j * n + n ≤ k * n := by
      have := Nat.mul_le_mul_right n (show j + 1 ≤ k from hlt)
      rwa [Nat.add_mul, Nat.one_mul] at this
    rw [setL_lt _ _ _ _ (by omega)]
    exact h t u hu
  · have : k * n + n ≤ j * n := by
      have := Nat.mul_le_mul_right n (show k + 1 ≤ j from hgt)
      rwa [Nat.add_mul, Nat.one_mul] at this
    rw [setL_ge _ _ _ _ (by omega)]
    exact h t u hu

/-- Data of the call's own: the blocks that it lies in. -/
class Ow (α : Type) [Lay α] where
  own : World → List Value → α → List Nat → Prop
  frame : ∀ {w w' : World} {cs : List Value} {d : α} {fp : List Nat}, own w cs d fp → (∀ b ∈ fp, w'.heap[b]? = w.heap[b]?) → own w' cs d fp
  rd : ∀ {w : World} {cs : List Value} {d : α} {fp : List Nat}, own w cs d fp → Lay.rd w cs d
  lt : ∀ {w : World} {cs : List Value} {d : α} {fp : List Nat}, own w cs d fp → ∀ b ∈ fp, b < w.heap.size

instance owInt : Ow Int := ⟨fun w cs d fp => Lay.rd w cs d ∧ fp = [], fun h _ => h, fun h => h.1, fun h b hb => by rw [h.2] at hb; cases hb⟩
instance owBool : Ow Bool := ⟨fun w cs d fp => Lay.rd w cs d ∧ fp = [], fun h _ => h, fun h => h.1, fun h b hb => by rw [h.2] at hb; cases hb⟩

/-- A slice of the call's own that reads as a list. -/
def OwSl {α : Type} [Lay α] [Ow α] (w : World) (a : Option Addr) (len cap : Nat) (l : List α) (fp : List Nat) : Prop :=
  l.length = len ∧ len ≤ cap ∧ cap ≤ maxLen ∧ (a = none → cap = 0) ∧
    ((l = [] ∧ fp = []) ∨ ∃ (b : Nat) (e : TypeId) (cs : List Value) (fps : List (List Nat)), a = some ⟨b, 0, none⟩ ∧ Blk w b e cs ∧ cs.length = cap * Lay.n α ∧ fps.length = l.length ∧ fp = b :: fps.flatten ∧
      ∀ (i : Nat) (d : α) (f : List Nat), l[i]? = some d → fps[i]? = some f → ∃ ys, ys.length = Lay.n α ∧ Elt cs (Lay.n α) i ys ∧ Ow.own w ys d f)

theorem OwSl.rd {α : Type} [Lay α] [Ow α] {w : World} {a : Option Addr} {len cap : Nat} {l : List α} {fp : List Nat} (h : OwSl w a len cap l fp) : SlRd w a len cap l := by
  obtain ⟨h1, h2, h3, h4, h5⟩ := h
  refine ⟨h1, h2, h3, h4, fun i d hi => ?_⟩
  rcases h5 with ⟨rfl, _⟩ | ⟨b, e, cs, fps, rfl, hb, _, hf, rfl, hel⟩
  · simp at hi
  · have hlt := (List.getElem?_eq_some_iff.1 hi).1
    obtain ⟨ys, r1, r2, r3⟩ := hel i d _ hi (List.getElem?_eq_getElem (by omega))
    exact ⟨b, 0, ys, rfl, r1, fun j u hu => by rw [Nat.zero_add]; exact hb.cell (r2 j u hu), Ow.rd r3⟩
theorem OwSl.frame {α : Type} [Lay α] [Ow α] {w w' : World} {a : Option Addr} {len cap : Nat} {l : List α} {fp : List Nat} (h : OwSl w a len cap l fp) (k : ∀ b ∈ fp, w'.heap[b]? = w.heap[b]?) : OwSl w' a len cap l fp := by
  obtain ⟨h1, h2, h3, h4, h5⟩ := h
  refine ⟨h1, h2, h3, h4, ?_⟩
  rcases h5 with h5 | ⟨b, e, cs, fps, rfl, hb, hc, hf, rfl, hel⟩
  · exact .inl h5
  · refine .inr ⟨b, e, cs, fps, rfl, hb.of_heap (k b (by simp)), hc, hf, rfl, fun i d f hi hi' => ?_⟩
    obtain ⟨ys, r1, r2, r3⟩ := hel i d f hi hi'
    exact ⟨ys, r1, r2, Ow.frame r3 fun b' hb' => k b' (List.mem_cons_of_mem _ (List.mem_flatten.2 ⟨_, List.mem_of_getElem? hi', hb'⟩))⟩
theorem OwSl.lt {α : Type} [Lay α] [Ow α] {w : World} {a : Option Addr} {len cap : Nat} {l : List α} {fp : List Nat} (h : OwSl w a len cap l fp) : ∀ b ∈ fp, b < w.heap.size := by
  obtain ⟨h1, h2, h3, h4, h5⟩ := h
  rcases h5 with ⟨_, rfl⟩ | ⟨b, e, cs, fps, rfl, hb, hc, hf, rfl, hel⟩
  · intro b hb; cases hb
  · intro b' hb'
    rcases List.mem_cons.1 hb' with rfl | hb'
    · exact hb.lt
    · obtain ⟨fp', hm, hb''⟩ := List.mem_flatten.1 hb'
      obtain ⟨i, hi, rfl⟩ := List.mem_iff_getElem.1 hm
      obtain ⟨ys, _, _, r3⟩ := hel i _ _ (List.getElem?_eq_getElem (by omega)) (List.getElem?_eq_getElem hi)
      exact Ow.lt r3 b' hb''

instance owList {α : Type} [Lay α] [Ow α] : Ow (List α) :=
  ⟨fun w cs l fp => ∃ a len cap, cs = [.slice a len cap] ∧ OwSl w a len cap l fp, fun ⟨a, len, cap, e, h⟩ k => ⟨a, len, cap, e, h.frame k⟩,
   fun ⟨a, len, cap, e, h⟩ => ⟨a, len, cap, e, h.rd⟩, fun ⟨_, _, _, _, h⟩ => h.lt⟩

theorem SlRd.at {α : Type} [Lay α] {w wr : World} {a : Option Addr} {len cap : Nat} {l : List α} (h : SlRd w a len cap l) (he : Ext w wr) {k : Nat} (hk : k < len) :
    ∃ d, l[k]? = some d ∧ ∃ b off ys, a = some ⟨b, off, none⟩ ∧ ys.length = Lay.n α ∧ (∀ (j : Nat) (u : Value), ys[j]? = some u → wr.cell? ⟨b, off + k * Lay.n α + j, none⟩ = some u) ∧ Lay.rd wr ys d :=
  have hd : l[k]? = some (l[k]'(by have := h.1; omega)) := List.getElem?_eq_getElem _
  ⟨_, hd, (h.stays he.below).2.2.2.2 k _ hd⟩

/-- make, at a size that is a letter. -/
theorem mkSlice {P : Program} {t e : TypeId} {i : TypeInfo} {z : Value} (ht : P.underlying t = some (.slice e)) (hi : P.info? e = some i) (hz : i.zero = some z) (len : Nat) (hlen : i.bytes * len ≤ 281474976710656) (h63 : len ≤ maxLen) :
    ∀ w : World, (Instr.makeSlice t (.int .i64 (len : Int)) (.int .i64 (len : Int))).run P w = .ok (.slice (some ⟨w.heap.size, 0, none⟩) len len) (w.alloc (.cells (madeCells z.cells (len * i.size)) e)) := by
  intro w
  have h63' : (len : Int) ≤ 9223372036854775807 := by
    have h := h63
    simp [maxLen] at h
    omega
  have hb' : (i.bytes : Int) * (len : Int) ≤ 281474976710656 := by
    have h : ((i.bytes * len : Nat) : Int) ≤ 281474976710656 := by omega
    rwa [Int.natCast_mul] at h
  have hr := run_make (P := P) w t e i z ht hi hz .i64 .i64 len len (by omega) (Int.le_refl _) hb' h63'
  simpa only [Int.toNat_natCast] using hr

instance owRg : Ow Rg := ⟨fun w cs d fp => Lay.rd w cs d ∧ fp = [], fun h _ => h, fun h => h.1, fun h b hb => by rw [h.2] at hb; cases hb⟩
instance owCl : Ow Cl := ⟨fun w cs d fp => Lay.rd w cs d ∧ fp = [], fun h _ => h, fun h => h.1, fun h b hb => by rw [h.2] at hb; cases hb⟩
instance owRt : Ow Rt := ⟨fun w cs d fp => ∃ a_path, ∃ n_path, ∃ c_path, ∃ a_marks, ∃ n_marks, ∃ c_marks, ∃ p_path, ∃ p_marks, cs = [.int .i64 d.r.f, .int .i64 d.r.b, .slice a_path n_path c_path, .int .i64 d.like, .slice a_marks n_marks c_marks] ∧ I64 d.r.f ∧ I64 d.r.b ∧ OwSl w a_path n_path c_path d.path p_path ∧ I64 d.like ∧ OwSl w a_marks n_marks c_marks d.marks p_marks ∧ fp = p_path ++ p_marks,
  fun ⟨a_path, n_path, c_path, a_marks, n_marks, c_marks, p_path, p_marks, e, h0, h1, h2, h3, h4, ef⟩ k => ⟨a_path, n_path, c_path, a_marks, n_marks, c_marks, p_path, p_marks, e, h0, h1, OwSl.frame h2 (fun b hb => k b (by rw [ef]; simp [hb])), h3, OwSl.frame h4 (fun b hb => k b (by rw [ef]; simp [hb])), ef⟩,
  fun ⟨a_path, n_path, c_path, a_marks, n_marks, c_marks, _, _, e, h0, h1, h2, h3, h4, _⟩ => ⟨a_path, n_path, c_path, a_marks, n_marks, c_marks, e, h0, h1, OwSl.rd h2, h3, OwSl.rd h4⟩,
  fun ⟨_, _, _, _, _, _, _, _, _, _, _, h2, _, h4, ef⟩ b hb => by rw [ef] at hb; rcases List.mem_append.1 hb with hb | hb <;> first | exact OwSl.lt h2 b hb | exact OwSl.lt h4 b hb⟩
instance owHd : Ow Hd := ⟨fun w cs d fp => Lay.rd w cs d ∧ fp = [], fun h _ => h, fun h => h.1, fun h b hb => by rw [h.2] at hb; cases hb⟩
instance owSe : Ow Se := ⟨fun w cs d fp => ∃ a_path, ∃ n_path, ∃ c_path, ∃ p_path, cs = [.int .i64 d.sby, .int .i64 d.to, .int .i64 d.r.f, .int .i64 d.r.b, .slice a_path n_path c_path] ∧ I64 d.sby ∧ I64 d.to ∧ I64 d.r.f ∧ I64 d.r.b ∧ OwSl w a_path n_path c_path d.path p_path ∧ fp = p_path,
  fun ⟨a_path, n_path, c_path, p_path, e, h0, h1, h2, h3, h4, ef⟩ k => ⟨a_path, n_path, c_path, p_path, e, h0, h1, h2, h3, OwSl.frame h4 (fun b hb => k b (by rw [ef]; simp [hb])), ef⟩,
  fun ⟨a_path, n_path, c_path, _, e, h0, h1, h2, h3, h4, _⟩ => ⟨a_path, n_path, c_path, e, h0, h1, h2, h3, OwSl.rd h4⟩,
  fun ⟨_, _, _, _, _, _, _, _, _, h4, ef⟩ b hb => by rw [ef] at hb; exact OwSl.lt h4 b hb⟩
instance owGt : Ow Gt := ⟨fun w cs d fp => ∃ a_route_path, ∃ n_route_path, ∃ c_route_path, ∃ a_route_marks, ∃ n_route_marks, ∃ c_route_marks, ∃ p_route_path, ∃ p_route_marks, cs = [.int .i64 d.route.r.f, .int .i64 d.route.r.b, .slice a_route_path n_route_path c_route_path, .int .i64 d.route.like, .slice a_route_marks n_route_marks c_route_marks, .bool d.old] ∧ I64 d.route.r.f ∧ I64 d.route.r.b ∧ OwSl w a_route_path n_route_path c_route_path d.route.path p_route_path ∧ I64 d.route.like ∧ OwSl w a_route_marks n_route_marks c_route_marks d.route.marks p_route_marks ∧ fp = p_route_path ++ p_route_marks,
  fun ⟨a_route_path, n_route_path, c_route_path, a_route_marks, n_route_marks, c_route_marks, p_route_path, p_route_marks, e, h0, h1, h2, h3, h4, ef⟩ k => ⟨a_route_path, n_route_path, c_route_path, a_route_marks, n_route_marks, c_route_marks, p_route_path, p_route_marks, e, h0, h1, OwSl.frame h2 (fun b hb => k b (by rw [ef]; simp [hb])), h3, OwSl.frame h4 (fun b hb => k b (by rw [ef]; simp [hb])), ef⟩,
  fun ⟨a_route_path, n_route_path, c_route_path, a_route_marks, n_route_marks, c_route_marks, _, _, e, h0, h1, h2, h3, h4, _⟩ => ⟨a_route_path, n_route_path, c_route_path, a_route_marks, n_route_marks, c_route_marks, e, h0, h1, OwSl.rd h2, h3, OwSl.rd h4⟩,
  fun ⟨_, _, _, _, _, _, _, _, _, _, _, h2, _, h4, ef⟩ b hb => by rw [ef] at hb; rcases List.mem_append.1 hb with hb | hb <;> first | exact OwSl.lt h2 b hb | exact OwSl.lt h4 b hb⟩
instance owRb : Ow Rb := ⟨fun w cs d fp => ∃ a_all, ∃ n_all, ∃ c_all, ∃ p_all, cs = [.int .i64 d.house, .bool d.up, .slice a_all n_all c_all] ∧ I64 d.house ∧ OwSl w a_all n_all c_all d.all p_all ∧ fp = p_all,
  fun ⟨a_all, n_all, c_all, p_all, e, h0, h1, ef⟩ k => ⟨a_all, n_all, c_all, p_all, e, h0, OwSl.frame h1 (fun b hb => k b (by rw [ef]; simp [hb])), ef⟩,
  fun ⟨a_all, n_all, c_all, _, e, h0, h1, _⟩ => ⟨a_all, n_all, c_all, e, h0, OwSl.rd h1⟩,
  fun ⟨_, _, _, _, _, _, h1, ef⟩ b hb => by rw [ef] at hb; exact OwSl.lt h1 b hb⟩
instance owDl : Ow Dl := ⟨fun w cs d fp => ∃ a_drop, ∃ n_drop, ∃ c_drop, ∃ a_tell, ∃ n_tell, ∃ c_tell, ∃ p_drop, ∃ p_tell, cs = [.slice a_drop n_drop c_drop, .slice a_tell n_tell c_tell] ∧ OwSl w a_drop n_drop c_drop d.drop p_drop ∧ OwSl w a_tell n_tell c_tell d.tell p_tell ∧ fp = p_drop ++ p_tell,
  fun ⟨a_drop, n_drop, c_drop, a_tell, n_tell, c_tell, p_drop, p_tell, e, h0, h1, ef⟩ k => ⟨a_drop, n_drop, c_drop, a_tell, n_tell, c_tell, p_drop, p_tell, e, OwSl.frame h0 (fun b hb => k b (by rw [ef]; simp [hb])), OwSl.frame h1 (fun b hb => k b (by rw [ef]; simp [hb])), ef⟩,
  fun ⟨a_drop, n_drop, c_drop, a_tell, n_tell, c_tell, _, _, e, h0, h1, _⟩ => ⟨a_drop, n_drop, c_drop, a_tell, n_tell, c_tell, e, OwSl.rd h0, OwSl.rd h1⟩,
  fun ⟨_, _, _, _, _, _, _, _, _, h0, h1, ef⟩ b hb => by rw [ef] at hb; rcases List.mem_append.1 hb with hb | hb <;> first | exact OwSl.lt h0 b hb | exact OwSl.lt h1 b hb⟩
instance owEn : Ow En := ⟨fun w cs d fp => Lay.rd w cs d ∧ fp = [], fun h _ => h, fun h => h.1, fun h b hb => by rw [h.2] at hb; cases hb⟩

/-- What a call hands back in memory of its own: it lies in new blocks, no block twice. -/
def Fresh {α : Type} [Lay α] [Ow α] (w w' : World) (cs : List Value) (d : α) : Prop :=
  Ext w w' ∧ ∃ fp, Ow.own w' cs d fp ∧ fp.Nodup ∧ ∀ b ∈ fp, w.heap.size ≤ b

theorem Fresh.ext {α : Type} [Lay α] [Ow α] {w w' : World} {cs : List Value} {d : α} (h : Fresh w w' cs d) : Ext w w' := h.1
theorem Fresh.rd {α : Type} [Lay α] [Ow α] {w w' : World} {cs : List Value} {d : α} (h : Fresh w w' cs d) : Lay.rd w' cs d := by
  obtain ⟨_, fp, h, _⟩ := h
  exact Ow.rd h
theorem Ow.later {α : Type} [Lay α] [Ow α] {w w' : World} {cs : List Value} {d : α} {fp : List Nat} (h : Ow.own w cs d fp) (k : Ext w w') : Ow.own w' cs d fp :=
  Ow.frame h fun b hb => k.below.block b (Ow.lt h b hb)
theorem Fresh.later {α : Type} [Lay α] [Ow α] {w w' w2 : World} {cs : List Value} {d : α} (h : Fresh w w' cs d) (k : Ext w' w2) : Fresh w w2 cs d := by
  obtain ⟨h1, fp, h2, h3, h4⟩ := h
  exact ⟨h1.trans k, fp, Ow.later h2 k, h3, h4⟩
theorem Fresh.earlier {α : Type} [Lay α] [Ow α] {w0 w w' : World} {cs : List Value} {d : α} (k : Ext w0 w) (h : Fresh w w' cs d) : Fresh w0 w' cs d := by
  obtain ⟨h1, fp, h2, h3, h4⟩ := h
  exact ⟨k.trans h1, fp, h2, h3, fun b hb => Nat.le_trans k.size (h4 b hb)⟩

/-- A made slice while it is filled: the first k elements stand. -/
def Fill {α : Type} [Lay α] [Ow α] (wr : World) (B : Nat) (e : TypeId) (len : Nat) (l : List α) (k : Nat) : Prop :=
  ∃ (cs : List Value) (fps : List (List Nat)), Blk wr B e cs ∧ cs.length = len * Lay.n α ∧ fps.length = k ∧
    (∀ (j : Nat) (d : α) (f : List Nat), l[j]? = some d → fps[j]? = some f → ∃ ys, ys.length = Lay.n α ∧ Elt cs (Lay.n α) j ys ∧ Ow.own wr ys d f) ∧
    fps.flatten.Nodup ∧ ∀ b ∈ fps.flatten, B < b ∧ b < wr.heap.size

theorem Fill.start {α : Type} [Lay α] [Ow α] {wr : World} {B : Nat} {e : TypeId} {len : Nat} {l : List α} {cs : List Value} (h : Blk wr B e cs) (hl : cs.length = len * Lay.n α) : Fill wr B e len l 0 :=
  ⟨cs, [], h, hl, rfl, fun j d f _ h => by simp at h, by simp, by simp⟩
theorem Fill.blk {α : Type} [Lay α] [Ow α] {wr : World} {B : Nat} {e : TypeId} {len : Nat} {l : List α} {k : Nat} (h : Fill wr B e len l k) : ∃ cs, Blk wr B e cs ∧ cs.length = len * Lay.n α := by
  obtain ⟨cs, _, h, hl, _⟩ := h
  exact ⟨cs, h, hl⟩
theorem Fill.lt {α : Type} [Lay α] [Ow α] {wr : World} {B : Nat} {e : TypeId} {len : Nat} {l : List α} {k : Nat} (h : Fill wr B e len l k) : B < wr.heap.size := by
  obtain ⟨cs, _, h, _⟩ := h
  exact h.lt
theorem Fill.step {α : Type} [Lay α] [Ow α] {wr w1 : World} {B : Nat} {e : TypeId} {len : Nat} {l : List α} {k : Nat} {d : α} {ys : List Value}
    (h : Fill wr B e len l k) (hd : l[k]? = some d) (hk : k < len) (hy : ys.length = Lay.n α) (hf : Fresh wr w1 ys d) : Fill (setW w1 B (k * Lay.n α) ys) B e len l (k + 1) := by
  obtain ⟨cs, fps, hb, hl, hfl, hel, hnd, hlt⟩ := h
  obtain ⟨he, fp, ho, hfn, hfb⟩ := hf
  have hB := hb.lt
  have keep : ∀ b, b ≠ B → (setW w1 B (k * Lay.n α) ys).heap[b]? = w1.heap[b]? := fun b hb => heap_setW ys _ b hb
  refine ⟨setL cs (k * Lay.n α) ys, fps ++ [fp], (hb.extends he).setW ys _, by rw [length_setL, hl], by simp [hfl], ?_, ?_, ?_⟩
  · intro j d' f hj hjf
    rw [List.getElem?_append] at hjf
    split at hjf
    · rename_i hjk
      obtain ⟨zs, r1, r2, r3⟩ := hel j d' f hj hjf
      refine ⟨zs, r1, r2.set_other hy r1 (by omega), Ow.frame (Ow.later r3 he) fun b hb => keep b ?_⟩
      have := hlt b (List.mem_flatten.2 ⟨_, List.mem_of_getElem? hjf, hb⟩)
      omega
    · have hjk : j = k := by
        have := (List.getElem?_eq_some_iff.1 hjf).1
        simp at this
        omega
      subst hjk
      obtain rfl : d = d' := Option.some.inj (hd.symm.trans hj)
      obtain rfl : fp = f := by simpa [hfl] using hjf
      refine ⟨ys, hy, Elt.set_self hy ?_, Ow.frame ho fun b hb => keep b ?_⟩
      · have := Nat.mul_le_mul_right (Lay.n α) (show j + 1 ≤ len from hk)
        rw [Nat.add_mul, Nat.one_mul] at this
        omega
      · have := hfb b hb
        omega
  · rw [List.flatten_append]
    simp only [List.flatten_cons, List.flatten_nil, List.append_nil]
    refine List.nodup_append.2 ⟨hnd, hfn, fun a ha b hb hab => ?_⟩
    have h1 := hlt a ha
    have h2 := hfb b hb
    omega
  · intro b hb
    rw [List.flatten_append] at hb
    simp only [List.flatten_cons, List.flatten_nil, List.append_nil, List.mem_append] at hb
    rw [size_setW]
    have hs := he.size
    rcases hb with hb | hb
    · have := hlt b hb
      omega
    · have h1 := hfb b hb
      have h2 := Ow.lt ho b hb
      omega
theorem Fill.done {α : Type} [Lay α] [Ow α] {w wr : World} {B : Nat} {e : TypeId} {len : Nat} {l : List α} (hE : Ext w wr) (hB : w.heap.size ≤ B) (hlen : l.length = len) (hm : len ≤ maxLen) (h : Fill wr B e len l len) :
    Fresh w wr [.slice (some ⟨B, 0, none⟩) len len] l := by
  obtain ⟨cs, fps, hb, hl, hfl, hel, hnd, hlt⟩ := h
  refine ⟨hE, ?_⟩
  refine ⟨B :: fps.flatten, ⟨_, _, _, rfl, hlen, Nat.le_refl _, hm, (fun h => by simp at h), .inr ⟨B, e, cs, fps, rfl, hb, hl, by omega, rfl, hel⟩⟩, ?_, ?_⟩
  · refine List.nodup_cons.2 ⟨fun h => ?_, hnd⟩
    have := hlt B h
    omega
  · intro b hb'
    rcases List.mem_cons.1 hb' with rfl | hb'
    · exact hB
    · have := hlt b hb'
      omega

/-- What lay from block N on lies as it did. -/
def Abv (N : Nat) (w w' : World) : Prop := w.heap.size ≤ w'.heap.size ∧ ∀ b, N ≤ b → b < w.heap.size → w'.heap[b]? = w.heap[b]?
theorem Abv.refl (N : Nat) (w : World) : Abv N w w := ⟨Nat.le_refl _, fun _ _ _ => rfl⟩
theorem Abv.alloc {N : Nat} {a b : World} (h : Abv N a b) (o : Obj) : Abv N a (b.alloc o) :=
  ⟨by have := h.1; simp; omega, fun k hk hl => (Below.heap_alloc b o k (by have := h.1; omega)).trans (h.2 k hk hl)⟩
theorem Abv.ext {N : Nat} {a b : World} (h : Abv N a b) (x : Nx) : Abv N a (ext b x) :=
  ⟨by have := h.1; simp; omega, fun k hk hl => (ext_heap b x k (by have := h.1; omega)).trans (h.2 k hk hl)⟩
theorem Abv.drew {N : Nat} {a b : World} (h : Abv N a b) : Abv N a b.drew := h
theorem Abv.and {N : Nat} {a W : World} {x y : Nx} (h : Abv N a (Go.Proofs.Ytngehfhcnfobbaa.ext W x)) : Abv N a (Go.Proofs.Ytngehfhcnfobbaa.ext W (x.and y)) := by
  rw [← ext_ext]
  exact h.ext y
theorem Abv.drewx {N : Nat} {a W : World} {x : Nx} (h : Abv N a (Go.Proofs.Ytngehfhcnfobbaa.ext W x)) : Abv N a (Go.Proofs.Ytngehfhcnfobbaa.ext W x.drew) := h
theorem rd_slice {α : Type} [Lay α] {w : World} {a : Option Addr} {n c : Nat} {l : List α} (h : Lay.rd w [.slice a n c] l) : SlRd w a n c l := by
  obtain ⟨a', n', c', e, h⟩ := h
  simp only [List.cons.injEq, Value.slice.injEq, and_true] at e
  obtain ⟨rfl, rfl, rfl⟩ := e
  exact h
theorem Fresh.sl {α : Type} [Lay α] [Ow α] {w w' : World} {a : Option Addr} {n c : Nat} {l : List α} (h : Fresh w w' [.slice a n c] l) : SlRd w' a n c l := rd_slice h.rd
theorem Abv.setCell {N : Nat} {a b : World} (h : Abv N a b) {p : Addr} (hp : p.block < N) (v : Value) : Abv N a (b.setCell p v) :=
  ⟨by have := h.1; simpa [World.setCell] using this, fun k hk hl => (Below.heap_setCell b p v k (by omega)).trans (h.2 k hk hl)⟩
theorem fin_fresh {α : Type} [Lay α] [Ow α] {w w' : World} {cs : List Value} {d : α} (h : Fresh w w' cs d) : ∃ x, w' = ext w x ∧ Hid (Fresh w (ext w x) cs d) := by
  obtain ⟨x, rfl⟩ := h.ext
  exact ⟨x, rfl, h⟩
theorem own_slice {α : Type} [Lay α] [Ow α] {w : World} {a : Option Addr} {n c : Nat} {l : List α} {fp : List Nat} (h : Ow.own w [.slice a n c] l fp) : OwSl w a n c l fp := by
  obtain ⟨a', n', c', e, h⟩ := h
  simp only [List.cons.injEq, Value.slice.injEq, and_true] at e
  obtain ⟨rfl, rfl, rfl⟩ := e
  exact h
theorem Fresh.at {α : Type} [Lay α] [Ow α] {w W W' wf : World} {cs : List Value} {d : α} (F : Fresh W W' cs d) (h : w.heap.size ≤ W.heap.size) (A : Abv W.heap.size W' wf) :
    ∃ f, Ow.own wf cs d f ∧ f.Nodup ∧ ∀ b ∈ f, W.heap.size ≤ b ∧ b < W'.heap.size ∧ w.heap.size ≤ b := by
  obtain ⟨_, f, ho, hn, hg⟩ := F
  exact ⟨f, Ow.frame ho fun b hb => A.2 b (hg b hb) (Ow.lt ho b hb), hn, fun b hb => ⟨hg b hb, Ow.lt ho b hb, Nat.le_trans h (hg b hb)⟩⟩
theorem own1 {α γ : Type} [Lay α] [Ow α] [Lay γ] [Ow γ] {w W1 W1' wf : World} {c1 cs : List Value} {d1 : α} {d : γ} (F1 : Fresh W1 W1' c1 d1) (h1 : w.heap.size ≤ W1.heap.size) (A1 : Abv W1.heap.size W1' wf)
    (k : ∀ f1, Ow.own wf c1 d1 f1 → Ow.own wf cs d f1) : ∃ fp, Ow.own wf cs d fp ∧ fp.Nodup ∧ ∀ b ∈ fp, w.heap.size ≤ b := by
  obtain ⟨f1, o1, n1, g1⟩ := F1.at h1 A1
  exact ⟨f1, k f1 o1, n1, fun b hb => (g1 b hb).2.2⟩
theorem own2 {α β γ : Type} [Lay α] [Ow α] [Lay β] [Ow β] [Lay γ] [Ow γ] {w W1 W1' W2 W2' wf : World} {c1 c2 cs : List Value} {d1 : α} {d2 : β} {d : γ}
    (F1 : Fresh W1 W1' c1 d1) (F2 : Fresh W2 W2' c2 d2) (h1 : w.heap.size ≤ W1.heap.size) (h12 : W1'.heap.size ≤ W2.heap.size) (A1 : Abv W1.heap.size W1' wf) (A2 : Abv W2.heap.size W2' wf)
    (k : ∀ f1 f2, Ow.own wf c1 d1 f1 → Ow.own wf c2 d2 f2 → Ow.own wf cs d (f1 ++ f2)) : ∃ fp, Ow.own wf cs d fp ∧ fp.Nodup ∧ ∀ b ∈ fp, w.heap.size ≤ b := by
  have hs1 := F1.ext.size
  obtain ⟨f1, o1, n1, g1⟩ := F1.at h1 A1
  obtain ⟨f2, o2, n2, g2⟩ := F2.at (w := w) (by omega) A2
  refine ⟨f1 ++ f2, k f1 f2 o1 o2, List.nodup_append.2 ⟨n1, n2, fun a ha b hb e => ?_⟩, fun b hb => ?_⟩
  · have h3 := g1 a ha
    have h4 := g2 b hb
    omega
  · rcases List.mem_append.1 hb with hb | hb
    · exact (g1 b hb).2.2
    · exact (g2 b hb).2.2

end Go.Proofs.Ytngehfhcnfobbaa
namespace Go.Proofs.Ytngehfhcnfobbaa
open Go Go.RowKit

class Sz (α : Type) where
  sz : α → Nat
instance : Sz Int := ⟨fun _ => 0⟩
instance : Sz Bool := ⟨fun _ => 0⟩
instance szL {α : Type} [Sz α] : Sz (List α) := ⟨fun l => l.length + (l.map Sz.sz).sum⟩
instance : Sz Rg := ⟨fun _ => 0⟩
instance : Sz Cl := ⟨fun _ => 0⟩
instance : Sz Rt := ⟨fun d => Sz.sz d.path + Sz.sz d.marks⟩
instance : Sz Hd := ⟨fun _ => 0⟩
instance : Sz Se := ⟨fun d => Sz.sz d.path⟩
instance : Sz Gt := ⟨fun d => Sz.sz d.route⟩
instance : Sz Rb := ⟨fun d => Sz.sz d.all⟩
instance : Sz Dl := ⟨fun d => Sz.sz d.drop + Sz.sz d.tell⟩
instance : Sz En := ⟨fun _ => 0⟩
deriving instance DecidableEq for Rg
theorem Rg_eq (d d' : Rg) : d = d' ↔ d.f = d'.f ∧ d.b = d'.b := by
  cases d; cases d'; simp
deriving instance DecidableEq for Cl
theorem Cl_eq (d d' : Cl) : d = d' ↔ d.cif = d'.cif ∧ d.n = d'.n ∧ d.r = d'.r ∧ d.refuse = d'.refuse ∧ d.like = d'.like ∧ d.mark = d'.mark ∧ d.clear = d'.clear := by
  cases d; cases d'; simp
deriving instance DecidableEq for Rt
theorem Rt_eq (d d' : Rt) : d = d' ↔ d.r = d'.r ∧ d.path = d'.path ∧ d.like = d'.like ∧ d.marks = d'.marks := by
  cases d; cases d'; simp
deriving instance DecidableEq for Hd
theorem Hd_eq (d d' : Hd) : d = d' ↔ d.house = d'.house ∧ d.r = d'.r := by
  cases d; cases d'; simp
deriving instance DecidableEq for Se
theorem Se_eq (d d' : Se) : d = d' ↔ d.sby = d'.sby ∧ d.to = d'.to ∧ d.r = d'.r ∧ d.path = d'.path := by
  cases d; cases d'; simp
deriving instance DecidableEq for Gt
theorem Gt_eq (d d' : Gt) : d = d' ↔ d.route = d'.route ∧ d.old = d'.old := by
  cases d; cases d'; simp
deriving instance DecidableEq for Rb
theorem Rb_eq (d d' : Rb) : d = d' ↔ d.house = d'.house ∧ d.up = d'.up ∧ d.all = d'.all := by
  cases d; cases d'; simp
deriving instance DecidableEq for Dl
theorem Dl_eq (d d' : Dl) : d = d' ↔ d.drop = d'.drop ∧ d.tell = d'.tell := by
  cases d; cases d'; simp
deriving instance DecidableEq for En
theorem En_eq (d d' : En) : d = d' ↔ d.r = d'.r ∧ d.via = d'.via := by
  cases d; cases d'; simp
def szR (n : Nat) (left : Int) : Int := if (n : Int) ≤ left then left - n else -1
theorem int_eq {k : IntKind} {a b : Int} (h : a = b) : Value.int k a = .int k b := by rw [h]
theorem szR_le {n : Nat} {left : Int} (h : (n : Int) ≤ left) : szR n left = left - n := by simp [szR, h]
theorem szR_gt {n : Nat} {left : Int} (h : ¬ (n : Int) ≤ left) : szR n left = -1 := by simp [szR, h]
theorem szL_flat {α : Type} [Sz α] (l : List α) (h : ∀ d : α, Sz.sz d = 0) : Sz.sz l = l.length := by
  have : (l.map Sz.sz).sum = 0 := by
    induction l with
    | nil => rfl
    | cons a l ih => simp [h a, ih]
  show l.length + (l.map Sz.sz).sum = l.length
  omega
theorem sum_take_succ {α : Type} [Sz α] {l : List α} {k : Nat} {d : α} (h : l[k]? = some d) : ((l.take (k + 1)).map Sz.sz).sum = ((l.take k).map Sz.sz).sum + Sz.sz d := by
  rw [List.take_add_one, h]
  simp
theorem sum_take_le {α : Type} [Sz α] (l : List α) (k : Nat) : ((l.take k).map Sz.sz).sum ≤ (l.map Sz.sz).sum := by
  have h := List.take_append_drop k l
  have : (l.map Sz.sz).sum = ((l.take k).map Sz.sz).sum + ((l.drop k).map Sz.sz).sum := by
    rw [← List.sum_append, ← List.map_append, h]
  omega
theorem take_succ_eq {α : Type} {l l' : List α} {k : Nat} {d : α} (h : l.take k = l'.take k) (hd : l[k]? = some d) (hd' : l'[k]? = some d) : l.take (k + 1) = l'.take (k + 1) := by
  rw [List.take_add_one, List.take_add_one, h, hd, hd']
theorem ne_at {α : Type} {l l' : List α} {k : Nat} {d d' : α} (hd : l[k]? = some d) (hd' : l'[k]? = some d') (h : ¬ d = d') : ¬ l = l' := by
  intro e
  rw [e, hd'] at hd
  exact h (Option.some.inj hd).symm
theorem eq_take {α : Type} {l l' : List α} {k : Nat} (h : l.take k = l'.take k) (hl : l.length = k) (hl' : l'.length = k) : l = l' := by
  rwa [List.take_of_length_le (Nat.le_of_eq hl), List.take_of_length_le (Nat.le_of_eq hl')] at h
theorem any_succ {α : Type} {l : List α} {k : Nat} {d : α} {p : α → Bool} (h : (l.take k).any p = false) (hd : l[k]? = some d) (hp : p d = false) : (l.take (k + 1)).any p = false := by
  rw [List.take_add_one, hd]
  simp [h, hp]
theorem any_at {α : Type} {l : List α} {k : Nat} {d : α} {p : α → Bool} (hd : l[k]? = some d) (hp : p d = true) : l.any p = true :=
  List.any_eq_true.2 ⟨d, List.mem_of_getElem? hd, hp⟩
theorem sz_at {α : Type} [Sz α] {l : List α} {k : Nat} {d : α} (h : l[k]? = some d) : Sz.sz d ≤ Sz.sz l := by
  have h1 := sum_take_succ h
  have h2 := sum_take_le l (k + 1)
  have h3 : Sz.sz l = l.length + (l.map Sz.sz).sum := rfl
  omega

theorem callBody {P : Program} {f : FuncId} {fn : Func} (hf : P.funcs[f]? = some fn) (hn : (fn.name == "runtime.NumGoroutine") = false) (hb : fn.body.isNone = false) (args : Array Value) (w : World) :
    (callFunc f args).run P w = .ok (.enter f args) w := by
  have h1 : fn.name ≠ "runtime.NumGoroutine" := by simpa using hn
  have h2 : fn.body ≠ none := by intro e; rw [e] at hb; cases hb
  simp [callFunc, hf, h1, h2]

/-- Where the first is that a function of the program says yes to; -1: none. -/
def findI {α : Type} (p : α → Bool) (l : List α) : Int := if l.any p = true then (l.findIdx p : Int) else -1
theorem findI_no {α : Type} {p : α → Bool} {l : List α} (h : l.any p = false) : findI p l = -1 := by simp [findI, h]
theorem findI_at {α : Type} {p : α → Bool} {l : List α} {k : Nat} {d : α} (h : (l.take k).any p = false) (hd : l[k]? = some d) (hp : p d = true) : findI p l = k := by
  have hk := (List.getElem?_eq_some_iff.1 hd).1
  have hdk : l[k] = d := (List.getElem?_eq_some_iff.1 hd).2
  have : l.findIdx p = k := by
    rw [List.findIdx_eq hk]
    refine ⟨by rw [hdk]; exact hp, fun j hj => ?_⟩
    have h1 : l[j] ∈ l.take k := List.mem_take_iff_getElem.2 ⟨j, by omega, rfl⟩
    have := List.any_eq_false.1 h _ h1
    simpa using this
  simp [findI, any_at hd hp, this]

theorem findI_ge {α : Type} (p : α → Bool) (l : List α) : decide (0 ≤ findI p l) = l.any p := by
  unfold findI
  cases h : l.any p <;> simp
end Go.Proofs.Ytngehfhcnfobbaa
