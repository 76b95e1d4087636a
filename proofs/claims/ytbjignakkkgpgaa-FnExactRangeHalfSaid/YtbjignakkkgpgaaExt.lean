/- Worlds that differ by new blocks and draws alone; regions that draw their order and whose callees make blocks of their own. No condition. -/
import Derived.WalkKit
import Derived.BigQuiet
import Derived.WalkSpells
import Derived.WalkLawsBesides
import Derived.Deep.RegionHeld3
namespace Go.Proofs.Ytbjignakkkgpgaa
open Go Go.RowKit

theorem hidden {p : Prop} (h : p) : Hid p := h
/-- What a call leaves: new blocks behind the old ones, and a count of draws. -/
structure Nx where
  objs : Array Obj
  n : Nat

instance : Nonempty Nx := ⟨⟨#[], 0⟩⟩

/-- w, with new blocks behind, and another count of draws. -/
def ext (w : World) (x : Nx) : World := { w with heap := w.heap ++ x.objs, drawn := x.n }

def Nx.and (x y : Nx) : Nx := ⟨x.objs ++ y.objs, y.n⟩
def Nx.drew (x : Nx) : Nx := ⟨x.objs, x.n + 1⟩

@[simp, go_sem] theorem ext_size (w : World) (x : Nx) : (ext w x).heap.size = w.heap.size + x.objs.size := by simp [ext]
@[simp, go_sem] theorem ext_ext (w : World) (x y : Nx) : ext (ext w x) y = ext w (x.and y) := by simp [ext, Nx.and]
@[simp, go_sem] theorem drew_ext (w : World) (x : Nx) : (ext w x).drew = ext w x.drew := rfl
theorem ext_heap (w : World) (x : Nx) (b : Nat) (h : b < w.heap.size) : (ext w x).heap[b]? = w.heap[b]? := by
  simp [ext, Array.getElem?_append, h]
theorem cell?_ext (w : World) (x : Nx) (a : Addr) (h : a.block < w.heap.size) : (ext w x).cell? a = w.cell? a :=
  World.cell?_of_block (w := w) (ext_heap w x a.block h)
theorem frozen?_ext (w : World) (x : Nx) (a : Addr) (h : a.block < w.heap.size) : (ext w x).frozen? a = w.frozen? a :=
  World.frozen?_of_block (w := w) (ext_heap w x a.block h)
@[simp, go_sem] theorem cell?_ext' (w : World) (x : Nx) (b o : Nat) (h : b < w.heap.size) : (ext w x).cell? ⟨b, o, none⟩ = w.cell? ⟨b, o, none⟩ := cell?_ext w x _ h
@[simp, go_sem] theorem frozen?_ext' (w : World) (x : Nx) (b o : Nat) (h : b < w.heap.size) : (ext w x).frozen? ⟨b, o, none⟩ = w.frozen? ⟨b, o, none⟩ := frozen?_ext w x _ h

@[simp, go_sem] theorem lt_0_1_0 (n : Nat) : n < n + 1 := by omega
@[simp, go_sem] theorem lt_0_1_1 (n s : Nat) : n < n + 1 + s := by omega
@[simp, go_sem] theorem lt_0_1_2 (n s : Nat) : n < n + 1 + s + 1 := by omega
@[simp, go_sem] theorem lt_0_1_3 (n s : Nat) : n < n + 1 + s + 1 + 1 := by omega
@[simp, go_sem] theorem lt_0_1_4 (n s : Nat) : n < n + 1 + s + 1 + 1 + 1 := by omega
@[simp, go_sem] theorem lt_0_1_5 (n s t : Nat) : n < n + 1 + s + t := by omega
@[simp, go_sem] theorem lt_0_1_6 (n s t : Nat) : n < n + 1 + s + 1 + t := by omega
@[simp, go_sem] theorem lt_0_1_7 (n s t : Nat) : n < n + 1 + s + 1 + 1 + t := by omega
@[simp, go_sem] theorem lt_0_1_8 (n s t : Nat) : n < n + 1 + s + 1 + 1 + 1 + t := by omega
@[simp, go_sem] theorem lt_0_2_0 (n : Nat) : n < n + 1 + 1 := by omega
@[simp, go_sem] theorem lt_0_2_1 (n s : Nat) : n < n + 1 + 1 + s := by omega
@[simp, go_sem] theorem lt_0_2_2 (n s : Nat) : n < n + 1 + 1 + s + 1 := by omega
@[simp, go_sem] theorem lt_0_2_3 (n s : Nat) : n < n + 1 + 1 + s + 1 + 1 := by omega
@[simp, go_sem] theorem lt_0_2_4 (n s : Nat) : n < n + 1 + 1 + s + 1 + 1 + 1 := by omega
@[simp, go_sem] theorem lt_0_2_5 (n s t : Nat) : n < n + 1 + 1 + s + t := by omega
@[simp, go_sem] theorem lt_0_2_6 (n s t : Nat) : n < n + 1 + 1 + s + 1 + t := by omega
@[simp, go_sem] theorem lt_0_2_7 (n s t : Nat) : n < n + 1 + 1 + s + 1 + 1 + t := by omega
@[simp, go_sem] theorem lt_0_2_8 (n s t : Nat) : n < n + 1 + 1 + s + 1 + 1 + 1 + t := by omega
@[simp, go_sem] theorem lt_0_3_0 (n : Nat) : n < n + 1 + 1 + 1 := by omega
@[simp, go_sem] theorem lt_0_3_1 (n s : Nat) : n < n + 1 + 1 + 1 + s := by omega
@[simp, go_sem] theorem lt_0_3_2 (n s : Nat) : n < n + 1 + 1 + 1 + s + 1 := by omega
@[simp, go_sem] theorem lt_0_3_3 (n s : Nat) : n < n + 1 + 1 + 1 + s + 1 + 1 := by omega
@[simp, go_sem] theorem lt_0_3_4 (n s : Nat) : n < n + 1 + 1 + 1 + s + 1 + 1 + 1 := by omega
@[simp, go_sem] theorem lt_0_3_5 (n s t : Nat) : n < n + 1 + 1 + 1 + s + t := by omega
@[simp, go_sem] theorem lt_0_3_6 (n s t : Nat) : n < n + 1 + 1 + 1 + s + 1 + t := by omega
@[simp, go_sem] theorem lt_0_3_7 (n s t : Nat) : n < n + 1 + 1 + 1 + s + 1 + 1 + t := by omega
@[simp, go_sem] theorem lt_0_3_8 (n s t : Nat) : n < n + 1 + 1 + 1 + s + 1 + 1 + 1 + t := by omega
@[simp, go_sem] theorem lt_0_4_0 (n : Nat) : n < n + 1 + 1 + 1 + 1 := by omega
@[simp, go_sem] theorem lt_0_4_1 (n s : Nat) : n < n + 1 + 1 + 1 + 1 + s := by omega
@[simp, go_sem] theorem lt_0_4_2 (n s : Nat) : n < n + 1 + 1 + 1 + 1 + s + 1 := by omega
@[simp, go_sem] theorem lt_0_4_3 (n s : Nat) : n < n + 1 + 1 + 1 + 1 + s + 1 + 1 := by omega
@[simp, go_sem] theorem lt_0_4_4 (n s : Nat) : n < n + 1 + 1 + 1 + 1 + s + 1 + 1 + 1 := by omega
@[simp, go_sem] theorem lt_0_4_5 (n s t : Nat) : n < n + 1 + 1 + 1 + 1 + s + t := by omega
@[simp, go_sem] theorem lt_0_4_6 (n s t : Nat) : n < n + 1 + 1 + 1 + 1 + s + 1 + t := by omega
@[simp, go_sem] theorem lt_0_4_7 (n s t : Nat) : n < n + 1 + 1 + 1 + 1 + s + 1 + 1 + t := by omega
@[simp, go_sem] theorem lt_0_4_8 (n s t : Nat) : n < n + 1 + 1 + 1 + 1 + s + 1 + 1 + 1 + t := by omega
@[simp, go_sem] theorem lt_1_2_0 (n : Nat) : n + 1 < n + 1 + 1 := by omega
@[simp, go_sem] theorem lt_1_2_1 (n s : Nat) : n + 1 < n + 1 + 1 + s := by omega
@[simp, go_sem] theorem lt_1_2_2 (n s : Nat) : n + 1 < n + 1 + 1 + s + 1 := by omega
@[simp, go_sem] theorem lt_1_2_3 (n s : Nat) : n + 1 < n + 1 + 1 + s + 1 + 1 := by omega
@[simp, go_sem] theorem lt_1_2_4 (n s : Nat) : n + 1 < n + 1 + 1 + s + 1 + 1 + 1 := by omega
@[simp, go_sem] theorem lt_1_2_5 (n s t : Nat) : n + 1 < n + 1 + 1 + s + t := by omega
@[simp, go_sem] theorem lt_1_2_6 (n s t : Nat) : n + 1 < n + 1 + 1 + s + 1 + t := by omega
@[simp, go_sem] theorem lt_1_2_7 (n s t : Nat) : n + 1 < n + 1 + 1 + s + 1 + 1 + t := by omega
@[simp, go_sem] theorem lt_1_2_8 (n s t : Nat) : n + 1 < n + 1 + 1 + s + 1 + 1 + 1 + t := by omega
@[simp, go_sem] theorem lt_1_3_0 (n : Nat) : n + 1 < n + 1 + 1 + 1 := by omega
@[simp, go_sem] theorem lt_1_3_1 (n s : Nat) : n + 1 < n + 1 + 1 + 1 + s := by omega
@[simp, go_sem] theorem lt_1_3_2 (n s : Nat) : n + 1 < n + 1 + 1 + 1 + s + 1 := by omega
@[simp, go_sem] theorem lt_1_3_3 (n s : Nat) : n + 1 < n + 1 + 1 + 1 + s + 1 + 1 := by omega
@[simp, go_sem] theorem lt_1_3_4 (n s : Nat) : n + 1 < n + 1 + 1 + 1 + s + 1 + 1 + 1 := by omega
@[simp, go_sem] theorem lt_1_3_5 (n s t : Nat) : n + 1 < n + 1 + 1 + 1 + s + t := by omega
@[simp, go_sem] theorem lt_1_3_6 (n s t : Nat) : n + 1 < n + 1 + 1 + 1 + s + 1 + t := by omega
@[simp, go_sem] theorem lt_1_3_7 (n s t : Nat) : n + 1 < n + 1 + 1 + 1 + s + 1 + 1 + t := by omega
@[simp, go_sem] theorem lt_1_3_8 (n s t : Nat) : n + 1 < n + 1 + 1 + 1 + s + 1 + 1 + 1 + t := by omega
@[simp, go_sem] theorem lt_1_4_0 (n : Nat) : n + 1 < n + 1 + 1 + 1 + 1 := by omega
@[simp, go_sem] theorem lt_1_4_1 (n s : Nat) : n + 1 < n + 1 + 1 + 1 + 1 + s := by omega
@[simp, go_sem] theorem lt_1_4_2 (n s : Nat) : n + 1 < n + 1 + 1 + 1 + 1 + s + 1 := by omega
@[simp, go_sem] theorem lt_1_4_3 (n s : Nat) : n + 1 < n + 1 + 1 + 1 + 1 + s + 1 + 1 := by omega
@[simp, go_sem] theorem lt_1_4_4 (n s : Nat) : n + 1 < n + 1 + 1 + 1 + 1 + s + 1 + 1 + 1 := by omega
@[simp, go_sem] theorem lt_1_4_5 (n s t : Nat) : n + 1 < n + 1 + 1 + 1 + 1 + s + t := by omega
@[simp, go_sem] theorem lt_1_4_6 (n s t : Nat) : n + 1 < n + 1 + 1 + 1 + 1 + s + 1 + t := by omega
@[simp, go_sem] theorem lt_1_4_7 (n s t : Nat) : n + 1 < n + 1 + 1 + 1 + 1 + s + 1 + 1 + t := by omega
@[simp, go_sem] theorem lt_1_4_8 (n s t : Nat) : n + 1 < n + 1 + 1 + 1 + 1 + s + 1 + 1 + 1 + t := by omega
@[simp, go_sem] theorem lt_2_3_0 (n : Nat) : n + 1 + 1 < n + 1 + 1 + 1 := by omega
@[simp, go_sem] theorem lt_2_3_1 (n s : Nat) : n + 1 + 1 < n + 1 + 1 + 1 + s := by omega
@[simp, go_sem] theorem lt_2_3_2 (n s : Nat) : n + 1 + 1 < n + 1 + 1 + 1 + s + 1 := by omega
@[simp, go_sem] theorem lt_2_3_3 (n s : Nat) : n + 1 + 1 < n + 1 + 1 + 1 + s + 1 + 1 := by omega
@[simp, go_sem] theorem lt_2_3_4 (n s : Nat) : n + 1 + 1 < n + 1 + 1 + 1 + s + 1 + 1 + 1 := by omega
@[simp, go_sem] theorem lt_2_3_5 (n s t : Nat) : n + 1 + 1 < n + 1 + 1 + 1 + s + t := by omega
@[simp, go_sem] theorem lt_2_3_6 (n s t : Nat) : n + 1 + 1 < n + 1 + 1 + 1 + s + 1 + t := by omega
@[simp, go_sem] theorem lt_2_3_7 (n s t : Nat) : n + 1 + 1 < n + 1 + 1 + 1 + s + 1 + 1 + t := by omega
@[simp, go_sem] theorem lt_2_3_8 (n s t : Nat) : n + 1 + 1 < n + 1 + 1 + 1 + s + 1 + 1 + 1 + t := by omega
@[simp, go_sem] theorem lt_2_4_0 (n : Nat) : n + 1 + 1 < n + 1 + 1 + 1 + 1 := by omega
@[simp, go_sem] theorem lt_2_4_1 (n s : Nat) : n + 1 + 1 < n + 1 + 1 + 1 + 1 + s := by omega
@[simp, go_sem] theorem lt_2_4_2 (n s : Nat) : n + 1 + 1 < n + 1 + 1 + 1 + 1 + s + 1 := by omega
@[simp, go_sem] theorem lt_2_4_3 (n s : Nat) : n + 1 + 1 < n + 1 + 1 + 1 + 1 + s + 1 + 1 := by omega
@[simp, go_sem] theorem lt_2_4_4 (n s : Nat) : n + 1 + 1 < n + 1 + 1 + 1 + 1 + s + 1 + 1 + 1 := by omega
@[simp, go_sem] theorem lt_2_4_5 (n s t : Nat) : n + 1 + 1 < n + 1 + 1 + 1 + 1 + s + t := by omega
@[simp, go_sem] theorem lt_2_4_6 (n s t : Nat) : n + 1 + 1 < n + 1 + 1 + 1 + 1 + s + 1 + t := by omega
@[simp, go_sem] theorem lt_2_4_7 (n s t : Nat) : n + 1 + 1 < n + 1 + 1 + 1 + 1 + s + 1 + 1 + t := by omega
@[simp, go_sem] theorem lt_2_4_8 (n s t : Nat) : n + 1 + 1 < n + 1 + 1 + 1 + 1 + s + 1 + 1 + 1 + t := by omega
@[simp, go_sem] theorem lt_3_4_0 (n : Nat) : n + 1 + 1 + 1 < n + 1 + 1 + 1 + 1 := by omega
@[simp, go_sem] theorem lt_3_4_1 (n s : Nat) : n + 1 + 1 + 1 < n + 1 + 1 + 1 + 1 + s := by omega
@[simp, go_sem] theorem lt_3_4_2 (n s : Nat) : n + 1 + 1 + 1 < n + 1 + 1 + 1 + 1 + s + 1 := by omega
@[simp, go_sem] theorem lt_3_4_3 (n s : Nat) : n + 1 + 1 + 1 < n + 1 + 1 + 1 + 1 + s + 1 + 1 := by omega
@[simp, go_sem] theorem lt_3_4_4 (n s : Nat) : n + 1 + 1 + 1 < n + 1 + 1 + 1 + 1 + s + 1 + 1 + 1 := by omega
@[simp, go_sem] theorem lt_3_4_5 (n s t : Nat) : n + 1 + 1 + 1 < n + 1 + 1 + 1 + 1 + s + t := by omega
@[simp, go_sem] theorem lt_3_4_6 (n s t : Nat) : n + 1 + 1 + 1 < n + 1 + 1 + 1 + 1 + s + 1 + t := by omega
@[simp, go_sem] theorem lt_3_4_7 (n s t : Nat) : n + 1 + 1 + 1 < n + 1 + 1 + 1 + 1 + s + 1 + 1 + t := by omega
@[simp, go_sem] theorem lt_3_4_8 (n s t : Nat) : n + 1 + 1 + 1 < n + 1 + 1 + 1 + 1 + s + 1 + 1 + 1 + t := by omega
@[simp, go_sem] theorem lt_add_r {a b c : Nat} (h : a < b) : a < b + c := by omega
@[simp, go_sem] theorem le_add_r {a b c : Nat} (h : a ≤ b) : a ≤ b + c := by omega

/-- The one is the other with new blocks behind. -/
def Ext (w w' : World) : Prop := ∃ x, w' = ext w x

theorem Ext.below {w w' : World} (h : Ext w w') : Below w.heap.size w w' := by
  obtain ⟨x, rfl⟩ := h
  exact ⟨rfl, rfl, rfl, by simp, fun k hk => ext_heap w x k hk⟩
theorem Ext.of {w w' : World} (h : Below w.heap.size w w') : Ext w w' := by
  obtain ⟨h1, h2, h3, h4, h5⟩ := h
  refine ⟨⟨w'.heap.extract w.heap.size w'.heap.size, w'.drawn⟩, ?_⟩
  have hh : w'.heap = w.heap ++ w'.heap.extract w.heap.size w'.heap.size := by
    apply Array.ext_getElem?
    intro i
    rw [Array.getElem?_append]
    split
    · rename_i h; exact h5 i h
    · rename_i h
      rw [Array.getElem?_extract]
      split
      · congr 1; omega
      · rw [Array.getElem?_eq_none (by omega)]
  cases w'; cases w
  simp only [ext] at *
  subst h1 h2 h3
  rw [← hh]
theorem Ext.refl (w : World) : Ext w w := ⟨⟨#[], w.drawn⟩, by simp [ext]⟩
theorem Ext.trans {a b c : World} (h : Ext a b) (k : Ext b c) : Ext a c := by
  obtain ⟨x, rfl⟩ := h
  obtain ⟨y, rfl⟩ := k
  exact ⟨_, ext_ext a x y⟩
theorem Ext.drew {a b : World} (h : Ext a b) : Ext a b.drew := h.trans ⟨⟨#[], b.drawn + 1⟩, by simp [Go.Proofs.Ytbjignakkkgpgaa.ext]⟩
theorem Ext.drewN {a b : World} (h : Ext a b) (n : Nat) : Ext a (b.drewN n) := h.trans ⟨⟨#[], b.drawn + n⟩, by simp [Go.Proofs.Ytbjignakkkgpgaa.ext]; rfl⟩
theorem Ext.alloc {a b : World} (h : Ext a b) (o : Obj) : Ext a (b.alloc o) := h.trans ⟨⟨#[o], b.drawn⟩, by unfold Go.Proofs.Ytbjignakkkgpgaa.ext World.alloc; simp⟩
theorem Ext.ext {a b : World} (h : Ext a b) (x : Nx) : Ext a (ext b x) := h.trans ⟨x, rfl⟩
theorem Ext.and {a W : World} {x y : Nx} (h : Ext a (Go.Proofs.Ytbjignakkkgpgaa.ext W x)) : Ext a (Go.Proofs.Ytbjignakkkgpgaa.ext W (x.and y)) := h.trans ⟨y, (ext_ext W x y).symm⟩
theorem Ext.drewx {a W : World} {x : Nx} (h : Ext a (Go.Proofs.Ytbjignakkkgpgaa.ext W x)) : Ext a (Go.Proofs.Ytbjignakkkgpgaa.ext W x.drew) := h.drew
theorem Ext.size {a b : World} (h : Ext a b) : a.heap.size ≤ b.heap.size := h.below.size
theorem Ext.setCell {a b : World} (h : Ext a b) {p : Addr} (hp : a.heap.size ≤ p.block) (v : Value) : Ext a (b.setCell p v) := Ext.of (h.below.setCell hp v)

section
variable {P : Program}

theorem Calls.ext_of {f : FuncId} {args : Array Value} {W w : World} {v : Value} (hw : Ext W w) (h : Calls P f args w fun e w' => e = .returned v ∧ Ext w w') :
    Calls P f args w fun e w'' => e = .returned v ∧ ∃ x, w'' = Go.Proofs.Ytbjignakkkgpgaa.ext W x :=
  h.mono fun _ _ ⟨he, hm⟩ => ⟨he, hw.trans hm⟩

/-- At a call inside such a region: the contract, in whatever world of the class. -/
theorem Calls.q {f : FuncId} {args : Array Value} {W : World} {x : Nx} {v : Value} (h : Calls P f args (ext W x) fun e w' => e = .returned v ∧ Ext (ext W x) w') :
    Calls P f args (ext W x) fun e w'' => e = .returned v ∧ ∃ y, w'' = ext W y :=
  Calls.ext_of ⟨x, rfl⟩ h

theorem Calls.qb {f : FuncId} {args : Array Value} {W : World} {x : Nx} {b c : Bool} (hb : b = c) (h : Calls P f args (ext W x) fun e w' => e = .returned (.bool b) ∧ Ext (ext W x) w') :
    Calls P f args (ext W x) fun e w'' => e = .returned (.bool c) ∧ ∃ y, w'' = ext W y := hb ▸ Calls.q h

/-- A region that draws its order, whose own operations only read, and whose callees leave nothing but new blocks: one walk in the order of the text. -/
theorem wp_region_q {id : Nat} {Q : Exit → Act → World → Prop} {a : Act} {w : World} {l : List Oper} (hm : P.follows .mixedOrders = true) (hB : Region.lexB .any l.toArray = true)
    (h : wpQuiet P l.toArray (fun w' => ∃ x, w' = ext w x) (fun a' => ∀ x, Q .normal a' (ext w x)) l a) : (Code.region id l.toArray true).wp P Q a w := by
  refine wp_region_quiet (C := fun w' => ∃ x, w' = ext w x) hm hB (Ext.refl w).drew ?_
  have e : (fun a' => ∀ w', (∃ x, w' = ext w x) → Q .normal a' w') = (fun a' => ∀ x, Q .normal a' (ext w x)) := by
    funext a'
    apply propext
    exact ⟨fun h x => h _ ⟨x, rfl⟩, fun h w' ⟨x, hx⟩ => hx ▸ h x⟩
  rw [e]
  simpa using h
theorem wp_region_qe {id : Nat} {Q : Exit → Act → World → Prop} {a : Act} {W : World} {z : Nx} {l : List Oper} (hm : P.follows .mixedOrders = true) (hB : Region.lexB .any l.toArray = true)
    (h : wpQuiet P l.toArray (fun w' => ∃ x, w' = ext W x) (fun a' => ∀ x, Q .normal a' (ext W x)) l a) : (Code.region id l.toArray true).wp P Q a (ext W z) := by
  refine wp_region_quiet (C := fun w' => ∃ x, w' = ext W x) hm hB ⟨z.drew, rfl⟩ ?_
  have e : (fun a' => ∀ w', (∃ x, w' = ext W x) → Q .normal a' w') = (fun a' => ∀ x, Q .normal a' (ext W x)) := by
    funext a'
    apply propext
    exact ⟨fun h x => h _ ⟨x, rfl⟩, fun h w' ⟨x, hx⟩ => hx ▸ h x⟩
  rw [e]
  simpa using h

/-- A guard that is not decided: both ways. -/
theorem wpQuiet_split {ops : Array Oper} {C : World → Prop} {Q : Act → Prop} {a : Act} {o o2 : Oper} {rest : List Oper} {j d : Nat} {want b : Bool} (_hg : o.guard = some (j, want)) (_hj : ops[j]? = some o2) (_hd : o2.dst = some d) (_hv : a.tmps[d]? = some (.bool b))
    (h1 : b = true → wpQuiet P ops C Q (o :: rest) a) (h2 : b = false → wpQuiet P ops C Q (o :: rest) a) : wpQuiet P ops C Q (o :: rest) a := by
  cases b
  · exact h2 rfl
  · exact h1 rfl
end

end Go.Proofs.Ytbjignakkkgpgaa
