/- Lemmas for it, part 6. No condition. -/
import Derived.Laws.EntriesVeiled
import Derived.Test.YtngehfhcnfobbaaPk2
import Derived.Test.YtngehfhcnfobbaaPk3
import Derived.Test.YtngehfhcnfobbaaPk5
namespace Go.Proofs.Ytngehfhcnfobbaa
open Go Go.RowKit

@[simp, go_sem] theorem ltk_0_1_0 (n s t : Nat) : n < n + 1 + s + 1 + t + 1 := by omega
@[simp, go_sem] theorem ltk_0_1_1 (n s t u : Nat) : n < n + 1 + s + 1 + t + 1 + u := by omega
@[simp, go_sem] theorem ltk_0_1_2 (n s t u : Nat) : n < n + 1 + s + 1 + t + 1 + u + 1 := by omega
@[simp, go_sem] theorem ltk_0_1_3 (n s t u v : Nat) : n < n + 1 + s + 1 + t + 1 + u + 1 + v := by omega
@[simp, go_sem] theorem ltk_0_1_4 (n s t u v : Nat) : n < n + 1 + s + 1 + t + 1 + u + 1 + v + 1 := by omega
@[simp, go_sem] theorem ltk_0_1_5 (n s t u v x : Nat) : n < n + 1 + s + 1 + t + 1 + u + 1 + v + 1 + x := by omega
@[simp, go_sem] theorem ltk_0_2_0 (n s t : Nat) : n < n + 1 + 1 + s + 1 + t + 1 := by omega
@[simp, go_sem] theorem ltk_0_2_1 (n s t u : Nat) : n < n + 1 + 1 + s + 1 + t + 1 + u := by omega
@[simp, go_sem] theorem ltk_0_2_2 (n s t u : Nat) : n < n + 1 + 1 + s + 1 + t + 1 + u + 1 := by omega
@[simp, go_sem] theorem ltk_0_2_3 (n s t u v : Nat) : n < n + 1 + 1 + s + 1 + t + 1 + u + 1 + v := by omega
@[simp, go_sem] theorem ltk_0_2_4 (n s t u v : Nat) : n < n + 1 + 1 + s + 1 + t + 1 + u + 1 + v + 1 := by omega
@[simp, go_sem] theorem ltk_0_2_5 (n s t u v x : Nat) : n < n + 1 + 1 + s + 1 + t + 1 + u + 1 + v + 1 + x := by omega
@[simp, go_sem] theorem ltk_1_2_0 (n s t : Nat) : n + 1 < n + 1 + 1 + s + 1 + t + 1 := by omega
@[simp, go_sem] theorem ltk_1_2_1 (n s t u : Nat) : n + 1 < n + 1 + 1 + s + 1 + t + 1 + u := by omega
@[simp, go_sem] theorem ltk_1_2_2 (n s t u : Nat) : n + 1 < n + 1 + 1 + s + 1 + t + 1 + u + 1 := by omega
@[simp, go_sem] theorem ltk_1_2_3 (n s t u v : Nat) : n + 1 < n + 1 + 1 + s + 1 + t + 1 + u + 1 + v := by omega
@[simp, go_sem] theorem ltk_1_2_4 (n s t u v : Nat) : n + 1 < n + 1 + 1 + s + 1 + t + 1 + u + 1 + v + 1 := by omega
@[simp, go_sem] theorem ltk_1_2_5 (n s t u v x : Nat) : n + 1 < n + 1 + 1 + s + 1 + t + 1 + u + 1 + v + 1 + x := by omega

@[simp, go_sem] theorem ltb_1 {a b c : Nat} (h : a < b) : a ≤ b + c := by omega
@[simp, go_sem] theorem ltb_2 {a b c : Nat} (h : a < b) : a < b + c + 1 := by omega
@[simp, go_sem] theorem ltb_3 {a b c d : Nat} (h : a < b) : a < b + c + 1 + d := by omega
@[simp, go_sem] theorem ltb_4 {a b c d : Nat} (h : a < b) : a ≤ b + c + 1 + d := by omega

/-- Data of the call's own, in blocks from lo on and below hi. -/
def Own2 {α : Type} [Lay α] [Ow α] (lo : Nat) (w : World) (cs : List Value) (d : α) (hi : Nat) : Prop :=
  ∃ fp, Ow.own w cs d fp ∧ fp.Nodup ∧ (∀ b ∈ fp, lo ≤ b) ∧ ∀ b ∈ fp, b < hi
/-- A reading that the first n blocks carry. -/
def Rd2 {α : Type} [Lay α] (n : Nat) (w : World) (cs : List Value) (d : α) : Prop := ∃ w0, Lay.rd w0 cs d ∧ w0.heap.size ≤ n ∧ Below w0.heap.size w0 w
/-- A change of blocks from lo on and below hi. -/
def Chg2 (lo hi : Nat) (w w' : World) : Prop := ∃ fp, Chg fp w w' ∧ (∀ b ∈ fp, lo ≤ b) ∧ ∀ b ∈ fp, b < hi
section
variable {α : Type} [Lay α] {w w' a : World} {cs : List Value} {d : α} {lo hi lo' hi' n : Nat}
theorem Rd2.of (h : Lay.rd w cs d) : Rd2 w.heap.size w cs d := ⟨w, h, Nat.le_refl _, Below.refl _ _⟩
theorem Rd2.later (h : Rd2 n w cs d) (k : Ext w w') : Rd2 n w' cs d := by
  obtain ⟨w0, h1, h2, h3⟩ := h
  exact ⟨w0, h1, h2, h3.trans (k.below.mono h3.size)⟩
theorem Rd2.rd (h : Rd2 n w cs d) : Lay.rd w cs d := by
  obtain ⟨w0, h1, h2, h3⟩ := h
  exact Lay.stays h1 h3
theorem Rd2.chg (h : Rd2 n w cs d) (c : Chg2 lo hi w w') (hn : n ≤ lo) : Rd2 n w' cs d := by
  obtain ⟨w0, h1, h2, h3⟩ := h
  obtain ⟨fp, c1, c2, c3⟩ := c
  exact ⟨w0, h1, h2, h3.trans (c1.below (fun b hb => Nat.le_trans (Nat.le_trans h2 hn) (c2 b hb)) h3.size)⟩
theorem Own2.of [Ow α] {w0 : World} (h : Fresh w0 w cs d) : Own2 w0.heap.size w cs d w.heap.size := by
  obtain ⟨_, fp, h1, h2, h3⟩ := h
  exact ⟨fp, h1, h2, h3, Ow.lt h1⟩
theorem Own2.later [Ow α] (h : Own2 lo w cs d hi) (k : Ext w w') : Own2 lo w' cs d hi := by
  obtain ⟨fp, h1, h2, h3, h4⟩ := h
  exact ⟨fp, Ow.frame h1 (fun b hb => k.below.block b (Ow.lt h1 b hb)), h2, h3, h4⟩
theorem Own2.rd [Ow α] (h : Own2 lo w cs d hi) : Lay.rd w cs d := by
  obtain ⟨fp, h1, _⟩ := h
  exact Ow.rd h1
theorem Own2.chg [Ow α] (h : Own2 lo w cs d hi) (c : Chg2 lo' hi' w w') (hd : hi ≤ lo' ∨ hi' ≤ lo) : Own2 lo w' cs d hi := by
  obtain ⟨fp, h1, h2, h3, h4⟩ := h
  obtain ⟨fq, c1, c2, c3⟩ := c
  refine ⟨fp, Ow.frame h1 (fun b hb => c1.2 b (Ow.lt h1 b hb) (fun hq => ?_)), h2, h3, h4⟩
  have i1 := h3 b hb
  have i2 := h4 b hb
  have i3 := c2 b hq
  have i4 := c3 b hq
  omega
theorem Ext.byChg2 (h : Ext a w) (c : Chg2 lo hi w w') (hn : a.heap.size ≤ lo) : Ext a w' := by
  obtain ⟨fq, c1, c2, c3⟩ := c
  exact h.byChg c1 (fun b hb => Nat.le_trans hn (c2 b hb))
end

theorem Chg2.box {w w' : World} {lo hi b : Nat} {e : TypeId} {cs : List Value} (c : Chg2 lo hi w w') (h : Blk w b e cs) (hs : b < lo ∨ hi ≤ b) : Blk w' b e cs := by
  obtain ⟨fq, c1, c2, c3⟩ := c
  refine h.of_heap (c1.2 b h.lt fun hq => ?_)
  have i1 := c2 b hq
  have i2 := c3 b hq
  omega
theorem Chg2.box0 {V w' : World} {lo hi : Nat} {e : TypeId} {C : Array Value} {X0 : Nx} (c : Chg2 lo hi (ext (V.alloc (.cells C e)) X0) w') (hs : V.heap.size < lo ∨ hi ≤ V.heap.size) : Blk w' V.heap.size e C.toList :=
  c.box ((Blk.new V C e).ext _) hs
theorem Chg2.box1 {V w' : World} {lo hi : Nat} {e : TypeId} {C : Array Value} {X0 X1 : Nx} {o0 : Obj} (c : Chg2 lo hi (ext ((ext (V.alloc (.cells C e)) X1).alloc o0) X0) w') (hs : V.heap.size < lo ∨ hi ≤ V.heap.size) : Blk w' V.heap.size e C.toList :=
  c.box ((((Blk.new V C e).ext _).alloc _).ext _) hs
theorem Chg2.box2 {V w' : World} {lo hi : Nat} {e : TypeId} {C : Array Value} {X0 X1 X2 : Nx} {o0 o1 : Obj} (c : Chg2 lo hi (ext ((ext ((ext (V.alloc (.cells C e)) X2).alloc o1) X1).alloc o0) X0) w') (hs : V.heap.size < lo ∨ hi ≤ V.heap.size) : Blk w' V.heap.size e C.toList :=
  c.box ((((((Blk.new V C e).ext _).alloc _).ext _).alloc _).ext _) hs
theorem Chg2.box3 {V w' : World} {lo hi : Nat} {e : TypeId} {C : Array Value} {X0 X1 X2 X3 : Nx} {o0 o1 o2 : Obj} (c : Chg2 lo hi (ext ((ext ((ext ((ext (V.alloc (.cells C e)) X3).alloc o2) X2).alloc o1) X1).alloc o0) X0) w') (hs : V.heap.size < lo ∨ hi ≤ V.heap.size) : Blk w' V.heap.size e C.toList :=
  c.box ((((((((Blk.new V C e).ext _).alloc _).ext _).alloc _).ext _).alloc _).ext _) hs

/-- How many numbers data that is handed over holds, and what it reads as, written over. -/
class Mt (α : Type) where
  cnt : α → Nat
  ov : α → Int → α
instance {α : Type} [Mk α] : Mt (List α) := ⟨cntL, mkL⟩
/-- They are few: against the size. -/
class CS (α : Type) [Mk α] [Sz α] : Prop where
  le : ∀ d : α, Mk.cnt d ≤ 8 * (1 + Sz.sz d)
class CT (α : Type) [Mt α] [Sz α] : Prop where
  le : ∀ d : α, Mt.cnt d ≤ 8 * Sz.sz d
theorem cntL_sz {α : Type} [Mk α] [Sz α] [CS α] : ∀ l : List α, cntL l ≤ 8 * Sz.sz l
  | [] => Nat.zero_le _
  | d :: l => by
    have h1 := CS.le d
    have h2 := cntL_sz l
    have h3 : Sz.sz (d :: l) = 1 + Sz.sz d + Sz.sz l := by
      show (d :: l).length + ((d :: l).map Sz.sz).sum = 1 + Sz.sz d + (l.length + (l.map Sz.sz).sum)
      simp only [List.length_cons, List.map_cons, List.sum_cons]
      omega
    rw [cntL, h3]
    omega
instance : CS Int := ⟨fun _ => by show 1 ≤ _; omega⟩
instance {α : Type} [Mk α] [Sz α] [CS α] : CS (List α) := ⟨fun l => by
  have := cntL_sz l
  show cntL l ≤ _
  omega⟩
instance {α : Type} [Mk α] [Sz α] [CS α] : CT (List α) := ⟨cntL_sz⟩
theorem cnt_sz {α : Type} [Mt α] [Sz α] [CT α] (d : α) : Mt.cnt d ≤ 8 * Sz.sz d := CT.le d

instance : CS Rg := ⟨fun d => by
  show 2 ≤ _
  omega⟩
instance : CS Cl := ⟨fun d => by
  show 8 ≤ _
  omega⟩
instance : CS Rt := ⟨fun d => by
  have h0 := cntL_sz d.path
  have h1 := cntL_sz d.marks
  show 3 + cntL d.path + cntL d.marks ≤ 8 * (1 + (Sz.sz d.path + Sz.sz d.marks))
  omega⟩
instance : CS Hd := ⟨fun d => by
  show 3 ≤ _
  omega⟩
instance : CS Se := ⟨fun d => by
  have h0 := cntL_sz d.path
  show 4 + cntL d.path ≤ 8 * (1 + (Sz.sz d.path))
  omega⟩
instance : CS Gt := ⟨fun d => by
  have h0 := cntL_sz d.route.path
  have h1 := cntL_sz d.route.marks
  show 4 + cntL d.route.path + cntL d.route.marks ≤ 8 * (1 + ((Sz.sz d.route.path + Sz.sz d.route.marks)))
  omega⟩
instance : CS Rb := ⟨fun d => by
  have h0 := cntL_sz d.all
  show 2 + cntL d.all ≤ 8 * (1 + (Sz.sz d.all))
  omega⟩
instance : CS Dl := ⟨fun d => by
  have h0 := cntL_sz d.drop
  have h1 := cntL_sz d.tell
  show 0 + cntL d.drop + cntL d.tell ≤ 8 * (1 + (Sz.sz d.drop + Sz.sz d.tell))
  omega⟩
instance : CS En := ⟨fun d => by
  show 3 ≤ _
  omega⟩

instance : Mt Rt := ⟨cntTRt, mkTRt⟩
instance : CT Rt := ⟨fun d => by
  have h0 := cntL_sz d.path
  have h1 := cntL_sz d.marks
  show cntL d.path + cntL d.marks ≤ 8 * (Sz.sz d.path + Sz.sz d.marks)
  omega⟩
instance : Mt Se := ⟨cntTSe, mkTSe⟩
instance : CT Se := ⟨fun d => by
  have h0 := cntL_sz d.path
  show cntL d.path ≤ 8 * (Sz.sz d.path)
  omega⟩
instance : Mt Rb := ⟨cntTRb, mkTRb⟩
instance : CT Rb := ⟨fun d => by
  have h0 := cntL_sz d.all
  show cntL d.all ≤ 8 * (Sz.sz d.all)
  omega⟩
instance : Mt Dl := ⟨cntTDl, mkTDl⟩
instance : CT Dl := ⟨fun d => by
  have h0 := cntL_sz d.drop
  have h1 := cntL_sz d.tell
  show cntL d.drop + cntL d.tell ≤ 8 * (Sz.sz d.drop + Sz.sz d.tell)
  omega⟩

theorem markF_Lint {lo hi : Nat} (a : Option Addr) (n c : Nat) (d : (List Int)) (k : Int) (w : World) (h : Own2 lo w [.slice a n c] d hi) (hk0 : 0 ≤ k) (hk1 : k + (Mt.cnt d : Nat) ≤ 4611686018427387904) :
    Calls Try.prog 34 #[.slice a n c, .int .i64 k] w fun e w' => e = .returned (.int .i64 (k + (Mt.cnt d : Nat))) ∧ Chg2 lo hi w w' ∧ Own2 lo w' [.slice a n c] (Mt.ov d k) hi := by
  obtain ⟨fp, ⟨az, nz, cz, e1, ho⟩, hnd, h1, h2⟩ := h
  simp only [List.cons.injEq, Value.slice.injEq, and_true] at e1
  obtain ⟨rfl, rfl, rfl⟩ := e1
  exact (mark_Lint _ _ _ d fp k w ho hnd hk0 hk1).mono fun e w' ⟨he, hc, ho'⟩ => ⟨he, ⟨fp, hc, h1, h2⟩, fp, ⟨_, _, _, rfl, ho'⟩, hnd, h1, h2⟩
theorem heldF_Lint (a : Option Addr) (n c : Nat) (d : (List Int)) (k : Int) (w : World) (h : Lay.rd w [.slice a n c] (Mt.ov d k)) (hk0 : 0 ≤ k) (hk1 : k + (Mt.cnt d : Nat) ≤ 4611686018427387904) :
    Calls Try.prog 35 #[.slice a n c, .int .i64 k] w fun e w' => e = .returned (.int .i64 (k + (Mt.cnt d : Nat))) ∧ Ext w w' :=
  held_Lint _ _ _ d k w (rd_slice h) hk0 hk1
theorem eqF_Lint (a : Option Addr) (n c : Nat) (a' : Option Addr) (n' c' : Nat) (d d' : (List Int)) (w : World) (h : Lay.rd w [.slice a n c] d) (h' : Lay.rd w [.slice a' n' c'] d') :
    Calls Try.prog 38 #[.slice a n c, .slice a' n' c'] w fun e w' => e = .returned (.bool (decide (d = d'))) ∧ Ext w w' :=
  eq_Lint _ _ _ d _ _ _ d' w (rd_slice h) (rd_slice h')

theorem markF_LRg {lo hi : Nat} (a : Option Addr) (n c : Nat) (d : (List Rg)) (k : Int) (w : World) (h : Own2 lo w [.slice a n c] d hi) (hk0 : 0 ≤ k) (hk1 : k + (Mt.cnt d : Nat) ≤ 4611686018427387904) :
    Calls Try.prog 24 #[.slice a n c, .int .i64 k] w fun e w' => e = .returned (.int .i64 (k + (Mt.cnt d : Nat))) ∧ Chg2 lo hi w w' ∧ Own2 lo w' [.slice a n c] (Mt.ov d k) hi := by
  obtain ⟨fp, ⟨az, nz, cz, e1, ho⟩, hnd, h1, h2⟩ := h
  simp only [List.cons.injEq, Value.slice.injEq, and_true] at e1
  obtain ⟨rfl, rfl, rfl⟩ := e1
  exact (mark_LRg _ _ _ d fp k w ho hnd hk0 hk1).mono fun e w' ⟨he, hc, ho'⟩ => ⟨he, ⟨fp, hc, h1, h2⟩, fp, ⟨_, _, _, rfl, ho'⟩, hnd, h1, h2⟩
theorem heldF_LRg (a : Option Addr) (n c : Nat) (d : (List Rg)) (k : Int) (w : World) (h : Lay.rd w [.slice a n c] (Mt.ov d k)) (hk0 : 0 ≤ k) (hk1 : k + (Mt.cnt d : Nat) ≤ 4611686018427387904) :
    Calls Try.prog 26 #[.slice a n c, .int .i64 k] w fun e w' => e = .returned (.int .i64 (k + (Mt.cnt d : Nat))) ∧ Ext w w' :=
  held_LRg _ _ _ d k w (rd_slice h) hk0 hk1
theorem eqF_LRg (a : Option Addr) (n c : Nat) (a' : Option Addr) (n' c' : Nat) (d d' : (List Rg)) (w : World) (h : Lay.rd w [.slice a n c] d) (h' : Lay.rd w [.slice a' n' c'] d') :
    Calls Try.prog 22 #[.slice a n c, .slice a' n' c'] w fun e w' => e = .returned (.bool (decide (d = d'))) ∧ Ext w w' :=
  eq_LRg _ _ _ d _ _ _ d' w (rd_slice h) (rd_slice h')









theorem markF_LRt {lo hi : Nat} (a : Option Addr) (n c : Nat) (d : (List Rt)) (k : Int) (w : World) (h : Own2 lo w [.slice a n c] d hi) (hk0 : 0 ≤ k) (hk1 : k + (Mt.cnt d : Nat) ≤ 4611686018427387904) :
    Calls Try.prog 25 #[.slice a n c, .int .i64 k] w fun e w' => e = .returned (.int .i64 (k + (Mt.cnt d : Nat))) ∧ Chg2 lo hi w w' ∧ Own2 lo w' [.slice a n c] (Mt.ov d k) hi := by
  obtain ⟨fp, ⟨az, nz, cz, e1, ho⟩, hnd, h1, h2⟩ := h
  simp only [List.cons.injEq, Value.slice.injEq, and_true] at e1
  obtain ⟨rfl, rfl, rfl⟩ := e1
  exact (mark_LRt _ _ _ d fp k w ho hnd hk0 hk1).mono fun e w' ⟨he, hc, ho'⟩ => ⟨he, ⟨fp, hc, h1, h2⟩, fp, ⟨_, _, _, rfl, ho'⟩, hnd, h1, h2⟩
theorem heldF_LRt (a : Option Addr) (n c : Nat) (d : (List Rt)) (k : Int) (w : World) (h : Lay.rd w [.slice a n c] (Mt.ov d k)) (hk0 : 0 ≤ k) (hk1 : k + (Mt.cnt d : Nat) ≤ 4611686018427387904) :
    Calls Try.prog 27 #[.slice a n c, .int .i64 k] w fun e w' => e = .returned (.int .i64 (k + (Mt.cnt d : Nat))) ∧ Ext w w' :=
  held_LRt _ _ _ d k w (rd_slice h) hk0 hk1
theorem eqF_LRt (a : Option Addr) (n c : Nat) (a' : Option Addr) (n' c' : Nat) (d d' : (List Rt)) (w : World) (h : Lay.rd w [.slice a n c] d) (h' : Lay.rd w [.slice a' n' c'] d') :
    Calls Try.prog 23 #[.slice a n c, .slice a' n' c'] w fun e w' => e = .returned (.bool (decide (d = d'))) ∧ Ext w w' :=
  eq_LRt _ _ _ d _ _ _ d' w (rd_slice h) (rd_slice h')







theorem markF_LDl {lo hi : Nat} (a : Option Addr) (n c : Nat) (d : (List Dl)) (k : Int) (w : World) (h : Own2 lo w [.slice a n c] d hi) (hk0 : 0 ≤ k) (hk1 : k + (Mt.cnt d : Nat) ≤ 4611686018427387904) :
    Calls Try.prog 11 #[.slice a n c, .int .i64 k] w fun e w' => e = .returned (.int .i64 (k + (Mt.cnt d : Nat))) ∧ Chg2 lo hi w w' ∧ Own2 lo w' [.slice a n c] (Mt.ov d k) hi := by
  obtain ⟨fp, ⟨az, nz, cz, e1, ho⟩, hnd, h1, h2⟩ := h
  simp only [List.cons.injEq, Value.slice.injEq, and_true] at e1
  obtain ⟨rfl, rfl, rfl⟩ := e1
  exact (mark_LDl _ _ _ d fp k w ho hnd hk0 hk1).mono fun e w' ⟨he, hc, ho'⟩ => ⟨he, ⟨fp, hc, h1, h2⟩, fp, ⟨_, _, _, rfl, ho'⟩, hnd, h1, h2⟩
theorem heldF_LDl (a : Option Addr) (n c : Nat) (d : (List Dl)) (k : Int) (w : World) (h : Lay.rd w [.slice a n c] (Mt.ov d k)) (hk0 : 0 ≤ k) (hk1 : k + (Mt.cnt d : Nat) ≤ 4611686018427387904) :
    Calls Try.prog 12 #[.slice a n c, .int .i64 k] w fun e w' => e = .returned (.int .i64 (k + (Mt.cnt d : Nat))) ∧ Ext w w' :=
  held_LDl _ _ _ d k w (rd_slice h) hk0 hk1
theorem eqF_LDl (a : Option Addr) (n c : Nat) (a' : Option Addr) (n' c' : Nat) (d d' : (List Dl)) (w : World) (h : Lay.rd w [.slice a n c] d) (h' : Lay.rd w [.slice a' n' c'] d') :
    Calls Try.prog 8 #[.slice a n c, .slice a' n' c'] w fun e w' => e = .returned (.bool (decide (d = d'))) ∧ Ext w w' :=
  eq_LDl _ _ _ d _ _ _ d' w (rd_slice h) (rd_slice h')

theorem parts_Rt {w : World} {a_path n_path c_path a_marks n_marks c_marks} {d : Rt} (h : Lay.rd w [.int .i64 d.r.f, .int .i64 d.r.b, .slice a_path n_path c_path, .int .i64 d.like, .slice a_marks n_marks c_marks] d) : SlRd w a_path n_path c_path d.path ∧ SlRd w a_marks n_marks c_marks d.marks := by
  obtain ⟨a_pathz, n_pathz, c_pathz, a_marksz, n_marksz, c_marksz, e, h0, h1, h2, h3, h4⟩ := h
  simp only [List.cons.injEq, Value.slice.injEq, and_true, true_and] at e
  obtain ⟨⟨rfl, rfl, rfl⟩, ⟨rfl, rfl, rfl⟩⟩ := e
  exact ⟨h2, h4⟩
theorem eqF_Rt (a_path : Option Addr) (n_path c_path : Nat) (a_marks : Option Addr) (n_marks c_marks : Nat) (a_path' : Option Addr) (n_path' c_path' : Nat) (a_marks' : Option Addr) (n_marks' c_marks' : Nat) (d d' : Rt) (w : World) (h : Lay.rd w [.int .i64 d.r.f, .int .i64 d.r.b, .slice a_path n_path c_path, .int .i64 d.like, .slice a_marks n_marks c_marks] d) (h' : Lay.rd w [.int .i64 d'.r.f, .int .i64 d'.r.b, .slice a_path' n_path' c_path', .int .i64 d'.like, .slice a_marks' n_marks' c_marks'] d') :
    Calls Try.prog 33 #[.agg #[.int .i64 d.r.f, .int .i64 d.r.b, .slice a_path n_path c_path, .int .i64 d.like, .slice a_marks n_marks c_marks], .agg #[.int .i64 d'.r.f, .int .i64 d'.r.b, .slice a_path' n_path' c_path', .int .i64 d'.like, .slice a_marks' n_marks' c_marks']] w fun e w' => e = .returned (.bool (decide (d = d'))) ∧ Ext w w' :=
  eq_Rt d d' _ _ _ _ _ _ _ _ _ _ _ _ w (parts_Rt h).1 (parts_Rt h').1 (parts_Rt h).2 (parts_Rt h').2

theorem parts_Se {w : World} {a_path n_path c_path} {d : Se} (h : Lay.rd w [.int .i64 d.sby, .int .i64 d.to, .int .i64 d.r.f, .int .i64 d.r.b, .slice a_path n_path c_path] d) : SlRd w a_path n_path c_path d.path := by
  obtain ⟨a_pathz, n_pathz, c_pathz, e, h0, h1, h2, h3, h4⟩ := h
  simp only [List.cons.injEq, Value.slice.injEq, and_true, true_and] at e
  obtain ⟨rfl, rfl, rfl⟩ := e
  exact h4

theorem parts_Rb {w : World} {a_all n_all c_all} {d : Rb} (h : Lay.rd w [.int .i64 d.house, .bool d.up, .slice a_all n_all c_all] d) : SlRd w a_all n_all c_all d.all := by
  obtain ⟨a_allz, n_allz, c_allz, e, h0, h1⟩ := h
  simp only [List.cons.injEq, Value.slice.injEq, and_true, true_and] at e
  obtain ⟨rfl, rfl, rfl⟩ := e
  exact h1

theorem parts_Dl {w : World} {a_drop n_drop c_drop a_tell n_tell c_tell} {d : Dl} (h : Lay.rd w [.slice a_drop n_drop c_drop, .slice a_tell n_tell c_tell] d) : SlRd w a_drop n_drop c_drop d.drop ∧ SlRd w a_tell n_tell c_tell d.tell := by
  obtain ⟨a_dropz, n_dropz, c_dropz, a_tellz, n_tellz, c_tellz, e, h0, h1⟩ := h
  simp only [List.cons.injEq, Value.slice.injEq, and_true] at e
  obtain ⟨⟨rfl, rfl, rfl⟩, ⟨rfl, rfl, rfl⟩⟩ := e
  exact ⟨h0, h1⟩
theorem markF_Dl {lo hi : Nat} (a_drop : Option Addr) (n_drop c_drop : Nat) (a_tell : Option Addr) (n_tell c_tell : Nat) (d : Dl) (k : Int) (w : World) (h : Own2 lo w [.slice a_drop n_drop c_drop, .slice a_tell n_tell c_tell] d hi) (hk0 : 0 ≤ k) (hk1 : k + (Mt.cnt d : Nat) ≤ 4611686018427387904) :
    Calls Try.prog 10 #[.agg #[.slice a_drop n_drop c_drop, .slice a_tell n_tell c_tell], .int .i64 k] w fun e w' => e = .returned (.int .i64 (k + (Mt.cnt d : Nat))) ∧ Chg2 lo hi w w' ∧ Own2 lo w' [.slice a_drop n_drop c_drop, .slice a_tell n_tell c_tell] (Mt.ov d k) hi := by
  obtain ⟨fp, ⟨a_dropz, n_dropz, c_dropz, a_tellz, n_tellz, c_tellz, pz0, pz1, e1, hz0, hz1, ef⟩, hnd, h1, h2⟩ := h
  simp only [List.cons.injEq, Value.slice.injEq, and_true] at e1
  obtain ⟨⟨rfl, rfl, rfl⟩, ⟨rfl, rfl, rfl⟩⟩ := e1
  subst ef
  exact (mark_Dl d _ _ _ _ _ _ pz0 pz1 k w hz0 hz1 hnd hk0 hk1).mono fun e w' ⟨he, hc, ho0, ho1⟩ => ⟨he, ⟨_, hc, h1, h2⟩, _, ⟨_, _, _, _, _, _, _, _, rfl, ho0, ho1, rfl⟩, hnd, h1, h2⟩
theorem eqF_Dl (a_drop : Option Addr) (n_drop c_drop : Nat) (a_tell : Option Addr) (n_tell c_tell : Nat) (a_drop' : Option Addr) (n_drop' c_drop' : Nat) (a_tell' : Option Addr) (n_tell' c_tell' : Nat) (d d' : Dl) (w : World) (h : Lay.rd w [.slice a_drop n_drop c_drop, .slice a_tell n_tell c_tell] d) (h' : Lay.rd w [.slice a_drop' n_drop' c_drop', .slice a_tell' n_tell' c_tell'] d') :
    Calls Try.prog 9 #[.agg #[.slice a_drop n_drop c_drop, .slice a_tell n_tell c_tell], .agg #[.slice a_drop' n_drop' c_drop', .slice a_tell' n_tell' c_tell']] w fun e w' => e = .returned (.bool (decide (d = d'))) ∧ Ext w w' :=
  eq_Dl d d' _ _ _ _ _ _ _ _ _ _ _ _ w (parts_Dl h).1 (parts_Dl h').1 (parts_Dl h).2 (parts_Dl h').2

theorem cntL_flat {α : Type} [Mk α] {n : Nat} : ∀ (l : List α), (∀ d : α, Mk.cnt d = n) → cntL l = n * l.length
  | [], _ => rfl
  | d :: l, h => by rw [cntL, h, cntL_flat l h, List.length_cons, Nat.mul_add]; omega

end Go.Proofs.Ytngehfhcnfobbaa
namespace Go.Proofs.Ytngehfhcnfobbaa
open Go Go.RowKit

section
variable {α : Type} [Lay α] {N M : Nat} {e : TypeId} {w w' : World} {v : Value} {l : List α}
theorem AccF.setNe [Ow α] [FlO α] (h : AccF N e w v l) {b o : Nat} (hb : v.ownBlock ≠ some b) (u : Value) : AccF N e (w.setCell ⟨b, o, none⟩ u) v l := by
  obtain ⟨xs, h1, h2⟩ := h
  exact ⟨xs, ownsRow_set h1 _ u hb, h2.any _⟩
theorem AccF.low (h : AccF N e w v l) : ∀ b, v.ownBlock = some b → N ≤ b ∧ b < w.heap.size := by
  obtain ⟨xs, h1, _⟩ := h
  exact h1.lt
theorem AccF.kept [Ow α] [FlO α] (h : AccF N e w v l) {row : Option Nat} (hg : w.grownBy w' row) (hne : ∀ b, row = some b → v.ownBlock ≠ some b) : AccF N e w' v l := by
  obtain ⟨xs, h1, h2⟩ := h
  refine ⟨xs, h1.kept hg ?_, h2.any _⟩
  cases hv : v.ownBlock with
  | none => exact .inl rfl
  | some g => exact .inr (fun e => hne g e.symm hv)
end

/-- The two lists of a route, of the call's own, each in a block of its own. -/
def Cp (lo : Nat) (w : World) (v1 v2 : Value) (l1 l2 : List Int) : Prop := AccF lo 3 w v1 l1 ∧ AccF lo 3 w v2 l2 ∧ ∀ b, v1.ownBlock = some b → v2.ownBlock ≠ some b
section
variable {lo lo' : Nat} {w w' : World} {v1 v2 : Value} {l1 l2 : List Int}
theorem Cp.ext (h : Cp lo w v1 v2 l1 l2) (k : Ext w w') : Cp lo w' v1 v2 l1 l2 := ⟨h.1.ext k, h.2.1.ext k, h.2.2⟩
theorem Cp.base (h : Cp lo w v1 v2 l1 l2) (k : lo' ≤ lo) : Cp lo' w v1 v2 l1 l2 := ⟨h.1.base k, h.2.1.base k, h.2.2⟩
theorem Cp.set (h : Cp lo w v1 v2 l1 l2) {b o : Nat} (h1 : v1.ownBlock ≠ some b) (h2 : v2.ownBlock ≠ some b) (u : Value) : Cp lo (w.setCell ⟨b, o, none⟩ u) v1 v2 l1 l2 := ⟨h.1.setNe h1 u, h.2.1.setNe h2 u, h.2.2⟩
theorem Cp.setLow (h : Cp lo w v1 v2 l1 l2) {b o : Nat} (hb : b < lo) (u : Value) : Cp lo (w.setCell ⟨b, o, none⟩ u) v1 v2 l1 l2 :=
  h.set (fun e => by have := (h.1.low b e).1; omega) (fun e => by have := (h.2.1.low b e).1; omega) u
theorem Cp.of {w1 : World} (h1 : AccF lo 3 w1 v1 l1) (hE : Ext w1 w) (h2 : AccF w1.heap.size 3 w v2 l2) (hlo : lo ≤ w1.heap.size) : Cp lo w v1 v2 l1 l2 :=
  ⟨h1.ext hE, h2.base hlo, fun b e e2 => by have := (h1.low b e).2; have := (h2.low b e2).1; omega⟩
theorem AccF.own [OneC Int] {a : Option Addr} {n c : Nat} {l : List Int} (h : AccF lo 3 w (.slice a n c) l) : ∃ fp, OwSl w a n c l fp ∧ fp.Nodup ∧ ∀ b ∈ fp, (Value.slice a n c).ownBlock = some b := by
  obtain ⟨xs, h1, h2⟩ := h
  obtain ⟨a', cap, e, hlc, hcm, ha, _⟩ := ownsRow_shape h1
  simp only [Value.slice.injEq] at e
  obtain ⟨rfl, rfl, rfl⟩ := e
  rcases Nat.eq_zero_or_pos l.length with h0 | h0
  · obtain rfl := List.eq_nil_of_length_eq_zero h0
    exact ⟨[], ⟨rfl, hlc, hcm, ha, .inl ⟨rfl, rfl⟩⟩, by simp, by simp⟩
  · obtain ⟨g, cur, rfl, hb, hl, ht⟩ := ownsRow_cur h1 h0
    refine ⟨[g], ⟨rfl, hlc, hcm, (fun h => by cases h), .inr ⟨g, _, cur, l.map (fun _ => []), rfl, hb, hl, by simp, ?_, fun i d f hd hf => ?_⟩⟩, by simp, fun b hb => by simp at hb; subst hb; rfl⟩
    · have : (l.map fun _ => ([] : List Nat)).flatten = [] := by simp
      rw [this]
    · obtain ⟨ys, z1, z2, z3⟩ := h2.2 i d hd
      obtain rfl : f = [] := by
        rw [List.getElem?_map, hd] at hf; exact (Option.some.inj hf).symm
      refine ⟨ys, z1, fun t u hu => ?_, FlO.own z3⟩
      have := z2 t u hu
      rw [← ht, List.getElem?_take] at this
      split at this
      · exact this
      · cases this
theorem Cp.shape (h : Cp lo w v1 v2 l1 l2) : ∃ a1 n1 c1 a2 n2 c2, v1 = .slice a1 n1 c1 ∧ v2 = .slice a2 n2 c2 := by
  obtain ⟨a1, n1, c1, rfl⟩ := h.1.shapeL
  obtain ⟨a2, n2, c2, rfl⟩ := h.2.1.shapeL
  exact ⟨_, _, _, _, _, _, rfl, rfl⟩
end

/-- A route of the call's own. -/
theorem Cp.fresh {w0 w : World} {lo : Nat} {a1 a2 : Option Addr} {n1 c1 n2 c2 : Nat} {d : Rt} (h : Cp lo w (.slice a1 n1 c1) (.slice a2 n2 c2) d.path d.marks) (hE : Ext w0 w) (hlo : w0.heap.size ≤ lo) (i1 : I64 d.r.f) (i2 : I64 d.r.b) (i3 : I64 d.like) :
    Fresh w0 w [.int .i64 d.r.f, .int .i64 d.r.b, .slice a1 n1 c1, .int .i64 d.like, .slice a2 n2 c2] d := by
  obtain ⟨fp1, o1, nd1, b1⟩ := h.1.own
  obtain ⟨fp2, o2, nd2, b2⟩ := h.2.1.own
  refine ⟨hE, fp1 ++ fp2, ⟨_, _, _, _, _, _, fp1, fp2, rfl, i1, i2, o1, i3, o2, rfl⟩, ?_, fun b hb => ?_⟩
  · exact List.nodup_append.2 ⟨nd1, nd2, fun x hx y hy e => by subst e; exact h.2.2 x (b1 x hx) (b2 x hy)⟩
  · rcases List.mem_append.1 hb with hb | hb
    · exact Nat.le_trans hlo (h.1.low b (b1 b hb)).1
    · exact Nat.le_trans hlo (h.2.1.low b (b2 b hb)).1
theorem Cp.fin {w0 w : World} {lo : Nat} {a1 a2 : Option Addr} {n1 c1 n2 c2 : Nat} {d : Rt} (h : Cp lo w (.slice a1 n1 c1) (.slice a2 n2 c2) d.path d.marks) (hE : Ext w0 w) (hlo : w0.heap.size ≤ lo) (i1 : I64 d.r.f) (i2 : I64 d.r.b) (i3 : I64 d.like) :
    ∃ x, w = Go.Proofs.Ytngehfhcnfobbaa.ext w0 x ∧ Hid (Fresh w0 (Go.Proofs.Ytngehfhcnfobbaa.ext w0 x) [.int .i64 d.r.f, .int .i64 d.r.b, .slice a1 n1 c1, .int .i64 d.like, .slice a2 n2 c2] d) := by
  have hf := h.fresh hE hlo i1 i2 i3
  obtain ⟨x, rfl⟩ := hE
  exact ⟨x, rfl, hf⟩

set_option maxRecDepth 20000 in
set_option maxHeartbeats 4000000 in
theorem copyRoute_any (f b like : Int) (a1 : Option Addr) (n1 c1 : Nat) (l1 : List Int) (a2 : Option Addr) (n2 c2 : Nat) (l2 : List Int) (w : World) (h1 : SlRd w a1 n1 c1 l1) (h2 : SlRd w a2 n2 c2 l2) (k1 : n1 ≤ 1000000000) (k2 : n2 ≤ 1000000000) :
    Calls Try.prog 21 #[.agg #[.int .i64 f, .int .i64 b, .slice a1 n1 c1, .int .i64 like, .slice a2 n2 c2]] w fun e w' => ∃ b1 m1 d1 b2 m2 d2, e = .returned (.agg #[.int .i64 f, .int .i64 b, .slice b1 m1 d1, .int .i64 like, .slice b2 m2 d2]) ∧ Cp w.heap.size w' (.slice b1 m1 d1) (.slice b2 m2 d2) l1 l2 ∧ Ext w w' := by
  have H1 := hidden h1
  have H2 := hidden h2
  have tk := True.intro
  clear h1 h2
  go_enter Try.func21, Try.ntmps21
  go_wp2_with (first | (first | ((go_at_call 31; have _t := tk; (with_reducible refine (cloneA_int _ _ _ l1 _ (H1.out.stays ((by repeat (first | with_reducible exact Ext.refl _ | with_reducible apply Ext.and | with_reducible apply Ext.drewx | with_reducible apply Ext.alloc | with_reducible apply Ext.ext | with_reducible apply Ext.drew | with_reducible refine Ext.setCell ?_ (by simp) _)) : Ext _ _).below) k1).mono ?_); rintro _ w1 ⟨v1, rfl, hA1, y1, rfl⟩; obtain ⟨b1, m1, d1, rfl⟩ := hA1.shapeL; have HA1 := hidden hA1; clear hA1 tk _t)) | ((go_at_call 31; (with_reducible refine (cloneA_int _ _ _ l2 _ (H2.out.stays ((by repeat (first | with_reducible exact Ext.refl _ | with_reducible apply Ext.and | with_reducible apply Ext.drewx | with_reducible apply Ext.alloc | with_reducible apply Ext.ext | with_reducible apply Ext.drew | with_reducible refine Ext.setCell ?_ (by simp) _)) : Ext _ _).below) k2).mono ?_); rintro _ w2 ⟨v2, rfl, hA2, y2, rfl⟩; obtain ⟨b2, m2, d2, rfl⟩ := hA2.shapeL; (try rw [ext_ext] at hA2); have HA2 := hidden hA2; clear hA2))) | ((first | with_reducible refine wp_region_qe (by kernel_rfl) (by kernel_rfl) ?_ | with_reducible refine wp_region_q (by kernel_rfl) (by kernel_rfl) ?_); (repeat' (first | go_big_quiet_step ((first | ((go_at_call 31; have _t := tk; (with_reducible refine (cloneA_int _ _ _ l1 _ (H1.out.stays ((by repeat (first | with_reducible exact Ext.refl _ | with_reducible apply Ext.and | with_reducible apply Ext.drewx | with_reducible apply Ext.alloc | with_reducible apply Ext.ext | with_reducible apply Ext.drew | with_reducible refine Ext.setCell ?_ (by simp) _)) : Ext _ _).below) k1).mono ?_); rintro _ w1 ⟨v1, rfl, hA1, y1, rfl⟩; obtain ⟨b1, m1, d1, rfl⟩ := hA1.shapeL; have HA1 := hidden hA1; clear hA1 tk _t)) | ((go_at_call 31; (with_reducible refine (cloneA_int _ _ _ l2 _ (H2.out.stays ((by repeat (first | with_reducible exact Ext.refl _ | with_reducible apply Ext.and | with_reducible apply Ext.drewx | with_reducible apply Ext.alloc | with_reducible apply Ext.ext | with_reducible apply Ext.drew | with_reducible refine Ext.setCell ?_ (by simp) _)) : Ext _ _).below) k2).mono ?_); rintro _ w2 ⟨v2, rfl, hA2, y2, rfl⟩; obtain ⟨b2, m2, d2, rfl⟩ := hA2.shapeL; (try rw [ext_ext] at hA2); have HA2 := hidden hA2; clear hA2)))) | (refine wpQuiet_split rfl rfl rfl rfl (fun hsp => ?_) (fun hsp => ?_); ((fail_if_success (cases hsp; done)); simp only [hsp]; (try first | have hsq : _ < _ := of_decide_eq_true hsp | have hsq : _ ≤ _ := of_decide_eq_true hsp | have hsq : ¬ _ < _ := of_decide_eq_false hsp | have hsq : ¬ _ ≤ _ := of_decide_eq_false hsp)); rotate_left; ((fail_if_success (cases hsp; done)); simp only [hsp]; (try first | have hsq : _ < _ := of_decide_eq_true hsp | have hsq : _ ≤ _ := of_decide_eq_true hsp | have hsq : ¬ _ < _ := of_decide_eq_false hsp | have hsq : ¬ _ ≤ _ := of_decide_eq_false hsp))))); (all_goals (refine wpQuiet_nil ?_; intro x))) | ((first | with_reducible refine wp_region_seqSe (by kernel_rfl) (by kernel_rfl) ?_ | with_reducible refine wp_region_seqSw (by kernel_rfl) (by kernel_rfl) ?_); (repeat' (first | ((with_reducible refine wpSeqS_pure (by with_unfolding_all rfl) (fun Kq hKq => ?_)); (repeat' (first | go_big_quiet_step (fail) | (refine wpQuiet_split rfl rfl rfl rfl (fun hsp => ?_) (fun hsp => ?_); ((fail_if_success (cases hsp; done)); simp only [hsp]; (try first | have hsq : _ < _ := of_decide_eq_true hsp | have hsq : _ ≤ _ := of_decide_eq_true hsp | have hsq : ¬ _ < _ := of_decide_eq_false hsp | have hsq : ¬ _ ≤ _ := of_decide_eq_false hsp)); rotate_left; ((fail_if_success (cases hsp; done)); simp only [hsp]; (try first | have hsq : _ < _ := of_decide_eq_true hsp | have hsq : _ ≤ _ := of_decide_eq_true hsp | have hsq : ¬ _ < _ := of_decide_eq_false hsp | have hsq : ¬ _ ≤ _ := of_decide_eq_false hsp))))); (all_goals (refine wpQuiet_nil ?_; refine hKq _ ?_; clear hKq Kq))) | ((with_reducible refine wpSeqS_load (by with_unfolding_all rfl) (fun Kq hKq => ?_)); (repeat' (first | go_big_quiet_step (fail) | (refine wpQuiet_split rfl rfl rfl rfl (fun hsp => ?_) (fun hsp => ?_); ((fail_if_success (cases hsp; done)); simp only [hsp]; (try first | have hsq : _ < _ := of_decide_eq_true hsp | have hsq : _ ≤ _ := of_decide_eq_true hsp | have hsq : ¬ _ < _ := of_decide_eq_false hsp | have hsq : ¬ _ ≤ _ := of_decide_eq_false hsp)); rotate_left; ((fail_if_success (cases hsp; done)); simp only [hsp]; (try first | have hsq : _ < _ := of_decide_eq_true hsp | have hsq : _ ≤ _ := of_decide_eq_true hsp | have hsq : ¬ _ < _ := of_decide_eq_false hsp | have hsq : ¬ _ ≤ _ := of_decide_eq_false hsp))))); (all_goals (refine wpQuiet_nil ?_; refine hKq _ ?_; clear hKq Kq))) | ((with_reducible refine wpSeqS_act (by with_unfolding_all rfl) (fun Q' hQ' => ?_)); (go_wp2_with (first | ((go_at_call 31; have _t := tk; (with_reducible refine (cloneA_int _ _ _ l1 _ (H1.out.stays ((by repeat (first | with_reducible exact Ext.refl _ | with_reducible apply Ext.and | with_reducible apply Ext.drewx | with_reducible apply Ext.alloc | with_reducible apply Ext.ext | with_reducible apply Ext.drew | with_reducible refine Ext.setCell ?_ (by simp) _)) : Ext _ _).below) k1).mono ?_); rintro _ w1 ⟨v1, rfl, hA1, y1, rfl⟩; obtain ⟨b1, m1, d1, rfl⟩ := hA1.shapeL; have HA1 := hidden hA1; clear hA1 tk _t)) | ((go_at_call 31; (with_reducible refine (cloneA_int _ _ _ l2 _ (H2.out.stays ((by repeat (first | with_reducible exact Ext.refl _ | with_reducible apply Ext.and | with_reducible apply Ext.drewx | with_reducible apply Ext.alloc | with_reducible apply Ext.ext | with_reducible apply Ext.drew | with_reducible refine Ext.setCell ?_ (by simp) _)) : Ext _ _).below) k2).mono ?_); rintro _ w2 ⟨v2, rfl, hA2, y2, rfl⟩; obtain ⟨b2, m2, d2, rfl⟩ := hA2.shapeL; (try rw [ext_ext] at hA2); have HA2 := hidden hA2; clear hA2)))); (all_goals (refine hQ' _ _ rfl ?_ ?_; (first | (focus (intro hbk; simp [brkB] at hbk; done)) | (focus (intro _; change Ext _ _; exact (by repeat (first | with_reducible assumption | with_reducible exact Ext.refl _ | with_reducible apply Ext.and | with_reducible apply Ext.drewx | with_reducible apply Ext.alloc | with_reducible apply Ext.ext | with_reducible apply Ext.drew | with_reducible refine Ext.setCell ?_ (by simp) _))))); clear hQ' Q'))))); (all_goals ((with_reducible refine wpSeqS_nil ?_)))))
  have hC := (Cp.of (lo := w.heap.size) (HA1.out.base ((by repeat (first | with_reducible exact Ext.refl _ | with_reducible apply Ext.and | with_reducible apply Ext.drewx | with_reducible apply Ext.alloc | with_reducible apply Ext.ext | with_reducible apply Ext.drew | with_reducible refine Ext.setCell ?_ (by simp) _)) : Ext w _).size) ((by repeat (first | with_reducible exact Ext.refl _ | with_reducible apply Ext.and | with_reducible apply Ext.drewx | with_reducible apply Ext.alloc | with_reducible apply Ext.ext | with_reducible apply Ext.drew | with_reducible refine Ext.setCell ?_ (by simp) _)) : Ext _ _) HA2.out ((by repeat (first | with_reducible exact Ext.refl _ | with_reducible apply Ext.and | with_reducible apply Ext.drewx | with_reducible apply Ext.alloc | with_reducible apply Ext.ext | with_reducible apply Ext.drew | with_reducible refine Ext.setCell ?_ (by simp) _)) : Ext w _).size)
  have e1 : ∀ b, b < w.heap.size + 2 → (Value.slice b1 m1 d1).ownBlock ≠ some b := fun b hb e => by have := (HA1.out.low b e).1; simp at this; omega
  have e2 : ∀ b, b < w.heap.size + 2 → (Value.slice b2 m2 d2).ownBlock ≠ some b := fun b hb e => by have := (HA2.out.low b e).1; simp at this; omega
  exact bodyPost_ret (v := .agg #[.int .i64 f, .int .i64 b, .slice b1 m1 d1, .int .i64 like, .slice b2 m2 d2]) (by simp [results, Try.results21, go_sem]) rfl ⟨_, _, _, _, _, _, rfl, by (repeat (first | with_reducible exact hC | with_reducible refine Cp.set ?_ (e1 _ (by omega)) (e2 _ (by omega)) _)), by (repeat (first | with_reducible exact Ext.refl _ | with_reducible apply Ext.and | with_reducible apply Ext.drewx | with_reducible apply Ext.alloc | with_reducible apply Ext.ext | with_reducible apply Ext.drew | with_reducible refine Ext.setCell ?_ (by simp) _))⟩

end Go.Proofs.Ytngehfhcnfobbaa
namespace Go.Proofs.Ytngehfhcnfobbaa
open Go Go.RowKit

/-- A row of cells that is a list of the call's own; each element's blocks. -/
def RowOw {α : Type} [Lay α] [Ow α] (w : World) (xs : List Value) (l : List α) (fps : List (List Nat)) : Prop :=
  xs.length = l.length * Lay.n α ∧ fps.length = l.length ∧ ∀ (i : Nat) (d : α) (f : List Nat), l[i]? = some d → fps[i]? = some f → ∃ ys, ys.length = Lay.n α ∧ Elt xs (Lay.n α) i ys ∧ Ow.own w ys d f

section
variable {α : Type} [Lay α] [Ow α] {w w' : World} {xs ys : List Value} {l m : List α} {fps fqs : List (List Nat)}
theorem RowOw.rd (h : RowOw w xs l fps) : RowRd w xs l := ⟨h.1, fun i d hd => by
  have hi := (List.getElem?_eq_some_iff.1 hd).1
  obtain ⟨ys, z1, z2, z3⟩ := h.2.2 i d _ hd (List.getElem?_eq_getElem (by rw [h.2.1]; exact hi))
  exact ⟨ys, z1, z2, Ow.rd z3⟩⟩
theorem RowOw.nil : RowOw w [] ([] : List α) [] := ⟨by simp, rfl, fun i d f h => by simp at h⟩
theorem RowOw.frame (h : RowOw w xs l fps) (k : ∀ b ∈ fps.flatten, w'.heap[b]? = w.heap[b]?) : RowOw w' xs l fps :=
  ⟨h.1, h.2.1, fun i d f hd hf => by
    obtain ⟨ys, z1, z2, z3⟩ := h.2.2 i d f hd hf
    exact ⟨ys, z1, z2, Ow.frame z3 fun b hb => k b (List.mem_flatten.2 ⟨f, List.mem_of_getElem? hf, hb⟩)⟩⟩
theorem RowOw.lt (h : RowOw w xs l fps) : ∀ b ∈ fps.flatten, b < w.heap.size := fun b hb => by
  obtain ⟨f, hf, hb⟩ := List.mem_flatten.1 hb
  obtain ⟨i, hi, rfl⟩ := List.mem_iff_getElem.1 hf
  obtain ⟨ys, _, _, z3⟩ := h.2.2 i _ _ (List.getElem?_eq_getElem (by rw [← h.2.1]; exact hi)) (List.getElem?_eq_getElem hi)
  exact Ow.lt z3 b hb
theorem RowOw.single {d : α} {f : List Nat} (h : Ow.own w ys d f) (hl : ys.length = Lay.n α) : RowOw w ys [d] [f] := ⟨by simp [hl], rfl, fun i d' f' hd hf => by
  have : i = 0 := by have := (List.getElem?_eq_some_iff.1 hd).1; simp at this; exact this
  subst this
  simp only [List.getElem?_cons_zero, Option.some.injEq] at hd hf
  subst hd hf
  exact ⟨ys, hl, Elt.one, h⟩⟩
theorem RowOw.append (h : RowOw w xs l fps) (k : RowOw w ys m fqs) : RowOw w (xs ++ ys) (l ++ m) (fps ++ fqs) := by
  refine ⟨by rw [List.length_append, List.length_append, h.1, k.1, Nat.add_mul], by rw [List.length_append, List.length_append, h.2.1, k.2.1], fun i d f hd hf => ?_⟩
  rw [List.getElem?_append] at hd hf
  rw [h.2.1] at hf
  split at hd
  · rename_i hi
    rw [if_pos hi] at hf
    obtain ⟨zs, z1, z2, z3⟩ := h.2.2 i d f hd hf
    exact ⟨zs, z1, z2.app_left, z3⟩
  · rename_i hi
    rw [if_neg hi] at hf
    obtain ⟨zs, z1, z2, z3⟩ := k.2.2 _ d f hd hf
    refine ⟨zs, z1, ?_, z3⟩
    have := z2.app_right (k := l.length) h.1
    rwa [show l.length + (i - l.length) = i by omega] at this
theorem RowOw.take (h : RowOw w xs l fps) (k : Nat) : RowOw w (xs.take (k * Lay.n α)) (l.take k) (fps.take k) := by
  refine ⟨(h.rd.take k).1, by rw [List.length_take, List.length_take, h.2.1], fun i d f hd hf => ?_⟩
  rw [List.getElem?_take] at hd hf
  split at hd
  · rename_i hik
    rw [if_pos hik] at hf
    obtain ⟨zs, z1, z2, z3⟩ := h.2.2 i d f hd hf
    refine ⟨zs, z1, fun t u hu => ?_, z3⟩
    have ht := (List.getElem?_eq_some_iff.1 hu).1
    rw [List.getElem?_take, if_pos (mul_lt_of hik (by omega))]
    exact z2 t u hu
  · cases hd
theorem RowOw.drop (h : RowOw w xs l fps) (k : Nat) : RowOw w (xs.drop (k * Lay.n α)) (l.drop k) (fps.drop k) := by
  refine ⟨(h.rd.drop k).1, by rw [List.length_drop, List.length_drop, h.2.1], fun i d f hd hf => ?_⟩
  rw [List.getElem?_drop] at hd hf
  obtain ⟨zs, z1, z2, z3⟩ := h.2.2 _ d f hd hf
  refine ⟨zs, z1, fun t u hu => ?_, z3⟩
  rw [List.getElem?_drop]
  have := z2 t u hu
  rwa [Nat.add_mul, Nat.add_assoc] at this
theorem RowOw.set (h : RowOw w xs l fps) {i : Nat} (hi : i < l.length) {d : α} {f : List Nat} (hd : Ow.own w ys d f) (hy : ys.length = Lay.n α) : RowOw w (setL xs (i * Lay.n α) ys) (l.set i d) (fps.set i f) := by
  have hroom : i * Lay.n α + Lay.n α ≤ xs.length := by
    have := Nat.mul_le_mul_right (Lay.n α) (show i + 1 ≤ l.length from hi)
    rw [h.1]
    rwa [Nat.add_mul, Nat.one_mul] at this
  refine ⟨by rw [length_setL, h.1, List.length_set], by rw [List.length_set, List.length_set, h.2.1], fun k d' f' hk hf => ?_⟩
  by_cases hki : k = i
  · subst hki
    rw [List.getElem?_set_self hi] at hk
    rw [List.getElem?_set_self (by rw [h.2.1]; exact hi)] at hf
    obtain rfl := Option.some.inj hk
    obtain rfl := Option.some.inj hf
    exact ⟨ys, hy, Elt.set_self hy hroom, hd⟩
  · rw [List.getElem?_set_ne (Ne.symm hki)] at hk hf
    obtain ⟨zs, z1, z2, z3⟩ := h.2.2 k d' f' hk hf
    exact ⟨zs, z1, z2.set_other hy z1 hki, z3⟩
end

/-- A slice of the call's own, of data with memory of its own; its row lies from block N on. -/
def AccO {α : Type} [Lay α] [Ow α] (N : Nat) (e : TypeId) (w : World) (v : Value) (l : List α) (fps : List (List Nat)) : Prop :=
  ∃ xs, w.ownsRow N e (Lay.n α) v l.length xs ∧ RowOw w xs l fps ∧ fps.flatten.Nodup ∧ ∀ b ∈ fps.flatten, v.ownBlock ≠ some b
section
variable {α : Type} [Lay α] [Ow α] {N M : Nat} {e : TypeId} {w w' : World} {v : Value} {l : List α} {fps : List (List Nat)}
theorem AccO.ext (h : AccO N e w v l fps) (k : Ext w w') : AccO N e w' v l fps := by
  obtain ⟨xs, h1, h2, h3, h4⟩ := h
  exact ⟨xs, ownsRow_ext h1 k, h2.frame (fun b hb => k.below.block b (h2.lt b hb)), h3, h4⟩
theorem AccO.base (h : AccO N e w v l fps) (hb : M ≤ N) : AccO M e w v l fps := by
  obtain ⟨xs, h1, h2⟩ := h
  exact ⟨xs, ownsRow_base h1 hb, h2⟩
theorem AccO.nil : AccO N e w (.slice none 0 0) ([] : List α) [] := ⟨[], World.ownsRow_nil _ _ _ _, RowOw.nil, by simp, by simp⟩
theorem AccO.made (hN : N ≤ w.heap.size) : AccO N e (w.alloc (.cells #[] e)) (.slice (some ⟨w.heap.size, 0, none⟩) 0 0) ([] : List α) [] :=
  ⟨[], World.ownsRow_made w #[] 0 hN (Nat.zero_le _) (by simp), RowOw.nil, by simp, by simp⟩
theorem AccO.flen (h : AccO N e w v l fps) : fps.length = l.length := by
  obtain ⟨xs, h1, h2, _⟩ := h
  exact h2.2.1
theorem AccO.fresh_lt (h : AccO N e w v l fps) : ∀ b ∈ fps.flatten, b < w.heap.size := by
  obtain ⟨xs, h1, h2, _⟩ := h
  exact h2.lt
theorem AccO.shape (h : AccO N e w v l fps) : ∃ a cap, v = .slice a l.length cap := by
  obtain ⟨xs, h1, h2⟩ := h
  obtain ⟨a, cap, rfl, _⟩ := ownsRow_shape h1
  exact ⟨a, cap, rfl⟩
theorem AccO.shapeL (h : AccO N e w v l fps) : ∃ a n c, v = .slice a n c := by
  obtain ⟨a, c, rfl⟩ := h.shape
  exact ⟨_, _, _, rfl⟩
theorem AccO.addr {a : Option Addr} {n c : Nat} (h : AccO N e w (.slice a n c) l fps) (h0 : 0 < n) : ∃ g, a = some ⟨g, 0, none⟩ := by
  obtain ⟨xs, h1, h2⟩ := h
  obtain ⟨a', c', e1, _⟩ := ownsRow_shape h1
  simp only [Value.slice.injEq] at e1
  obtain ⟨rfl, rfl, rfl⟩ := e1
  obtain ⟨g, _, e, _⟩ := ownsRow_cur h1 h0
  exact ⟨g, e⟩
theorem AccO.sl [OneC α] {a : Option Addr} {n cap : Nat} (h : AccO N e w (.slice a n cap) l fps) : SlRd w a n cap l := by
  obtain ⟨xs, h1, h2, _⟩ := h
  obtain ⟨a', cap', e1, _⟩ := ownsRow_shape h1
  simp only [Value.slice.injEq] at e1
  obtain ⟨rfl, rfl, rfl⟩ := e1
  exact ownsRow_sl h1 h2.rd rfl
theorem AccO.low (h : AccO N e w v l fps) : ∀ b, v.ownBlock = some b → N ≤ b ∧ b < w.heap.size := by
  obtain ⟨xs, h1, _⟩ := h
  exact h1.lt
/-- A change of other blocks. -/
theorem AccO.kept (h : AccO N e w v l fps) {row : Option Nat} (hg : w.grownBy w' row) (h1 : ∀ b, row = some b → v.ownBlock ≠ some b ∧ b ∉ fps.flatten) : AccO N e w' v l fps := by
  obtain ⟨xs, k1, k2, k3, k4⟩ := h
  refine ⟨xs, k1.kept hg ?_, k2.frame (fun b hb => hg.block b (k2.lt b hb) (fun e => (h1 b e.symm).2 hb)), k3, k4⟩
  cases hv : v.ownBlock with
  | none => exact .inl rfl
  | some g => exact .inr (fun e => (h1 g e.symm).1 hv)
theorem AccO.fresh [OneC α] {w0 : World} (h : AccO w0.heap.size e w v l fps) (hE : Ext w0 w) (hf : ∀ b ∈ fps.flatten, w0.heap.size ≤ b) : ∃ a n cap, v = .slice a n cap ∧ Fresh w0 w [.slice a n cap] l := by
  obtain ⟨xs, h1, h2, h3, h4⟩ := h
  obtain ⟨a, cap, rfl, hlc, hcm, ha, _⟩ := ownsRow_shape h1
  refine ⟨a, _, cap, rfl, hE, ?_⟩
  rcases Nat.eq_zero_or_pos l.length with h0 | h0
  · obtain rfl := List.eq_nil_of_length_eq_zero h0
    exact ⟨[], ⟨_, _, _, rfl, rfl, hlc, hcm, ha, .inl ⟨rfl, rfl⟩⟩, by simp, by simp⟩
  · obtain ⟨g, cur, rfl, hb, hl, ht⟩ := ownsRow_cur h1 h0
    have hN := (h1.lt g rfl).1
    refine ⟨g :: fps.flatten, ⟨_, _, _, rfl, rfl, hlc, hcm, (fun h => by cases h), .inr ⟨g, e, cur, fps, rfl, hb, hl, h2.2.1, rfl, fun i d f hd hf => ?_⟩⟩, ?_, ?_⟩
    · obtain ⟨ys, z1, z2, z3⟩ := h2.2.2 i d f hd hf
      refine ⟨ys, z1, fun t u hu => ?_, z3⟩
      have := z2 t u hu
      rw [← ht, List.getElem?_take] at this
      split at this
      · exact this
      · cases this
    · exact List.nodup_cons.2 ⟨fun hg => h4 g hg rfl, h3⟩
    · intro b hb
      rcases List.mem_cons.1 hb with rfl | hb
      · exact hN
      · exact hf b hb
theorem flatten_snoc {L : List (List Nat)} {f : List Nat} : (L ++ [f]).flatten = L.flatten ++ f := by simp
theorem AccO.app {v' : Value} {xs : List Value} {C : List Value} {d : α} {f : List Nat} (h1 : w'.ownsRow N e (Lay.n α) v' (l.length + 1) (xs ++ C)) (h2 : RowOw w xs l fps) (h3 : fps.flatten.Nodup) (h4 : ∀ b ∈ fps.flatten, v.ownBlock ≠ some b)
    (hg : w.grownBy w' v.ownBlock) (hv : v'.ownBlock = v.ownBlock ∨ v'.ownBlock = some w.heap.size) (hd : Ow.own w C d f) (hC : C.length = Lay.n α) (hf : f.Nodup) (hf' : ∀ b ∈ f, v.ownBlock ≠ some b ∧ b ∉ fps.flatten) : AccO N e w' v' (l ++ [d]) (fps ++ [f]) := by
  have hall : ∀ b ∈ (fps ++ [f]).flatten, v.ownBlock ≠ some b ∧ b < w.heap.size := fun b hb => by
    rw [flatten_snoc, List.mem_append] at hb
    rcases hb with hb | hb
    · exact ⟨h4 b hb, h2.lt b hb⟩
    · exact ⟨(hf' b hb).1, Ow.lt hd b hb⟩
  refine ⟨xs ++ C, by rw [List.length_append]; exact h1, ((h2.append (RowOw.single hd hC)).frame fun b hb => hg.block b (hall b hb).2 (fun e => (hall b hb).1 e.symm)), ?_, fun b hb e => ?_⟩
  · rw [flatten_snoc]
    exact List.nodup_append.2 ⟨h3, hf, fun a ha b hb e => (hf' b hb).2 (e ▸ ha)⟩
  · obtain ⟨k1, k2⟩ := hall b hb
    rcases hv with hv | hv
    · exact k1 (hv.symm.trans e)
    · rw [hv] at e
      have := Option.some.inj e
      omega
theorem wpList_pushO [OneC α] {P : Program} {ops : Array Oper} {rest : List Oper} {o : Oper} {a : Act} {Q : Exit → Act → World → Prop} (hgd : o.guard = none) (s x : Operand) {t : TypeId} (ho : o.op = .call { callee := .builtin .append, args := #[s, x], argTypes := #[t, t] })
    {bytes B : Nat} (hT : TyI P t e (Lay.n α) bytes) (hby : bytes ≤ 1000) (hs : a.eval s = v) (h : AccO N e w v l fps) (hlen : l.length ≤ 1000000000) {C : Array Value} {d : α} {f : List Nat} (hx : a.eval x = .slice (some ⟨B, 0, none⟩) 1 1) (hB : Blk w B e C.toList) (hd : Ow.own w C.toList d f) (hf : f.Nodup)
    (hf' : ∀ b ∈ f, v.ownBlock ≠ some b ∧ b ∉ fps.flatten) (hN : N ≤ w.heap.size)
    (h : ∀ v' w', AccO N e w' v' (l ++ [d]) (fps ++ [f]) → w.grownBy w' v.ownBlock → (∀ w0, Ext w0 w → w0.heap.size ≤ N → Ext w0 w') → wpList P ops Q rest (a.put o.dst v') w') : wpList P ops Q (o :: rest) a w := by
  obtain ⟨xs, h1, h2, h3, h4⟩ := ‹AccO N e w v l fps›
  have hcl : C.toList.length = 1 * Lay.n α := by rw [Nat.one_mul]; exact OneC.len (Ow.rd hd)
  refine wpList_app hgd s x ho hT hs h1 hx (Nat.le_refl 1) (fun h => by cases h) hcl (Src.blk hB) (OneC.one (Ow.rd hd)) (by unfold maxLen; omega) ?_ hN fun v1 w1 hw1 hg1 hb1 =>
    h v1 w1 (AccO.app hw1 h2 h3 h4 hg1 hb1 hd (OneC.len (Ow.rd hd)) hf hf') hg1 fun w0 hE0 hb0 => Ext.by hE0 hg1 fun j hj => Nat.le_trans hb0 (h1.lt j hj).1
  have := Nat.mul_le_mul_left (l.length + 1) hby
  omega
/-- What was made behind the slice is apart from it. -/
theorem AccO.apart {w1 : World} (h : AccO N e w1 v l fps) {f : List Nat} (hf : ∀ b ∈ f, w1.heap.size ≤ b) : ∀ b ∈ f, v.ownBlock ≠ some b ∧ b ∉ fps.flatten := fun b hb => by
  have := hf b hb
  refine ⟨fun e => ?_, fun hm => ?_⟩
  · have := (h.low b e).2; omega
  · have := h.fresh_lt b hm; omega
/-- An element of its own. -/
theorem AccO.elt (h : AccO N e w v l fps) {i : Nat} {d : α} (hd : l[i]? = some d) : ∃ f ys, fps[i]? = some f ∧ f.Nodup ∧ (∀ b ∈ f, b ∈ fps.flatten) ∧ ys.length = Lay.n α ∧ Ow.own w ys d f ∧ ∃ g c, v = .slice (some ⟨g, 0, none⟩) l.length c ∧ ∀ (t : Nat) (u : Value), ys[t]? = some u → w.cell? ⟨g, i * Lay.n α + t, none⟩ = some u := by
  obtain ⟨xs, h1, h2, h3, h4⟩ := h
  have hi := (List.getElem?_eq_some_iff.1 hd).1
  have hf : fps[i]? = some (fps[i]'(by rw [h2.2.1]; exact hi)) := List.getElem?_eq_getElem _
  obtain ⟨ys, z1, z2, z3⟩ := h2.2.2 i d _ hd hf
  obtain ⟨a, c, rfl, _⟩ := ownsRow_shape h1
  obtain ⟨g, cur, rfl, hb, hl, ht⟩ := ownsRow_cur h1 (by omega)
  refine ⟨_, ys, hf, ?_, fun b hb => List.mem_flatten.2 ⟨_, List.mem_of_getElem? hf, hb⟩, z1, z3, g, c, rfl, fun t u hu => ?_⟩
  · exact (List.pairwise_flatten.1 h3).1 _ (List.mem_of_getElem? hf)
  · have := z2 t u hu
    rw [← ht, List.getElem?_take] at this
    split at this
    · exact hb.cell this
    · cases this
end

theorem fin_own {α : Type} [Lay α] [Ow α] [OneC α] {e : TypeId} {w w0 w1 : World} {N : Nat} {a : Option Addr} {n c : Nat} {l : List α} {fps : List (List Nat)} (h : AccO N e w0 (.slice a n c) l fps) (h0 : Ext w0 w1) (hN : w.heap.size ≤ N) (hE : Ext w w1) (hf : ∀ b ∈ fps.flatten, w.heap.size ≤ b) :
    ∃ x, w1 = Go.Proofs.Ytngehfhcnfobbaa.ext w x ∧ Hid (Fresh w (Go.Proofs.Ytngehfhcnfobbaa.ext w x) [.slice a n c] l) := by
  obtain ⟨a', n', c', e1, hf⟩ := ((h.ext h0).base hN).fresh hE hf
  simp only [Value.slice.injEq] at e1
  obtain ⟨rfl, rfl, rfl⟩ := e1
  obtain ⟨x, rfl⟩ := hE
  exact ⟨x, rfl, hf⟩

end Go.Proofs.Ytngehfhcnfobbaa
namespace Go.Proofs.Ytngehfhcnfobbaa
open Go Go.RowKit

theorem Cp.rt {w : World} {lo : Nat} {a1 a2 : Option Addr} {n1 c1 n2 c2 : Nat} {d : Rt} (h : Cp lo w (.slice a1 n1 c1) (.slice a2 n2 c2) d.path d.marks) (i1 : I64 d.r.f) (i2 : I64 d.r.b) (i3 : I64 d.like) :
    ∃ f, Ow.own w [.int .i64 d.r.f, .int .i64 d.r.b, .slice a1 n1 c1, .int .i64 d.like, .slice a2 n2 c2] d f ∧ f.Nodup ∧ ∀ b ∈ f, lo ≤ b := by
  obtain ⟨fp1, o1, nd1, b1⟩ := h.1.own
  obtain ⟨fp2, o2, nd2, b2⟩ := h.2.1.own
  refine ⟨fp1 ++ fp2, ⟨_, _, _, _, _, _, fp1, fp2, rfl, i1, i2, o1, i3, o2, rfl⟩, ?_, fun b hb => ?_⟩
  · exact List.nodup_append.2 ⟨nd1, nd2, fun x hx y hy e => by subst e; exact h.2.2 x (b1 x hx) (b2 x hy)⟩
  · rcases List.mem_append.1 hb with hb | hb
    · exact (h.1.low b (b1 b hb)).1
    · exact (h.2.1.low b (b2 b hb)).1
theorem wpList_pushO' {α : Type} [Lay α] [Ow α] [OneC α] {N : Nat} {e : TypeId} {w : World} {v : Value} {l : List α} {fps : List (List Nat)} {P : Program} {ops : Array Oper} {rest : List Oper} {o : Oper} {a : Act} {Q : Exit → Act → World → Prop} (hgd : o.guard = none) (s x : Operand) {t : TypeId} (ho : o.op = .call { callee := .builtin .append, args := #[s, x], argTypes := #[t, t] })
    {bytes B : Nat} (hT : TyI P t e (Lay.n α) bytes) (hby : bytes ≤ 1000) (hs : a.eval s = v) (h : AccO N e w v l fps) (hlen : l.length ≤ 1000000000) {C : Array Value} {d : α} {f : List Nat} (hx : a.eval x = .slice (some ⟨B, 0, none⟩) 1 1) (hB : Blk w B e C.toList) (hd : Ow.own w C.toList d f) (hf : f.Nodup)
    (hf' : ∀ b ∈ f, v.ownBlock ≠ some b ∧ b ∉ fps.flatten) (hN : N ≤ w.heap.size)
    (h : ∀ v' w', AccO N e w' v' (l ++ [d]) (fps ++ [f]) → w.grownBy w' v.ownBlock → (∀ w0, Ext w0 w → w0.heap.size ≤ N → Ext w0 w') → (v'.ownBlock = v.ownBlock ∨ v'.ownBlock = some w.heap.size) → wpList P ops Q rest (a.put o.dst v') w') : wpList P ops Q (o :: rest) a w := by
  obtain ⟨xs, h1, h2, h3, h4⟩ := ‹AccO N e w v l fps›
  have hcl : C.toList.length = 1 * Lay.n α := by rw [Nat.one_mul]; exact OneC.len (Ow.rd hd)
  refine wpList_app hgd s x ho hT hs h1 hx (Nat.le_refl 1) (fun h => by cases h) hcl (Src.blk hB) (OneC.one (Ow.rd hd)) (by unfold maxLen; omega) ?_ hN fun v1 w1 hw1 hg1 hb1 =>
    h v1 w1 (AccO.app hw1 h2 h3 h4 hg1 hb1 hd (OneC.len (Ow.rd hd)) hf hf') hg1 (fun w0 hE0 hb0 => Ext.by hE0 hg1 fun j hj => Nat.le_trans hb0 (h1.lt j hj).1) hb1
  have := Nat.mul_le_mul_left (l.length + 1) hby
  omega
theorem AccO.madeAt {α : Type} [Lay α] [Ow α] {N B : Nat} {e : TypeId} {w : World} (hN : N ≤ w.heap.size) (hB : w.heap.size = B) : AccO N e (w.alloc (.cells #[] e)) (.slice (some ⟨B, 0, none⟩) 0 0) ([] : List α) [] := hB ▸ AccO.made hN
theorem take_snoc {α : Type} {l : List α} {k : Nat} {d : α} (hd : l[k]? = some d) : l.take (k + 1) = l.take k ++ [d] := by rw [List.take_add_one, hd]; rfl

theorem AccO.setNe {α : Type} [Lay α] [Ow α] {N : Nat} {e : TypeId} {w : World} {v : Value} {l : List α} {fps : List (List Nat)} (h : AccO N e w v l fps) {b o : Nat} (hb : v.ownBlock ≠ some b) (hf : b ∉ fps.flatten) (u : Value) : AccO N e (w.setCell ⟨b, o, none⟩ u) v l fps :=
  h.kept (grownBy_set w ⟨b, o, none⟩ u) fun b' e => by
    obtain rfl := Option.some.inj e
    exact ⟨hb, hf⟩
theorem AccO.allocs {α : Type} [Lay α] [Ow α] {N : Nat} {e : TypeId} {w : World} {v : Value} {l : List α} {fps : List (List Nat)} (h : AccO N e w v l fps) (o : Obj) : AccO N e (w.alloc o) v l fps := h.ext (Ext.alloc (Ext.refl _) _)
theorem AccO.exts {α : Type} [Lay α] [Ow α] {N : Nat} {e : TypeId} {w : World} {v : Value} {l : List α} {fps : List (List Nat)} (h : AccO N e w v l fps) (x : Nx) : AccO N e (Go.Proofs.Ytngehfhcnfobbaa.ext w x) v l fps := h.ext (Ext.ext (Ext.refl _) _)
theorem all_snoc {p : Nat → Prop} {fps : List (List Nat)} {f : List Nat} (h : ∀ b ∈ fps.flatten, p b) (h' : ∀ b ∈ f, p b) : ∀ b ∈ (fps ++ [f]).flatten, p b := fun b hb => by
  rw [flatten_snoc] at hb
  rcases List.mem_append.1 hb with hb | hb
  · exact h b hb
  · exact h' b hb

theorem len_sz {α : Type} [Sz α] {l : List α} {n : Nat} (h : Sz.sz l ≤ n) : l.length ≤ n := Nat.le_trans (Nat.le_add_right _ _) h
theorem all_take {α : Type} {p : α → Bool} {l : List α} {k : Nat} {d : α} (h : (l.take k).all p = true) (hd : l[k]? = some d) (hp : p d = true) : (l.take (k + 1)).all p = true := by
  rw [List.take_add_one, hd, List.all_append, h]; simp [hp]
theorem all_not {α : Type} {p : α → Bool} {l : List α} {k : Nat} {d : α} (hd : l[k]? = some d) (hp : p d = false) : l.all p = false := by
  cases e : l.all p
  · rfl
  · have := List.all_eq_true.1 e d (List.mem_of_getElem? hd)
    rw [hp] at this
    cases this
theorem map_take {α β : Type} {f : α → β} {l : List α} {k : Nat} {d : α} (hd : l[k]? = some d) : (l.take (k + 1)).map f = (l.take k).map f ++ [f d] := by
  rw [List.take_add_one, hd, List.map_append]; rfl
section
variable {α : Type} [Lay α] [Ow α] {w w1 : World} {cs : List Value} {d : α}
theorem Fresh.ownAt (h : Fresh w w1 cs d) : ∃ f, Ow.own w1 cs d f ∧ f.Nodup ∧ ∀ b ∈ f, w.heap.size ≤ b := h.2
theorem fin_acco [OneC α] {e : TypeId} {N : Nat} {a : Option Addr} {n c : Nat} {l : List α} {fps : List (List Nat)} (h : AccO N e w1 (.slice a n c) l fps) (hN : w.heap.size ≤ N) (hf : ∀ b ∈ fps.flatten, w.heap.size ≤ b) (hE : Ext w w1) : ∃ x, w1 = Go.Proofs.Ytngehfhcnfobbaa.ext w x ∧ Hid (Fresh w (Go.Proofs.Ytngehfhcnfobbaa.ext w x) [.slice a n c] l) := by
  obtain ⟨a', n', c', e1, h2⟩ := (h.base hN).fresh hE hf
  simp only [Value.slice.injEq] at e1
  obtain ⟨rfl, rfl, rfl⟩ := e1
  obtain ⟨x, rfl⟩ := hE
  exact ⟨x, rfl, h2⟩
theorem fin_acco_made [OneC α] (e : TypeId) {B : Nat} (hE : Ext w w1) (hB : w1.heap.size = B) : ∃ x, w1.alloc (.cells #[] e) = Go.Proofs.Ytngehfhcnfobbaa.ext w x ∧ Hid (Fresh w (Go.Proofs.Ytngehfhcnfobbaa.ext w x) [.slice (some ⟨B, 0, none⟩) 0 0] ([] : List α)) :=
  fin_acco (AccO.madeAt (N := w.heap.size) hE.size hB) (Nat.le_refl _) (by simp) (hE.alloc _)
end
theorem fm_some {α β : Type} {f : α → Option β} {l : List α} {k : Nat} {d : α} {e : β} (hd : l[k]? = some d) (h : f d = some e) : (l.take (k + 1)).filterMap f = (l.take k).filterMap f ++ [e] := by
  rw [List.take_add_one, hd, List.filterMap_append]; simp [h]
theorem fm_none {α β : Type} {f : α → Option β} {l : List α} {k : Nat} {d : α} (hd : l[k]? = some d) (h : f d = none) : (l.take (k + 1)).filterMap f = (l.take k).filterMap f := by
  rw [List.take_add_one, hd, List.filterMap_append]; simp [h]

end Go.Proofs.Ytngehfhcnfobbaa
namespace Go.Proofs.Ytngehfhcnfobbaa
open Go Go.RowKit

def sq1 : Code → Code
  | .seq a _ => a
  | c => c
def sq2 : Code → Code
  | .seq _ b => b
  | c => c
def lpB : Code → Code
  | .loop a => a
  | .block _ a => a
  | c => c
def bodyOf (f : Func) : Code := f.body.getD .skip

/-- the loop; its body; what is done with a message -/
noncomputable def dcLoop : Code := sq2 (sq1 (sq2 (sq2 (sq2 (sq2 (bodyOf Try.f7))))))
noncomputable def dcRound : Code := lpB (lpB dcLoop)
noncomputable def dcMsg : Code := sq2 (sq2 dcRound)

set_option maxRecDepth 20000 in
set_option maxHeartbeats 4000000 in
theorem dcMsg_wp (y0 y1 y2 y3 y5 y6 y7 y8 y10 y11 y12 y13 y14 y15 y16 s1 s2 v : Value) (K : FuncId) (xs : List Value) (n : Nat) (w : World) (hv : w.ownsRow 0 32 2 v n xs) (hn : n ≤ 1000000000) (Q : Act → World → Prop)
    (hcont : ∀ x5 x11 x12 x13 x14 x15 v' w1, w1.ownsRow 0 32 2 v' (n + 1) (xs ++ [.func (.func K) #[s1] #[], .func (.func K) #[s2] #[]]) → Q ⟨#[y0, y1, y2, y3, v', x5, y6, y7, y8, .tuple #[.agg #[.func (.func K) #[s1] #[], .func (.func K) #[s2] #[]], .bool true], y10, x11, x12, x13, x14, x15, y16], []⟩ w1) :
    dcMsg.wp Try.prog (fun e a1 w1 => e = .normal ∧ Q a1 w1) ⟨#[y0, y1, y2, y3, v, y5, y6, y7, y8, .tuple #[.agg #[.func (.func K) #[s1] #[], .func (.func K) #[s2] #[]], .bool true], y10, y11, y12, y13, y14, y15, y16], []⟩ w := by
  show (Code.block _ (Code.seq (Code.region _ _ _) (Code.region _ _ _))).wp _ _ _ _
  have HV := hidden hv
  have HC := hidden hcont
  clear hv hcont
  go_wp2_with (first | (at_builtin; refine wpList_app (N := 0) rfl _ _ rfl tyi_Dl (by rfl) (ownsRow_ext HV.out ((by repeat (first | with_reducible exact Ext.refl _ | with_reducible apply Ext.and | with_reducible apply Ext.drewx | with_reducible apply Ext.alloc | with_reducible apply Ext.ext | with_reducible apply Ext.drew | with_reducible refine Ext.setCell ?_ (by simp) _)) : Ext w _)) (by rfl) (Nat.le_refl 1) (fun h => by cases h) (news := [.func (.func K) #[s1] #[], .func (.func K) #[s2] #[]]) rfl (Src.blk (Blk.newAt _ _ _ (by simp))) (by intro u hu; simp at hu; rcases hu with rfl | rfl <;> rfl) (by unfold maxLen; omega) (by omega) (Nat.zero_le _) ?_; intro v1 w1 hw1 hg1 hb1; have HW1 := hidden hw1; clear hw1 hg1 hb1))
  exact HC.out _ _ _ _ _ _ _ _ HW1.out
end Go.Proofs.Ytngehfhcnfobbaa
namespace Go.Proofs.Ytngehfhcnfobbaa
open Go Go.RowKit

section
variable {α : Type} [Lay α] [Ow α] {N M : Nat} {e : TypeId} {w w' : World} {v : Value} {l : List α} {fps : List (List Nat)}
theorem AccF.toO [FlO α] (h : AccF N e w v l) : AccO N e w v l (l.map fun _ => []) := by
  obtain ⟨xs, h1, h2⟩ := h
  have hz : (l.map fun _ => ([] : List Nat)).flatten = [] := by simp
  refine ⟨xs, h1, ⟨h2.1, by simp, fun i d f hd hf => ?_⟩, by rw [hz]; simp, by rw [hz]; simp⟩
  obtain ⟨ys, z1, z2, z3⟩ := h2.2 i d hd
  obtain rfl : f = [] := by
    rw [List.getElem?_map, hd] at hf; exact (Option.some.inj hf).symm
  exact ⟨ys, z1, z2, FlO.own z3⟩
theorem AccO.toF (h : AccO N e w v l fps) : AccF N e w v l := by
  obtain ⟨xs, h1, h2, _⟩ := h
  exact ⟨xs, h1, h2.rd⟩
theorem AccO.owns [OneC α] {a : Option Addr} {n c : Nat} (h : AccO N e w (.slice a n c) l fps) : ∃ fp, OwSl w a n c l fp ∧ fp.Nodup ∧ ∀ b ∈ fp, (Value.slice a n c).ownBlock = some b ∨ b ∈ fps.flatten := by
  obtain ⟨xs, h1, h2, h3, h4⟩ := h
  obtain ⟨a', cap, e1, hlc, hcm, ha, _⟩ := ownsRow_shape h1
  simp only [Value.slice.injEq] at e1
  obtain ⟨rfl, rfl, rfl⟩ := e1
  rcases Nat.eq_zero_or_pos l.length with h0 | h0
  · obtain rfl := List.eq_nil_of_length_eq_zero h0
    exact ⟨[], ⟨rfl, hlc, hcm, ha, .inl ⟨rfl, rfl⟩⟩, by simp, by simp⟩
  · obtain ⟨g, cur, rfl, hb, hl, ht⟩ := ownsRow_cur h1 h0
    refine ⟨g :: fps.flatten, ⟨rfl, hlc, hcm, (fun h => by cases h), .inr ⟨g, e, cur, fps, rfl, hb, hl, h2.2.1, rfl, fun i d f hd hf => ?_⟩⟩, ?_, ?_⟩
    · obtain ⟨ys, z1, z2, z3⟩ := h2.2.2 i d f hd hf
      refine ⟨ys, z1, fun t u hu => ?_, z3⟩
      have := z2 t u hu
      rw [← ht, List.getElem?_take] at this
      split at this
      · exact this
      · cases this
    · exact List.nodup_cons.2 ⟨fun hg => h4 g hg rfl, h3⟩
    · intro b hb
      rcases List.mem_cons.1 hb with rfl | hb
      · exact .inl rfl
      · exact .inr hb
end

end Go.Proofs.Ytngehfhcnfobbaa
