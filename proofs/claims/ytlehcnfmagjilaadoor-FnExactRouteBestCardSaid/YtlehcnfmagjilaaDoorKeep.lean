/- What a law with a result in memory keeps hold of while it writes over what it handed out and what it got. No condition. -/
import Derived.Test.YtlehcnfmagjilaaDoorHeld
namespace Go.Proofs.YtlehcnfmagjilaaDoor
open Go Go.RowKit

@[simp, go_sem] theorem ltk_0_1_0 (n s t : Nat) : n < n + 1 + s + 1 + t + 1 := by omega
@[simp, go_sem] theorem ltk_0_1_1 (n s t u : Nat) : n < n + 1 + s + 1 + t + 1 + u := by omega
@[simp, go_sem] theorem ltk_0_1_2 (n s t u : Nat) : n < n + 1 + s + 1 + t + 1 + u + 1 := by omega
@[simp, go_sem] theorem ltk_0_1_3 (n s t u v : Nat) : n < n + 1 + s + 1 + t + 1 + u + 1 + v := by omega
@[simp, go_sem] theorem ltk_0_1_4 (n s t u v : Nat) : n < n + 1 + s + 1 + t + 1 + u + 1 + v + 1 := by omega
@[simp, go_sem] theorem ltk_0_1_5 (n s t u v x : Nat) : n < n + 1 + s + 1 + t + 1 + u + 1 + v + 1 + x := by omega
@[simp, go_sem] theorem ltk_0_2_0 (n s t : Nat) : n < n + 1 + 1 + s + 1 + t + 1 := by omega
@[simp, go_sem] theorem ltk_0_2_1 (n s t u : Nat) : n < n + 1 + 1 + s + 1 + t + 1 + u := by omega
@[simp, go_sem] theorem ltk_0_2_2 (n s t u : Nat) : n < n + 1 + 1 + s + 1 + t + 1 + u + 1 := by omega
@[simp, go_sem] theorem ltk_0_2_3 (n s t u v : Nat) : n < n + 1 + 1 + s + 1 + t + 1 + u + 1 + v := by omega
@[simp, go_sem] theorem ltk_0_2_4 (n s t u v : Nat) : n < n + 1 + 1 + s + 1 + t + 1 + u + 1 + v + 1 := by omega
@[simp, go_sem] theorem ltk_0_2_5 (n s t u v x : Nat) : n < n + 1 + 1 + s + 1 + t + 1 + u + 1 + v + 1 + x := by omega
@[simp, go_sem] theorem ltk_1_2_0 (n s t : Nat) : n + 1 < n + 1 + 1 + s + 1 + t + 1 := by omega
@[simp, go_sem] theorem ltk_1_2_1 (n s t u : Nat) : n + 1 < n + 1 + 1 + s + 1 + t + 1 + u := by omega
@[simp, go_sem] theorem ltk_1_2_2 (n s t u : Nat) : n + 1 < n + 1 + 1 + s + 1 + t + 1 + u + 1 := by omega
@[simp, go_sem] theorem ltk_1_2_3 (n s t u v : Nat) : n + 1 < n + 1 + 1 + s + 1 + t + 1 + u + 1 + v := by omega
@[simp, go_sem] theorem ltk_1_2_4 (n s t u v : Nat) : n + 1 < n + 1 + 1 + s + 1 + t + 1 + u + 1 + v + 1 := by omega
@[simp, go_sem] theorem ltk_1_2_5 (n s t u v x : Nat) : n + 1 < n + 1 + 1 + s + 1 + t + 1 + u + 1 + v + 1 + x := by omega

@[simp, go_sem] theorem ltb_1 {a b c : Nat} (h : a < b) : a ≤ b + c := by omega
@[simp, go_sem] theorem ltb_2 {a b c : Nat} (h : a < b) : a < b + c + 1 := by omega
@[simp, go_sem] theorem ltb_3 {a b c d : Nat} (h : a < b) : a < b + c + 1 + d := by omega
@[simp, go_sem] theorem ltb_4 {a b c d : Nat} (h : a < b) : a ≤ b + c + 1 + d := by omega

/-- Data of the call's own, in blocks from lo on and below hi. -/
def Own2 {α : Type} [Lay α] [Ow α] (lo : Nat) (w : World) (cs : List Value) (d : α) (hi : Nat) : Prop :=
  ∃ fp, Ow.own w cs d fp ∧ fp.Nodup ∧ (∀ b ∈ fp, lo ≤ b) ∧ ∀ b ∈ fp, b < hi
/-- A reading that the first n blocks carry. -/
def Rd2 {α : Type} [Lay α] (n : Nat) (w : World) (cs : List Value) (d : α) : Prop := ∃ w0, Lay.rd w0 cs d ∧ w0.heap.size ≤ n ∧ Below w0.heap.size w0 w
/-- A change of blocks from lo on and below hi. -/
def Chg2 (lo hi : Nat) (w w' : World) : Prop := ∃ fp, Chg fp w w' ∧ (∀ b ∈ fp, lo ≤ b) ∧ ∀ b ∈ fp, b < hi
section
variable {α : Type} [Lay α] {w w' a : World} {cs : List Value} {d : α} {lo hi lo' hi' n : Nat}
theorem Rd2.of (h : Lay.rd w cs d) : Rd2 w.heap.size w cs d := ⟨w, h, Nat.le_refl _, Below.refl _ _⟩
theorem Rd2.later (h : Rd2 n w cs d) (k : Ext w w') : Rd2 n w' cs d := by
  obtain ⟨w0, h1, h2, h3⟩ := h
  exact ⟨w0, h1, h2, h3.trans (k.below.mono h3.size)⟩
theorem Rd2.rd (h : Rd2 n w cs d) : Lay.rd w cs d := by
  obtain ⟨w0, h1, h2, h3⟩ := h
  exact Lay.stays h1 h3
theorem Rd2.chg (h : Rd2 n w cs d) (c : Chg2 lo hi w w') (hn : n ≤ lo) : Rd2 n w' cs d := by
  obtain ⟨w0, h1, h2, h3⟩ := h
  obtain ⟨fp, c1, c2, c3⟩ := c
  exact ⟨w0, h1, h2, h3.trans (c1.below (fun b hb => Nat.le_trans (Nat.le_trans h2 hn) (c2 b hb)) h3.size)⟩
theorem Own2.of [Ow α] {w0 : World} (h : Fresh w0 w cs d) : Own2 w0.heap.size w cs d w.heap.size := by
  obtain ⟨_, fp, h1, h2, h3⟩ := h
  exact ⟨fp, h1, h2, h3, Ow.lt h1⟩
theorem Own2.later [Ow α] (h : Own2 lo w cs d hi) (k : Ext w w') : Own2 lo w' cs d hi := by
  obtain ⟨fp, h1, h2, h3, h4⟩ := h
  exact ⟨fp, Ow.frame h1 (fun b hb => k.below.block b (Ow.lt h1 b hb)), h2, h3, h4⟩
theorem Own2.rd [Ow α] (h : Own2 lo w cs d hi) : Lay.rd w cs d := by
  obtain ⟨fp, h1, _⟩ := h
  exact Ow.rd h1
theorem Own2.chg [Ow α] (h : Own2 lo w cs d hi) (c : Chg2 lo' hi' w w') (hd : hi ≤ lo' ∨ hi' ≤ lo) : Own2 lo w' cs d hi := by
  obtain ⟨fp, h1, h2, h3, h4⟩ := h
  obtain ⟨fq, c1, c2, c3⟩ := c
  refine ⟨fp, Ow.frame h1 (fun b hb => c1.2 b (Ow.lt h1 b hb) (fun hq => ?_)), h2, h3, h4⟩
  have i1 := h3 b hb
  have i2 := h4 b hb
  have i3 := c2 b hq
  have i4 := c3 b hq
  omega
theorem Ext.byChg2 (h : Ext a w) (c : Chg2 lo hi w w') (hn : a.heap.size ≤ lo) : Ext a w' := by
  obtain ⟨fq, c1, c2, c3⟩ := c
  exact h.byChg c1 (fun b hb => Nat.le_trans hn (c2 b hb))
end

theorem Chg2.box {w w' : World} {lo hi b : Nat} {e : TypeId} {cs : List Value} (c : Chg2 lo hi w w') (h : Blk w b e cs) (hs : b < lo ∨ hi ≤ b) : Blk w' b e cs := by
  obtain ⟨fq, c1, c2, c3⟩ := c
  refine h.of_heap (c1.2 b h.lt fun hq => ?_)
  have i1 := c2 b hq
  have i2 := c3 b hq
  omega
theorem Chg2.box0 {V w' : World} {lo hi : Nat} {e : TypeId} {C : Array Value} {X0 : Nx} (c : Chg2 lo hi (ext (V.alloc (.cells C e)) X0) w') (hs : V.heap.size < lo ∨ hi ≤ V.heap.size) : Blk w' V.heap.size e C.toList :=
  c.box ((Blk.new V C e).ext _) hs
theorem Chg2.box1 {V w' : World} {lo hi : Nat} {e : TypeId} {C : Array Value} {X0 X1 : Nx} {o0 : Obj} (c : Chg2 lo hi (ext ((ext (V.alloc (.cells C e)) X1).alloc o0) X0) w') (hs : V.heap.size < lo ∨ hi ≤ V.heap.size) : Blk w' V.heap.size e C.toList :=
  c.box ((((Blk.new V C e).ext _).alloc _).ext _) hs
theorem Chg2.box2 {V w' : World} {lo hi : Nat} {e : TypeId} {C : Array Value} {X0 X1 X2 : Nx} {o0 o1 : Obj} (c : Chg2 lo hi (ext ((ext ((ext (V.alloc (.cells C e)) X2).alloc o1) X1).alloc o0) X0) w') (hs : V.heap.size < lo ∨ hi ≤ V.heap.size) : Blk w' V.heap.size e C.toList :=
  c.box ((((((Blk.new V C e).ext _).alloc _).ext _).alloc _).ext _) hs
theorem Chg2.box3 {V w' : World} {lo hi : Nat} {e : TypeId} {C : Array Value} {X0 X1 X2 X3 : Nx} {o0 o1 o2 : Obj} (c : Chg2 lo hi (ext ((ext ((ext ((ext (V.alloc (.cells C e)) X3).alloc o2) X2).alloc o1) X1).alloc o0) X0) w') (hs : V.heap.size < lo ∨ hi ≤ V.heap.size) : Blk w' V.heap.size e C.toList :=
  c.box ((((((((Blk.new V C e).ext _).alloc _).ext _).alloc _).ext _).alloc _).ext _) hs

/-- How many numbers data that is handed over holds, and what it reads as, written over. -/
class Mt (α : Type) where
  cnt : α → Nat
  ov : α → Int → α
instance {α : Type} [Mk α] : Mt (List α) := ⟨cntL, mkL⟩
/-- They are few: against the size. -/
class CS (α : Type) [Mk α] [Sz α] : Prop where
  le : ∀ d : α, Mk.cnt d ≤ 8 * (1 + Sz.sz d)
class CT (α : Type) [Mt α] [Sz α] : Prop where
  le : ∀ d : α, Mt.cnt d ≤ 8 * Sz.sz d
theorem cntL_sz {α : Type} [Mk α] [Sz α] [CS α] : ∀ l : List α, cntL l ≤ 8 * Sz.sz l
  | [] => Nat.zero_le _
  | d :: l => by
    have h1 := CS.le d
    have h2 := cntL_sz l
    have h3 : Sz.sz (d :: l) = 1 + Sz.sz d + Sz.sz l := by
      show (d :: l).length + ((d :: l).map Sz.sz).sum = 1 + Sz.sz d + (l.length + (l.map Sz.sz).sum)
      simp only [List.length_cons, List.map_cons, List.sum_cons]
      omega
    rw [cntL, h3]
    omega
instance : CS Int := ⟨fun _ => by show 1 ≤ _; omega⟩
instance {α : Type} [Mk α] [Sz α] [CS α] : CS (List α) := ⟨fun l => by
  have := cntL_sz l
  show cntL l ≤ _
  omega⟩
instance {α : Type} [Mk α] [Sz α] [CS α] : CT (List α) := ⟨cntL_sz⟩
theorem cnt_sz {α : Type} [Mt α] [Sz α] [CT α] (d : α) : Mt.cnt d ≤ 8 * Sz.sz d := CT.le d

instance : CS Rg := ⟨fun d => by
  show 2 ≤ _
  omega⟩
instance : CS Cl := ⟨fun d => by
  show 8 ≤ _
  omega⟩
instance : CS Rt := ⟨fun d => by
  have h0 := cntL_sz d.path
  have h1 := cntL_sz d.marks
  show 3 + cntL d.path + cntL d.marks ≤ 8 * (1 + (Sz.sz d.path + Sz.sz d.marks))
  omega⟩
instance : CS Hd := ⟨fun d => by
  show 3 ≤ _
  omega⟩
instance : CS Se := ⟨fun d => by
  have h0 := cntL_sz d.path
  show 4 + cntL d.path ≤ 8 * (1 + (Sz.sz d.path))
  omega⟩
instance : CS Gt := ⟨fun d => by
  have h0 := cntL_sz d.route.path
  have h1 := cntL_sz d.route.marks
  show 4 + cntL d.route.path + cntL d.route.marks ≤ 8 * (1 + ((Sz.sz d.route.path + Sz.sz d.route.marks)))
  omega⟩
instance : CS Rb := ⟨fun d => by
  have h0 := cntL_sz d.all
  show 2 + cntL d.all ≤ 8 * (1 + (Sz.sz d.all))
  omega⟩
instance : CS Dl := ⟨fun d => by
  have h0 := cntL_sz d.drop
  have h1 := cntL_sz d.tell
  show 0 + cntL d.drop + cntL d.tell ≤ 8 * (1 + (Sz.sz d.drop + Sz.sz d.tell))
  omega⟩
instance : CS En := ⟨fun d => by
  show 3 ≤ _
  omega⟩

instance : Mt Rt := ⟨cntTRt, mkTRt⟩
instance : CT Rt := ⟨fun d => by
  have h0 := cntL_sz d.path
  have h1 := cntL_sz d.marks
  show cntL d.path + cntL d.marks ≤ 8 * (Sz.sz d.path + Sz.sz d.marks)
  omega⟩
instance : Mt Se := ⟨cntTSe, mkTSe⟩
instance : CT Se := ⟨fun d => by
  have h0 := cntL_sz d.path
  show cntL d.path ≤ 8 * (Sz.sz d.path)
  omega⟩
instance : Mt Rb := ⟨cntTRb, mkTRb⟩
instance : CT Rb := ⟨fun d => by
  have h0 := cntL_sz d.all
  show cntL d.all ≤ 8 * (Sz.sz d.all)
  omega⟩
instance : Mt Dl := ⟨cntTDl, mkTDl⟩
instance : CT Dl := ⟨fun d => by
  have h0 := cntL_sz d.drop
  have h1 := cntL_sz d.tell
  show cntL d.drop + cntL d.tell ≤ 8 * (Sz.sz d.drop + Sz.sz d.tell)
  omega⟩

theorem markF_Lint {lo hi : Nat} (a : Option Addr) (n c : Nat) (d : (List Int)) (k : Int) (w : World) (h : Own2 lo w [.slice a n c] d hi) (hk0 : 0 ≤ k) (hk1 : k + (Mt.cnt d : Nat) ≤ 4611686018427387904) :
    Calls Tryd.prog 22 #[.slice a n c, .int .i64 k] w fun e w' => e = .returned (.int .i64 (k + (Mt.cnt d : Nat))) ∧ Chg2 lo hi w w' ∧ Own2 lo w' [.slice a n c] (Mt.ov d k) hi := by
  obtain ⟨fp, ⟨az, nz, cz, e1, ho⟩, hnd, h1, h2⟩ := h
  simp only [List.cons.injEq, Value.slice.injEq, and_true] at e1
  obtain ⟨rfl, rfl, rfl⟩ := e1
  exact (mark_Lint _ _ _ d fp k w ho hnd hk0 hk1).mono fun e w' ⟨he, hc, ho'⟩ => ⟨he, ⟨fp, hc, h1, h2⟩, fp, ⟨_, _, _, rfl, ho'⟩, hnd, h1, h2⟩
theorem heldF_Lint (a : Option Addr) (n c : Nat) (d : (List Int)) (k : Int) (w : World) (h : Lay.rd w [.slice a n c] (Mt.ov d k)) (hk0 : 0 ≤ k) (hk1 : k + (Mt.cnt d : Nat) ≤ 4611686018427387904) :
    Calls Tryd.prog 23 #[.slice a n c, .int .i64 k] w fun e w' => e = .returned (.int .i64 (k + (Mt.cnt d : Nat))) ∧ Ext w w' :=
  held_Lint _ _ _ d k w (rd_slice h) hk0 hk1
theorem eqF_Lint (a : Option Addr) (n c : Nat) (a' : Option Addr) (n' c' : Nat) (d d' : (List Int)) (w : World) (h : Lay.rd w [.slice a n c] d) (h' : Lay.rd w [.slice a' n' c'] d') :
    Calls Tryd.prog 21 #[.slice a n c, .slice a' n' c'] w fun e w' => e = .returned (.bool (decide (d = d'))) ∧ Ext w w' :=
  eq_Lint _ _ _ d _ _ _ d' w (rd_slice h) (rd_slice h')

theorem markF_LRg {lo hi : Nat} (a : Option Addr) (n c : Nat) (d : (List Rg)) (k : Int) (w : World) (h : Own2 lo w [.slice a n c] d hi) (hk0 : 0 ≤ k) (hk1 : k + (Mt.cnt d : Nat) ≤ 4611686018427387904) :
    Calls Tryd.prog 38 #[.slice a n c, .int .i64 k] w fun e w' => e = .returned (.int .i64 (k + (Mt.cnt d : Nat))) ∧ Chg2 lo hi w w' ∧ Own2 lo w' [.slice a n c] (Mt.ov d k) hi := by
  obtain ⟨fp, ⟨az, nz, cz, e1, ho⟩, hnd, h1, h2⟩ := h
  simp only [List.cons.injEq, Value.slice.injEq, and_true] at e1
  obtain ⟨rfl, rfl, rfl⟩ := e1
  exact (mark_LRg _ _ _ d fp k w ho hnd hk0 hk1).mono fun e w' ⟨he, hc, ho'⟩ => ⟨he, ⟨fp, hc, h1, h2⟩, fp, ⟨_, _, _, rfl, ho'⟩, hnd, h1, h2⟩
theorem heldF_LRg (a : Option Addr) (n c : Nat) (d : (List Rg)) (k : Int) (w : World) (h : Lay.rd w [.slice a n c] (Mt.ov d k)) (hk0 : 0 ≤ k) (hk1 : k + (Mt.cnt d : Nat) ≤ 4611686018427387904) :
    Calls Tryd.prog 39 #[.slice a n c, .int .i64 k] w fun e w' => e = .returned (.int .i64 (k + (Mt.cnt d : Nat))) ∧ Ext w w' :=
  held_LRg _ _ _ d k w (rd_slice h) hk0 hk1
theorem eqF_LRg (a : Option Addr) (n c : Nat) (a' : Option Addr) (n' c' : Nat) (d d' : (List Rg)) (w : World) (h : Lay.rd w [.slice a n c] d) (h' : Lay.rd w [.slice a' n' c'] d') :
    Calls Tryd.prog 36 #[.slice a n c, .slice a' n' c'] w fun e w' => e = .returned (.bool (decide (d = d'))) ∧ Ext w w' :=
  eq_LRg _ _ _ d _ _ _ d' w (rd_slice h) (rd_slice h')









theorem markF_LRt {lo hi : Nat} (a : Option Addr) (n c : Nat) (d : (List Rt)) (k : Int) (w : World) (h : Own2 lo w [.slice a n c] d hi) (hk0 : 0 ≤ k) (hk1 : k + (Mt.cnt d : Nat) ≤ 4611686018427387904) :
    Calls Tryd.prog 13 #[.slice a n c, .int .i64 k] w fun e w' => e = .returned (.int .i64 (k + (Mt.cnt d : Nat))) ∧ Chg2 lo hi w w' ∧ Own2 lo w' [.slice a n c] (Mt.ov d k) hi := by
  obtain ⟨fp, ⟨az, nz, cz, e1, ho⟩, hnd, h1, h2⟩ := h
  simp only [List.cons.injEq, Value.slice.injEq, and_true] at e1
  obtain ⟨rfl, rfl, rfl⟩ := e1
  exact (mark_LRt _ _ _ d fp k w ho hnd hk0 hk1).mono fun e w' ⟨he, hc, ho'⟩ => ⟨he, ⟨fp, hc, h1, h2⟩, fp, ⟨_, _, _, rfl, ho'⟩, hnd, h1, h2⟩
theorem heldF_LRt (a : Option Addr) (n c : Nat) (d : (List Rt)) (k : Int) (w : World) (h : Lay.rd w [.slice a n c] (Mt.ov d k)) (hk0 : 0 ≤ k) (hk1 : k + (Mt.cnt d : Nat) ≤ 4611686018427387904) :
    Calls Tryd.prog 40 #[.slice a n c, .int .i64 k] w fun e w' => e = .returned (.int .i64 (k + (Mt.cnt d : Nat))) ∧ Ext w w' :=
  held_LRt _ _ _ d k w (rd_slice h) hk0 hk1
theorem eqF_LRt (a : Option Addr) (n c : Nat) (a' : Option Addr) (n' c' : Nat) (d d' : (List Rt)) (w : World) (h : Lay.rd w [.slice a n c] d) (h' : Lay.rd w [.slice a' n' c'] d') :
    Calls Tryd.prog 12 #[.slice a n c, .slice a' n' c'] w fun e w' => e = .returned (.bool (decide (d = d'))) ∧ Ext w w' :=
  eq_LRt _ _ _ d _ _ _ d' w (rd_slice h) (rd_slice h')









theorem parts_Rt {w : World} {a_path n_path c_path a_marks n_marks c_marks} {d : Rt} (h : Lay.rd w [.int .i64 d.r.f, .int .i64 d.r.b, .slice a_path n_path c_path, .int .i64 d.like, .slice a_marks n_marks c_marks] d) : SlRd w a_path n_path c_path d.path ∧ SlRd w a_marks n_marks c_marks d.marks := by
  obtain ⟨a_pathz, n_pathz, c_pathz, a_marksz, n_marksz, c_marksz, e, h0, h1, h2, h3, h4⟩ := h
  simp only [List.cons.injEq, Value.slice.injEq, and_true, true_and] at e
  obtain ⟨⟨rfl, rfl, rfl⟩, ⟨rfl, rfl, rfl⟩⟩ := e
  exact ⟨h2, h4⟩
theorem eqF_Rt (a_path : Option Addr) (n_path c_path : Nat) (a_marks : Option Addr) (n_marks c_marks : Nat) (a_path' : Option Addr) (n_path' c_path' : Nat) (a_marks' : Option Addr) (n_marks' c_marks' : Nat) (d d' : Rt) (w : World) (h : Lay.rd w [.int .i64 d.r.f, .int .i64 d.r.b, .slice a_path n_path c_path, .int .i64 d.like, .slice a_marks n_marks c_marks] d) (h' : Lay.rd w [.int .i64 d'.r.f, .int .i64 d'.r.b, .slice a_path' n_path' c_path', .int .i64 d'.like, .slice a_marks' n_marks' c_marks'] d') :
    Calls Tryd.prog 37 #[.agg #[.int .i64 d.r.f, .int .i64 d.r.b, .slice a_path n_path c_path, .int .i64 d.like, .slice a_marks n_marks c_marks], .agg #[.int .i64 d'.r.f, .int .i64 d'.r.b, .slice a_path' n_path' c_path', .int .i64 d'.like, .slice a_marks' n_marks' c_marks']] w fun e w' => e = .returned (.bool (decide (d = d'))) ∧ Ext w w' :=
  eq_Rt d d' _ _ _ _ _ _ _ _ _ _ _ _ w (parts_Rt h).1 (parts_Rt h').1 (parts_Rt h).2 (parts_Rt h').2

theorem parts_Se {w : World} {a_path n_path c_path} {d : Se} (h : Lay.rd w [.int .i64 d.sby, .int .i64 d.to, .int .i64 d.r.f, .int .i64 d.r.b, .slice a_path n_path c_path] d) : SlRd w a_path n_path c_path d.path := by
  obtain ⟨a_pathz, n_pathz, c_pathz, e, h0, h1, h2, h3, h4⟩ := h
  simp only [List.cons.injEq, Value.slice.injEq, and_true, true_and] at e
  obtain ⟨rfl, rfl, rfl⟩ := e
  exact h4

theorem parts_Rb {w : World} {a_all n_all c_all} {d : Rb} (h : Lay.rd w [.int .i64 d.house, .bool d.up, .slice a_all n_all c_all] d) : SlRd w a_all n_all c_all d.all := by
  obtain ⟨a_allz, n_allz, c_allz, e, h0, h1⟩ := h
  simp only [List.cons.injEq, Value.slice.injEq, and_true, true_and] at e
  obtain ⟨rfl, rfl, rfl⟩ := e
  exact h1

theorem parts_Dl {w : World} {a_drop n_drop c_drop a_tell n_tell c_tell} {d : Dl} (h : Lay.rd w [.slice a_drop n_drop c_drop, .slice a_tell n_tell c_tell] d) : SlRd w a_drop n_drop c_drop d.drop ∧ SlRd w a_tell n_tell c_tell d.tell := by
  obtain ⟨a_dropz, n_dropz, c_dropz, a_tellz, n_tellz, c_tellz, e, h0, h1⟩ := h
  simp only [List.cons.injEq, Value.slice.injEq, and_true] at e
  obtain ⟨⟨rfl, rfl, rfl⟩, ⟨rfl, rfl, rfl⟩⟩ := e
  exact ⟨h0, h1⟩
theorem markF_Dl {lo hi : Nat} (a_drop : Option Addr) (n_drop c_drop : Nat) (a_tell : Option Addr) (n_tell c_tell : Nat) (d : Dl) (k : Int) (w : World) (h : Own2 lo w [.slice a_drop n_drop c_drop, .slice a_tell n_tell c_tell] d hi) (hk0 : 0 ≤ k) (hk1 : k + (Mt.cnt d : Nat) ≤ 4611686018427387904) :
    Calls Tryd.prog 14 #[.agg #[.slice a_drop n_drop c_drop, .slice a_tell n_tell c_tell], .int .i64 k] w fun e w' => e = .returned (.int .i64 (k + (Mt.cnt d : Nat))) ∧ Chg2 lo hi w w' ∧ Own2 lo w' [.slice a_drop n_drop c_drop, .slice a_tell n_tell c_tell] (Mt.ov d k) hi := by
  obtain ⟨fp, ⟨a_dropz, n_dropz, c_dropz, a_tellz, n_tellz, c_tellz, pz0, pz1, e1, hz0, hz1, ef⟩, hnd, h1, h2⟩ := h
  simp only [List.cons.injEq, Value.slice.injEq, and_true] at e1
  obtain ⟨⟨rfl, rfl, rfl⟩, ⟨rfl, rfl, rfl⟩⟩ := e1
  subst ef
  exact (mark_Dl d _ _ _ _ _ _ pz0 pz1 k w hz0 hz1 hnd hk0 hk1).mono fun e w' ⟨he, hc, ho0, ho1⟩ => ⟨he, ⟨_, hc, h1, h2⟩, _, ⟨_, _, _, _, _, _, _, _, rfl, ho0, ho1, rfl⟩, hnd, h1, h2⟩
theorem heldF_Dl (a_drop : Option Addr) (n_drop c_drop : Nat) (a_tell : Option Addr) (n_tell c_tell : Nat) (d : Dl) (k : Int) (w : World) (h : Lay.rd w [.slice a_drop n_drop c_drop, .slice a_tell n_tell c_tell] (Mt.ov d k)) (hk0 : 0 ≤ k) (hk1 : k + (Mt.cnt d : Nat) ≤ 4611686018427387904) :
    Calls Tryd.prog 15 #[.agg #[.slice a_drop n_drop c_drop, .slice a_tell n_tell c_tell], .int .i64 k] w fun e w' => e = .returned (.int .i64 (k + (Mt.cnt d : Nat))) ∧ Ext w w' :=
  held_Dl d _ _ _ _ _ _ k w (parts_Dl (d := Mt.ov d k) h).1 (parts_Dl (d := Mt.ov d k) h).2 hk0 hk1
theorem eqF_Dl (a_drop : Option Addr) (n_drop c_drop : Nat) (a_tell : Option Addr) (n_tell c_tell : Nat) (a_drop' : Option Addr) (n_drop' c_drop' : Nat) (a_tell' : Option Addr) (n_tell' c_tell' : Nat) (d d' : Dl) (w : World) (h : Lay.rd w [.slice a_drop n_drop c_drop, .slice a_tell n_tell c_tell] d) (h' : Lay.rd w [.slice a_drop' n_drop' c_drop', .slice a_tell' n_tell' c_tell'] d') :
    Calls Tryd.prog 11 #[.agg #[.slice a_drop n_drop c_drop, .slice a_tell n_tell c_tell], .agg #[.slice a_drop' n_drop' c_drop', .slice a_tell' n_tell' c_tell']] w fun e w' => e = .returned (.bool (decide (d = d'))) ∧ Ext w w' :=
  eq_Dl d d' _ _ _ _ _ _ _ _ _ _ _ _ w (parts_Dl h).1 (parts_Dl h').1 (parts_Dl h).2 (parts_Dl h').2

theorem cntL_flat {α : Type} [Mk α] {n : Nat} : ∀ (l : List α), (∀ d : α, Mk.cnt d = n) → cntL l = n * l.length
  | [], _ => rfl
  | d :: l, h => by rw [cntL, h, cntL_flat l h, List.length_cons, Nat.mul_add]; omega

end Go.Proofs.YtlehcnfmagjilaaDoor
