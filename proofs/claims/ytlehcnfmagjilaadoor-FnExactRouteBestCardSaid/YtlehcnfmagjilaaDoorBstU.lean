/- The best of routes: the heap. No condition. -/
import Derived.Test.YtlehcnfmagjilaaDoorBstI
import Derived.Test.YtlehcnfmagjilaaDoorPathA
namespace Go.Proofs.YtlehcnfmagjilaaDoor
open Go Go.RowKit

theorem tiAny (v : Value) (w : World) : (Instr.typeAssert (.iface 3 v) 20 3 true).run Tryd.prog w = .ok (.tuple #[v, .bool true]) w := by kernel_rfl

set_option maxHeartbeats 4000000 in
theorem ctPush_any (w0 : World) (B : Nat) (a : Option Addr) (n c : Nat) (v : Value) (idx : List Int) (k : Int) (w : World) (h : Cst w0 w B a n c v idx) (hlen : idx.length ≤ 1000000000) (hk : I64 k) :
    Calls Tryd.prog 151 #[.pointer (some ⟨B, 0, none⟩), .iface 3 (.int .i64 k)] w fun e w' => e = .returned (.tuple #[]) ∧ ∃ v', Cst w0 w' B a n c v' (idx ++ [k]) := by
  obtain ⟨g, d, rfl⟩ := h.shape
  have c1 := h.2.2.1.cell (j := 1) rfl
  have f1 := h.2.2.1.frozen 1
  have lt := h.2.2.1.lt
  have hB := h.2.1
  have HE := hidden h.1
  have HB := hidden h.2.2.1
  have HA := hidden h.2.2.2
  have ta := tiAny
  clear h
  go_enter Tryd.func151, Tryd.ntmps151
  go_wp2_with (at_builtin; refine wpList_push (N := B + 1) (l := idx) (d := k) rfl _ _ rfl tyi_int (by decide) (by rfl) (HA.out.ext ((by repeat (first | with_reducible exact Ext.refl _ | with_reducible apply Ext.and | with_reducible apply Ext.drewx | with_reducible apply Ext.alloc | with_reducible apply Ext.ext | with_reducible apply Ext.drew | with_reducible refine Ext.setCell ?_ (by simp) _)) : Ext w _)) (by omega) (by rfl) (Blk.newAt _ _ _ (by simp)) ⟨rfl, hk⟩ (by simp; omega) ?_; intro v1 w1 hA1 hX1; obtain ⟨b', n', d', rfl⟩ := hA1.shapeL; have HA1 := hidden hA1; have HE1 := hidden (hX1 w0 (HE.out.trans ((by repeat (first | with_reducible exact Ext.refl _ | with_reducible apply Ext.and | with_reducible apply Ext.drewx | with_reducible apply Ext.alloc | with_reducible apply Ext.ext | with_reducible apply Ext.drew | with_reducible refine Ext.setCell ?_ (by simp) _)) : Ext w _)) (by omega)); have HB1 := hidden ((HB.out.extends ((by repeat (first | with_reducible exact Ext.refl _ | with_reducible apply Ext.and | with_reducible apply Ext.drewx | with_reducible apply Ext.alloc | with_reducible apply Ext.ext | with_reducible apply Ext.drew | with_reducible refine Ext.setCell ?_ (by simp) _)) : Ext w _)).of_heap (heap_of_base hX1 (by simp; omega) (by omega))); have c2 := HB1.out.cell (j := 1) rfl; have f2 := HB1.out.frozen 1; have lt2 := HB1.out.lt; clear hA1 hX1)
  go_end0
  exact ⟨rfl, _, HE1.out.setCell (by simp; omega) _, hB, HB1.out.set 1 _, HA1.out.setLow (by omega) _⟩

set_option maxHeartbeats 4000000 in
theorem ctSwap_any (w0 : World) (B : Nat) (a : Option Addr) (n c : Nat) (v : Value) (idx : List Int) (i j : Nat) (x y : Int) (w : World) (h : Cst w0 w B a n c v idx) (hx : idx[i]? = some x) (hy : idx[j]? = some y) (hij : i < j) :
    Calls Tryd.prog 152 #[.pointer (some ⟨B, 0, none⟩), .int .i64 i, .int .i64 j] w fun e w' => e = .returned (.tuple #[]) ∧ ∃ v', Cst w0 w' B a n c v' ((idx.set i y).set j x) := by
  have hi := (List.getElem?_eq_some_iff.1 hx).1
  have hj := (List.getElem?_eq_some_iff.1 hy).1
  obtain ⟨g, d, rfl, hg, hgl, hlc, hc, hf, hset⟩ := h.2.2.2.set (i := i) hi
  have c1 := h.2.2.1.cell (j := 1) rfl
  have lt := h.2.2.1.lt
  have hB := h.2.1
  have hs := h.2.2.2.sl
  have hm := hs.2.2.1
  unfold maxLen at hm
  obtain ⟨xx, phd, pb, poff, pys, phbb, phys, phcell, phrd⟩ := hs.at (Ext.refl w) hi
  obtain ⟨rfl, rfl⟩ : g = pb ∧ 0 = poff := by simpa using phbb
  obtain ⟨rfl, pg0⟩ := phrd
  have pc0 : w.cell? ⟨g, 0 + i, none⟩ = some (.int .i64 xx) := by have := phcell 0 _ rfl; simpa [Lay.n] using this
  have plb := cell_lt pc0
  have pHD := hidden phd
  clear phcell phys phd
  obtain rfl := Option.some.inj (hx.symm.trans pHD.out)
  obtain ⟨yy, qhd, qb, qoff, qys, qhbb, qhys, qhcell, qhrd⟩ := hs.at (Ext.refl w) hj
  obtain ⟨rfl, rfl⟩ : g = qb ∧ 0 = qoff := by simpa using qhbb
  obtain ⟨rfl, qg0⟩ := qhrd
  have qc0 : w.cell? ⟨g, 0 + j, none⟩ = some (.int .i64 yy) := by have := qhcell 0 _ rfl; simpa [Lay.n] using this
  have qlb := cell_lt qc0
  have qHD := hidden qhd
  clear qhcell qhys qhd
  obtain rfl := Option.some.inj (hy.symm.trans qHD.out)
  have e1 : w.cell? ⟨g, i, none⟩ = some (.int .i64 x) := by simpa using pc0
  have e2 : w.cell? ⟨g, j, none⟩ = some (.int .i64 y) := by simpa using qc0
  have f1 := hf i
  have f2 := hf j
  have HX := hidden hx
  have HS := hidden hset
  have H := hidden h
  have hne : (i == j) = false := by simp; omega
  clear pc0 qc0 hf hset h hx hy pHD qHD hc hs plb qlb
  go_enter Tryd.func152, Tryd.ntmps152
  go_wp2_with fail
  go_region
  go_wp2
  go_end0
  have h := H.out
  have hA1 : AccF (B + 1) 3 (w.setCell ⟨g, i, none⟩ (.int .i64 y)) (.slice (some ⟨g, 0, none⟩) idx.length d) (idx.set i y) := by
    have := HS.out [.int .i64 y] y rfl ⟨rfl, qg0⟩
    simpa [setW, Lay.n] using this
  obtain ⟨g', d', e', _, _, _, _, _, hset'⟩ := hA1.set (i := j) (by simpa using hj)
  simp only [Value.slice.injEq, Option.some.injEq, Addr.mk.injEq] at e'
  obtain ⟨⟨rfl, _⟩, e3, rfl⟩ := e'
  have hA2 : AccF (B + 1) 3 ((w.setCell ⟨g, i, none⟩ (.int .i64 y)).setCell ⟨g, j, none⟩ (.int .i64 x)) (.slice (some ⟨g, 0, none⟩) idx.length d) ((idx.set i y).set j x) := by
    have := hset' [.int .i64 x] x rfl ⟨rfl, pg0⟩
    simpa [setW, Lay.n] using this
  refine ⟨rfl, .slice (some ⟨g, 0, none⟩) idx.length d, Cst.ext (w := (w.setCell ⟨g, i, none⟩ (.int .i64 y)).setCell ⟨g, j, none⟩ (.int .i64 x)) ⟨?_, hB, ?_, hA2⟩ (Ext.drew (Ext.refl _))⟩
  · exact Ext.setCell (Ext.setCell h.1 (by show w0.heap.size ≤ g; omega) _) (by show w0.heap.size ≤ g; omega) _
  · exact (h.2.2.1.setOther _ (show B ≠ g by omega)).setOther _ (show B ≠ g by omega)


theorem naLess (B : Nat) (w : World) : (nilAhead 309 76 (.pointer (some ⟨B, 0, none⟩)) "Less").run Tryd.prog w = .ok (some false) w := by kernel_rfl
theorem meLess (B : Nat) (w : World) : (method 309 76 (.pointer (some ⟨B, 0, none⟩)) "Less").run Tryd.prog w = .ok (150, .pointer (some ⟨B, 0, none⟩)) w := by kernel_rfl
theorem naSwap (B : Nat) (w : World) : (nilAhead 309 76 (.pointer (some ⟨B, 0, none⟩)) "Swap").run Tryd.prog w = .ok (some false) w := by kernel_rfl
theorem meSwap (B : Nat) (w : World) : (method 309 76 (.pointer (some ⟨B, 0, none⟩)) "Swap").run Tryd.prog w = .ok (152, .pointer (some ⟨B, 0, none⟩)) w := by kernel_rfl
theorem naPush (B : Nat) (w : World) : (nilAhead 309 76 (.pointer (some ⟨B, 0, none⟩)) "Push").run Tryd.prog w = .ok (some false) w := by kernel_rfl
theorem mePush (B : Nat) (w : World) : (method 309 76 (.pointer (some ⟨B, 0, none⟩)) "Push").run Tryd.prog w = .ok (151, .pointer (some ⟨B, 0, none⟩)) w := by kernel_rfl
theorem naLen (B : Nat) (w : World) : (nilAhead 309 76 (.pointer (some ⟨B, 0, none⟩)) "Len").run Tryd.prog w = .ok (some false) w := by kernel_rfl
theorem meLen (B : Nat) (w : World) : (method 309 76 (.pointer (some ⟨B, 0, none⟩)) "Len").run Tryd.prog w = .ok (149, .pointer (some ⟨B, 0, none⟩)) w := by kernel_rfl

set_option maxHeartbeats 4000000 in
theorem up0_any (B : Nat) (w : World) : Calls Tryd.prog 81 #[.iface 76 (.pointer (some ⟨B, 0, none⟩)), .int .i64 0] w fun e w' => e = .returned (.tuple #[]) ∧ Ext w w' := by
  go_enter Tryd.func81, Tryd.ntmps81
  go_wp2
  go_loopw [1] (fun j wr => j = .int .i64 0 ∧ Ext w wr) (fun _ _ => 0)
  case atStart => exact ⟨rfl, Ext.refl _⟩
  case round =>
    obtain ⟨rfl, hE⟩ := hrel
    go_wp2
    go_end0
    exact ⟨rfl, hE.trans (by repeat (first | with_reducible exact Ext.refl _ | with_reducible apply Ext.and | with_reducible apply Ext.drewx | with_reducible apply Ext.alloc | with_reducible apply Ext.ext | with_reducible apply Ext.drew | with_reducible refine Ext.setCell ?_ (by simp) _))⟩

theorem half {k i : Nat} (h : i = k / 2) : Int.tdiv (k : Int) 2 = (i : Int) := by subst h; exact (Int.ofNat_tdiv k 2).symm
set_option maxRecDepth 20000 in
set_option maxHeartbeats 8000000 in
theorem up_any (ea : Addr) (l : List Rt) (w0 : World) (B : Nat) (a : Option Addr) (n c : Nat) (v : Value) (idx : List Int) (j : Nat) (x r : Int) (w : World) (h : Cst w0 w B a n c v idx) (hl : SlRd w0 a n c l) (hA : l.all rtOk = true) (hp : EP w0 ea)
    (hU : Upp l idx j x r) (hr : r.toNat < l.length) (h0 : 0 < j) (hm : idx.length ≤ 1000000000) :
    Calls Tryd.prog 81 #[.iface 76 (.pointer (some ⟨B, 0, none⟩)), .int .i64 j] w fun e w' => e = .returned (.tuple #[]) ∧ ∃ v' idx', Cst w0 w' B a n c v' idx' ∧ idx'.length = idx.length ∧ Hp l idx' (topI l x r) := by
  have hna := naLess
  have hme := meLess
  have hnb := naSwap
  have hmb := meSwap
  have H := hidden h
  have HU := hidden hU
  have hjl := (List.getElem?_eq_some_iff.1 hU.at_).1
  clear h hU
  go_enter Tryd.func81, Tryd.ntmps81
  go_wp2
  go_loopw [1] (fun jv wr => ∃ (k : Nat) (v1 : Value) (idx1 : List Int), k ≤ j ∧ jv = .int .i64 k ∧ Hid (Cst w0 wr B a n c v1 idx1) ∧ Hid (Upp l idx1 k x r) ∧ idx1.length = idx.length ∧ Hid (0 < k ∨ lessI l x r = true)) (fun jv _ => (intOf jv).toNat)
  case atStart => exact ⟨j, v, idx, Nat.le_refl _, rfl, H, HU, rfl, hidden (.inl h0)⟩
  case round =>
    obtain ⟨k, v1, idx1, hk, rfl, HC, HV, hlen, HZ⟩ := hrel
    cases k with
    | zero =>
      go_wp2
      go_end0
      exact ⟨rfl, v1, idx1, HC.out.ext (by repeat (first | with_reducible exact Ext.refl _ | with_reducible apply Ext.and | with_reducible apply Ext.drewx | with_reducible apply Ext.alloc | with_reducible apply Ext.ext | with_reducible apply Ext.drew | with_reducible refine Ext.setCell ?_ (by simp) _)), hlen, HV.out.done hr (fun _ => HZ.out.resolve_left (by omega)) (fun h => by omega)⟩
    | succ k =>
      obtain ⟨i, hi⟩ : ∃ i, i = k / 2 := ⟨_, rfl⟩
      have hq := half hi
      have hik : i < k + 1 := by omega
      have hne : ((i : Int) == (k : Int) + 1) = false := by simp; omega
      have hkl := (List.getElem?_eq_some_iff.1 HV.out.at_).1
      obtain ⟨y, hy⟩ : ∃ y, idx1[i]? = some y := ⟨_, List.getElem?_eq_getElem (by omega)⟩
      have HY := hidden hy
      have by_ := HV.out.bd i y hy
      have bx := HV.out.bd _ x HV.out.at_
      clear hi
      have hL : ∀ W, Ext wr W → Calls Tryd.prog 150 #[.pointer (some ⟨B, 0, none⟩), .int .i64 ((k : Int) + 1), .int .i64 i] W fun e w' => e = .returned (.bool (lessI l x y)) ∧ Ext W w' := fun W hW =>
        ctLess_any ea l w0 B a n c v1 idx1 (k + 1) i x y W (HC.out.ext hW) hl hA HV.out.at_ HY.out bx by_ hp
      have hS : ∀ W, Ext wr W → Calls Tryd.prog 152 #[.pointer (some ⟨B, 0, none⟩), .int .i64 i, .int .i64 ((k : Int) + 1)] W fun e w' => e = .returned (.tuple #[]) ∧ ∃ v', Cst w0 w' B a n c v' ((idx1.set i x).set (k + 1) y) := fun W hW =>
        ctSwap_any w0 B a n c v1 idx1 i (k + 1) y x W (HC.out.ext hW) HY.out HV.out.at_ hik
      have HL := hidden hL
      have HS := hidden hS
      clear hL hS
      cases hb : lessI l x y
      · have HB := hidden hb
        rw [hb] at HL
        go_wp2_with (go_at_call 150; (with_reducible refine (HL.out _ ((by repeat (first | with_reducible exact Ext.refl _ | with_reducible apply Ext.and | with_reducible apply Ext.drewx | with_reducible apply Ext.alloc | with_reducible apply Ext.ext | with_reducible apply Ext.drew | with_reducible refine Ext.setCell ?_ (by simp) _)) : Ext wr _)).mono ?_); rintro _ _ ⟨rfl, z1, rfl⟩)
        go_end0
        refine ⟨rfl, v1, idx1, HC.out.ext (by repeat (first | with_reducible exact Ext.refl _ | with_reducible apply Ext.and | with_reducible apply Ext.drewx | with_reducible apply Ext.alloc | with_reducible apply Ext.ext | with_reducible apply Ext.drew | with_reducible refine Ext.setCell ?_ (by simp) _)), hlen, HV.out.done hr (fun h => by omega) (fun _ => ?_)⟩
        cases hq2 : lessI l x r
        · rfl
        · exact absurd ((less_old bx.2 hr by_.2 hq2 (HV.out.old i y (by omega) HY.out)).1.symm.trans HB.out) (by simp)
      · have HB := hidden hb
        rw [hb] at HL
        go_wp2_with (first | (go_at_call 150; (with_reducible refine (HL.out _ ((by repeat (first | with_reducible exact Ext.refl _ | with_reducible apply Ext.and | with_reducible apply Ext.drewx | with_reducible apply Ext.alloc | with_reducible apply Ext.ext | with_reducible apply Ext.drew | with_reducible refine Ext.setCell ?_ (by simp) _)) : Ext wr _)).mono ?_); rintro _ _ ⟨rfl, z1, rfl⟩) | (go_at_call 152; (with_reducible refine (HS.out _ ((by repeat (first | with_reducible exact Ext.refl _ | with_reducible apply Ext.and | with_reducible apply Ext.drewx | with_reducible apply Ext.alloc | with_reducible apply Ext.ext | with_reducible apply Ext.drew | with_reducible refine Ext.setCell ?_ (by simp) _)) : Ext wr _)).mono ?_); rintro _ w2 ⟨rfl, v2, C2⟩))
        refine ⟨⟨i, v2, _, by omega, rfl, hidden C2, hidden (HV.out.swap hik HY.out), by simp [hlen], hidden ?_⟩, by simp [intOf]; omega⟩
        rcases Nat.eq_zero_or_pos i with h1 | h1
        · subst h1
          obtain rfl := Option.some.inj (HY.out.symm.trans (HV.out.root (by omega)))
          exact .inr HB.out
        · exact .inl h1

set_option maxRecDepth 20000 in
set_option maxHeartbeats 4000000 in
/-- The first that comes in. -/
theorem hPush0_any (l : List Rt) (w0 : World) (B : Nat) (a : Option Addr) (n c : Nat) (v : Value) (w : World) (h : Cst w0 w B a n c v []) (hl : 0 < l.length) :
    Calls Tryd.prog 54 #[.iface 76 (.pointer (some ⟨B, 0, none⟩)), .iface 3 (.int .i64 0)] w fun e w' => e = .returned (.tuple #[]) ∧ ∃ v', Cst w0 w' B a n c v' [0] ∧ Hp l [0] 0 := by
  have hna := naPush
  have hme := mePush
  have hnb := naLen
  have hmb := meLen
  have H := hidden h
  have i0 := hidden (show I64 0 from I64.mk (by omega) (by omega))
  clear h
  go_enter Tryd.func54, Tryd.ntmps54
  go_wp2_with (first | (go_at_call 151; (with_reducible refine (ctPush_any w0 B a n c v [] 0 _ H.out (by simp) i0.out).mono ?_); rintro _ w1 ⟨rfl, v1, C1⟩; have HC := hidden C1; clear C1) |
    (go_at_call 149; (with_reducible refine (ctLen_any w0 B a n c _ _ _ (HC.out.ext ((by repeat (first | with_reducible exact Ext.refl _ | with_reducible apply Ext.and | with_reducible apply Ext.drewx | with_reducible apply Ext.alloc | with_reducible apply Ext.ext | with_reducible apply Ext.drew | with_reducible refine Ext.setCell ?_ (by simp) _)) : Ext w1 _))).mono ?_); rintro _ _ ⟨rfl, z1, rfl⟩) | (go_at_call 81; (with_reducible refine (up0_any B _).mono ?_); rintro _ _ ⟨rfl, z2, rfl⟩))
  go_end0
  exact ⟨rfl, v1, HC.out.ext (by repeat (first | with_reducible exact Ext.refl _ | with_reducible apply Ext.and | with_reducible apply Ext.drewx | with_reducible apply Ext.alloc | with_reducible apply Ext.ext | with_reducible apply Ext.drew | with_reducible refine Ext.setCell ?_ (by simp) _)), Hp.first (by omega) (by simpa using hl)⟩

set_option maxRecDepth 20000 in
set_option maxHeartbeats 4000000 in
/-- The next one. -/
theorem hPush_any (ea : Addr) (l : List Rt) (w0 : World) (B : Nat) (a : Option Addr) (n c : Nat) (v : Value) (idx : List Int) (k : Nat) (r : Int) (w : World) (h : Cst w0 w B a n c v idx) (hl : SlRd w0 a n c l) (hA : l.all rtOk = true) (hp : EP w0 ea)
    (hH : Hp l idx r) (hr : r.toNat < l.length) (hk : k < l.length) (h0 : 0 < idx.length) (hm : idx.length ≤ 10000000) (ik : I64 k) :
    Calls Tryd.prog 54 #[.iface 76 (.pointer (some ⟨B, 0, none⟩)), .iface 3 (.int .i64 k)] w fun e w' => e = .returned (.tuple #[]) ∧ ∃ v' idx', Cst w0 w' B a n c v' idx' ∧ idx'.length = idx.length + 1 ∧ Hp l idx' (topI l k r) := by
  have hna := naPush
  have hme := mePush
  have hnb := naLen
  have hmb := meLen
  have H := hidden h
  have HI := hidden ik
  have hUp : ∀ v1 W, Cst w0 W B a n c v1 (idx ++ [(k : Int)]) → Calls Tryd.prog 81 #[.iface 76 (.pointer (some ⟨B, 0, none⟩)), .int .i64 idx.length] W fun e w' => e = .returned (.tuple #[]) ∧ ∃ v' idx', Cst w0 w' B a n c v' idx' ∧ idx'.length = (idx ++ [(k : Int)]).length ∧ Hp l idx' (topI l k r) := fun v1 W hC =>
    up_any ea l w0 B a n c v1 _ idx.length k r W hC hl hA hp (hH.push (by omega) (by simpa using hk) h0) hr h0 (by simp; omega)
  have HUP := hidden hUp
  clear h ik hUp
  go_enter Tryd.func54, Tryd.ntmps54
  go_wp2_with (first | (go_at_call 151; (with_reducible refine (ctPush_any w0 B a n c v idx k _ H.out (by omega) HI.out).mono ?_); rintro _ w1 ⟨rfl, v1, C1⟩; have HC := hidden C1; clear C1) |
    (go_at_call 149; (with_reducible refine (ctLen_any w0 B a n c _ _ _ (HC.out.ext ((by repeat (first | with_reducible exact Ext.refl _ | with_reducible apply Ext.and | with_reducible apply Ext.drewx | with_reducible apply Ext.alloc | with_reducible apply Ext.ext | with_reducible apply Ext.drew | with_reducible refine Ext.setCell ?_ (by simp) _)) : Ext w1 _))).mono ?_); rintro _ _ ⟨rfl, z1, rfl⟩) | (go_at_call 81; (with_reducible refine (HUP.out _ _ (HC.out.ext ((by repeat (first | with_reducible exact Ext.refl _ | with_reducible apply Ext.and | with_reducible apply Ext.drewx | with_reducible apply Ext.alloc | with_reducible apply Ext.ext | with_reducible apply Ext.drew | with_reducible refine Ext.setCell ?_ (by simp) _)) : Ext w1 _))).mono ?_); rintro _ w2 ⟨rfl, v2, i2, C2, L2, H2⟩))
  go_end0
  exact ⟨rfl, v2, i2, C2.ext (by repeat (first | with_reducible exact Ext.refl _ | with_reducible apply Ext.and | with_reducible apply Ext.drewx | with_reducible apply Ext.alloc | with_reducible apply Ext.ext | with_reducible apply Ext.drew | with_reducible refine Ext.setCell ?_ (by simp) _)), by simpa using L2, H2⟩
end Go.Proofs.YtlehcnfmagjilaaDoor
