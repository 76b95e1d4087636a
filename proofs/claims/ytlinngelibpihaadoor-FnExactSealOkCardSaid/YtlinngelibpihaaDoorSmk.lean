/- The proofs that go with a route told to a house: what the functions do. No condition. -/
import Derived.Test.YtlinngelibpihaaDoorPush
import Derived.Test.YtlinngelibpihaaDoorSeqG
import Derived.Test.YtlinngelibpihaaDoorFloat
import Derived.Test.YtlinngelibpihaaDoorRmk
import Derived.ArgAppend
namespace Go.Proofs.YtlinngelibpihaaDoor
open Go Go.RowKit

def sealAt (r : Rt) (to : Int) (k : Nat) : Se := ⟨r.path.getD k 0, if k = 0 then to else r.path.getD (k - 1) 0, r.r, r.path.drop k⟩
noncomputable def sealsOf (r : Rt) (to : Int) : List Se := if (rtOk r && (inB to 1 5 && !hasI r.path to)) = true then (List.range r.path.length).map (sealAt r to) else []
section
variable {r : Rt} {to q p : Int} {k : Nat}
theorem sealsOf_no (h : (rtOk r && (inB to 1 5 && !hasI r.path to)) = false) : sealsOf r to = [] := by unfold sealsOf; rw [h]; rfl
theorem sealsOf_yes (h : (rtOk r && (inB to 1 5 && !hasI r.path to)) = true) : sealsOf r to = (List.range r.path.length).map (sealAt r to) := by unfold sealsOf; rw [h]; rfl
theorem seals_succ : (List.range (k + 1)).map (sealAt r to) = (List.range k).map (sealAt r to) ++ [sealAt r to k] := by rw [List.range_succ, List.map_append]; rfl
theorem sealAt_zero (hq : r.path[0]? = some q) : sealAt r to 0 = ⟨q, to, r.r, r.path.drop 0⟩ := by
  unfold sealAt; rw [List.getD_eq_getElem?_getD, hq]; rfl
theorem sealAt_succ (hq : r.path[k + 1]? = some q) (hp : r.path[k]? = some p) : sealAt r to (k + 1) = ⟨q, p, r.r, r.path.drop (k + 1)⟩ := by
  unfold sealAt; rw [List.getD_eq_getElem?_getD, hq, if_neg (by omega), Nat.add_sub_cancel, List.getD_eq_getElem?_getD, hp]; rfl
theorem rt_f (h : rtOk r = true) : rok r.r.f r.r.b = true := rtOk_rok h
end
theorem AccF.se {lo n c : Nat} {a : Option Addr} {w : World} {l : List Int} {q p f b : Int} (h : AccF lo 3 w (.slice a n c) l) (i1 : I64 q) (i2 : I64 p) (i3 : I64 f) (i4 : I64 b) :
    ∃ fp, Ow.own w [.int .i64 q, .int .i64 p, .int .i64 f, .int .i64 b, .slice a n c] (⟨q, p, ⟨f, b⟩, l⟩ : Se) fp ∧ fp.Nodup ∧ ∀ x ∈ fp, lo ≤ x := by
  obtain ⟨fp1, o1, nd1, b1⟩ := h.own
  exact ⟨fp1, ⟨_, _, _, fp1, rfl, i1, i2, i3, i4, o1, rfl⟩, nd1, fun x hx => (h.low x (b1 x hx)).1⟩

theorem wpList_pushG {α : Type} [Lay α] [Ow α] [OneC α] [FlO α] {e : TypeId} {w : World} {l' : List α} {P : Program} {ops : Array Oper} {rest : List Oper} {o : Oper} {a : Act} {Q : Exit → Act → World → Prop} (hgd : o.guard = none) (s x : Operand) {t : TypeId} (ho : o.op = .call { callee := .builtin .append, args := #[s, x], argTypes := #[t, t] })
    {bytes m c B : Nat} {ad : Addr} (hT : TyI P t e (Lay.n α) bytes) (hby : bytes ≤ 1000) (hs : a.eval s = .slice (some ⟨B, 0, none⟩) 0 0) (hx : a.eval x = .slice (some ad) m c) (hm0 : 0 < m) (hm : m ≤ 1000000000) (hd : SlRd w (some ad) m c l')
    (h : ∀ v' w', AccF w.heap.size e w' v' l' → Ext w w' → wpList P ops Q rest (a.put o.dst v') w') : wpList P ops Q (o :: rest) a w := by
  obtain ⟨h1, h7, i, z, hi, hz, h4, h5, h6⟩ := hT
  obtain ⟨ys, k1, k2⟩ := hd.row
  have hcl : ys.length = m * Lay.n α := by rw [k2.1, hd.1]
  refine wpList_append_grows w hgd s x t ho e i z (Lay.n α) bytes h1 hi hz h4 h5 h6 h7 (some ⟨B, 0, none⟩) 0 0 [] hs (fun h => by cases h) (by simp) (fun b hb j u hu => by simp at hu) ad m c ys hx hcl (src_add k1) k2.one (by omega) (by unfold maxLen; omega) ?_ fun v' w' ho' hg => h v' w' ⟨ys, by simpa [hd.1] using ho', k2.any w'⟩ (Ext.by (Ext.refl w) hg (fun j hj => by cases hj))
  have h1 := Nat.mul_le_mul hm hby
  rw [Nat.zero_add]
  omega
theorem suf1 {w : World} {b off len cap : Nat} {l : List Int} (h : SlRd w (some ⟨b, off, none⟩) len cap l) {i : Nat} (hi : i ≤ len) : SlRd w (some ⟨b, off + i, none⟩) (len - i) (cap - i) (l.drop i) := by
  have := h.suf hi
  rwa [show i * Lay.n Int = i from Nat.mul_one i] at this

set_option maxRecDepth 20000 in
set_option maxHeartbeats 8000000 in
theorem l13Of_any (d : Rt) (to : Int) (k : Nat) (a1 : Option Addr) (n1 c1 : Nat) (a2 : Option Addr) (n2 c2 : Nat) (w : World) (h1 : SlRd w a1 n1 c1 d.path) (hk : k < n1) (hl : n1 ≤ 5) :
    Calls Tryd.prog 45 #[.agg #[.int .i64 d.r.f, .int .i64 d.r.b, .slice a1 n1 c1, .int .i64 d.like, .slice a2 n2 c2], .int .i64 to, .int .i64 k] w fun x w' => ∃ b n c, x = .returned (.agg #[.int .i64 (sealAt d to k).sby, .int .i64 (sealAt d to k).to, .int .i64 d.r.f, .int .i64 d.r.b, .slice b n c]) ∧ AccF w.heap.size 3 w' (.slice b n c) (d.path.drop k) ∧ Ext w w' := by
  have hcm := h1.2.2.1
  have hlc := h1.2.1
  unfold maxLen at hcm
  obtain ⟨q, qhd, qb, qoff, qys, rfl, qhys, qhcell, qhrd⟩ := h1.at (Ext.refl w) hk
  obtain ⟨rfl, qg0⟩ := qhrd
  have qc0 : w.cell? ⟨qb, qoff + k, none⟩ = some (.int .i64 q) := by have := qhcell 0 _ rfl; simpa [Lay.n] using this
  have qlb := cell_lt qc0
  have qHD := hidden qhd
  clear qhcell qhys qhd
  have H1 := hidden (suf1 h1 (Nat.le_of_lt hk))
  have HP := hidden h1
  go_enter Tryd.func45, Tryd.ntmps45
  go_upto_region 1 with fail
  refine wp_name (fun V0 hV => ?_)
  have hX0 : Ext w V0 := by rw [hV]; exact (by repeat (first | with_reducible exact Ext.refl _ | with_reducible apply Ext.and | with_reducible apply Ext.drewx | with_reducible apply Ext.alloc | with_reducible apply Ext.ext | with_reducible apply Ext.drew | with_reducible refine Ext.setCell ?_ (by simp) _))
  have BX0 := hidden (show Blk V0 w.heap.size 49 [.int .i64 d.r.f, .int .i64 d.r.b, .slice (some ⟨qb, qoff, none⟩) n1 c1, .int .i64 d.like, .slice a2 n2 c2] by rw [hV]; exact (Blk.newAt w #[_, _, _, _, _] _ (by simp)).extends (by repeat (first | with_reducible exact Ext.refl _ | with_reducible apply Ext.and | with_reducible apply Ext.drewx | with_reducible apply Ext.alloc | with_reducible apply Ext.ext | with_reducible apply Ext.drew | with_reducible refine Ext.setCell ?_ (by simp) _)))
  have BX1 := hidden (show Blk V0 (w.heap.size + 1) 35 [.int .i64 0, .int .i64 0, .int .i64 0, .int .i64 0, .slice none 0 0] by rw [hV]; exact (Blk.newAt (w.alloc _) #[_, _, _, _, _] _ (by simp)).extends (by repeat (first | with_reducible exact Ext.refl _ | with_reducible apply Ext.and | with_reducible apply Ext.drewx | with_reducible apply Ext.alloc | with_reducible apply Ext.ext | with_reducible apply Ext.drew | with_reducible refine Ext.setCell ?_ (by simp) _)))
  have hS0 : w.heap.size + 2 ≤ V0.heap.size := by rw [hV]; simp
  clear hV
  go_cut [7] from 8 (fun p wx => ∃ (B : Nat) (b : Option Addr) (n c : Nat), p = .pointer (some ⟨B, 0, none⟩) ∧ Hid (Blk wx B 35 [.int .i64 q, .int .i64 to, .int .i64 d.r.f, .int .i64 d.r.b, .slice b n c]) ∧ Hid (AccF V0.heap.size 3 wx (.slice b n c) (d.path.drop k)) ∧ Hid ((Value.slice b n c).ownBlock ≠ some B) ∧ V0.heap.size ≤ B ∧ Ext V0 wx)
  case first =>
    have x0 := BX0.out.drew.cell (j := 0) rfl
    have x1 := BX0.out.drew.cell (j := 1) rfl
    have x2 := BX0.out.drew.cell (j := 2) rfl
    have xl := BX0.out.drew.lt
    have hq0 : V0.drew.cell? ⟨qb, qoff + k, none⟩ = some (.int .i64 q) := ((hX0.drew).below.cell (p := ⟨qb, qoff + k, none⟩) (by simpa using qlb)).trans qc0
    have y0 := BX0.out.cell (j := 0) rfl
    have y1 := BX0.out.cell (j := 1) rfl
    have y2 := BX0.out.cell (j := 2) rfl
    have yl := BX0.out.lt
    have hp0 : V0.cell? ⟨qb, qoff + k, none⟩ = some (.int .i64 q) := (hX0.below.cell (p := ⟨qb, qoff + k, none⟩) (by simpa using qlb)).trans qc0
    have hpl : qb < V0.heap.size := Nat.lt_of_lt_of_le qlb hX0.size
    have hql : qb < V0.drew.heap.size := Nat.lt_of_lt_of_le qlb (hX0.drew).size
    (with_reducible refine G.wp_region_seqF (by kernel_rfl) (by kernel_rfl) (fun w0 hE0 _ _ => ?_)); (repeat' (first | ((with_reducible refine G.wpSeqF_pure (by with_unfolding_all rfl) (fun Kq hKq => ?_)); (repeat' (go_big_quiet_step (fail))); (all_goals (refine wpQuiet_nil ?_; refine hKq _ ?_; clear hKq Kq))) | ((with_reducible refine G.wpSeqF_act (by with_unfolding_all rfl) (by with_unfolding_all rfl) (fun w1 he1 Q' hQ' => ?_)); (go_wp2_with (first | ((at_builtin; refine wpList_pushG (l' := d.path.drop k) rfl _ _ rfl tyi_int (by decide) (by rfl) (by rfl) (by omega) (by omega) (H1.out.stays (hX0.trans (by repeat (first | with_reducible assumption | with_reducible exact Ext.refl _ | with_reducible apply Ext.and | with_reducible apply Ext.drewx | with_reducible apply Ext.alloc | with_reducible apply Ext.ext | with_reducible apply Ext.drew | with_reducible refine Ext.setCell ?_ (by assumption) _ | with_reducible refine Ext.trans ?_ (by with_reducible assumption)))).below) ?_; intro v1 w2 hA1 hE2; obtain ⟨b1, m1, d1, rfl⟩ := hA1.shapeL; have HA1 := hidden hA1; clear hA1)))); (all_goals (refine hQ' _ _ rfl (by repeat (first | with_reducible assumption | with_reducible exact Ext.refl _ | with_reducible apply Ext.and | with_reducible apply Ext.drewx | with_reducible apply Ext.alloc | with_reducible apply Ext.ext | with_reducible apply Ext.drew | with_reducible refine Ext.setCell ?_ (by assumption) _ | with_reducible refine Ext.trans ?_ (by with_reducible assumption))) ?_; clear hQ' Q'))) | ((with_reducible refine G.wpSeqF_alloc (by with_unfolding_all rfl) (by with_unfolding_all rfl) (by with_unfolding_all rfl) 35 #[.int .i64 0, .int .i64 0, .int .i64 0, .int .i64 0, .slice none 0 0] (by intro w; go_simp) (fun B w' heB hb hwb hd => ?_)); have hb0 := hb.cell (j := 0) rfl; have hf0 := hb.frozen 0; have hb1 := hb.cell (j := 1) rfl; have hf1 := hb.frozen 1; have hb2 := hb.cell (j := 2) rfl; have hf2 := hb.frozen 2; have hb3 := hb.cell (j := 3) rfl; have hf3 := hb.frozen 3; have hb4 := hb.cell (j := 4) rfl; have hf4 := hb.frozen 4; have hbl := hb.lt) | ((with_reducible refine G.wpSeqF_brk (by with_unfolding_all rfl) (by with_unfolding_all rfl) (by with_unfolding_all rfl) (by with_unfolding_all rfl) (fun Q' hQ' => ?_)); (go_wp2_with fail); (all_goals (refine hQ' _ _ rfl (by repeat (first | with_reducible assumption | with_reducible exact Ext.refl _ | with_reducible apply Ext.and | with_reducible apply Ext.drewx | with_reducible apply Ext.alloc | with_reducible apply Ext.ext | with_reducible apply Ext.drew | with_reducible refine Ext.setCell ?_ (by assumption) _ | with_reducible refine Ext.trans ?_ (by with_reducible assumption))) ?_; clear hQ' Q'))))); (all_goals (with_reducible refine G.wpSeqF_nil ?_))
    all_goals
      go_wp2_with fail
      go_meet
      case rel =>
        have hne : (Value.slice b1 m1 d1).ownBlock ≠ some B := fun e => by
          have h1 := HA1.out.low _ e
          have h2 := hd.2
          omega
        have hb5 := Blk.fill5 (v0 := .int .i64 q) (v1 := .int .i64 to) (v2 := .int .i64 d.r.f) (v3 := .int .i64 d.r.b) (v4 := .slice b1 m1 d1) hb
        refine ⟨B, b1, m1, d1, rfl, hidden hb5, ?_, hidden hne, hwb, (by repeat (first | with_reducible assumption | with_reducible exact Ext.refl _ | with_reducible apply Ext.and | with_reducible apply Ext.drewx | with_reducible apply Ext.alloc | with_reducible apply Ext.ext | with_reducible apply Ext.drew | with_reducible refine Ext.setCell ?_ (by assumption) _ | with_reducible refine Ext.trans ?_ (by with_reducible assumption)))⟩
        refine hidden ?_
        have hA := (HA1.out.ext heB).base (Ext.size ((by repeat (first | with_reducible assumption | with_reducible exact Ext.refl _ | with_reducible apply Ext.and | with_reducible apply Ext.drewx | with_reducible apply Ext.alloc | with_reducible apply Ext.ext | with_reducible apply Ext.drew | with_reducible refine Ext.setCell ?_ (by assumption) _ | with_reducible refine Ext.trans ?_ (by with_reducible assumption))) : Ext V0 _))
        exact ((((hA.setNe hne _).setNe hne _).setNe hne _).setNe hne _).setNe hne _
  case rest =>
    obtain ⟨B, b, n, c, rfl, BB, AA, NB, hwb, hE⟩ := hcut
    have hBX := hX0.trans hE
    have BX0 := hidden (BX0.out.extends hE)
    have BX1 := hidden (BX1.out.extends hE)
    have x0 := BX0.out.cell (j := 0) rfl
    have x1 := BX0.out.cell (j := 1) rfl
    have x2 := BX0.out.cell (j := 2) rfl
    have xl := BX0.out.lt
    have r0 := BX1.out.cell (j := 0) rfl
    have r1 := BX1.out.cell (j := 1) rfl
    have r2 := BX1.out.cell (j := 2) rfl
    have r3 := BX1.out.cell (j := 3) rfl
    have r4 := BX1.out.cell (j := 4) rfl
    have rl := BX1.out.lt
    have rf0 := BX1.out.frozen 0
    have rf1 := BX1.out.frozen 1
    have rf2 := BX1.out.frozen 2
    have rf3 := BX1.out.frozen 3
    have rf4 := BX1.out.frozen 4
    have b0 := BB.out.cell (j := 0) rfl
    have b1 := BB.out.cell (j := 1) rfl
    have b2 := BB.out.cell (j := 2) rfl
    have b3 := BB.out.cell (j := 3) rfl
    have b4 := BB.out.cell (j := 4) rfl
    have bl := BB.out.lt
    have bf1 := BB.out.frozen 1
    have nB1 : ¬ (B = w.heap.size + 1) := by omega
    have nB2 : ¬ (w.heap.size + 1 = B) := by omega
    have nB3 : ¬ (B = w.heap.size) := by omega
    have nB4 : ¬ (w.heap.size = B) := by omega
    have aN : ∀ g, g < V0.heap.size → (Value.slice b n c).ownBlock ≠ some g := fun g hg e => by have := (AA.out.low _ e).1; omega
    have AN := hidden aN
    clear aN
    cases k with
    | zero =>
      have HS := hidden (sealAt_zero (r := d) (to := to) qHD.out)
      go_wp2_with fail
      exact bodyPost_ret (v := .agg #[.int .i64 q, .int .i64 to, .int .i64 d.r.f, .int .i64 d.r.b, .slice b n c]) (by simp [results, Tryd.results45, go_sem, r0, r1, r2, r3, r4]) rfl ⟨b, n, c, by rw [HS.out], by
        refine AccF.base (N := V0.heap.size) ?_ (by omega)
        exact (((((AA.out.setNe (AN.out _ (by omega)) _).setNe (AN.out _ (by omega)) _).setNe (AN.out _ (by omega)) _).setNe (AN.out _ (by omega)) _).setNe (AN.out _ (by omega)) _), (by repeat (first | with_reducible assumption | with_reducible exact Ext.refl _ | with_reducible apply Ext.and | with_reducible apply Ext.drewx | with_reducible apply Ext.alloc | with_reducible apply Ext.ext | with_reducible apply Ext.drew | with_reducible refine Ext.setCell ?_ (by first | (simp; done) | (simp; omega) | omega) _))⟩
    | succ j =>
      obtain ⟨p, phd, pb, poff, pys, phbb, phys, phcell, phrd⟩ := h1.at (Ext.refl w) (show j < n1 by omega)
      obtain ⟨rfl, rfl⟩ : qb = pb ∧ qoff = poff := by simpa using phbb
      obtain ⟨rfl, pg0⟩ := phrd
      have pc0 : w.cell? ⟨qb, qoff + j, none⟩ = some (.int .i64 p) := by have := phcell 0 _ rfl; simpa [Lay.n] using this
      have plb := cell_lt pc0
      have pHD := hidden phd
      clear phcell phys phd
      have HS := hidden (sealAt_succ (to := to) qHD.out pHD.out)
      have hp0 : wc.cell? ⟨qb, qoff + j, none⟩ = some (.int .i64 p) := (hBX.below.cell (p := ⟨qb, qoff + j, none⟩) qlb).trans pc0
      have hpl : qb < wc.heap.size := Nat.lt_of_lt_of_le qlb hBX.size
      go_wp2_with fail
      exact bodyPost_ret (v := .agg #[.int .i64 q, .int .i64 p, .int .i64 d.r.f, .int .i64 d.r.b, .slice b n c]) (by simp [results, Tryd.results45, go_sem, r0, r1, r2, r3, r4]) rfl ⟨b, n, c, by rw [HS.out], by
        refine AccF.base (N := V0.heap.size) ?_ (by omega)
        exact ((((((AA.out.setNe NB.out _).setNe (AN.out _ (by omega)) _).setNe (AN.out _ (by omega)) _).setNe (AN.out _ (by omega)) _).setNe (AN.out _ (by omega)) _).setNe (AN.out _ (by omega)) _), (by repeat (first | with_reducible assumption | with_reducible exact Ext.refl _ | with_reducible apply Ext.and | with_reducible apply Ext.drewx | with_reducible apply Ext.alloc | with_reducible apply Ext.ext | with_reducible apply Ext.drew | with_reducible refine Ext.setCell ?_ (by first | (simp; done) | (simp; omega) | omega) _))⟩

end Go.Proofs.YtlinngelibpihaaDoor
