/- What houses are to each other: how the program reads it into a map. No condition. -/
import Derived.Test.YtddeecfhggfnkaaRelsV
namespace Go.Proofs.Ytddeecfhggfnkaa
open Go Go.RowKit Go.Maps

set_option maxHeartbeats 400000 in
theorem mirror_any (r : Int) (w : World) : Calls Try.prog 81 #[.int .i64 r] w fun e w' => e = .returned (.int .i64 (bk r)) ∧ Ext w w' := by
  by_cases h1 : r = 1
  · subst h1
    go_enter Try.func81, Try.ntmps81
    go_wp2_with (first | ((first | with_reducible refine wp_region_qe (by kernel_rfl) (by kernel_rfl) ?_ | with_reducible refine wp_region_q (by kernel_rfl) (by kernel_rfl) ?_); (repeat (go_big_quiet_step (fail))); refine wpQuiet_nil ?_; intro x))
    go_ret
    exact ⟨rfl, (by repeat (first | with_reducible exact Ext.refl _ | with_reducible apply Ext.and | with_reducible apply Ext.drewx | with_reducible apply Ext.alloc | with_reducible apply Ext.ext | with_reducible apply Ext.drew | with_reducible refine Ext.setCell ?_ (by simp) _))⟩
  · by_cases h3 : r = 3
    · subst h3
      go_enter Try.func81, Try.ntmps81
      go_wp2_with (first | ((first | with_reducible refine wp_region_qe (by kernel_rfl) (by kernel_rfl) ?_ | with_reducible refine wp_region_q (by kernel_rfl) (by kernel_rfl) ?_); (repeat (go_big_quiet_step (fail))); refine wpQuiet_nil ?_; intro x))
      go_ret
      exact ⟨rfl, (by repeat (first | with_reducible exact Ext.refl _ | with_reducible apply Ext.and | with_reducible apply Ext.drewx | with_reducible apply Ext.alloc | with_reducible apply Ext.ext | with_reducible apply Ext.drew | with_reducible refine Ext.setCell ?_ (by simp) _))⟩
    · have e : bk r = r := by unfold bk; rw [if_neg h1, if_neg h3]
      rw [e]
      clear e
      go_enter Try.func81, Try.ntmps81
      go_wp2_with (first | ((first | with_reducible refine wp_region_qe (by kernel_rfl) (by kernel_rfl) ?_ | with_reducible refine wp_region_q (by kernel_rfl) (by kernel_rfl) ?_); (repeat (go_big_quiet_step (fail))); refine wpQuiet_nil ?_; intro x))
      go_ret
      exact ⟨rfl, (by repeat (first | with_reducible exact Ext.refl _ | with_reducible apply Ext.and | with_reducible apply Ext.drewx | with_reducible apply Ext.alloc | with_reducible apply Ext.ext | with_reducible apply Ext.drew | with_reducible refine Ext.setCell ?_ (by simp) _))⟩

/-- The map of the couples reads so. -/
def Kn (w : World) (B : Nat) (m : List (List Int)) : Prop := ∃ (n : Nat) (D : Dm), w.ownsMap Try.prog 86 (plainElem Try.prog 3) B n D ∧ Fl D (gP m)

/-- The two boxes of the call. -/
def RB (N : Nat) (len : Nat) (w : World) : Prop :=
  (w.cell? ⟨N, 0, none⟩ = some (.int .i64 0) ∧ w.cell? ⟨N, 1, none⟩ = some (.map none) ∧ w.frozen? ⟨N, 0, none⟩ = false ∧ w.frozen? ⟨N, 1, none⟩ = false) ∧
  w.cell? ⟨N + 1 + 1, 0, none⟩ = some (.int .i64 len) ∧ w.cell? ⟨N + 1 + 1, 1, none⟩ = some (.map (some (N + 1)))

theorem RB.kept {N len : Nat} {w w' : World} {row : Option Nat} (h : RB N len w) (hg : w.grownBy w' row) (hj : some N ≠ row) (hj' : some (N + 1 + 1) ≠ row) : RB N len w' := by
  obtain ⟨⟨h1, h2, h3, h4⟩, h5, h6⟩ := h
  have e1 : w'.heap[N]? = w.heap[N]? := hg.block N (cell_lt h1) hj
  have e2 : w'.heap[N + 1 + 1]? = w.heap[N + 1 + 1]? := hg.block _ (cell_lt h5) hj'
  exact ⟨⟨(World.cell?_of_block e1).trans h1, (World.cell?_of_block e1).trans h2, (World.frozen?_of_block e1).trans h3, (World.frozen?_of_block e1).trans h4⟩, (World.cell?_of_block e2).trans h5, (World.cell?_of_block e2).trans h6⟩

/-- What reading hands back. -/
def RR (w : World) (m : List (List Int)) (len : Nat) (e : Ending) (w' : World) : Prop :=
  (rls m = true ∧ (∃ B, e = .returned (.tuple #[.agg #[.int .i64 len, .map (some B)], .bool true]) ∧ Kn w' B m) ∨ rls m = false ∧ e = .returned (.tuple #[.agg #[.int .i64 0, .map none], .bool false])) ∧ Ext w w'
theorem RR.no {w w' : World} {m : List (List Int)} {len : Nat} {e : Ending} (h : rls m = false) (he : e = .returned (.tuple #[.agg #[.int .i64 0, .map none], .bool false])) (hx : Ext w w') : RR w m len e w' := ⟨.inr ⟨h, he⟩, hx⟩

theorem zeroI (w : World) : (zeroValue 3).run Try.prog w = .ok (.int .i64 0) w := by kernel_rfl

/-- A look-up in such a map. -/
theorem look_known {w : World} {B n : Nat} {D : Dm} {f : Int → Int → Int} (h : w.ownsMap Try.prog 86 (plainElem Try.prog 3) B n D) (hf : Fl D f) {a b : Int} (ha : WF a) (hb : WF b) :
    (Instr.lookup 63 (.map (some B)) (.agg #[.int .i64 a, .int .i64 b]) false).run Try.prog w = .ok (.int .i64 (f a b)) w := by
  obtain ⟨c, hr, hat, _⟩ := h.lookup_int lawK Try.underlying63 Try.underlying3 (zeroI w) (ck_ok ha hb)
  have h1 := (hf a b ha hb).1
  rw [hat] at h1
  have : c = f a b := by simpa using h1
  subst this
  exact hr
theorem ownsMap_ext {w : World} {B n : Nat} {D : Dm} (h : w.ownsMap Try.prog 86 (plainElem Try.prog 3) B n D) {w' : World} (he : Ext w w') : w'.ownsMap Try.prog 86 (plainElem Try.prog 3) B n D := by
  obtain ⟨es, clock, hb, F⟩ := h
  exact ⟨es, clock, (he.below.block B (Array.getElem?_eq_some_iff.1 hb).1).trans hb, F⟩

theorem Ext.grown {w w' : World} (h : Ext w w') : w.grownBy w' none := ⟨h.below.os, h.below.tape, h.below.output, h.below.size, fun i hi _ => h.below.block i hi⟩
theorem ranges_ext {w : World} {b r n cnt : Nat} {D : Dm} {left : Lit → Bool} (h : w.ranges Try.prog 86 (plainElem Try.prog 3) b r n D left cnt) {w' : World} (he : Ext w w') : w'.ranges Try.prog 86 (plainElem Try.prog 3) b r n D left cnt :=
  h.kept he.grown (by simp) (by simp)
theorem pass_step {m : List (List Int)} {left : Lit → Bool} {xa xb : Int} (wa : WF xa) (wb : WF xb) (hp : pass m xa xb) (h : ∀ a b, WF a → WF b → gP m a b ≠ 0 → left (ck a b) = false → pass m a b) :
    ∀ a b, WF a → WF b → gP m a b ≠ 0 → (left (ck a b) && !(ck a b).sameKey (ck xa xb)) = false → pass m a b := by
  intro a b ha hb h0 hl
  by_cases hs : (ck a b).sameKey (ck xa xb) = true
  · obtain ⟨rfl, rfl⟩ := ck_inj ha hb wa wb (WideAt.sameKey_eq hs)
    exact hp
  · exact h a b ha hb h0 (by simpa [hs] using hl)

set_option maxRecDepth 100000 in
set_option maxHeartbeats 4000000 in
theorem readRels_any (a : Option Addr) (len cap : Nat) (m : List (List Int)) (w : World) (h : SlRd w a len cap m) :
    Calls Try.prog 54 #[.slice a len cap] w (RR w m len) := by
  have hm := h.2.2.1
  have hlc := h.2.1
  have HL : Hid (m.length = len) := h.1
  unfold maxLen at hm
  have hmm := @run_makeMap Try.prog
  by_cases hin : 1 ≤ len ∧ len ≤ 5
  · obtain ⟨hl1, hl5⟩ := hin
    go_enter Try.func54, Try.ntmps54
    go_wp2
    obtain ⟨W, hW⟩ : ∃ W, W = (((w.alloc (Obj.cells #[Value.int IntKind.i64 0, Value.map none] 65)).alloc (Obj.map #[] 0)).alloc (Obj.cells #[Value.int IntKind.i64 len, Value.map (some (w.heap.size + 1))] 65)) := ⟨_, rfl⟩
    have hE0 : Ext w W := by rw [hW]; exact (by repeat (first | with_reducible exact Ext.refl _ | with_reducible apply Ext.and | with_reducible apply Ext.drewx | with_reducible apply Ext.alloc | with_reducible apply Ext.ext | with_reducible apply Ext.drew | with_reducible refine Ext.setCell ?_ (by simp) _))
    have hB0 : RB w.heap.size len W := by rw [hW]; refine ⟨⟨?_, ?_, ?_, ?_⟩, ?_, ?_⟩ <;> go_simp
    have hO0 : W.ownsMap Try.prog 86 (plainElem Try.prog 3) (w.heap.size + 1) 0 (.map [] : Dm) := by
      rw [hW]
      have := World.ownsMap_made (H := Unit) (w.alloc (Obj.cells #[Value.int IntKind.i64 0, Value.map none] 65)) Try.prog 86 (plainElem Try.prog 3)
      rw [World.size_alloc] at this
      exact this.alloc _
    rw [← hW]
    clear hW
    go_loopw [26] (fun i wr => ∃ (k : Nat) (D : Dm), k ≤ len ∧ i = .int .i64 k ∧ Ext w wr ∧ RB w.heap.size len wr ∧ wr.ownsMap Try.prog 86 (plainElem Try.prog 3) (w.heap.size + 1) (k * 5) D ∧ Hid (Fl D (vP m k 0)) ∧ Hid (∀ j, j < k → (m.getD j []).length = m.length ∧ ∀ t, t < m.length → 0 ≤ gI m j t ∧ gI m j t ≤ 3)) (fun i _ => len - (intOf i).toNat)
    case atStart => exact ⟨0, .map [], Nat.zero_le _, rfl, hE0, hB0, hO0, fl_start m, fun j hj => absurd hj (Nat.not_lt_zero _)⟩
    case round =>
      obtain ⟨i, D, hi, rfl, hE, hB, hO, HF, HT⟩ := hrel
      obtain ⟨w1, rfl⟩ : ∃ w1, w1 = wr := ⟨wr, rfl⟩
      clear hE0 hB0 hO0
      have hB' := hB
      obtain ⟨⟨r1, r2, r3, r4⟩, r5, r6⟩ := hB
      have lN := cell_lt r1
      have lN2 := cell_lt r5
      by_cases hlt : i < len
      · obtain ⟨d, hd, b, off, ys, rfl, hys, hcell, hrd⟩ := h.at (Ext.refl w) hlt
        obtain ⟨a1, n1, c1, rfl, g1⟩ := hrd
        have c0w : w.cell? ⟨b, off + i, none⟩ = some (.slice a1 n1 c1) := by have := hcell 0 _ rfl; simpa [Lay.n] using this
        have lb := cell_lt c0w
        have c0 : w1.cell? ⟨b, off + i, none⟩ = some (.slice a1 n1 c1) := (hE.below.cell (p := ⟨b, off + i, none⟩) lb).trans c0w
        have HD : Hid (m[i]? = some d) := hd
        clear hcell hys hd c0w
        by_cases hn : n1 = len
        · obtain rfl : len = n1 := hn.symm
          have HR : Hid ((m.getD i []).length = m.length) := by
            have h1 := g1.1; have h2 := HD.out; have h3 := HL.out
            rw [show m.getD i [] = d from row_at h2]; unfold Hid; omega
          clear hn
          go_wp2_with fail
          go_loopw [39] (fun i2 wr => ∃ (t : Nat) (D : Dm), t ≤ len ∧ i2 = .int .i64 t ∧ Ext w wr ∧ RB w.heap.size len wr ∧ wr.ownsMap Try.prog 86 (plainElem Try.prog 3) (w.heap.size + 1) (i * 5 + t) D ∧ Hid (Fl D (vP m i t)) ∧ Hid (∀ s, s < t → 0 ≤ gI m i s ∧ gI m i s ≤ 3)) (fun i2 _ => len - (intOf i2).toNat)
          case atStart => exact ⟨0, D, Nat.zero_le _, rfl, hE, hB', hO, HF, fun j hj => absurd hj (Nat.not_lt_zero _)⟩
          case round =>
            obtain ⟨t, D2, ht, rfl, hE2, hB2, hO2, HF2, HT2⟩ := hrel
            clear r1 r2 r3 r4 r5 r6 hB' lN lN2 c0 hO HF
            have hB2' := hB2
            obtain ⟨⟨s1, s2, s3, s4⟩, s5, s6⟩ := hB2
            have lN := cell_lt s1
            have lN2 := cell_lt s5
            by_cases hlt2 : t < len
            · obtain ⟨v, hv, b3, off3, ys, rfl, hys, hcell, hrd⟩ := g1.at (Ext.refl w) hlt2
              obtain ⟨rfl, wv⟩ := hrd
              have q1w : w.cell? ⟨b3, off3 + t, none⟩ = some (.int .i64 v) := by have := hcell 0 _ rfl; simpa [Lay.n] using this
              have lb3 := cell_lt q1w
              have q1 : wr.cell? ⟨b3, off3 + t, none⟩ = some (.int .i64 v) := (hE2.below.cell (p := ⟨b3, off3 + t, none⟩) lb3).trans q1w
              have HV : Hid (gI m i t = v) := gI_at HD.out hv
              have wi : Hid (WF ((i : Int) + 1)) := WF_of (by omega) (by omega)
              have wt : Hid (WF ((t : Int) + 1)) := WF_of (by omega) (by omega)
              have wv := hidden wv
              clear hcell hys hv q1w
              by_cases hv3 : 0 ≤ v ∧ v ≤ 3
              · obtain ⟨v0, v3⟩ := hv3
                by_cases hz : v = 0
                · subst hz
                  go_wp2_with fail
                  go_roundw
                  case rel => exact ⟨t + 1, D2, by omega, by go_num, hE2, hB2', hO2.mono (by omega), fl_zero HF2.out (by have := HL.out; omega) HV.out, below_succ HT2.out (by rw [HV.out]; omega)⟩
                  case measure => simp [intOf]; omega
                · have hz1 : (v != 0) = true := by simpa using hz
                  have hb0 : decide (v < 0) = false := by simp; omega
                  have hb3 : decide (3 < v) = false := by simp; omega
                  go_wp2_with (at_mapUpdate; refine wpList_mapUpdate_own _ rfl _ _ _ 63 rfl 86 3 lawK Try.underlying63 _ (w.heap.size + 1) _ _ rfl hO2 (by unfold maxLen; omega) _ _ _ rfl rfl (ck_ok wi.out wt.out) _ [] (plainElem_int Try.underlying3 wv.out) ?_; intro w2 hO3 hg3)
                  go_roundw
                  case rel => exact ⟨t + 1, _, by omega, by go_num, Ext.of (hE2.below.grown hg3 hE2.below.size (fun j hj => by cases hj; omega)), hB2'.kept hg3 (by simp) (by simp), hO3, (by have h1 := fl_put HF2.out hO2.isMap (by have := HL.out; omega) wi.out wt.out (by rw [HV.out]; exact hz); rw [HV.out] at h1; exact h1), below_succ HT2.out (by rw [HV.out]; omega)⟩
                  case measure => simp [intOf]; omega
              · have HN : rls m = false := rls_no (i := i) (k := t) (by have := HL.out; omega) (by have := HL.out; omega) (fun hc => hv3 (by rw [← HV.out]; exact ⟨hc.2.1, hc.2.2.1⟩))
                by_cases hv0 : v < 0
                · clear hv3
                  go_wp2_with fail
                  exact bodyPost_ret (v := .tuple #[.agg #[.int .i64 0, .map none], .bool false]) (by simp [results, Try.results54, go_sem, s1, s2]) rfl (RR.no HN rfl ((hE2.setCell (by simp) _).setCell (by simp) _))
                · have hb0 : decide (v < 0) = false := by simp; omega
                  have hb3 : decide (3 < v) = true := by simp; omega
                  clear hv3
                  go_wp2_with fail
                  exact bodyPost_ret (v := .tuple #[.agg #[.int .i64 0, .map none], .bool false]) (by simp [results, Try.results54, go_sem, s1, s2]) rfl (RR.no HN rfl ((hE2.setCell (by simp) _).setCell (by simp) _))
            · obtain rfl : len = t := by omega
              go_wp2_with fail
              go_roundw
              case rel => exact ⟨i + 1, D2, by omega, by go_num, hE2, hB2', hO2.mono (by omega), fl_row (by have := HF2.out; rwa [HL.out]), below_succ HT.out ⟨HR.out, fun s hs => HT2.out s (by have := HL.out; omega)⟩⟩
              case measure => simp [intOf]; omega
        · have hn1 : ((n1 : Int) != (len : Int)) = true := by simp; omega
          have HN : Hid (¬ (m.getD i []).length = m.length) := by
            have h1 := g1.1; have h2 := HD.out; have h3 := HL.out
            rw [show m.getD i [] = d from row_at h2]; unfold Hid; omega
          go_wp2
          exact bodyPost_ret (v := .tuple #[.agg #[.int .i64 0, .map none], .bool false]) (by simp [results, Try.results54, go_sem, r1, r2]) rfl (RR.no (rls_no_row (by have := HL.out; omega) HN.out) rfl ((hE.setCell (by simp) _).setCell (by simp) _))
      · obtain rfl : len = i := by omega
        clear hlt hi
        go_wp2_with (at_range; refine wpList_range_own _ rfl _ 63 rfl 86 3 lawK Try.underlying63 _ (w.heap.size + 1) _ _ rfl hO ?_; intro w0 hrg0 hg0 hs0)
        have hE0 : Ext w w0 := Ext.of (hE.below.grown hg0 hE.below.size (fun j hj => by cases hj))
        have hB0 := hB'.kept hg0 (by simp) (by simp)
        clear r1 r2 r3 r4 r5 r6
        go_loopw [10] (fun _ wr => ∃ (left : Lit → Bool) (cnt : Nat), wr.ranges Try.prog 86 (plainElem Try.prog 3) (w.heap.size + 1) w1.heap.size (len * 5) D left cnt ∧ Ext w wr ∧ RB w.heap.size len wr ∧ Hid (∀ a b, WF a → WF b → gP m a b ≠ 0 → left (ck a b) = false → pass m a b))
          (fun _ wr => wr.rangeLeft (w.heap.size + 1) w1.heap.size)
        case atStart =>
          exact ⟨_, _, hrg0, hE0, hB0, fun a b ha hb h0 hl => by
            have h1 := (fl_end (by have := HF.out; rwa [← HL.out] at this)) a b ha hb
            rw [h1.2.2 h0] at hl; cases hl⟩
        case round =>
          obtain ⟨left, cnt, hrg, hE2, hB2, HP⟩ := hrel
          have hB2' := hB2
          obtain ⟨⟨s1, s2, s3, s4⟩, s5, s6⟩ := hB2
          have lN := cell_lt s1
          have lN2 := cell_lt s5
          have HG : Hid (Fl D (gP m)) := fl_end (by have := HF.out; rwa [← HL.out] at this)
          clear hrg0 hg0 hs0 hE0 hB0
          go_wp2_with (at_next; refine wpList_next_ranges _ rfl _ rfl 86 lawK _ (fun x : Int × Int => cV x.1 x.2) (Value.int .i64) (fun key kl hk => by obtain ⟨x, hx, _⟩ := invK hk; exact ⟨x, hx⟩) (fun v y hv => by obtain ⟨c, rfl, _⟩ := plainElem_int_inv Try.underlying3 hv; exact ⟨c, rfl⟩) (w.heap.size + 1) w1.heap.size (len * 5) _ _ _ rfl hrg ?_ ?_)
          · intro hc0 hl0
            have HL0 := hidden hl0
            clear hl0
            go_wp2_with fail
            have hr : rls m = true := rls_of_pass (by have := HL.out; omega) (by have := HL.out; omega) (fun j hj => HT.out j (by have := HL.out; omega)) (fun a b ha hb h0 => HP.out a b ha hb h0 (HL0.out _))
            exact bodyPost_ret (v := .tuple #[.agg #[.int .i64 len, .map (some (w.heap.size + 1))], .bool true]) (by simp [results, Try.results54, go_sem, s1, s2]) rfl ⟨.inl ⟨hr, _, rfl, len * 5, D, (hrg.owns.setCell (by simp) _).setCell (by simp) _, HG.out⟩, (hE2.setCell (by simp) _).setCell (by simp) _⟩
          · intro xa xb c kl yd yp w2 cnt2 hkey hlk hRv hat hrg2 hlt2 hg2 hs2 hen
            obtain ⟨⟨a', b'⟩, hx, wa, wb⟩ := invK hkey
            obtain ⟨rfl, rfl⟩ : xa = a' ∧ xb = b' := by simpa [cV] using hx
            clear hx
            have hkl : kl = ck xa xb := by have := hkey.symm.trans (ck_ok wa wb); simpa using this
            subst hkl
            obtain ⟨c', hc', hy, wc⟩ := plainElem_int_inv Try.underlying3 hRv
            simp only [Value.int.injEq, true_and, Prod.mk.injEq] at hc' hy
            obtain rfl := hc'
            obtain ⟨rfl, rfl⟩ := hy
            have hfl := HG.out xa xb wa wb
            have hcg : c = gP m xa xb := by have := (hat (zL 0)).symm.trans hfl.1; simpa using this
            subst hcg
            have HN : Hid (gP m xa xb ≠ 0) := hfl.2.1 (has_true_of_atKey hat)
            have hE3 : Ext w w2 := Ext.of (hE2.below.grown hg2 hE2.below.size (fun j hj => by cases hj; have := hE.size; omega))
            have hB3 := hB2'.kept hg2 (by simp; have := hE.size; omega) (by simp; omega)
            have hB3' := hB3
            obtain ⟨⟨q1, q2, q3, q4⟩, q5, q6⟩ := hB3
            have wca := hidden wa
            have wcb := hidden wb
            have HAT := hidden hat
            clear hkey hlk hRv hat hfl s1 s2 s3 s4 s5 s6 hB2' hg2 lN lN2 wa wb wc hs2
            have hrg := hidden hrg
            have hlt2 := hidden hlt2
            have lN := cell_lt q1
            have lN2 := cell_lt q5
            unfold cV at hen
            go_wp2_with fail
            have HLK : ∀ x, (Instr.lookup 63 (.map (some (w.heap.size + 1))) (.agg #[.int .i64 xb, .int .i64 xa]) false).run Try.prog (ext (w2.alloc (.cells #[.int .i64 xa, .int .i64 xb] 86)) x) = .ok (.int .i64 (gP m xb xa)) (ext (w2.alloc (.cells #[.int .i64 xa, .int .i64 xb] 86)) x) :=
              fun x => look_known (ownsMap_ext (hrg2.owns.alloc _) ⟨x, rfl⟩) HG.out wcb.out wca.out
            go_wp2_with (first | (first | (go_at_call 81; (with_reducible refine (mirror_any _ _).mono ?_); rintro _ _ ⟨rfl, x, rfl⟩)) | ((first | with_reducible refine wp_region_qe (by kernel_rfl) (by kernel_rfl) ?_ | with_reducible refine wp_region_q (by kernel_rfl) (by kernel_rfl) ?_); (repeat' (first | go_big_quiet_step ((first | (go_at_call 81; first | with_reducible exact Calls.qb (by assumption) (mirror_any _ _) | with_reducible exact Calls.q (mirror_any _ _)))) | (refine wpQuiet_split rfl rfl rfl rfl (fun hsp => ?_) (fun hsp => ?_); ((fail_if_success (cases hsp; done)); simp only [hsp]; (try first | have hsq : _ < _ := of_decide_eq_true hsp | have hsq : _ ≤ _ := of_decide_eq_true hsp | have hsq : ¬ _ < _ := of_decide_eq_false hsp | have hsq : ¬ _ ≤ _ := of_decide_eq_false hsp)); rotate_left; ((fail_if_success (cases hsp; done)); simp only [hsp]; (try first | have hsq : _ < _ := of_decide_eq_true hsp | have hsq : _ ≤ _ := of_decide_eq_true hsp | have hsq : ¬ _ < _ := of_decide_eq_false hsp | have hsq : ¬ _ ≤ _ := of_decide_eq_false hsp))))); (all_goals (refine wpQuiet_nil ?_; intro x))))
            all_goals
              have hB4 : RB w.heap.size len (ext (w2.alloc (.cells #[.int .i64 xa, .int .i64 xb] 86)) x) := hB3'.kept (((Ext.refl w2).alloc _).ext x).grown (by simp) (by simp)
              have hB4' := hB4
              obtain ⟨⟨k1, k2, _, _⟩, _, _⟩ := hB4
            all_goals first
              | exact bodyPost_ret (v := .tuple #[.agg #[.int .i64 0, .map none], .bool false]) (by simp [results, Try.results54, go_sem, k1, k2]) rfl (RR.no (rls_no_pass HN.out (fun hp => by first | exact hp.1 (by simpa using hsp) | exact absurd hp.2 (bne_iff_ne.1 (by assumption)))) rfl ((((hE3.alloc _).ext _).setCell (by simp) _).setCell (by simp) _))
              | (go_roundw
                 (case rel => exact ⟨_, cnt2, ranges_ext (hrg2.alloc _) ⟨_, rfl⟩, (hE3.alloc _).ext _, hB4', pass_step wca.out wcb.out ⟨by simpa using hsp, by simpa using (‹(gP m xb xa != bk (gP m xa xb)) = false› : _)⟩ HP.out⟩)
                 (case measure => rw [(ranges_ext (hrg2.alloc _) ⟨_, rfl⟩ : World.ranges _ _ _ _ _ _ _ _ _ _).left_eq, hrg.out.left_eq]; exact hlt2.out))
  · by_cases hlo : len < 1
    · have hb1 : decide ((len : Int) < 1) = true := by simp; omega
      go_enter Try.func54, Try.ntmps54
      go_wp2
      exact bodyPost_ret (v := .tuple #[.agg #[.int .i64 0, .map none], .bool false]) (by simp [results, Try.results54, go_sem]) rfl (RR.no (by unfold rls; rw [decide_eq_false_iff_not]; intro hh; have := HL.out; omega) rfl (by repeat (first | with_reducible exact Ext.refl _ | with_reducible apply Ext.and | with_reducible apply Ext.drewx | with_reducible apply Ext.alloc | with_reducible apply Ext.ext | with_reducible apply Ext.drew | with_reducible refine Ext.setCell ?_ (by simp) _)))
    · have hb1 : decide ((len : Int) < 1) = false := by simp; omega
      have hb5 : decide (5 < (len : Int)) = true := by simp; omega
      go_enter Try.func54, Try.ntmps54
      go_wp2
      exact bodyPost_ret (v := .tuple #[.agg #[.int .i64 0, .map none], .bool false]) (by simp [results, Try.results54, go_sem]) rfl (RR.no (by unfold rls; rw [decide_eq_false_iff_not]; intro hh; have := HL.out; omega) rfl (by repeat (first | with_reducible exact Ext.refl _ | with_reducible apply Ext.and | with_reducible apply Ext.drewx | with_reducible apply Ext.alloc | with_reducible apply Ext.ext | with_reducible apply Ext.drew | with_reducible refine Ext.setCell ?_ (by simp) _)))

end Go.Proofs.Ytddeecfhggfnkaa
