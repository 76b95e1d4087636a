/- A route anew: what the functions do. No condition. -/
import Derived.Test.YtlehcnfmagjilaaDoorRoute
import Derived.Test.YtlehcnfmagjilaaDoorPathA
import Derived.Test.YtlehcnfmagjilaaDoorKeep
namespace Go.Proofs.YtlehcnfmagjilaaDoor
open Go Go.RowKit

section
variable {α : Type} [Lay α] {N M : Nat} {e : TypeId} {w w' : World} {v : Value} {l : List α}
theorem AccF.setNe [Ow α] [FlO α] (h : AccF N e w v l) {b o : Nat} (hb : v.ownBlock ≠ some b) (u : Value) : AccF N e (w.setCell ⟨b, o, none⟩ u) v l := by
  obtain ⟨xs, h1, h2⟩ := h
  exact ⟨xs, ownsRow_set h1 _ u hb, h2.any _⟩
theorem AccF.low (h : AccF N e w v l) : ∀ b, v.ownBlock = some b → N ≤ b ∧ b < w.heap.size := by
  obtain ⟨xs, h1, _⟩ := h
  exact h1.lt
theorem AccF.kept [Ow α] [FlO α] (h : AccF N e w v l) {row : Option Nat} (hg : w.grownBy w' row) (hne : ∀ b, row = some b → v.ownBlock ≠ some b) : AccF N e w' v l := by
  obtain ⟨xs, h1, h2⟩ := h
  refine ⟨xs, h1.kept hg ?_, h2.any _⟩
  cases hv : v.ownBlock with
  | none => exact .inl rfl
  | some g => exact .inr (fun e => hne g e.symm hv)
end

/-- The two lists of a route, of the call's own, each in a block of its own. -/
def Cp (lo : Nat) (w : World) (v1 v2 : Value) (l1 l2 : List Int) : Prop := AccF lo 3 w v1 l1 ∧ AccF lo 3 w v2 l2 ∧ ∀ b, v1.ownBlock = some b → v2.ownBlock ≠ some b
section
variable {lo lo' : Nat} {w w' : World} {v1 v2 : Value} {l1 l2 : List Int}
theorem Cp.ext (h : Cp lo w v1 v2 l1 l2) (k : Ext w w') : Cp lo w' v1 v2 l1 l2 := ⟨h.1.ext k, h.2.1.ext k, h.2.2⟩
theorem Cp.base (h : Cp lo w v1 v2 l1 l2) (k : lo' ≤ lo) : Cp lo' w v1 v2 l1 l2 := ⟨h.1.base k, h.2.1.base k, h.2.2⟩
theorem Cp.set (h : Cp lo w v1 v2 l1 l2) {b o : Nat} (h1 : v1.ownBlock ≠ some b) (h2 : v2.ownBlock ≠ some b) (u : Value) : Cp lo (w.setCell ⟨b, o, none⟩ u) v1 v2 l1 l2 := ⟨h.1.setNe h1 u, h.2.1.setNe h2 u, h.2.2⟩
theorem Cp.setLow (h : Cp lo w v1 v2 l1 l2) {b o : Nat} (hb : b < lo) (u : Value) : Cp lo (w.setCell ⟨b, o, none⟩ u) v1 v2 l1 l2 :=
  h.set (fun e => by have := (h.1.low b e).1; omega) (fun e => by have := (h.2.1.low b e).1; omega) u
theorem Cp.of {w1 : World} (h1 : AccF lo 3 w1 v1 l1) (hE : Ext w1 w) (h2 : AccF w1.heap.size 3 w v2 l2) (hlo : lo ≤ w1.heap.size) : Cp lo w v1 v2 l1 l2 :=
  ⟨h1.ext hE, h2.base hlo, fun b e e2 => by have := (h1.low b e).2; have := (h2.low b e2).1; omega⟩
theorem AccF.own [OneC Int] {a : Option Addr} {n c : Nat} {l : List Int} (h : AccF lo 3 w (.slice a n c) l) : ∃ fp, OwSl w a n c l fp ∧ fp.Nodup ∧ ∀ b ∈ fp, (Value.slice a n c).ownBlock = some b := by
  obtain ⟨xs, h1, h2⟩ := h
  obtain ⟨a', cap, e, hlc, hcm, ha, _⟩ := ownsRow_shape h1
  simp only [Value.slice.injEq] at e
  obtain ⟨rfl, rfl, rfl⟩ := e
  rcases Nat.eq_zero_or_pos l.length with h0 | h0
  · obtain rfl := List.eq_nil_of_length_eq_zero h0
    exact ⟨[], ⟨rfl, hlc, hcm, ha, .inl ⟨rfl, rfl⟩⟩, by simp, by simp⟩
  · obtain ⟨g, cur, rfl, hb, hl, ht⟩ := ownsRow_cur h1 h0
    refine ⟨[g], ⟨rfl, hlc, hcm, (fun h => by cases h), .inr ⟨g, _, cur, l.map (fun _ => []), rfl, hb, hl, by simp, ?_, fun i d f hd hf => ?_⟩⟩, by simp, fun b hb => by simp at hb; subst hb; rfl⟩
    · have : (l.map fun _ => ([] : List Nat)).flatten = [] := by simp
      rw [this]
    · obtain ⟨ys, z1, z2, z3⟩ := h2.2 i d hd
      obtain rfl : f = [] := by
        rw [List.getElem?_map, hd] at hf; exact (Option.some.inj hf).symm
      refine ⟨ys, z1, fun t u hu => ?_, FlO.own z3⟩
      have := z2 t u hu
      rw [← ht, List.getElem?_take] at this
      split at this
      · exact this
      · cases this
theorem Cp.shape (h : Cp lo w v1 v2 l1 l2) : ∃ a1 n1 c1 a2 n2 c2, v1 = .slice a1 n1 c1 ∧ v2 = .slice a2 n2 c2 := by
  obtain ⟨a1, n1, c1, rfl⟩ := h.1.shapeL
  obtain ⟨a2, n2, c2, rfl⟩ := h.2.1.shapeL
  exact ⟨_, _, _, _, _, _, rfl, rfl⟩
end

/-- A route of the call's own. -/
theorem Cp.fresh {w0 w : World} {lo : Nat} {a1 a2 : Option Addr} {n1 c1 n2 c2 : Nat} {d : Rt} (h : Cp lo w (.slice a1 n1 c1) (.slice a2 n2 c2) d.path d.marks) (hE : Ext w0 w) (hlo : w0.heap.size ≤ lo) (i1 : I64 d.r.f) (i2 : I64 d.r.b) (i3 : I64 d.like) :
    Fresh w0 w [.int .i64 d.r.f, .int .i64 d.r.b, .slice a1 n1 c1, .int .i64 d.like, .slice a2 n2 c2] d := by
  obtain ⟨fp1, o1, nd1, b1⟩ := h.1.own
  obtain ⟨fp2, o2, nd2, b2⟩ := h.2.1.own
  refine ⟨hE, fp1 ++ fp2, ⟨_, _, _, _, _, _, fp1, fp2, rfl, i1, i2, o1, i3, o2, rfl⟩, ?_, fun b hb => ?_⟩
  · exact List.nodup_append.2 ⟨nd1, nd2, fun x hx y hy e => by subst e; exact h.2.2 x (b1 x hx) (b2 x hy)⟩
  · rcases List.mem_append.1 hb with hb | hb
    · exact Nat.le_trans hlo (h.1.low b (b1 b hb)).1
    · exact Nat.le_trans hlo (h.2.1.low b (b2 b hb)).1
theorem Cp.fin {w0 w : World} {lo : Nat} {a1 a2 : Option Addr} {n1 c1 n2 c2 : Nat} {d : Rt} (h : Cp lo w (.slice a1 n1 c1) (.slice a2 n2 c2) d.path d.marks) (hE : Ext w0 w) (hlo : w0.heap.size ≤ lo) (i1 : I64 d.r.f) (i2 : I64 d.r.b) (i3 : I64 d.like) :
    ∃ x, w = Go.Proofs.YtlehcnfmagjilaaDoor.ext w0 x ∧ Hid (Fresh w0 (Go.Proofs.YtlehcnfmagjilaaDoor.ext w0 x) [.int .i64 d.r.f, .int .i64 d.r.b, .slice a1 n1 c1, .int .i64 d.like, .slice a2 n2 c2] d) := by
  have hf := h.fresh hE hlo i1 i2 i3
  obtain ⟨x, rfl⟩ := hE
  exact ⟨x, rfl, hf⟩

set_option maxRecDepth 20000 in
set_option maxHeartbeats 4000000 in
theorem copyRoute_any (f b like : Int) (a1 : Option Addr) (n1 c1 : Nat) (l1 : List Int) (a2 : Option Addr) (n2 c2 : Nat) (l2 : List Int) (w : World) (h1 : SlRd w a1 n1 c1 l1) (h2 : SlRd w a2 n2 c2 l2) (k1 : n1 ≤ 1000000000) (k2 : n2 ≤ 1000000000) :
    Calls Tryd.prog 35 #[.agg #[.int .i64 f, .int .i64 b, .slice a1 n1 c1, .int .i64 like, .slice a2 n2 c2]] w fun e w' => ∃ b1 m1 d1 b2 m2 d2, e = .returned (.agg #[.int .i64 f, .int .i64 b, .slice b1 m1 d1, .int .i64 like, .slice b2 m2 d2]) ∧ Cp w.heap.size w' (.slice b1 m1 d1) (.slice b2 m2 d2) l1 l2 ∧ Ext w w' := by
  have H1 := hidden h1
  have H2 := hidden h2
  have tk := True.intro
  clear h1 h2
  go_enter Tryd.func35, Tryd.ntmps35
  go_wp2_with (first | (first | ((go_at_call 64; have _t := tk; (with_reducible refine (cloneA_int _ _ _ l1 _ (H1.out.stays ((by repeat (first | with_reducible exact Ext.refl _ | with_reducible apply Ext.and | with_reducible apply Ext.drewx | with_reducible apply Ext.alloc | with_reducible apply Ext.ext | with_reducible apply Ext.drew | with_reducible refine Ext.setCell ?_ (by simp) _)) : Ext _ _).below) k1).mono ?_); rintro _ w1 ⟨v1, rfl, hA1, y1, rfl⟩; obtain ⟨b1, m1, d1, rfl⟩ := hA1.shapeL; have HA1 := hidden hA1; clear hA1 tk _t)) | ((go_at_call 64; (with_reducible refine (cloneA_int _ _ _ l2 _ (H2.out.stays ((by repeat (first | with_reducible exact Ext.refl _ | with_reducible apply Ext.and | with_reducible apply Ext.drewx | with_reducible apply Ext.alloc | with_reducible apply Ext.ext | with_reducible apply Ext.drew | with_reducible refine Ext.setCell ?_ (by simp) _)) : Ext _ _).below) k2).mono ?_); rintro _ w2 ⟨v2, rfl, hA2, y2, rfl⟩; obtain ⟨b2, m2, d2, rfl⟩ := hA2.shapeL; (try rw [ext_ext] at hA2); have HA2 := hidden hA2; clear hA2))) | ((first | with_reducible refine wp_region_qe (by kernel_rfl) (by kernel_rfl) ?_ | with_reducible refine wp_region_q (by kernel_rfl) (by kernel_rfl) ?_); (repeat' (first | go_big_quiet_step ((first | ((go_at_call 64; have _t := tk; (with_reducible refine (cloneA_int _ _ _ l1 _ (H1.out.stays ((by repeat (first | with_reducible exact Ext.refl _ | with_reducible apply Ext.and | with_reducible apply Ext.drewx | with_reducible apply Ext.alloc | with_reducible apply Ext.ext | with_reducible apply Ext.drew | with_reducible refine Ext.setCell ?_ (by simp) _)) : Ext _ _).below) k1).mono ?_); rintro _ w1 ⟨v1, rfl, hA1, y1, rfl⟩; obtain ⟨b1, m1, d1, rfl⟩ := hA1.shapeL; have HA1 := hidden hA1; clear hA1 tk _t)) | ((go_at_call 64; (with_reducible refine (cloneA_int _ _ _ l2 _ (H2.out.stays ((by repeat (first | with_reducible exact Ext.refl _ | with_reducible apply Ext.and | with_reducible apply Ext.drewx | with_reducible apply Ext.alloc | with_reducible apply Ext.ext | with_reducible apply Ext.drew | with_reducible refine Ext.setCell ?_ (by simp) _)) : Ext _ _).below) k2).mono ?_); rintro _ w2 ⟨v2, rfl, hA2, y2, rfl⟩; obtain ⟨b2, m2, d2, rfl⟩ := hA2.shapeL; (try rw [ext_ext] at hA2); have HA2 := hidden hA2; clear hA2)))) | (refine wpQuiet_split rfl rfl rfl rfl (fun hsp => ?_) (fun hsp => ?_); ((fail_if_success (cases hsp; done)); simp only [hsp]; (try first | have hsq : _ < _ := of_decide_eq_true hsp | have hsq : _ ≤ _ := of_decide_eq_true hsp | have hsq : ¬ _ < _ := of_decide_eq_false hsp | have hsq : ¬ _ ≤ _ := of_decide_eq_false hsp)); rotate_left; ((fail_if_success (cases hsp; done)); simp only [hsp]; (try first | have hsq : _ < _ := of_decide_eq_true hsp | have hsq : _ ≤ _ := of_decide_eq_true hsp | have hsq : ¬ _ < _ := of_decide_eq_false hsp | have hsq : ¬ _ ≤ _ := of_decide_eq_false hsp))))); (all_goals (refine wpQuiet_nil ?_; intro x))) | ((first | with_reducible refine wp_region_seqSe (by kernel_rfl) (by kernel_rfl) ?_ | with_reducible refine wp_region_seqSw (by kernel_rfl) (by kernel_rfl) ?_); (repeat' (first | ((with_reducible refine wpSeqS_pure (by with_unfolding_all rfl) (fun Kq hKq => ?_)); (repeat' (first | go_big_quiet_step (fail) | (refine wpQuiet_split rfl rfl rfl rfl (fun hsp => ?_) (fun hsp => ?_); ((fail_if_success (cases hsp; done)); simp only [hsp]; (try first | have hsq : _ < _ := of_decide_eq_true hsp | have hsq : _ ≤ _ := of_decide_eq_true hsp | have hsq : ¬ _ < _ := of_decide_eq_false hsp | have hsq : ¬ _ ≤ _ := of_decide_eq_false hsp)); rotate_left; ((fail_if_success (cases hsp; done)); simp only [hsp]; (try first | have hsq : _ < _ := of_decide_eq_true hsp | have hsq : _ ≤ _ := of_decide_eq_true hsp | have hsq : ¬ _ < _ := of_decide_eq_false hsp | have hsq : ¬ _ ≤ _ := of_decide_eq_false hsp))))); (all_goals (refine wpQuiet_nil ?_; refine hKq _ ?_; clear hKq Kq))) | ((with_reducible refine wpSeqS_load (by with_unfolding_all rfl) (fun Kq hKq => ?_)); (repeat' (first | go_big_quiet_step (fail) | (refine wpQuiet_split rfl rfl rfl rfl (fun hsp => ?_) (fun hsp => ?_); ((fail_if_success (cases hsp; done)); simp only [hsp]; (try first | have hsq : _ < _ := of_decide_eq_true hsp | have hsq : _ ≤ _ := of_decide_eq_true hsp | have hsq : ¬ _ < _ := of_decide_eq_false hsp | have hsq : ¬ _ ≤ _ := of_decide_eq_false hsp)); rotate_left; ((fail_if_success (cases hsp; done)); simp only [hsp]; (try first | have hsq : _ < _ := of_decide_eq_true hsp | have hsq : _ ≤ _ := of_decide_eq_true hsp | have hsq : ¬ _ < _ := of_decide_eq_false hsp | have hsq : ¬ _ ≤ _ := of_decide_eq_false hsp))))); (all_goals (refine wpQuiet_nil ?_; refine hKq _ ?_; clear hKq Kq))) | ((with_reducible refine wpSeqS_act (by with_unfolding_all rfl) (fun Q' hQ' => ?_)); (go_wp2_with (first | ((go_at_call 64; have _t := tk; (with_reducible refine (cloneA_int _ _ _ l1 _ (H1.out.stays ((by repeat (first | with_reducible exact Ext.refl _ | with_reducible apply Ext.and | with_reducible apply Ext.drewx | with_reducible apply Ext.alloc | with_reducible apply Ext.ext | with_reducible apply Ext.drew | with_reducible refine Ext.setCell ?_ (by simp) _)) : Ext _ _).below) k1).mono ?_); rintro _ w1 ⟨v1, rfl, hA1, y1, rfl⟩; obtain ⟨b1, m1, d1, rfl⟩ := hA1.shapeL; have HA1 := hidden hA1; clear hA1 tk _t)) | ((go_at_call 64; (with_reducible refine (cloneA_int _ _ _ l2 _ (H2.out.stays ((by repeat (first | with_reducible exact Ext.refl _ | with_reducible apply Ext.and | with_reducible apply Ext.drewx | with_reducible apply Ext.alloc | with_reducible apply Ext.ext | with_reducible apply Ext.drew | with_reducible refine Ext.setCell ?_ (by simp) _)) : Ext _ _).below) k2).mono ?_); rintro _ w2 ⟨v2, rfl, hA2, y2, rfl⟩; obtain ⟨b2, m2, d2, rfl⟩ := hA2.shapeL; (try rw [ext_ext] at hA2); have HA2 := hidden hA2; clear hA2)))); (all_goals (refine hQ' _ _ rfl ?_ ?_; (first | (focus (intro hbk; simp [brkB] at hbk; done)) | (focus (intro _; change Ext _ _; exact (by repeat (first | with_reducible assumption | with_reducible exact Ext.refl _ | with_reducible apply Ext.and | with_reducible apply Ext.drewx | with_reducible apply Ext.alloc | with_reducible apply Ext.ext | with_reducible apply Ext.drew | with_reducible refine Ext.setCell ?_ (by simp) _))))); clear hQ' Q'))))); (all_goals ((with_reducible refine wpSeqS_nil ?_)))))
  have hC := (Cp.of (lo := w.heap.size) (HA1.out.base ((by repeat (first | with_reducible exact Ext.refl _ | with_reducible apply Ext.and | with_reducible apply Ext.drewx | with_reducible apply Ext.alloc | with_reducible apply Ext.ext | with_reducible apply Ext.drew | with_reducible refine Ext.setCell ?_ (by simp) _)) : Ext w _).size) ((by repeat (first | with_reducible exact Ext.refl _ | with_reducible apply Ext.and | with_reducible apply Ext.drewx | with_reducible apply Ext.alloc | with_reducible apply Ext.ext | with_reducible apply Ext.drew | with_reducible refine Ext.setCell ?_ (by simp) _)) : Ext _ _) HA2.out ((by repeat (first | with_reducible exact Ext.refl _ | with_reducible apply Ext.and | with_reducible apply Ext.drewx | with_reducible apply Ext.alloc | with_reducible apply Ext.ext | with_reducible apply Ext.drew | with_reducible refine Ext.setCell ?_ (by simp) _)) : Ext w _).size)
  have e1 : ∀ b, b < w.heap.size + 2 → (Value.slice b1 m1 d1).ownBlock ≠ some b := fun b hb e => by have := (HA1.out.low b e).1; simp at this; omega
  have e2 : ∀ b, b < w.heap.size + 2 → (Value.slice b2 m2 d2).ownBlock ≠ some b := fun b hb e => by have := (HA2.out.low b e).1; simp at this; omega
  exact bodyPost_ret (v := .agg #[.int .i64 f, .int .i64 b, .slice b1 m1 d1, .int .i64 like, .slice b2 m2 d2]) (by simp [results, Tryd.results35, go_sem]) rfl ⟨_, _, _, _, _, _, rfl, by (repeat (first | with_reducible exact hC | with_reducible refine Cp.set ?_ (e1 _ (by omega)) (e2 _ (by omega)) _)), by (repeat (first | with_reducible exact Ext.refl _ | with_reducible apply Ext.and | with_reducible apply Ext.drewx | with_reducible apply Ext.alloc | with_reducible apply Ext.ext | with_reducible apply Ext.drew | with_reducible refine Ext.setCell ?_ (by simp) _))⟩

end Go.Proofs.YtlehcnfmagjilaaDoor
