/- Keys of seals, and sets of them. No condition. -/
import Derived.Test.YtlinngelibpihaaDoorShs
import Derived.Test.YtlinngelibpihaaDoorKtx
import Derived.Maps.RangeWalk
import Derived.Maps.OwnOps
import Derived.Maps.OwnSet
import Derived.Maps.Ext
import Derived.Maps.Views
import Derived.DeepKeys4
import Derived.MapViews
import Derived.ChangeSame
import Derived.Lib.SmallJoins
namespace Go.Proofs.YtlinngelibpihaaDoor
open Go Go.RowKit Go.Maps Go.ChangeShapes

theorem laidOutS : laidOutB Tryd.prog = true := by kernel_rfl
theorem rowS : (70 : TypeId) < (Tryd.prog).types.size := of_decide_eq_true (by kernel_rfl)
theorem wideS : (match (Tryd.prog).underlying 70 with | some (.array _ _) | some (.struct _) => true | _ => false) = true := by rw [Tryd.underlying70]
set_option maxRecDepth 100000 in
theorem lawS : Keyed Tryd.prog 70 := Keyed.of_law (deep_law_laid laidOutS (m := 3) (by omega) rowS (by kernel_rfl) wideS)
set_option maxRecDepth 100000 in
theorem deepS : (Tryd.prog).keyTypeAt ((Tryd.prog).types.size + 1) 70 = true := by kernel_rfl
theorem cellsSK : (Tryd.prog).cellsOf 70 = 5 := by kernel_rfl

def kV (s : Se) : Value := .agg #[.int .i64 s.sby, .int .i64 s.to, .int .i64 s.r.f, .int .i64 s.r.b, .string (bs (ktx s.path))]
theorem formedS (s : Se) : (kV s).formed Tryd.prog 70 = true := by simp [kV, Value.formed, Tryd.underlying70, cellsSK]
theorem bs_one1 (x : UInt8) : (⟨#[x]⟩ : ByteArray) = bs [x] := rfl
def WFS (s : Se) : Prop := I64 s.sby ∧ I64 s.to ∧ I64 s.r.f ∧ I64 s.r.b ∧ (bs (ktx s.path)).size ≤ maxLen
set_option maxRecDepth 20000 in
theorem keyS {s : Se} (h : WFS s) : ∃ l, keyOf Tryd.prog 70 (kV s) = some l := by
  obtain ⟨h0, h1, h2, h3, h4⟩ := h
  have kI : (Tryd.prog).cellsOf 3 = 1 := by kernel_rfl
  have kR : (Tryd.prog).cellsOf 33 = 2 := by kernel_rfl
  have kS : (Tryd.prog).cellsOf 9 = 1 := by kernel_rfl
  have hr := trod_struct2_mk (enc := fun _ => ()) (P := Tryd.prog) (w := default) (base := 0) (spare := fun _ => false) (held := false) (n := 1) (cs := [.int .i64 s.r.f, .int .i64 s.r.b]) Tryd.underlying33 (by rw [kR]; rfl)
    (y0 := (.lit (.int .i64 s.r.f), [])) (y1 := (.lit (.int .i64 s.r.b), []))
    (by simp only [kI, List.drop_zero, List.take_succ_cons, List.take_zero]; exact trod_int_mk 0 Tryd.underlying3 h2)
    (by simp only [kI, List.drop_succ_cons, List.drop_zero, List.take_succ_cons, List.take_zero]; exact trod_int_mk 0 Tryd.underlying3 h3)
  have hd := Go.Joins.trod_struct4_mk (enc := fun _ => ()) (P := Tryd.prog) (w := default) (base := 0) (spare := fun _ => false) (held := false) (n := 2) (cs := [.int .i64 s.sby, .int .i64 s.to, .int .i64 s.r.f, .int .i64 s.r.b, .string (bs (ktx s.path))]) Tryd.underlying70 (by rw [cellsSK]; rfl)
    (y0 := (.lit (.int .i64 s.sby), [])) (y1 := (.lit (.int .i64 s.to), [])) (y3 := (.lit (.string (bs (ktx s.path)).data.toList), []))
    (by simp only [kI, List.drop_zero, List.take_succ_cons, List.take_zero]; exact trod_int_mk 1 Tryd.underlying3 h0)
    (by simp only [kI, List.drop_succ_cons, List.drop_zero, List.take_succ_cons, List.take_zero]; exact trod_int_mk 1 Tryd.underlying3 h1)
    (by simp only [kR, List.drop_succ_cons, List.drop_zero, List.take_succ_cons, List.take_zero]; exact hr)
    (by simp only [kS, List.drop_succ_cons, List.drop_zero, List.take_succ_cons, List.take_zero]; simp [DataW.trod, Tryd.underlying9, h4])
  exact ⟨_, (keyOf_asKey (v := kV s) deepS wideS (formedS s) (ps := []) ⟨3, hd⟩).1⟩
noncomputable def ks (s : Se) : Lit := (keyOf Tryd.prog 70 (kV s)).getD (.bool false)
theorem ks_ok {s : Se} (h : WFS s) : keyOf Tryd.prog 70 (kV s) = some (ks s) := by
  obtain ⟨l, h⟩ := keyS h
  unfold ks; rw [h]; rfl
theorem seIs_iff {s t : Se} : seIs s t = true ↔ kV t = kV s := by
  simp only [seIs, Bool.and_eq_true, decide_eq_true_eq, kV, Value.agg.injEq]
  constructor
  · rintro ⟨e1, e2, e3, e4⟩
    rw [e1, e2, e3, e4]
  · intro h
    simp at h
    refine ⟨h.1, h.2.1, ?_, ktx_inj (bs_inj h.2.2.2.2)⟩
    obtain ⟨_, _, ⟨f, b⟩, _⟩ := s
    obtain ⟨_, _, ⟨f', b'⟩, _⟩ := t
    simp at h
    rw [h.2.2.1, h.2.2.2.1]
theorem ks_eq {s t : Se} (hs : WFS s) (ht : WFS t) : ks s = ks t ↔ seIs s t = true := by
  rw [seIs_iff]
  constructor
  · intro e
    have h1 := ks_ok hs
    rw [e] at h1
    exact (lawS.inj h1 (ks_ok ht)).symm
  · intro e
    unfold ks; rw [e]
set_option maxRecDepth 20000 in
theorem ks_key {s : Se} (h : WFS s) : WideAt.IsKeyLit (ks s) := lawS.key (ks_ok h)
attribute [irreducible] ks

abbrev Ds := DataW Unit
/-- Just these are in the set. -/
def SD (D : Ds) (l : List Se) : Prop := IsMap D ∧ ∀ s, WFS s → Maps.has D (ks s) = seHas l s
theorem SD.nil : SD (.map []) [] := ⟨isMap_empty, fun _ _ => rfl⟩
theorem SD.put {D : Ds} {l : List Se} {d : Se} (h : SD D l) (hd : WFS d) : SD (D.put (ks d) (.agg [])) (l ++ [d]) := by
  refine ⟨h.1.put _ _, fun s hs => ?_⟩
  have e : seHas (l ++ [d]) s = (seHas l s || seIs s d) := by simp [seHas]
  rw [e]
  by_cases he : ks s = ks d
  · rw [he, has_put_same h.1 (ks_key hd), (ks_eq hs hd).1 he, Bool.or_true]
  · rw [has_put_other he, h.2 s hs]
    have : seIs s d = false := by
      cases e2 : seIs s d
      · rfl
      · exact absurd ((ks_eq hs hd).2 e2) he
    rw [this, Bool.or_false]
theorem SD.at {D : Ds} {l : List Se} {k : Nat} {d : Se} (h : SD D (l.take k)) (hd : l[k]? = some d) (hw : WFS d) : SD (D.put (ks d) (.agg [])) (l.take (k + 1)) := by
  rw [take_snoc hd]; exact h.put hw
theorem ownsMap_extU {w : World} {B n : Nat} {D : Ds} (h : w.ownsMap Tryd.prog 70 unitElem B n D) {w' : World} (he : Ext w w') : w'.ownsMap Tryd.prog 70 unitElem B n D := by
  obtain ⟨es, clock, hb, F⟩ := h
  exact ⟨es, clock, (he.below.block B (Array.getElem?_eq_some_iff.1 hb).1).trans hb, F⟩
theorem SlRd.ints {w : World} {a : Option Addr} {n c : Nat} {l : List Int} (h : SlRd w a n c l) : ∀ x ∈ l, I64 x := fun x hx => by
  obtain ⟨k, hk, rfl⟩ := List.mem_iff_getElem.1 hx
  obtain ⟨_, _, _, _, _, _, hr⟩ := h.2.2.2.2 k _ (List.getElem?_eq_getElem hk)
  exact hr.2
theorem itoaA (x : Int) (hx : I64 x) (w : World) (h : TB w) : Calls Tryd.prog 60 #[.int .i64 x] w fun e w' => e = .returned (.string (bs (Lib.itoa x))) ∧ Ext w w' :=
  (Tryd.strconv_Itoa x (I64.bd hx).1 (I64.bd hx).2 w h).mono fun _ _ ⟨h1, _, os, h2⟩ => ⟨h1, h2 ▸ ⟨⟨os, _⟩, rfl⟩⟩

set_option maxRecDepth 20000 in
set_option maxHeartbeats 4000000 in
theorem sKey_any (s : Se) (a : Option Addr) (n c : Nat) (w : World) (h : SlRd w a n c s.path) (hn : n ≤ 1048576) (tb : TB w) :
    Calls Tryd.prog 40 #[.agg #[.int .i64 s.sby, .int .i64 s.to, .int .i64 s.r.f, .int .i64 s.r.b, .slice a n c]] w fun e w' => e = .returned (.agg #[.int .i64 s.sby, .int .i64 s.to, .int .i64 s.r.f, .int .i64 s.r.b, .string (bs (ktx s.path))]) ∧ Ext w w' := by
  have hcm := h.2.2.1
  have hlc := h.2.1
  have HL := hidden h.1
  have HI := hidden h.ints
  unfold maxLen at hcm
  go_enter Tryd.func40, Tryd.ntmps40
  go_upto_region 3 with fail
  refine wp_name (fun W hW => ?_)
  have hE0 : Ext w W := by rw [hW]; exact (by repeat (first | with_reducible exact Ext.refl _ | with_reducible apply Ext.and | with_reducible apply Ext.drewx | with_reducible apply Ext.alloc | with_reducible apply Ext.ext | with_reducible apply Ext.drew | with_reducible refine Ext.setCell ?_ (by simp) _))
  have BX := hidden (show Blk W w.heap.size 35 [.int .i64 s.sby, .int .i64 s.to, .int .i64 s.r.f, .int .i64 s.r.b, .slice a n c] by rw [hW]; exact (Blk.newAt w #[_, _, _, _, _] _ (by simp)).extends (by repeat (first | with_reducible exact Ext.refl _ | with_reducible apply Ext.and | with_reducible apply Ext.drewx | with_reducible apply Ext.alloc | with_reducible apply Ext.ext | with_reducible apply Ext.drew | with_reducible refine Ext.setCell ?_ (by simp) _)))
  have BR := hidden (show Blk W (w.heap.size + 1) 70 [.int .i64 0, .int .i64 0, .int .i64 0, .int .i64 0, .string ⟨#[]⟩] by rw [hW]; exact (Blk.newAt (w.alloc _) #[_, _, _, _, _] _ (by simp)).extends (by repeat (first | with_reducible exact Ext.refl _ | with_reducible apply Ext.and | with_reducible apply Ext.drewx | with_reducible apply Ext.alloc | with_reducible apply Ext.ext | with_reducible apply Ext.drew | with_reducible refine Ext.setCell ?_ (by simp) _)))
  clear hW
  go_loopw [3, 9] (fun v i wr => ∃ k : Nat, k ≤ n ∧ i = .int .i64 k ∧ v = .string (bs (ktx (s.path.take k))) ∧ Ext W wr) (fun _ i _ => n - (intOf i).toNat)
  case atStart => exact ⟨0, Nat.zero_le _, rfl, rfl, Ext.refl _⟩
  case round =>
    obtain ⟨k, hk, rfl, rfl, hE1⟩ := hrel
    have hE := hE0.trans hE1
    by_cases hlt : k < n
    · obtain ⟨d, dhd, db, doff, dys, rfl, dhys, dhcell, dhrd⟩ := h.at hE hlt
      obtain ⟨rfl, dg0⟩ := dhrd
      have dc0 : wr.cell? ⟨db, doff + k, none⟩ = some (.int .i64 d) := by have := dhcell 0 _ rfl; simpa [Lay.n] using this
      have dlb := cell_lt dc0
      have dHD := hidden dhd
      clear dhcell dhys dhd
      have hlk := ktx_len (l := s.path.take k) (fun x hx => HI.out x (List.mem_of_mem_take hx))
      rw [List.length_take] at hlk
      have hld := Lib.itoa_length_le d (I64.bd dg0).1 (I64.bd dg0).2
      have s1 : ¬ 9223372036854775807 < (bs (Lib.itoa d)).size + 1 := by rw [bs_size]; omega
      have s2 : ¬ 9223372036854775807 < (bs (ktx (s.path.take k))).size + ((bs (Lib.itoa d)).size + 1) := by rw [bs_size, bs_size]; omega
      have ID := hidden dg0
      clear hlk hld dg0
      have HM := hidden (ktx_snoc dHD.out)
      go_wp2_with (first | (first | (go_at_call 60; (with_reducible refine (itoaA d ID.out _ (tb.later (hE.trans (by repeat (first | with_reducible exact Ext.refl _ | with_reducible apply Ext.and | with_reducible apply Ext.drewx | with_reducible apply Ext.alloc | with_reducible apply Ext.ext | with_reducible apply Ext.drew | with_reducible refine Ext.setCell ?_ (by simp) _))))).mono ?_); rintro _ _ ⟨rfl, x, rfl⟩)) | ((first | with_reducible refine wp_region_qe (by kernel_rfl) (by kernel_rfl) ?_ | with_reducible refine wp_region_q (by kernel_rfl) (by kernel_rfl) ?_); (repeat' (first | go_big_quiet_step ((first | (go_at_call 60; first | with_reducible exact Calls.qb (by assumption) (itoaA d ID.out _ (tb.later (hE.trans (by repeat (first | with_reducible exact Ext.refl _ | with_reducible apply Ext.and | with_reducible apply Ext.drewx | with_reducible apply Ext.alloc | with_reducible apply Ext.ext | with_reducible apply Ext.drew | with_reducible refine Ext.setCell ?_ (by simp) _))))) | with_reducible exact Calls.q (itoaA d ID.out _ (tb.later (hE.trans (by repeat (first | with_reducible exact Ext.refl _ | with_reducible apply Ext.and | with_reducible apply Ext.drewx | with_reducible apply Ext.alloc | with_reducible apply Ext.ext | with_reducible apply Ext.drew | with_reducible refine Ext.setCell ?_ (by simp) _)))))))) | (refine wpQuiet_split rfl rfl rfl rfl (fun hsp => ?_) (fun hsp => ?_); ((fail_if_success (cases hsp; done)); simp only [hsp]; (try first | have hsq : _ < _ := of_decide_eq_true hsp | have hsq : _ ≤ _ := of_decide_eq_true hsp | have hsq : ¬ _ < _ := of_decide_eq_false hsp | have hsq : ¬ _ ≤ _ := of_decide_eq_false hsp)); rotate_left; ((fail_if_success (cases hsp; done)); simp only [hsp]; (try first | have hsq : _ < _ := of_decide_eq_true hsp | have hsq : _ ≤ _ := of_decide_eq_true hsp | have hsq : ¬ _ < _ := of_decide_eq_false hsp | have hsq : ¬ _ ≤ _ := of_decide_eq_false hsp))))); (all_goals (refine wpQuiet_nil ?_; intro x))))
      go_roundw
      case rel => exact ⟨k + 1, by omega, by go_num, congrArg Value.string (by rw [HM.out, bs_one1, bs_add, bs_add]), hE1.trans (by repeat (first | with_reducible exact Ext.refl _ | with_reducible apply Ext.and | with_reducible apply Ext.drewx | with_reducible apply Ext.alloc | with_reducible apply Ext.ext | with_reducible apply Ext.drew | with_reducible refine Ext.setCell ?_ (by simp) _))⟩
      case measure => simp [intOf]; omega
    · obtain rfl : n = k := by omega
      have hall : s.path.take n = s.path := List.take_of_length_le (Nat.le_of_eq HL.out)
      rw [hall]
      have BY := hidden (BX.out.extends hE1)
      have BQ := hidden (BR.out.extends hE1)
      have x0 := BY.out.cell (j := 0) rfl
      have x1 := BY.out.cell (j := 1) rfl
      have x2 := BY.out.cell (j := 2) rfl
      have x3 := BY.out.cell (j := 3) rfl
      have xl := BY.out.lt
      have r0 := BQ.out.cell (j := 0) rfl
      have r1 := BQ.out.cell (j := 1) rfl
      have r2 := BQ.out.cell (j := 2) rfl
      have r3 := BQ.out.cell (j := 3) rfl
      have r4 := BQ.out.cell (j := 4) rfl
      have rl := BQ.out.lt
      have rf0 := BQ.out.frozen 0
      have rf1 := BQ.out.frozen 1
      have rf2 := BQ.out.frozen 2
      have rf3 := BQ.out.frozen 3
      have rf4 := BQ.out.frozen 4
      go_wp2_with fail
      exact bodyPost_ret (v := .agg #[.int .i64 s.sby, .int .i64 s.to, .int .i64 s.r.f, .int .i64 s.r.b, .string (bs (ktx s.path))]) (by simp [results, Tryd.results40, go_sem, r0, r1, r2, r3, r4]) rfl ⟨rfl, (by repeat (first | with_reducible assumption | with_reducible exact Ext.refl _ | with_reducible apply Ext.and | with_reducible apply Ext.drewx | with_reducible apply Ext.alloc | with_reducible apply Ext.ext | with_reducible apply Ext.drew | with_reducible refine Ext.setCell ?_ (by first | (simp; done) | (simp; omega) | omega) _))⟩

set_option maxRecDepth 20000 in
set_option maxHeartbeats 2000000 in
theorem sAdd_any (B n : Nat) (D : Ds) (s : Se) (w : World) (ho : w.ownsMap Tryd.prog 70 unitElem B n D) (hn : n < 1000000000) (hs : WFS s) :
    Calls Tryd.prog 59 #[.map (some B), .agg #[.int .i64 s.sby, .int .i64 s.to, .int .i64 s.r.f, .int .i64 s.r.b, .string (bs (ktx s.path))]] w fun e w' => (∃ v, e = .returned v) ∧ w'.ownsMap Tryd.prog 70 unitElem B (n + 1) (D.put (ks s) (.agg [])) ∧ (∀ V, Ext V w → V.heap.size ≤ B → Ext V w') := by
  have HS := hidden hs
  clear hs
  go_enter Tryd.func59, Tryd.ntmps59
  go_wp2_with (at_mapUpdate; refine wpList_mapUpdate_own _ rfl _ _ _ 66 rfl 70 97 lawS Tryd.underlying66 _ B _ _ rfl (ownsMap_extU ho ((by repeat (first | with_reducible exact Ext.refl _ | with_reducible apply Ext.and | with_reducible apply Ext.drewx | with_reducible apply Ext.alloc | with_reducible apply Ext.ext | with_reducible apply Ext.drew | with_reducible refine Ext.setCell ?_ (by simp) _)) : Ext w _)) (by unfold maxLen; omega) _ _ _ rfl rfl (ks_ok HS.out) _ [] unitElem_mk ?_; intro w2 hO2 hg2)
  go_end0
  exact ⟨⟨_, rfl⟩, hO2, fun V hV hb => Ext.by (hV.trans ((by repeat (first | with_reducible exact Ext.refl _ | with_reducible apply Ext.and | with_reducible apply Ext.drewx | with_reducible apply Ext.alloc | with_reducible apply Ext.ext | with_reducible apply Ext.drew | with_reducible refine Ext.setCell ?_ (by simp) _)) : Ext w _)) hg2 (fun j hj => by cases hj; exact hb)⟩

set_option maxRecDepth 20000 in
set_option maxHeartbeats 2000000 in
theorem sHas_any (B n : Nat) (D : Ds) (s : Se) (w : World) (ho : w.ownsMap Tryd.prog 70 unitElem B n D) (hs : WFS s) :
    Calls Tryd.prog 39 #[.map (some B), .agg #[.int .i64 s.sby, .int .i64 s.to, .int .i64 s.r.f, .int .i64 s.r.b, .string (bs (ktx s.path))]] w fun e w' => e = .returned (.bool (Maps.has D (ks s))) ∧ Ext w w' := by
  have HS := hidden hs
  clear hs
  have hz : ∀ w, (zeroValue 97).run Tryd.prog w = .ok (.agg #[]) w := fun w => by kernel_rfl
  go_enter Tryd.func39, Tryd.ntmps39
  go_wp2_with (at_lookup; refine wpList_lookup_own_unit _ rfl _ _ 66 rfl 70 97 lawS Tryd.underlying66 (hz _) B _ _ rfl (ownsMap_extU ho ((by repeat (first | with_reducible exact Ext.refl _ | with_reducible apply Ext.and | with_reducible apply Ext.drewx | with_reducible apply Ext.alloc | with_reducible apply Ext.ext | with_reducible apply Ext.drew | with_reducible refine Ext.setCell ?_ (by simp) _)) : Ext w _)) _ _ rfl (ks_ok HS.out) ?_)
  go_ret
  exact ⟨rfl, (by repeat (first | with_reducible exact Ext.refl _ | with_reducible apply Ext.and | with_reducible apply Ext.drewx | with_reducible apply Ext.alloc | with_reducible apply Ext.ext | with_reducible apply Ext.drew | with_reducible refine Ext.setCell ?_ (by simp) _))⟩

theorem se_path {l : List Se} {k : Nat} {d : Se} (hd : l[k]? = some d) (h : Sz.sz l ≤ 1048576) : d.path.length ≤ 1048576 := by
  have h1 := sz_at hd
  have h2 : Sz.sz d.path = d.path.length := szL_flat d.path fun _ => rfl
  have h3 : Sz.sz d.path ≤ Sz.sz d := Nat.le_refl _
  omega
theorem wfs_of {d : Se} {w : World} {a : Option Addr} {n c : Nat} (h0 : I64 d.sby) (h1 : I64 d.to) (h2 : I64 d.r.f) (h3 : I64 d.r.b) (h : SlRd w a n c d.path) (hl : d.path.length ≤ 1048576) : WFS d :=
  ⟨h0, h1, h2, h3, by have := ktx_len h.ints; rw [bs_size]; unfold maxLen; omega⟩

set_option maxRecDepth 20000 in
set_option maxHeartbeats 4000000 in
theorem keysOf_any (l : List Se) (a : Option Addr) (len cap : Nat) (w : World) (h : SlRd w a len cap l) (hsz : Sz.sz l ≤ 1048576) (tb : TB w) :
    Calls Tryd.prog 38 #[.slice a len cap] w fun e w' => ∃ (B n : Nat) (D : Ds), e = .returned (.map (some B)) ∧ (w'.ownsMap Tryd.prog 70 unitElem B n D ∧ SD D l) ∧ Ext w w' := by
  have hcm := h.2.2.1
  have hlc := h.2.1
  have HL := hidden h.1
  have hlen : len ≤ 1048576 := by have := len_sz hsz; have := h.1; omega
  unfold maxLen at hcm
  have hmm := @run_makeMap Tryd.prog
  go_enter Tryd.func38, Tryd.ntmps38
  go_wp2
  go_loopw [9] (fun i wr => ∃ (k : Nat) (D : Ds), k ≤ len ∧ i = .int .i64 k ∧ wr.ownsMap Tryd.prog 70 unitElem w.heap.size k D ∧ Hid (SD D (l.take k)) ∧ Ext w wr) (fun i _ => len - (intOf i).toNat)
  case atStart => exact ⟨0, .map [], Nat.zero_le _, rfl, World.ownsMap_made (H := Unit) w Tryd.prog 70 unitElem, SD.nil, (by repeat (first | with_reducible exact Ext.refl _ | with_reducible apply Ext.and | with_reducible apply Ext.drewx | with_reducible apply Ext.alloc | with_reducible apply Ext.ext | with_reducible apply Ext.drew | with_reducible refine Ext.setCell ?_ (by simp) _))⟩
  case round =>
    obtain ⟨k, D, hk, rfl, hO, HD, hE⟩ := hrel
    by_cases hlt : k < len
    · obtain ⟨d, dhd, db, doff, dys, rfl, dhys, dhcell, dhrd⟩ := h.at hE hlt
      obtain ⟨da_path, dn_path, dc_path, rfl, dg0, dg1, dg2, dg3, dg4⟩ := dhrd
      have dc0 : wr.cell? ⟨db, doff + k * 5, none⟩ = some _ := dhcell 0 _ rfl
      have dc1 : wr.cell? ⟨db, doff + k * 5 + 1, none⟩ = some _ := dhcell 1 _ rfl
      have dc2 : wr.cell? ⟨db, doff + k * 5 + 2, none⟩ = some _ := dhcell 2 _ rfl
      have dc3 : wr.cell? ⟨db, doff + k * 5 + 3, none⟩ = some _ := dhcell 3 _ rfl
      have dc4 : wr.cell? ⟨db, doff + k * 5 + 4, none⟩ = some _ := dhcell 4 _ rfl
      have dlb := cell_lt dc0
      have dHD := hidden dhd
      clear dhcell dhys dhd
      have hpl := se_path dHD.out hsz
      have hpn : dn_path ≤ 1048576 := by have := dg4.1; omega
      have HW := hidden (wfs_of dg0 dg1 dg2 dg3 dg4 hpl)
      clear dg0 dg1 dg2 dg3 hpl
      go_wp2_with (first | (first | (go_at_call 40; (with_reducible refine (sKey_any d _ _ _ _ (dg4.stays ((by repeat (first | with_reducible exact Ext.refl _ | with_reducible apply Ext.and | with_reducible apply Ext.drewx | with_reducible apply Ext.alloc | with_reducible apply Ext.ext | with_reducible apply Ext.drew | with_reducible refine Ext.setCell ?_ (by simp) _)) : Ext _ _).below) hpn (tb.later (hE.trans (by repeat (first | with_reducible exact Ext.refl _ | with_reducible apply Ext.and | with_reducible apply Ext.drewx | with_reducible apply Ext.alloc | with_reducible apply Ext.ext | with_reducible apply Ext.drew | with_reducible refine Ext.setCell ?_ (by simp) _))))).mono ?_); rintro _ _ ⟨rfl, x, rfl⟩) | ((go_at_call 59; (with_reducible refine (sAdd_any _ _ D d _ (ownsMap_extU hO ((by repeat (first | with_reducible exact Ext.refl _ | with_reducible apply Ext.and | with_reducible apply Ext.drewx | with_reducible apply Ext.alloc | with_reducible apply Ext.ext | with_reducible apply Ext.drew | with_reducible refine Ext.setCell ?_ (by simp) _)) : Ext wr _)) (by omega) HW.out).mono ?_); rintro _ w2 ⟨⟨v, rfl⟩, hO2, hX2⟩))) | ((first | with_reducible refine wp_region_qe (by kernel_rfl) (by kernel_rfl) ?_ | with_reducible refine wp_region_q (by kernel_rfl) (by kernel_rfl) ?_); (repeat' (first | go_big_quiet_step ((first | (go_at_call 40; first | with_reducible exact Calls.qb (by assumption) (sKey_any d _ _ _ _ (dg4.stays ((by repeat (first | with_reducible exact Ext.refl _ | with_reducible apply Ext.and | with_reducible apply Ext.drewx | with_reducible apply Ext.alloc | with_reducible apply Ext.ext | with_reducible apply Ext.drew | with_reducible refine Ext.setCell ?_ (by simp) _)) : Ext _ _).below) hpn (tb.later (hE.trans (by repeat (first | with_reducible exact Ext.refl _ | with_reducible apply Ext.and | with_reducible apply Ext.drewx | with_reducible apply Ext.alloc | with_reducible apply Ext.ext | with_reducible apply Ext.drew | with_reducible refine Ext.setCell ?_ (by simp) _))))) | with_reducible exact Calls.q (sKey_any d _ _ _ _ (dg4.stays ((by repeat (first | with_reducible exact Ext.refl _ | with_reducible apply Ext.and | with_reducible apply Ext.drewx | with_reducible apply Ext.alloc | with_reducible apply Ext.ext | with_reducible apply Ext.drew | with_reducible refine Ext.setCell ?_ (by simp) _)) : Ext _ _).below) hpn (tb.later (hE.trans (by repeat (first | with_reducible exact Ext.refl _ | with_reducible apply Ext.and | with_reducible apply Ext.drewx | with_reducible apply Ext.alloc | with_reducible apply Ext.ext | with_reducible apply Ext.drew | with_reducible refine Ext.setCell ?_ (by simp) _)))))) | ((go_at_call 59; (with_reducible refine (sAdd_any _ _ D d _ (ownsMap_extU hO ((by repeat (first | with_reducible exact Ext.refl _ | with_reducible apply Ext.and | with_reducible apply Ext.drewx | with_reducible apply Ext.alloc | with_reducible apply Ext.ext | with_reducible apply Ext.drew | with_reducible refine Ext.setCell ?_ (by simp) _)) : Ext wr _)) (by omega) HW.out).mono ?_); rintro _ w2 ⟨⟨v, rfl⟩, hO2, hX2⟩)))) | (refine wpQuiet_split rfl rfl rfl rfl (fun hsp => ?_) (fun hsp => ?_); ((fail_if_success (cases hsp; done)); simp only [hsp]; (try first | have hsq : _ < _ := of_decide_eq_true hsp | have hsq : _ ≤ _ := of_decide_eq_true hsp | have hsq : ¬ _ < _ := of_decide_eq_false hsp | have hsq : ¬ _ ≤ _ := of_decide_eq_false hsp)); rotate_left; ((fail_if_success (cases hsp; done)); simp only [hsp]; (try first | have hsq : _ < _ := of_decide_eq_true hsp | have hsq : _ ≤ _ := of_decide_eq_true hsp | have hsq : ¬ _ < _ := of_decide_eq_false hsp | have hsq : ¬ _ ≤ _ := of_decide_eq_false hsp))))); (all_goals (refine wpQuiet_nil ?_; intro x))) | ((first | with_reducible refine wp_region_seqe (by kernel_rfl) (by kernel_rfl) ?_ | with_reducible refine wp_region_seqw (by kernel_rfl) (by kernel_rfl) ?_); (repeat' (first | ((with_reducible refine wpSeq_pure (by with_unfolding_all rfl) (fun Kq hKq => ?_)); (repeat' (first | go_big_quiet_step (fail) | (refine wpQuiet_split rfl rfl rfl rfl (fun hsp => ?_) (fun hsp => ?_); ((fail_if_success (cases hsp; done)); simp only [hsp]; (try first | have hsq : _ < _ := of_decide_eq_true hsp | have hsq : _ ≤ _ := of_decide_eq_true hsp | have hsq : ¬ _ < _ := of_decide_eq_false hsp | have hsq : ¬ _ ≤ _ := of_decide_eq_false hsp)); rotate_left; ((fail_if_success (cases hsp; done)); simp only [hsp]; (try first | have hsq : _ < _ := of_decide_eq_true hsp | have hsq : _ ≤ _ := of_decide_eq_true hsp | have hsq : ¬ _ < _ := of_decide_eq_false hsp | have hsq : ¬ _ ≤ _ := of_decide_eq_false hsp))))); (all_goals (refine wpQuiet_nil ?_; refine hKq _ ?_; clear hKq Kq))) | ((with_reducible refine wpSeq_act (by with_unfolding_all rfl) (fun Q' hQ' => ?_)); (go_wp2_with (first | (go_at_call 40; (with_reducible refine (sKey_any d _ _ _ _ (dg4.stays ((by repeat (first | with_reducible exact Ext.refl _ | with_reducible apply Ext.and | with_reducible apply Ext.drewx | with_reducible apply Ext.alloc | with_reducible apply Ext.ext | with_reducible apply Ext.drew | with_reducible refine Ext.setCell ?_ (by simp) _)) : Ext _ _).below) hpn (tb.later (hE.trans (by repeat (first | with_reducible exact Ext.refl _ | with_reducible apply Ext.and | with_reducible apply Ext.drewx | with_reducible apply Ext.alloc | with_reducible apply Ext.ext | with_reducible apply Ext.drew | with_reducible refine Ext.setCell ?_ (by simp) _))))).mono ?_); rintro _ _ ⟨rfl, x, rfl⟩) | ((go_at_call 59; (with_reducible refine (sAdd_any _ _ D d _ (ownsMap_extU hO ((by repeat (first | with_reducible exact Ext.refl _ | with_reducible apply Ext.and | with_reducible apply Ext.drewx | with_reducible apply Ext.alloc | with_reducible apply Ext.ext | with_reducible apply Ext.drew | with_reducible refine Ext.setCell ?_ (by simp) _)) : Ext wr _)) (by omega) HW.out).mono ?_); rintro _ w2 ⟨⟨v, rfl⟩, hO2, hX2⟩)))); (all_goals (refine hQ' _ _ rfl ?_ ?_; (change Ext _ _; exact (by repeat (first | with_reducible exact Ext.refl _ | with_reducible apply Ext.and | with_reducible apply Ext.drewx | with_reducible apply Ext.alloc | with_reducible apply Ext.ext | with_reducible apply Ext.drew | with_reducible refine Ext.setCell ?_ (by simp) _))); clear hQ' Q'))))); (all_goals ((with_reducible refine wpSeq_nil ?_)))))
      go_roundw
      case rel => exact ⟨k + 1, _, by omega, by go_num, hO2, HD.out.at dHD.out HW.out, hX2 w (hE.trans ((by repeat (first | with_reducible exact Ext.refl _ | with_reducible apply Ext.and | with_reducible apply Ext.drewx | with_reducible apply Ext.alloc | with_reducible apply Ext.ext | with_reducible apply Ext.drew | with_reducible refine Ext.setCell ?_ (by simp) _)) : Ext wr _)) (Nat.le_refl _)⟩
      case measure => simp [intOf]; omega
    · obtain rfl : k = len := by omega
      have hD := HD.out
      rw [List.take_of_length_le (Nat.le_of_eq HL.out)] at hD
      go_wp2_with (first | ((first | with_reducible refine wp_region_qe (by kernel_rfl) (by kernel_rfl) ?_ | with_reducible refine wp_region_q (by kernel_rfl) (by kernel_rfl) ?_); (repeat' (first | go_big_quiet_step (fail) | (refine wpQuiet_split rfl rfl rfl rfl (fun hsp => ?_) (fun hsp => ?_); ((fail_if_success (cases hsp; done)); simp only [hsp]; (try first | have hsq : _ < _ := of_decide_eq_true hsp | have hsq : _ ≤ _ := of_decide_eq_true hsp | have hsq : ¬ _ < _ := of_decide_eq_false hsp | have hsq : ¬ _ ≤ _ := of_decide_eq_false hsp)); rotate_left; ((fail_if_success (cases hsp; done)); simp only [hsp]; (try first | have hsq : _ < _ := of_decide_eq_true hsp | have hsq : _ ≤ _ := of_decide_eq_true hsp | have hsq : ¬ _ < _ := of_decide_eq_false hsp | have hsq : ¬ _ ≤ _ := of_decide_eq_false hsp))))); (all_goals (refine wpQuiet_nil ?_; intro x))) | ((first | with_reducible refine wp_region_seqe (by kernel_rfl) (by kernel_rfl) ?_ | with_reducible refine wp_region_seqw (by kernel_rfl) (by kernel_rfl) ?_); (repeat' (first | ((with_reducible refine wpSeq_pure (by with_unfolding_all rfl) (fun Kq hKq => ?_)); (repeat' (first | go_big_quiet_step (fail) | (refine wpQuiet_split rfl rfl rfl rfl (fun hsp => ?_) (fun hsp => ?_); ((fail_if_success (cases hsp; done)); simp only [hsp]; (try first | have hsq : _ < _ := of_decide_eq_true hsp | have hsq : _ ≤ _ := of_decide_eq_true hsp | have hsq : ¬ _ < _ := of_decide_eq_false hsp | have hsq : ¬ _ ≤ _ := of_decide_eq_false hsp)); rotate_left; ((fail_if_success (cases hsp; done)); simp only [hsp]; (try first | have hsq : _ < _ := of_decide_eq_true hsp | have hsq : _ ≤ _ := of_decide_eq_true hsp | have hsq : ¬ _ < _ := of_decide_eq_false hsp | have hsq : ¬ _ ≤ _ := of_decide_eq_false hsp))))); (all_goals (refine wpQuiet_nil ?_; refine hKq _ ?_; clear hKq Kq))) | ((with_reducible refine wpSeq_act (by with_unfolding_all rfl) (fun Q' hQ' => ?_)); (go_wp2_with fail); (all_goals (refine hQ' _ _ rfl ?_ ?_; (change Ext _ _; exact (by repeat (first | with_reducible exact Ext.refl _ | with_reducible apply Ext.and | with_reducible apply Ext.drewx | with_reducible apply Ext.alloc | with_reducible apply Ext.ext | with_reducible apply Ext.drew | with_reducible refine Ext.setCell ?_ (by simp) _))); clear hQ' Q'))))); (all_goals ((with_reducible refine wpSeq_nil ?_)))))
      go_ret
      exact ⟨_, _, D, rfl, ⟨ownsMap_extU hO ((by repeat (first | with_reducible exact Ext.refl _ | with_reducible apply Ext.and | with_reducible apply Ext.drewx | with_reducible apply Ext.alloc | with_reducible apply Ext.ext | with_reducible apply Ext.drew | with_reducible refine Ext.setCell ?_ (by simp) _)) : Ext wr _), hD⟩, (by first | exact hE | exact hE.ext _ | exact hE.trans (by repeat (first | with_reducible exact Ext.refl _ | with_reducible apply Ext.and | with_reducible apply Ext.drewx | with_reducible apply Ext.alloc | with_reducible apply Ext.ext | with_reducible apply Ext.drew | with_reducible refine Ext.setCell ?_ (by simp) _)))⟩

end Go.Proofs.YtlinngelibpihaaDoor
