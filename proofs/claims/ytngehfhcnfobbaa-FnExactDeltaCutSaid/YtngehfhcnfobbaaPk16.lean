/- Lemmas for it, part 16. No condition. -/
import Derived.Conc.Own3
import Derived.Test.YtngehfhcnfobbaaPk6
import Derived.Test.YtngehfhcnfobbaaPk12
import Derived.Test.YtngehfhcnfobbaaPk13
import Derived.Test.YtngehfhcnfobbaaPk14
namespace Go.Proofs.Ytngehfhcnfobbaa
open Go Go.Conc

theorem VR.blur {c c2 : Cx} (hJ : c.J → c2.J) {ρ ρ2 : Nat → Nat → Prop} {v v' : Value} (h : VR c ρ v v') : ∃ v2, VR c2 ρ2 v2 v' := by
  induction h with
  | junk v h => exact ⟨_, .junk v (h.mono hJ)⟩
  | tok hk a n m =>
    cases a with
    | none => exact ⟨_, .nils n m⟩
    | some a => exact ⟨_, .junk _ trivial⟩
  | tokc hk r => exact ⟨_, .junk _ trivial⟩
  | bool b => exact ⟨_, .bool b⟩
  | int k n => exact ⟨_, .int k n⟩
  | string s => exact ⟨_, .string s⟩
  | nilp => exact ⟨_, .nilp⟩
  | ptr o s h => exact ⟨_, .junk _ trivial⟩
  | nils n m => exact ⟨_, .nils n m⟩
  | slice o s n m h => exact ⟨_, .junk _ trivial⟩
  | void a => exact ⟨_, .void a⟩
  | nilFunc => exact ⟨_, .nilFunc⟩
  | nilIface => exact ⟨_, .nilIface⟩
  | func _ _ _ _ _ _ _ => exact ⟨_, .junk _ trivial⟩
  | iface _ _ _ => exact ⟨_, .junk _ trivial⟩
  | @agg xs xs' hx _ ih =>
    have hex : ∀ i : Fin xs'.size, ∃ v2, VR c2 ρ2 v2 xs'[i] := fun i => ih i.1 _ _ (Array.getElem?_eq_getElem (by rw [hx]; exact i.2)) (Array.getElem?_eq_getElem i.2)
    refine ⟨.agg (Array.ofFn fun i => Classical.choose (hex i)), .agg (by simp) fun i v v' h1 h2 => ?_⟩
    obtain ⟨hi, rfl⟩ := Array.getElem?_eq_some_iff.1 h2
    simp only [Array.getElem?_ofFn] at h1
    rw [dif_pos hi] at h1
    cases h1
    exact Classical.choose_spec (hex ⟨i, hi⟩)
  | tuple _ _ _ => exact ⟨_, .junk _ trivial⟩
theorem AR.blur {c c2 : Cx} (hJ : c.J → c2.J) {ρ ρ2 : Nat → Nat → Prop} {xs xs' : Array Value} (h : AR c ρ xs xs') : ∃ ys, AR c2 ρ2 ys xs' := by
  have hex : ∀ i : Fin xs'.size, ∃ v2, VR c2 ρ2 v2 xs'[i] := fun i => (h.2 i.1 _ _ (Array.getElem?_eq_getElem (by rw [h.1]; exact i.2)) (Array.getElem?_eq_getElem i.2)).blur hJ
  refine ⟨Array.ofFn fun i => Classical.choose (hex i), by simp, fun i v v' h1 h2 => ?_⟩
  obtain ⟨hi, rfl⟩ := Array.getElem?_eq_some_iff.1 h2
  simp only [Array.getElem?_ofFn] at h1
  rw [dif_pos hi] at h1
  cases h1
  exact Classical.choose_spec (hex ⟨i, hi⟩)
theorem AR.over {c : Cx} {ρ : Nat → Nat → Prop} {xs xs' : Array Value} (h : AR c ρ xs xs') {i : Nat} {v v' : Value} (hv : VR c ρ v v') (hi : xs'[i]? = some v') : AR c ρ (xs.setIfInBounds i v) xs' := by
  refine ⟨by rw [Array.size_setIfInBounds]; exact h.1, fun j u u' h1 h2 => ?_⟩
  rw [Array.getElem?_setIfInBounds] at h1
  by_cases hj : i = j
  · subst hj
    rw [if_pos rfl] at h1
    split at h1
    · cases h1; rw [hi] at h2; cases h2; exact hv
    · cases h1
  · rw [if_neg hj] at h1
    exact h.2 j u u' h1 h2
theorem AR.get {c : Cx} {ρ : Nat → Nat → Prop} {xs xs' : Array Value} (h : AR c ρ xs xs') {i : Nat} {v : Value} (hv : xs[i]? = some v) : ∃ v', xs'[i]? = some v' ∧ VR c ρ v v' := by
  have hlt := (Array.getElem?_eq_some_iff.1 hv).1
  have hlt' : i < xs'.size := by rw [← h.1]; exact hlt
  have h2 : xs'[i]? = some xs'[i] := Array.getElem?_eq_getElem hlt'
  exact ⟨_, h2, h.2 i _ _ hv h2⟩
end Go.Proofs.Ytngehfhcnfobbaa
namespace Go.Proofs.Ytngehfhcnfobbaa
open Go Go.Conc
open Go.ConcN (sumTo upd sumTo_upd upd_ne upd_same)

section
variable {P : Program} {Post : Value → World → Prop} {V VisL : Nat → Prop} {ch k cap : Nat} {Ok : Value → Prop} {Done : List Value → (Nat → Prop) → World → Prop} {Rc : List Value → (Nat → Prop) → Goroutine → Value → World → Prop} {Lim : Nat}

theorem ofEvents_nil (g : Nat) (fn : FuncId) (pos : String) : MemOp.ofEvents g fn pos #[] = #[] := by simp [MemOp.ofEvents]

/-! ### the channel is closed -/
structure SitC (P : Program) (V : Nat → Prop) (ch ic : Nat) (gs : Array Goroutine) (w : World) (t : Trace) (q : Nat → Nat) (Om Oc : Nat → Prop) (buf : Array Value) : Prop where
  lv : Leavers P t gs q
  tr : Tr1 V Oc ch ic w.heap.size t
  dis : ∀ b, Om b → ¬ Oc b
  v1 : ∀ b, V b → ¬ Om b
  v2 : ∀ b, V b → ¬ Oc b
  nV : ¬ V ch
  nM : ¬ Om ch
  nC : ¬ Oc ch
  low : ∀ b, V b ∨ Om b ∨ Oc b → b < w.heap.size
  chan : ∃ cap s r tm, w.heap[ch]? = some (.chan cap buf true s r tm)

theorem SitC.chlt {ic : Nat} {gs : Array Goroutine} {w : World} {t : Trace} {q : Nat → Nat} {Om Oc : Nat → Prop} {buf : Array Value} (h : SitC P V ch ic gs w t q Om Oc buf) : ch < w.heap.size := by
  obtain ⟨cap, s, r, tm, hc⟩ := h.chan
  exact (Array.getElem?_eq_some_iff.1 hc).1

/-- The leavers slip while goroutine 0 has not been picked. -/
theorem closed_pick {a : Goroutine} {Wm : World} {Om Oc : Nat → Prop} {ic : Nat} {buf : Array Value} {ms : List Value} (ha : a.status = .running)
    (H : ∀ gs w sl t q, Rely V Om Wm w → gs[0]? = some a → SitC P V ch ic gs w t q Om Oc buf → (∀ W2, Rely V Oc w W2 → Done ms Oc W2) → ∃ m' ops, runT P (crowd gs w sl) 0 = (.next m', ops) ∧ Wins P Post m' (t ++ ops)) :
    ∀ M gs w sl t q, sumTo gs.size q ≤ M → Rely V Om Wm w → gs[0]? = some a → SitC P V ch ic gs w t q Om Oc buf → (∀ W2, Rely V Oc w W2 → Done ms Oc W2) → Wins P Post (crowd gs w sl) t := by
  intro M
  induction M with
  | zero =>
    intro gs w sl t q hM hrel h0 hS hD
    obtain ⟨i, x, d, sl', hi, hg, hst⟩ := crowd_pick (P := P) (w := w) (sl := sl) (leavers_awake hS.lv h0 (awake_of (.inl ha))) ⟨0, a, h0, ha⟩
    rcases Nat.eq_zero_or_pos i with rfl | hpos
    · obtain ⟨m', ops, h1, h2⟩ := H gs (w.at d) sl' t q (hrel.trans (.at ..)) h0 ⟨hS.lv, hS.tr, hS.dis, hS.v1, hS.v2, hS.nV, hS.nM, hS.nC, hS.low, hS.chan⟩ (fun W2 h => hD W2 ((Rely.at V Oc w d).trans h))
      exact .step (hst.trans h1) h2
    · have hq := hS.lv.old i x hpos hi
      have hlt : i < gs.size := (Array.getElem?_eq_some_iff.1 hi).1
      have hqi : q i = 0 := by
        have : sumTo gs.size (upd q i 0) + q i = sumTo gs.size q + 0 := by simpa using sumTo_upd q 0 id hlt
        omega
      rw [hqi] at hq
      rw [hq.1] at hg; cases hg
  | succ M ih =>
    intro gs w sl t q hM hrel h0 hS hD
    obtain ⟨i, x, d, sl', hi, hg, hst⟩ := crowd_pick (P := P) (w := w) (sl := sl) (leavers_awake hS.lv h0 (awake_of (.inl ha))) ⟨0, a, h0, ha⟩
    rcases Nat.eq_zero_or_pos i with rfl | hpos
    · obtain ⟨m', ops, h1, h2⟩ := H gs (w.at d) sl' t q (hrel.trans (.at ..)) h0 ⟨hS.lv, hS.tr, hS.dis, hS.v1, hS.v2, hS.nV, hS.nM, hS.nC, hS.low, hS.chan⟩ (fun W2 h => hD W2 ((Rely.at V Oc w d).trans h))
      exact .step (hst.trans h1) h2
    · have hq := hS.lv.old i x hpos hi
      have hi0 : (i == 0) = false := by simp; omega
      have hlt : i < gs.size := (Array.getElem?_eq_some_iff.1 hi).1
      cases hqi : q i with
      | zero => rw [hqi] at hq; rw [hq.1] at hg; cases hg
      | succ n =>
        rw [hqi] at hq
        rcases hq with ⟨hf, _⟩ | ⟨_, g', es, hm, hstp, hq'⟩
        · rw [hf] at hg; cases hg
        have hrunT := runT_crowd_go (P := P) (sl := sl') (i := i) hi (by rw [hi0]; exact hstp (w.at d))
        have hsum : sumTo gs.size (upd q i n) + (n + 1) = sumTo gs.size q + n := by
          have := sumTo_upd q n id hlt
          simpa [hqi] using this
        refine .step (hst.trans hrunT) (ih _ (w.at d) sl' _ (upd q i n) (by simp; omega) (hrel.trans (.at ..)) ?_ ⟨leavers_slip hS.lv hi hq' _ _, hS.tr.mute (by omega) hm _ _, hS.dis, hS.v1, hS.v2, hS.nV, hS.nM, hS.nC, hS.low, hS.chan⟩ (fun W2 h => hD W2 ((Rely.at V Oc w d).trans h)))
        have hne : i ≠ 0 := by omega
        rw [Array.getElem?_setIfInBounds_ne hne, Array.getElem?_map, h0]
        simp [woken_run ha]

theorem finish_recv (g : Goroutine) (cs : Array CommCase) (j : Int) (v : Value) (ok : Bool) : g.finishComm P cs (.recv true) j v ok = Go.Conc.served g (.tuple #[v, .bool ok]) := rfl

theorem leavers_set {t : Trace} {gs : Array Goroutine} {q : Nat → Nat} (hL : Leavers P t gs q) {u : Trace} {ch : Nat} (hu : ∀ op ∈ u, Talk ch op) (g : Goroutine) : Leavers P (t ++ u) (gs.setIfInBounds 0 g) q :=
  ⟨fun i x hi hx => by
    rw [Array.getElem?_setIfInBounds_ne (by omega)] at hx
    rw [deaf_talk hu]; exact hL.old i x hi hx, fun j hj => by
    rw [deaf_talk hu]; exact hL.above j (by simpa using hj)⟩

theorem SitC.partners {ic : Nat} {gs : Array Goroutine} {w : World} {t : Trace} {q : Nat → Nat} {Om Oc : Nat → Prop} {buf : Array Value} (h : SitC P V ch ic gs w t q Om Oc buf) (send : Bool) : partners (gs.setIfInBounds 0 ph) ch send = [] :=
  partners_nil fun j g hj => by
    rcases getElem?_stand gs 0 j g hj with ⟨_, rfl⟩ | ⟨hj0, hg⟩
    · rfl
    · exact offersAt_of_not_blocked (by rcases (h.lv.old j g (by omega) hg).status with e | e <;> rw [e] <;> exact fun x => by cases x) _ _

/-- Goroutine 0 takes a step of its own. -/
theorem SitC.main {ic : Nat} {gs : Array Goroutine} {w w' : World} {t : Trace} {q : Nat → Nat} {Om Om' Oc : Nat → Prop} {buf : Array Value} (h : SitC P V ch ic gs w t q Om Oc buf) {a a' : Goroutine} {es : Array Event} (h0 : gs[0]? = some a) (g : Guar V Om w w' es Om') (fn : FuncId) (pos : String) :
    SitC P V ch ic ((gs.map (woken P a a' w')).setIfInBounds 0 a') w' (t ++ MemOp.ofEvents 0 fn pos es) q Om' Oc buf := by
  have hlow := h.low
  have nM' : ∀ b, b < w.heap.size → ¬ Om b → ¬ Om' b := fun b hlt hn ho => by
    rcases (g.own b).1 ho with ho | ho
    · exact hn ho
    · omega
  have dis' : ∀ b, Om' b → ¬ Oc b := fun b ho hc => by
    rcases (g.own b).1 ho with ho | ho
    · exact h.dis b ho hc
    · have := hlow b (.inr (.inr hc)); omega
  have v1' : ∀ b, V b → ¬ Om' b := fun b hv => nM' b (hlow b (.inl hv)) (h.v1 b hv)
  have low' : ∀ b, V b ∨ Om' b ∨ Oc b → b < w'.heap.size := fun b hb => by
    rcases hb with hb | hb | hb
    · exact Nat.lt_of_lt_of_le (hlow b (.inl hb)) g.size
    · rcases (g.own b).1 hb with hb | hb
      · exact Nat.lt_of_lt_of_le (hlow b (.inr (.inl hb))) g.size
      · exact hb.2
    · exact Nat.lt_of_lt_of_le (hlow b (.inr (.inr hb))) g.size
  refine ⟨leavers_main h.lv h0 fn pos, h.tr.own g.size dis' v1' h.v2 g.evs (fun b hb => low' b (hb.imp id .inl)) fn pos, dis', v1', h.v2, h.nV, nM' ch h.chlt h.nM, h.nC, low', ?_⟩
  obtain ⟨cap, s, r, tm, hc⟩ := h.chan
  exact ⟨cap, s, r, tm, by rw [g.keep ch h.chlt h.nM]; exact hc⟩

theorem closed_wins (pr : Prot P V ch Post VisL Ok Done Rc Lim) {ic : Nat} {Oc : Nat → Prop} {ms : List Value} (hL : ms.length ≤ Lim) : ∀ (nb : Nat) (buf : Array Value) (msr : List Value), buf.size = nb → msr ++ buf.toList = ms → (∀ m ∈ buf, Ok m) →
    ∀ Om a Wm, Co P true V (AtR P ch Rc msr) Om a Wm → ∀ gs w sl t q, Rely V Om Wm w → gs[0]? = some a → SitC P V ch ic gs w t q Om Oc buf → (∀ W2, Rely V Oc w W2 → Done ms Oc W2) → Wins P Post (crowd gs w sl) t := by
  intro nb
  induction nb using Nat.strongRecOn with
  | _ nb ihb =>
  intro buf msr hnb hms hok Om a Wm hCo
  induction hCo with
  | @step' O a W hr nx h1 _ ih =>
    intro gs w sl t q hrel h0 hS hD
    refine closed_pick (V := V) (ms := ms) (Done := Done) hr (fun gs w sl t q hrel h0 hS hD => ?_) _ gs w sl t q (Nat.le_refl _) hrel h0 hS hD
    obtain ⟨hgo, g⟩ := h1 w hrel
    have hrunT := runT_crowd_go (P := P) (sl := sl) (i := 0) h0 (show stepG P (0 == 0) a w = _ from hgo)
    exact ⟨_, _, hrunT, ih w hrel _ _ sl _ q (Rely.refl ..) (by simp [(Array.getElem?_eq_some_iff.1 h0).1]) (hS.main h0 g _ _) (fun W2 h => hD W2 ((guar_rely g hS.dis hS.v1 hS.low).trans h))⟩
  | @stop Om a W h =>
    intro gs w sl t q hrel h0 hS hD
    obtain ⟨g0, z0, hr0, _⟩ := h W (Rely.refl ..)
    refine closed_pick (V := V) (ms := ms) (Done := Done) hr0.1 (fun gs w sl t q hrel h0 hS hD => ?_) _ gs w sl t q (Nat.le_refl _) hrel h0 hS hD
    obtain ⟨g, z, hr, hRc⟩ := h w hrel
    obtain ⟨cap, s, r, tm, hc⟩ := hS.chan
    by_cases hz : buf.size = 0
    · have hbuf : buf = #[] := Array.eq_empty_of_size_eq_zero hz
      subst hbuf
      have hrun := crowd_recv_closed (P := P) (sl := sl) (i := 0) h0 (show stepG P (0 == 0) a w = _ from hr.2.1 w) hc (hS.partners true)
      refine ⟨_, _, hrun, ?_⟩
      rw [finish_recv, ofEvents_nil, Array.empty_append]
      have hms' : msr = ms := by simpa using hms
      subst hms'
      obtain ⟨O', hl, hF⟩ := pr.fin msr Om Oc g z w hRc (hD w (Rely.refl ..)) hS.dis hS.v1 hS.v2 hS.chlt hS.low
      refine hF _ _ _ q (by simp [(Array.getElem?_eq_some_iff.1 h0).1]) ?_ (hS.tr.past hS.chlt ⟨rfl, rfl⟩) hl
      exact leavers_set hS.lv (ch := ch) (fun op hop => by
          simp only [List.mem_toArray, List.mem_cons, List.not_mem_nil, or_false] at hop
          subst hop
          exact .inr (.inr (.inr (.inr (.inl rfl))))) _
    · have hrun := crowd_recv_buf (P := P) (sl := sl) (i := 0) h0 (show stepG P (0 == 0) a w = _ from hr.2.1 w) hc (Nat.pos_of_ne_zero hz) (hS.partners true)
      refine ⟨_, _, hrun, ?_⟩
      rw [finish_recv, ofEvents_nil, Array.empty_append]
      have hlt : 0 < buf.size := Nat.pos_of_ne_zero hz
      have hm : buf.getD 0 undef ∈ buf := by
        rw [Array.getD_eq_getD_getElem?, Array.getElem?_eq_getElem hlt]
        exact Array.getElem_mem hlt
      have hrel2 : Rely V Om w (w.setChan ch cap (buf.extract 1 buf.size) true s (r + 1) tm) := rely_setChan V Om w hS.nV hS.nM ..
      have hrel3 : Rely V Oc w (w.setChan ch cap (buf.extract 1 buf.size) true s (r + 1) tm) := rely_setChan V Oc w hS.nV hS.nC ..
      have htk : ∀ op ∈ #[({ g := 0, fn := g.frame.fn, pos := g.frame.place, act := .recv ch r cap } : MemOp), { g := 0, fn := g.frame.fn, pos := g.frame.place, act := .recvDone ch r }], Talk ch op := fun op hop => by
          simp only [List.mem_toArray, List.mem_cons, List.not_mem_nil, or_false] at hop
          rcases hop with rfl | rfl
          · exact .inr (.inr (.inl ⟨_, _, rfl⟩))
          · exact .inr (.inr (.inr (.inl ⟨_, rfl⟩)))
      refine ihb (buf.size - 1) (by omega) (buf.extract 1 buf.size) (msr ++ [buf.getD 0 undef]) (by simp) ?_ (fun m hm => hok m (by
          rw [Array.mem_extract_iff_getElem] at hm
          obtain ⟨i, hi, rfl⟩ := hm
          exact Array.getElem_mem _)) Om _ w (pr.recv msr Om g z w _ (by have := congrArg List.length hms; simp at this; omega) hRc (hok _ hm)) _ _ sl _ q hrel2 (by simp [(Array.getElem?_eq_some_iff.1 h0).1])
        ⟨leavers_set hS.lv htk _, ?_, hS.dis, hS.v1, hS.v2, hS.nV, hS.nM, hS.nC, fun b hb => by simpa [World.setChan] using hS.low b hb, ⟨cap, s, r + 1, tm, ?_⟩⟩ (fun W2 h => hD W2 (hrel3.trans h))
      · rw [← hms, List.append_assoc]
        congr 1
        obtain ⟨l⟩ := buf
        cases l with
        | nil => simp at hlt
        | cons x l => simp [List.take_of_length_le]
      · have := hS.tr.comm hS.chlt htk
        simpa [World.setChan] using this
      · have := hS.chlt
        simp [World.setChan, this]
end
end Go.Proofs.Ytngehfhcnfobbaa
namespace Go.Proofs.Ytngehfhcnfobbaa
open Go Go.Conc
open Go.ConcN (sumTo upd sumTo_upd upd_ne upd_same)

section
variable {P : Program} {Post : Value → World → Prop} {V VisL : Nat → Prop} {ch k cap : Nat} {Ok : Value → Prop} {Done : List Value → (Nat → Prop) → World → Prop} {Rc : List Value → (Nat → Prop) → Goroutine → Value → World → Prop} {Lim : Nat}

/-- The leavers slip while neither of the two has been picked. -/
theorem open_pick {a b : Goroutine} {Wm Wc : World} {Om Oc : Nat → Prop} {buf : Array Value} (hab : a.status = .running ∨ b.status = .running) (hawa : awake a) (hawb : awake b)
    (wa : ∀ gs w t q, Sit P V ch k gs w t q Om Oc b cap buf → ∀ x x', woken P x x' w a = a) (wb : ∀ gs w t q, Sit P V ch k gs w t q Om Oc b cap buf → ∀ x x', woken P x x' w b = b)
    (H0 : a.status = .running → ∀ gs w sl t q, Rely V Om Wm w → Rely V Oc Wc w → gs[0]? = some a → Sit P V ch k gs w t q Om Oc b cap buf → ∃ m' ops, runT P (crowd gs w sl) 0 = (.next m', ops) ∧ Wins P Post m' (t ++ ops))
    (Hk : b.status = .running → ∀ gs w sl t q, Rely V Om Wm w → Rely V Oc Wc w → gs[0]? = some a → Sit P V ch k gs w t q Om Oc b cap buf → ∃ m' ops, runT P (crowd gs w sl) k = (.next m', ops) ∧ Wins P Post m' (t ++ ops)) :
    ∀ gs w sl t q, Rely V Om Wm w → Rely V Oc Wc w → gs[0]? = some a → Sit P V ch k gs w t q Om Oc b cap buf → Wins P Post (crowd gs w sl) t := by
  have key : ∀ M gs w sl t q, sumTo gs.size q ≤ M → Rely V Om Wm w → Rely V Oc Wc w → gs[0]? = some a → Sit P V ch k gs w t q Om Oc b cap buf → Wins P Post (crowd gs w sl) t := by
    intro M
    induction M with
    | zero =>
      intro gs w sl t q hM hr1 hr2 h0 hS
      obtain ⟨i, x, d, sl', hi, hg, hst⟩ := crowd_pick (P := P) (w := w) (sl := sl) (hS.awake h0 hawa hawb) (hab.elim (fun h => ⟨0, a, h0, h⟩) fun h => ⟨k, b, hS.hb, h⟩)
      by_cases hi0 : i = 0
      · subst hi0
        obtain rfl : x = a := by rw [h0] at hi; exact (Option.some.inj hi).symm
        obtain ⟨m', ops, h1, h2⟩ := H0 hg gs (w.at d) sl' t q (hr1.trans (.at ..)) (hr2.trans (.at ..)) h0 (hS.at d)
        exact .step (hst.trans h1) h2
      by_cases hik : i = k
      · subst hik
        obtain rfl : x = b := by rw [hS.hb] at hi; exact (Option.some.inj hi).symm
        obtain ⟨m', ops, h1, h2⟩ := Hk hg gs (w.at d) sl' t q (hr1.trans (.at ..)) (hr2.trans (.at ..)) h0 (hS.at d)
        exact .step (hst.trans h1) h2
      · have hq := hS.old i x (by omega) hik hi
        have hlt : i < gs.size := (Array.getElem?_eq_some_iff.1 hi).1
        have hqi : q i = 0 := by
          have : sumTo gs.size (upd q i 0) + q i = sumTo gs.size q + 0 := by simpa using sumTo_upd q 0 id hlt
          omega
        rw [hqi] at hq
        rw [hq.1] at hg; cases hg
    | succ M ih =>
      intro gs w sl t q hM hr1 hr2 h0 hS
      obtain ⟨i, x, d, sl', hi, hg, hst⟩ := crowd_pick (P := P) (w := w) (sl := sl) (hS.awake h0 hawa hawb) (hab.elim (fun h => ⟨0, a, h0, h⟩) fun h => ⟨k, b, hS.hb, h⟩)
      by_cases hi0 : i = 0
      · subst hi0
        obtain rfl : x = a := by rw [h0] at hi; exact (Option.some.inj hi).symm
        obtain ⟨m', ops, h1, h2⟩ := H0 hg gs (w.at d) sl' t q (hr1.trans (.at ..)) (hr2.trans (.at ..)) h0 (hS.at d)
        exact .step (hst.trans h1) h2
      by_cases hik : i = k
      · subst hik
        obtain rfl : x = b := by rw [hS.hb] at hi; exact (Option.some.inj hi).symm
        obtain ⟨m', ops, h1, h2⟩ := Hk hg gs (w.at d) sl' t q (hr1.trans (.at ..)) (hr2.trans (.at ..)) h0 (hS.at d)
        exact .step (hst.trans h1) h2
      · have hq := hS.old i x (by omega) hik hi
        have hi0' : (i == 0) = false := by simp; omega
        have hlt : i < gs.size := (Array.getElem?_eq_some_iff.1 hi).1
        cases hqi : q i with
        | zero => rw [hqi] at hq; rw [hq.1] at hg; cases hg
        | succ n =>
          rw [hqi] at hq
          rcases hq with ⟨hf, _⟩ | ⟨_, g', es, hm, hstp, hq'⟩
          · rw [hf] at hg; cases hg
          have hrunT := runT_crowd_go (P := P) (sl := sl') (i := i) hi (by rw [hi0']; exact hstp (w.at d))
          have hsum : sumTo gs.size (upd q i n) + (n + 1) = sumTo gs.size q + n := by
            have := sumTo_upd q n id hlt
            simpa [hqi] using this
          refine .step (hst.trans hrunT) (ih _ (w.at d) sl' _ (upd q i n) (by simp; omega) (hr1.trans (.at ..)) (hr2.trans (.at ..)) ?_ ((hS.at d).slip (by omega) hik hi hm hq' (wb _ _ _ _ (hS.at d) x g') _ _))
          rw [Array.getElem?_setIfInBounds_ne hi0, Array.getElem?_map, h0]
          simp [wa _ _ _ _ (hS.at d) x g']
  intro gs w sl t q
  exact key _ gs w sl t q (Nat.le_refl _)

theorem take_first {msr : List Value} {buf : Array Value} (h : 0 < buf.size) : msr ++ [buf.getD 0 undef] ++ (buf.extract 1 buf.size).toList = msr ++ buf.toList := by
  rw [List.append_assoc]
  congr 1
  obtain ⟨l⟩ := buf
  cases l with
  | nil => simp at h
  | cons x l => simp [List.take_of_length_le]
theorem mem_rest {buf : Array Value} {m : Value} {i j : Nat} (hm : m ∈ buf.extract i j) : m ∈ buf := by
  rw [Array.mem_extract_iff_getElem] at hm
  obtain ⟨i, hi, rfl⟩ := hm
  exact Array.getElem_mem _

/-- Goroutine 0, while the channel is open. -/
inductive MStat (P : Program) (V : Nat → Prop) (ch : Nat) (Rc : List Value → (Nat → Prop) → Goroutine → Value → World → Prop) (msr : List Value) (Om : Nat → Prop) (a : Goroutine) (w : World) (buf : Array Value) : Prop
  | run (Wm : World) (h : Co P true V (AtR P ch Rc msr) Om a Wm) (hr : Rely V Om Wm w) : MStat P V ch Rc msr Om a w buf
  | park (g : Goroutine) (z : Value) (e : a = parked g #[rcase ch z] (.recv true)) (hs : ∀ W, stepG P true { parked g #[rcase ch z] (.recv true) with status := .running } W = .comm g #[rcase ch z] true (.recv true) W #[]) (h : Rc msr Om g z w) (hb : buf = #[]) : MStat P V ch Rc msr Om a w buf

/-- What is to be shown of a child that stands here. -/
def Claim (P : Program) (Post : Value → World → Prop) (V : Nat → Prop) (ch k cap : Nat) (Ok : Value → Prop) (Rc : List Value → (Nat → Prop) → Goroutine → Value → World → Prop) (ms : List Value) (Oc : Nat → Prop) (b : Goroutine) (Wc : World) : Prop :=
  ∀ buf msr Om a gs w sl t q, msr ++ buf.toList = ms → (∀ m ∈ buf, Ok m) → gs[0]? = some a → Sit P V ch k gs w t q Om Oc b cap buf → Rely V Oc Wc w → MStat P V ch Rc msr Om a w buf → Wins P Post (crowd gs w sl) t

theorem wakesR {a b : Goroutine} {Om Oc : Nat → Prop} {buf : Array Value} (h : a.status = .running) : ∀ gs w t q, Sit P V ch k gs w t q Om Oc b cap buf → ∀ x x', woken P x x' w a = a := fun _ _ _ _ _ _ _ => woken_run h

/-- A child that runs: what comes where it is picked is known. -/
theorem claim_run (pr : Prot P V ch Post VisL Ok Done Rc Lim) {ms : List Value} (hL : ms.length ≤ Lim) {Oc : Nat → Prop} {b : Goroutine} {Wc : World} (hb : b.status = .running)
    (HK : ∀ buf msr Om a gs w sl t q, msr ++ buf.toList = ms → (∀ m ∈ buf, Ok m) → gs[0]? = some a → Sit P V ch k gs w t q Om Oc b cap buf → Rely V Oc Wc w → MStat P V ch Rc msr Om a w buf → ∃ m' ops, runT P (crowd gs w sl) k = (.next m', ops) ∧ Wins P Post m' (t ++ ops)) :
    Claim P Post V ch k cap Ok Rc ms Oc b Wc := by
  have parkc : ∀ buf msr Om a gs w sl t q, msr ++ buf.toList = ms → (∀ m ∈ buf, Ok m) → gs[0]? = some a → Sit P V ch k gs w t q Om Oc b cap buf → Rely V Oc Wc w → ∀ g z, a = parked g #[rcase ch z] (.recv true) → (∀ W, stepG P true { parked g #[rcase ch z] (.recv true) with status := .running } W = .comm g #[rcase ch z] true (.recv true) W #[]) → Rc msr Om g z w → buf = #[] → Wins P Post (crowd gs w sl) t := by
    intro buf msr Om a gs w sl t q hms hok h0 hS hr g z e hst hRc hbuf
    refine open_pick (V := V) (Wm := w) (Wc := Wc) (a := a) (b := b) (.inr hb) (awake_of (.inr (.inl (by rw [e]; rfl)))) (awake_of (.inl hb)) (fun gs w t q hS x x' => by rw [e]; exact hS.woken_recv ..) (wakesR hb) (fun ha => ?_) (fun _ gs w' sl t q hr1 hr2 h0 hS => ?_) gs w sl t q (Rely.refl ..) hr h0 hS
    · rw [e] at ha; cases ha
    · exact HK buf msr Om a gs w' sl t q hms hok h0 hS hr2 (.park g z e hst (pr.rely _ _ _ _ _ _ hRc hr1) hbuf)
  have main : ∀ (nb : Nat) buf msr, buf.size = nb → msr ++ buf.toList = ms → (∀ m ∈ buf, Ok m) → ∀ Om a Wm, Co P true V (AtR P ch Rc msr) Om a Wm → ∀ gs w sl t q, Rely V Om Wm w → Rely V Oc Wc w → gs[0]? = some a → Sit P V ch k gs w t q Om Oc b cap buf → Wins P Post (crowd gs w sl) t := by
    intro nb
    induction nb using Nat.strongRecOn with
    | _ nb ihb =>
    intro buf msr hnb hms hok Om a Wm hCo
    induction hCo with
    | @step' O a W hr nx h1 h2 ih =>
      intro gs w sl t q hr1 hr2 h0 hS
      refine open_pick (V := V) (Wm := W) (Wc := Wc) (a := a) (b := b) (.inr hb) (awake_of (.inl hr)) (awake_of (.inl hb)) (wakesR hr) (wakesR hb) (fun _ gs w sl t q hr1 hr2 h0 hS => ?_) (fun _ gs w sl t q hr1 hr2 h0 hS => ?_) gs w sl t q hr1 hr2 h0 hS
      · obtain ⟨hgo, g⟩ := h1 w hr1
        have hrunT := runT_crowd_go (P := P) (sl := sl) (i := 0) h0 (show stepG P (0 == 0) a w = _ from hgo)
        exact ⟨_, _, hrunT, ih w hr1 _ _ sl _ q (Rely.refl ..) (hr2.trans (guar_rely g hS.dis hS.v1 hS.low)) (by simp [(Array.getElem?_eq_some_iff.1 h0).1]) (hS.main h0 (woken_run hb) g _ _)⟩
      · exact HK buf msr O a gs w sl t q hms hok h0 hS hr2 (.run W (.step' hr nx h1 h2) hr1)
    | @stop O a W h =>
      intro gs w sl t q hr1 hr2 h0 hS
      obtain ⟨g0, z0, hr0, _⟩ := h W (Rely.refl ..)
      refine open_pick (V := V) (Wm := W) (Wc := Wc) (a := a) (b := b) (.inr hb) (awake_of (.inl hr0.1)) (awake_of (.inl hb)) (wakesR hr0.1) (wakesR hb) (fun _ gs w sl t q hr1 hr2 h0 hS => ?_) (fun _ gs w sl t q hr1 hr2 h0 hS => ?_) gs w sl t q hr1 hr2 h0 hS
      · obtain ⟨g, z, hr, hRc⟩ := h w hr1
        obtain ⟨s, r, tm, hc⟩ := hS.chan
        have hlt0 : 0 < gs.size := (Array.getElem?_eq_some_iff.1 h0).1
        have hk := hS.kpos
        by_cases hz : buf.size = 0
        · -- it waits
          have hbuf : buf = #[] := Array.eq_empty_of_size_eq_zero hz
          have hrun := crowd_waits (P := P) (sl := sl) (i := 0) h0 (show stepG P (0 == 0) a w = _ from hr.2.1 w) (fun cc hcc => by
            simp only [List.mem_toArray, List.mem_cons, List.not_mem_nil, or_false] at hcc
            subst hcc
            rw [hbuf] at hc
            exact ways_recv_none hc (hS.partners0 (by rw [hb]; exact fun x => by cases x) true))
          refine ⟨_, _, hrun, ?_⟩
          rw [ofEvents_nil, Array.append_empty]
          refine parkc buf msr O _ _ w sl t q hms hok (by simp [hlt0]) ⟨hS.kpos, by rw [Array.getElem?_setIfInBounds_ne (by omega)]; exact hS.hb, fun i x hi hne hx => hS.old i x hi hne (by rw [Array.getElem?_setIfInBounds_ne (by omega)] at hx; exact hx), fun j hj => hS.above j (by simpa using hj), hS.tr, hS.dis, hS.v1, hS.v2, hS.nV, hS.nM, hS.nC, hS.low, hS.chan⟩ hr2 g z rfl (fun W => ?_) hRc hbuf
          rw [← hr.2.1 W]
          exact stepG_same hr.2.2.1 hr.2.2.2.1 hr.2.2.2.2 W
        · -- it takes from the buffer
          have hlt : 0 < buf.size := Nat.pos_of_ne_zero hz
          have hrun := crowd_recv_buf (P := P) (sl := sl) (i := 0) h0 (show stepG P (0 == 0) a w = _ from hr.2.1 w) hc hlt (hS.partners0 (by rw [hb]; exact fun x => by cases x) true)
          refine ⟨_, _, hrun, ?_⟩
          rw [finish_recv, ofEvents_nil, Array.empty_append]
          have hm : buf.getD 0 undef ∈ buf := by
            rw [Array.getD_eq_getD_getElem?, Array.getElem?_eq_getElem hlt]
            exact Array.getElem_mem hlt
          refine ihb (buf.size - 1) (by omega) (buf.extract 1 buf.size) (msr ++ [buf.getD 0 undef]) (by simp) (by rw [← hms]; exact take_first hlt) (fun m hm => hok m (mem_rest hm)) O _ w (pr.recv msr O g z w _ (by have := congrArg List.length hms; simp at this; omega) hRc (hok _ hm)) _ _ sl _ q (rely_setChan V O w hS.nV hS.nM ..) (hr2.trans (rely_setChan V Oc w hS.nV hS.nC ..)) (by simp [hlt0])
            (hS.talk (by rw [Array.getElem?_setIfInBounds_ne (by omega)]; exact hS.hb) (by simp) (fun i hi _ => Array.getElem?_setIfInBounds_ne (by omega)) fun op hop => ?_)
          simp only [List.mem_toArray, List.mem_cons, List.not_mem_nil, or_false] at hop
          rcases hop with rfl | rfl
          · exact .inr (.inr (.inl ⟨_, _, rfl⟩))
          · exact .inr (.inr (.inr (.inl ⟨_, rfl⟩)))
      · exact HK buf msr O a gs w sl t q hms hok h0 hS hr2 (.run W (.stop h) hr1)
  intro buf msr Om a gs w sl t q hms hok h0 hS hr hM
  cases hM with
  | run Wm h hr1 => exact main _ buf msr rfl hms hok Om a Wm h gs w sl t q hr1 hr h0 hS
  | park g z e hst hRc hbuf => exact parkc buf msr Om a gs w sl t q hms hok h0 hS hr g z e hst hRc hbuf

/-- A child that is parked at a send: what comes where goroutine 0 takes from the buffer is known. -/
theorem claim_park (pr : Prot P V ch Post VisL Ok Done Rc Lim) (hcap : 0 < cap) {ms : List Value} (hL : ms.length ≤ Lim) {Oc : Nat → Prop} {g : Goroutine} {v z' : Value} {Wc : World} (hv : Ok v)
    (HM : ∀ W2, Rely V Oc Wc W2 → Claim P Post V ch k cap Ok Rc (ms ++ [v]) Oc (Go.Conc.served g undef) W2) :
    ∀ buf msr, cap ≤ buf.size → msr ++ buf.toList = ms → (∀ m ∈ buf, Ok m) → ∀ Om a Wm, Co P true V (AtR P ch Rc msr) Om a Wm → ∀ gs w sl t q, Rely V Om Wm w → Rely V Oc Wc w → gs[0]? = some a → Sit P V ch k gs w t q Om Oc (parked g #[scase ch v z'] .send) cap buf → Wins P Post (crowd gs w sl) t := by
  intro buf msr hnb hms hok Om a Wm hCo
  have nb : ¬ (parked g #[scase ch v z'] .send).status = .running := fun h => by cases h
  have awb : awake (parked g #[scase ch v z'] .send) := awake_of (.inr (.inl rfl))
  induction hCo with
  | @step' O a W hr nx h1 h2 ih =>
    intro gs w sl t q hr1 hr2 h0 hS
    refine open_pick (V := V) (Wm := W) (Wc := Wc) (a := a) (.inl hr) (awake_of (.inl hr)) awb (wakesR hr) (fun gs w t q hS x x' => hS.woken_send ..) (fun _ gs w sl t q hr1 hr2 h0 hS => ?_) (fun h => absurd h nb) gs w sl t q hr1 hr2 h0 hS
    obtain ⟨hgo, gu⟩ := h1 w hr1
    have hrunT := runT_crowd_go (P := P) (sl := sl) (i := 0) h0 (show stepG P (0 == 0) a w = _ from hgo)
    have hb : woken P a (nx w).g (nx w).w (parked g #[scase ch v z'] .send) = parked g #[scase ch v z'] .send := by
      obtain ⟨s, r, tm, hc⟩ := hS.chan
      exact woken_send_open _ _ (by rw [gu.keep ch hS.chlt hS.nM]; exact hc)
    exact ⟨_, _, hrunT, ih w hr1 _ _ sl _ q (Rely.refl ..) (hr2.trans (guar_rely gu hS.dis hS.v1 hS.low)) (by simp [(Array.getElem?_eq_some_iff.1 h0).1]) (hS.main h0 hb gu _ _)⟩
  | @stop O a W h =>
    intro gs w sl t q hr1 hr2 h0 hS
    obtain ⟨g0, z0, hr0, _⟩ := h W (Rely.refl ..)
    refine open_pick (V := V) (Wm := W) (Wc := Wc) (a := a) (.inl hr0.1) (awake_of (.inl hr0.1)) awb (wakesR hr0.1) (fun gs w t q hS x x' => hS.woken_send ..) (fun _ gs w sl t q hr1 hr2 h0 hS => ?_) (fun h => absurd h nb) gs w sl t q hr1 hr2 h0 hS
    obtain ⟨ga, z, hr, hRc⟩ := h w hr1
    obtain ⟨s, r, tm, hc⟩ := hS.chan
    have hlt0 : 0 < gs.size := (Array.getElem?_eq_some_iff.1 h0).1
    have hk := hS.kpos
    have hltk : k < gs.size := (Array.getElem?_eq_some_iff.1 hS.hb).1
    have hlt : 0 < buf.size := by omega
    have hrun := crowd_recv_buf_parked (P := P) (sl := sl) (i := 0) (j := k) h0 (show stepG P (0 == 0) a w = _ from hr.2.1 w) hc hlt (by omega) hS.hb (hS.partners0P rfl)
    refine ⟨_, _, hrun, ?_⟩
    rw [finish_recv, finishComm_send, ofEvents_nil, Array.empty_append]
    have hm : buf.getD 0 undef ∈ buf := by
      rw [Array.getD_eq_getD_getElem?, Array.getElem?_eq_getElem hlt]
      exact Array.getElem_mem hlt
    refine HM _ (hr2.trans (rely_setChan V Oc w hS.nV hS.nC cap ((buf.extract 1 buf.size).push v) false (s + 1) (r + 1) tm)) ((buf.extract 1 buf.size).push v) (msr ++ [buf.getD 0 undef]) O _ _ _ sl _ q ?_ (fun m hm' => ?_) (by simp [hlt0]) (hS.talk (by rw [Array.getElem?_setIfInBounds_ne (by omega), Array.getElem?_setIfInBounds_self_of_lt (by simpa using hltk)]) (by simp) (fun i hi hne => by rw [Array.getElem?_setIfInBounds_ne (by omega), Array.getElem?_setIfInBounds_ne (by omega)]) fun op hop => ?_) (Rely.refl ..) (.run w (pr.recv msr O ga z w _ (by have := congrArg List.length hms; simp at this; omega) hRc (hok _ hm)) (rely_setChan V O w hS.nV hS.nM ..))
    · rw [Array.toList_push, ← List.append_assoc, take_first hlt, hms]
    · rcases Array.mem_push.1 hm' with h | rfl
      · exact hok m (mem_rest h)
      · exact hv
    · simp only [List.mem_toArray, List.mem_cons, List.not_mem_nil, or_false] at hop
      rcases hop with rfl | rfl | rfl | rfl
      · exact .inr (.inr (.inl ⟨_, _, rfl⟩))
      · exact .inr (.inr (.inr (.inl ⟨_, rfl⟩)))
      · exact .inl ⟨_, rfl⟩
      · exact .inr (.inl ⟨_, rfl⟩)
end
end Go.Proofs.Ytngehfhcnfobbaa
namespace Go.Proofs.Ytngehfhcnfobbaa
open Go Go.Conc
open Go.ConcN (sumTo upd sumTo_upd upd_ne upd_same)

section
variable {P : Program} {Post : Value → World → Prop} {V VisL : Nat → Prop} {ch k cap : Nat} {Ok : Value → Prop} {Done : List Value → (Nat → Prop) → World → Prop} {Rc : List Value → (Nat → Prop) → Goroutine → Value → World → Prop} {Lim : Nat}

/-- It closes. -/
theorem hk_shut (pr : Prot P V ch Post VisL Ok Done Rc Lim) {ms : List Value} (hLim : ms.length ≤ Lim) {Oc : Nat → Prop} {b : Goroutine} {buf : Array Value} {msr : List Value} {Om : Nat → Prop} {a : Goroutine} {gs : Array Goroutine} {w : World} {sl : Option (Nat × Nat)} {t : Trace} {q : Nat → Nat}
    (hsh : Shuts P V ch Done ms Oc b w) (hms : msr ++ buf.toList = ms) (hok : ∀ m ∈ buf, Ok m) (h0 : gs[0]? = some a) (hS : Sit P V ch k gs w t q Om Oc b cap buf) (hM : MStat P V ch Rc msr Om a w buf) :
    ∃ m' ops, runT P (crowd gs w sl) k = (.next m', ops) ∧ Wins P Post m' (t ++ ops) := by
  obtain ⟨hb, hmw, ⟨g2, n, hq, hst⟩, hD⟩ := hsh
  obtain ⟨s, r, tm, hc⟩ := hS.chan
  have hk := hS.kpos
  have hk0 : (k == 0) = false := by simp; omega
  have hltk : k < gs.size := (Array.getElem?_eq_some_iff.1 hS.hb).1
  have hlt0 : 0 < gs.size := (Array.getElem?_eq_some_iff.1 h0).1
  have hrunT := runT_crowd_go (P := P) (sl := sl) (i := k) hS.hb (by rw [hk0]; exact hst w cap buf s r tm hc)
  refine ⟨_, _, hrunT, ?_⟩
  have hch : ch < w.heap.size := hS.chlt
  have hcl : (w.setChan ch cap buf true s r tm).heap[ch]? = some (.chan cap buf true s r tm) := by simp [World.setChan, hch]
  have hsz : (w.setChan ch cap buf true s r tm).heap.size = w.heap.size := by simp [World.setChan]
  have hg2 : g2.status ≠ .blocked ∧ g2.status ≠ .waiting := by
    rcases hq.status with e | e <;> rw [e] <;> exact ⟨by decide, by decide⟩
  have hDk : Deaf t k = 0 := hS.tr.h2
  -- the leavers: the child is one of them
  have hL : Leavers P (t ++ MemOp.ofEvents k b.frame.fn b.frame.place #[⟨.obj ch, false, true⟩, ⟨.obj ch, true, true⟩]) ((gs.map (woken P b g2 (w.setChan ch cap buf true s r tm))).setIfInBounds k g2) (upd q k n) := by
    refine ⟨fun j x hj hx => ?_, fun j hj => ?_⟩
    · by_cases hjk : k = j
      · subst hjk
        rw [Array.getElem?_setIfInBounds_self_of_lt (by simpa using hltk)] at hx
        obtain rfl := Option.some.inj hx
        rw [upd_same, Deaf_own, hDk]
        exact hq
      · rw [Array.getElem?_setIfInBounds_ne hjk, Array.getElem?_map] at hx
        obtain ⟨y, hy, rfl⟩ := Option.map_eq_some_iff.1 hx
        have hqj := hS.old j y hj (Ne.symm hjk) hy
        rw [woken_quitsD hqj, upd_ne q n (Ne.symm hjk), Deaf_other t hjk (MemOp.ofEvents k b.frame.fn b.frame.place #[⟨.obj ch, false, true⟩, ⟨.obj ch, true, true⟩]) ofEvents_g]
        exact hqj
    · rw [Deaf_other t (g' := k) (by simp at hj; omega) (MemOp.ofEvents k b.frame.fn b.frame.place #[⟨.obj ch, false, true⟩, ⟨.obj ch, true, true⟩]) ofEvents_g]
      exact hS.above j (by simpa using hj)
  have hT := hS.tr.close hch hS.dis hS.v1 hS.v2 b.frame.fn b.frame.place
  rw [← hsz] at hT
  have hC : SitC P V ch (t.size + 1) ((gs.map (woken P b g2 (w.setChan ch cap buf true s r tm))).setIfInBounds k g2) (w.setChan ch cap buf true s r tm) (t ++ MemOp.ofEvents k b.frame.fn b.frame.place #[⟨.obj ch, false, true⟩, ⟨.obj ch, true, true⟩]) (upd q k n) Om Oc buf :=
    ⟨hL, hT, hS.dis, hS.v1, hS.v2, hS.nV, hS.nM, hS.nC, fun b hb => by rw [hsz]; exact hS.low b hb, cap, s, r, tm, hcl⟩
  have hDone : ∀ W2, Rely V Oc (w.setChan ch cap buf true s r tm) W2 → Done ms Oc W2 := fun W2 h => hD W2 ((rely_setChan V Oc w hS.nV hS.nC cap buf true s r tm).trans h)
  cases hM with
  | run Wm h hr =>
    -- goroutine 0 runs
    have ha : a.status = .running := by
      cases h with
      | stop h => exact (h Wm (Rely.refl ..)).choose_spec.choose_spec.1.1
      | step' hr _ _ _ => exact hr
    refine closed_wins pr hLim _ buf msr rfl hms hok Om a Wm h _ _ sl _ _ (hr.trans (rely_setChan V Om w hS.nV hS.nM cap buf true s r tm)) ?_ hC hDone
    rw [Array.getElem?_setIfInBounds_ne (by omega), Array.getElem?_map, h0]
    simp [woken_run ha]
  | park g z e hs hRc hbuf =>
    refine closed_wins pr hLim _ buf msr rfl hms hok Om { parked g #[rcase ch z] (.recv true) with status := .running } _ (.stop fun W1 h1 => ⟨g, z, ⟨rfl, hs, rfl, rfl, rfl⟩, pr.rely _ _ _ _ _ _ hRc ((rely_setChan V Om w hS.nV hS.nM cap buf true s r tm).trans h1)⟩) _ _ sl _ _ (Rely.refl ..) ?_ hC hDone
    rw [Array.getElem?_setIfInBounds_ne (by omega), Array.getElem?_map, h0, e]
    have : woken P b g2 (w.setChan ch cap buf true s r tm) (parked g #[rcase ch z] (.recv true)) = { parked g #[rcase ch z] (.recv true) with status := .running } := by
      unfold woken
      rw [if_pos (by rw [hmw]; simp [hg2.1, hg2.2])]
      exact again_recv_closed hcl
    simp [this]

/-- It sends. -/
theorem hk_send (pr : Prot P V ch Post VisL Ok Done Rc Lim) (hcap : 0 < cap) {ms : List Value} (hL : ms.length < Lim) {Oc : Nat → Prop} {b g : Goroutine} {v z' : Value} {buf : Array Value} {msr : List Value} {Om : Nat → Prop} {a : Goroutine} {gs : Array Goroutine} {w : World} {sl : Option (Nat × Nat)} {t : Trace} {q : Nat → Nat}
    (hsd : SendAt P ch b g v z') (hv : Ok v) (HM : ∀ W2, Rely V Oc w W2 → Claim P Post V ch k cap Ok Rc (ms ++ [v]) Oc (Go.Conc.served g undef) W2) (hms : msr ++ buf.toList = ms) (hok : ∀ m ∈ buf, Ok m) (h0 : gs[0]? = some a) (hS : Sit P V ch k gs w t q Om Oc b cap buf) (hM : MStat P V ch Rc msr Om a w buf) :
    ∃ m' ops, runT P (crowd gs w sl) k = (.next m', ops) ∧ Wins P Post m' (t ++ ops) := by
  obtain ⟨s, r, tm, hc⟩ := hS.chan
  have hk := hS.kpos
  have hk0 : (k == 0) = false := by simp; omega
  have hltk : k < gs.size := (Array.getElem?_eq_some_iff.1 hS.hb).1
  have hlt0 : 0 < gs.size := (Array.getElem?_eq_some_iff.1 h0).1
  have hstep : stepG P (k == 0) b w = .comm g #[scase ch v z'] true .send w #[] := by rw [hk0]; exact hsd.2 w
  cases hM with
  | run Wm h hr =>
    have ha : a.status = .running := by
      cases h with
      | stop h => exact (h Wm (Rely.refl ..)).choose_spec.choose_spec.1.1
      | step' hr _ _ _ => exact hr
    have hp := hS.partnersK h0 (by rw [ha]; exact fun x => by cases x) false
    by_cases hroom : buf.size < cap
    · have hrun := crowd_send_room (P := P) (sl := sl) (i := k) hS.hb hstep hc hroom hp
      refine ⟨_, _, hrun, ?_⟩
      rw [finishComm_send, ofEvents_nil, Array.empty_append]
      refine HM _ (rely_setChan V Oc w hS.nV hS.nC cap (buf.push v) false (s + 1) r tm) (buf.push v) msr Om a _ _ sl _ q (by rw [Array.toList_push, ← List.append_assoc, hms]) (fun m hm => ?_) (by rw [Array.getElem?_setIfInBounds_ne (by omega)]; exact h0) (hS.talk (by rw [Array.getElem?_setIfInBounds_self_of_lt hltk]) (by simp) (fun i _ hne => Array.getElem?_setIfInBounds_ne (Ne.symm hne)) fun op hop => ?_) (Rely.refl ..) (.run Wm h (hr.trans (rely_setChan V Om w hS.nV hS.nM ..)))
      · rcases Array.mem_push.1 hm with h | rfl
        · exact hok m h
        · exact hv
      · simp only [List.mem_toArray, List.mem_cons, List.not_mem_nil, or_false] at hop
        rcases hop with rfl | rfl
        · exact .inl ⟨_, rfl⟩
        · exact .inr (.inl ⟨_, rfl⟩)
    · have hrun := crowd_waits (P := P) (sl := sl) (i := k) hS.hb hstep (fun cc hcc => by
        simp only [List.mem_toArray, List.mem_cons, List.not_mem_nil, or_false] at hcc
        subst hcc
        exact ways_send_none hc (by omega) hp)
      refine ⟨_, _, hrun, ?_⟩
      rw [ofEvents_nil, Array.append_empty]
      refine claim_park pr hcap (Nat.le_of_lt hL) hv HM buf msr (by omega) hms hok Om a Wm h _ w sl t q hr (Rely.refl ..) (by rw [Array.getElem?_setIfInBounds_ne (by omega)]; exact h0)
        ⟨hk, by rw [Array.getElem?_setIfInBounds_self_of_lt hltk], fun i x hi hne hx => hS.old i x hi hne (by rw [Array.getElem?_setIfInBounds_ne (Ne.symm hne)] at hx; exact hx), fun j hj => hS.above j (by simpa using hj), hS.tr, hS.dis, hS.v1, hS.v2, hS.nV, hS.nM, hS.nC, hS.low, hS.chan⟩
  | park ga z e hs hRc hbuf =>
    subst hbuf
    have hrun := crowd_send_meets (P := P) (sl := sl) (i := k) (j := 0) hS.hb hstep hc (by omega) (by rw [h0, e]) (hS.partnersKP h0 e)
    refine ⟨_, _, hrun, ?_⟩
    rw [finish_recv, finishComm_send, ofEvents_nil, Array.empty_append]
    refine HM _ (rely_setChan V Oc w hS.nV hS.nC cap #[] false (s + 1) (r + 1) tm) #[] (msr ++ [v]) Om _ _ _ sl _ q (by rw [← hms]; simp) (fun m hm => by simp at hm) (by rw [Array.getElem?_setIfInBounds_ne (by omega), Array.getElem?_setIfInBounds_self_of_lt hlt0]) (hS.talk (by rw [Array.getElem?_setIfInBounds_self_of_lt (by simpa using hltk)]) (by simp) (fun i hi hne => by rw [Array.getElem?_setIfInBounds_ne (Ne.symm hne), Array.getElem?_setIfInBounds_ne (by omega)]) fun op hop => ?_) (Rely.refl ..)
      (.run w (pr.recv msr Om ga z w v (by have := congrArg List.length hms; simp at this; omega) hRc hv) (rely_setChan V Om w hS.nV hS.nM ..))
    simp only [List.mem_toArray, List.mem_cons, List.not_mem_nil, or_false] at hop
    rcases hop with rfl | rfl | rfl | rfl
    · exact .inl ⟨_, rfl⟩
    · exact .inr (.inr (.inl ⟨_, _, rfl⟩))
    · exact .inr (.inl ⟨_, rfl⟩)
    · exact .inr (.inr (.inr (.inl ⟨_, rfl⟩)))

theorem MStat.stay {msr : List Value} {Om Oc Oc' : Nat → Prop} {a b b' : Goroutine} {w w' : World} {es : Array Event} {buf : Array Value} {gs : Array Goroutine} {t : Trace} {q : Nat → Nat} (pr : Prot P V ch Post VisL Ok Done Rc Lim) (hM : MStat P V ch Rc msr Om a w buf) (hS : Sit P V ch k gs w t q Om Oc b cap buf) (g : Guar V Oc w w' es Oc') :
    MStat P V ch Rc msr Om a w' buf ∧ woken P b b' w' a = a := by
  have hr : Rely V Om w w' := guar_rely g (fun b x y => hS.dis b y x) hS.v2 fun b hb => hS.low b (by
    rcases hb with h | h | h
    · exact .inl h
    · exact .inr (.inr h)
    · exact .inr (.inl h))
  cases hM with
  | run Wm h h1 =>
    refine ⟨.run Wm h (h1.trans hr), ?_⟩
    cases h with
    | stop h => exact woken_run (h Wm (Rely.refl ..)).choose_spec.choose_spec.1.1
    | step' hr _ _ _ => exact woken_run hr
  | park ga z e hs hRc hbuf =>
    refine ⟨.park ga z e hs (pr.rely _ _ _ _ _ _ hRc hr) hbuf, ?_⟩
    rw [e]
    obtain ⟨s, r, tm, hc⟩ := hS.chan
    exact woken_recv_open _ _ (by rw [g.keep ch hS.chlt hS.nC]; exact hc)

/-- A child on its way. -/
theorem claim_co (pr : Prot P V ch Post VisL Ok Done Rc Lim) {ms : List Value} (hL : ms.length ≤ Lim) {Stop : (Nat → Prop) → Goroutine → World → Prop} {Oc : Nat → Prop} {b : Goroutine} {Wc : World} (h : Co P false V Stop Oc b Wc)
    (hS : ∀ Oc b Wc, (∀ W1, Rely V Oc Wc W1 → Stop Oc b W1) → Claim P Post V ch k cap Ok Rc ms Oc b Wc) : Claim P Post V ch k cap Ok Rc ms Oc b Wc := by
  induction h with
  | stop h => exact hS _ _ _ h
  | @step' Oc b W hr nx h1 _ ih =>
    refine claim_run pr hL hr fun buf msr Om a gs w sl t q hms hok h0 hSit hrel hM => ?_
    obtain ⟨hgo, g⟩ := h1 w hrel
    have hk := hSit.kpos
    have hk0 : (k == 0) = false := by simp; omega
    have hrunT := runT_crowd_go (P := P) (sl := sl) (i := k) hSit.hb (by rw [hk0]; exact hgo)
    obtain ⟨hM', hwk⟩ := hM.stay (b' := (nx w).g) pr hSit g
    refine ⟨_, _, hrunT, ih w hrel buf msr Om a _ _ sl _ q hms hok ?_ (hSit.child g _ _) (Rely.refl ..) hM'⟩
    rw [Array.getElem?_setIfInBounds_ne (by omega), Array.getElem?_map, h0]
    simp [hwk]

/-- THE THEOREM. -/
theorem claim_ch (pr : Prot P V ch Post VisL Ok Done Rc Lim) (hcap : 0 < cap) : ∀ (n : Nat) (ms : List Value) (Oc : Nat → Prop) (b : Goroutine) (Wc : World), ms.length + n ≤ Lim → Ch P V ch Ok Done n ms Oc b Wc → Claim P Post V ch k cap Ok Rc ms Oc b Wc := by
  intro n
  induction n with
  | zero =>
    intro ms Oc b Wc hL h
    refine claim_co pr hL h fun Oc b Wc hs => ?_
    exact claim_run pr hL (hs Wc (Rely.refl ..)).1 fun buf msr Om a gs w sl t q hms hok h0 hSit hrel hM => hk_shut pr hL (hs w hrel) hms hok h0 hSit hM
  | succ n ih =>
    intro ms Oc b Wc hL h
    refine claim_co pr (by omega) h fun Oc b Wc hs => ?_
    have hb : b.status = .running := by
      rcases hs Wc (Rely.refl ..) with h | ⟨_, _, _, h, _⟩
      · exact h.1
      · exact h.1
    refine claim_run pr (by omega) hb fun buf msr Om a gs w sl t q hms hok h0 hSit hrel hM => ?_
    rcases hs w hrel with h | ⟨g, v, z, h, hv, hn⟩
    · exact hk_shut pr (by omega) h hms hok h0 hSit hM
    · exact hk_send pr hcap (by omega) h hv (fun W2 h2 => ih _ _ _ _ (by simp; omega) (hn W2 h2)) hms hok h0 hSit hM
end
end Go.Proofs.Ytngehfhcnfobbaa
namespace Go.Proofs.Ytngehfhcnfobbaa
open Go Go.Conc Go.RowKit

def rgO' : Code → Array Oper
  | .region _ ops _ => ops
  | _ => #[]
noncomputable def dcRcv : Array Oper := rgO' (sq1 dcRound)
noncomputable def dcTail : Code := sq2 (sq2 (sq2 (sq2 (sq2 (bodyOf Try.f7)))))
noncomputable def mK : List Item := [.code (.seq (.cond (.tmp 10) .skip (.exit 0)) dcMsg), .inLoop dcRound, .inBlock 0, .code dcTail]

/-- Goroutine 0 while it receives: channels and slices are tokens. -/
noncomputable def cM : Cx := { G := 0, Fz := fun _ => False, T := fun _ => False, M := fun _ => False, K := Try.prog.funcs.size, Tk := True, J := True }
theorem cM_noCopy : noCopyB Try.prog = true := by kernel_rfl
theorem cM_ok : COk Try.prog cM where
  tok := Array.getElem?_eq_none (Nat.le_refl _)
  tokT := fun h => h.elim
  noCopy := noCopyB_ok cM_noCopy
  glob := fun h => absurd trivial h
  func := fun _ h => h.elim
  meth := fun _ h => h.elim
theorem cM_fns : FnsOk Try.prog cM := fun _ _ h => h.elim
theorem cd_Msg : cdB Try.prog 0 (fun _ => false) (fun _ => false) true dcMsg = true := by kernel_rfl
theorem cM_msg : CdOk Try.prog cM dcMsg := cdB_ok (T := fun _ => false) (M := fun _ => false) (tk := true) (Nat.le_refl _) (fun _ h => by cases h) (fun _ h => by cases h) (fun h => by cases h) cd_Msg

theorem dcRound_eq : dcRound = .seq (.region 5 dcRcv false) (.seq (.cond (.tmp 10) .skip (.exit 0)) dcMsg) := by kernel_rfl
theorem rcv_ops : ∃ o0 o1, dcRcv = #[o0, o1] ∧ o0.dst = some 9 ∧ o1.dst = some 10 ∧ o0.op = .recv 50 (.tmp 8) true ∧ o1.op = .extract (.tmp 9) 1 ∧ o0.guard = none ∧ o1.guard = none :=
  ⟨_, _, rfl, rfl, rfl, rfl, rfl, rfl, rfl⟩

/-- The zero message. -/
def zD : Value := .agg #[.slice none 0 0, .slice none 0 0]
theorem recv_run (a : Act) (c : Nat) (W : World) (o : Oper) (h0 : a.eval (.tmp 8) = .chan (some c)) (ho : o.op = .recv 50 (.tmp 8) true) : (execOp a.eval o).run Try.prog W = .ok (.comm #[rcase c zD] true (.recv true)) W := by
  unfold execOp
  simp only [ho, h0]
  go_simp
  rfl
theorem recv_ev (a : Act) (c : Nat) (W : World) (o : Oper) (h0 : a.eval (.tmp 8) = .chan (some c)) (ho : o.op = .recv 50 (.tmp 8) true) : (execOp a.eval o).events Try.prog W #[] = #[] := by
  unfold execOp
  simp only [ho, h0]
  kernel_rfl
theorem extract_run (a : Act) (W : World) (o : Oper) (x y : Value) (h0 : a.eval (.tmp 9) = .tuple #[x, y]) (ho : o.op = .extract (.tmp 9) 1) : (execOp a.eval o).run Try.prog W = .ok (.value y) W := by
  unfold execOp
  simp only [ho, h0]
  go_simp

/-- The lone row beside what has been received. -/
inductive Toks : List Value → List Value → Prop
  | nil : Toks [] []
  | snoc {ms xs : List Value} {s1 s2 : Value} (h : Toks ms xs) : Toks (ms ++ [.agg #[s1, s2]]) (xs ++ [.func (.func Try.prog.funcs.size) #[s1] #[], .func (.func Try.prog.funcs.size) #[s2] #[]])

noncomputable def mrcv (csM : List Frame) (tmps' : Array Value) : Goroutine := G ((base 7).at ⟨tmps', []⟩ (.inRegion dcRcv [0, 1] :: mK)) csM
noncomputable def tokC (ch : Nat) : Value := .func (.func Try.prog.funcs.size) #[.chan (some ch)] #[]

/-- Goroutine 0 at its receive, so many messages behind. -/
def MRc (csM : List Frame) (ch : Nat) (ms : List Value) (O : Nat → Prop) (g : Goroutine) (z : Value) (W : World) : Prop :=
  z = zD ∧ ∃ (ρ : Nat → Nat → Prop) (wM : World) (tmps' : Array Value) (y0 y1 y2 y3 v y5 y6 y7 y9 y10 y11 y12 y13 y14 y15 y16 : Value) (xs : List Value),
    g = mrcv csM tmps' ∧ AR cM ρ #[y0, y1, y2, y3, v, y5, y6, y7, tokC ch, y9, y10, y11, y12, y13, y14, y15, y16] tmps' ∧ WR cM ρ wM W ∧ (∀ b b', ρ b b' → O b') ∧ wM.ownsRow 0 32 2 v ms.length xs ∧ Toks ms xs ∧ (ms.length = 0 → v = .slice none 0 0)

theorem rcvAt {csM : List Frame} {tmps' : Array Value} {ch : Nat} (h : tmps'[8]? = some (.chan (some ch))) : RecvAt Try.prog ch (mrcv csM tmps') (mrcv csM tmps') zD := by
  obtain ⟨o0, o1, hops, e0, e1, e2, e3, e4, e5⟩ := rcv_ops
  have he : (Act.mk tmps' []).eval (.tmp 8) = .chan (some ch) := by
    show tmps'.getD 8 undef = _
    rw [Array.getD_eq_getD_getElem?, h]; rfl
  refine ⟨rfl, fun W => ?_, rfl, rfl, rfl⟩
  unfold mrcv
  rw [stepG_comm (cases := #[rcase ch zD]) (blocking := true) (shape := .recv true) (w' := W) (o := o0) (by rw [hops]; rfl) (by unfold Region.wanted; rw [e4]) (by decide) (recv_run _ ch W o0 he e2)]
  unfold listed
  rw [recv_ev _ ch W o0 he e2]
  simp [seen]

/-- WHAT IT DOES WITH A MESSAGE. -/
theorem main_recv {V : Nat → Prop} {csM : List Frame} {ch : Nat} {ms : List Value} {O : Nat → Prop} {g : Goroutine} {z : Value} {W : World} {a : Option Addr} {n m : Nat} {a2 : Option Addr} {n2 m2 : Nat} (hL : ms.length < 2000000) (h : MRc csM ch ms O g z W) :
    Co Try.prog true V (AtR Try.prog ch (MRc csM ch) (ms ++ [.agg #[.slice a n m, .slice a2 n2 m2]])) O (Go.Conc.served g (.tuple #[.agg #[.slice a n m, .slice a2 n2 m2], .bool true])) W := by
  obtain ⟨rfl, ρ, wM, tmps', y0, y1, y2, y3, v, y5, y6, y7, y9, y10, y11, y12, y13, y14, y15, y16, xs, rfl, hA, hw, hO, hv, ht, hv0⟩ := h
  obtain ⟨o0, o1, hops, e0, e1, e2, e3, e4, e5⟩ := rcv_ops
  unfold mrcv
  rw [served_G, show ((dcRcv[0]?).bind (·.dst)) = some 9 by rw [hops]; exact e0]
  have hA1 := hA.set 9 (VR.tuple (c := cM) (ρ := ρ) (xs := #[.agg #[.func (.func Try.prog.funcs.size) #[.slice a n m] #[], .func (.func Try.prog.funcs.size) #[.slice a2 n2 m2] #[]], .bool true]) (xs' := #[.agg #[.slice a n m, .slice a2 n2 m2], .bool true]) rfl fun i u u' h1 h2 => by
    match i with
    | 0 => cases h1; cases h2; exact .agg rfl fun i u u' h1 h2 => by
            match i with
            | 0 => cases h1; cases h2; exact .tok trivial _ _ _
            | 1 => cases h1; cases h2; exact .tok trivial _ _ _
            | i + 2 => cases h1
    | 1 => cases h1; cases h2; exact .bool true
    | i + 2 => cases h1)
  let p : Pl := { main := true, Vis := V, Stop := AtR Try.prog ch (MRc csM ch) (ms ++ [.agg #[.slice a n m, .slice a2 n2 m2]]), ρ0 := ρ, w0 := wM, W0 := W, O0 := O, b := base 7, ds := [], cs := csM }
  have hT : Tri Try.prog cM p (.inRegion dcRcv [1] :: mK) ⟨#[y0, y1, y2, y3, v, y5, y6, y7, tokC ch, .tuple #[.agg #[.func (.func Try.prog.funcs.size) #[.slice a n m] #[], .func (.func Try.prog.funcs.size) #[.slice a2 n2 m2] #[]], .bool true], y10, y11, y12, y13, y14, y15, y16], []⟩ wM := by
    refine .op cM_ok rfl (o := o1) (by rw [hops]; rfl) (by unfold Region.wanted; rw [e5]) (by rw [e3]; trivial) fun τ => ?_
    rw [extract_run _ (td wM τ 0) o1 _ _ rfl e3]
    show Tri Try.prog cM p (.inRegion dcRcv [] :: mK) (Act.put _ o1.dst _) (td wM τ 0)
    rw [e1]
    refine .regionEnd (.seq (.cond (t := true) trivial rfl (.skip ?_)))
    refine .code cM_ok cM_fns rfl cM_msg fun τ2 => ?_
    refine dcMsg_wp y0 y1 y2 y3 y5 y6 y7 (tokC ch) (.bool true) y11 y12 y13 y14 y15 y16 (.slice a n m) (.slice a2 n2 m2) v Try.prog.funcs.size xs ms.length (td (td wM τ 0) τ2 0) hv (by omega) _ ?_
    intro x5 x11 x12 x13 x14 x15 v' w1 hv'
    refine .inLoop ?_
    rw [dcRound_eq]
    refine .seq (.region ?_)
    rw [show List.range dcRcv.size = [0, 1] by rw [hops]; rfl]
    intro ρ1 O1 tmps1' W1 hA2 _ hh
    refine .stop fun W2 hr => ?_
    obtain ⟨u, hu, hvu⟩ := hA2.get (i := 8) (v := tokC ch) rfl
    have hc : u = .chan (some ch) := by
      unfold tokC at hvu
      cases hvu with
      | tokc _ r => rfl
      | func hT _ _ _ _ => exact hT.elim
    subst hc
    exact ⟨mrcv csM tmps1', zD, rcvAt hu, rfl, ρ1, w1, tmps1', _, _, _, _, v', _, _, _, _, _, _, _, _, _, _, _, _, rfl, hA2, hh.wr.rely hh.vis hr, fun b b' x => hh.own b b' x (fun h => h), by rw [List.length_append]; exact hv', .snoc ht, fun e => by simp at e⟩
  exact hT ρ O _ W hA1 rfl ⟨hw, fun b b' x => .inr (hO b b' x), fun b b' x _ => hO b b' x, Since0.refl ..⟩

theorem MRc.rely {V : Nat → Prop} {csM : List Frame} {ch : Nat} {ms : List Value} {O : Nat → Prop} {g : Goroutine} {z : Value} {W W1 : World} (h : MRc csM ch ms O g z W) (hr : Rely V O W W1) : MRc csM ch ms O g z W1 := by
  obtain ⟨rfl, ρ, wM, tmps', y0, y1, y2, y3, v, y5, y6, y7, y9, y10, y11, y12, y13, y14, y15, y16, xs, rfl, hA, hw, hO, hv, ht, hv0⟩ := h
  exact ⟨rfl, ρ, wM, tmps', y0, y1, y2, y3, v, y5, y6, y7, y9, y10, y11, y12, y13, y14, y15, y16, xs, rfl, hA, hw.rely (fun b b' x => .inr (hO b b' x)) hr, hO, hv, ht, hv0⟩
end Go.Proofs.Ytngehfhcnfobbaa
