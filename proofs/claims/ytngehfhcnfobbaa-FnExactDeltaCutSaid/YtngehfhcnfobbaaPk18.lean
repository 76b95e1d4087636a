/- Lemmas for it, part 18. No condition. -/
import Derived.Test.YtngehfhcnfobbaaRows
import Derived.Test.YtngehfhcnfobbaaPk1
import Derived.Test.YtngehfhcnfobbaaPk6
import Derived.Test.YtngehfhcnfobbaaPk15
import Derived.Test.YtngehfhcnfobbaaPk17
namespace Go.Proofs.Ytngehfhcnfobbaa
open Go Go.Conc Go.RowKit

theorem main_fn : ∃ fn, Try.prog.funcs[7]? = some fn ∧ fn.results = #[.tmp 2] ∧ fn.body = some dcBody ∧ fn.ntmps = 17 :=
  ⟨Try.f7, by kernel_rfl, by kernel_rfl, by kernel_rfl, by kernel_rfl⟩

theorem und17 (x : Value) : #[x] ++ Array.replicate 16 undef = #[x, undef, undef, undef, undef, undef, undef, undef, undef, undef, undef, undef, undef, undef, undef, undef, undef] := by
  apply Array.ext'
  simp [List.replicate]

theorem stepG_enter' {main : Bool} {b : Frame} {a : Act} {k : List Item} {cs : List Frame} {W : World} {ops : Array Oper} {i : Nat} {rest : List Nat} {o : Oper} {f : FuncId} {args : Array Value} (ho : ops[i]? = some o) (hg : o.guard = none) (hk : b.kind ≠ .early) (h : (execOp a.eval o).run Try.prog W = .ok (.enter f args) W ∧ (execOp a.eval o).events Try.prog W #[] = #[]) :
    stepG Try.prog main (G (b.at a (.inRegion ops (i :: rest) :: k)) cs) W = .go (G (Frame.enter Try.prog f args .normal) (b.at a (.inRegion ops (i :: rest) :: k) :: cs)) W #[] := by
  rw [stepG_enter ho (wanted_free hg _) hk h.1]
  unfold listed
  rw [h.2, seen_none]

set_option maxHeartbeats 2000000 in
/-- IT IS ENTERED. -/
theorem main_call {Z VisL O : Nat → Prop} {ρ : Nat → Nat → Prop} {w W : World} {bL : Frame} {tmpsL tmpsL' : Array Value} {dsL : List Deferred} {csL : List Frame} {kL : List Item} {ops : Array Oper} {i : Nat} {rest : List Nat} {o : Oper} {t : Nat} {ats : Array TypeId} {s1 s2 : Value}
    (ho : ops[i]? = some o) (hg : o.guard = none) (hk : bL.kind ≠ .early) (hop : o.op = .call { callee := .value (.func 7), args := #[.tmp t], argTypes := ats }) (ht : tmpsL[t]? = some (.agg #[s1, s2]))
    (hA : AR (cL Z) ρ tmpsL tmpsL') (hw : WR (cL Z) ρ w W) (hvis : ∀ b b', ρ b b' → VisL b' ∨ O b') (hown : ∀ b b', ρ b b' → ¬ Z b → O b') :
    Co Try.prog true VisL (GoSt Z VisL ρ w W O s1 s2 (bL.at ⟨tmpsL', dsL⟩ (.inRegion ops (i :: rest) :: kL) :: csL)) O (G (bL.at ⟨tmpsL', dsL⟩ (.inRegion ops (i :: rest) :: kL)) csL) W := by
  obtain ⟨x', hx', hv⟩ := hA.get ht
  have he : (Act.mk tmpsL' dsL).eval (.tmp t) = x' := by
    show tmpsL'.getD t undef = _
    rw [Array.getD_eq_getD_getElem?, hx']; rfl
  obtain ⟨fn, f1, f2, f3, f4⟩ := main_fn
  refine Co.step rfl fun W1 hr => ⟨_, W1, _, _, stepG_enter' ho hg hk (call_run hop he), Guar.refl .., ?_⟩
  rw [enter_at #[x'] f1 f3, f4, show (17 - (#[x'] : Array Value).size) = 16 from rfl, und17]
  let p : Pl := { main := true, Vis := VisL, Stop := GoSt Z VisL ρ w W O s1 s2 (bL.at ⟨tmpsL', dsL⟩ (.inRegion ops (i :: rest) :: kL) :: csL), ρ0 := ρ, w0 := w, W0 := W, O0 := O, b := base 7, ds := [], cs := bL.at ⟨tmpsL', dsL⟩ (.inRegion ops (i :: rest) :: kL) :: csL }
  have hT : Tri Try.prog (cL Z) p [.code dcBody] ⟨#[.agg #[s1, s2], undef, undef, undef, undef, undef, undef, undef, undef, undef, undef, undef, undef, undef, undef, undef, undef], []⟩ w := by
    rw [dcBody_eq]
    refine .seq (.code (cL_ok Z) (cL_fns Z) rfl (cL_cd cd_Box) fun τ => ?_)
    refine box_wp _ undef undef undef undef undef undef undef undef undef undef undef undef undef undef undef undef s1 s2 rfl (td w τ 0) _ ?_
    obtain ⟨o0, o1, o2, hops, _⟩ := mk_ops
    refine .seq (.region ?_)
    rw [show List.range dcMk.size = [0, 1, 2] by rw [hops]; rfl]
    intro ρ1 O1 tmps1' W2 hA1 _ hh1
    exact main_make (p := p) ⟨rfl, rfl, rfl, rfl, rfl, rfl⟩ hA1 ((Here.tape τ 0).1 hh1)
  refine hT ρ O _ W1 ⟨rfl, fun j u u' h1 h2 => ?_⟩ rfl ⟨hw.rely hvis hr, hvis, hown, (Since0.refl VisL ρ w W O).rely hr⟩
  match j with
  | 0 => cases h1; cases h2; exact hv
  | j + 1 =>
    have hu : u = undef ∧ u' = undef := by
      have hj : j < 16 := by
        have := (Array.getElem?_eq_some_iff.1 h1).1
        simp at this
        omega
      rw [← und17] at h1 h2
      rw [Array.getElem?_append_right (by simp)] at h1 h2
      simp [hj] at h1 h2
      exact ⟨h1.symm, h2.symm⟩
    obtain ⟨rfl, rfl⟩ := hu
    exact .junk _ trivial

noncomputable def dcNilO : Array Oper := rgO' dcNil
theorem dcNil_eq : dcNil = .region 3 dcNilO false := by kernel_rfl
theorem nil_ops : ∃ o0, dcNilO = #[o0] ∧ o0.dst = some 4 ∧ o0.op = .assign (.const (.slice none 0 0)) ∧ o0.guard = none := ⟨_, rfl, rfl, rfl, rfl⟩

set_option maxHeartbeats 2000000 in
/-- BEHIND THE START OF THE CHILD. -/
theorem main_first {V : Nat → Prop} {csM : List Frame} {ch b3 : Nat} {tmps' ys : Array Value} {c : Cx} {ρ1 : Nat → Nat → Prop} {W : World} (hsz : tmps'.size = 17) (hA : AR c ρ1 ys tmps') (h3 : tmps'[3]? = some (.pointer (some ⟨b3, 0, none⟩))) (hb : W.heap[b3]? = some (.cells #[.chan (some ch)] 50 (0, 0))) (hV : V b3) :
    Co Try.prog true V (AtR Try.prog ch (MRc csM ch) []) (fun _ => False) (G ((base 7).at ⟨tmps', []⟩ (.inRegion dcGo [] :: [.code dcRest])) csM) W := by
  obtain ⟨n0, hn, n1, n2, n3⟩ := nil_ops
  obtain ⟨l0, hl, l1, l2, l3⟩ := ld_ops
  refine .ctl rfl (fun _ => stepG_region_end) ?_
  unfold dcRest
  rw [dcNil_eq]
  refine .ctl rfl (fun _ => stepG_seq) (.ctl rfl (fun _ => stepG_region) ?_)
  rw [show List.range dcNilO.size = [0] by rw [hn]; rfl]
  refine .ctl rfl (fun W1 => hstep_value (v := .slice none 0 0) (by rw [hn]; rfl) n3 (by decide) n1 ⟨by unfold execOp; simp only [n2]; rfl, by unfold execOp; simp only [n2]; rfl⟩) ?_
  refine .ctl rfl (fun _ => stepG_region_end) (.ctl rfl (fun _ => stepG_seq) (.ctl rfl (fun _ => stepG_seq) (.ctl rfl (fun _ => stepG_region) ?_)))
  rw [show List.range dcLd.size = [0] by rw [hl]; rfl]
  refine Co.step rfl fun W1 hr => ?_
  have hb1 : W1.heap[b3]? = some (.cells #[.chan (some ch)] 50 (0, 0)) := by rw [hr.keep _ (.inl hV)]; exact hb
  refine ⟨_, W1, _, _, hstep_read (v := .chan (some ch)) (by rw [hl]; rfl) l3 (by decide) l1 (ld_run l2 (b := b3) ?_ ?_) main_race (by simp), Guar.read (.inl hV), ?_⟩
  · show ((tmps'.setIfInBounds 4 _).getD 3 undef) = _
    rw [Array.getD_eq_getD_getElem?, Array.getElem?_setIfInBounds_ne (by decide), h3]; rfl
  · simp [World.cell?, hb1]
  refine .ctl rfl (fun _ => stepG_region_end) (.ctl rfl (fun _ => stepG_block) (.ctl rfl (fun _ => stepG_loop) ?_))
  obtain ⟨o0, o1, hops, _⟩ := rcv_ops
  have hgo : G ((base 7).at ⟨(tmps'.setIfInBounds 4 (.slice none 0 0)).setIfInBounds 8 (.chan (some ch)), []⟩ (.code dcRound :: .inLoop dcRound :: .inBlock 0 :: [.code dcTail])) csM = G ((base 7).at ⟨(tmps'.setIfInBounds 4 (.slice none 0 0)).setIfInBounds 8 (.chan (some ch)), []⟩ (.code (.seq (.region 5 dcRcv false) (.seq (.cond (.tmp 10) .skip (.exit 0)) dcMsg)) :: .inLoop dcRound :: .inBlock 0 :: [.code dcTail])) csM := by rw [← dcRound_eq]
  rw [hgo]
  refine .ctl rfl (fun _ => stepG_seq) (.ctl rfl (fun _ => stepG_region) ?_)
  rw [show List.range dcRcv.size = [0, 1] by rw [hops]; rfl]
  refine .stop fun W2 h2 => ?_
  have h8 : ((tmps'.setIfInBounds 4 (.slice none 0 0)).setIfInBounds 8 (.chan (some ch)))[8]? = some (.chan (some ch)) := Array.getElem?_setIfInBounds_self_of_lt (by simp [hsz])
  refine ⟨_, zD, rcvAt h8, rfl, ?_⟩
  obtain ⟨zs, hz⟩ := hA.blur (c2 := cM) (fun _ => trivial) (ρ2 := fun _ _ => False)
  obtain ⟨y0, y1, y2, y3, y4, y5, y6, y7, y8, y9, y10, y11, y12, y13, y14, y15, y16, rfl⟩ := arr17 (hz.1.trans hsz)
  exact ⟨fun _ _ => False, { W2 with heap := #[] }, _, y0, y1, y2, y3, .slice none 0 0, y5, y6, y7, y9, y10, y11, y12, y13, y14, y15, y16, [], rfl, (hz.set 4 (.nils 0 0)).set 8 (.tokc trivial (some ch)), ⟨fun _ _ _ h => h.elim, fun _ _ _ h => h.elim, fun _ _ h => h.elim, fun b h => absurd h (Nat.not_lt_zero b), fun _ h => h.elim⟩, fun _ _ h => h.elim, ⟨rfl, .inl ⟨rfl, rfl⟩⟩, .nil, fun _ => rfl⟩
end Go.Proofs.Ytngehfhcnfobbaa
namespace Go.Proofs.Ytngehfhcnfobbaa
open Go Go.Conc Go.RowKit

/-- A block more on both sides. -/
theorem WR.add {c : Cx} {ρ : Nat → Nat → Prop} {w W : World} (h : WR c ρ w W) {o o' : Obj} {g : Nat} (hn : ∀ b, ¬ ρ b g) (hg : W.heap[g]? = some o') (hz : ∀ b, c.Fz b → b < w.heap.size) (ho : OR c (fun b b' => ρ b b' ∨ (b = w.heap.size ∧ b' = g)) o o') : WR c (fun b b' => ρ b b' ∨ (b = w.heap.size ∧ b' = g)) (w.alloc o) W := by
  refine ⟨fun a b d h1 h2 => ?_, fun a b d h1 h2 => ?_, fun b b' x => ?_, fun b hb => .inl (h.glob b hb), fun b hb => ?_⟩
  · rcases h1 with h1 | ⟨rfl, rfl⟩
    · rcases h2 with h2 | ⟨rfl, rfl⟩
      · exact h.fn _ _ _ h1 h2
      · exact absurd (h.lt h1).1 (Nat.lt_irrefl _)
    · rcases h2 with h2 | ⟨_, rfl⟩
      · exact absurd (h.lt h2).1 (Nat.lt_irrefl _)
      · rfl
  · rcases h1 with h1 | ⟨rfl, rfl⟩
    · rcases h2 with h2 | ⟨rfl, rfl⟩
      · exact h.inj _ _ _ h1 h2
      · exact absurd h1 (hn _)
    · rcases h2 with h2 | ⟨rfl, _⟩
      · exact absurd h2 (hn _)
      · rfl
  · rcases x with x | ⟨rfl, rfl⟩
    · obtain ⟨p, p', h1, h2, h3⟩ := h.obj b b' x
      exact ⟨p, p', by rw [heap_alloc_lt o (h.lt x).1]; exact h1, h2, h3.mono fun _ _ y => .inl y⟩
    · exact ⟨o, o', heap_alloc_new o, hg, ho⟩
  · obtain ⟨p, h1, h2⟩ := h.fz b hb
    exact ⟨p, by rw [heap_alloc_lt o (hz b hb)]; exact h1, h2⟩

theorem msgs_len {c : Cx} {ρ : Nat → Nat → Prop} {xs ms : List Value} (h : Msgs c ρ xs ms) : xs.length = ms.length * 2 := by
  induction h with
  | nil => rfl
  | snoc _ _ _ ih => simp only [List.length_append, List.length_cons, List.length_nil, ih]; omega
theorem toks_len {ms xs : List Value} (h : Toks ms xs) : xs.length = ms.length * 2 := by
  induction h with
  | nil => rfl
  | snoc _ ih => simp only [List.length_append, List.length_cons, List.length_nil, ih]; omega

/-- Token by token. -/
theorem msgs_toks {c : Cx} {ρ : Nat → Nat → Prop} {xs ms : List Value} (h : Msgs c ρ xs ms) : ∀ {ts : List Value}, Toks ms ts → ∀ (j : Nat) (x t : Value), xs[j]? = some x → ts[j]? = some t → ∃ s, t = .func (.func Try.prog.funcs.size) #[s] #[] ∧ VR c ρ x s := by
  induction h with
  | nil => intro ts _ j x t hx _; simp at hx
  | @snoc xs ms v1 v2 v1' v2' h h1 h2 ih =>
    intro ts hts j x t hx ht
    obtain ⟨ts0, rfl, hts0⟩ : ∃ ts0, ts = ts0 ++ [.func (.func Try.prog.funcs.size) #[v1'] #[], .func (.func Try.prog.funcs.size) #[v2'] #[]] ∧ Toks ms ts0 := by
      generalize e : ms ++ [Value.agg #[v1', v2']] = ms2 at hts
      cases hts with
      | nil => simp at e
      | @snoc ms' xs' s1 s2 h' =>
        obtain ⟨rfl, e2⟩ := List.append_inj' e rfl
        simp only [List.cons.injEq, Value.agg.injEq, Array.mk.injEq, and_true] at e2
        obtain ⟨rfl, rfl⟩ := e2
        exact ⟨xs', rfl, h'⟩
    have e1 := msgs_len h
    have e2 := toks_len hts0
    rw [List.getElem?_append] at hx ht
    by_cases hj : j < xs.length
    · rw [if_pos hj] at hx
      rw [if_pos (by omega)] at ht
      exact ih hts0 j x t hx ht
    · rw [if_neg hj] at hx
      rw [if_neg (by omega), e2, ← e1] at ht
      generalize j - xs.length = i at hx ht
      match i with
      | 0 => cases hx; cases ht; exact ⟨_, rfl, h1⟩
      | 1 => cases hx; cases ht; exact ⟨_, rfl, h2⟩
      | i + 2 => cases hx

theorem vr_tok {ρ : Nat → Nat → Prop} {s u : Value} (h : VR cM ρ (.func (.func Try.prog.funcs.size) #[s] #[]) u) : u = s := by
  cases h with
  | tok _ a n m => rfl
  | tokc _ r => rfl
  | func hT _ _ _ _ => exact hT.elim

theorem cK_cL {S Z : Nat → Prop} {ρ : Nat → Nat → Prop} {v v' : Value} (h : VR (cK S) ρ v v') : VR (cL Z) ρ v v' := VR.cx (c := cK S) (c' := cL Z) (fun _ => trivial) (fun _ h => h) (fun _ h => h) (fun h => False.elim h) h
theorem cK_cLA {S Z : Nat → Prop} {ρ : Nat → Nat → Prop} {v v' : Array Value} (h : AR (cK S) ρ v v') : AR (cL Z) ρ v v' := AR.cx (c := cK S) (c' := cL Z) (fun _ => trivial) (fun _ h => h) (fun _ h => h) (fun h => False.elim h) h

/-- THE CHILD's WORLD, not frozen any more. -/
theorem kid_world {Z : Nat → Prop} {K : KC} {wu : World} {ms : List Value} {Oc : Nat → Prop} {W : World} (hu : WR (cL Z) K.ρb wu K.Wb) (hwb : K.wb = frz wu) (hH : K.H0 = (frz wu).heap) (hX : K.X = wu.heap.size) (hV : ∀ b b', K.ρb b b' → K.V b') (hOb : K.Ob = fun _ => False) (hS : K.S = fun b => ∃ b', K.ρb b b') (h : KDone K ms Oc W) :
    ∃ (ρ : Nat → Nat → Prop) (w : World) (xs : List Value) (fps : List (List Nat)), WR (cL Z) ρ w W ∧ Ext wu w ∧ (∀ b b', K.ρb b b' → ρ b b') ∧ (∀ b b', ρ b b' → K.ρb b b' ∨ Oc b') ∧ Msgs (cK K.S) ρ xs ms ∧ RowOw w xs (dcut K.d) fps ∧ fps.flatten.Nodup ∧ (∀ b ∈ fps.flatten, wu.heap.size ≤ b) := by
  obtain ⟨ρ, wc, xs, fps, wl, hw, hvis, hown, hsi, hm, hr, hn, hlo, hwl, x, rfl⟩ := h
  have hsz : wl.heap.size = wu.heap.size := by rw [hwl, hH]; exact frz_size wu
  have hwbs : K.wb.heap.size = wu.heap.size := by rw [hwb]; exact frz_size wu
  have hhi : ∀ b, wu.heap.size ≤ b → (ext wu ⟨x.objs, 0⟩).heap[b]? = (ext wl x).heap[b]? := fun b hb => by
    show (wu.heap ++ x.objs)[b]? = (wl.heap ++ x.objs)[b]?
    rw [Array.getElem?_append_right hb, Array.getElem?_append_right (by omega), hsz]
  refine ⟨ρ, ext wu ⟨x.objs, 0⟩, xs, fps, ⟨hw.fn, hw.inj, fun b b' y => ?_, fun b hb => absurd hb (Nat.not_lt_zero b), fun b hb => (by
    obtain ⟨o, q1, q2⟩ := hu.fz b hb
    exact ⟨o, by rw [ext_heap _ _ _ (Array.getElem?_eq_some_iff.1 q1).1]; exact q1, q2⟩)⟩, ⟨_, rfl⟩, hsi.sub, fun b b' y => ?_, hm, hr.frame fun b hb => hhi b (by have := hlo b hb; omega), hn, fun b hb => by have := hlo b hb; omega⟩
  · rcases hsi.new b b' y with z | ⟨z, _⟩
    · obtain ⟨o, o', h1, h2, h3⟩ := hu.obj b b' z
      refine ⟨o, o', by rw [ext_heap _ _ _ (hu.lt z).1]; exact h1, ?_, h3.mono hsi.sub⟩
      rw [hsi.keep b' (hu.lt z).2 (hV _ _ z) (by rw [hOb]; exact fun h => h)]
      exact h2
    · rw [hwbs] at z
      obtain ⟨o, o', h1, h2, h3⟩ := hw.obj b b' y
      refine ⟨o, o', by rw [hhi b z]; exact h1, h2, ?_⟩
      cases h3 with
      | cells e hA hf => exact .cells e (cK_cLA hA) hf
      | number hA l => exact .number hA l
  · rcases hsi.new b b' y with z | ⟨z, _⟩
    · exact .inl z
    · refine .inr (hown b b' y fun hz => ?_)
      have hz' : K.S b := hz
      rw [hS] at hz'
      obtain ⟨b'', hz'⟩ := hz'
      have := (hu.lt hz').1
      omega

/-- WITH THE ROW THAT GOROUTINE 0 HAS MADE. -/
theorem both_world {Z : Nat → Prop} {K : KC} {wu : World} {ms : List Value} {Om Oc : Nat → Prop} {W : World} (hu : WR (cL Z) K.ρb wu K.Wb) (hwb : K.wb = frz wu) (hH : K.H0 = (frz wu).heap) (hX : K.X = wu.heap.size) (hV : ∀ b b', K.ρb b b' → K.V b') (hOb : K.Ob = fun _ => False) (hS : K.S = fun b => ∃ b', K.ρb b b') (h : KDone K ms Oc W)
    (hdis : ∀ b, Om b → ¬ Oc b) (hv1 : ∀ b, K.V b → ¬ Om b) {ρM : Nat → Nat → Prop} {wM : World} {v v' : Value} {ts : List Value} (hwM : WR cM ρM wM W) (hOM : ∀ b b', ρM b b' → Om b') (hown : wM.ownsRow 0 32 2 v ms.length ts) (ht : Toks ms ts) (hv0 : ms.length = 0 → v = .slice none 0 0) (hvv : VR cM ρM v v') :
    ∃ (ρ2 : Nat → Nat → Prop) (w2 : World) (v2 : Value) (fps : List (List Nat)), WR (cL Z) ρ2 w2 W ∧ Ext wu w2 ∧ (∀ b b', K.ρb b b' → ρ2 b b') ∧ (∀ b b', ρ2 b b' → K.ρb b b' ∨ Oc b' ∨ Om b') ∧ VR (cL Z) ρ2 v2 v' ∧ AccO wu.heap.size 32 w2 v2 (dcut K.d) fps ∧ ∀ b ∈ fps.flatten, wu.heap.size ≤ b := by
  obtain ⟨ρ, w, xs, fps, hw, hE, hsub, hnew, hm, hr, hn, hlo⟩ := kid_world hu hwb hH hX hV hOb hS h
  have hxl := msgs_len hm
  have htl := toks_len ht
  have hLl : (dcut K.d).length = ms.length := by
    have h1 : xs.length = (dcut K.d).length * 2 := hr.1
    omega
  rcases hown.2 with ⟨rfl, h0⟩ | ⟨g, cap, cur, rfl, _, hg, hnc, hcm, hcs, htk⟩
  · have hL : dcut K.d = [] := List.eq_nil_of_length_eq_zero (by omega)
    have hv' : v' = .slice none 0 0 := by
      cases hvv
      rfl
    subst hv'
    rw [hL]
    exact ⟨ρ, w, .slice none 0 0, [], hw, hE, hsub, fun b b' x => (hnew b b' x).imp id .inl, .nils 0 0, AccO.nil, by simp⟩
  · obtain ⟨g', hgg, rfl⟩ : ∃ g', ρM g g' ∧ v' = .slice (some ⟨g', 0, none⟩) ms.length cap := by
      generalize hn : ms.length = nn at hvv hv0
      cases hvv with
      | slice o s n m h => exact ⟨_, h, rfl⟩
      | void a => cases hv0 rfl
    obtain ⟨o, o', h1, h2, h3⟩ := hwM.obj g g' hgg
    rw [hg] at h1
    cases h1
    cases h3 with
    | @cells _ cur' e lo hi lo' hi' hA hf =>
      have hng : ∀ b, ¬ ρ b g' := fun b x => by
        rcases hnew b g' x with y | y
        · exact hv1 _ (hV _ _ y) (hOM _ _ hgg)
        · exact hdis _ (hOM _ _ hgg) y
      obtain ⟨zs, hz⟩ := hA.blur (c2 := cL Z) (fun _ => trivial) (ρ2 := fun b b' => ρ b b' ∨ (b = w.heap.size ∧ b' = g'))
      have hzs : zs.size = cap * 2 := by rw [hz.1, ← hA.1, hcs]
      have hle : xs.length ≤ cap * 2 := by omega
      have hrow : AR (cL Z) (fun b b' => ρ b b' ∨ (b = w.heap.size ∧ b' = g')) (xs ++ zs.toList.drop xs.length).toArray cur' := by
        refine ⟨?_, fun j u u' e1 e2 => ?_⟩
        · have := hz.1
          simp
          omega
        · rw [List.getElem?_toArray, List.getElem?_append] at e1
          by_cases hj : j < xs.length
          · rw [if_pos hj] at e1
            have hj2 : j < cur.toList.length := by simp; omega
            have hc1 : cur[j]? = ts[j]? := by
              rw [← htk, List.getElem?_take_of_lt (by omega)]
              simp
            obtain ⟨t, hts⟩ : ∃ t, ts[j]? = some t := ⟨_, List.getElem?_eq_getElem (by omega)⟩
            obtain ⟨s, rfl, hs⟩ := msgs_toks hm ht j u t e1 hts
            have hu2 := vr_tok (hA.2 j _ _ (hc1.trans hts) e2)
            subst hu2
            exact (cK_cL hs).mono fun _ _ y => .inl y
          · rw [if_neg hj, List.getElem?_drop, show xs.length + (j - xs.length) = j by omega] at e1
            exact hz.2 j u u' (by simpa using e1) e2
      have hw2 := hw.add (o := .cells (xs ++ zs.toList.drop xs.length).toArray 32 (0, 0)) hng h2 (fun b hb => hw.fz_lt hb) (.cells _ hrow fun o y z => by
        have := hf o y z
        omega)
      refine ⟨_, _, .slice (some ⟨w.heap.size, 0, none⟩) ms.length cap, fps, hw2, hE.alloc _, fun b b' x => .inl (hsub b b' x), fun b b' x => ?_, .slice 0 none _ _ (.inr ⟨rfl, rfl⟩), ⟨xs, ?_, hr.frame fun b hb => heap_alloc_lt _ (hr.lt b hb), hn, fun b hb e => ?_⟩, hlo⟩
      · rcases x with x | ⟨_, rfl⟩
        · exact (hnew b b' x).imp id .inl
        · exact .inr (.inr (hOM _ _ hgg))
      · rw [hLl]
        refine ownsRow_of (cur := xs ++ zs.toList.drop xs.length) hE.size (heap_alloc_new _) ?_ hnc hcm hxl ?_
        · show (xs ++ zs.toList.drop xs.length).length = cap * 2
          simp [hzs]; omega
        · show (xs ++ zs.toList.drop xs.length).take (ms.length * 2) = xs
          rw [← hxl, List.take_left]
      · have h5 := hr.lt b hb
        simp [Value.ownBlock] at e
        omega
end Go.Proofs.Ytngehfhcnfobbaa
namespace Go.Proofs.Ytngehfhcnfobbaa
open Go Go.Conc Go.RowKit

noncomputable def dcRet : Array Oper := rgO' (sq1 dcTail)
theorem dcTail_eq : dcTail = .seq (.region 8 dcRet false) .ret := by kernel_rfl
theorem ret_ops : ∃ o0 o1, dcRet = #[o0, o1] ∧ o0.dst = some 16 ∧ o1.dst = some 2 ∧ o0.op = .move (.tmp 4) ∧ o1.op = .assign (.tmp 16) ∧ o0.guard = none ∧ o1.guard = none := ⟨_, _, rfl, rfl, rfl, rfl, rfl, rfl, rfl⟩
theorem extract_ev (a : Act) (W : World) (o : Oper) (x y : Value) (h0 : a.eval (.tmp 9) = .tuple #[x, y]) (ho : o.op = .extract (.tmp 9) 1) : (execOp a.eval o).events Try.prog W #[] = #[] := by
  unfold execOp
  simp only [ho, h0]
  rfl

set_option maxHeartbeats 2000000 in
/-- ITS END. -/
theorem main_tail {VisL O : Nat → Prop} {tmps' : Array Value} {v' : Value} {c1 : Frame} {cs1 : List Frame} {W : World} (hsz : tmps'.size = 17) (h4 : tmps'[4]? = some v') :
    Co Try.prog true VisL (fun O3 g W3 => O3 = O ∧ g = G (c1.finish v') cs1 ∧ Rely VisL O W W3) O (G ((base 7).at ⟨tmps'.setIfInBounds 9 (.tuple #[zD, .bool false]), []⟩ (.inRegion dcRcv [1] :: mK)) (c1 :: cs1)) W := by
  obtain ⟨o0, o1, hops, e0, e1, e2, e3, e4, e5⟩ := rcv_ops
  obtain ⟨r0, r1, hret, d0, d1, q0, q1, g0, g1⟩ := ret_ops
  obtain ⟨fn, f1, f2, f3, f4⟩ := main_fn
  have h9 : (Act.mk (tmps'.setIfInBounds 9 (.tuple #[zD, .bool false])) []).eval (.tmp 9) = .tuple #[zD, .bool false] := by
    show (tmps'.setIfInBounds 9 _).getD 9 undef = _
    rw [Array.getD_eq_getD_getElem?, Array.getElem?_setIfInBounds_self_of_lt (by simp [hsz])]; rfl
  refine .ctl rfl (fun W1 => hstep_value (v := .bool false) (by rw [hops]; rfl) e5 (by decide) e1 ⟨extract_run _ W1 o1 _ _ h9 e3, extract_ev _ W1 o1 _ _ h9 e3⟩) ?_
  refine .ctl rfl (fun _ => stepG_region_end) ?_
  unfold mK
  refine .ctl rfl (fun _ => stepG_seq) (.ctl rfl (fun _ => stepG_cond (t := false) ?_) (.ctl rfl (fun _ => stepG_exit rfl) ?_))
  · show ((tmps'.setIfInBounds 9 _).setIfInBounds 10 _).getD 10 undef = _
    rw [Array.getD_eq_getD_getElem?, Array.getElem?_setIfInBounds_self_of_lt (by simp [hsz])]; rfl
  rw [dcTail_eq]
  refine .ctl rfl (fun _ => stepG_seq) (.ctl rfl (fun _ => stepG_region) ?_)
  rw [show List.range dcRet.size = [0, 1] by rw [hret]; rfl]
  have ev4 : (Act.mk ((tmps'.setIfInBounds 9 (.tuple #[zD, .bool false])).setIfInBounds 10 (.bool false)) []).eval (.tmp 4) = v' := by
    show ((tmps'.setIfInBounds 9 _).setIfInBounds 10 _).getD 4 undef = _
    rw [Array.getD_eq_getD_getElem?, Array.getElem?_setIfInBounds_ne (by decide), Array.getElem?_setIfInBounds_ne (by decide), h4]; rfl
  refine .ctl rfl (fun W1 => hstep_value (v := v') (by rw [hret]; rfl) g0 (by decide) d0 ⟨by unfold execOp; simp only [q0, ev4]; rfl, by unfold execOp; simp only [q0]; rfl⟩) ?_
  have ev16 : (Act.mk (((tmps'.setIfInBounds 9 (.tuple #[zD, .bool false])).setIfInBounds 10 (.bool false)).setIfInBounds 16 v') []).eval (.tmp 16) = v' := by
    show (((tmps'.setIfInBounds 9 _).setIfInBounds 10 _).setIfInBounds 16 _).getD 16 undef = _
    rw [Array.getD_eq_getD_getElem?, Array.getElem?_setIfInBounds_self_of_lt (by simp [hsz])]; rfl
  refine .ctl rfl (fun W1 => hstep_value (v := v') (by rw [hret]; rfl) g1 (by decide) d1 ⟨by unfold execOp; simp only [q1, ev16]; rfl, by unfold execOp; simp only [q1]; rfl⟩) ?_
  refine .ctl rfl (fun _ => stepG_region_end) (.ctl rfl (fun _ => stepG_ret') ?_)
  have e : ((((tmps'.setIfInBounds 9 (.tuple #[zD, .bool false])).setIfInBounds 10 (.bool false)).setIfInBounds 16 v').setIfInBounds 2 v').getD 2 undef = v' := by
    rw [Array.getD_eq_getD_getElem?, Array.getElem?_setIfInBounds_self_of_lt (by simp [hsz])]; rfl
  refine .ctl rfl (fun W1 => stepG_leave (b := base 7) (fn := fn) (v := v') rfl rfl f1 (by rw [results_tmp f2, e]) (events_results_tmp f2 _ _)) ?_
  exact .stop fun W3 hr => ⟨rfl, rfl, hr⟩

set_option maxHeartbeats 2000000 in
/-- THE CONTRACT: the call, beside leavers. -/
theorem dc_call {Post : Value → World → Prop} {Z VisL O : Nat → Prop} {ρ : Nat → Nat → Prop} {w W : World} {bL : Frame} {tmpsL tmpsL' : Array Value} {dsL : List Deferred} {csL : List Frame} {kL : List Item} {ops : Array Oper} {i : Nat} {rest : List Nat} {o : Oper} {t : Nat} {ats : Array TypeId} {a1 : Option Addr} {n1 c1 : Nat} {a2 : Option Addr} {n2 c2 : Nat} {d : Dl}
    (ho : ops[i]? = some o) (hg : o.guard = none) (hk : bL.kind ≠ .early) (hop : o.op = .call { callee := .value (.func 7), args := #[.tmp t], argTypes := ats }) (ht : tmpsL[t]? = some (.agg #[.slice a1 n1 c1, .slice a2 n2 c2]))
    (hA : AR (cL Z) ρ tmpsL tmpsL') (hw : WR (cL Z) ρ w W) (hvis : ∀ b b', ρ b b' → VisL b' ∨ O b') (hown : ∀ b b', ρ b b' → ¬ Z b → O b') (hVO : ∀ b, VisL b → ¬ O b) (hVl : ∀ b, VisL b → b < W.heap.size) (h1 : SlRd w a1 n1 c1 d.drop) (h2 : SlRd w a2 n2 c2 d.tell) (hz : Sz.sz d ≤ 1048576)
    (next : ∀ (ρ2 : Nat → Nat → Prop) (O2 : Nat → Prop) (w2 W3 : World) (v2 v' : Value) (fps : List (List Nat)), Ext w w2 → AccO w.heap.size 32 w2 v2 (dcut d) fps → (∀ b ∈ fps.flatten, w.heap.size ≤ b) → (∀ b b', ρ b b' → ρ2 b b') → VR (cL Z) ρ2 v2 v' → WR (cL Z) ρ2 w2 W3 → (∀ b b', ρ2 b b' → VisL b' ∨ O2 b') → (∀ b b', ρ2 b b' → ¬ Z b → O2 b') → (∀ b, VisL b → ¬ O2 b) → (∀ b, VisL b → b < W3.heap.size ∧ W3.heap[b]? = W.heap[b]?) → (W3.tape = W.tape ∧ W3.os = W.os ∧ W3.output = W.output) →
      Free Try.prog Post VisL O2 (G (bL.at ((Act.mk tmpsL' dsL).put o.dst v') (.inRegion ops rest :: kL)) csL) W3) :
    Free Try.prog Post VisL O (G (bL.at ⟨tmpsL', dsL⟩ (.inRegion ops (i :: rest) :: kL)) csL) W := by
  refine wins_of_co (main_call ho hg hk hop ht hA hw hvis hown) fun O1 g W1 hst => ?_
  obtain ⟨tmps', ρ1, ch, b1', b3, ys, rfl, hsz, hA1, h7, h3, hw1, hb1, hOch, hOb3, hn1, hn3, hne, hch, hbx, hvis1, hown1, hchlo, hsi⟩ := (hst W1 (Rely.refl ..)).ex
  obtain ⟨u0, u1, hops2, e0, e1, r0, r1, g0, g1⟩ := go_ops
  have he7 : (Act.mk tmps' []).eval (.tmp 7) = .func (.func 19) #[] #[.pointer (some ⟨b3, 0, none⟩), .pointer (some ⟨b1', 0, none⟩)] := by
    show tmps'.getD 7 undef = _
    rw [Array.getD_eq_getD_getElem?, h7]; rfl
  refine free_fork (ch := ch) (VisL := VisL) (a' := G ((base 7).at ⟨tmps', []⟩ (.inRegion dcGo [] :: [.code dcRest])) (bL.at ⟨tmpsL', dsL⟩ (.inRegion ops (i :: rest) :: kL) :: csL)) (child := born Try.prog { target := .fn (.func 19) #[.pointer (some ⟨b3, 0, none⟩), .pointer (some ⟨b1', 0, none⟩)], args := #[] }) rfl (fun W2 _ => ?_) fun W2 hr => ⟨?_⟩
  · rw [stepG_spawn (by rw [hops2]; rfl) (wanted_free g1 _) (by decide) (go_run r1 he7).1 rfl]
    unfold listed
    rw [(go_run r1 he7).2, seen_none, e1]
    rfl
  have hw2 := hw1.rely hvis1 hr
  have hch2 : W2.heap[ch]? = some (.chan 3 #[] false 0 0 false) := by rw [hr.keep _ (.inr hOch)]; exact hch
  have hbx2 : W2.heap[b3]? = some (.cells #[.chan (some ch)] 50 (0, 0)) := by rw [hr.keep _ (.inr hOb3)]; exact hbx
  have hwu := hw2.add (o := .cells #[undef] 50 (0, 0)) hn3 hbx2 (fun b hb => hw2.fz_lt hb) (.cells _ ⟨rfl, fun j u u' x y => by
    match j with
    | 0 => cases x; cases y; exact .junk _ trivial
    | j + 1 => cases x⟩ fun o x y => ⟨Nat.zero_le _, by omega⟩)
  have hExt : Ext w ((w.alloc (.cells #[.slice a1 n1 c1, .slice a2 n2 c2] 32)).alloc (.cells #[undef] 50 (0, 0))) := ((Ext.refl w).alloc _).alloc _
  have hS1 : ((w.alloc (.cells #[.slice a1 n1 c1, .slice a2 n2 c2] 32)).alloc (.cells #[undef] 50 (0, 0))).heap[w.heap.size]? = some (.cells #[.slice a1 n1 c1, .slice a2 n2 c2] 32) := by
    rw [heap_alloc_lt _ (by simp)]
    exact heap_alloc_new _
  let ρb : Nat → Nat → Prop := fun b b' => ρ1 b b' ∨ (b = (w.alloc (.cells #[.slice a1 n1 c1, .slice a2 n2 c2] 32)).heap.size ∧ b' = b3)
  let wu : World := (w.alloc (.cells #[.slice a1 n1 c1, .slice a2 n2 c2] 32)).alloc (.cells #[undef] 50 (0, 0))
  let K : KC := { V := fun b => (VisL b ∨ O1 b) ∧ b ≠ ch, ch := ch, bm := (w.alloc (.cells #[.slice a1 n1 c1, .slice a2 n2 c2] 32)).heap.size, bm' := b3, S := fun b => ∃ b', ρb b b', ρb := ρb, wb := frz wu, Wb := W2, Ob := fun _ => False, d := d, B := w.heap.size, X := wu.heap.size, H0 := (frz wu).heap, ats := #[50], ty := dcTy, cb := cbOf (.tmp 4) }
  have hρO : ∀ b b', ρb b b' → ¬ Z b → O1 b' := fun b b' x hz => by
    rcases x with x | ⟨_, rfl⟩
    · exact hown1 _ _ x hz
    · exact hOb3
  have hρW : ∀ b b', ρb b b' → VisL b' ∨ O1 b' := fun b b' x => by
    rcases x with x | ⟨_, rfl⟩
    · exact hvis1 _ _ x
    · exact .inr hOb3
  have hρV : ∀ b b', ρb b b' → K.V b' := fun b b' x => ⟨hρW b b' x, fun e => by
    rcases x with x | ⟨_, rfl⟩
    · exact hn1 b (e ▸ x)
    · exact hne e.symm⟩
  have hKB : KB K b1' a1 n1 c1 a2 n2 c2 := by
    refine ⟨WR.frz (c := cL Z) (c' := cK K.S) (ρ := ρb) (Nat.le_refl _) (fun _ => trivial) (fun _ h => h) (fun _ h => h) (fun h => False.elim h) (fun b h => h) hwu, hρV, .inr ⟨rfl, rfl⟩, .inl hb1, ?_, rfl, (frz_size wu).symm, rfl, rfl, rfl, rfl, rfl, (h1.stays hExt.below).stc (Cle.frz wu), (h2.stays hExt.below).stc (Cle.frz wu), ?_, ?_, hz⟩
    · show W2.cell? ⟨b3, 0, none⟩ = _
      simp [World.cell?, hbx2]
      rfl
    · exact ⟨_, by rw [show K.wb = frz wu from rfl, show K.B = w.heap.size from rfl, frz_heap, show wu.heap[w.heap.size]? = _ from hS1]; rfl⟩
    · exact ⟨_, by rw [show K.wb = frz wu from rfl, frz_heap, show wu.heap[K.bm]? = _ from heap_alloc_new _]; rfl⟩
  have hN := dcN_le hz
  refine ⟨K.V, 3, dcN d + 1, 2000000, DOk, KDone K, MRc (bL.at ⟨tmpsL', dsL⟩ (.inRegion ops (i :: rest) :: kL) :: csL) ch, ⟨fun ms O g z W W1 h hr => h.rely hr, ?_, ?_⟩, by decide, by omega, kid_ch hKB (Nat.le_refl _), main_first hsz hA1 h3 hbx2 ⟨.inr hOb3, Ne.symm hne⟩, ⟨0, 0, false, hch2⟩, fun h => h.2 rfl, fun b h => h.1⟩
  · rintro ms O g z W m hL h ⟨_, _, _, _, _, _, rfl⟩
    exact main_recv hL h
  · intro ms Om Oc g z W3 hMR hKD hdis hv1 hv2 hlt hlow
    obtain ⟨rfl, ρM, wM, tmps2', y0, y1, y2, y3, v, y5, y6, y7, y9, y10, y11, y12, y13, y14, y15, y16, xs, rfl, hA2, hwM, hOM, hv, htk, hv0⟩ := hMR
    obtain ⟨v', hv4, hvv⟩ := hA2.get (i := 4) (v := v) rfl
    obtain ⟨ρ2, w2, v2, fps, hw3, hE, hsub, hnew, hvv2, hacc, hlo⟩ := both_world (K := K) (wu := wu) hwu rfl rfl rfl hρV rfl rfl hKD hdis hv1 hwM hOM hv htk hv0 hvv
    refine ⟨fun b => O1 b ∨ Oc b ∨ Om b, fun b hb => ?_, ?_⟩
    · have hc : ∀ b, VisL b ∨ O1 b → b < W3.heap.size := fun b hb => by
        by_cases e : b = ch
        · rw [e]; exact hlt
        · exact hlow b (.inl ⟨hb, e⟩)
      rcases hb with hb | hb | hb | hb
      · exact hc b (.inl hb)
      · exact hc b (.inr hb)
      · exact hlow b (.inr (.inr hb))
      · exact hlow b (.inr (.inl hb))
    obtain ⟨o0, o1, hops, d0, _⟩ := rcv_ops
    unfold mrcv
    rw [served_G, show ((dcRcv[0]?).bind (·.dst)) = some 9 by rw [hops]; exact d0]
    have hown2 : ∀ b b', ρ2 b b' → ¬ Z b → (fun b => O1 b ∨ Oc b ∨ Om b) b' := fun b b' x hz => by
      rcases hnew b b' x with y | y
      · exact .inl (hρO b b' y hz)
      · exact .inr y
    have hvis2 : ∀ b b', ρ2 b b' → VisL b' ∨ (fun b => O1 b ∨ Oc b ∨ Om b) b' := fun b b' x => by
      rcases hnew b b' x with y | y
      · exact (hρW b b' y).imp id .inl
      · exact .inr (.inr y)
    have hVch : ∀ b, VisL b → K.V b := fun b hb => ⟨.inl hb, fun e => by have := hVl b hb; omega⟩
    have hVO2 : ∀ b, VisL b → ¬ (fun b => O1 b ∨ Oc b ∨ Om b) b := fun b hb ho => by
      rcases ho with ho | ho | ho
      · rcases hsi.ownNew b ho with h | h
        · exact hVO b hb h
        · have := hVl b hb; omega
      · exact hv2 b (hVch b hb) ho
      · exact hv1 b (hVch b hb) ho
    have hrest : W3.tape = W.tape ∧ W3.os = W.os ∧ W3.output = W.output := by
      obtain ⟨_, _, _, _, _, _, _, _, hs2, _⟩ := hKD
      exact ⟨hs2.tape.trans (hr.tape.trans hsi.tape), hs2.os.trans (hr.os.trans hsi.os), hs2.output.trans (hr.output.trans hsi.output)⟩
    have hkeep : ∀ b, VisL b → W3.heap[b]? = W.heap[b]? := fun b hb => by
      obtain ⟨_, _, _, _, _, _, _, _, hs2, _⟩ := hKD
      have k1 := hsi.keep b (hVl b hb) hb (hVO b hb)
      have k2 := hr.keep b (.inl hb)
      have k3 := hs2.keep b (Nat.lt_of_lt_of_le (hVl b hb) (Nat.le_trans hsi.csz hr.size)) (hVch b hb) (fun h => h)
      exact k3.trans (k2.trans k1)
    refine wins_of_co (main_tail (O := fun b => O1 b ∨ Oc b ∨ Om b) (v' := v') hA2.1.symm hv4) fun O3 g3 W4 hst => ?_
    obtain ⟨rfl, rfl, hr4⟩ := hst W4 (Rely.refl ..)
    rw [Frame.finish_at, ho]
    have hEw : Ext w w2 := hExt.trans hE
    exact next ρ2 _ w2 W4 v2 v' fps hEw (hacc.base hExt.size) (fun b hb => Nat.le_trans hExt.size (hlo b hb)) (fun b b' x => hsub _ _ (.inl (hsi.sub b b' x))) hvv2 (hw3.rely hvis2 hr4) hvis2 hown2 hVO2 (fun b hb => ⟨Nat.lt_of_lt_of_le (hlow b (.inl (hVch b hb))) hr4.size, (hr4.keep b (.inl hb)).trans (hkeep b hb)⟩) ⟨hr4.tape.trans hrest.1, hr4.os.trans hrest.2.1, hr4.output.trans hrest.2.2⟩
end Go.Proofs.Ytngehfhcnfobbaa
namespace Go.Proofs.Ytngehfhcnfobbaa
open Go Go.RowKit


theorem opens_laws_int : Opens Try.prog 3 Int := opens_int Try.underlying3 (by kernel_rfl)

theorem opens_laws_bool : Opens Try.prog 4 Bool := opens_bool Try.underlying4 (by kernel_rfl)

set_option maxRecDepth 8000 in
theorem opens_laws_Rg : Opens Try.prog 56 Rg := by
  refine ⟨by kernel_rfl, fun {H enc w base fuel cs x} h => ?_⟩
  obtain ⟨xs, n, rfl, _, hl, hx, hf⟩ := DataW.trod_struct Try.underlying56 h
  have hl' : cs.length = 2 := hl.trans (by kernel_rfl)
  match cs, hl' with
  | [c0, c1], _ =>
  have k0 : Try.prog.cellsOf 3 = 1 := by kernel_rfl
  have f0 := hf 0 _ rfl
  rw [List.getElem?_eq_getElem (by rw [hx]; decide)] at f0
  simp only [List.getElem_toArray, List.getElem_cons_zero] at f0
  simp only [k0, List.drop_zero, List.take_succ_cons, List.take_zero] at f0
  obtain ⟨_, d0, r0⟩ := opens_laws_int.2 f0
  obtain ⟨e0, w0⟩ := r0
  simp only [List.cons.injEq, and_true] at e0
  subst e0
  have k1 : Try.prog.cellsOf 3 = 1 := by kernel_rfl
  have f1 := hf 1 _ rfl
  rw [List.getElem?_eq_getElem (by rw [hx]; decide)] at f1
  simp only [List.getElem_toArray, List.getElem_cons_zero, List.getElem_cons_succ] at f1
  simp only [k1, List.drop_succ_cons, List.drop_zero, List.take_succ_cons, List.take_zero] at f1
  obtain ⟨_, d1, r1⟩ := opens_laws_int.2 f1
  obtain ⟨e1, w1⟩ := r1
  simp only [List.cons.injEq, and_true] at e1
  subst e1
  exact ⟨rfl, ⟨d0, d1⟩, rfl, w0, w1⟩



theorem opens_laws_Lint : Opens Try.prog 44 (List Int) := opens_slice Try.underlying44 (by kernel_rfl) (by decide) opens_laws_int





set_option maxRecDepth 8000 in
theorem opens_laws_Rt : Opens Try.prog 58 Rt := by
  refine ⟨by kernel_rfl, fun {H enc w base fuel cs x} h => ?_⟩
  obtain ⟨xs, n, rfl, _, hl, hx, hf⟩ := DataW.trod_struct Try.underlying58 h
  have hl' : cs.length = 5 := hl.trans (by kernel_rfl)
  match cs, hl' with
  | [c0, c1, c2, c3, c4], _ =>
  have k0 : Try.prog.cellsOf 56 = 2 := by kernel_rfl
  have f0 := hf 0 _ rfl
  rw [List.getElem?_eq_getElem (by rw [hx]; decide)] at f0
  simp only [List.getElem_toArray, List.getElem_cons_zero] at f0
  simp only [k0, List.drop_zero, List.take_succ_cons, List.take_zero] at f0
  obtain ⟨_, d0, r0⟩ := opens_laws_Rg.2 f0
  obtain ⟨e0, w0_0, w0_1⟩ := r0
  simp only [List.cons.injEq, and_true] at e0
  obtain ⟨rfl, rfl⟩ := e0
  have k1 : Try.prog.cellsOf 44 = 1 := by kernel_rfl
  have f1 := hf 1 _ rfl
  rw [List.getElem?_eq_getElem (by rw [hx]; decide)] at f1
  simp only [List.getElem_toArray, List.getElem_cons_zero, List.getElem_cons_succ] at f1
  simp only [k1, List.drop_succ_cons, List.drop_zero, List.take_succ_cons, List.take_zero] at f1
  obtain ⟨_, d1, r1⟩ := opens_laws_Lint.2 f1
  obtain ⟨a1, n1, k1', e1, s1⟩ := r1
  simp only [List.cons.injEq, and_true] at e1
  subst e1
  have k2 : Try.prog.cellsOf 3 = 1 := by kernel_rfl
  have f2 := hf 2 _ rfl
  rw [List.getElem?_eq_getElem (by rw [hx]; decide)] at f2
  simp only [List.getElem_toArray, List.getElem_cons_zero, List.getElem_cons_succ] at f2
  simp only [k2, List.drop_succ_cons, List.drop_zero, List.take_succ_cons, List.take_zero] at f2
  obtain ⟨_, d2, r2⟩ := opens_laws_int.2 f2
  obtain ⟨e2, w2⟩ := r2
  simp only [List.cons.injEq, and_true] at e2
  subst e2
  have k3 : Try.prog.cellsOf 44 = 1 := by kernel_rfl
  have f3 := hf 3 _ rfl
  rw [List.getElem?_eq_getElem (by rw [hx]; decide)] at f3
  simp only [List.getElem_toArray, List.getElem_cons_zero, List.getElem_cons_succ] at f3
  simp only [k3, List.drop_succ_cons, List.drop_zero, List.take_succ_cons, List.take_zero] at f3
  obtain ⟨_, d3, r3⟩ := opens_laws_Lint.2 f3
  obtain ⟨a3, n3, k3', e3, s3⟩ := r3
  simp only [List.cons.injEq, and_true] at e3
  subst e3
  exact ⟨rfl, ⟨d0, d1, d2, d3⟩, a1, n1, k1', a3, n3, k3', rfl, w0_0, w0_1, s1, w2, s3⟩













theorem opens_laws_LRg : Opens Try.prog 22 (List Rg) := opens_slice Try.underlying22 (by kernel_rfl) (by decide) opens_laws_Rg

theorem opens_laws_LRt : Opens Try.prog 23 (List Rt) := opens_slice Try.underlying23 (by kernel_rfl) (by decide) opens_laws_Rt

set_option maxRecDepth 8000 in
theorem opens_laws_Dl : Opens Try.prog 25 Dl := by
  refine ⟨by kernel_rfl, fun {H enc w base fuel cs x} h => ?_⟩
  obtain ⟨xs, n, rfl, _, hl, hx, hf⟩ := DataW.trod_struct Try.underlying25 h
  have hl' : cs.length = 2 := hl.trans (by kernel_rfl)
  match cs, hl' with
  | [c0, c1], _ =>
  have k0 : Try.prog.cellsOf 22 = 1 := by kernel_rfl
  have f0 := hf 0 _ rfl
  rw [List.getElem?_eq_getElem (by rw [hx]; decide)] at f0
  simp only [List.getElem_toArray, List.getElem_cons_zero] at f0
  simp only [k0, List.drop_zero, List.take_succ_cons, List.take_zero] at f0
  obtain ⟨_, d0, r0⟩ := opens_laws_LRg.2 f0
  obtain ⟨a0, n0, k0', e0, s0⟩ := r0
  simp only [List.cons.injEq, and_true] at e0
  subst e0
  have k1 : Try.prog.cellsOf 23 = 1 := by kernel_rfl
  have f1 := hf 1 _ rfl
  rw [List.getElem?_eq_getElem (by rw [hx]; decide)] at f1
  simp only [List.getElem_toArray, List.getElem_cons_zero, List.getElem_cons_succ] at f1
  simp only [k1, List.drop_succ_cons, List.drop_zero, List.take_succ_cons, List.take_zero] at f1
  obtain ⟨_, d1, r1⟩ := opens_laws_LRt.2 f1
  obtain ⟨a1, n1, k1', e1, s1⟩ := r1
  simp only [List.cons.injEq, and_true] at e1
  subst e1
  exact ⟨rfl, ⟨d0, d1⟩, a0, n0, k0', a1, n1, k1', rfl, s0, s1⟩













end Go.Proofs.Ytngehfhcnfobbaa
namespace Go.Proofs.Ytngehfhcnfobbaa
open Go Go.Conc Go.RowKit

/-- One piece behind the other. -/
def wpC (P : Program) : List Code → (Act → World → Prop) → Act → World → Prop
  | [], K => K
  | c :: cs, K => fun a w => c.wp P (fun e a1 w1 => e = .normal ∧ wpC P cs K a1 w1) a w
theorem Tri2.chain {P : Program} {c : Cx} {p : Pl} (hC : COk P c) (hF : FnsOk P c) (hk : (p.b.kind == .early) = false) {T : Code} {k : List Item} {K : Act → World → Prop} (hK : Tri2 P c p (.code T :: k) K) : ∀ cs : List Code, (∀ x ∈ cs, CdOk P c x) → Tri2 P c p (.code (cs.foldr .seq T) :: k) (wpC P cs K)
  | [], _ => hK
  | x :: cs, h => Tri2.spine hC hF hk (h x List.mem_cons_self) (Tri2.chain hC hF hk hK cs fun y hy => h y (List.mem_cons_of_mem _ hy))

noncomputable def lw : Code := bodyOf Try.f3
noncomputable def lwR0 : Code := sq1 lw
noncomputable def lwR1 : Code := sq1 (sq2 lw)
noncomputable def lwR2 : Code := sq1 (sq2 (sq2 lw))
noncomputable def lwX3 : Code := sq1 (sq2 (sq2 (sq2 lw)))
noncomputable def lwR5 : Code := sq1 (sq2 (sq2 (sq2 (sq2 lw))))
noncomputable def lwR6 : Code := sq1 (sq2 (sq2 (sq2 (sq2 (sq2 lw)))))
noncomputable def lwR7 : Array Oper := rgO' (sq1 (sq2 (sq2 (sq2 (sq2 (sq2 (sq2 lw)))))))
noncomputable def lwT1 : Code := sq2 (sq2 (sq2 (sq2 (sq2 (sq2 (sq2 lw))))))
theorem lw_eq : lw = [lwR0, lwR1, lwR2, lwX3, lwR5, lwR6].foldr .seq (.seq (.region 7 lwR7 false) lwT1) := by kernel_rfl

theorem dcut_rd {N : Nat} {w : World} {a : Option Addr} {n c : Nat} {L : List Dl} (h : SpA N w (.slice a n c) L) : SlRd w a n c L := by
  obtain ⟨fps, h1, _⟩ := h
  exact h1.sl

/-- The law's slots behind the first results. -/
def LS (a1 : Option Addr) (n1 c1 : Nat) (a2 : Option Addr) (n2 c2 : Nat) (X B : Nat) (aw : Option Addr) (nw cw : Nat) (a : Act) : Prop := ∃ y3 y6 y7 y8 y9 y10 y11 y12 y13 y14 y15 y16 y17 y18 y19 y20 y21 y22 y23 y24 y25 y26 y27 y28 y29 y30 y31 y32 y33 y34 y35 y36 y37 y38 y39 y40 y41 y42 y43 y44 y45 y46 y47 y48 y49 y50 y51 y52 y53 y54 y55 y56 y57 y58 y59 y60 y61 y62 y63 y64 y65 y66 y67 y68 : Value, a = ⟨#[.agg #[.slice a1 n1 c1, .slice a2 n2 c2], .pointer (some ⟨X, 0, none⟩), .bool false, y3, .slice aw nw cw, .pointer (some ⟨B, 0, none⟩), y6, y7, y8, y9, y10, y11, y12, y13, y14, y15, y16, y17, y18, y19, y20, y21, y22, y23, y24, y25, y26, y27, y28, y29, y30, y31, y32, y33, y34, y35, y36, y37, y38, y39, y40, y41, y42, y43, y44, y45, y46, y47, y48, y49, y50, y51, y52, y53, y54, y55, y56, y57, y58, y59, y60, y61, y62, y63, y64, y65, y66, y67, y68], []⟩
/-- The law's memory behind the first results: the argument's box, the reference's result, the copy that the call gets, its box. -/
structure LW (d : Dl) (w : World) (a1 : Option Addr) (n1 c1 : Nat) (a2 : Option Addr) (n2 c2 : Nat) (X B V1 : Nat) (aw : Option Addr) (nw cw : Nat) (e1 : Option Addr) (f1 g1 : Nat) (e2 : Option Addr) (f2 g2 : Nat) (w' : World) : Prop where
  ext : Ext w w'
  bA : Blk w' X 25 [.slice a1 n1 c1, .slice a2 n2 c2]
  hX : X = w.heap.size
  XV : X < V1
  wr : Rd2 V1 w' [.slice aw nw cw] (dcut d)
  bX : Blk w' B 32 [.slice e1 f1 g1, .slice e2 f2 g2]
  VB : V1 ≤ B
theorem LW.later {d : Dl} {w : World} {a1 : Option Addr} {n1 c1 : Nat} {a2 : Option Addr} {n2 c2 : Nat} {X B V1 : Nat} {aw : Option Addr} {nw cw : Nat} {e1 : Option Addr} {f1 g1 : Nat} {e2 : Option Addr} {f2 g2 : Nat} {w' w2 : World} (h : LW d w a1 n1 c1 a2 n2 c2 X B V1 aw nw cw e1 f1 g1 e2 f2 g2 w') (k : Ext w' w2) : LW d w a1 n1 c1 a2 n2 c2 X B V1 aw nw cw e1 f1 g1 e2 f2 g2 w2 :=
  ⟨h.ext.trans k, h.bA.extends k, h.hX, h.XV, h.wr.later k, h.bX.extends k, h.VB⟩

set_option maxRecDepth 40000 in
set_option maxHeartbeats 8000000 in
/-- To the first call of the implementation. -/
theorem law_A (d : Dl) (a1 : Option Addr) (n1 c1 : Nat) (a2 : Option Addr) (n2 c2 : Nat) (w : World) (h1 : SlRd w a1 n1 c1 d.drop) (h2 : SlRd w a2 n2 c2 d.tell) (z0 : Sz.sz d ≤ 1048576) (Q : Act → World → Prop)
    (hcont : ∀ a' w' B V1 H1 aw nw cw e1 f1 g1 e2 f2 g2, LS a1 n1 c1 a2 n2 c2 w.heap.size B aw nw cw a' → LW d w a1 n1 c1 a2 n2 c2 w.heap.size B V1 aw nw cw e1 f1 g1 e2 f2 g2 w' → Own2 V1 w' [.slice e1 f1 g1, .slice e2 f2 g2] d H1 → H1 ≤ B → Q a' w') :
    wpC Try.prog [lwR0, lwR1, lwR2, lwX3, lwR5, lwR6] Q ⟨#[.agg #[.slice a1 n1 c1, .slice a2 n2 c2], undef, undef, undef, undef, undef, undef, undef, undef, undef, undef, undef, undef, undef, undef, undef, undef, undef, undef, undef, undef, undef, undef, undef, undef, undef, undef, undef, undef, undef, undef, undef, undef, undef, undef, undef, undef, undef, undef, undef, undef, undef, undef, undef, undef, undef, undef, undef, undef, undef, undef, undef, undef, undef, undef, undef, undef, undef, undef, undef, undef, undef, undef, undef, undef, undef, undef, undef, undef], []⟩ w := by
  have HC := hidden hcont
  have H1 := hidden h1
  have H2 := hidden h2
  have HZ := hidden z0
  have e0 := szR_le (n := Sz.sz d) (left := 1048576) (by omega)
  have hlt : decide ((1048576 : Int) - ((Sz.sz d : Nat) : Int) < 0) = false := by simp; omega
  have tk0 := True.intro
  have tk1 := True.intro
  clear h1 h2 hcont
  show (Code.region _ _ _).wp _ _ _ _
  go_wp2_with fail
  show (Code.region _ _ _).wp _ _ _ _
  go_wp2_with fail
  show (Code.region _ _ _).wp _ _ _ _
  go_wp2_with (first | (first | ((go_at_call 4; (with_reducible refine (sz_Dl d a1 n1 c1 a2 n2 c2 _ _ (H1.out.stays ((by repeat (first | with_reducible exact Ext.refl _ | with_reducible apply Ext.and | with_reducible apply Ext.drewx | with_reducible apply Ext.alloc | with_reducible apply Ext.ext | with_reducible apply Ext.drew | with_reducible refine Ext.setCell ?_ (by simp) _)) : Ext _ _).below) (H2.out.stays ((by repeat (first | with_reducible exact Ext.refl _ | with_reducible apply Ext.and | with_reducible apply Ext.drewx | with_reducible apply Ext.alloc | with_reducible apply Ext.ext | with_reducible apply Ext.drew | with_reducible refine Ext.setCell ?_ (by simp) _)) : Ext _ _).below) (by omega) (by omega)).mono ?_); rintro _ _ ⟨rfl, x, rfl⟩))) | ((with_reducible refine wp_region_seqT (by kernel_rfl) (by kernel_rfl) ?_); (repeat' (first | ((with_reducible refine wpSeq_pure (by with_unfolding_all rfl) (fun Kq hKq => ?_)); (repeat' (go_big_quiet_step (fail))); (all_goals (refine wpQuiet_nil ?_; refine hKq _ ?_; clear hKq Kq))) | ((with_reducible refine wpSeq_act (by with_unfolding_all rfl) (fun Q' hQ' => ?_)); (go_wp2_with (first | ((go_at_call 4; (with_reducible refine (sz_Dl d a1 n1 c1 a2 n2 c2 _ _ (H1.out.stays ((by repeat (first | with_reducible exact Ext.refl _ | with_reducible apply Ext.and | with_reducible apply Ext.drewx | with_reducible apply Ext.alloc | with_reducible apply Ext.ext | with_reducible apply Ext.drew | with_reducible refine Ext.setCell ?_ (by simp) _)) : Ext _ _).below) (H2.out.stays ((by repeat (first | with_reducible exact Ext.refl _ | with_reducible apply Ext.and | with_reducible apply Ext.drewx | with_reducible apply Ext.alloc | with_reducible apply Ext.ext | with_reducible apply Ext.drew | with_reducible refine Ext.setCell ?_ (by simp) _)) : Ext _ _).below) (by omega) (by omega)).mono ?_); rintro _ _ ⟨rfl, x, rfl⟩)))); (all_goals (refine hQ' _ _ rfl trivial ?_; clear hQ' Q'))))); (all_goals ((with_reducible refine wpSeq_nil ?_)))))
  show (Code.seq (Code.region _ _ _) (Code.cond _ _ _)).wp _ _ _ _
  go_wp2_with fail
  show (Code.region _ _ _).wp _ _ _ _
  go_wp2_with (first | (first | ((go_at_call 6; (with_reducible refine (to_Dl d a1 n1 c1 a2 n2 c2 _ z0 (H1.out.stays ((by repeat (first | with_reducible exact Ext.refl _ | with_reducible apply Ext.and | with_reducible apply Ext.drewx | with_reducible apply Ext.alloc | with_reducible apply Ext.ext | with_reducible apply Ext.drew | with_reducible refine Ext.setCell ?_ (by simp) _)) : Ext _ _).below) (H2.out.stays ((by repeat (first | with_reducible exact Ext.refl _ | with_reducible apply Ext.and | with_reducible apply Ext.drewx | with_reducible apply Ext.alloc | with_reducible apply Ext.ext | with_reducible apply Ext.drew | with_reducible refine Ext.setCell ?_ (by simp) _)) : Ext _ _).below)).mono ?_); rintro _ _ ⟨b1, m1, k1, b2, m2, k2, rfl, x0, rfl, F0⟩; (try rw [ext_ext] at F0))) | ((go_at_call 5; (with_reducible refine (sDeltaCut_any d _ _ _ _ _ _ _ ((parts_Dl F0.out.rd).1.stays ((by repeat (first | with_reducible exact Ext.refl _ | with_reducible apply Ext.and | with_reducible apply Ext.drewx | with_reducible apply Ext.alloc | with_reducible apply Ext.ext | with_reducible apply Ext.drew | with_reducible refine Ext.setCell ?_ (by simp) _)) : Ext _ _).below) ((parts_Dl F0.out.rd).2.stays ((by repeat (first | with_reducible exact Ext.refl _ | with_reducible apply Ext.and | with_reducible apply Ext.drewx | with_reducible apply Ext.alloc | with_reducible apply Ext.ext | with_reducible apply Ext.drew | with_reducible refine Ext.setCell ?_ (by simp) _)) : Ext _ _).below) z0).mono ?_); rintro _ _ ⟨aw, nw, cw, rfl, WF, xw, rfl⟩; (try rw [ext_ext] at WF); have WR := hidden (dcut_rd WF); clear WF F0))) | ((with_reducible refine wp_region_seqT (by kernel_rfl) (by kernel_rfl) ?_); (repeat' (first | ((with_reducible refine wpSeq_pure (by with_unfolding_all rfl) (fun Kq hKq => ?_)); (repeat' (go_big_quiet_step (fail))); (all_goals (refine wpQuiet_nil ?_; refine hKq _ ?_; clear hKq Kq))) | ((with_reducible refine wpSeq_act (by with_unfolding_all rfl) (fun Q' hQ' => ?_)); (go_wp2_with (first | ((go_at_call 6; (with_reducible refine (to_Dl d a1 n1 c1 a2 n2 c2 _ z0 (H1.out.stays ((by repeat (first | with_reducible exact Ext.refl _ | with_reducible apply Ext.and | with_reducible apply Ext.drewx | with_reducible apply Ext.alloc | with_reducible apply Ext.ext | with_reducible apply Ext.drew | with_reducible refine Ext.setCell ?_ (by simp) _)) : Ext _ _).below) (H2.out.stays ((by repeat (first | with_reducible exact Ext.refl _ | with_reducible apply Ext.and | with_reducible apply Ext.drewx | with_reducible apply Ext.alloc | with_reducible apply Ext.ext | with_reducible apply Ext.drew | with_reducible refine Ext.setCell ?_ (by simp) _)) : Ext _ _).below)).mono ?_); rintro _ _ ⟨b1, m1, k1, b2, m2, k2, rfl, x0, rfl, F0⟩; (try rw [ext_ext] at F0))) | ((go_at_call 5; (with_reducible refine (sDeltaCut_any d _ _ _ _ _ _ _ ((parts_Dl F0.out.rd).1.stays ((by repeat (first | with_reducible exact Ext.refl _ | with_reducible apply Ext.and | with_reducible apply Ext.drewx | with_reducible apply Ext.alloc | with_reducible apply Ext.ext | with_reducible apply Ext.drew | with_reducible refine Ext.setCell ?_ (by simp) _)) : Ext _ _).below) ((parts_Dl F0.out.rd).2.stays ((by repeat (first | with_reducible exact Ext.refl _ | with_reducible apply Ext.and | with_reducible apply Ext.drewx | with_reducible apply Ext.alloc | with_reducible apply Ext.ext | with_reducible apply Ext.drew | with_reducible refine Ext.setCell ?_ (by simp) _)) : Ext _ _).below) z0).mono ?_); rintro _ _ ⟨aw, nw, cw, rfl, WF, xw, rfl⟩; (try rw [ext_ext] at WF); have WR := hidden (dcut_rd WF); clear WF F0)))); (all_goals (refine hQ' _ _ rfl trivial ?_; clear hQ' Q'))))); (all_goals ((with_reducible refine wpSeq_nil ?_)))))
  show (Code.region _ _ _).wp _ _ _ _
  go_wp2_with (first | (first | ((go_at_call 6; (with_reducible refine (to_Dl d a1 n1 c1 a2 n2 c2 _ z0 (H1.out.stays ((by repeat (first | with_reducible exact Ext.refl _ | with_reducible apply Ext.and | with_reducible apply Ext.drewx | with_reducible apply Ext.alloc | with_reducible apply Ext.ext | with_reducible apply Ext.drew | with_reducible refine Ext.setCell ?_ (by simp) _)) : Ext _ _).below) (H2.out.stays ((by repeat (first | with_reducible exact Ext.refl _ | with_reducible apply Ext.and | with_reducible apply Ext.drewx | with_reducible apply Ext.alloc | with_reducible apply Ext.ext | with_reducible apply Ext.drew | with_reducible refine Ext.setCell ?_ (by simp) _)) : Ext _ _).below)).mono ?_); rintro _ _ ⟨e1, f1, g1, e2, f2, g2, rfl, x1, rfl, F1⟩; (try rw [ext_ext] at F1)))) | ((with_reducible refine wp_region_seqT (by kernel_rfl) (by kernel_rfl) ?_); (repeat' (first | ((with_reducible refine wpSeq_pure (by with_unfolding_all rfl) (fun Kq hKq => ?_)); (repeat' (go_big_quiet_step (fail))); (all_goals (refine wpQuiet_nil ?_; refine hKq _ ?_; clear hKq Kq))) | ((with_reducible refine wpSeq_act (by with_unfolding_all rfl) (fun Q' hQ' => ?_)); (go_wp2_with (first | ((go_at_call 6; (with_reducible refine (to_Dl d a1 n1 c1 a2 n2 c2 _ z0 (H1.out.stays ((by repeat (first | with_reducible exact Ext.refl _ | with_reducible apply Ext.and | with_reducible apply Ext.drewx | with_reducible apply Ext.alloc | with_reducible apply Ext.ext | with_reducible apply Ext.drew | with_reducible refine Ext.setCell ?_ (by simp) _)) : Ext _ _).below) (H2.out.stays ((by repeat (first | with_reducible exact Ext.refl _ | with_reducible apply Ext.and | with_reducible apply Ext.drewx | with_reducible apply Ext.alloc | with_reducible apply Ext.ext | with_reducible apply Ext.drew | with_reducible refine Ext.setCell ?_ (by simp) _)) : Ext _ _).below)).mono ?_); rintro _ _ ⟨e1, f1, g1, e2, f2, g2, rfl, x1, rfl, F1⟩; (try rw [ext_ext] at F1))))); (all_goals (refine hQ' _ _ rfl trivial ?_; clear hQ' Q'))))); (all_goals ((with_reducible refine wpSeq_nil ?_)))))
  refine HC.out _ _ (w.heap.size + 1 + (((x.and x0).and xw).and x1).objs.size) (w.heap.size + 1 + ((x.and x0).and xw).objs.size) (w.heap.size + 1 + (((x.and x0).and xw).and x1).objs.size) aw nw cw e1 f1 g1 e2 f2 g2 ⟨_, _, _, _, _, _, _, _, _, _, _, _, _, _, _, _, _, _, _, _, _, _, _, _, _, _, _, _, _, _, _, _, _, _, _, _, _, _, _, _, _, _, _, _, _, _, _, _, _, _, _, _, _, _, _, _, _, _, _, _, _, _, _, _, rfl⟩ ⟨(by repeat (first | with_reducible exact Ext.refl _ | with_reducible apply Ext.and | with_reducible apply Ext.drewx | with_reducible apply Ext.alloc | with_reducible apply Ext.ext | with_reducible apply Ext.drew | with_reducible refine Ext.setCell ?_ (by simp) _)), (Blk.new w _ _).extends ((by repeat (first | with_reducible exact Ext.refl _ | with_reducible apply Ext.and | with_reducible apply Ext.drewx | with_reducible apply Ext.alloc | with_reducible apply Ext.ext | with_reducible apply Ext.drew | with_reducible refine Ext.setCell ?_ (by simp) _)) : Ext (w.alloc (.cells #[.slice a1 n1 c1, .slice a2 n2 c2] 25)) _), rfl, by omega, ?_, Blk.newAt _ _ _ (by simp), ?_⟩ ?_ (Nat.le_refl _)
  · exact ⟨ext (w.alloc (.cells #[.slice a1 n1 c1, .slice a2 n2 c2] 25)) ((x.and x0).and xw), ⟨_, _, _, rfl, WR.out⟩, by simp, ((by repeat (first | with_reducible exact Ext.refl _ | with_reducible apply Ext.and | with_reducible apply Ext.drewx | with_reducible apply Ext.alloc | with_reducible apply Ext.ext | with_reducible apply Ext.drew | with_reducible refine Ext.setCell ?_ (by simp) _)) : Ext _ _).below⟩
  · simp [Nx.and]
  · have h := Own2.of F1
    simp only [ext_size, World.size_alloc] at h
    exact h.later (by repeat (first | with_reducible exact Ext.refl _ | with_reducible apply Ext.and | with_reducible apply Ext.drewx | with_reducible apply Ext.alloc | with_reducible apply Ext.ext | with_reducible apply Ext.drew | with_reducible refine Ext.setCell ?_ (by simp) _))
end Go.Proofs.Ytngehfhcnfobbaa
