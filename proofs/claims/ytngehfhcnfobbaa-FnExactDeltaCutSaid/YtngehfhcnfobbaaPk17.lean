/- Lemmas for it, part 17. No condition. -/
import Derived.Conc.SmallLaws
import Derived.Test.YtngehfhcnfobbaaPk14
import Derived.Test.YtngehfhcnfobbaaPk16
namespace Go.Proofs.Ytngehfhcnfobbaa
open Go Go.Conc Go.RowKit

/-- What has been sent: the company's values beside the lone ones. -/
inductive Msgs (c : Cx) (ρ : Nat → Nat → Prop) : List Value → List Value → Prop
  | nil : Msgs c ρ [] []
  | snoc {xs ms : List Value} {v1 v2 v1' v2' : Value} (h : Msgs c ρ xs ms) (h1 : VR c ρ v1 v1') (h2 : VR c ρ v2 v2') : Msgs c ρ (xs ++ [v1, v2]) (ms ++ [.agg #[v1', v2']])
theorem Msgs.mono {c : Cx} {ρ ρ' : Nat → Nat → Prop} (hs : ∀ b b', ρ b b' → ρ' b b') {xs ms : List Value} (h : Msgs c ρ xs ms) : Msgs c ρ' xs ms := by
  induction h with
  | nil => exact .nil
  | snoc _ h1 h2 ih => exact .snoc ih (h1.mono hs) (h2.mono hs)

/-- A message: a pair of slices. -/
def DOk (v : Value) : Prop := ∃ a n m a' n' m', v = .agg #[.slice a n m, .slice a' n' m']
theorem vr_slice {c : Cx} {ρ : Nat → Nat → Prop} {a : Option Addr} {n m : Nat} {v : Value} (h : VR c ρ (.slice a n m) v) : ∃ a' n' m', v = .slice a' n' m' := by
  cases h with
  | nils n m => exact ⟨_, _, _, rfl⟩
  | slice o s n m h => exact ⟨_, _, _, rfl⟩
  | void a => exact ⟨_, _, _, rfl⟩
theorem vr_msg {c : Cx} {ρ : Nat → Nat → Prop} {a : Option Addr} {n m : Nat} {a2 : Option Addr} {n2 m2 : Nat} {v : Value} (h : VR c ρ (.agg #[.slice a n m, .slice a2 n2 m2]) v) :
    ∃ v1 v2, v = .agg #[v1, v2] ∧ VR c ρ (.slice a n m) v1 ∧ VR c ρ (.slice a2 n2 m2) v2 := by
  cases h with
  | @agg _ xs' hx h1 =>
    obtain ⟨xs'⟩ := xs'
    match xs', hx, h1 with
    | [v1, v2], _, h1 => exact ⟨v1, v2, rfl, h1 0 _ _ rfl rfl, h1 1 _ _ rfl rfl⟩

/-- Where and for what the child was born. -/
structure KC where
  V : Nat → Prop
  ch : Nat
  bm : Nat
  bm' : Nat
  S : Nat → Prop
  ρb : Nat → Nat → Prop
  wb : World
  Wb : World
  Ob : Nat → Prop
  d : Dl
  B : Nat
  X : Nat
  H0 : Array Obj
  ats : Array TypeId
  ty : TypeId
  cb : Array Bool

section
variable (K : KC)

/-- What it leaves. -/
def KDone (ms : List Value) (O : Nat → Prop) (W : World) : Prop :=
  ∃ (ρ : Nat → Nat → Prop) (w : World) (xs : List Value) (fps : List (List Nat)) (wl : World), WR (cK K.S) ρ w W ∧ (∀ b b', ρ b b' → K.V b' ∨ O b') ∧ (∀ b b', ρ b b' → ¬ (cK K.S).Fz b → O b') ∧ Since0 K.V K.ρb K.wb K.Wb K.Ob ρ w W O ∧
    Msgs (cK K.S) ρ xs ms ∧ RowOw w xs (dcut K.d) fps ∧ fps.flatten.Nodup ∧ (∀ b ∈ fps.flatten, K.X + 1 ≤ b) ∧ wl.heap = K.H0 ∧ Ext wl w
/-- Where it stops. -/
def KStop (n : Nat) (ms : List Value) (O : Nat → Prop) (b : Goroutine) (W : World) : Prop :=
  Shuts Try.prog K.V K.ch (KDone K) ms O b W ∨ ∃ g v z, SendAt Try.prog K.ch b g v z ∧ DOk v ∧ ∀ W2, Rely K.V O W W2 → Ch Try.prog K.V K.ch DOk (KDone K) n (ms ++ [v]) O (Go.Conc.served g undef) W2
noncomputable def kpl (n : Nat) (ms : List Value) (ρ0 : Nat → Nat → Prop) (w0 W0 : World) (O0 : Nat → Prop) : Pl :=
  { main := false, Vis := K.V, Stop := KStop K n ms, ρ0, w0, W0, O0, b := baseD 19, ds := [shutD K.ats K.ty K.cb K.ch], cs := [bornF Try.prog] }
structure KP (xs ms : List Value) (ρ0 : Nat → Nat → Prop) (w0 W0 : World) (O0 : Nat → Prop) : Prop where
  vis : K.V K.bm'
  box : ρ0 K.bm K.bm'
  nO : ¬ O0 K.bm'
  chan : W0.cell? ⟨K.bm', 0, none⟩ = some (.chan (some K.ch))
  msgs : Msgs (cK K.S) ρ0 xs ms
  since : Since0 K.V K.ρb K.wb K.Wb K.Ob ρ0 w0 W0 O0
end

theorem dcKidRound_eq : dcKidRound = .seq dcR3 (.seq (.cond (.tmp 8) .skip (.exit 0)) (.seq (.block 1 dcKidBlk) dcR11)) := by kernel_rfl
theorem dcKidBlk_eq : dcKidBlk = .seq dcR4 (.seq dcX5 (.seq dcR8 (.cond (.tmp 42) (.seq (.region 9 dcSnd false) dcR10) .skip))) := by kernel_rfl
theorem dcEndC_eq : dcEndC = .seq dcR12 (.cond (.tmp 49) (.region 13 dcSnd2 false) .skip) := by kernel_rfl
theorem dcKid_eq : dcKid = .seq (.region 0 dcDef false) (.seq dcR1 (.seq (.seq dcR2 (.block 0 (.loop dcKidRound))) dcEndC)) := by kernel_rfl
theorem cd_R1 : cdB Try.prog 0 cKT (fun _ => false) false dcR1 = true := by kernel_rfl
theorem cd_R2 : cdB Try.prog 0 cKT (fun _ => false) false dcR2 = true := by kernel_rfl
theorem cd_R3 : cdB Try.prog 0 cKT (fun _ => false) false dcR3 = true := by kernel_rfl
theorem cd_R4 : cdB Try.prog 0 cKT (fun _ => false) false dcR4 = true := by kernel_rfl
theorem cd_X5 : cdB Try.prog 0 cKT (fun _ => false) false dcX5 = true := by kernel_rfl
theorem cd_R8 : cdB Try.prog 0 cKT (fun _ => false) false dcR8 = true := by kernel_rfl
theorem cd_R10 : cdB Try.prog 0 cKT (fun _ => false) false dcR10 = true := by kernel_rfl
theorem cd_R11 : cdB Try.prog 0 cKT (fun _ => false) false dcR11 = true := by kernel_rfl
theorem cd_R12 : cdB Try.prog 0 cKT (fun _ => false) false dcR12 = true := by kernel_rfl

/-- The three operations of a send. -/
theorem snd_ops : ∃ o0 o1 o2, dcSnd = #[o0, o1, o2] ∧ o0.dst = some 43 ∧ o1.dst = some 44 ∧ o0.op = .load 50 (.tmp 0) ∧ o1.op = .load 32 (.tmp 2) ∧ o2.op = .send (.tmp 43) (.tmp 44) ∧ o2.dst = none ∧ o0.guard = none ∧ o1.guard = none ∧ o2.guard = none :=
  ⟨_, _, _, rfl, rfl, rfl, rfl, rfl, rfl, rfl, rfl, rfl, rfl⟩
theorem snd2_ops : ∃ o0 o1 o2, dcSnd2 = #[o0, o1, o2] ∧ o0.dst = some 50 ∧ o1.dst = some 51 ∧ o0.op = .load 50 (.tmp 0) ∧ o1.op = .load 32 (.tmp 2) ∧ o2.op = .send (.tmp 50) (.tmp 51) ∧ o2.dst = none ∧ o0.guard = none ∧ o1.guard = none ∧ o2.guard = none :=
  ⟨_, _, _, rfl, rfl, rfl, rfl, rfl, rfl, rfl, rfl, rfl, rfl⟩
theorem kid_fn : ∃ fn, Try.prog.funcs[19]? = some fn ∧ fn.results = #[] ∧ (Try.prog.funcs[19]?).any (·.norace) = false ∧ (fn.name == "runtime.NumGoroutine") = false ∧ fn.body = some dcKid ∧ fn.ntmps = 52 :=
  ⟨Try.f19, by kernel_rfl, rfl, by kernel_rfl, by kernel_rfl, by kernel_rfl, by kernel_rfl⟩

section
variable {K : KC} {n : Nat} {xs ms : List Value} {ρ0 : Nat → Nat → Prop} {w0 W0 : World} {O0 : Nat → Prop}

theorem wanted_free {o : Oper} (h : o.guard = none) (y : Nat → Option Bool) : Region.wanted o y = true := by unfold Region.wanted; rw [h]

/-- Its end. -/
theorem kid_shuts {O : Nat → Prop} {tmps' : Array Value} {W : World} (hD : ∀ W2, Rely K.V O W W2 → KDone K ms O W2) : Shuts Try.prog K.V K.ch (KDone K) ms O (G { (baseD 19).at ⟨tmps', [shutD K.ats K.ty K.cb K.ch]⟩ [] with mode := .returning } [bornF Try.prog]) W := by
  obtain ⟨fn, h1, h2, h3, _⟩ := kid_fn
  exact shuts_of h1 h2 h3 hD
theorem kid_fin {Stop : (Nat → Prop) → Goroutine → World → Prop} {O : Nat → Prop} {tmps' : Array Value} {W : World} (hS : ∀ O b W, Shuts Try.prog K.V K.ch (KDone K) ms O b W → Stop O b W) (hD : ∀ W2, Rely K.V O W W2 → KDone K ms O W2) :
    Co Try.prog false K.V Stop O (G ((baseD 19).at ⟨tmps', [shutD K.ats K.ty K.cb K.ch]⟩ []) [bornF Try.prog]) W :=
  .ctl rfl (fun _ => stepG_end) (.stop fun _ h1 => hS _ _ _ (kid_shuts fun W2 h2 => hD W2 (h1.trans h2)))

theorem kdone {O : Nat → Prop} {ρ : Nat → Nat → Prop} {w W : World} {L : List Dl} {fps : List (List Nat)} {wl : World} (hp : Since0 K.V K.ρb K.wb K.Wb K.Ob ρ0 w0 W0 O0) (hh : Here (cK K.S) (kpl K n ms ρ0 w0 W0 O0) ρ O w W) {ms' xs' : List Value} (hm : Msgs (cK K.S) ρ xs' ms') (hr : RowOw w xs' L fps) (hL : L = dcut K.d) (hn : fps.flatten.Nodup) (hlo : ∀ b ∈ fps.flatten, K.X + 1 ≤ b) (h1 : wl.heap = K.H0) (h2 : Ext wl w) :
    ∀ W2, Rely K.V O W W2 → KDone K ms' O W2 := fun W2 hr2 => by
  subst hL
  exact ⟨ρ, w, xs', fps, wl, hh.wr.rely hh.vis hr2, hh.vis, hh.own, (hp.trans hh.since).rely hr2, hm, hr, hn, hlo, h1, h2⟩

/-- A send of the open message; 'next': what follows. -/
theorem kid_sends (hp : KP K xs ms ρ0 w0 W0 O0) {ops : Array Oper} {o0 o1 o2 : Oper} {d0 d1 : Nat} (hops : ops = #[o0, o1, o2]) (hd : o0.dst = some d0 ∧ o1.dst = some d1) (h0 : o0.op = .load 50 (.tmp 0)) (h1 : o1.op = .load 32 (.tmp 2)) (h2 : o2.op = .send (.tmp d0) (.tmp d1)) (hg : o0.guard = none ∧ o1.guard = none ∧ o2.guard = none) (hne : d0 ≠ d1) (hlo : 8 < d0 ∧ d0 < 52 ∧ 8 < d1 ∧ d1 < 52)
    {k : List Item} {p1 : Option Addr} {q1 r1 : Nat} {p2 : Option Addr} {q2 r2 : Nat} {m kk : Int} {z8 z42 : Value} {a : Act} {w : World} {i : Nat} {L1 : List Rg} {L2 : List Rt} {L : List Dl} (hS : KS K.bm K.B K.X m kk z8 z42 a) (hI : KInvV K.d K.bm K.B K.X K.H0 i p1 q1 r1 p2 q2 r2 L1 L2 xs L w)
    (next : ∀ ρ O tmps' v1 v2 W, Msgs (cK K.S) ρ (xs ++ [.slice p1 q1 r1, .slice p2 q2 r2]) (ms ++ [.agg #[v1, v2]]) → AR (cK K.S) ρ ((a.put (some d0) undef).put (some d1) (.agg #[.slice p1 q1 r1, .slice p2 q2 r2])).tmps tmps' → Here (cK K.S) (kpl K n ms ρ0 w0 W0 O0) ρ O w W →
      Ch Try.prog K.V K.ch DOk (KDone K) n (ms ++ [.agg #[v1, v2]]) O (G ((baseD 19).at ((Act.mk tmps' [shutD K.ats K.ty K.cb K.ch]).put o2.dst undef) (.inRegion ops [] :: k)) [bornF Try.prog]) W) :
    Tri Try.prog (cK K.S) (kpl K n ms ρ0 w0 W0 O0) (.inRegion ops [0, 1, 2] :: k) a w := by
  have hsz : a.tmps.size = 52 := by
    obtain ⟨_, _, _, _, _, _, _, _, _, _, _, _, _, _, _, _, _, _, _, _, _, _, _, _, _, _, _, _, _, _, _, _, _, _, _, _, _, _, _, _, _, _, _, _, _, rfl⟩ := hS
    rfl
  have he0 : a.eval (.tmp 0) = .pointer (some ⟨K.bm, 0, none⟩) := by
    obtain ⟨_, _, _, _, _, _, _, _, _, _, _, _, _, _, _, _, _, _, _, _, _, _, _, _, _, _, _, _, _, _, _, _, _, _, _, _, _, _, _, _, _, _, _, _, _, rfl⟩ := hS
    rfl
  have he2 : a.eval (.tmp 2) = .pointer (some ⟨K.X, 0, none⟩) := by
    obtain ⟨_, _, _, _, _, _, _, _, _, _, _, _, _, _, _, _, _, _, _, _, _, _, _, _, _, _, _, _, _, _, _, _, _, _, _, _, _, _, _, _, _, _, _, _, _, rfl⟩ := hS
    rfl
  have he2' : (a.put (some d0) undef).eval (.tmp 2) = .pointer (some ⟨K.X, 0, none⟩) := by
    rw [← he2]
    show ((a.tmps.setIfInBounds d0 undef).getD 2 undef) = a.tmps.getD 2 undef
    rw [Array.getD_eq_getD_getElem?, Array.getD_eq_getD_getElem?, Array.getElem?_setIfInBounds_ne (show d0 ≠ 2 by have := hlo.1; omega)]
  obtain ⟨wb, a1, n1, c1, a2, n2, c2, fps2, fps, g1, g2, g3, g4, g5, g6, g7, g8, g9⟩ := hI
  have hx0 := g7.cell (j := 0) rfl
  have hx1 := g7.cell (j := 1) rfl
  have hbm := (g4.extends g6).cell (j := 0) rfl
  refine Tri.send (d0 := d0) (d1 := d1) (x0 := .tmp 0) (bx := K.bm) (bx' := K.bm') (ch := K.ch) (v := .agg #[.slice p1 q1 r1, .slice p2 q2 r2]) (o0 := o0) (o1 := o1) (o2 := o2) (cK_ok K.S) rfl (by rw [hops]; exact ⟨rfl, rfl, rfl⟩) (fun y => ⟨wanted_free hg.1 y, wanted_free hg.2.1 y, wanted_free hg.2.2 y⟩) hd h2 (by rw [h0]; trivial) (by rw [h1]; trivial) hne (by rw [hsz]; exact ⟨hlo.2.1, hlo.2.2.2⟩)
    (fun τ => ⟨0, load_chan a K.bm (td w τ 0) _ he0 hbm o0 h0⟩) (fun τ => ⟨0, load_now _ K.X (td w τ 0) _ _ he2' hx0 hx1 o1 h1⟩) trivial he0 (fun a' b W u e1 e2 => load_chan a' b W u e1 e2 o0 h0) hp.box hp.vis hp.nO hp.chan ?_
  intro ρ O tmps' v' W hs hv hA hh hsend hserved
  obtain ⟨v1, v2, rfl, hv1, hv2⟩ := vr_msg hv
  obtain ⟨_, _, _, rfl⟩ := vr_slice hv1
  obtain ⟨_, _, _, rfl⟩ := vr_slice hv2
  refine .inr ⟨_, _, _, hsend, ⟨_, _, _, _, _, _, rfl⟩, fun W2 hr2 => ?_⟩
  rw [hserved]
  exact next ρ O tmps' _ _ W2 (.snoc (hp.msgs.mono hs) hv1 hv2) hA ⟨hh.wr.rely hh.vis hr2, hh.vis, hh.own, hh.since.rely hr2⟩
end
end Go.Proofs.Ytngehfhcnfobbaa
namespace Go.Proofs.Ytngehfhcnfobbaa
open Go Go.Conc Go.RowKit

section
variable {K : KC} {n : Nat} {xs ms : List Value} {ρ0 : Nat → Nat → Prop} {w0 W0 : World} {O0 : Nat → Prop}

theorem ch_of {n : Nat} {ms : List Value} {O : Nat → Prop} {b : Goroutine} {W : World} (h : ∀ Stop : (Nat → Prop) → Goroutine → World → Prop, (∀ O b W, Shuts Try.prog K.V K.ch (KDone K) ms O b W → Stop O b W) → Co Try.prog false K.V Stop O b W) : Ch Try.prog K.V K.ch DOk (KDone K) n ms O b W := by
  cases n with
  | zero => exact h _ fun _ _ _ h => h
  | succ n => exact h _ fun _ _ _ h => .inl h

/-- Behind the items. -/
theorem kid_end (hp : KP K xs ms ρ0 w0 W0 O0) {m : Int} {z8 z42 : Value} {a : Act} {w : World} (hS : KS K.bm K.B K.X m (dcN K.d : Nat) z8 z42 a) (hI : KInv K.d K.bm K.B K.X K.H0 (dcN K.d) (dcSt K.d (dcN K.d)).1 (dcSt K.d (dcN K.d)).2.1 xs (dcSt K.d (dcN K.d)).2.2 w) :
    Tri Try.prog (cK K.S) (kpl K n ms ρ0 w0 W0 O0) [.code dcEndC] a w := by
  have hl3 := (dcSt_len (d := K.d) (k := dcN K.d) (Nat.le_refl _)).1
  rw [dcEndC_eq]
  refine .seq (.code (cK_ok _) (cK_fns _) rfl (cK_cd cd_R12) fun τ => ?_)
  obtain ⟨p1, q1, r1, p2, q2, r2, hI⟩ := hI
  refine kid_R12 K.d K.bm K.B K.X K.H0 m (dcN K.d) z8 z42 p1 q1 r1 p2 q2 r2 _ _ xs _ a (td w τ 0) hS (hI.td τ 0) (by omega) _ ?_
  intro a' w' hS' he hI'
  have hI2 := hI'
  obtain ⟨wb, _, _, _, _, _, _, fps2, fps, _, _, _, _, _, hE, _, hC, _, hH⟩ := hI2
  by_cases ho : 0 < (dcSt K.d (dcN K.d)).1.length + (dcSt K.d (dcN K.d)).2.1.length
  · refine .cond (t := true) trivial (by rw [he, decide_eq_true ho]) ?_
    show Tri _ _ _ (.code (.region 13 dcSnd2 false) :: []) a' w'
    obtain ⟨o0, o1, o2, hops, h0, h1, h2, h3, h4, h5, h6, h7, h8⟩ := snd2_ops
    refine .region ?_
    rw [show List.range dcSnd2.size = [0, 1, 2] by rw [hops]; rfl]
    refine kid_sends hp hops ⟨h0, h1⟩ h2 h3 h4 ⟨h6, h7, h8⟩ (by decide) (by decide) hS' hI' ?_
    intro ρ O tmps' v1 v2 W hm hA hh
    obtain ⟨f, _, _, hF⟩ := hC.flush
    refine ch_of fun Stop hStop => .ctl rfl (fun _ => stepG_region_end) ?_
    rw [h5]
    exact kid_fin hStop (kdone hp.since hh hm hF.row (by unfold dcut dcEnd; rw [if_neg (by omega)]) hF.nd (fun b hb => (hF.lo b hb).1) hH hE)
  · refine .cond (t := false) trivial (by rw [he, decide_eq_false ho]) (.skip ?_)
    intro ρ O tmps' W hA hd hh
    exact kid_fin (fun _ _ _ h => .inl h) (kdone hp.since hh (hp.msgs.mono hh.since.sub) hC.row (by unfold dcut dcEnd; rw [if_pos (by omega)]) hC.nd (fun b hb => (hC.lo b hb).1) hH hE)

/-- AT THE LOOP'S HEAD. -/
theorem kid_head (hz : Sz.sz K.d ≤ 1048576) : ∀ (r k n : Nat) (xs ms : List Value) (ρ0 : Nat → Nat → Prop) (w0 W0 : World) (O0 : Nat → Prop) (z8 z42 : Value) (a : Act) (w : World), k + r = dcN K.d → r ≤ n → KP K xs ms ρ0 w0 W0 O0 → KS K.bm K.B K.X (dcN K.d : Nat) (k : Nat) z8 z42 a →
    KInv K.d K.bm K.B K.X K.H0 k (dcSt K.d k).1 (dcSt K.d k).2.1 xs (dcSt K.d k).2.2 w →
    Tri Try.prog (cK K.S) (kpl K n ms ρ0 w0 W0 O0) (.code dcKidRound :: .inLoop dcKidRound :: .inBlock 0 :: [.code dcEndC]) a w := by
  intro r
  induction r with
  | zero =>
    intro k n xs ms ρ0 w0 W0 O0 z8 z42 a w hk _ hp hS hI
    obtain rfl : k = dcN K.d := by omega
    conv => arg 4; rw [dcKidRound_eq]
    refine .seq (.code (cK_ok _) (cK_fns _) rfl (cK_cd cd_R3) fun τ => ?_)
    refine kid_R3 K.bm K.B K.X _ _ z8 z42 a (td w τ 0) hS _ ?_
    intro a' hS'
    refine .seq (.cond (t := false) trivial ?_ ?_)
    · have : decide (((dcN K.d : Nat) : Int) < ((dcN K.d : Nat) : Int)) = false := by simp
      rw [this] at hS'
      obtain ⟨_, _, _, _, _, _, _, _, _, _, _, _, _, _, _, _, _, _, _, _, _, _, _, _, _, _, _, _, _, _, _, _, _, _, _, _, _, _, _, _, _, _, _, _, _, rfl⟩ := hS'
      rfl
    · exact .exit rfl (kid_end hp hS' (hI.td τ 0))
  | succ r ih =>
    intro k n xs ms ρ0 w0 W0 O0 z8 z42 a w hk hn hp hS hI
    have hlt : k < dcN K.d := by omega
    have hN := dcN_le hz
    have hl3 := (dcSt_len (d := K.d) (k := k) (by omega)).1
    have hl4 := dcAdd_len (d := K.d) (k := k) (a := (dcSt K.d k).1) (b := (dcSt K.d k).2.1) hlt
    conv => arg 4; rw [dcKidRound_eq]
    refine .seq (.code (cK_ok _) (cK_fns _) rfl (cK_cd cd_R3) fun τ => ?_)
    refine kid_R3 K.bm K.B K.X _ _ z8 z42 a (td w τ 0) hS _ ?_
    intro a1 hS1
    refine .seq (.cond (t := true) trivial ?_ (.skip (.seq (.block ?_))))
    · have : decide (((k : Nat) : Int) < ((dcN K.d : Nat) : Int)) = true := by simp; omega
      rw [this] at hS1
      obtain ⟨_, _, _, _, _, _, _, _, _, _, _, _, _, _, _, _, _, _, _, _, _, _, _, _, _, _, _, _, _, _, _, _, _, _, _, _, _, _, _, _, _, _, _, _, _, rfl⟩ := hS1
      rfl
    have hI1 := hI.td τ 0
    conv => arg 4; arg 1; rw [dcKidBlk_eq]
    refine Tri2.start (Tri2.spine (cK_ok _) (cK_fns _) rfl (cK_cd cd_R4) (Tri2.spine (cK_ok _) (cK_fns _) rfl (cK_cd cd_X5) (Tri2.spine (cK_ok _) (cK_fns _) rfl (cK_cd cd_R8) Tri2.tri))) fun τ1 => ?_
    refine kid_item K.d K.bm K.B K.X K.H0 _ k _ z42 _ _ xs _ a1 _ hS1 (hI1.td τ1 0) (by omega) hlt hz _ ?_
    intro a2 w2 hS2 hI2
    -- the next index
    have hnext : ∀ (n' : Nat) (xs' ms' : List Value) (ρ1 : Nat → Nat → Prop) (w1 W1 : World) (O1 : Nat → Prop) (z8' z42' : Value) (a3 : Act) (w3 : World), r ≤ n' → KP K xs' ms' ρ1 w1 W1 O1 → KS K.bm K.B K.X (dcN K.d : Nat) (k : Nat) z8' z42' a3 →
        KInv K.d K.bm K.B K.X K.H0 k (dcSt K.d (k + 1)).1 (dcSt K.d (k + 1)).2.1 xs' (dcSt K.d (k + 1)).2.2 w3 → Tri Try.prog (cK K.S) (kpl K n' ms' ρ1 w1 W1 O1) (.inBlock 1 :: .code dcR11 :: .inLoop dcKidRound :: .inBlock 0 :: [.code dcEndC]) a3 w3 := by
      intro n' xs' ms' ρ1 w1 W1 O1 z8' z42' a3 w3 hn' hp' hS3 hI3
      refine .inBlock (.code (cK_ok _) (cK_fns _) rfl (cK_cd cd_R11) fun τ3 => ?_)
      refine kid_R11 K.bm K.B K.X _ k z8' z42' a3 (td w3 τ3 0) (by omega) hS3 _ ?_
      intro a4 hS4
      have hI4 := hI3.td τ3 0
      obtain ⟨p1, q1, r1, p2, q2, r2, wb, a1', n1, c1, a2', n2, c2, fps2, fps, g1, g2, g3, g4, g5, g6, g7, g8, _, g9⟩ := hI4
      exact .inLoop (ih (k + 1) n' xs' ms' ρ1 w1 W1 O1 z8' z42' a4 _ (by omega) hn' hp' hS4 ⟨p1, q1, r1, p2, q2, r2, wb, a1', n1, c1, a2', n2, c2, fps2, fps, g1, g2, g3, g4, g5, g6, g7, g8, by omega, g9⟩)
    by_cases h3 : (dcAdd K.d k (dcSt K.d k).1 (dcSt K.d k).2.1).1.length + (dcAdd K.d k (dcSt K.d k).1 (dcSt K.d k).2.1).2.length = 3
    · have hst : dcSt K.d (k + 1) = ([], [], (dcSt K.d k).2.2 ++ [⟨(dcAdd K.d k (dcSt K.d k).1 (dcSt K.d k).2.1).1, (dcAdd K.d k (dcSt K.d k).1 (dcSt K.d k).2.1).2⟩]) := by
        show (if _ then _ else _) = _
        rw [if_pos h3]
      rw [decide_eq_true h3] at hS2
      refine .cond (t := true) trivial ?_ ?_
      · obtain ⟨_, _, _, _, _, _, _, _, _, _, _, _, _, _, _, _, _, _, _, _, _, _, _, _, _, _, _, _, _, _, _, _, _, _, _, _, _, _, _, _, _, _, _, _, _, rfl⟩ := hS2
        rfl
      show Tri _ _ _ (.code (.seq (.region 9 dcSnd false) dcR10) :: _) a2 w2
      obtain ⟨o0, o1, o2, hops, g0, g1, g2, g3, g4, g5, g6, g7, g8⟩ := snd_ops
      refine .seq (.region ?_)
      rw [show List.range dcSnd.size = [0, 1, 2] by rw [hops]; rfl]
      obtain ⟨p1, q1, r1, p2, q2, r2, hI2⟩ := hI2
      refine kid_sends hp hops ⟨g0, g1⟩ g2 g3 g4 ⟨g6, g7, g8⟩ (by decide) (by decide) hS2 hI2 ?_
      intro ρ O tmps' v1 v2 W hm hA hh
      obtain ⟨n', rfl⟩ : ∃ n', n = n' + 1 := ⟨n - 1, by omega⟩
      rw [g5]
      have hlt' : K.bm' < W0.heap.size := cell_lt hp.chan
      have hp' : KP K (xs ++ [.slice p1 q1 r1, .slice p2 q2 r2]) (ms ++ [.agg #[v1, v2]]) ρ w2 W O := ⟨hp.vis, hh.since.sub _ _ hp.box, fun h => by
        rcases hh.since.ownNew _ h with h | h
        · exact hp.nO h
        · exact absurd hlt' (Nat.not_lt.2 h), by rw [← hp.chan]; exact World.cell?_of_block (hh.since.keep _ hlt' hp.vis hp.nO), hm, hp.since.trans hh.since⟩
      have hS3 : KS K.bm K.B K.X (dcN K.d : Nat) (k : Nat) (.bool (decide (((k : Nat) : Int) < ((dcN K.d : Nat) : Int)))) (.bool true) ((a2.put (some 43) undef).put (some 44) (.agg #[.slice p1 q1 r1, .slice p2 q2 r2])) := by
        obtain ⟨_, _, _, _, _, _, _, _, _, _, _, _, _, _, _, _, _, _, _, _, _, _, _, _, _, _, _, _, _, _, _, _, _, _, _, _, _, _, _, _, _, _, _, _, _, rfl⟩ := hS2
        exact ⟨_, _, _, _, _, _, _, _, _, _, _, _, _, _, _, _, _, _, _, _, _, _, _, _, _, _, _, _, _, _, _, _, _, _, _, _, _, _, _, _, _, _, _, _, _, rfl⟩
      have hd3 : ((a2.put (some 43) undef).put (some 44) (.agg #[.slice p1 q1 r1, .slice p2 q2 r2])).defers = [] := by
        obtain ⟨_, _, _, _, _, _, _, _, _, _, _, _, _, _, _, _, _, _, _, _, _, _, _, _, _, _, _, _, _, _, _, _, _, _, _, _, _, _, _, _, _, _, _, _, _, rfl⟩ := hS2
        rfl
      have hT : Tri Try.prog (cK K.S) (kpl K n' (ms ++ [.agg #[v1, v2]]) ρ w2 W O) (.inRegion dcSnd [] :: .code dcR10 :: .inBlock 1 :: .code dcR11 :: .inLoop dcKidRound :: .inBlock 0 :: [.code dcEndC]) ((a2.put (some 43) undef).put (some 44) (.agg #[.slice p1 q1 r1, .slice p2 q2 r2])) w2 := by
        refine .regionEnd (.code (cK_ok _) (cK_fns _) rfl (cK_cd cd_R10) fun τ3 => ?_)
        refine kid_R10 K.d K.bm K.B K.X K.H0 _ k _ _ p1 q1 r1 p2 q2 r2 _ _ xs _ _ (td w2 τ3 0) hS3 (hI2.td τ3 0) _ ?_
        intro a5 w5 hS5 hI5
        refine hnext n' _ _ ρ w2 W O _ _ a5 w5 (by omega) hp' hS5 ?_
        rw [hst]
        exact hI5
      exact hT ρ O tmps' W hA hd3 ⟨hh.wr, hh.vis, hh.own, Since0.refl ..⟩
    · have hst : dcSt K.d (k + 1) = ((dcAdd K.d k (dcSt K.d k).1 (dcSt K.d k).2.1).1, (dcAdd K.d k (dcSt K.d k).1 (dcSt K.d k).2.1).2, (dcSt K.d k).2.2) := by
        show (if _ then _ else _) = _
        rw [if_neg h3]
      rw [decide_eq_false h3] at hS2
      refine .cond (t := false) trivial ?_ (.skip ?_)
      · obtain ⟨_, _, _, _, _, _, _, _, _, _, _, _, _, _, _, _, _, _, _, _, _, _, _, _, _, _, _, _, _, _, _, _, _, _, _, _, _, _, _, _, _, _, _, _, _, rfl⟩ := hS2
        rfl
      refine hnext n xs ms ρ0 w0 W0 O0 _ _ a2 w2 (by omega) hp hS2 ?_
      rw [hst]
      exact hI2
end
end Go.Proofs.Ytngehfhcnfobbaa
namespace Go.Proofs.Ytngehfhcnfobbaa
open Go Go.Conc Go.RowKit

theorem def_ops : ∃ o0 o1, dcDef = #[o0, o1] ∧ o0.dst = some 4 ∧ o1.dst = none ∧ o0.op = .load 50 (.tmp 0) ∧ o1.op = .defer { callee := .builtin .close, args := #[.tmp 4], argTypes := #[50] } ∧ o0.guard = none ∧ o1.guard = none :=
  ⟨_, _, rfl, rfl, rfl, rfl, rfl, rfl, rfl⟩
/-- The type that the deferred call bears. -/
noncomputable def dcTy : TypeId := (dcDef[1]?.map (·.type)).getD 0

/-- What is to hold where it is born. -/
structure KB (K : KC) (B' : Nat) (a1 : Option Addr) (n1 c1 : Nat) (a2 : Option Addr) (n2 c2 : Nat) : Prop where
  wr : WR (cK K.S) K.ρb K.wb K.Wb
  vis : ∀ b b', K.ρb b b' → K.V b'
  box : K.ρb K.bm K.bm'
  arg : K.ρb K.B B'
  chan : K.Wb.cell? ⟨K.bm', 0, none⟩ = some (.chan (some K.ch))
  S : K.S = fun b => ∃ b', K.ρb b b'
  X : K.X = K.wb.heap.size
  H0 : K.H0 = K.wb.heap
  Ob : K.Ob = fun _ => False
  ats : K.ats = #[50]
  ty : K.ty = dcTy
  cb : K.cb = cbOf (.tmp 4)
  d1 : SlRd K.wb a1 n1 c1 K.d.drop
  d2 : SlRd K.wb a2 n2 c2 K.d.tell
  bB : Blf K.wb K.B 32 [.slice a1 n1 c1, .slice a2 n2 c2]
  bb : Blf K.wb K.bm 50 [undef]
  sz : Sz.sz K.d ≤ 1048576

/-- The slots at the birth: two captured variables. -/
@[irreducible] def und (x y : Value) : Array Value := (x :: y :: List.replicate 50 undef).toArray
theorem und_size (x y : Value) : (und x y).size = 52 := by unfold und; simp
theorem und_get (x y : Value) (i : Nat) : (und x y)[i]? = (x :: y :: List.replicate 50 undef)[i]? := by unfold und; simp
theorem und_0 (x y : Value) : (und x y)[0]? = some x := by rw [und_get]; rfl
theorem und_1 (x y : Value) : (und x y)[1]? = some y := by rw [und_get]; rfl
theorem und_n (x y : Value) (i : Nat) (h : i < 50) : (und x y)[i + 2]? = some undef := by
  rw [und_get]
  show (List.replicate 50 undef)[i]? = _
  rw [List.getElem?_replicate, if_pos h]
theorem und_lit (x y : Value) : und x y = #[x, y, undef, undef, undef, undef, undef, undef, undef, undef, undef, undef, undef, undef, undef, undef, undef, undef, undef, undef, undef, undef, undef, undef, undef, undef, undef, undef, undef, undef, undef, undef, undef, undef, undef, undef, undef, undef, undef, undef, undef, undef, undef, undef, undef, undef, undef, undef, undef, undef, undef, undef] := by
  unfold und
  kernel_rfl
theorem und_app (x y : Value) : #[x, y] ++ Array.replicate 50 undef = und x y := by
  apply Array.ext_getElem?
  intro i
  rcases i with _ | _ | i
  · rw [und_0]; simp
  · rw [und_1]; simp
  · rw [Array.getElem?_append_right (by simp)]
    by_cases hi : i < 50
    · rw [und_n _ _ i hi]; simp [hi]
    · rw [Array.getElem?_eq_none (by simp; omega), Array.getElem?_eq_none (by rw [und_size]; omega)]
theorem und_put (x y : Value) : (und x y).setIfInBounds 4 undef = und x y := by
  apply Array.ext_getElem?
  intro i
  rw [Array.getElem?_setIfInBounds]
  split
  · rename_i h
    subst h
    rw [if_pos (by rw [und_size]; decide)]
    exact (und_n x y 2 (by decide)).symm
  · rfl
theorem und_ev0 (x y : Value) (ds : List Deferred) : (Act.mk (und x y) ds).eval (.tmp 0) = x := by
  show (und x y).getD 0 undef = x
  rw [Array.getD_eq_getD_getElem?, und_0]; rfl
theorem ar_start {c : Cx} {ρ : Nat → Nat → Prop} {bm bm' B B' : Nat} (h1 : ρ bm bm') (h2 : ρ B B') :
    AR c ρ (und (.pointer (some ⟨bm, 0, none⟩)) (.pointer (some ⟨B, 0, none⟩))) (und (.pointer (some ⟨bm', 0, none⟩)) (.pointer (some ⟨B', 0, none⟩))) := by
  refine ⟨by rw [und_size, und_size], fun i v v' e1 e2 => ?_⟩
  rcases i with _ | _ | i
  · rw [und_0] at e1 e2; cases e1; cases e2; exact .ptr 0 none h1
  · rw [und_1] at e1 e2; cases e1; cases e2; exact .ptr 0 none h2
  · by_cases hi : i < 50
    · rw [und_n _ _ i hi] at e1 e2; cases e1; cases e2; exact .junk _ trivial
    · rw [Array.getElem?_eq_none (by rw [und_size]; omega)] at e1; cases e1

theorem kid_birth {K : KC} {B' : Nat} {a1 : Option Addr} {n1 c1 : Nat} {a2 : Option Addr} {n2 c2 : Nat} (h : KB K B' a1 n1 c1 a2 n2 c2) {N : Nat} (hN : dcN K.d ≤ N) {ρ1 : Nat → Nat → Prop} {W1 : World} {O1 : Nat → Prop} (hp : KP K [] [] ρ1 K.wb W1 O1) :
    Tri Try.prog (cK K.S) (kpl K N [] ρ1 K.wb W1 O1) [.code (.seq dcR1 (.seq (.seq dcR2 (.block 0 (.loop dcKidRound))) dcEndC))] ⟨und (.pointer (some ⟨K.bm, 0, none⟩)) (.pointer (some ⟨K.B, 0, none⟩)), []⟩ K.wb := by
  rw [und_lit]
  refine Tri2.start (Tri2.spine (cK_ok _) (cK_fns _) rfl (cK_cd cd_R1) (Tri2.seq (Tri2.spine (cK_ok _) (cK_fns _) rfl (cK_cd cd_R2) Tri2.tri))) fun τ => ?_
  refine kid_begin K.d K.bm K.B a1 n1 c1 a2 n2 c2 _ _ _ _ _ _ _ _ _ _ _ _ _ _ _ _ _ _ _ _ _ _ _ _ _ _ _ _ _ _ _ _ _ _ _ _ _ _ _ _ _ _ _ _ _ _ _ _ _ _ (td K.wb τ 0) (h.d1.stc (Cle.td τ 0 _)) (h.d2.stc (Cle.td τ 0 _)) h.bB h.bb h.sz _ ?_
  intro a' w' hS hI
  have hI' : KInv K.d K.bm K.B K.X K.H0 0 [] [] [] [] w' := by rw [h.X, h.H0]; exact hI
  rw [show (td K.wb τ 0).heap.size = K.X from h.X.symm] at hS
  exact .block (.loop (kid_head h.sz (dcN K.d) 0 N [] [] ρ1 K.wb W1 O1 _ _ a' w' (Nat.zero_add _) hN hp hS hI'))

/-- Its first operation but one: the channel is loaded. -/
theorem kid_first {K : KC} {B' : Nat} {a1 : Option Addr} {n1 c1 : Nat} {a2 : Option Addr} {n2 c2 : Nat} (h : KB K B' a1 n1 c1 a2 n2 c2) {N : Nat} {k : List Item} {o0 o1 : Oper} (hops : dcDef = #[o0, o1]) (e0 : o0.dst = some 4) (e2 : o0.op = .load 50 (.tmp 0)) (e4 : o0.guard = none) {W1 : World} (hr : Rely K.V K.Ob K.Wb W1) :
    ∃ ρ1 O1 es, stepG Try.prog false (G ((baseD 19).at ⟨und (.pointer (some ⟨K.bm', 0, none⟩)) (.pointer (some ⟨B', 0, none⟩)), []⟩ (.inRegion dcDef [0, 1] :: k)) [bornF Try.prog]) W1 = .go (G ((baseD 19).at ⟨(und (.pointer (some ⟨K.bm', 0, none⟩)) (.pointer (some ⟨B', 0, none⟩))).setIfInBounds 4 (.chan (some K.ch)), []⟩ (.inRegion dcDef [1] :: k)) [bornF Try.prog]) W1 es ∧
      Guar K.V K.Ob W1 W1 es O1 ∧ KP K [] [] ρ1 K.wb W1 O1 ∧ AR (cK K.S) ρ1 (und (.pointer (some ⟨K.bm, 0, none⟩)) (.pointer (some ⟨K.B, 0, none⟩))) ((und (.pointer (some ⟨K.bm', 0, none⟩)) (.pointer (some ⟨B', 0, none⟩))).setIfInBounds 4 (.chan (some K.ch))) ∧ Here (cK K.S) (kpl K N [] ρ1 K.wb W1 O1) ρ1 O1 K.wb W1 := by
  have hO : ∀ b, ¬ K.Ob b := fun b hb => by rw [h.Ob] at hb; exact hb
  have hlt := (h.wr.lt h.box).2
  have hA := ar_start (c := cK K.S) h.box h.arg
  have hh : Here (cK K.S) { kpl K N [] K.ρb K.wb K.Wb K.Ob with ds := [] } K.ρb K.Ob K.wb K.Wb := ⟨h.wr, fun b b' x => .inl (h.vis b b' x), fun b b' x hz => absurd (show K.S b by rw [h.S]; exact ⟨_, x⟩) hz, Since0.refl ..⟩
  obtain ⟨v', ρ1, O1, W2, es, hrun, hst, hgu, hs1, _, hA1, hh1⟩ := hand_value (p := { kpl K N [] K.ρb K.wb K.Wb K.Ob with ds := [] }) (a := ⟨und (.pointer (some ⟨K.bm, 0, none⟩)) (.pointer (some ⟨K.B, 0, none⟩)), []⟩) (v := undef) (w1 := K.wb) (k := k) (rest := [1]) (ops := dcDef) (i := 0) (o := o0) (cK_ok K.S) rfl (by rw [hops]; rfl) (wanted_free e4 _) (by rw [e2]; trivial)
    (fun τ => ⟨0, load_chan _ K.bm (td K.wb τ 0) _ (und_ev0 _ _ _) (h.bb.cell (j := 0) rfl) o0 e2⟩) hA hh hr
  have hc1 : W1.cell? ⟨K.bm', 0, none⟩ = some (.chan (some K.ch)) := by
    rw [← h.chan]
    exact World.cell?_of_block (hr.keep _ (.inl (h.vis _ _ h.box)))
  have hr0 := load_chan (Act.mk (und (.pointer (some ⟨K.bm', 0, none⟩)) (.pointer (some ⟨B', 0, none⟩))) []) K.bm' W1 _ (und_ev0 _ _ _) hc1 o0 e2
  have hrun' := hrun.symm.trans hr0
  simp only [Result.ok.injEq, Next.value.injEq] at hrun'
  obtain ⟨rfl, rfl⟩ := hrun'
  rw [e0] at hst hA1
  have ep : ((Act.mk (und (.pointer (some ⟨K.bm, 0, none⟩)) (.pointer (some ⟨K.B, 0, none⟩))) []).put (some 4) undef).tmps = und (.pointer (some ⟨K.bm, 0, none⟩)) (.pointer (some ⟨K.B, 0, none⟩)) := und_put _ _
  rw [ep] at hA1
  exact ⟨ρ1, O1, es, hst, hgu, ⟨h.vis _ _ h.box, hs1 _ _ h.box, fun hb => by
    rcases hh1.since.ownNew _ hb with hb | hb
    · exact hO _ hb
    · exact absurd hlt (Nat.not_lt.2 hb), hc1, .nil, hh1.since⟩, hA1, ⟨hh1.wr, hh1.vis, hh1.own, Since0.refl ..⟩⟩

/-- FROM ITS BIRTH. -/
theorem kid_ch {K : KC} {B' : Nat} {a1 : Option Addr} {n1 c1 : Nat} {a2 : Option Addr} {n2 c2 : Nat} (h : KB K B' a1 n1 c1 a2 n2 c2) {N : Nat} (hN : dcN K.d ≤ N) :
    Ch Try.prog K.V K.ch DOk (KDone K) (N + 1) [] K.Ob (born Try.prog { target := .fn (.func 19) #[.pointer (some ⟨K.bm', 0, none⟩), .pointer (some ⟨B', 0, none⟩)], args := #[] }) K.Wb := by
  show Co Try.prog false K.V (KStop K N []) K.Ob _ K.Wb
  obtain ⟨fn, f1, f2, f3, f4, f5, f6⟩ := kid_fn
  refine .ctl rfl (fun W1 => born_enter f1 f4 f5 W1) ?_
  have hu : #[.pointer (some ⟨K.bm', 0, none⟩), .pointer (some ⟨B', 0, none⟩)] ++ Array.replicate (fn.ntmps - (#[.pointer (some ⟨K.bm', 0, none⟩), .pointer (some ⟨B', 0, none⟩)] : Array Value).size) undef = und (.pointer (some ⟨K.bm', 0, none⟩)) (.pointer (some ⟨B', 0, none⟩)) := by rw [f6]; exact und_app _ _
  rw [hu, dcKid_eq]
  obtain ⟨o0, o1, hops, e0, e1, e2, e3, e4, e5⟩ := def_ops
  refine .ctl rfl (fun _ => stepG_seq) (.ctl rfl (fun _ => stepG_region) ?_)
  rw [show List.range dcDef.size = [0, 1] by rw [hops]; rfl]
  refine Co.step rfl fun W1 hr => ?_
  obtain ⟨ρ1, O1, es, hst, hgu, hp, hA, hh⟩ := kid_first (N := N) (k := [.code (.seq dcR1 (.seq (.seq dcR2 (.block 0 (.loop dcKidRound))) dcEndC))]) h hops e0 e2 e4 hr
  refine ⟨_, _, _, _, hst, hgu, ?_⟩
  have hty : o1.type = K.ty := by rw [h.ty]; unfold dcTy; rw [hops]; rfl
  refine .ctl rfl (fun W3 => stepG_deferClose (main := false) (x := .tmp 4) (ch := K.ch) (by rw [hops]; rfl) (wanted_free e5 _) (by decide) e3 (by
    show ((und _ _).setIfInBounds 4 (.chan (some K.ch))).getD 4 undef = _
    rw [Array.getD_eq_getD_getElem?, Array.getElem?_setIfInBounds_self_of_lt (by rw [und_size]; decide)]
    rfl)) ?_
  rw [e1, hty, ← h.ats, ← h.cb]
  refine .ctl rfl (fun _ => stepG_region_end) ?_
  exact kid_birth h hN hp ρ1 O1 _ W1 hA rfl hh
end Go.Proofs.Ytngehfhcnfobbaa
namespace Go.Proofs.Ytngehfhcnfobbaa
open Go Go.Conc Go.RowKit

noncomputable def dcBody : Code := bodyOf Try.f7
noncomputable def dcBox : Code := sq1 dcBody
noncomputable def dcMk : Array Oper := rgO' (sq1 (sq2 dcBody))
noncomputable def dcGo : Array Oper := rgO' (sq1 (sq2 (sq2 dcBody)))
noncomputable def dcNil : Code := sq1 (sq2 (sq2 (sq2 dcBody)))
noncomputable def dcLd : Array Oper := rgO' (sq1 (sq1 (sq2 (sq2 (sq2 (sq2 dcBody))))))
theorem dcBody_eq : dcBody = .seq dcBox (.seq (.region 1 dcMk false) (.seq (.region 2 dcGo false) (.seq dcNil (.seq (.seq (.region 4 dcLd false) (.block 0 (.loop dcRound))) dcTail)))) := by kernel_rfl
theorem mk_ops : ∃ o0 o1 o2, dcMk = #[o0, o1, o2] ∧ o0.dst = some 6 ∧ o1.dst = some 3 ∧ o2.dst = none ∧ o0.op = .makeChan 50 (.const (.int .i64 3)) ∧ o1.op = .alloc 50 ∧ o2.op = .store 50 (.tmp 3) (.tmp 6) ∧ o0.guard = none ∧ o1.guard = none ∧ o2.guard = none :=
  ⟨_, _, _, rfl, rfl, rfl, rfl, rfl, rfl, rfl, rfl, rfl, rfl⟩
theorem go_ops : ∃ o0 o1, dcGo = #[o0, o1] ∧ o0.dst = some 7 ∧ o1.dst = none ∧ o0.op = .makeFunc (.func 19) #[] #[.tmp 3, .tmp 1] ∧ o1.op = .go { callee := .value (.tmp 7), args := #[], argTypes := #[] } ∧ o0.guard = none ∧ o1.guard = none :=
  ⟨_, _, rfl, rfl, rfl, rfl, rfl, rfl, rfl⟩
theorem ld_ops : ∃ o0, dcLd = #[o0] ∧ o0.dst = some 8 ∧ o0.op = .load 50 (.tmp 3) ∧ o0.guard = none :=
  ⟨_, rfl, rfl, rfl, rfl⟩

section
variable {a : Act} {W : World} {o : Oper}
theorem chan_under : Try.prog.underlying 50 = some (.chan .both 32) := by kernel_rfl
theorem chan_info : ∃ i, Try.prog.info? 32 = some i ∧ (i.bytes : Int) * (3 : Nat) ≤ 281474976710544 := ⟨_, rfl, by decide⟩
theorem mk0_run (ho : o.op = .makeChan 50 (.const (.int .i64 3))) : (execOp a.eval o).run Try.prog W = .ok (.value (.chan (some W.heap.size))) (W.alloc (.chan 3 #[] false 0 0 false)) ∧ (execOp a.eval o).events Try.prog W #[] = #[] := by
  obtain ⟨i, h1, h2⟩ := chan_info
  unfold execOp
  simp only [ho, Act.eval]
  constructor
  · go_simp
    rw [show (Instr.makeChan 50 (.int .i64 3)).run Try.prog W = _ from run_makeChan (P := Try.prog) chan_under h1 .i64 3 (by decide) h2]
    rfl
  · go_simp
    exact events_makeChan (P := Try.prog) chan_under h1 .i64 3 (by decide) h2 #[]
theorem mk1_run (ho : o.op = .alloc 50) : (execOp a.eval o).run Try.prog W = .ok (.value (.pointer (some ⟨W.heap.size, 0, none⟩))) (W.alloc (.cells #[.chan none] 50)) ∧ (execOp a.eval o).events Try.prog W #[] = #[] := by
  unfold execOp
  simp only [ho]
  constructor
  · go_simp
  · kernel_rfl
theorem mk2_run {b : Nat} {u v : Value} (ho : o.op = .store 50 (.tmp 3) (.tmp 6)) (h3 : a.eval (.tmp 3) = .pointer (some ⟨b, 0, none⟩)) (h6 : a.eval (.tmp 6) = v) (hv : ∃ r, v = .chan r) (hc : W.cell? ⟨b, 0, none⟩ = some u) (hf : W.frozen? ⟨b, 0, none⟩ = false) :
    (execOp a.eval o).run Try.prog W = .ok .skip (W.setCell ⟨b, 0, none⟩ v) ∧ (execOp a.eval o).events Try.prog W #[] = #[⟨.cell ⟨b, 0, none⟩, true, false⟩] := by
  obtain ⟨r, rfl⟩ := hv
  unfold execOp
  simp only [ho, h3, h6]
  constructor
  · go_simp
  · simp [go_sem, hc, hf]
theorem fn_run {x y : Value} (ho : o.op = .makeFunc (.func 19) #[] #[.tmp 3, .tmp 1]) (h3 : a.eval (.tmp 3) = x) (h1 : a.eval (.tmp 1) = y) : (execOp a.eval o).run Try.prog W = .ok (.value (.func (.func 19) #[] #[x, y])) W ∧ (execOp a.eval o).events Try.prog W #[] = #[] := by
  have h3' : a.tmps[3]?.getD undef = x := by rw [← h3]; simp [Act.eval, Array.getD_eq_getD_getElem?]
  have h1' : a.tmps[1]?.getD undef = y := by rw [← h1]; simp [Act.eval, Array.getD_eq_getD_getElem?]
  unfold execOp
  simp only [ho]
  constructor
  · simp [h3', h1', Instr.makeFunc, go_sem]
  · simp [Instr.makeFunc, go_sem]
theorem go_run {cap : Array Value} (ho : o.op = .go { callee := .value (.tmp 7), args := #[], argTypes := #[] }) (h7 : a.eval (.tmp 7) = .func (.func 19) #[] cap) : (execOp a.eval o).run Try.prog W = .ok (.spawn { target := .fn (.func 19) cap, args := #[] }) W ∧ (execOp a.eval o).events Try.prog W #[] = #[] := by
  unfold execOp
  simp only [ho]
  constructor
  · simp [h7, resolve, Deferred.ofValue]
  · simp [h7, resolve, Deferred.ofValue]
theorem ld_run {b : Nat} {u : Value} (ho : o.op = .load 50 (.tmp 3)) (h3 : a.eval (.tmp 3) = .pointer (some ⟨b, 0, none⟩)) (hc : W.cell? ⟨b, 0, none⟩ = some u) : (execOp a.eval o).run Try.prog W = .ok (.value u) W ∧ (execOp a.eval o).events Try.prog W #[] = #[⟨.cell ⟨b, 0, none⟩, false, false⟩] := by
  unfold execOp
  simp only [ho, h3]
  constructor
  · go_simp
  · simp [go_sem, hc]
theorem call_run {x : Value} {t : Nat} {ats : Array TypeId} (ho : o.op = .call { callee := .value (.func 7), args := #[.tmp t], argTypes := ats }) (h : a.eval (.tmp t) = x) : (execOp a.eval o).run Try.prog W = .ok (.enter 7 #[x]) W ∧ (execOp a.eval o).events Try.prog W #[] = #[] := by
  have hf : Try.prog.funcs[7]? = some Try.f7 := by kernel_rfl
  have h1 : ¬ (Try.f7).name = "runtime.NumGoroutine" := by
    have : ((Try.f7).name == "runtime.NumGoroutine") = false := by kernel_rfl
    simpa using this
  have h2 : (Try.f7).body.isNone = false := by kernel_rfl
  have e1 : a.eval (.func 7) = .func (.func 7) #[] #[] := rfl
  unfold execOp
  simp only [ho]
  constructor
  · simp [e1, h, resolve, Deferred.ofValue, invoke, callFunc, hf, h1]
    intro e
    rw [e] at h2; cases h2
  · simp [e1, h, resolve, Deferred.ofValue, invoke, callFunc, hf, h1]
    intro e
    rw [e] at h2; cases h2
end
end Go.Proofs.Ytngehfhcnfobbaa
namespace Go.Proofs.Ytngehfhcnfobbaa
open Go Go.Conc
open Go.ConcN (sumTo upd sumTo_upd upd_ne upd_same)

section
variable {P : Program} {Post : Value → World → Prop} {Vis O : Nat → Prop}

/-- The leavers slip while goroutine 0 has not been picked. -/
theorem free_pick {a : Goroutine} {W : World} (ha : a.status = .running)
    (H : ∀ gs w sl t q, Rely Vis O W w → gs[0]? = some a → Leavers P t gs q → Past NoShun w.heap.size t → (∀ b, Vis b ∨ O b → b < w.heap.size) → ∃ m' ops, runT P (crowd gs w sl) 0 = (.next m', ops) ∧ Wins P Post m' (t ++ ops)) : Free P Post Vis O a W := by
  have key : ∀ M gs w sl t q, sumTo gs.size q ≤ M → Rely Vis O W w → gs[0]? = some a → Leavers P t gs q → Past NoShun w.heap.size t → (∀ b, Vis b ∨ O b → b < w.heap.size) → Wins P Post (crowd gs w sl) t := by
    intro M
    induction M with
    | zero =>
      intro gs w sl t q hM hrel h0 hL hP hB
      obtain ⟨i, x, d, sl', hi, hg, hst⟩ := crowd_pick (P := P) (w := w) (sl := sl) (leavers_awake hL h0 (awake_of (.inl ha))) ⟨0, a, h0, ha⟩
      rcases Nat.eq_zero_or_pos i with rfl | hpos
      · obtain ⟨m', ops, h1, h2⟩ := H gs (w.at d) sl' t q (hrel.trans (.at ..)) h0 hL hP hB
        exact .step (hst.trans h1) h2
      · have hq := hL.old i x hpos hi
        have hlt : i < gs.size := (Array.getElem?_eq_some_iff.1 hi).1
        have hqi : q i = 0 := by
          have : sumTo gs.size (upd q i 0) + q i = sumTo gs.size q + 0 := by simpa using sumTo_upd q 0 id hlt
          omega
        rw [hqi] at hq
        rw [hq.1] at hg; cases hg
    | succ M ih =>
      intro gs w sl t q hM hrel h0 hL hP hB
      obtain ⟨i, x, d, sl', hi, hg, hst⟩ := crowd_pick (P := P) (w := w) (sl := sl) (leavers_awake hL h0 (awake_of (.inl ha))) ⟨0, a, h0, ha⟩
      rcases Nat.eq_zero_or_pos i with rfl | hpos
      · obtain ⟨m', ops, h1, h2⟩ := H gs (w.at d) sl' t q (hrel.trans (.at ..)) h0 hL hP hB
        exact .step (hst.trans h1) h2
      · have hq := hL.old i x hpos hi
        have hi0 : (i == 0) = false := by simp; omega
        have hlt : i < gs.size := (Array.getElem?_eq_some_iff.1 hi).1
        cases hqi : q i with
        | zero => rw [hqi] at hq; rw [hq.1] at hg; cases hg
        | succ k =>
          rw [hqi] at hq
          rcases hq with ⟨hf, _⟩ | ⟨_, g', es, hm, hstp, hq'⟩
          · rw [hf] at hg; cases hg
          have hrunT := runT_crowd_go (P := P) (sl := sl') (i := i) hi (by rw [hi0]; exact hstp (w.at d))
          have hsum : sumTo gs.size (upd q i k) + (k + 1) = sumTo gs.size q + k := by
            have := sumTo_upd q k id hlt
            simpa [hqi] using this
          refine .step (hst.trans hrunT) (ih _ (w.at d) sl' _ (upd q i k) (by simp; omega) (hrel.trans (.at ..)) ?_ (leavers_slip hL hi hq' _ _) (hP.mute (by omega) hm) hB)
          have hne : i ≠ 0 := by omega
          rw [Array.getElem?_setIfInBounds_ne hne, Array.getElem?_map, h0]
          simp [woken_run ha]
  intro gs sl t q h0 hL hP hB
  exact key _ gs W sl t q (Nat.le_refl _) (Rely.refl ..) h0 hL hP hB

/-- What is to hold at the start of the child, in this world. -/
structure Forks (P : Program) (Post : Value → World → Prop) (Vis O VisL : Nat → Prop) (ch : Nat) (a' child : Goroutine) (W : World) : Prop where
  intro ::
  ex : ∃ (V : Nat → Prop) (cap n Lim : Nat) (Ok : Value → Prop) (Done : List Value → (Nat → Prop) → World → Prop) (Rc : List Value → (Nat → Prop) → Goroutine → Value → World → Prop),
    Prot P V ch Post VisL Ok Done Rc Lim ∧ 0 < cap ∧ n ≤ Lim ∧ Ch P V ch Ok Done n [] (fun _ => False) child W ∧ Co P true V (AtR P ch Rc []) (fun _ => False) a' W ∧ (∃ s r tm, W.heap[ch]? = some (.chan cap #[] false s r tm)) ∧ ¬ V ch ∧ ∀ b, V b → Vis b ∨ O b

/-- THE START OF THE CHILD. -/
theorem free_fork {VisL : Nat → Prop} {a a' child : Goroutine} {W : World} {ch : Nat} (ha : a.status = .running) (hst : ∀ W1, Rely Vis O W W1 → stepG P true a W1 = .spawn a' child W1 #[]) (hF : ∀ W1, Rely Vis O W W1 → Forks P Post Vis O VisL ch a' child W1) : Free P Post Vis O a W := by
  refine free_pick ha fun gs w sl t q hrel h0 hL hP hB => ?_
  have hrun := runT_crowd_spawn (P := P) (sl := sl) (i := 0) h0 (show stepG P (0 == 0) a w = _ from hst w hrel)
  refine ⟨_, _, hrun, ?_⟩
  have hlt0 : 0 < gs.size := (Array.getElem?_eq_some_iff.1 h0).1
  obtain ⟨V, cap, n, Lim, Ok, Done, Rc, pr, hcap, hn, hch, hco, hc, nV, hV⟩ := (hF w hrel).ex
  have hsz : (gs.setIfInBounds 0 a').size = gs.size := by simp
  have htr : ((MemOp.ofEvents 0 a.frame.fn a.frame.place #[]).push { g := 0, fn := a.frame.fn, pos := a.frame.place, act := .go gs.size }).push { g := gs.size, fn := child.frame.fn, pos := a.frame.place, act := .start } = #[({ g := 0, fn := a.frame.fn, pos := a.frame.place, act := .go gs.size } : MemOp), { g := gs.size, fn := child.frame.fn, pos := a.frame.place, act := .start }] := by
    rw [ofEvents_nil]; rfl
  rw [htr]
  have hd : ∀ g, Deaf (t ++ #[({ g := 0, fn := a.frame.fn, pos := a.frame.place, act := .go gs.size } : MemOp), { g := gs.size, fn := child.frame.fn, pos := a.frame.place, act := .start }]) g = Deaf t g := fun g => by
    have := Deaf_append t g [({ g := 0, fn := a.frame.fn, pos := a.frame.place, act := .go gs.size } : MemOp), { g := gs.size, fn := child.frame.fn, pos := a.frame.place, act := .start }]
    rw [this]
    simp [deafStep]
  have hFork := Tr2.fork hP (k := gs.size) (by omega) (hL.above _ (Nat.le_refl _)) V (x := { g := 0, fn := a.frame.fn, pos := a.frame.place, act := .go gs.size }) (y := { g := gs.size, fn := child.frame.fn, pos := a.frame.place, act := .start }) ⟨rfl, rfl⟩ ⟨rfl, rfl⟩
  refine claim_ch pr hcap (k := gs.size) n [] (fun _ => False) child w (by simpa using hn) hch #[] [] (fun _ => False) a' _ w sl _ q rfl (fun m hm => by simp at hm) ?_ ⟨hlt0, ?_, fun i g hi hne hg => ?_, fun j hj => ?_, hFork, fun _ h => h.elim, fun _ _ h => h.elim, fun _ _ h => h.elim, nV, fun h => h.elim, fun h => h.elim, fun b hb => ?_, hc⟩ (Rely.refl ..) (.run w hco (Rely.refl ..))
  · rw [Array.getElem?_push_lt (by simpa using hlt0)]
    simp
  · have e : gs.size = (gs.setIfInBounds 0 a').size := hsz.symm
    rw [e, Array.getElem?_push_size]
  · rw [hd]
    have hg' : gs[i]? = some g := by
      rw [Array.getElem?_push, if_neg (by simp; omega), Array.getElem?_setIfInBounds_ne (by omega)] at hg
      exact hg
    exact hL.old i g hi hg'
  · rw [hd]
    exact hL.above j (by simp at hj; omega)
  · rcases hb with hb | hb | hb
    · exact hB b (hV b hb)
    · exact hb.elim
    · exact hb.elim
end
end Go.Proofs.Ytngehfhcnfobbaa
namespace Go.Proofs.Ytngehfhcnfobbaa
open Go Go.Conc Go.RowKit

/-! ### steps made by hand -/
section
variable {P : Program} {main : Bool} {b : Frame} {tmps : Array Value} {ds : List Deferred} {k : List Item} {cs : List Frame} {W W' : World} {ops : Array Oper} {i : Nat} {rest : List Nat} {o : Oper}
theorem hstep_value {t : Tmp} {v : Value} (ho : ops[i]? = some o) (hg : o.guard = none) (hk : b.kind ≠ .early) (hd : o.dst = some t) (h : (execOp (Act.mk tmps ds).eval o).run P W = .ok (.value v) W' ∧ (execOp (Act.mk tmps ds).eval o).events P W #[] = #[]) :
    stepG P main (G (b.at ⟨tmps, ds⟩ (.inRegion ops (i :: rest) :: k)) cs) W = .go (G (b.at ⟨tmps.setIfInBounds t v, ds⟩ (.inRegion ops rest :: k)) cs) W' #[] := by
  rw [stepG_value ho (wanted_free hg _) hk h.1]
  unfold listed
  rw [h.2, seen_none, hd]
  rfl
theorem hstep_read {t : Tmp} {v : Value} {es : Array Event} (ho : ops[i]? = some o) (hg : o.guard = none) (hk : b.kind ≠ .early) (hd : o.dst = some t) (h : (execOp (Act.mk tmps ds).eval o).run P W = .ok (.value v) W' ∧ (execOp (Act.mk tmps ds).eval o).events P W #[] = es) (hq : (P.funcs[b.fn]?).any (·.norace) = false) (hm : ∀ e ∈ es, ∀ f, e.loc ≠ .mark (.extern f)) :
    stepG P main (G (b.at ⟨tmps, ds⟩ (.inRegion ops (i :: rest) :: k)) cs) W = .go (G (b.at ⟨tmps.setIfInBounds t v, ds⟩ (.inRegion ops rest :: k)) cs) W' es := by
  rw [stepG_value ho (wanted_free hg _) hk h.1]
  unfold listed
  rw [h.2, seen_eq hq hm, hd]
  rfl
theorem hstep_write {es : Array Event} (ho : ops[i]? = some o) (hg : o.guard = none) (hk : b.kind ≠ .early) (hd : o.dst = none) (h : (execOp (Act.mk tmps ds).eval o).run P W = .ok .skip W' ∧ (execOp (Act.mk tmps ds).eval o).events P W #[] = es) (hq : (P.funcs[b.fn]?).any (·.norace) = false) (hm : ∀ e ∈ es, ∀ f, e.loc ≠ .mark (.extern f)) :
    stepG P main (G (b.at ⟨tmps, ds⟩ (.inRegion ops (i :: rest) :: k)) cs) W = .go (G (b.at ⟨tmps, ds⟩ (.inRegion ops rest :: k)) cs) W' es := by
  rw [stepG_none ho (wanted_free hg _) hk h.1]
  unfold listed
  rw [h.2, seen_eq hq hm, hd]
  rfl

variable {Vis O O' : Nat → Prop} {c : Cx} {p : Pl} {ρ : Nat → Nat → Prop} {w : World} {es : Array Event}
theorem heap_alloc_lt {W : World} (o : Obj) {b : Nat} (hb : b < W.heap.size) : (W.alloc o).heap[b]? = W.heap[b]? := by
  show (W.heap.push o)[b]? = _
  rw [Array.getElem?_push, if_neg (Nat.ne_of_lt hb)]
theorem heap_alloc_new {W : World} (o : Obj) : (W.alloc o).heap[W.heap.size]? = some o := by
  show (W.heap.push o)[W.heap.size]? = _
  rw [Array.getElem?_push, if_pos rfl]
theorem Guar.alloc (o : Obj) : Guar Vis O W (W.alloc o) #[] (fun b => O b ∨ (W.heap.size ≤ b ∧ b < (W.alloc o).heap.size)) :=
  ⟨fun b hb _ => heap_alloc_lt o hb, by simp, fun b => Iff.rfl, fun e he => by simp at he, rfl, rfl, rfl⟩
theorem Guar.store {x : Addr} {v : Value} (hO : O x.block) : Guar Vis O W (W.setCell x v) #[⟨.cell x, true, false⟩] O :=
  ⟨fun b _ hn => heap_setCell_ne fun e => hn (e ▸ hO), by simp [World.setCell], fun b => ⟨.inl, fun h => h.elim id fun h => by simp [World.setCell] at h; omega⟩, fun e he => by
    simp only [List.mem_toArray, List.mem_cons, List.not_mem_nil, or_false] at he
    subst he
    exact .inl ⟨x, true, rfl, .inr hO, fun _ => hO⟩, rfl, rfl, rfl⟩
theorem Guar.read {x : Addr} (hO : Vis x.block ∨ O x.block) : Guar Vis O W W #[⟨.cell x, false, false⟩] O :=
  ⟨fun _ _ _ => rfl, Nat.le_refl _, fun b => ⟨.inl, fun h => h.elim id fun h => absurd h.2 (Nat.not_lt.2 h.1)⟩, fun e he => by
    simp only [List.mem_toArray, List.mem_cons, List.not_mem_nil, or_false] at he
    subst he
    exact .inl ⟨x, false, rfl, hO, fun h => by cases h⟩, rfl, rfl, rfl⟩
theorem Here.rely' {W1 : World} (hh : Here c p ρ O w W) (hr : Rely p.Vis O W W1) : Here c p ρ O w W1 := ⟨hh.wr.rely hh.vis hr, hh.vis, hh.own, hh.since.rely hr⟩
/-- A step by hand that turns none of the blocks that the lone world knows. -/
theorem Here.turn (hh : Here c p ρ O w W) (g : Guar p.Vis O W W' es O') (hk : ∀ b b', ρ b b' → W'.heap[b']? = W.heap[b']?) : Here c p ρ O' w W' := by
  have hOO : ∀ b, O b → O' b := fun b h => (g.own b).2 (.inl h)
  refine ⟨⟨hh.wr.fn, hh.wr.inj, fun b b' x => ?_, hh.wr.glob, hh.wr.fz⟩, fun b b' x => (hh.vis b b' x).imp id (hOO _), fun b b' x z => hOO _ (hh.own b b' x z), ?_⟩
  · obtain ⟨o, o', h1, h2, h3⟩ := hh.wr.obj b b' x
    exact ⟨o, o', h1, by rw [hk b b' x]; exact h2, h3⟩
  · refine ⟨hh.since.sub, hh.since.new, hh.since.lsz, Nat.le_trans hh.since.csz g.size, fun b x => hOO _ (hh.since.own b x), fun b x => ?_, g.tape.trans hh.since.tape, g.os.trans hh.since.os, g.output.trans hh.since.output, fun b hb hv ho => ?_⟩
    · rcases (g.own b).1 x with x | x
      · exact hh.since.ownNew b x
      · exact .inr (Nat.le_trans hh.since.csz x.1)
    · rw [g.keep b (Nat.lt_of_lt_of_le hb hh.since.csz) fun x => ?_]
      · exact hh.since.keep b hb hv ho
      · rcases hh.since.ownNew b x with y | y
        · exact ho y
        · omega
end

/-- The law's code, walked in company. -/
noncomputable def cL (Z : Nat → Prop) : Cx := { G := 0, Fz := Z, T := fun f => cKT f = true, M := fun _ => False, K := Try.prog.funcs.size, Tk := False, J := True }
theorem cL_ok (Z : Nat → Prop) : COk Try.prog (cL Z) where
  tok := Array.getElem?_eq_none (Nat.le_refl _)
  tokT := (cK_ok fun _ => False).tokT
  noCopy := noCopyB_ok kid_noCopy
  glob := fun _ => by rw [kid_globals]; exact Nat.le_refl _
  func := fun f hT ρ xs xs' hx => by
    obtain ⟨fn, b, h1, h2, h3, _⟩ := cKT_ok f hT
    exact sim_callBody hT h1 h2 (by rw [h3]; rfl) hx
  meth := fun _ h => h.elim
theorem cL_cd {Z : Nat → Prop} {x : Code} (h : cdB Try.prog 0 cKT (fun _ => false) false x = true) : CdOk Try.prog (cL Z) x :=
  cdB_ok (Nat.le_refl _) (fun _ h => h) (fun _ h => by cases h) (fun _ h => h) h
theorem cL_fns (Z : Nat → Prop) : FnsOk Try.prog (cL Z) := fun f fn hT hf b hb => by
  obtain ⟨fn', b', h1, _, h3, h4⟩ := cKT_ok f hT
  rw [h1] at hf
  cases hf
  rw [h3] at hb
  cases hb
  exact cL_cd h4
theorem cd_Box : cdB Try.prog 0 cKT (fun _ => false) false dcBox = true := by kernel_rfl
theorem main_race : (Try.prog.funcs[7]?).any (·.norace) = false := by kernel_rfl

theorem arr17 {xs : Array Value} (h : xs.size = 17) : ∃ y0 y1 y2 y3 y4 y5 y6 y7 y8 y9 y10 y11 y12 y13 y14 y15 y16, xs = #[y0, y1, y2, y3, y4, y5, y6, y7, y8, y9, y10, y11, y12, y13, y14, y15, y16] := by
  obtain ⟨l⟩ := xs
  match l, h with
  | [y0, y1, y2, y3, y4, y5, y6, y7, y8, y9, y10, y11, y12, y13, y14, y15, y16], _ => exact ⟨_, _, _, _, _, _, _, _, _, _, _, _, _, _, _, _, _, rfl⟩

set_option maxHeartbeats 2000000 in
theorem box_wp (x y1 y2 y3 y4 y5 y6 y7 y8 y9 y10 y11 y12 y13 y14 y15 y16 s1 s2 : Value) (hx : x = .agg #[s1, s2]) (w : World) (Q : Act → World → Prop)
    (hcont : Q ⟨#[x, .pointer (some ⟨w.heap.size, 0, none⟩), .slice none 0 0, y3, y4, y5, y6, y7, y8, y9, y10, y11, y12, y13, y14, y15, y16], []⟩ (w.alloc (.cells #[s1, s2] 32))) :
    dcBox.wp Try.prog (fun e a1 w1 => e = .normal ∧ Q a1 w1) ⟨#[x, y1, y2, y3, y4, y5, y6, y7, y8, y9, y10, y11, y12, y13, y14, y15, y16], []⟩ w := by
  subst hx
  have HC := hidden hcont
  clear hcont
  show (Code.region _ _ _).wp _ _ _ _
  go_wp2_with fail
  exact HC.out

noncomputable def dcRest : Code := .seq dcNil (.seq (.seq (.region 4 dcLd false) (.block 0 (.loop dcRound))) dcTail)

/-- Goroutine 0 at the go statement. -/
structure GoSt (Z VisL : Nat → Prop) (ρ : Nat → Nat → Prop) (w W0 : World) (O0 : Nat → Prop) (s1 s2 : Value) (csM : List Frame) (O : Nat → Prop) (g : Goroutine) (W : World) : Prop where
  intro ::
  ex : ∃ (tmps' : Array Value) (ρ1 : Nat → Nat → Prop) (ch b1' b3 : Nat) (ys : Array Value), g = G ((base 7).at ⟨tmps', []⟩ (.inRegion dcGo [1] :: [.code dcRest])) csM ∧ tmps'.size = 17 ∧ AR (cL Z) ρ1 ys tmps' ∧
    tmps'[7]? = some (.func (.func 19) #[] #[.pointer (some ⟨b3, 0, none⟩), .pointer (some ⟨b1', 0, none⟩)]) ∧ tmps'[3]? = some (.pointer (some ⟨b3, 0, none⟩)) ∧
    WR (cL Z) ρ1 (w.alloc (.cells #[s1, s2] 32)) W ∧ ρ1 w.heap.size b1' ∧ O ch ∧ O b3 ∧ (∀ b, ¬ ρ1 b ch) ∧ (∀ b, ¬ ρ1 b b3) ∧ ch ≠ b3 ∧ W.heap[ch]? = some (.chan 3 #[] false 0 0 false) ∧ W.heap[b3]? = some (.cells #[.chan (some ch)] 50 (0, 0)) ∧
    (∀ b b', ρ1 b b' → VisL b' ∨ O b') ∧ (∀ b b', ρ1 b b' → ¬ Z b → O b') ∧ W0.heap.size ≤ ch ∧ Since0 VisL ρ w W0 O0 ρ1 (w.alloc (.cells #[s1, s2] 32)) W O

theorem WR.tape {c : Cx} {ρ : Nat → Nat → Prop} {w W : World} (τ : Nat → Question → Nat) (d : Nat) (h : WR c ρ (td w τ d) W) : WR c ρ w W := ⟨h.fn, h.inj, h.obj, h.glob, h.fz⟩

set_option maxHeartbeats 4000000 in
/-- The channel and its variable are made; the child's function too. -/
theorem main_make {Z VisL : Nat → Prop} {ρ : Nat → Nat → Prop} {w W0 : World} {O0 : Nat → Prop} {s1 s2 : Value} {csM : List Frame} {p : Pl} (hp : p.main = true ∧ p.Vis = VisL ∧ p.ρ0 = ρ ∧ p.w0 = w ∧ p.W0 = W0 ∧ p.O0 = O0)
    {ρ1 : Nat → Nat → Prop} {O1 : Nat → Prop} {tmps1' : Array Value} {W1 : World} {x y2 y3 y4 y5 y6 y7 y8 y9 y10 y11 y12 y13 y14 y15 y16 : Value} (hA : AR (cL Z) ρ1 #[x, .pointer (some ⟨w.heap.size, 0, none⟩), y2, y3, y4, y5, y6, y7, y8, y9, y10, y11, y12, y13, y14, y15, y16] tmps1') (hh : Here (cL Z) p ρ1 O1 (w.alloc (.cells #[s1, s2] 32)) W1) :
    Co Try.prog true VisL (GoSt Z VisL ρ w W0 O0 s1 s2 csM) O1 (G ((base 7).at ⟨tmps1', []⟩ (.inRegion dcMk [0, 1, 2] :: [.code (.seq (.region 2 dcGo false) dcRest)])) csM) W1 := by
  obtain ⟨hp1, hp2, hp3, hp4, hp5, hp6⟩ := hp
  subst hp2 hp3 hp4 hp5 hp6
  obtain ⟨o0, o1, o2, hops, d0, d1, d2, q0, q1, q2, g0, g1, g2⟩ := mk_ops
  obtain ⟨u0, u1, hops2, c0, c1, r0, r1, e0, e1⟩ := go_ops
  have hsz : tmps1'.size = 17 := hA.1.symm
  obtain ⟨x1, hx1, hv1⟩ := hA.get (i := 1) (v := .pointer (some ⟨p.w0.heap.size, 0, none⟩)) rfl
  obtain ⟨b1', hb1, rfl⟩ : ∃ b1', ρ1 p.w0.heap.size b1' ∧ x1 = .pointer (some ⟨b1', 0, none⟩) := by
    cases hv1 with
    | ptr o s h => exact ⟨_, h, rfl⟩
  -- the channel
  refine Co.step rfl fun W2 h2 => ?_
  have hh2 := hh.rely' h2
  have hh3 := hh2.turn (Guar.alloc (.chan 3 #[] false 0 0 false)) fun b b' x => heap_alloc_lt _ (hh2.wr.lt x).2
  have hn2 : ∀ b, ¬ ρ1 b W2.heap.size := fun b x => absurd (hh2.wr.lt x).2 (Nat.lt_irrefl _)
  refine ⟨_, _, _, _, hstep_value (by rw [hops]; rfl) g0 (by decide) d0 (mk0_run q0), Guar.alloc _, ?_⟩
  -- its variable
  refine Co.step rfl fun W4 h4 => ?_
  have hh4 := hh3.rely' h4
  have hch4 : W4.heap[W2.heap.size]? = some (.chan 3 #[] false 0 0 false) := by
    rw [h4.keep _ (.inr (.inr ⟨Nat.le_refl _, by simp⟩))]
    exact heap_alloc_new _
  have hlt4 : W2.heap.size < W4.heap.size := (Array.getElem?_eq_some_iff.1 hch4).1
  have hh5 := hh4.turn (Guar.alloc (.cells #[.chan none] 50)) fun b b' x => heap_alloc_lt _ (hh4.wr.lt x).2
  have hn4 : ∀ b, ¬ ρ1 b W4.heap.size := fun b x => absurd (hh4.wr.lt x).2 (Nat.lt_irrefl _)
  refine ⟨_, _, _, _, hstep_value (by rw [hops]; rfl) g1 (by decide) d1 (mk1_run q1), Guar.alloc _, ?_⟩
  -- the store
  refine Co.step rfl fun W6 h6 => ?_
  have hh6 := hh5.rely' h6
  have hb6 : W6.heap[W4.heap.size]? = some (.cells #[.chan none] 50) := by
    rw [h6.keep _ (.inr (.inr ⟨Nat.le_refl _, by simp⟩))]
    exact heap_alloc_new _
  have hch6 : W6.heap[W2.heap.size]? = some (.chan 3 #[] false 0 0 false) := by
    rw [h6.keep _ (.inr (.inl (.inr ⟨Nat.le_refl _, by simp⟩))), heap_alloc_lt _ hlt4]
    exact hch4
  have hO6 : (fun b => (O1 b ∨ (W2.heap.size ≤ b ∧ b < (W2.alloc (.chan 3 #[] false 0 0 false)).heap.size)) ∨ (W4.heap.size ≤ b ∧ b < (W4.alloc (.cells #[.chan none] 50)).heap.size)) W4.heap.size := .inr ⟨Nat.le_refl _, by simp⟩
  have hh7 := hh6.turn (Guar.store (x := ⟨W4.heap.size, 0, none⟩) (v := .chan (some W2.heap.size)) hO6) fun b b' x => heap_setCell_ne fun e => hn4 b (by have e' : b' = W4.heap.size := e; rw [← e']; exact x)
  refine ⟨_, _, _, _, hstep_write (by rw [hops]; rfl) g2 (by decide) d2 (mk2_run q2 (b := W4.heap.size) (u := .chan none) (v := .chan (some W2.heap.size)) ?_ ?_ ⟨_, rfl⟩ ?_ ?_) main_race (by simp), Guar.store hO6, ?_⟩
  · show (((tmps1'.setIfInBounds 6 _).setIfInBounds 3 _).getD 3 undef) = _
    rw [Array.getD_eq_getD_getElem?, Array.getElem?_setIfInBounds_self_of_lt (by simp [hsz])]; rfl
  · show (((tmps1'.setIfInBounds 6 _).setIfInBounds 3 _).getD 6 undef) = _
    rw [Array.getD_eq_getD_getElem?, Array.getElem?_setIfInBounds_ne (by decide), Array.getElem?_setIfInBounds_self_of_lt (by simp [hsz])]; rfl
  · simp [World.cell?, hb6]
  · simp [World.frozen?, hb6]
  have hb7 : (W6.setCell ⟨W4.heap.size, 0, none⟩ (.chan (some W2.heap.size))).heap[W4.heap.size]? = some (.cells #[.chan (some W2.heap.size)] 50 (0, 0)) := by
    rw [heap_setCell_at hb6 rfl]; rfl
  have hch7 : (W6.setCell ⟨W4.heap.size, 0, none⟩ (.chan (some W2.heap.size))).heap[W2.heap.size]? = some (.chan 3 #[] false 0 0 false) := by
    rw [heap_setCell_ne (Nat.ne_of_lt hlt4)]; exact hch6
  refine .ctl rfl (fun _ => stepG_region_end) (.ctl rfl (fun _ => stepG_seq) (.ctl rfl (fun _ => stepG_region) ?_))
  rw [show List.range dcGo.size = [0, 1] by rw [hops2]; rfl]
  refine Co.step rfl fun W8 h8 => ?_
  refine ⟨_, W8, _, _, hstep_value (by rw [hops2]; rfl) e0 (by decide) c0 (fn_run (x := .pointer (some ⟨W4.heap.size, 0, none⟩)) (y := .pointer (some ⟨b1', 0, none⟩)) r0 ?_ ?_), Guar.refl .., ?_⟩
  · show (((tmps1'.setIfInBounds 6 _).setIfInBounds 3 _).getD 3 undef) = _
    rw [Array.getD_eq_getD_getElem?, Array.getElem?_setIfInBounds_self_of_lt (by simp [hsz])]; rfl
  · show (((tmps1'.setIfInBounds 6 _).setIfInBounds 3 _).getD 1 undef) = _
    rw [Array.getD_eq_getD_getElem?, Array.getElem?_setIfInBounds_ne (by decide), Array.getElem?_setIfInBounds_ne (by decide), hx1]; rfl
  refine .stop fun W9 h9 => ⟨?_⟩
  have hh9 := (hh7.rely' h8).rely' h9
  have hr9 := h8.trans h9
  refine ⟨_, ρ1, W2.heap.size, b1', W4.heap.size, _, rfl, by simp [hsz], ((hA.set 6 (.junk (.chan (some W2.heap.size)) trivial)).set 3 (.junk (.pointer (some ⟨W4.heap.size, 0, none⟩)) trivial)).set 7 (.junk (.func (.func 19) #[] #[.pointer (some ⟨W4.heap.size, 0, none⟩), .pointer (some ⟨b1', 0, none⟩)]) trivial), ?_, ?_, hh9.wr, hb1, .inl (.inr ⟨Nat.le_refl _, by simp⟩), hO6, hn2, hn4, Nat.ne_of_lt hlt4, ?_, ?_, hh9.vis, hh9.own, hh2.since.csz, hh9.since⟩
  · rw [Array.getElem?_setIfInBounds_self_of_lt (by simp [hsz])]
  · rw [Array.getElem?_setIfInBounds_ne (by decide), Array.getElem?_setIfInBounds_self_of_lt (by simp [hsz])]
  · rw [hr9.keep _ (.inr (.inl (.inr ⟨Nat.le_refl _, by simp⟩)))]; exact hch7
  · rw [hr9.keep _ (.inr hO6)]; exact hb7
end Go.Proofs.Ytngehfhcnfobbaa
