/- Paths: how the program reads one. No condition. -/
import Derived.Test.YtlehcnfmagjilaaDoorErr
namespace Go.Proofs.YtlehcnfmagjilaaDoor
open Go Go.RowKit

set_option maxHeartbeats 400000 in
theorem formatInt_any (k : Nat) (hk : k < 10) (w : World) : Calls Tryd.prog 111 #[.int .i64 k, .int .i64 10] w (StrOf 1 w) := by
  have hb : decide ((k : Int) < 100) = true := by simp; omega
  have hb0 : decide (0 ≤ (k : Int)) = true := by simp
  go_enter Tryd.func111, Tryd.ntmps111
  go_wp2_with (first | (go_at_call 119; (with_reducible refine (small_any _ hk _).mono ?_); rintro _ _ ⟨s, rfl, hs, x, rfl⟩))
  go_ret
  exact ⟨s, rfl, hs, (by repeat (first | with_reducible exact Ext.refl _ | with_reducible apply Ext.and | with_reducible apply Ext.drewx | with_reducible apply Ext.alloc | with_reducible apply Ext.ext | with_reducible apply Ext.drew | with_reducible refine Ext.setCell ?_ (by simp) _))⟩
set_option maxHeartbeats 400000 in
theorem itoa0_any (k : Nat) (hk : k < 10) (w : World) : Calls Tryd.prog 88 #[.int .i64 k] w (StrOf 1 w) := by
  go_enter Tryd.func88, Tryd.ntmps88
  go_wp2_with (first | (go_at_call 111; (with_reducible refine (formatInt_any _ hk _).mono ?_); rintro _ _ ⟨s, rfl, hs, x, rfl⟩))
  go_ret
  exact ⟨s, rfl, hs, (by repeat (first | with_reducible exact Ext.refl _ | with_reducible apply Ext.and | with_reducible apply Ext.drewx | with_reducible apply Ext.alloc | with_reducible apply Ext.ext | with_reducible apply Ext.drew | with_reducible refine Ext.setCell ?_ (by simp) _))⟩
set_option maxHeartbeats 400000 in
theorem itoa_any (k : Nat) (hk : k < 10) (w : World) : Calls Tryd.prog 70 #[.int .i64 k] w (StrOf 1 w) := by
  go_enter Tryd.func70, Tryd.ntmps70
  go_wp2_with (first | (go_at_call 88; (with_reducible refine (itoa0_any _ hk _).mono ?_); rintro _ _ ⟨s, rfl, hs, x, rfl⟩))
  go_ret
  exact ⟨s, rfl, hs, (by repeat (first | with_reducible exact Ext.refl _ | with_reducible apply Ext.and | with_reducible apply Ext.drewx | with_reducible apply Ext.alloc | with_reducible apply Ext.ext | with_reducible apply Ext.drew | with_reducible refine Ext.setCell ?_ (by simp) _))⟩

/-- A set of houses as the program keeps it. -/
def setHas (S h : Int) : Bool := bits BinOp.and IntKind.u64 (S / 2 ^ h.toNat) 1 == 1
def setAdd (S h : Int) : Int := bits BinOp.or IntKind.u64 S (IntKind.u64.wrap (2 ^ h.toNat))
theorem set_all : ((List.range 64).all fun S => (List.range 6).all fun h => (List.range 6).all fun g => h == 0 || g == 0 || (decide (0 ≤ setAdd S h) && decide (setAdd S h < 64) && (setHas (setAdd S h) g == (h == g || setHas S g)))) = true := by kernel_rfl
theorem set_add {S h g : Int} (hS : 0 ≤ S ∧ S < 64) (hh : 1 ≤ h ∧ h ≤ 5) (hg : 1 ≤ g ∧ g ≤ 5) : (0 ≤ setAdd S h ∧ setAdd S h < 64) ∧ setHas (setAdd S h) g = (h == g || setHas S g) := by
  obtain ⟨n, rfl⟩ := Int.eq_ofNat_of_zero_le hS.1
  obtain ⟨k, rfl⟩ := Int.eq_ofNat_of_zero_le (show 0 ≤ h by omega)
  obtain ⟨j, rfl⟩ := Int.eq_ofNat_of_zero_le (show 0 ≤ g by omega)
  have h1 := List.all_eq_true.1 set_all n (List.mem_range.2 (by omega))
  have h2 := List.all_eq_true.1 (List.all_eq_true.1 h1 k (List.mem_range.2 (by omega))) j (List.mem_range.2 (by omega))
  have e1 : (k == 0) = false := by simp; omega
  have e2 : (j == 0) = false := by simp; omega
  rw [e1, e2] at h2
  simp only [Bool.false_or, Bool.and_eq_true, decide_eq_true_eq, beq_iff_eq] at h2
  refine ⟨h2.1, h2.2.trans ?_⟩
  congr 1
  rw [Bool.eq_iff_iff]; simp; omega
/-- The set is of just these houses. -/
def SI (S : Int) (l : List Int) : Prop := (0 ≤ S ∧ S < 64) ∧ ∀ g, 1 ≤ g ∧ g ≤ 5 → setHas S g = hasI l g
theorem set_none : ((List.range 6).all fun g => setHas 0 g == false) = true := by kernel_rfl
theorem SI.zero : SI 0 [] := by
  refine ⟨by omega, fun g hg => ?_⟩
  obtain ⟨j, rfl⟩ := Int.eq_ofNat_of_zero_le (show 0 ≤ g by omega)
  have := List.all_eq_true.1 set_none j (List.mem_range.2 (by omega))
  simpa [hasI] using this
theorem SI.add {S d : Int} {l : List Int} {k : Nat} (h : SI S (l.take k)) (hd : l[k]? = some d) (hh : inB d 1 5 = true) : SI (setAdd S d) (l.take (k + 1)) := by
  have hh := inB_true.1 hh
  refine ⟨(set_add h.1 hh hh).1, fun g hg => ?_⟩
  rw [(set_add h.1 hh hg).2, h.2 g hg, List.take_add_one, hd, Bool.eq_iff_iff]
  simp only [hasI_iff, Bool.or_eq_true, beq_iff_eq, List.mem_append, Option.toList_some, List.mem_singleton]
  exact ⟨fun h => h.elim (fun e => .inr e.symm) .inl, fun h => h.elim .inr (fun e => .inl e.symm)⟩
theorem path_house {l : List Int} {k : Nat} (h : PathK l k) {g : Int} (hg : hasI (l.take k) g = true) : 1 ≤ g ∧ g ≤ 5 := by
  obtain ⟨i, hi, rfl⟩ := List.mem_take_iff_getElem.1 (hasI_iff.1 hg)
  exact inB_true.1 (h i _ (by omega) (List.getElem?_eq_getElem (by omega))).1

theorem len_le : ∀ (n : Nat) (l : List Int), l.Nodup → (∀ d ∈ l, 1 ≤ d ∧ d ≤ (n : Int)) → l.length ≤ n
  | 0, l, _, h => by
    cases l with
    | nil => simp
    | cons d l => have := h d (by simp); omega
  | n + 1, l, hn, h => by
    by_cases hm : ((n : Int) + 1) ∈ l
    · have h1 := len_le n (l.erase ((n : Int) + 1)) (hn.erase _) (fun d hd => by
        have h2 := (hn.mem_erase_iff).1 hd
        have h3 := h d h2.2
        have h4 := h2.1
        omega)
      rw [List.length_erase_of_mem hm] at h1
      omega
    · have := len_le n l hn (fun d hd => by
        have h3 := h d hd
        have : d ≠ (n : Int) + 1 := fun e => hm (e ▸ hd)
        omega)
      omega
theorem PathK.nodup {l : List Int} : ∀ {k : Nat}, PathK l k → (l.take k).Nodup
  | 0, _ => by simp
  | k + 1, h => by
    have ih := PathK.nodup (k := k) (fun i d hi hd => h i d (by omega) hd)
    rw [List.take_add_one]
    cases hd : l[k]? with
    | none => simpa using ih
    | some d =>
      have h1 := hasI_no.1 (h k d (by omega) hd).2
      refine List.nodup_append.2 ⟨ih, by simp, fun a ha b hb e => h1 ?_⟩
      simp at hb
      subst hb e
      exact ha
theorem PathK.le {l : List Int} {k : Nat} (h : PathK l k) (hk : k ≤ l.length) : k ≤ 5 := by
  have := len_le 5 (l.take k) h.nodup (fun d hd => path_house h (hasI_iff.2 hd))
  rw [List.length_take] at this
  omega

set_option maxHeartbeats 400000 in
theorem trailHas_any (S : Int) (h : Int) (l : List Int) (k : Nat) (a : Option Addr) (n c : Nat) (w : World) (hI : SI S (l.take k)) (hP : PathK l k) :
    Calls Tryd.prog 95 #[.agg #[.int .u64 S, .slice a n c], .int .i64 h] w fun e w' => e = .returned (.bool (hasI (l.take k) h)) ∧ Ext w w' := by
  obtain ⟨s0, s1⟩ := hI.1
  cases hh : inB h 1 5
  · go_enter Tryd.func95, Tryd.ntmps95
    go_wp2_with (first | (go_at_call 94; (with_reducible refine (isHouse_any _ _).mono ?_); rintro _ _ ⟨rfl, x, rfl⟩))
    go_ret
    exact ⟨ret_bool (hasI_no.2 (fun hm => by have := path_house hP (hasI_iff.2 hm); rw [inB_false] at hh; exact hh this)).symm, (by repeat (first | with_reducible exact Ext.refl _ | with_reducible apply Ext.and | with_reducible apply Ext.drewx | with_reducible apply Ext.alloc | with_reducible apply Ext.ext | with_reducible apply Ext.drew | with_reducible refine Ext.setCell ?_ (by simp) _))⟩
  · obtain ⟨h1, h2⟩ := inB_true.1 hh
    have H := hidden (hI.2 h ⟨h1, h2⟩)
    go_enter Tryd.func95, Tryd.ntmps95
    go_wp2_with (first | (go_at_call 94; (with_reducible refine (isHouse_any _ _).mono ?_); rintro _ _ ⟨rfl, x, rfl⟩))
    go_ret
    exact ⟨ret_bool H.out, (by repeat (first | with_reducible exact Ext.refl _ | with_reducible apply Ext.and | with_reducible apply Ext.drewx | with_reducible apply Ext.alloc | with_reducible apply Ext.ext | with_reducible apply Ext.drew | with_reducible refine Ext.setCell ?_ (by simp) _))⟩

theorem joinNew_any (B : Nat) (t0 t1 : TypeId) (p0 p1 : Value) (w : World) (hB : B = w.heap.size) :
    Calls Tryd.prog 96 #[.slice (some ⟨B, 0, none⟩) 2 2] (w.alloc (.cells #[.iface t0 p0, .iface t1 p1] 88)) (JoinOf (.iface t0 p0) (.iface t1 p1) (w.alloc (.cells #[.iface t0 p0, .iface t1 p1] 88))) := by
  subst hB
  have hb := Blk.new w #[.iface t0 p0, .iface t1 p1] 88
  exact join_any _ _ _ _ _ _ (hb.cell (j := 0) rfl) (hb.cell (j := 1) rfl)

theorem keepS {wr w' : World} {ea : Addr} {N : Nat} {T : TypeId} (hX : Ext wr w') (hN : Blk wr N T [.int .u64 0, .slice none 0 0]) (hp : EP wr ea) :
    (w'.cell? ⟨0, 0, none⟩ = some (.iface 137 (.pointer (some ea))) ∧ N < w'.heap.size) ∧ (w'.cell? ⟨N, 0, none⟩ = some (.int .u64 0) ∧ w'.cell? ⟨N, 1, none⟩ = some (.slice none 0 0)) ∧ (w'.frozen? ⟨N, 0, none⟩ = false ∧ w'.frozen? ⟨N, 1, none⟩ = false) :=
  have hN' := hN.extends hX
  ⟨⟨hp.later hX, hN'.lt⟩, ⟨hN'.cell (j := 0) rfl, hN'.cell (j := 1) rfl⟩, hN'.frozen 0, hN'.frozen 1⟩

theorem keepS2 {wr w' : World} {ea : Addr} {N : Nat} {T : TypeId} (h0 : 0 < N) (hN : Blk wr N T [.int .u64 0, .slice none 0 0]) (hp : EP wr ea) (hX : Ext wr w') :
    (((w'.setCell ⟨N, 0, none⟩ (.int .u64 0)).setCell ⟨N, 1, none⟩ (.slice none 0 0)).cell? ⟨0, 0, none⟩ = some (.iface 137 (.pointer (some ea))) ∧ N < ((w'.setCell ⟨N, 0, none⟩ (.int .u64 0)).setCell ⟨N, 1, none⟩ (.slice none 0 0)).heap.size) ∧
    (((w'.setCell ⟨N, 0, none⟩ (.int .u64 0)).setCell ⟨N, 1, none⟩ (.slice none 0 0)).cell? ⟨N, 0, none⟩ = some (.int .u64 0) ∧ ((w'.setCell ⟨N, 0, none⟩ (.int .u64 0)).setCell ⟨N, 1, none⟩ (.slice none 0 0)).cell? ⟨N, 1, none⟩ = some (.slice none 0 0)) ∧
    (((w'.setCell ⟨N, 0, none⟩ (.int .u64 0)).setCell ⟨N, 1, none⟩ (.slice none 0 0)).frozen? ⟨N, 0, none⟩ = false ∧ ((w'.setCell ⟨N, 0, none⟩ (.int .u64 0)).setCell ⟨N, 1, none⟩ (.slice none 0 0)).frozen? ⟨N, 1, none⟩ = false) := by
  have h := ((hN.extends hX).set 0 (.int .u64 0)).set 1 (.slice none 0 0)
  have ne : ((w'.setCell ⟨N, 0, none⟩ (.int .u64 0)).setCell ⟨N, 1, none⟩ (.slice none 0 0)).heap[0]? = w'.heap[0]? := by
    rw [Below.heap_setCell _ _ _ _ (by simp; omega), Below.heap_setCell _ _ _ _ (by simp; omega)]
  exact ⟨⟨(World.cell?_of_block ne).trans (hp.later hX), h.lt⟩, ⟨h.cell (j := 0) rfl, h.cell (j := 1) rfl⟩, h.frozen 0, h.frozen 1⟩

/-- What reading a path hands back. -/
def TR (w : World) (ea : Addr) (a : Option Addr) (len cap : Nat) (l : List Int) (e : Ending) (w' : World) : Prop :=
  ((pathB l = true ∧ ∃ S, SI S (l.take len) ∧ e = .returned (.tuple #[.agg #[.int .u64 S, .slice a len cap], .nilIface])) ∨
   (pathB l = false ∧ ∃ v, JE w' ea v ∧ e = .returned (.tuple #[.agg #[.int .u64 0, .slice none 0 0], v]))) ∧ Ext w w'

theorem errNew_ex (s : ByteArray) (w : World) : Calls Tryd.prog 97 #[.string s] w fun e w' => ∃ b, e = .returned (.iface 137 (.pointer (some ⟨b, 0, none⟩))) ∧ Ext w w' :=
  (errNew_any s w).mono fun _ _ ⟨h1, h2⟩ => ⟨_, h1, h2 ▸ (Ext.refl w).alloc _⟩
theorem fin_cells {W2 wr : World} {N : Nat} {T : TypeId} {q : Addr} {v : Value} (_j : W2.cell? q = some v) (hN : Blk wr N T [.int .u64 0, .slice none 0 0]) (hX : Ext wr W2) :
    ((W2.setCell ⟨N, 0, none⟩ (.int .u64 0)).setCell ⟨N, 1, none⟩ (.slice none 0 0)).cell? ⟨N, 0, none⟩ = some (.int .u64 0) ∧ ((W2.setCell ⟨N, 0, none⟩ (.int .u64 0)).setCell ⟨N, 1, none⟩ (.slice none 0 0)).cell? ⟨N, 1, none⟩ = some (.slice none 0 0) :=
  have h := ((hN.extends hX).set 0 (.int .u64 0)).set 1 (.slice none 0 0)
  ⟨h.cell (j := 0) rfl, h.cell (j := 1) rfl⟩
theorem fail_end {w wr W2 : World} {ea : Addr} {a : Option Addr} {len cap : Nat} {l : List Int} {J Q : Nat} {v1 : Value} (hE : Ext w wr)
    (j0 : W2.cell? ⟨J, 0, none⟩ = some (.slice (some ⟨Q, 0, none⟩) 2 2)) (j1 : W2.cell? ⟨Q, 0, none⟩ = some (.iface 137 (.pointer (some ea)))) (j2 : W2.cell? ⟨Q, 1, none⟩ = some v1)
    (jl : w.heap.size < J) (ql : w.heap.size < Q) (HN : pathB l = false) (hX : Ext wr W2) :
    TR w ea a len cap l (.returned (.tuple #[.agg #[.int .u64 0, .slice none 0 0], .iface 134 (.pointer (some ⟨J, 0, none⟩))])) ((W2.setCell ⟨w.heap.size, 0, none⟩ (.int .u64 0)).setCell ⟨w.heap.size, 1, none⟩ (.slice none 0 0)) := by
  have ne : ∀ (b : Nat), w.heap.size < b → ((W2.setCell ⟨w.heap.size, 0, none⟩ (.int .u64 0)).setCell ⟨w.heap.size, 1, none⟩ (.slice none 0 0)).heap[b]? = W2.heap[b]? := fun b hb => by
    rw [Below.heap_setCell _ _ _ _ (by simp; omega), Below.heap_setCell _ _ _ _ (by simp; omega)]
  refine ⟨.inr ⟨HN, _, ⟨J, Q, v1, rfl, ?_, ?_, ?_⟩, rfl⟩, ((hE.trans hX).setCell (by simp) _).setCell (by simp) _⟩
  · rw [World.cell?_of_block (ne J jl)]; exact j0
  · rw [World.cell?_of_block (ne Q ql)]; exact j1
  · rw [World.cell?_of_block (ne Q ql)]; exact j2

set_option maxRecDepth 100000 in
set_option maxHeartbeats 2000000 in
theorem readTrail_any (ea : Addr) (a : Option Addr) (len cap : Nat) (l : List Int) (w : World) (h : SlRd w a len cap l) (hp : EP w ea) :
    Calls Tryd.prog 76 #[.slice a len cap] w (TR w ea a len cap l) := by
  have hm := h.2.2.1
  have hlc := h.2.1
  have HL := hidden h.1
  have l0 := cell_lt hp
  unfold maxLen at hm
  go_enter Tryd.func76, Tryd.ntmps76
  go_wp2_with fail
  obtain ⟨W, hW⟩ : ∃ W, W = (w.alloc (Obj.cells #[Value.int IntKind.u64 0, Value.slice none 0 0] 97)).alloc (Obj.cells #[Value.int IntKind.u64 0, Value.slice a len cap] 97) := ⟨_, rfl⟩
  have hE0 : Ext w W := by rw [hW]; exact (by repeat (first | with_reducible exact Ext.refl _ | with_reducible apply Ext.and | with_reducible apply Ext.drewx | with_reducible apply Ext.alloc | with_reducible apply Ext.ext | with_reducible apply Ext.drew | with_reducible refine Ext.setCell ?_ (by simp) _))
  have hN0 : Blk W w.heap.size 97 [.int .u64 0, .slice none 0 0] := by rw [hW]; exact (Blk.new w _ _).alloc _
  have hT0 : Blk W (w.heap.size + 1) 97 [.int .u64 0, .slice a len cap] := by
    rw [hW]; have := Blk.new (w.alloc (Obj.cells #[Value.int IntKind.u64 0, Value.slice none 0 0] 97)) #[Value.int IntKind.u64 0, Value.slice a len cap] 97; rwa [World.size_alloc] at this
  rw [← hW]
  clear hW
  go_loopw [11] (fun i wr => ∃ (k : Nat) (S : Int), k ≤ len ∧ i = .int .i64 k ∧ Ext w wr ∧ Blk wr w.heap.size 97 [.int .u64 0, .slice none 0 0] ∧ Blk wr (w.heap.size + 1) 97 [.int .u64 S, .slice a len cap] ∧ Hid (PathK l k) ∧ Hid (SI S (l.take k))) (fun i _ => len - (intOf i).toNat)
  case atStart => exact ⟨0, 0, Nat.zero_le _, rfl, hE0, hN0, hT0, PathK.zero l, SI.zero⟩
  case round =>
    obtain ⟨k, S, hk, rfl, hE, hN, hT, HT, HS⟩ := hrel
    clear hE0 hN0 hT0
    have n0 := hN.cell (j := 0) rfl
    have n1 := hN.cell (j := 1) rfl
    have nf0 := hN.frozen 0
    have nf1 := hN.frozen 1
    have t0 := hT.cell (j := 0) rfl
    have t1 := hT.cell (j := 1) rfl
    have tf0 := hT.frozen 0
    have lN := hN.lt
    have lT := hT.lt
    have hp0 : wr.cell? ⟨0, 0, none⟩ = some (.iface 137 (.pointer (some ea))) := hp.later hE
    have lp := cell_lt hp0
    obtain ⟨s0, s1⟩ := HS.out.1
    have hk5 : k < 10 := by have := HT.out.le (by rw [HL.out]; exact hk); omega
    by_cases hlt : k < len
    · obtain ⟨d, dhd, db, doff, dys, rfl, dhys, dhcell, dhrd⟩ := h.at hE hlt
      obtain ⟨rfl, dg0⟩ := dhrd
      have dc0 : wr.cell? ⟨db, doff + k, none⟩ = some (.int .i64 d) := by have := dhcell 0 _ rfl; simpa [Lay.n] using this
      have dlb := cell_lt dc0
      have dHD := hidden dhd
      clear dhcell dhys dhd
      by_cases hg : inB d 1 5 = true ∧ hasI (l.take k) d = false
      · obtain ⟨hh, hc⟩ := hg
        go_wp2_with (first | (go_at_call 94; (with_reducible refine (isHouse_any _ _).mono ?_); rintro _ _ ⟨rfl, x, rfl⟩) | (go_at_call 95; (with_reducible refine (trailHas_any _ _ l k _ _ _ _ HS.out HT.out).mono ?_); rintro _ _ ⟨rfl, x, rfl⟩))
        obtain ⟨hd1, hd2⟩ := inB_true.1 hh
        go_region
        go_wp2_with fail
        go_roundw
        case rel => exact ⟨k + 1, setAdd S d, by omega, by go_num, (hE.ext _).setCell (by simp) _, (hN.ext _).setOther _ (by simp), (hT.ext _).set 0 _, HT.out.succ dHD.out hh hc, HS.out.add dHD.out hh⟩
        case measure => simp [intOf]; omega
      · have HN : pathB l = false := pathB_no dHD.out hg
        have HG := hidden hg
        clear hg
        cases hh : inB d 1 5
        case' true => have hc : hasI (l.take k) d = true := by cases hc : hasI (l.take k) d; (exact absurd ⟨hh, hc⟩ HG.out); rfl
        all_goals
          go_wp2_with (first | (go_at_call 94; (with_reducible refine (isHouse_any _ _).mono ?_); rintro _ _ ⟨rfl, x, rfl⟩) | (go_at_call 95; (with_reducible refine (trailHas_any _ _ l k _ _ _ _ HS.out HT.out).mono ?_); rintro _ _ ⟨rfl, x, rfl⟩))
          go_region_held3 (fun w' => (w'.cell? ⟨0, 0, none⟩ = some (.iface 137 (.pointer (some ea))) ∧ w.heap.size < w'.heap.size) ∧ (w'.cell? ⟨w.heap.size, 0, none⟩ = some (.int .u64 0) ∧ w'.cell? ⟨w.heap.size, 1, none⟩ = some (.slice none 0 0)) ∧ (w'.frozen? ⟨w.heap.size, 0, none⟩ = false ∧ w'.frozen? ⟨w.heap.size, 1, none⟩ = false)) (first | (refine keepS (wr := wr) ?_ hN (hp.later hE); ((repeat (first | with_reducible exact Ext.refl _ | with_reducible apply Ext.and | with_reducible apply Ext.drewx | with_reducible apply Ext.alloc | with_reducible apply Ext.ext | with_reducible apply Ext.drew)); done)) | (refine keepS2 (wr := wr) l0 hN (hp.later hE) ?_; ((repeat (first | with_reducible exact Ext.refl _ | with_reducible apply Ext.and | with_reducible apply Ext.drewx | with_reducible apply Ext.alloc | with_reducible apply Ext.ext | with_reducible apply Ext.drew)); done))) (first | (go_at_call 70; (with_reducible refine (itoa_any _ hk5 _).mono ?_); rintro _ _ ⟨s, rfl, hs, x1, rfl⟩; have hcat : ¬ (9223372036854775807 < 3 + s.size) := (by omega)) | (go_at_call 97; (with_reducible refine (errNew_ex _ _).mono ?_); rintro _ _ ⟨b1, rfl, x3, rfl⟩) | (go_at_call 96; (refine (join_any _ 137 137 (.pointer (some ea)) (.pointer (some ⟨b1, 0, none⟩)) _ ?_ ?_).mono ?_); (go_simp); (go_simp); rintro _ _ ⟨J, Q, rfl, j0, j1, j2, jl, ql, x2, rfl⟩))
          go_wp2_with fail
          have k := fin_cells j0 hN (by repeat (first | with_reducible exact Ext.refl _ | with_reducible apply Ext.and | with_reducible apply Ext.drewx | with_reducible apply Ext.alloc | with_reducible apply Ext.ext | with_reducible apply Ext.drew | with_reducible refine Ext.setCell ?_ (by simp) _))
          exact bodyPost_ret (v := .tuple #[.agg #[.int .u64 0, .slice none 0 0], .iface 134 (.pointer (some ⟨J, 0, none⟩))]) (by simp [results, Tryd.results76, go_sem, k.1, k.2]) rfl (fail_end hE j0 j1 j2 (by have := lN; simp at jl; omega) (by have := lN; simp at ql; omega) HN (by repeat (first | with_reducible exact Ext.refl _ | with_reducible apply Ext.and | with_reducible apply Ext.drewx | with_reducible apply Ext.alloc | with_reducible apply Ext.ext | with_reducible apply Ext.drew | with_reducible refine Ext.setCell ?_ (by simp) _)))
    · obtain rfl : len = k := by omega
      go_wp2_with fail
      exact bodyPost_ret (v := .tuple #[.agg #[.int .u64 S, .slice a len cap], .nilIface]) (by simp [results, Tryd.results76, go_sem, n0, n1]) rfl ⟨.inl ⟨pathB_all HT.out HL.out, S, HS.out, rfl⟩, (hE.setCell (by simp) _).setCell (by simp) _⟩

end Go.Proofs.YtlehcnfmagjilaaDoor
