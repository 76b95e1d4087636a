/- slices.DeleteFunc at []int with RouteClear's closure; RouteClear in the implementation. No condition. -/
import Derived.Test.YtjeofgalgfopdaaGreatDoorRmkI
import Derived.Lib.SliceRun
namespace Go.Proofs.YtjeofgalgfopdaaGreatDoor
open Go Go.RowKit

theorem AccF.ints {N : Nat} {w : World} {e : TypeId} {v : Value} {l : List Int} (h : AccF N e w v l) (h0 : 0 < l.length) :
    ∃ g c cur, v = .slice (some ⟨g, 0, none⟩) l.length c ∧ N ≤ g ∧ Blk w g e cur ∧ cur.length = c ∧ l.length ≤ c ∧ c ≤ maxLen ∧ cur.take l.length = l.map (Value.int .i64) ∧ ∀ d ∈ l, I64 d := by
  obtain ⟨xs, h1, h2⟩ := h
  obtain ⟨a', cap, rfl, hlc, hcm, ha, _⟩ := ownsRow_shape h1
  obtain ⟨g, cur, rfl, hb, hl, ht⟩ := ownsRow_cur h1 h0
  have hN := (h1.lt g rfl).1
  have e1 : Lay.n Int = 1 := rfl
  have hx : xs = l.map (Value.int .i64) := by
    apply List.ext_getElem?
    intro i
    rw [List.getElem?_map]
    cases hd : l[i]? with
    | none =>
      have := List.getElem?_eq_none_iff.1 hd
      rw [List.getElem?_eq_none (by rw [h2.1, e1]; omega)]; rfl
    | some d =>
      obtain ⟨ys, z1, z2, z3⟩ := h2.2 i d hd
      obtain ⟨rfl, _⟩ : ys = [.int .i64 d] ∧ I64 d := z3
      have := z2 0 _ rfl
      simpa [e1] using this
  refine ⟨g, cap, cur, rfl, hN, hb, by simpa [e1] using hl, hlc, hcm, ?_, fun d hd => ?_⟩
  · rw [← hx, ← ht, e1, Nat.mul_one]
  · obtain ⟨i, hi, rfl⟩ := List.getElem_of_mem hd
    obtain ⟨ys, z1, z2, z3⟩ := h2.2 i _ (List.getElem?_eq_getElem hi)
    exact z3.2
theorem AccF.ofInts {N g c : Nat} {w : World} {e : TypeId} {cur : List Value} {l : List Int} (hN : N ≤ g) (hb : Blk w g e cur) (hl : cur.length = c) (hc : l.length ≤ c) (hm : c ≤ maxLen)
    (ht : cur.take l.length = l.map (Value.int .i64)) (hi : ∀ d ∈ l, I64 d) : AccF N e w (.slice (some ⟨g, 0, none⟩) l.length c) l := by
  have e1 : Lay.n Int = 1 := rfl
  refine ⟨l.map (Value.int .i64), ownsRow_of hN hb (by rw [e1]; omega) hc hm (by rw [e1, List.length_map]; omega) (by rw [e1, Nat.mul_one]; exact ht), by rw [e1, List.length_map]; omega, fun i d hd => ⟨[.int .i64 d], rfl, fun t u hu => ?_, rfl, hi d (List.mem_of_getElem? hd)⟩⟩
  match t, hu with
  | 0, hu => rw [e1, Nat.mul_one, Nat.add_zero, List.getElem?_map, hd]; exact hu
  | t + 1, hu => simp at hu

theorem Blk.setCells {e : TypeId} {b : Nat} : ∀ (vs : List Value) (o : Nat) {w : World} {cs : List Value}, Blk w b e cs → ∃ cs', Blk (w.setCells b o vs) b e cs' ∧ cs'.length = cs.length ∧ cs'.take o = cs.take o
  | [], o, w, cs, h => ⟨cs, h, rfl, rfl⟩
  | v :: vs, o, w, cs, h => by
    obtain ⟨cs', h1, h2, h3⟩ := Blk.setCells vs (o + 1) (h.set o v)
    refine ⟨cs', h1, by rw [h2, List.length_set], ?_⟩
    have h4 := congrArg (List.take o) h3
    rw [List.take_take, List.take_take, Nat.min_eq_left (by omega)] at h4
    rw [h4]
    apply List.ext_getElem?
    intro i
    rw [List.getElem?_take, List.getElem?_take]
    split
    · rw [List.getElem?_set_ne (by omega)]
    · rfl
theorem grownBy_setCells (b : Nat) : ∀ (vs : List Value) (o : Nat) (w : World), w.grownBy (w.setCells b o vs) (some b)
  | [], _, w => World.grownBy.refl w _
  | v :: vs, o, w => grownBy_tr (grownBy_set w ⟨b, o, none⟩ v) (grownBy_setCells b vs (o + 1) _) (fun _ h => .inl h) (fun _ h => .inl h)

/-- On the way: what is kept stands ahead, the rest as it was. -/
def DelS (w wr : World) (g : Nat) (e : TypeId) (T : List Value) (l F : List Int) (j : Nat) : Prop :=
  w.grownBy wr (some g) ∧ ∃ X : List Int, Blk wr g e (X.map (Value.int .i64) ++ T) ∧ X.length = l.length ∧ X.take F.length = F ∧ X.drop j = l.drop j
section
variable {w wr wr' : World} {g : Nat} {e : TypeId} {T : List Value} {l F : List Int} {j : Nat}
theorem DelS.skip (h : DelS w wr g e T l F j) : DelS w wr g e T l F (j + 1) := by
  obtain ⟨h1, X, h2, h3, h4, h5⟩ := h
  exact ⟨h1, X, h2, h3, h4, by rw [← List.drop_drop, ← List.drop_drop, h5]⟩
theorem DelS.ext (h : DelS w wr g e T l F j) (k : Ext wr wr') : DelS w wr' g e T l F j := by
  obtain ⟨h1, X, h2, h3⟩ := h
  exact ⟨grownBy_tr h1 (k.grownBy none) (fun _ h => .inl h) (fun _ h => by cases h), X, h2.extends k, h3⟩
theorem DelS.cell (h : DelS w wr g e T l F j) {d : Int} (hd : l[j]? = some d) : wr.cell? ⟨g, j, none⟩ = some (.int .i64 d) := by
  obtain ⟨h1, X, h2, h3, h4, h5⟩ := h
  have hj := (List.getElem?_eq_some_iff.1 hd).1
  have hx : X[j]? = some d := by
    have := congrArg (fun l : List Int => l[0]?) h5
    simpa [hd] using this
  refine h2.cell ?_
  rw [List.getElem?_append_left (by rw [List.length_map]; omega), List.getElem?_map, hx]; rfl
theorem DelS.there (h : DelS w wr g e T l F j) {i : Nat} (hi : i < l.length) : ∃ z, wr.cell? ⟨g, i, none⟩ = some z := by
  obtain ⟨h1, X, h2, h3, h4, h5⟩ := h
  exact h2.get (by rw [List.length_append, List.length_map]; omega)
theorem DelS.frozen (h : DelS w wr g e T l F j) (i : Nat) : wr.frozen? ⟨g, i, none⟩ = false := by
  obtain ⟨h1, X, h2, h3, h4, h5⟩ := h
  exact h2.frozen i
theorem DelS.put (h : DelS w wr g e T l F j) {d : Int} (hd : l[j]? = some d) (hF : F.length ≤ j) : DelS w (wr.setCell ⟨g, F.length, none⟩ (.int .i64 d)) g e T l (F ++ [d]) (j + 1) := by
  obtain ⟨h1, X, h2, h3, h4, h5⟩ := h
  have hj := (List.getElem?_eq_some_iff.1 hd).1
  have hs : (X.map (Value.int .i64) ++ T).set F.length (.int .i64 d) = (X.set F.length d).map (Value.int .i64) ++ T := by
    rw [List.set_append_left _ _ (by rw [List.length_map]; omega), List.map_set]
  refine ⟨grownBy_tr h1 (grownBy_set wr _ _) (fun _ h => .inl h) (fun _ h => .inl h), X.set F.length d, by have := h2.set F.length (.int .i64 d); rwa [hs] at this, by rw [List.length_set]; exact h3, ?_, ?_⟩
  · rw [List.length_append, List.length_singleton, List.take_add_one, List.getElem?_set_self (by omega), List.take_set_of_le (Nat.le_refl _), h4]; rfl
  · rw [List.drop_set_of_lt (by omega), ← List.drop_drop, ← List.drop_drop, h5]
theorem DelS.low (h : DelS w wr g e T l F j) {B o : Nat} {u : Value} (hB : w.cell? ⟨B, o, none⟩ = some u) (hne : B ≠ g) : wr.cell? ⟨B, o, none⟩ = some u :=
  h.1.cell hB (fun e => hne (Option.some.inj e))
theorem DelS.lt (h : DelS w wr g e T l F j) : g < wr.heap.size := by
  obtain ⟨h1, X, h2, h3⟩ := h
  exact h2.lt
end

theorem clearOne_any (B : Nat) (d m : Int) (w : World) (hB : w.cell? ⟨B, 0, none⟩ = some (.int .i64 m)) :
    Calls Tryz.prog 113 #[.int .i64 d, .pointer (some ⟨B, 0, none⟩)] w fun e w' => e = .returned (.bool (d == m)) ∧ Ext w w' := by
  have hb := cell_lt hB
  go_enter Tryz.func113, Tryz.ntmps113
  go_wp2_with (first | ((first | with_reducible refine wp_region_qe (by kernel_rfl) (by kernel_rfl) ?_ | with_reducible refine wp_region_q (by kernel_rfl) (by kernel_rfl) ?_); (repeat (go_big_quiet_step (fail))); refine wpQuiet_nil ?_; intro x))
  go_ret
  exact ⟨ret_bool (by rfl), (by repeat (first | with_reducible exact Ext.refl _ | with_reducible apply Ext.and | with_reducible apply Ext.drewx | with_reducible apply Ext.alloc | with_reducible apply Ext.ext | with_reducible apply Ext.drew | with_reducible refine Ext.setCell ?_ (by simp) _))⟩

set_option maxHeartbeats 1000000 in
theorem indexM_any (a : Option Addr) (len cap : Nat) (l : List Int) (B : Nat) (m : Int) (w : World) (h : SlRd w a len cap l) (hB : w.cell? ⟨B, 0, none⟩ = some (.int .i64 m)) :
    Calls Tryz.prog 139 #[.slice a len cap, .func (.func 113) #[] #[.pointer (some ⟨B, 0, none⟩)]] w fun e w' => e = .returned (.int .i64 (findI (fun x => x == m) l)) ∧ Ext w w' := by
  have hm := h.2.2.1
  have hlc := h.2.1
  have HL := hidden h.1
  have hb := cell_lt hB
  unfold maxLen at hm
  go_enter Tryz.func139, Tryz.ntmps139
  go_wp2_with fail
  go_loopw [8] (fun i wr => ∃ k : Nat, k ≤ len ∧ i = .int .i64 k ∧ Ext w wr ∧ Hid ((l.take k).any (fun x => x == m) = false)) (fun i _ => len - (intOf i).toNat)
  case atStart => exact ⟨0, Nat.zero_le _, rfl, Ext.refl _, rfl⟩
  case round =>
    obtain ⟨k, hk, rfl, hE, HT⟩ := hrel
    by_cases hlt : k < len
    · obtain ⟨d, dhd, db, doff, dys, rfl, dhys, dhcell, dhrd⟩ := h.at hE hlt
      obtain ⟨rfl, dg0⟩ := dhrd
      have dc0 : wr.cell? ⟨db, doff + k, none⟩ = some (.int .i64 d) := by have := dhcell 0 _ rfl; simpa [Lay.n] using this
      have dlb := cell_lt dc0
      have dHD := hidden dhd
      clear dhcell dhys dhd
      have cB : wr.cell? ⟨B, 0, none⟩ = some (.int .i64 m) := (hE.below.cell (p := ⟨B, 0, none⟩) hb).trans hB
      have lB := cell_lt cB
      cases hp : (d == m)
      · go_wp2_with (first | (first | (go_at_call 113; (with_reducible refine (clearOne_any B d m _ (by first | exact cB | (go_simp; done) | (go_simp; exact cB))).mono ?_); rintro _ _ ⟨rfl, x, rfl⟩)) | ((first | with_reducible refine wp_region_qe (by kernel_rfl) (by kernel_rfl) ?_ | with_reducible refine wp_region_q (by kernel_rfl) (by kernel_rfl) ?_); (repeat (go_big_quiet_step ((first | (go_at_call 113; first | with_reducible exact Calls.qb (by assumption) (clearOne_any B d m _ (by first | exact cB | (go_simp; done) | (go_simp; exact cB))) | with_reducible exact Calls.q (clearOne_any B d m _ (by first | exact cB | (go_simp; done) | (go_simp; exact cB)))))))); refine wpQuiet_nil ?_; intro x))
        go_roundw
        case rel => exact ⟨k + 1, by omega, by go_num, (by first | exact hE | exact hE.ext _ | exact hE.trans (by repeat (first | with_reducible exact Ext.refl _ | with_reducible apply Ext.and | with_reducible apply Ext.drewx | with_reducible apply Ext.alloc | with_reducible apply Ext.ext | with_reducible apply Ext.drew | with_reducible refine Ext.setCell ?_ (by simp) _))), any_succ HT.out dHD.out hp⟩
        case measure => simp [intOf]; omega
      · go_wp2_with (first | (first | (go_at_call 113; (with_reducible refine (clearOne_any B d m _ (by first | exact cB | (go_simp; done) | (go_simp; exact cB))).mono ?_); rintro _ _ ⟨rfl, x, rfl⟩)) | ((first | with_reducible refine wp_region_qe (by kernel_rfl) (by kernel_rfl) ?_ | with_reducible refine wp_region_q (by kernel_rfl) (by kernel_rfl) ?_); (repeat (go_big_quiet_step ((first | (go_at_call 113; first | with_reducible exact Calls.qb (by assumption) (clearOne_any B d m _ (by first | exact cB | (go_simp; done) | (go_simp; exact cB))) | with_reducible exact Calls.q (clearOne_any B d m _ (by first | exact cB | (go_simp; done) | (go_simp; exact cB)))))))); refine wpQuiet_nil ?_; intro x))
        go_ret
        exact ⟨ret_int (findI_at HT.out dHD.out hp).symm, (by first | exact hE | exact hE.ext _ | exact hE.trans (by repeat (first | with_reducible exact Ext.refl _ | with_reducible apply Ext.and | with_reducible apply Ext.drewx | with_reducible apply Ext.alloc | with_reducible apply Ext.ext | with_reducible apply Ext.drew | with_reducible refine Ext.setCell ?_ (by simp) _)))⟩
    · obtain rfl : k = len := by omega
      go_wp2_with (first | ((first | with_reducible refine wp_region_qe (by kernel_rfl) (by kernel_rfl) ?_ | with_reducible refine wp_region_q (by kernel_rfl) (by kernel_rfl) ?_); (repeat (go_big_quiet_step (fail))); refine wpQuiet_nil ?_; intro x))
      go_ret
      exact ⟨ret_int (by have := HT.out; rw [List.take_of_length_le (Nat.le_of_eq HL.out)] at this; exact (findI_no this).symm), (by first | exact hE | exact hE.ext _ | exact hE.trans (by repeat (first | with_reducible exact Ext.refl _ | with_reducible apply Ext.and | with_reducible apply Ext.drewx | with_reducible apply Ext.alloc | with_reducible apply Ext.ext | with_reducible apply Ext.drew | with_reducible refine Ext.setCell ?_ (by simp) _)))⟩

theorem findI_split {l : List Int} {m : Int} (h : l.any (fun x => x == m) = true) : ∃ i : Nat, findI (fun x => x == m) l = (i : Int) ∧ l[i]? = some m ∧ (l.take (i + 1)).filter (fun x => x != m) = l.take i := by
  have hi : l.findIdx (fun x => x == m) < l.length := List.findIdx_lt_length.2 (by simpa using h)
  have hg := List.findIdx_getElem (w := hi)
  have hd : l[l.findIdx (fun x => x == m)]? = some m := by rw [List.getElem?_eq_getElem hi]; exact congrArg some (by simpa using hg)
  refine ⟨_, by unfold findI; rw [if_pos h], hd, ?_⟩
  rw [filt_take hd, if_pos rfl, List.append_nil]
  refine List.filter_eq_self.2 fun x hx => ?_
  obtain ⟨j, hj, rfl⟩ := List.mem_take_iff_getElem.1 hx
  have := List.not_of_lt_findIdx (p := fun x => x == m) (xs := l) (i := j) (by omega)
  simpa using this

set_option maxRecDepth 20000 in
set_option maxHeartbeats 4000000 in
theorem deleteM_any (N : Nat) (v : Value) (l : List Int) (B : Nat) (m : Int) (w : World) (h : AccF N 3 w v l) (hBN : B < N) (hl9 : l.length ≤ 100) (hB : w.cell? ⟨B, 0, none⟩ = some (.int .i64 m)) :
    Calls Tryz.prog 112 #[v, .func (.func 113) #[] #[.pointer (some ⟨B, 0, none⟩)]] w fun e w' => ∃ v', e = .returned v' ∧ AccF N 3 w' v' (l.filter (fun x => x != m)) ∧ w.grownBy w' v.ownBlock ∧ v'.ownBlock = v.ownBlock := by
  have hb := cell_lt hB
  cases hf : l.any (fun x => x == m)
  case false =>
    obtain ⟨a, n, c, rfl⟩ := h.shapeL
    have HS := hidden h.sl
    have HA := hidden h
    have HI := hidden (findI_no hf)
    have HF := hidden (show l.filter (fun x => x != m) = l from List.filter_eq_self.2 fun x hx => by have := List.any_eq_false.1 hf x hx; simpa using this)
    clear h hf
    go_enter Tryz.func112, Tryz.ntmps112
    go_wp2_with (first | (first | ((go_at_call 139; (with_reducible refine (indexM_any a n c l B m _ (HS.out.stays ((by repeat (first | with_reducible exact Ext.refl _ | with_reducible apply Ext.and | with_reducible apply Ext.drewx | with_reducible apply Ext.alloc | with_reducible apply Ext.ext | with_reducible apply Ext.drew | with_reducible refine Ext.setCell ?_ (by simp) _)) : Ext _ _).below) (by first | exact hB | (go_simp; done) | (go_simp; exact hB))).mono ?_); rintro _ _ ⟨rfl, x, rfl⟩; rw [HI.out]))) | ((first | with_reducible refine wp_region_qe (by kernel_rfl) (by kernel_rfl) ?_ | with_reducible refine wp_region_q (by kernel_rfl) (by kernel_rfl) ?_); (repeat (go_big_quiet_step ((first | ((go_at_call 139; (with_reducible refine (indexM_any a n c l B m _ (HS.out.stays ((by repeat (first | with_reducible exact Ext.refl _ | with_reducible apply Ext.and | with_reducible apply Ext.drewx | with_reducible apply Ext.alloc | with_reducible apply Ext.ext | with_reducible apply Ext.drew | with_reducible refine Ext.setCell ?_ (by simp) _)) : Ext _ _).below) (by first | exact hB | (go_simp; done) | (go_simp; exact hB))).mono ?_); rintro _ _ ⟨rfl, x, rfl⟩; rw [HI.out])))))); refine wpQuiet_nil ?_; intro x))
    all_goals
      go_ret
      exact ⟨_, rfl, by rw [HF.out]; exact HA.out.ext (by repeat (first | with_reducible exact Ext.refl _ | with_reducible apply Ext.and | with_reducible apply Ext.drewx | with_reducible apply Ext.alloc | with_reducible apply Ext.ext | with_reducible apply Ext.drew | with_reducible refine Ext.setCell ?_ (by simp) _)), ((by repeat (first | with_reducible exact Ext.refl _ | with_reducible apply Ext.and | with_reducible apply Ext.drewx | with_reducible apply Ext.alloc | with_reducible apply Ext.ext | with_reducible apply Ext.drew | with_reducible refine Ext.setCell ?_ (by simp) _)) : Ext _ _).grownBy _, rfl⟩
  case true =>
    obtain ⟨i, hi, hd, ht⟩ := findI_split hf
    have hil := (List.getElem?_eq_some_iff.1 hd).1
    obtain ⟨g, c, cur, rfl, hN, hb0, hl, hlc, hcm, htk, hI⟩ := h.ints (by omega)
    have hs := h.sl
    have HI := hidden hi
    have HII := hidden hI
    have hBg : B ≠ g := by omega
    obtain ⟨n, hn⟩ : ∃ n, l.length = n := ⟨_, rfl⟩
    rw [hn] at hs hil hlc htk hl9 ⊢
    have HN := hidden hn
    have HS := hidden hs
    clear hs
    obtain ⟨T, hT⟩ : ∃ T, cur = l.map (Value.int .i64) ++ T := ⟨cur.drop n, by have := (List.take_append_drop n cur).symm; rw [htk] at this; exact this⟩
    have HT := hidden (show (l.map (Value.int .i64) ++ T).length = c by rw [← hT]; exact hl)
    have HD0 := hidden (show DelS w w g 3 T l (l.take i) (i + 1) from ⟨World.grownBy.refl _ _, l, by rw [← hT]; exact hb0, rfl, by rw [List.length_take, hn, Nat.min_eq_left (by omega)], rfl⟩)
    have HF0 := hidden ht
    have HL0 := hidden (show (l.take i).length = i by rw [List.length_take]; omega)
    have hcm' := hcm
    unfold maxLen at hcm'
    have hne : ((i : Int) == -1) = false := by simp
    clear h hf hi hd ht hb0 hl htk hI hT hn
    go_enter Tryz.func112, Tryz.ntmps112
    go_wp2_with (first | (first | ((go_at_call 139; (with_reducible refine (indexM_any _ n c l B m _ (HS.out.stays ((by repeat (first | with_reducible exact Ext.refl _ | with_reducible apply Ext.and | with_reducible apply Ext.drewx | with_reducible apply Ext.alloc | with_reducible apply Ext.ext | with_reducible apply Ext.drew | with_reducible refine Ext.setCell ?_ (by simp) _)) : Ext _ _).below) (by first | exact hB | (go_simp; done) | (go_simp; exact hB))).mono ?_); rintro _ _ ⟨rfl, x, rfl⟩; rw [HI.out]))) | ((first | with_reducible refine wp_region_qe (by kernel_rfl) (by kernel_rfl) ?_ | with_reducible refine wp_region_q (by kernel_rfl) (by kernel_rfl) ?_); (repeat (go_big_quiet_step ((first | ((go_at_call 139; (with_reducible refine (indexM_any _ n c l B m _ (HS.out.stays ((by repeat (first | with_reducible exact Ext.refl _ | with_reducible apply Ext.and | with_reducible apply Ext.drewx | with_reducible apply Ext.alloc | with_reducible apply Ext.ext | with_reducible apply Ext.drew | with_reducible refine Ext.setCell ?_ (by simp) _)) : Ext _ _).below) (by first | exact hB | (go_simp; done) | (go_simp; exact hB))).mono ?_); rintro _ _ ⟨rfl, x, rfl⟩; rw [HI.out])))))); refine wpQuiet_nil ?_; intro x))
    go_loopw [5, 6] (fun p j wr => ∃ (k q : Nat) (F : List Int), p = .int .i64 q ∧ j = .int .i64 k ∧ k ≤ n ∧ q < k ∧ Hid (F.length = q) ∧ Hid ((l.take k).filter (fun x => x != m) = F) ∧ Hid (DelS w wr g 3 T l F k)) (fun _ j _ => n - (intOf j).toNat)
    case atStart => exact ⟨i + 1, i, l.take i, by go_num, by go_num, by omega, by omega, HL0, HF0, HD0.out.ext (by repeat (first | with_reducible exact Ext.refl _ | with_reducible apply Ext.and | with_reducible apply Ext.drewx | with_reducible apply Ext.alloc | with_reducible apply Ext.ext | with_reducible apply Ext.drew | with_reducible refine Ext.setCell ?_ (by simp) _))⟩
    case round =>
      obtain ⟨k, q, F, rfl, rfl, hk, hq, HL, HF, HD⟩ := hrel
      have cB := HD.out.low hB hBg
      have lB := cell_lt cB
      have lg := HD.out.lt
      by_cases hlt : k < n
      · obtain ⟨d, hd⟩ : ∃ d, l[k]? = some d := ⟨_, List.getElem?_eq_getElem (by rw [HN.out]; exact hlt)⟩
        have c0 := HD.out.cell hd
        have HDD := hidden hd
        have HFT := hidden (filt_take (m := m) hd)
        obtain ⟨z, cq⟩ := HD.out.there (i := q) (by rw [HN.out]; omega)
        have fq := HD.out.frozen q
        clear hd
        cases hp : (d == m)
        · have HP := hidden hp
          go_wp2_with (first | (first | (go_at_call 113; (with_reducible refine (clearOne_any B d m _ (by first | exact cB | (go_simp; done) | (go_simp; exact cB))).mono ?_); rintro _ _ ⟨rfl, x, rfl⟩)) | ((first | with_reducible refine wp_region_qe (by kernel_rfl) (by kernel_rfl) ?_ | with_reducible refine wp_region_q (by kernel_rfl) (by kernel_rfl) ?_); (repeat (go_big_quiet_step ((first | (go_at_call 113; first | with_reducible exact Calls.qb (by assumption) (clearOne_any B d m _ (by first | exact cB | (go_simp; done) | (go_simp; exact cB))) | with_reducible exact Calls.q (clearOne_any B d m _ (by first | exact cB | (go_simp; done) | (go_simp; exact cB)))))))); refine wpQuiet_nil ?_; intro x))
          go_roundw
          case rel =>
            refine ⟨k + 1, q + 1, F ++ [d], by go_num, by go_num, by omega, by omega, hidden (by rw [List.length_append, HL.out]; rfl), hidden ?_, hidden ?_⟩
            · rw [HFT.out, HF.out, if_neg (by have := HP.out; simpa using this)]
            · have := (HD.out.ext (⟨x, rfl⟩ : Ext wr (ext wr x))).put HDD.out (by rw [HL.out]; omega)
              rw [HL.out] at this
              exact this
          case measure => simp [intOf]; omega
        · have HP := hidden hp
          go_wp2_with (first | (first | (go_at_call 113; (with_reducible refine (clearOne_any B d m _ (by first | exact cB | (go_simp; done) | (go_simp; exact cB))).mono ?_); rintro _ _ ⟨rfl, x, rfl⟩)) | ((first | with_reducible refine wp_region_qe (by kernel_rfl) (by kernel_rfl) ?_ | with_reducible refine wp_region_q (by kernel_rfl) (by kernel_rfl) ?_); (repeat (go_big_quiet_step ((first | (go_at_call 113; first | with_reducible exact Calls.qb (by assumption) (clearOne_any B d m _ (by first | exact cB | (go_simp; done) | (go_simp; exact cB))) | with_reducible exact Calls.q (clearOne_any B d m _ (by first | exact cB | (go_simp; done) | (go_simp; exact cB)))))))); refine wpQuiet_nil ?_; intro x))
          go_roundw
          case rel =>
            refine ⟨k + 1, q, F, rfl, by go_num, by omega, by omega, HL, hidden ?_, hidden (HD.out.skip.ext (by repeat (first | with_reducible exact Ext.refl _ | with_reducible apply Ext.and | with_reducible apply Ext.drewx | with_reducible apply Ext.alloc | with_reducible apply Ext.ext | with_reducible apply Ext.drew | with_reducible refine Ext.setCell ?_ (by simp) _)))⟩
            rw [HFT.out, HF.out, if_pos (by have := HP.out; simpa using this), List.append_nil]
          case measure => simp [intOf]; omega
      · obtain rfl : k = n := by omega
        have hcl : ∀ ty, (Builtin.clear_ #[25] ty #[.slice (some ⟨g, q, none⟩) (k - q) (c - q)]).run Tryz.prog wr = .ok (.tuple #[]) (wr.setCells g q (List.replicate (k - q) (.int .i64 0))) :=
          fun ty => Lib.run_clear_slice wr 25 3 ty _ (by kernel_rfl) (fun w => by go_simp) rfl rfl g q _ _ (by omega) (fun j hj => by obtain ⟨z, hz⟩ := HD.out.there (i := q + j) (by rw [HN.out]; omega); rw [hz]; rfl) (fun j hj => HD.out.frozen _)
        go_wp2_with (first | ((first | with_reducible refine wp_region_qe (by kernel_rfl) (by kernel_rfl) ?_ | with_reducible refine wp_region_q (by kernel_rfl) (by kernel_rfl) ?_); (repeat (go_big_quiet_step (fail))); refine wpQuiet_nil ?_; intro x))
        go_ret
        have hFF := HF.out
        rw [List.take_of_length_le (Nat.le_of_eq HN.out)] at hFF
        obtain ⟨h1, X, h2, h3, h4, h5⟩ := HD.out
        obtain ⟨cs', b1, b2, b3⟩ := Blk.setCells (List.replicate (k - q) (.int .i64 0)) q h2
        refine ⟨_, rfl, ?_, grownBy_tr h1 (grownBy_setCells g _ q wr) (fun _ h => .inl h) (fun _ h => .inl h), rfl⟩
        rw [hFF]
        have hq := HL.out
        have hL := HT.out
        rw [List.length_append, List.length_map, HN.out] at hL
        have hX : (X.map (Value.int .i64)).length = k := by rw [List.length_map, h3, HN.out]
        have := AccF.ofInts (l := F) (c := c) hN b1 (by rw [b2, List.length_append, hX]; exact hL) (by omega) hcm
          (by rw [hq, b3, List.take_append_of_le_length (by omega), ← List.map_take, ← hq, h4])
          (fun d hd => HII.out d (by rw [← hFF] at hd; exact (List.mem_filter.1 hd).1))
        rw [hq] at this
        exact this

set_option maxRecDepth 20000 in
set_option maxHeartbeats 8000000 in
theorem iRouteClear_any (ea : Addr) (d : Rt) (m : Int) (a1 : Option Addr) (n1 c1 : Nat) (a2 : Option Addr) (n2 c2 : Nat) (w : World) (i1 : I64 d.r.f) (i2 : I64 d.r.b) (h1 : SlRd w a1 n1 c1 d.path) (i3 : I64 d.like) (h2 : SlRd w a2 n2 c2 d.marks) (_wm : I64 m) (hp : EP w ea) :
    Calls Tryz.prog 55 #[.agg #[.int .i64 d.r.f, .int .i64 d.r.b, .slice a1 n1 c1, .int .i64 d.like, .slice a2 n2 c2], .int .i64 m] w fun x w' => ∃ b1 m1 d1 b2 m2 d2, x = .returned (.tuple #[.agg #[.int .i64 (rclear d m).1.r.f, .int .i64 (rclear d m).1.r.b, .slice b1 m1 d1, .int .i64 (rclear d m).1.like, .slice b2 m2 d2], .bool (rclear d m).2]) ∧
      ∃ y, w' = ext w y ∧ Hid (Fresh w (ext w y) [.int .i64 (rclear d m).1.r.f, .int .i64 (rclear d m).1.r.b, .slice b1 m1 d1, .int .i64 (rclear d m).1.like, .slice b2 m2 d2] (rclear d m).1) := by
  have I1 := hidden i1
  have I2 := hidden i2
  have I3 := hidden i3
  have H1 := hidden h1
  have H2 := hidden h2
  clear i1 i2 i3 h1 h2
  cases k1 : rtOk d
  case' true => cases k2 : inB m 1 9
  case true.true =>
    have hl1 : n1 ≤ 5 := by have := path_le (rtOk_pathB k1); have := H1.out.1; omega
    have hl2 : n2 ≤ 9 := by have := marks_le (rtOk_marks k1); have := H2.out.1; omega
    have HML := hidden (show d.marks.length ≤ 100 by have := marks_le (rtOk_marks k1); omega)
    have HR := hidden (rclear_yes k1 k2)
    go_enter Tryz.func55, Tryz.ntmps55
    go_wp2_with (first | (first | ((go_at_call 49; (with_reducible refine (iRouteOk_any ea d _ _ _ _ _ _ _ (H1.out.stays ((by repeat (first | with_reducible exact Ext.refl _ | with_reducible apply Ext.and | with_reducible apply Ext.drewx | with_reducible apply Ext.alloc | with_reducible apply Ext.ext | with_reducible apply Ext.drew | with_reducible refine Ext.setCell ?_ (by simp) _)) : Ext _ _).below) (H2.out.stays ((by repeat (first | with_reducible exact Ext.refl _ | with_reducible apply Ext.and | with_reducible apply Ext.drewx | with_reducible apply Ext.alloc | with_reducible apply Ext.ext | with_reducible apply Ext.drew | with_reducible refine Ext.setCell ?_ (by simp) _)) : Ext _ _).below) (hp.later (by repeat (first | with_reducible exact Ext.refl _ | with_reducible apply Ext.and | with_reducible apply Ext.drewx | with_reducible apply Ext.alloc | with_reducible apply Ext.ext | with_reducible apply Ext.drew | with_reducible refine Ext.setCell ?_ (by simp) _)))).mono ?_); rintro _ _ ⟨rfl, z1, rfl⟩)) | ((go_at_call 109; (with_reducible refine (isMark_any _ _).mono ?_); rintro _ _ ⟨rfl, z2, rfl⟩)) | ((go_at_call 53; (with_reducible refine (copyRoute_any _ _ _ _ _ _ d.path _ _ _ d.marks _ (H1.out.stays ((by repeat (first | with_reducible exact Ext.refl _ | with_reducible apply Ext.and | with_reducible apply Ext.drewx | with_reducible apply Ext.alloc | with_reducible apply Ext.ext | with_reducible apply Ext.drew | with_reducible refine Ext.setCell ?_ (by simp) _)) : Ext _ _).below) (H2.out.stays ((by repeat (first | with_reducible exact Ext.refl _ | with_reducible apply Ext.and | with_reducible apply Ext.drewx | with_reducible apply Ext.alloc | with_reducible apply Ext.ext | with_reducible apply Ext.drew | with_reducible refine Ext.setCell ?_ (by simp) _)) : Ext _ _).below) (by omega) (by omega)).mono ?_); rintro _ w1 ⟨b1, m1, d1, b2, m2, d2, rfl, C1, y1, rfl⟩; (try rw [ext_ext] at C1); have L1 := C1.1.low; have L2 := C1.2.1.low; have HC1 := hidden C1; clear C1)) | ((go_at_call 112; (with_reducible refine (deleteM_any (w.heap.size + 2) (.slice b2 m2 d2) d.marks (w.heap.size + 1) m _ ((HC1.out.l2.base (by simp <;> omega)).ext ((by repeat (first | with_reducible exact Ext.refl _ | with_reducible apply Ext.and | with_reducible apply Ext.drewx | with_reducible apply Ext.alloc | with_reducible apply Ext.ext | with_reducible apply Ext.drew | with_reducible refine Ext.setCell ?_ (by simp) _)) : Ext _ _)) (by omega) HML.out (by go_simp)).mono ?_); rintro _ w3 ⟨v3, rfl, hA3, hg3, ho3⟩; obtain ⟨b3, m3, d3, rfl⟩ := hA3.shapeL; have nX : some (w.heap.size + 1 + 1 + 1 + ((z1.and z2).and y1).objs.size) ≠ (Value.slice b2 m2 d2).ownBlock := (fun e => by have := L2 _ e.symm; (simp at this <;> omega)); have nN : some (w.heap.size + 1 + 1) ≠ (Value.slice b2 m2 d2).ownBlock := (fun e => by have := L2 _ e.symm; (simp at this <;> omega)); have hBX := ((Blk.newAt (ext (((w.alloc (.cells #[.int .i64 d.r.f, .int .i64 d.r.b, .slice a1 n1 c1, .int .i64 d.like, .slice a2 n2 c2] 32)).alloc (.cells #[.int .i64 m] 3)).alloc (.cells #[.int .i64 0, .int .i64 0, .slice none 0 0, .int .i64 0, .slice none 0 0] 32)) ((z1.and z2).and y1)) #[.int .i64 d.r.f, .int .i64 d.r.b, .slice b1 m1 d1, .int .i64 d.like, .slice b2 m2 d2] 32 (B := (w.heap.size + 1 + 1 + 1 + ((z1.and z2).and y1).objs.size)) (by simp)).extends ((by repeat (first | with_reducible exact Ext.refl _ | with_reducible apply Ext.and | with_reducible apply Ext.drewx | with_reducible apply Ext.alloc | with_reducible apply Ext.ext | with_reducible apply Ext.drew | with_reducible refine Ext.setCell ?_ (by simp) _)) : Ext _ _)).grown hg3 nX; have hB1 := ((Blk.newAt ((w.alloc (.cells #[.int .i64 d.r.f, .int .i64 d.r.b, .slice a1 n1 c1, .int .i64 d.like, .slice a2 n2 c2] 32)).alloc (.cells #[.int .i64 m] 3)) #[.int .i64 0, .int .i64 0, .slice none 0 0, .int .i64 0, .slice none 0 0] 32 (B := w.heap.size + 1 + 1) (by simp)).extends ((by repeat (first | with_reducible exact Ext.refl _ | with_reducible apply Ext.and | with_reducible apply Ext.drewx | with_reducible apply Ext.alloc | with_reducible apply Ext.ext | with_reducible apply Ext.drew | with_reducible refine Ext.setCell ?_ (by simp) _)) : Ext _ _)).grown hg3 nN; have x0 := hBX.cell (j := 0) rfl; have x1 := hBX.cell (j := 1) rfl; have x2 := hBX.cell (j := 2) rfl; have x3 := hBX.cell (j := 3) rfl; have x4 := hBX.cell (j := 4) rfl; have xf := hBX.frozen 4; have lX := hBX.lt; have r0 := hB1.cell (j := 0) rfl; have rf0 := hB1.frozen 0; have r1 := hB1.cell (j := 1) rfl; have rf1 := hB1.frozen 1; have r2 := hB1.cell (j := 2) rfl; have rf2 := hB1.frozen 2; have r3 := hB1.cell (j := 3) rfl; have rf3 := hB1.frozen 3; have r4 := hB1.cell (j := 4) rfl; have rf4 := hB1.frozen 4; have lN := hB1.lt; have hE3 := Ext.by ((by repeat (first | with_reducible exact Ext.refl _ | with_reducible apply Ext.and | with_reducible apply Ext.drewx | with_reducible apply Ext.alloc | with_reducible apply Ext.ext | with_reducible apply Ext.drew | with_reducible refine Ext.setCell ?_ (by simp) _)) : Ext w _) hg3 (fun j hj => by have := L2 _ hj; (simp at this <;> omega)); have HC := hidden (show Cp w.heap.size w3 (.slice b1 m1 d1) (.slice b3 m3 d3) d.path (d.marks.filter (fun x => x != m)) from ⟨((HC1.out.l1.base ((by repeat (first | with_reducible exact Ext.refl _ | with_reducible apply Ext.and | with_reducible apply Ext.drewx | with_reducible apply Ext.alloc | with_reducible apply Ext.ext | with_reducible apply Ext.drew | with_reducible refine Ext.setCell ?_ (by simp) _)) : Ext w _).size).ext ((by repeat (first | with_reducible exact Ext.refl _ | with_reducible apply Ext.and | with_reducible apply Ext.drewx | with_reducible apply Ext.alloc | with_reducible apply Ext.ext | with_reducible apply Ext.drew | with_reducible refine Ext.setCell ?_ (by simp) _)) : Ext _ _)).kept hg3 (fun b e e' => HC1.out.2.2 b e' e), hA3.base (by omega), fun b e e' => HC1.out.2.2 b e (by rw [← ho3]; exact e')⟩); have L3 : ∀ b, (Value.slice b3 m3 d3).ownBlock = some b → (Value.slice b2 m2 d2).ownBlock = some b := (fun b e => by rw [← ho3]; exact e); clear hA3 hg3 hBX hB1 ho3))) | ((first | with_reducible refine wp_region_qe (by kernel_rfl) (by kernel_rfl) ?_ | with_reducible refine wp_region_q (by kernel_rfl) (by kernel_rfl) ?_); (repeat' (first | go_big_quiet_step ((first | ((go_at_call 49; (with_reducible refine (iRouteOk_any ea d _ _ _ _ _ _ _ (H1.out.stays ((by repeat (first | with_reducible exact Ext.refl _ | with_reducible apply Ext.and | with_reducible apply Ext.drewx | with_reducible apply Ext.alloc | with_reducible apply Ext.ext | with_reducible apply Ext.drew | with_reducible refine Ext.setCell ?_ (by simp) _)) : Ext _ _).below) (H2.out.stays ((by repeat (first | with_reducible exact Ext.refl _ | with_reducible apply Ext.and | with_reducible apply Ext.drewx | with_reducible apply Ext.alloc | with_reducible apply Ext.ext | with_reducible apply Ext.drew | with_reducible refine Ext.setCell ?_ (by simp) _)) : Ext _ _).below) (hp.later (by repeat (first | with_reducible exact Ext.refl _ | with_reducible apply Ext.and | with_reducible apply Ext.drewx | with_reducible apply Ext.alloc | with_reducible apply Ext.ext | with_reducible apply Ext.drew | with_reducible refine Ext.setCell ?_ (by simp) _)))).mono ?_); rintro _ _ ⟨rfl, z1, rfl⟩)) | ((go_at_call 109; (with_reducible refine (isMark_any _ _).mono ?_); rintro _ _ ⟨rfl, z2, rfl⟩)) | ((go_at_call 53; (with_reducible refine (copyRoute_any _ _ _ _ _ _ d.path _ _ _ d.marks _ (H1.out.stays ((by repeat (first | with_reducible exact Ext.refl _ | with_reducible apply Ext.and | with_reducible apply Ext.drewx | with_reducible apply Ext.alloc | with_reducible apply Ext.ext | with_reducible apply Ext.drew | with_reducible refine Ext.setCell ?_ (by simp) _)) : Ext _ _).below) (H2.out.stays ((by repeat (first | with_reducible exact Ext.refl _ | with_reducible apply Ext.and | with_reducible apply Ext.drewx | with_reducible apply Ext.alloc | with_reducible apply Ext.ext | with_reducible apply Ext.drew | with_reducible refine Ext.setCell ?_ (by simp) _)) : Ext _ _).below) (by omega) (by omega)).mono ?_); rintro _ w1 ⟨b1, m1, d1, b2, m2, d2, rfl, C1, y1, rfl⟩; (try rw [ext_ext] at C1); have L1 := C1.1.low; have L2 := C1.2.1.low; have HC1 := hidden C1; clear C1)) | ((go_at_call 112; (with_reducible refine (deleteM_any (w.heap.size + 2) (.slice b2 m2 d2) d.marks (w.heap.size + 1) m _ ((HC1.out.l2.base (by simp <;> omega)).ext ((by repeat (first | with_reducible exact Ext.refl _ | with_reducible apply Ext.and | with_reducible apply Ext.drewx | with_reducible apply Ext.alloc | with_reducible apply Ext.ext | with_reducible apply Ext.drew | with_reducible refine Ext.setCell ?_ (by simp) _)) : Ext _ _)) (by omega) HML.out (by go_simp)).mono ?_); rintro _ w3 ⟨v3, rfl, hA3, hg3, ho3⟩; obtain ⟨b3, m3, d3, rfl⟩ := hA3.shapeL; have nX : some (w.heap.size + 1 + 1 + 1 + ((z1.and z2).and y1).objs.size) ≠ (Value.slice b2 m2 d2).ownBlock := (fun e => by have := L2 _ e.symm; (simp at this <;> omega)); have nN : some (w.heap.size + 1 + 1) ≠ (Value.slice b2 m2 d2).ownBlock := (fun e => by have := L2 _ e.symm; (simp at this <;> omega)); have hBX := ((Blk.newAt (ext (((w.alloc (.cells #[.int .i64 d.r.f, .int .i64 d.r.b, .slice a1 n1 c1, .int .i64 d.like, .slice a2 n2 c2] 32)).alloc (.cells #[.int .i64 m] 3)).alloc (.cells #[.int .i64 0, .int .i64 0, .slice none 0 0, .int .i64 0, .slice none 0 0] 32)) ((z1.and z2).and y1)) #[.int .i64 d.r.f, .int .i64 d.r.b, .slice b1 m1 d1, .int .i64 d.like, .slice b2 m2 d2] 32 (B := (w.heap.size + 1 + 1 + 1 + ((z1.and z2).and y1).objs.size)) (by simp)).extends ((by repeat (first | with_reducible exact Ext.refl _ | with_reducible apply Ext.and | with_reducible apply Ext.drewx | with_reducible apply Ext.alloc | with_reducible apply Ext.ext | with_reducible apply Ext.drew | with_reducible refine Ext.setCell ?_ (by simp) _)) : Ext _ _)).grown hg3 nX; have hB1 := ((Blk.newAt ((w.alloc (.cells #[.int .i64 d.r.f, .int .i64 d.r.b, .slice a1 n1 c1, .int .i64 d.like, .slice a2 n2 c2] 32)).alloc (.cells #[.int .i64 m] 3)) #[.int .i64 0, .int .i64 0, .slice none 0 0, .int .i64 0, .slice none 0 0] 32 (B := w.heap.size + 1 + 1) (by simp)).extends ((by repeat (first | with_reducible exact Ext.refl _ | with_reducible apply Ext.and | with_reducible apply Ext.drewx | with_reducible apply Ext.alloc | with_reducible apply Ext.ext | with_reducible apply Ext.drew | with_reducible refine Ext.setCell ?_ (by simp) _)) : Ext _ _)).grown hg3 nN; have x0 := hBX.cell (j := 0) rfl; have x1 := hBX.cell (j := 1) rfl; have x2 := hBX.cell (j := 2) rfl; have x3 := hBX.cell (j := 3) rfl; have x4 := hBX.cell (j := 4) rfl; have xf := hBX.frozen 4; have lX := hBX.lt; have r0 := hB1.cell (j := 0) rfl; have rf0 := hB1.frozen 0; have r1 := hB1.cell (j := 1) rfl; have rf1 := hB1.frozen 1; have r2 := hB1.cell (j := 2) rfl; have rf2 := hB1.frozen 2; have r3 := hB1.cell (j := 3) rfl; have rf3 := hB1.frozen 3; have r4 := hB1.cell (j := 4) rfl; have rf4 := hB1.frozen 4; have lN := hB1.lt; have hE3 := Ext.by ((by repeat (first | with_reducible exact Ext.refl _ | with_reducible apply Ext.and | with_reducible apply Ext.drewx | with_reducible apply Ext.alloc | with_reducible apply Ext.ext | with_reducible apply Ext.drew | with_reducible refine Ext.setCell ?_ (by simp) _)) : Ext w _) hg3 (fun j hj => by have := L2 _ hj; (simp at this <;> omega)); have HC := hidden (show Cp w.heap.size w3 (.slice b1 m1 d1) (.slice b3 m3 d3) d.path (d.marks.filter (fun x => x != m)) from ⟨((HC1.out.l1.base ((by repeat (first | with_reducible exact Ext.refl _ | with_reducible apply Ext.and | with_reducible apply Ext.drewx | with_reducible apply Ext.alloc | with_reducible apply Ext.ext | with_reducible apply Ext.drew | with_reducible refine Ext.setCell ?_ (by simp) _)) : Ext w _).size).ext ((by repeat (first | with_reducible exact Ext.refl _ | with_reducible apply Ext.and | with_reducible apply Ext.drewx | with_reducible apply Ext.alloc | with_reducible apply Ext.ext | with_reducible apply Ext.drew | with_reducible refine Ext.setCell ?_ (by simp) _)) : Ext _ _)).kept hg3 (fun b e e' => HC1.out.2.2 b e' e), hA3.base (by omega), fun b e e' => HC1.out.2.2 b e (by rw [← ho3]; exact e')⟩); have L3 : ∀ b, (Value.slice b3 m3 d3).ownBlock = some b → (Value.slice b2 m2 d2).ownBlock = some b := (fun b e => by rw [← ho3]; exact e); clear hA3 hg3 hBX hB1 ho3)))) | (refine wpQuiet_split rfl rfl rfl rfl (fun hsp => ?_) (fun hsp => ?_); ((fail_if_success (cases hsp; done)); simp only [hsp]; (try first | have hsq : _ < _ := of_decide_eq_true hsp | have hsq : _ ≤ _ := of_decide_eq_true hsp | have hsq : ¬ _ < _ := of_decide_eq_false hsp | have hsq : ¬ _ ≤ _ := of_decide_eq_false hsp)); rotate_left; ((fail_if_success (cases hsp; done)); simp only [hsp]; (try first | have hsq : _ < _ := of_decide_eq_true hsp | have hsq : _ ≤ _ := of_decide_eq_true hsp | have hsq : ¬ _ < _ := of_decide_eq_false hsp | have hsq : ¬ _ ≤ _ := of_decide_eq_false hsp))))); (all_goals (refine wpQuiet_nil ?_; intro x))) | ((first | with_reducible refine wp_region_seqSe (by kernel_rfl) (by kernel_rfl) ?_ | with_reducible refine wp_region_seqSw (by kernel_rfl) (by kernel_rfl) ?_); (repeat' (first | ((with_reducible refine wpSeqS_pure (by with_unfolding_all rfl) (fun Kq hKq => ?_)); (repeat' (first | go_big_quiet_step (fail) | (refine wpQuiet_split rfl rfl rfl rfl (fun hsp => ?_) (fun hsp => ?_); ((fail_if_success (cases hsp; done)); simp only [hsp]; (try first | have hsq : _ < _ := of_decide_eq_true hsp | have hsq : _ ≤ _ := of_decide_eq_true hsp | have hsq : ¬ _ < _ := of_decide_eq_false hsp | have hsq : ¬ _ ≤ _ := of_decide_eq_false hsp)); rotate_left; ((fail_if_success (cases hsp; done)); simp only [hsp]; (try first | have hsq : _ < _ := of_decide_eq_true hsp | have hsq : _ ≤ _ := of_decide_eq_true hsp | have hsq : ¬ _ < _ := of_decide_eq_false hsp | have hsq : ¬ _ ≤ _ := of_decide_eq_false hsp))))); (all_goals (refine wpQuiet_nil ?_; refine hKq _ ?_; clear hKq Kq))) | ((with_reducible refine wpSeqS_load (by with_unfolding_all rfl) (fun Kq hKq => ?_)); (repeat' (first | go_big_quiet_step (fail) | (refine wpQuiet_split rfl rfl rfl rfl (fun hsp => ?_) (fun hsp => ?_); ((fail_if_success (cases hsp; done)); simp only [hsp]; (try first | have hsq : _ < _ := of_decide_eq_true hsp | have hsq : _ ≤ _ := of_decide_eq_true hsp | have hsq : ¬ _ < _ := of_decide_eq_false hsp | have hsq : ¬ _ ≤ _ := of_decide_eq_false hsp)); rotate_left; ((fail_if_success (cases hsp; done)); simp only [hsp]; (try first | have hsq : _ < _ := of_decide_eq_true hsp | have hsq : _ ≤ _ := of_decide_eq_true hsp | have hsq : ¬ _ < _ := of_decide_eq_false hsp | have hsq : ¬ _ ≤ _ := of_decide_eq_false hsp))))); (all_goals (refine wpQuiet_nil ?_; refine hKq _ ?_; clear hKq Kq))) | ((with_reducible refine wpSeqS_act (by with_unfolding_all rfl) (fun Q' hQ' => ?_)); (go_wp2_with (first | ((go_at_call 49; (with_reducible refine (iRouteOk_any ea d _ _ _ _ _ _ _ (H1.out.stays ((by repeat (first | with_reducible exact Ext.refl _ | with_reducible apply Ext.and | with_reducible apply Ext.drewx | with_reducible apply Ext.alloc | with_reducible apply Ext.ext | with_reducible apply Ext.drew | with_reducible refine Ext.setCell ?_ (by simp) _)) : Ext _ _).below) (H2.out.stays ((by repeat (first | with_reducible exact Ext.refl _ | with_reducible apply Ext.and | with_reducible apply Ext.drewx | with_reducible apply Ext.alloc | with_reducible apply Ext.ext | with_reducible apply Ext.drew | with_reducible refine Ext.setCell ?_ (by simp) _)) : Ext _ _).below) (hp.later (by repeat (first | with_reducible exact Ext.refl _ | with_reducible apply Ext.and | with_reducible apply Ext.drewx | with_reducible apply Ext.alloc | with_reducible apply Ext.ext | with_reducible apply Ext.drew | with_reducible refine Ext.setCell ?_ (by simp) _)))).mono ?_); rintro _ _ ⟨rfl, z1, rfl⟩)) | ((go_at_call 109; (with_reducible refine (isMark_any _ _).mono ?_); rintro _ _ ⟨rfl, z2, rfl⟩)) | ((go_at_call 53; (with_reducible refine (copyRoute_any _ _ _ _ _ _ d.path _ _ _ d.marks _ (H1.out.stays ((by repeat (first | with_reducible exact Ext.refl _ | with_reducible apply Ext.and | with_reducible apply Ext.drewx | with_reducible apply Ext.alloc | with_reducible apply Ext.ext | with_reducible apply Ext.drew | with_reducible refine Ext.setCell ?_ (by simp) _)) : Ext _ _).below) (H2.out.stays ((by repeat (first | with_reducible exact Ext.refl _ | with_reducible apply Ext.and | with_reducible apply Ext.drewx | with_reducible apply Ext.alloc | with_reducible apply Ext.ext | with_reducible apply Ext.drew | with_reducible refine Ext.setCell ?_ (by simp) _)) : Ext _ _).below) (by omega) (by omega)).mono ?_); rintro _ w1 ⟨b1, m1, d1, b2, m2, d2, rfl, C1, y1, rfl⟩; (try rw [ext_ext] at C1); have L1 := C1.1.low; have L2 := C1.2.1.low; have HC1 := hidden C1; clear C1)) | ((go_at_call 112; (with_reducible refine (deleteM_any (w.heap.size + 2) (.slice b2 m2 d2) d.marks (w.heap.size + 1) m _ ((HC1.out.l2.base (by simp <;> omega)).ext ((by repeat (first | with_reducible exact Ext.refl _ | with_reducible apply Ext.and | with_reducible apply Ext.drewx | with_reducible apply Ext.alloc | with_reducible apply Ext.ext | with_reducible apply Ext.drew | with_reducible refine Ext.setCell ?_ (by simp) _)) : Ext _ _)) (by omega) HML.out (by go_simp)).mono ?_); rintro _ w3 ⟨v3, rfl, hA3, hg3, ho3⟩; obtain ⟨b3, m3, d3, rfl⟩ := hA3.shapeL; have nX : some (w.heap.size + 1 + 1 + 1 + ((z1.and z2).and y1).objs.size) ≠ (Value.slice b2 m2 d2).ownBlock := (fun e => by have := L2 _ e.symm; (simp at this <;> omega)); have nN : some (w.heap.size + 1 + 1) ≠ (Value.slice b2 m2 d2).ownBlock := (fun e => by have := L2 _ e.symm; (simp at this <;> omega)); have hBX := ((Blk.newAt (ext (((w.alloc (.cells #[.int .i64 d.r.f, .int .i64 d.r.b, .slice a1 n1 c1, .int .i64 d.like, .slice a2 n2 c2] 32)).alloc (.cells #[.int .i64 m] 3)).alloc (.cells #[.int .i64 0, .int .i64 0, .slice none 0 0, .int .i64 0, .slice none 0 0] 32)) ((z1.and z2).and y1)) #[.int .i64 d.r.f, .int .i64 d.r.b, .slice b1 m1 d1, .int .i64 d.like, .slice b2 m2 d2] 32 (B := (w.heap.size + 1 + 1 + 1 + ((z1.and z2).and y1).objs.size)) (by simp)).extends ((by repeat (first | with_reducible exact Ext.refl _ | with_reducible apply Ext.and | with_reducible apply Ext.drewx | with_reducible apply Ext.alloc | with_reducible apply Ext.ext | with_reducible apply Ext.drew | with_reducible refine Ext.setCell ?_ (by simp) _)) : Ext _ _)).grown hg3 nX; have hB1 := ((Blk.newAt ((w.alloc (.cells #[.int .i64 d.r.f, .int .i64 d.r.b, .slice a1 n1 c1, .int .i64 d.like, .slice a2 n2 c2] 32)).alloc (.cells #[.int .i64 m] 3)) #[.int .i64 0, .int .i64 0, .slice none 0 0, .int .i64 0, .slice none 0 0] 32 (B := w.heap.size + 1 + 1) (by simp)).extends ((by repeat (first | with_reducible exact Ext.refl _ | with_reducible apply Ext.and | with_reducible apply Ext.drewx | with_reducible apply Ext.alloc | with_reducible apply Ext.ext | with_reducible apply Ext.drew | with_reducible refine Ext.setCell ?_ (by simp) _)) : Ext _ _)).grown hg3 nN; have x0 := hBX.cell (j := 0) rfl; have x1 := hBX.cell (j := 1) rfl; have x2 := hBX.cell (j := 2) rfl; have x3 := hBX.cell (j := 3) rfl; have x4 := hBX.cell (j := 4) rfl; have xf := hBX.frozen 4; have lX := hBX.lt; have r0 := hB1.cell (j := 0) rfl; have rf0 := hB1.frozen 0; have r1 := hB1.cell (j := 1) rfl; have rf1 := hB1.frozen 1; have r2 := hB1.cell (j := 2) rfl; have rf2 := hB1.frozen 2; have r3 := hB1.cell (j := 3) rfl; have rf3 := hB1.frozen 3; have r4 := hB1.cell (j := 4) rfl; have rf4 := hB1.frozen 4; have lN := hB1.lt; have hE3 := Ext.by ((by repeat (first | with_reducible exact Ext.refl _ | with_reducible apply Ext.and | with_reducible apply Ext.drewx | with_reducible apply Ext.alloc | with_reducible apply Ext.ext | with_reducible apply Ext.drew | with_reducible refine Ext.setCell ?_ (by simp) _)) : Ext w _) hg3 (fun j hj => by have := L2 _ hj; (simp at this <;> omega)); have HC := hidden (show Cp w.heap.size w3 (.slice b1 m1 d1) (.slice b3 m3 d3) d.path (d.marks.filter (fun x => x != m)) from ⟨((HC1.out.l1.base ((by repeat (first | with_reducible exact Ext.refl _ | with_reducible apply Ext.and | with_reducible apply Ext.drewx | with_reducible apply Ext.alloc | with_reducible apply Ext.ext | with_reducible apply Ext.drew | with_reducible refine Ext.setCell ?_ (by simp) _)) : Ext w _).size).ext ((by repeat (first | with_reducible exact Ext.refl _ | with_reducible apply Ext.and | with_reducible apply Ext.drewx | with_reducible apply Ext.alloc | with_reducible apply Ext.ext | with_reducible apply Ext.drew | with_reducible refine Ext.setCell ?_ (by simp) _)) : Ext _ _)).kept hg3 (fun b e e' => HC1.out.2.2 b e' e), hA3.base (by omega), fun b e e' => HC1.out.2.2 b e (by rw [← ho3]; exact e')⟩); have L3 : ∀ b, (Value.slice b3 m3 d3).ownBlock = some b → (Value.slice b2 m2 d2).ownBlock = some b := (fun b e => by rw [← ho3]; exact e); clear hA3 hg3 hBX hB1 ho3)))); (all_goals (refine hQ' _ _ rfl ?_ ?_; (first | (focus (intro hbk; simp [brkB] at hbk; done)) | (focus (intro _; change Ext _ _; exact (by repeat (first | with_reducible assumption | with_reducible exact Ext.refl _ | with_reducible apply Ext.and | with_reducible apply Ext.drewx | with_reducible apply Ext.alloc | with_reducible apply Ext.ext | with_reducible apply Ext.drew | with_reducible refine Ext.setCell ?_ (by simp) _))))); clear hQ' Q'))))); (all_goals ((with_reducible refine wpSeqS_nil ?_)))))
    rw [HR.out]
    exact bodyPost_ret (v := .tuple #[.agg #[.int .i64 d.r.f, .int .i64 d.r.b, .slice b1 m1 d1, .int .i64 d.like, .slice b3 m3 d3], .bool true]) (by simp [results, Tryz.results55, go_sem, r0, r1, r2, r3, r4]) rfl ⟨_, _, _, _, _, _, rfl, Cp.fin (lo := w.heap.size) (d := { d with marks := d.marks.filter (fun x => x != m) }) (by repeat (first | with_reducible refine Cp.set ?_ (fun e => by have := L1 _ e; (simp at this <;> omega)) (fun e => by have := L2 _ (L3 _ e); (simp at this <;> omega)) _ | with_reducible exact HC.out)) (by repeat (first | with_reducible exact hE3 | with_reducible refine Ext.setCell ?_ (by simp <;> omega) _)) (Nat.le_refl _) I1.out I2.out I3.out⟩
  all_goals
    have HR := hidden (rclear_no (d := d) (m := m) (by simp [*]))
    go_enter Tryz.func55, Tryz.ntmps55
    go_wp2_with (first | (first | ((go_at_call 49; (with_reducible refine (iRouteOk_any ea d _ _ _ _ _ _ _ (H1.out.stays ((by repeat (first | with_reducible exact Ext.refl _ | with_reducible apply Ext.and | with_reducible apply Ext.drewx | with_reducible apply Ext.alloc | with_reducible apply Ext.ext | with_reducible apply Ext.drew | with_reducible refine Ext.setCell ?_ (by simp) _)) : Ext _ _).below) (H2.out.stays ((by repeat (first | with_reducible exact Ext.refl _ | with_reducible apply Ext.and | with_reducible apply Ext.drewx | with_reducible apply Ext.alloc | with_reducible apply Ext.ext | with_reducible apply Ext.drew | with_reducible refine Ext.setCell ?_ (by simp) _)) : Ext _ _).below) (hp.later (by repeat (first | with_reducible exact Ext.refl _ | with_reducible apply Ext.and | with_reducible apply Ext.drewx | with_reducible apply Ext.alloc | with_reducible apply Ext.ext | with_reducible apply Ext.drew | with_reducible refine Ext.setCell ?_ (by simp) _)))).mono ?_); rintro _ _ ⟨rfl, z1, rfl⟩)) | ((go_at_call 109; (with_reducible refine (isMark_any _ _).mono ?_); rintro _ _ ⟨rfl, z2, rfl⟩))) | ((first | with_reducible refine wp_region_qe (by kernel_rfl) (by kernel_rfl) ?_ | with_reducible refine wp_region_q (by kernel_rfl) (by kernel_rfl) ?_); (repeat' (first | go_big_quiet_step ((first | ((go_at_call 49; (with_reducible refine (iRouteOk_any ea d _ _ _ _ _ _ _ (H1.out.stays ((by repeat (first | with_reducible exact Ext.refl _ | with_reducible apply Ext.and | with_reducible apply Ext.drewx | with_reducible apply Ext.alloc | with_reducible apply Ext.ext | with_reducible apply Ext.drew | with_reducible refine Ext.setCell ?_ (by simp) _)) : Ext _ _).below) (H2.out.stays ((by repeat (first | with_reducible exact Ext.refl _ | with_reducible apply Ext.and | with_reducible apply Ext.drewx | with_reducible apply Ext.alloc | with_reducible apply Ext.ext | with_reducible apply Ext.drew | with_reducible refine Ext.setCell ?_ (by simp) _)) : Ext _ _).below) (hp.later (by repeat (first | with_reducible exact Ext.refl _ | with_reducible apply Ext.and | with_reducible apply Ext.drewx | with_reducible apply Ext.alloc | with_reducible apply Ext.ext | with_reducible apply Ext.drew | with_reducible refine Ext.setCell ?_ (by simp) _)))).mono ?_); rintro _ _ ⟨rfl, z1, rfl⟩)) | ((go_at_call 109; (with_reducible refine (isMark_any _ _).mono ?_); rintro _ _ ⟨rfl, z2, rfl⟩)))) | (refine wpQuiet_split rfl rfl rfl rfl (fun hsp => ?_) (fun hsp => ?_); ((fail_if_success (cases hsp; done)); simp only [hsp]; (try first | have hsq : _ < _ := of_decide_eq_true hsp | have hsq : _ ≤ _ := of_decide_eq_true hsp | have hsq : ¬ _ < _ := of_decide_eq_false hsp | have hsq : ¬ _ ≤ _ := of_decide_eq_false hsp)); rotate_left; ((fail_if_success (cases hsp; done)); simp only [hsp]; (try first | have hsq : _ < _ := of_decide_eq_true hsp | have hsq : _ ≤ _ := of_decide_eq_true hsp | have hsq : ¬ _ < _ := of_decide_eq_false hsp | have hsq : ¬ _ ≤ _ := of_decide_eq_false hsp))))); (all_goals (refine wpQuiet_nil ?_; intro x))) | ((first | with_reducible refine wp_region_seqSe (by kernel_rfl) (by kernel_rfl) ?_ | with_reducible refine wp_region_seqSw (by kernel_rfl) (by kernel_rfl) ?_); (repeat' (first | ((with_reducible refine wpSeqS_pure (by with_unfolding_all rfl) (fun Kq hKq => ?_)); (repeat' (first | go_big_quiet_step (fail) | (refine wpQuiet_split rfl rfl rfl rfl (fun hsp => ?_) (fun hsp => ?_); ((fail_if_success (cases hsp; done)); simp only [hsp]; (try first | have hsq : _ < _ := of_decide_eq_true hsp | have hsq : _ ≤ _ := of_decide_eq_true hsp | have hsq : ¬ _ < _ := of_decide_eq_false hsp | have hsq : ¬ _ ≤ _ := of_decide_eq_false hsp)); rotate_left; ((fail_if_success (cases hsp; done)); simp only [hsp]; (try first | have hsq : _ < _ := of_decide_eq_true hsp | have hsq : _ ≤ _ := of_decide_eq_true hsp | have hsq : ¬ _ < _ := of_decide_eq_false hsp | have hsq : ¬ _ ≤ _ := of_decide_eq_false hsp))))); (all_goals (refine wpQuiet_nil ?_; refine hKq _ ?_; clear hKq Kq))) | ((with_reducible refine wpSeqS_load (by with_unfolding_all rfl) (fun Kq hKq => ?_)); (repeat' (first | go_big_quiet_step (fail) | (refine wpQuiet_split rfl rfl rfl rfl (fun hsp => ?_) (fun hsp => ?_); ((fail_if_success (cases hsp; done)); simp only [hsp]; (try first | have hsq : _ < _ := of_decide_eq_true hsp | have hsq : _ ≤ _ := of_decide_eq_true hsp | have hsq : ¬ _ < _ := of_decide_eq_false hsp | have hsq : ¬ _ ≤ _ := of_decide_eq_false hsp)); rotate_left; ((fail_if_success (cases hsp; done)); simp only [hsp]; (try first | have hsq : _ < _ := of_decide_eq_true hsp | have hsq : _ ≤ _ := of_decide_eq_true hsp | have hsq : ¬ _ < _ := of_decide_eq_false hsp | have hsq : ¬ _ ≤ _ := of_decide_eq_false hsp))))); (all_goals (refine wpQuiet_nil ?_; refine hKq _ ?_; clear hKq Kq))) | ((with_reducible refine wpSeqS_act (by with_unfolding_all rfl) (fun Q' hQ' => ?_)); (go_wp2_with (first | ((go_at_call 49; (with_reducible refine (iRouteOk_any ea d _ _ _ _ _ _ _ (H1.out.stays ((by repeat (first | with_reducible exact Ext.refl _ | with_reducible apply Ext.and | with_reducible apply Ext.drewx | with_reducible apply Ext.alloc | with_reducible apply Ext.ext | with_reducible apply Ext.drew | with_reducible refine Ext.setCell ?_ (by simp) _)) : Ext _ _).below) (H2.out.stays ((by repeat (first | with_reducible exact Ext.refl _ | with_reducible apply Ext.and | with_reducible apply Ext.drewx | with_reducible apply Ext.alloc | with_reducible apply Ext.ext | with_reducible apply Ext.drew | with_reducible refine Ext.setCell ?_ (by simp) _)) : Ext _ _).below) (hp.later (by repeat (first | with_reducible exact Ext.refl _ | with_reducible apply Ext.and | with_reducible apply Ext.drewx | with_reducible apply Ext.alloc | with_reducible apply Ext.ext | with_reducible apply Ext.drew | with_reducible refine Ext.setCell ?_ (by simp) _)))).mono ?_); rintro _ _ ⟨rfl, z1, rfl⟩)) | ((go_at_call 109; (with_reducible refine (isMark_any _ _).mono ?_); rintro _ _ ⟨rfl, z2, rfl⟩)))); (all_goals (refine hQ' _ _ rfl ?_ ?_; (first | (focus (intro hbk; simp [brkB] at hbk; done)) | (focus (intro _; change Ext _ _; exact (by repeat (first | with_reducible assumption | with_reducible exact Ext.refl _ | with_reducible apply Ext.and | with_reducible apply Ext.drewx | with_reducible apply Ext.alloc | with_reducible apply Ext.ext | with_reducible apply Ext.drew | with_reducible refine Ext.setCell ?_ (by simp) _))))); clear hQ' Q'))))); (all_goals ((with_reducible refine wpSeqS_nil ?_)))))
    rw [HR.out]
    exact bodyPost_ret (v := .tuple #[.agg #[.int .i64 0, .int .i64 0, .slice none 0 0, .int .i64 0, .slice none 0 0], .bool false]) (by simp [results, Tryz.results55, go_sem]) rfl ⟨_, _, _, _, _, _, rfl, fin_rt0 (by repeat (first | with_reducible exact Ext.refl _ | with_reducible apply Ext.and | with_reducible apply Ext.drewx | with_reducible apply Ext.alloc | with_reducible apply Ext.ext | with_reducible apply Ext.drew | with_reducible refine Ext.setCell ?_ (by simp) _))⟩

end Go.Proofs.YtjeofgalgfopdaaGreatDoor
