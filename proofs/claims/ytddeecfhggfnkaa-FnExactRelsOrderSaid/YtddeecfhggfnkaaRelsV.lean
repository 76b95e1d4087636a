/- What the program's map of couples holds while it is filled: plain. No condition. -/
import Derived.Test.YtddeecfhggfnkaaMapK
namespace Go.Proofs.Ytddeecfhggfnkaa
open Go Go.RowKit Go.Maps

abbrev WF (a : Int) : Prop := (Lit.int .i64 a).wf = true
theorem WF_of {a : Int} (h : -9223372036854775808 ≤ a) (h' : a < 9223372036854775808) : WF a :=
  WalkArith.wf_i64 (by omega)

/-- What has been read when i rows and k places of the next are over. -/
def vP (m : List (List Int)) (i k : Nat) (a b : Int) : Int :=
  if (1 ≤ a ∧ 1 ≤ b ∧ b ≤ m.length) ∧ (a - 1 < i ∨ a - 1 = i ∧ b - 1 < k) then gJ m a b else 0
def gP (m : List (List Int)) (a b : Int) : Int := if (1 ≤ a ∧ a ≤ m.length) ∧ (1 ≤ b ∧ b ≤ m.length) then gJ m a b else 0

abbrev Dm := DataW Unit
abbrev zL (v : Int) : Dm := .lit (.int .i64 v)
/-- The map holds just that. -/
def Fl (D : Dm) (f : Int → Int → Int) : Prop := ∀ a b, WF a → WF b → D.atKey (ck a b) (zL 0) = zL (f a b) ∧ (Maps.has D (ck a b) = true ↔ f a b ≠ 0)

theorem fl_start (m : List (List Int)) : Fl (.map []) (vP m 0 0) := by
  intro a b _ _
  have e : vP m 0 0 a b = 0 := by unfold vP; rw [if_neg]; omega
  rw [e]
  exact ⟨rfl, by simp [Maps.has]⟩
theorem fl_eq {D : Dm} {f g : Int → Int → Int} (h : Fl D f) (e : ∀ a b, f a b = g a b) : Fl D g := fun a b ha hb => by
  rw [← e a b]; exact h a b ha hb
theorem vP_other {m : List (List Int)} {i k : Nat} {a b : Int} (h : ¬ (a = i + 1 ∧ b = k + 1)) : vP m i (k + 1) a b = vP m i k a b := by
  unfold vP
  by_cases h1 : (1 ≤ a ∧ 1 ≤ b ∧ b ≤ (m.length : Int)) ∧ (a - 1 < i ∨ a - 1 = i ∧ b - 1 < k)
  · rw [if_pos h1, if_pos (by omega)]
  · rw [if_neg h1, if_neg (by omega)]
theorem vP_at {m : List (List Int)} {i k : Nat} (hk : k < m.length) : vP m i (k + 1) (i + 1) (k + 1) = gI m i k := by
  unfold vP; rw [if_pos (by omega)]; exact gJ_nat m i k
theorem vP_before {m : List (List Int)} {i k : Nat} : vP m i k (i + 1) (k + 1) = 0 := by
  unfold vP; rw [if_neg (by omega)]
theorem fl_zero {m : List (List Int)} {D : Dm} {i k : Nat} (h : Fl D (vP m i k)) (hk : k < m.length) (hz : gI m i k = 0) : Fl D (vP m i (k + 1)) :=
  fl_eq h fun a b => by
    by_cases e : a = i + 1 ∧ b = k + 1
    · obtain ⟨rfl, rfl⟩ := e; rw [vP_at hk, vP_before, hz]
    · exact (vP_other e).symm
theorem fl_put {m : List (List Int)} {D : Dm} {i k : Nat} (h : Fl D (vP m i k)) (hD : Maps.IsMap D) (hk : k < m.length) (wi : WF (i + 1)) (wk : WF (k + 1)) (hz : gI m i k ≠ 0) :
    Fl (D.put (ck (i + 1) (k + 1)) (zL (gI m i k))) (vP m i (k + 1)) := by
  intro a b ha hb
  have hkey : WideAt.IsKeyLit (ck ((i : Int) + 1) ((k : Int) + 1)) := ck_key wi wk
  by_cases e : a = i + 1 ∧ b = k + 1
  · obtain ⟨rfl, rfl⟩ := e
    rw [vP_at hk, Maps.atKey_put_same hD hkey, Maps.has_put_same hD hkey]
    exact ⟨rfl, by simp [hz]⟩
  · have hne : ck a b ≠ ck ((i : Int) + 1) ((k : Int) + 1) := fun h' => e (ck_inj ha hb wi wk h')
    rw [vP_other e, Maps.atKey_put_other hne, Maps.has_put_other hne]
    exact h a b ha hb
theorem fl_row {m : List (List Int)} {D : Dm} {i : Nat} (h : Fl D (vP m i m.length)) : Fl D (vP m (i + 1) 0) :=
  fl_eq h fun a b => by
    unfold vP
    by_cases h1 : (1 ≤ a ∧ 1 ≤ b ∧ b ≤ (m.length : Int)) ∧ (a - 1 < i ∨ a - 1 = i ∧ b - 1 < m.length)
    · rw [if_pos h1, if_pos (by omega)]
    · rw [if_neg h1, if_neg (by omega)]
theorem fl_end {m : List (List Int)} {D : Dm} (h : Fl D (vP m m.length 0)) : Fl D (gP m) :=
  fl_eq h fun a b => by
    unfold vP gP
    by_cases h1 : (1 ≤ a ∧ a ≤ (m.length : Int)) ∧ (1 ≤ b ∧ b ≤ (m.length : Int))
    · rw [if_pos h1, if_pos (by omega)]
    · rw [if_neg h1, if_neg (by omega)]

/-- What the program asks of each couple that the map holds. -/
def pass (m : List (List Int)) (a b : Int) : Prop := a ≠ b ∧ gP m b a = bk (gP m a b)
theorem gP_nat {m : List (List Int)} {i k : Nat} (hi : i < m.length) (hk : k < m.length) : gP m (i + 1) (k + 1) = gI m i k := by
  unfold gP; rw [if_pos (by omega)]; exact gJ_nat m i k
theorem bk_zero {r : Int} (h : bk r = 0) : r = 0 := by unfold bk at h; split at h <;> (try split at h) <;> omega

/-- All stands: so the table is valid. -/
theorem rls_of_pass {m : List (List Int)} (h1 : 1 ≤ m.length) (h5 : m.length ≤ 5) (hr : ∀ i, i < m.length → (m.getD i []).length = m.length ∧ ∀ k, k < m.length → 0 ≤ gI m i k ∧ gI m i k ≤ 3)
    (hp : ∀ a b, WF a → WF b → gP m a b ≠ 0 → pass m a b) : rls m = true := by
  have w : ∀ i, i < m.length → WF ((i : Int) + 1) := fun i hi => WF_of (by omega) (by omega)
  refine decide_eq_true ⟨fun i hi => ⟨(hr i hi).1, fun k hk => ?_⟩, h1, h5⟩
  refine ⟨(hr k hk).1, ((hr i hi).2 k hk).1, ((hr i hi).2 k hk).2, ?_, ?_⟩
  · by_cases z : gI m i k = 0
    · rw [z]
      by_cases z' : gI m k i = 0
      · rw [z']; rfl
      · have := (hp _ _ (w k hk) (w i hi) (by rw [gP_nat hk hi]; exact z')).2
        rw [gP_nat hk hi, gP_nat hi hk, z] at this
        exact absurd (bk_zero this.symm) z'
    · have := (hp _ _ (w i hi) (w k hk) (by rw [gP_nat hi hk]; exact z)).2
      rwa [gP_nat hk hi, gP_nat hi hk] at this
  · rintro rfl
    by_cases z : gI m i i = 0
    · exact z
    · exact absurd rfl (hp _ _ (w i hi) (w i hi) (by rw [gP_nat hi hi]; exact z)).1
/-- One does not: so it is not. -/
theorem rls_no_pass {m : List (List Int)} {a b : Int} (h : gP m a b ≠ 0) (hp : ¬ pass m a b) : rls m = false := by
  cases hr : rls m
  · rfl
  · obtain ⟨h1, h5, hrow⟩ := rls_parts hr
    exfalso
    have hin : (1 ≤ a ∧ a ≤ (m.length : Int)) ∧ (1 ≤ b ∧ b ≤ (m.length : Int)) := by
      by_cases h' : (1 ≤ a ∧ a ≤ (m.length : Int)) ∧ (1 ≤ b ∧ b ≤ (m.length : Int))
      · exact h'
      · exact absurd (if_neg h') h
    obtain ⟨i, rfl⟩ : ∃ i : Nat, a = i + 1 := ⟨(a - 1).toNat, by omega⟩
    obtain ⟨k, rfl⟩ : ∃ k : Nat, b = k + 1 := ⟨(b - 1).toNat, by omega⟩
    have hi : i < m.length := by omega
    have hk : k < m.length := by omega
    have hc := (hrow i hi).2 k hk
    rw [gP_nat hi hk] at h
    refine hp ⟨fun e => h (hc.2.2.2.2 (by omega)), ?_⟩
    rw [gP_nat hk hi, gP_nat hi hk]; exact hc.2.2.2.1

end Go.Proofs.Ytddeecfhggfnkaa
