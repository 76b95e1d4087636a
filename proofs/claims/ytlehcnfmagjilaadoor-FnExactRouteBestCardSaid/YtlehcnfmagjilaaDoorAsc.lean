/- Lists each element of which is fine and stands rightly behind the one ahead: plain. No condition. -/
import Derived.Test.YtlehcnfmagjilaaDoorSz
import Derived.Test.YtlehcnfmagjilaaDoorRp
namespace Go.Proofs.YtlehcnfmagjilaaDoor
open Go Go.RowKit

/-- The first k elements are fine, and each stands rightly behind the one ahead of it. -/
def AscK {α : Type} (ok : α → Bool) (lt : α → α → Bool) (l : List α) (k : Nat) : Prop :=
  (∀ i e, i < k → l[i]? = some e → ok e = true) ∧ ∀ i e e', i + 1 < k → l[i]? = some e → l[i + 1]? = some e' → lt e e' = true
open Classical in
noncomputable def ascB {α : Type} (ok : α → Bool) (lt : α → α → Bool) (l : List α) : Bool := decide (AscK ok lt l l.length)

section
variable {α : Type} {ok : α → Bool} {lt : α → α → Bool} {l : List α} {k : Nat} {d p : α}
theorem AscK.zero : AscK ok lt l 0 := ⟨fun _ _ h => absurd h (Nat.not_lt_zero _), fun _ _ _ h => absurd h (Nat.not_lt_zero _)⟩
theorem AscK.one (hd : l[0]? = some d) (h : ok d = true) : AscK ok lt l 1 :=
  ⟨fun i e hi he => by obtain rfl : i = 0 := by omega
                       rw [hd] at he; exact Option.some.inj he ▸ h, fun i _ _ hi => by omega⟩
theorem AscK.succ (ha : AscK ok lt l (k + 1)) (hp : l[k]? = some p) (hd : l[k + 1]? = some d) (h : ok d = true) (h' : lt p d = true) : AscK ok lt l (k + 1 + 1) := by
  refine ⟨fun i e hi he => ?_, fun i e e' hi he he' => ?_⟩
  · by_cases hik : i = k + 1
    · subst hik; rw [hd] at he; exact Option.some.inj he ▸ h
    · exact ha.1 i e (by omega) he
  · by_cases hik : i = k
    · subst hik; rw [hp] at he; rw [hd] at he'; exact Option.some.inj he ▸ Option.some.inj he' ▸ h'
    · exact ha.2 i e e' (by omega) he he'
open Classical in
theorem ascB_iff : ascB ok lt l = true ↔ AscK ok lt l l.length := by unfold ascB; exact decide_eq_true_iff
theorem ascB_all (h : AscK ok lt l k) (hk : l.length = k) : ascB ok lt l = true := ascB_iff.2 (hk ▸ h)
theorem ascB_ok (hd : l[k]? = some d) (h : ok d = false) : ascB ok lt l = false := by
  cases hb : ascB ok lt l
  · rfl
  · have := (ascB_iff.1 hb).1 k d (List.getElem?_eq_some_iff.1 hd).1 hd
    rw [h] at this; cases this
theorem ascB_lt (hp : l[k]? = some p) (hd : l[k + 1]? = some d) (h : lt p d = false) : ascB ok lt l = false := by
  cases hb : ascB ok lt l
  · rfl
  · have := (ascB_iff.1 hb).2 k p d (List.getElem?_eq_some_iff.1 hd).1 hp hd
    rw [h] at this; cases this
theorem ascB_oks (h : ascB ok lt l = true) (hd : d ∈ l) : ok d = true := by
  obtain ⟨i, hi, rfl⟩ := List.mem_iff_getElem.1 hd
  exact (ascB_iff.1 h).1 i _ hi (List.getElem?_eq_getElem hi)
end

/-- How two ranges stand to each other. -/
def rc (a b : Rg) : Int := orL [cmpI a.f b.f, cmpI a.b b.b]
def rlt (a b : Rg) : Bool := decide (rc a b < 0)
theorem rcmp_ok {a b : Rg} (h : rok a.f a.b = true) (h' : rok b.f b.b = true) : rcmp a.f a.b b.f b.b = rc a b := by simp [rcmp, rc, h, h']
theorem rc_bd (a b : Rg) : -1 ≤ rc a b ∧ rc a b ≤ 1 := by
  have h1 := cmpI_bd a.f b.f
  have h2 := cmpI_bd a.b b.b
  simp only [rc, orL]
  split
  · split <;> omega
  · omega

def enOk (e : En) : Bool := rok e.r.f e.r.b && inB e.via 1 9
noncomputable def tbl (t : List En) : Bool := ascB enOk (fun a b => rlt a.r b.r) t && decide (t.length ≤ 12)

end Go.Proofs.YtlehcnfmagjilaaDoor
