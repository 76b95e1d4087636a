/- Routing tables whose session is established: what the functions do. No condition. -/
import Derived.Test.YtlehcnfmagjilaaGreatDoorSes
namespace Go.Proofs.YtlehcnfmagjilaaGreatDoor
open Go Go.RowKit

def rb0 : Rb := ⟨0, false, []⟩
theorem rib_house64 {d : Rb} (h : ribOk d = true) : I64 d.house := by
  simp only [ribOk, Bool.and_eq_true] at h
  have := inB_true.1 h.1
  exact I64.mk (by omega) (by omega)
theorem rib_rts {d : Rb} (h : ribOk d = true) : ∀ g ∈ d.all, rtOk g.route = true := fun g hg => by
  obtain ⟨i, hi, rfl⟩ := List.mem_iff_getElem.1 hg
  exact ribOk_got h (List.getElem?_eq_getElem hi)
theorem fin_rb {w w1 : World} {N : Nat} {e : TypeId} {a : Option Addr} {n c : Nat} {fps : List (List Nat)} {d : Rb} (h : AccO N e w1 (.slice a n c) d.all fps) (hN : w.heap.size ≤ N) (hE : Ext w w1) (hf : ∀ b ∈ fps.flatten, w.heap.size ≤ b) (i : I64 d.house) :
    ∃ x, w1 = Go.Proofs.YtlehcnfmagjilaaGreatDoor.ext w x ∧ Hid (Fresh w (Go.Proofs.YtlehcnfmagjilaaGreatDoor.ext w x) [.int .i64 d.house, .bool d.up, .slice a n c] d) := by
  obtain ⟨a', n', c', e1, hfr⟩ := (h.base hN).fresh hE hf
  simp only [Value.slice.injEq] at e1
  obtain ⟨rfl, rfl, rfl⟩ := e1
  obtain ⟨_, fp, ho, hn, hb⟩ := hfr
  obtain ⟨x, rfl⟩ := hE
  exact ⟨x, rfl, Ext.ext (Ext.refl w) x, fp, ⟨_, _, _, fp, rfl, i, own_slice ho, rfl⟩, hn, hb⟩
theorem fin_rb0 {w w1 : World} (hE : Ext w w1) : ∃ x, w1 = Go.Proofs.YtlehcnfmagjilaaGreatDoor.ext w x ∧ Hid (Fresh w (Go.Proofs.YtlehcnfmagjilaaGreatDoor.ext w x) [.int .i64 rb0.house, .bool rb0.up, .slice none 0 0] rb0) :=
  fin_rb (N := w.heap.size) (e := 0) (fps := []) AccO.nil (Nat.le_refl _) hE (by simp) (I64.mk (by decide) (by decide))
section
variable {N : Nat} {w : World} {s : Nat} {hs many : Int} {up : Bool} {L : List Nd}
theorem Ses.cell0 (h : Ses N w s hs up many L) {cs : List Value} {j : Nat} {v : Value} (hb : Blk (w.setCell ⟨s, j, none⟩ v) s 113 cs) {hs' many' : Int} {up' : Bool} (hc : cs = [.int .i64 hs', .bool up', hdv L nilp, .int .i64 many']) : Ses N (w.setCell ⟨s, j, none⟩ v) s hs' up' many' L := by
  obtain ⟨h1, h2, h3, h4, h5⟩ := h
  subst hc
  have hk : ∀ b ∈ allB L, (w.setCell ⟨s, j, none⟩ v).heap[b]? = w.heap[b]? := fun b hb' => Below.heap_setCell _ _ _ _ (fun e => by
    have e : b = s := e
    exact (List.nodup_cons.1 h4).1 (e ▸ hb'))
  exact ⟨hb, h2.frame fun n hn => hk _ (mem_allB_b hn), fun n hn => (h3 n hn).frame (hk _ (mem_allB_b hn)) fun _ hb' => hk _ (mem_allB_f hn hb'), h4, h5⟩
theorem Ses.setUp (h : Ses N w s hs up many L) (u : Bool) : Ses N (w.setCell ⟨s, 1, none⟩ (.bool u)) s hs u many L := h.cell0 (h.1.set 1 _) rfl
theorem Ses.setMany (h : Ses N w s hs up many L) (m : Int) : Ses N (w.setCell ⟨s, 3, none⟩ (.int .i64 m)) s hs up m L := h.cell0 (h.1.set 3 _) rfl
theorem Ses.fge (h : Ses N w s hs up many L) : ∀ b ∈ (L.map Nd.f).flatten, N ≤ b := fun b hb => h.2.2.2.2 b (List.mem_cons_of_mem _ (List.mem_append.2 (.inr hb)))
theorem Ses.flt (h : Ses N w s hs up many L) : ∀ b ∈ (L.map Nd.f).flatten, b < w.heap.size := fun b hb => h.lt b (List.mem_cons_of_mem _ (List.mem_append.2 (.inr hb)))
end

noncomputable def ribUp (d : Rb) : Rb := if ribOk d = true then ⟨d.house, true, d.all⟩ else rb0
theorem ribUp_no {d : Rb} (h : ribOk d = false) : ribUp d = rb0 := by unfold ribUp; rw [h]; rfl
theorem ribUp_yes {d : Rb} (h : ribOk d = true) : ribUp d = ⟨d.house, true, d.all⟩ := by unfold ribUp; rw [h]; rfl

theorem mem_sapp {A B : List Nd} {s b : Nat} (h : b ∈ s :: allB A) : b ∈ s :: allB (A ++ B) := by
  rcases List.mem_cons.1 h with rfl | h
  · simp
  · exact List.mem_cons_of_mem _ (allB_perm.mem_iff.2 (List.mem_append.2 (.inl h)))
theorem hdv_ptr (B : List Nd) : ∃ q, hdv B nilp = .pointer q := by cases B <;> exact ⟨_, rfl⟩
/-- The cell that a link is. -/
def atA (w : World) (p : Value) : Option Value := match p with | .pointer (some a) => w.cell? a | _ => none

end Go.Proofs.YtlehcnfmagjilaaGreatDoor
