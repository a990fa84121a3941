/- More roads to contracts: functions that return a list that they made and that nobody writes any more (frozen rows). -/
import Derived.Test.YtfhckpfiegenaaaGreatDoorEngC
namespace Go.Proofs.YtfhckpfiegenaaaGreatDoor.Eng
open Go Go.RowKit
/-- The rows of a list that is written no more. -/
structure RowsF (A : Option Addr) (sz n : Nat) (F : Nat → List SC) (w : World) : Prop where
  at_ : ∀ j, j < n → A.isSome = true ∧ RowAt (fun _ => False) w A sz (F j) j
theorem cell_same {w w' : World} {a : Addr} (h : w'.heap[a.block]? = w.heap[a.block]?) : w'.cell? a = w.cell? a := by
  unfold World.cell?
  rw [h]
theorem RowAt.same {w w' : World} {A : Option Addr} {sz j : Nat} {cs : List SC} (h : RowAt (fun _ => False) w A sz cs j) (hb : ∀ a, A = some a → w'.heap[a.block]? = w.heap[a.block]?) : RowAt (fun _ => False) w' A sz cs j := by
  obtain ⟨⟨a, hA, hl, hO, hlt, hc⟩⟩ := h
  have hs := hb a hA
  refine ⟨⟨a, hA, ?_, hO, hlt, fun i c hi => ?_⟩⟩
  · rw [Array.getElem?_eq_getElem hl] at hs
    exact (Array.getElem?_eq_some_iff.1 hs).1
  · have hb2 : (a.add (j * sz + i)).block = a.block := by unfold Addr.add; split <;> rfl
    rw [cell_same (w := w) (by rw [hb2]; exact hs)]
    exact hc i c hi
/-- A list of one's own is given away: what is known of it stands for good. -/
theorem Inv.freeze {O : Nat → Prop} {w0 w w' : World} {β β2 : Env} {M : List Blk} {e : TypeId} {sz n : Nat} {F : Nat → List SC} (h : Inv O w0 β M w) (hf : Fr (fun _ => False) w w') (hM : memLt M.length M = true) (h2 : Inv (fun _ => False) w β2 [.lst e sz n F] w') :
    Inv O w0 β (M ++ [.fz (RowsF (β2.v 0).1 sz n F)]) w' := by
  have hI := h.after hf
  have hL := h2.ls 0 e sz n F rfl
  have hr := h2.rows (k := 0) rfl
  refine hI.grow hM _ (Ext.refl _ _) hI.fr (fun _ _ _ _ => rfl) (fun _ _ _ _ hr => hr.elim) (fun _ _ e2 => by cases e2) (fun _ _ _ _ e2 => by cases e2) (fun hr => hr.elim) (fun i Q hi => ?_) (fun _ e2 => by cases e2) (fun Q e2 => ?_)
  · refine (hI.fz i Q hi).step (Nat.le_refl _) (Nat.le_refl _) fun r _ _ h3 => ⟨rfl, fun j a hj hra => ?_⟩
    rcases get_push hj with ⟨hlt, hj⟩ | ⟨rfl, rfl⟩
    · exact h3 j a hj hra
    · exact hra.elim
  · cases e2
    refine ⟨fun r => (β2.v 0).1.isSome = true ∧ r = β2 0, fun r hr2 => ?_, fun w2 hw => ⟨fun j hj => ⟨(hr.2 j hj).1, (hr.2 j hj).2.same fun a ha => ?_⟩⟩⟩
    · obtain ⟨hs, rfl⟩ := hr2
      have hlow : w.heap.size ≤ β2 0 := by
        rcases h2.low 0 _ rfl hs with h4 | h4
        · exact h4
        · exact h4.elim
      refine ⟨Nat.le_trans h.fr.size hlow, h2.lt rfl (a := .lst e sz n F) (i := 0) hs, fun j a hj hra he => ?_⟩
      rcases get_push hj with ⟨hlt, hj⟩ | ⟨rfl, rfl⟩
      · have := h.lt hj hra; omega
      · exact hra.elim
    · rw [hL.blk a ha]
      exact hw _ ⟨by rw [ha]; rfl, rfl⟩
/-- A function that makes a list (and reckons) that nobody writes behind it. -/
theorem Entry.madeF {P : Program} {Γ : TabF} (hΓ : TSF P Γ) (m n : Nat) {f : FuncId} {g : EntF}
    (h : ∀ O w0 args M k, g O w0 args M k → ∀ β w, Inv O w0 β M w → ∃ args' Λ, fr β args' = fr β args ∧
      evFn P (fun _ => False) w (Γ (fun _ => False) w) Λ m n f args' [] (fun y M' => ∃ r x e sz n F, y = wrapX r x ∧ r.all (·.lt 0) = true ∧ ResL M' e sz n F x ∧ ∀ A c, k (wrapX r (.rsl A sz F 0 n c)) (M ++ [.fz (RowsF A sz n F)]))) :
    ∀ O w0, Entry P O w0 f (g O w0) := fun O w0 hf args M k hg hmlt β w hI => by
  obtain ⟨args', Λ, he, hev⟩ := h O w0 args M k hg β w hI
  rw [← he]
  refine ((evFn_sound (hΓ _ w) Λ m n).1 f args' [] _ hf hev rfl β w (Inv.nil w β)).mono ?_
  rintro e w' ⟨y, M', β', ⟨r, x, e0, sz, n0, F, rfl, hr, hL, hk⟩, rfl, hI', _, _⟩
  obtain ⟨β2, hI2, hd⟩ := hL.inv hI'
  refine ⟨_, _, β, hk (β2.v 0).1 (β2.v 0).2.2, ?_, hI.freeze hI2.fr hmlt hI2, ⟨by simp, Ext.refl _ _⟩, fun r hr => hI'.fr.block r hr (fun h => h)⟩
  refine congrArg _ (wrapX_den hr ?_)
  rw [← hd]
  exact (hI2.rows (k := 0) rfl).1
end Go.Proofs.YtfhckpfiegenaaaGreatDoor.Eng
