/- More roads to contracts: rows that are written no more; contracts on what the memory at hand holds out of contracts on rows of the world; results told by a relation. -/
import Derived.Test.YtfhckpfiegenaaaGreatDoorEngF
namespace Go.Proofs.YtfhckpfiegenaaaGreatDoor.Eng
open Go Go.RowKit
/-- Rows that are written no more lie in no block at hand. -/
theorem Inv.rowsZ {O : Nat → Prop} {w0 w : World} {β : Env} {M : List Blk} (hI : Inv O w0 β M w) {k : Nat} {Q : World → Prop} (hk : M[k]? = some (Blk.fz Q)) {A : Option Addr} {sz n : Nat} {F : Nat → List SC} (hQ : ∀ w, Q w → RowsF A sz n F w) (hF : ∀ j, j < n → ∃ c, (F j)[0]? = some c) (is : List Nat) :
    ∀ j, j < n → A.isSome = true ∧ RowAt (ownS β M is) w A sz (F j) j := fun j hj => by
  obtain ⟨G, hG1, hG2⟩ := (hI.fz k Q hk).out
  have h := (hQ w (hG2 w fun _ _ => rfl)).at_ j hj
  refine ⟨h.1, ?_⟩
  obtain ⟨a, hA, hl, hO, hlt, hc⟩ := h.2.out
  refine ⟨a, hA, hl, ?_, hlt, hc⟩
  rintro ⟨i, hi, b, hb, hr, he⟩
  obtain ⟨c, hc0⟩ := hF j hj
  have h2 := ((hQ { w with heap := w.heap.setIfInBounds (β i) (.map #[] 0) } (hG2 _ fun r hr2 => by
    show (w.heap.setIfInBounds (β i) _)[r]? = _
    rw [Array.getElem?_setIfInBounds_ne ((hG1 r hr2).2.2 i b hb hr)])).at_ j hj).2
  obtain ⟨a2, hA2, _, _, _, hc2⟩ := h2.out
  rw [hA] at hA2
  cases hA2
  have h3 := hc2 0 c hc0
  have hbk : (a.add (j * sz + 0)).block = β i := by rw [show (a.add (j * sz + 0)).block = a.block by unfold Addr.add; split <;> rfl]; exact he
  unfold World.cell? at h3
  rw [hbk] at h3
  have h4 : (w.heap.setIfInBounds (β i) (Obj.map #[] 0))[β i]? = some (.map #[] 0) := by
    rw [Array.getElem?_setIfInBounds_self_of_lt (by rw [← he]; exact hl)]
  simp only [h4] at h3
  simp at h3
/-- A function that only reckons: what it is given may be told as rows of the world at hand. -/
theorem Entry.viaRows {P : Program} {f : FuncId} {g g' : EntF} (h : ∀ O w0, Entry P O w0 f (g O w0))
    (hg : ∀ O w0 args M k, g' O w0 args M k → ∃ x, k x M ∧ ∀ β w, Inv O w0 β M w → ∃ args', fr β args' = fr β args ∧ g (fun _ => False) w args' [] (fun y _ => ∀ β', y.den β' = x.den β)) :
    ∀ O w0, Entry P O w0 f (g' O w0) := fun O w0 hf args M k hg' hmlt β w hI => by
  obtain ⟨x, hk, h2⟩ := hg O w0 args M k hg'
  obtain ⟨args', he, hg2⟩ := h2 β w hI
  rw [← he]
  refine ((h (fun _ => False) w) hf args' [] _ hg2 rfl β w (Inv.nil w β)).mono ?_
  rintro e w' ⟨y, M', β', hy, rfl, hI', _, hkept⟩
  exact ⟨x, M, β, hk, by rw [hy β'], hI.after hI'.fr, Grow.refl _ _, hkept⟩
/-- As Entry.pureM; the result may speak of the memory at hand. -/
theorem Entry.pureR {P : Program} {Γ : TabF} (hΓ : TSF P Γ) (m n : Nat) {f : FuncId} {g : EntF}
    (h : ∀ O w0 args M k, g O w0 args M k → ∃ x, k x M ∧ ∀ β w, Inv O w0 β M w → ∃ args' Λ, fr β args' = fr β args ∧ evFn P (fun _ => False) w (Γ (fun _ => False) w) Λ m n f args' [] (fun y _ => ∀ β', y.den β' = x.den β)) :
    ∀ O w0, Entry P O w0 f (g O w0) := fun O w0 hf args M k hg hmlt β w hI => by
  obtain ⟨x, hk, h⟩ := h O w0 args M k hg
  obtain ⟨args', Λ, he, hev⟩ := h β w hI
  rw [← he]
  refine ((evFn_sound (hΓ _ w) Λ m n).1 f args' [] _ hf hev rfl β w (Inv.nil w β)).mono ?_
  rintro e w' ⟨y, M', β', hy, rfl, hI', _, _⟩
  exact ⟨x, M, β, hk, by rw [hy β'], hI.after hI'.fr, Grow.refl _ _, fun r hr => hI'.fr.block r hr (fun h => h)⟩
/-- As Entry.madeAF; what the text leaves is told by a relation. -/
theorem Entry.madeAP {P : Program} {Γ : TabF} (hΓ : TSF P Γ) (m n : Nat) {f : FuncId} {g : EntF}
    (h : ∀ O w0 args M k, g O w0 args M k → ∀ β w, Inv O w0 β M w → ∃ args' Λ R, fr β args' = fr β args ∧
      evFn P (fun _ => False) w (Γ (fun _ => False) w) Λ m n f args' [] R ∧ ∀ y M', R y M' → ∃ X x e sz n F, CongX X ∧ (∀ β, y.den β = (X x).den β) ∧ ResL M' e sz n F x ∧ ∀ A c, k (X (.rsl A sz F 0 n c)) (M ++ [.fz (RowsF A sz n F)])) :
    ∀ O w0, Entry P O w0 f (g O w0) := fun O w0 hf args M k hg hmlt β w hI => by
  obtain ⟨args', Λ, R, he, hev, hR⟩ := h O w0 args M k hg β w hI
  rw [← he]
  refine ((evFn_sound (hΓ _ w) Λ m n).1 f args' [] _ hf hev rfl β w (Inv.nil w β)).mono ?_
  rintro e w' ⟨y, M', β', hy, rfl, hI', _, _⟩
  obtain ⟨X, x, e0, sz, n0, F, hX, hy, hL, hk⟩ := hR y M' hy
  obtain ⟨β2, hI2, hd⟩ := hL.inv hI'
  refine ⟨_, _, β, hk (β2.v 0).1 (β2.v 0).2.2, ?_, hI.freeze hI2.fr hmlt hI2, ⟨by simp, Ext.refl _ _⟩, fun r hr => hI'.fr.block r hr (fun h => h)⟩
  refine congrArg _ ((hy _).trans (hX.eq _ _ _ _ ?_))
  rw [← hd]
  exact (hI2.rows (k := 0) rfl).1
/-- What a call has made is given away: what is known of it stands for good. -/
theorem Inv.freezeQ {O : Nat → Prop} {w0 w w' : World} {β : Env} {M : List Blk} (h : Inv O w0 β M w) (hf : Fr (fun _ => False) w w') (hM : memLt M.length M = true) {Q : World → Prop} {G : Nat → Prop}
    (hG : ∀ r, G r → w.heap.size ≤ r ∧ r < w'.heap.size) (hQ : ∀ w2, (∀ r, G r → w2.heap[r]? = w'.heap[r]?) → Q w2) : Inv O w0 β (M ++ [.fz Q]) w' := by
  have hI := h.after hf
  refine hI.grow hM _ (Ext.refl _ _) hI.fr (fun _ _ _ _ => rfl) (fun _ _ _ _ hr => hr.elim) (fun _ _ e2 => by cases e2) (fun _ _ _ _ e2 => by cases e2) (fun hr => hr.elim) (fun i Q hi => ?_) (fun _ e2 => by cases e2) (fun Q2 e2 => ?_)
  · refine (hI.fz i Q hi).step (Nat.le_refl _) (Nat.le_refl _) fun r _ _ h3 => ⟨rfl, fun j a hj hra => ?_⟩
    rcases get_push hj with ⟨hlt, hj⟩ | ⟨rfl, rfl⟩
    · exact h3 j a hj hra
    · exact hra.elim
  · cases e2
    refine ⟨G, fun r hr => ?_, hQ⟩
    obtain ⟨h1, h2⟩ := hG r hr
    refine ⟨Nat.le_trans h.fr.size h1, h2, fun j a hj hra he => ?_⟩
    rcases get_push hj with ⟨hlt, hj⟩ | ⟨rfl, rfl⟩
    · have := h.lt hj hra; omega
    · exact hra.elim
/-- A function that makes what nobody writes behind it: what it leaves is told in words of the world. -/
theorem Entry.frz {P : Program} {Γ : TabF} (hΓ : TSF P Γ) (m n : Nat) {f : FuncId} {g : EntF}
    (h : ∀ O w0 args M k, g O w0 args M k → ∀ β w, Inv O w0 β M w → ∃ args' Λ R, fr β args' = fr β args ∧
      evFn P (fun _ => False) w (Γ (fun _ => False) w) Λ m n f args' [] R ∧ ∀ y M' β' w', R y M' → Inv (fun _ => False) w β' M' w' → ∃ (x : SX) (Q : World → Prop) (G : Nat → Prop), x.den β = y.den β' ∧ (∀ r, G r → w.heap.size ≤ r ∧ r < w'.heap.size) ∧ (∀ w2, (∀ r, G r → w2.heap[r]? = w'.heap[r]?) → Q w2) ∧ k x (M ++ [.fz Q])) :
    ∀ O w0, Entry P O w0 f (g O w0) := fun O w0 hf args M k hg hmlt β w hI => by
  obtain ⟨args', Λ, R, he, hev, hR⟩ := h O w0 args M k hg β w hI
  rw [← he]
  refine ((evFn_sound (hΓ _ w) Λ m n).1 f args' [] _ hf hev rfl β w (Inv.nil w β)).mono ?_
  rintro e w' ⟨y, M', β', hy, rfl, hI', _, _⟩
  obtain ⟨x, Q, G, hd, hG, hQ, hk⟩ := hR y M' β' w' hy hI'
  exact ⟨x, _, β, hk, congrArg _ hd.symm, hI.freezeQ hI'.fr hmlt hG hQ, ⟨by simp, Ext.refl _ _⟩, fun r hr => hI'.fr.block r hr (fun h => h)⟩
/-- A function that makes a list and returns it in a value that speaks of the caller's memory as well. -/
theorem Entry.madeAR {P : Program} {Γ : TabF} (hΓ : TSF P Γ) (m n : Nat) {f : FuncId} {g : EntF}
    (h : ∀ O w0 args M k, g O w0 args M k → ∀ β w, Inv O w0 β M w → ∃ args' Λ R, fr β args' = fr β args ∧
      evFn P (fun _ => False) w (Γ (fun _ => False) w) Λ m n f args' [] R ∧ ∀ y M', R y M' → ∃ (X : SC → SX) (x : SC) (e : TypeId) (sz n : Nat) (F : Nat → List SC), (∀ (βc βj : Env) (x' : SC), Ext M.length β βj → x.den βc = x'.den βj → y.den βc = (X x').den βj) ∧ ResL M' e sz n F x ∧ k (X (.lst M.length)) (M ++ [.lst e sz n F])) :
    ∀ O w0, Entry P O w0 f (g O w0) := fun O w0 hf args M k hg hmlt β w hI => by
  obtain ⟨args', Λ, R, he, hev, hR⟩ := h O w0 args M k hg β w hI
  rw [← he]
  refine ((evFn_sound (hΓ _ w) Λ m n).1 f args' [] _ hf hev rfl β w (Inv.nil w β)).mono ?_
  rintro e w' ⟨y, M', β', hy, rfl, hI', _, _⟩
  obtain ⟨X, x, e0, sz, n0, F, hX, hL, hk⟩ := hR y M' hy
  obtain ⟨β2, hI2, hd⟩ := hL.inv hI'
  refine ⟨_, _, envJ M.length β β2, hk, ?_, hI.join hmlt hI2, ⟨by simp, Ext.join _ _ _⟩, fun r hr => hI'.fr.block r hr (fun h => h)⟩
  refine congrArg _ (hX β' (envJ M.length β β2) (.lst M.length) (Ext.join _ _ _) ?_)
  rw [← hd]
  exact (shC_den M.length β β2 (.lst 0)).symm
end Go.Proofs.YtfhckpfiegenaaaGreatDoor.Eng
