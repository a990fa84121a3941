/- More roads to contracts: functions that return a value with one list in it that they made. -/
import Derived.Test.YtfhckpfiegenaaaGreatDoorEngD
namespace Go.Proofs.YtfhckpfiegenaaaGreatDoor.Eng
open Go Go.RowKit
/-- What is told of a value hangs on one cell's worth alone. -/
structure CongX (F : SC → SX) : Prop where
  eq : ∀ β β' x x', x.den β = x'.den β' → (F x).den β = (F x').den β'
theorem CongX.agg {pre post : List SC} (h1 : pre.all (·.lt 0) = true) (h2 : post.all (·.lt 0) = true) : CongX (fun x => .v (.agg (pre ++ x :: post))) := ⟨fun β β' x x' h => by
  have hd : ∀ l : List SC, l.all (·.lt 0) = true → l.map (·.den β) = l.map (·.den β') := fun l hl => List.map_congr_left fun c hc => by
    have := List.all_eq_true.1 hl c hc
    rw [← SC.den_nob this β, ← SC.den_nob this β']
  show Value.agg _ = Value.agg _
  rw [List.map_append, List.map_append, List.map_cons, List.map_cons, hd pre h1, hd post h2, h]⟩
theorem CongX.aggT {pre post r : List SC} (h1 : pre.all (·.lt 0) = true) (h2 : post.all (·.lt 0) = true) (h3 : r.all (·.lt 0) = true) : CongX (fun x => .tup (.agg (pre ++ x :: post) :: r.map .c)) := ⟨fun β β' x x' h => by
  have hd : ∀ l : List SC, l.all (·.lt 0) = true → l.map (·.den β) = l.map (·.den β') := fun l hl => List.map_congr_left fun c hc => by
    have := List.all_eq_true.1 hl c hc
    rw [← SC.den_nob this β, ← SC.den_nob this β']
  have ha : (SV.agg (pre ++ x :: post)).den β = (SV.agg (pre ++ x' :: post)).den β' := by
    show Value.agg _ = Value.agg _
    rw [List.map_append, List.map_append, List.map_cons, List.map_cons, hd pre h1, hd post h2, h]
  show Value.tuple _ = Value.tuple _
  rw [List.map_cons, List.map_cons, ha]
  congr 3
  rw [List.map_map, List.map_map]
  exact hd r h3⟩
theorem CongX.set {cs : List SC} (h : cs.all (·.lt 0) = true) (i : Nat) : CongX (fun x => .v (.agg (cs.set i x))) := ⟨fun β β' x x' e => by
  show Value.agg _ = Value.agg _
  have hd : cs.map (·.den β) = cs.map (·.den β') := List.map_congr_left fun c hc => by
    have := List.all_eq_true.1 h c hc
    rw [← SC.den_nob this β, ← SC.den_nob this β']
  rw [List.map_set, List.map_set, hd, e]⟩
/-- A function that makes a list and returns it in a value. -/
theorem Entry.madeA {P : Program} {Γ : TabF} (hΓ : TSF P Γ) (m n : Nat) {f : FuncId} {g : EntF}
    (h : ∀ O w0 args M k, g O w0 args M k → ∀ β w, Inv O w0 β M w → ∃ args' Λ, fr β args' = fr β args ∧
      evFn P (fun _ => False) w (Γ (fun _ => False) w) Λ m n f args' [] (fun y M' => ∃ X x e sz n F, CongX X ∧ (∀ β, y.den β = (X x).den β) ∧ ResL M' e sz n F x ∧ k (X (.lst M.length)) (M ++ [.lst e sz n F]))) :
    ∀ O w0, Entry P O w0 f (g O w0) := fun O w0 hf args M k hg hmlt β w hI => by
  obtain ⟨args', Λ, he, hev⟩ := h O w0 args M k hg β w hI
  rw [← he]
  refine ((evFn_sound (hΓ _ w) Λ m n).1 f args' [] _ hf hev rfl β w (Inv.nil w β)).mono ?_
  rintro e w' ⟨y, M', β', ⟨X, x, e0, sz, n0, F, hX, hy, hL, hk⟩, rfl, hI', _, _⟩
  obtain ⟨β2, hI2, hd⟩ := hL.inv hI'
  refine ⟨_, _, envJ M.length β β2, hk, ?_, hI.join hmlt hI2, ⟨by simp, Ext.join _ _ _⟩, fun r hr => hI'.fr.block r hr (fun h => h)⟩
  refine congrArg _ ((hy _).trans (hX.eq _ _ _ _ ?_))
  rw [← hd]
  exact (shC_den M.length β β2 (.lst 0)).symm
/-- A function that makes a list that nobody writes behind it and returns it in a value. -/
theorem Entry.madeAF {P : Program} {Γ : TabF} (hΓ : TSF P Γ) (m n : Nat) {f : FuncId} {g : EntF}
    (h : ∀ O w0 args M k, g O w0 args M k → ∀ β w, Inv O w0 β M w → ∃ args' Λ, fr β args' = fr β args ∧
      evFn P (fun _ => False) w (Γ (fun _ => False) w) Λ m n f args' [] (fun y M' => ∃ X x e sz n F, CongX X ∧ (∀ β, y.den β = (X x).den β) ∧ ResL M' e sz n F x ∧ ∀ A c, k (X (.rsl A sz F 0 n c)) (M ++ [.fz (RowsF A sz n F)]))) :
    ∀ O w0, Entry P O w0 f (g O w0) := fun O w0 hf args M k hg hmlt β w hI => by
  obtain ⟨args', Λ, he, hev⟩ := h O w0 args M k hg β w hI
  rw [← he]
  refine ((evFn_sound (hΓ _ w) Λ m n).1 f args' [] _ hf hev rfl β w (Inv.nil w β)).mono ?_
  rintro e w' ⟨y, M', β', ⟨X, x, e0, sz, n0, F, hX, hy, hL, hk⟩, rfl, hI', _, _⟩
  obtain ⟨β2, hI2, hd⟩ := hL.inv hI'
  refine ⟨_, _, β, hk (β2.v 0).1 (β2.v 0).2.2, ?_, hI.freeze hI2.fr hmlt hI2, ⟨by simp, Ext.refl _ _⟩, fun r hr => hI'.fr.block r hr (fun h => h)⟩
  refine congrArg _ ((hy _).trans (hX.eq _ _ _ _ ?_))
  rw [← hd]
  exact (hI2.rows (k := 0) rfl).1
end Go.Proofs.YtfhckpfiegenaaaGreatDoor.Eng
