/- Line, of the reference: its text, kind by kind (the kinds that write numbers alone). -/
import Derived.Test.YtfhckpfiegenaaaGreatDoorCm15
import Derived.Test.YtfhckpfiegenaaaGreatDoorCm8
namespace Go.Proofs.YtfhckpfiegenaaaGreatDoor.Tr
open Go Go.RowKit Go.Proofs.YtfhckpfiegenaaaGreatDoor.Eng Go.Proofs.YtfhckpfiegenaaaGreatDoor.Cm
set_option linter.unusedVariables false
set_option linter.unusedSimpArgs false
set_option maxRecDepth 8000
def ΓT : TabF := addF Γ6 49 gFi
--HIDE
theorem Γ6_ok2 : TSF Tryz.prog ΓT := Γ6_ok.add e49
theorem used_of {x : S33} (hc : chk x = 0) : eqC (usedK x.f0 x) x = true := by
  have hr := rng_of hc
  unfold chk at hc
  split at hc
  · cases hc
  · rw [hr] at hc
    cases he : eqC (usedK x.f0 x) x with
    | false => rw [he] at hc; simp at hc
    | true => rfl
theorem used_id {x : S33} (hc : chk x = 0) : (usedK x.f0 x).f2 = x.f2 := by
  have he := used_of hc
  unfold eqC at he
  simp only [Bool.and_eq_true, beq_iff_eq] at he
  exact he.2.2.1
/-- A text's size is at most n. -/
structure Sm (s : ByteArray) (n : Nat) : Prop where
  le : s.size ≤ n
theorem Sm.app {s t : ByteArray} {a b : Nat} (h : Sm s a) (h2 : Sm t b) : Sm (s ++ t) (a + b) := ⟨by rw [app_size]; have := h.le; have := h2.le; omega⟩
theorem Sm.cat {s t : ByteArray} {a b : Nat} (h : Sm s a) (h2 : Sm t b) (hl : a + b ≤ 1000000) : Cat s.size t.size := ⟨by have := h.le; have := h2.le; omega⟩
theorem Sm.fi {n : Int} (h : I64 n) : Sm (fiS n) 21 := ⟨fiS_size h⟩
--SHOW
end Go.Proofs.YtfhckpfiegenaaaGreatDoor.Tr
