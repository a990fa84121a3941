/- Proved: The text of a mask has a 1 at its lanes alone. It holds for all arguments of the Go function. -/
import Derived.Test.YtblfokhcfpajpaaMaskCore
namespace Go.Proofs.Ytblfokhcfpajpaa.Pure
open Go Go.RowKit Go.Proofs.Ytblfokhcfpajpaa.PM Go.Proofs.YtblfokhcfpajpaaW.PrintWords Go.Proofs.YtblfokhcfpajpaaW.PrintLast Go.Proofs.YtblfokhcfpajpaaW.PrintMore

theorem chars_at (m : Nat) (hm : m < 65536) (j : Nat) (hj : j < 16) : bt (⟨(mask_Text.chars m 16).toArray⟩ : ByteArray) j = if hasB m j then 49 else 46 := by
  have hl : (mask_Text.chars m 16).length = 16 := mask_Text.chars_len m 16
  unfold bt
  rw [Int.toNat_natCast, dif_pos (show j < _ by show j < (mask_Text.chars m 16).toArray.size; rw [List.size_toArray, hl]; exact hj)]
  have : (⟨(mask_Text.chars m 16).toArray⟩ : ByteArray)[j]'(by show j < (mask_Text.chars m 16).toArray.size; rw [List.size_toArray, hl]; exact hj) = (mask_Text.chars m 16)[j]'(by omega) := rfl
  rw [this]
  simp only [mask_Text.chars, List.getElem_map, List.getElem_range, has_tells m hm]
  cases hasB m j <;> rfl
theorem MaskTexts : frustumlaw08_MaskTexts.Pure := by
  intro m lane wm _
  obtain ⟨m, rfl, hm⟩ := wf_u16 wm
  refine ⟨1, ?_⟩
  have hl : (⟨(mask_Text.chars m 16).toArray⟩ : ByteArray).size = 16 := by
    show (mask_Text.chars m 16).toArray.size = 16
    rw [List.size_toArray, mask_Text.chars_len]
  unfold frustumlaw08_MaskTexts.f mask_Text.f
  rw [Option.bind_some, hl, if_pos (by decide)]
  by_cases h0 : lane < 0
  · rw [if_pos h0]; simp only [frustumlaw08_MaskTexts.j0, if_true]; rw [has_tells m hm, hasB_out m hm lane (by omega), example_tells]; rfl
  rw [if_neg h0]
  by_cases h1 : lane ≥ 16
  · rw [decide_eq_true h1]; simp only [frustumlaw08_MaskTexts.j0, if_true]; rw [has_tells m hm, hasB_out m hm lane (by omega), example_tells]; rfl
  rw [decide_eq_false h1]
  obtain ⟨j, rfl⟩ := Int.eq_ofNat_of_zero_le (show 0 ≤ lane by omega)
  simp only [frustumlaw08_MaskTexts.j0, Bool.false_eq_true, if_false]
  rw [if_pos (by omega), if_pos (by rw [hl]; omega), has_tells m hm, chars_at m hm j (by omega), example_tells]
  simp only [Option.bind_some]
  cases hasB m j <;> rfl

end Go.Proofs.Ytblfokhcfpajpaa.Pure
