/- Proved: Valid, Text, Mod and Period return what the reference returns, for any numbers. It holds for all arguments of the Go function. -/
import Derived.Test.YtblfokhcfpajpaaPAddressModesx2
namespace Go.Proofs.Ytblfokhcfpajpaa.Pure
open Go.RowKit Go.Proofs.Ytblfokhcfpajpaa.PAddressModes Go.Proofs.YtblfokhcfpajpaaW.PrintWords Go.Proofs.YtblfokhcfpajpaaW.PrintLast Go.Proofs.YtblfokhcfpajpaaW.PrintMore

theorem wrap_in {n : Int} (h0 : -9223372036854775808 ≤ n) (h1 : n ≤ 9223372036854775807) : wrap64 n = n := by unfold wrap64; omega
theorem emod_unique {x m q y : Int} (h : x = m * q + y) (h0 : 0 ≤ y) (h1 : y < m) : x % m = y := by
  rw [h, Int.add_comm, Int.add_mul_emod_self_left, Int.emod_eq_of_lt h0 h1]
def idx (m i s : Int) : Int :=
  if s < 1 ∨ 64 < s then -1 else if m = 1 then i % s else if m = 2 then (if i % (2 * s) < s then i % (2 * s) else 2 * s - 1 - i % (2 * s)) else if m = 3 then (if i < 0 then 0 else if i < s then i else s - 1) else if m = 4 ∧ 0 ≤ i ∧ i < s then i else -1
theorem address_mod_tells (a n : Int) (h1 : 1 ≤ n) (h2 : n ≤ 1000) : address_Mod.f a n = some (a % n) := by
  have hd := Int.mul_tdiv_add_tmod a n
  have hl := Int.tmod_lt_of_pos a (show 0 < n by omega)
  have hg := Int.lt_tmod_of_pos a (show 0 < n by omega)
  unfold address_Mod.f
  rw [if_neg (by omega), if_neg (by omega)]
  by_cases h : Int.tmod a n < 0
  · rw [if_pos h, wrap_in (by omega) (by omega)]
    have : a % n = Int.tmod a n + n := by
      apply emod_unique (q := Int.tdiv a n - 1) _ (by omega) (by omega)
      rw [Int.mul_sub]; omega
    rw [this]
  · rw [if_neg h]
    rw [emod_unique (q := Int.tdiv a n) (m := n) (y := Int.tmod a n) (by omega) (by omega) hl]
theorem address_index_tells (k : Nat) (m i s : Int) : address_Index.f (k + 1) m i s = some (idx m i s) := by
  unfold address_Index.f idx
  by_cases h1 : s < 1
  · rw [if_pos h1, if_pos (Or.inl h1)]; simp only [address_Index.j0, if_true]
  rw [if_neg h1]
  by_cases h2 : 64 < s
  · rw [if_pos (Or.inr h2), decide_eq_true (show s > 64 from h2)]; simp only [address_Index.j0, if_true]
  rw [if_neg (show ¬ (s < 1 ∨ 64 < s) by omega), decide_eq_false (show ¬ s > 64 by omega)]
  simp only [address_Index.j0]
  rw [if_neg (by decide)]
  by_cases m1 : m = 1
  · rw [if_pos m1, if_pos m1, address_mod_tells i s (by omega) (by omega)]; rfl
  rw [if_neg m1, if_neg m1]
  by_cases m2 : m = 2
  · have hw : wrap64 (2 * s) = 2 * s := wrap_in (by omega) (by omega)
    have hb := Int.emod_nonneg i (show 2 * s ≠ 0 by omega)
    have hc := Int.emod_lt_of_pos i (show 0 < 2 * s by omega)
    rw [if_pos m2, if_pos m2, hw, address_mod_tells i (2 * s) (by omega) (by omega), Option.bind_some, wrap_in (n := 2 * s - 1) (by omega) (by omega), wrap_in (by omega) (by omega)]
    try unfold mn
    repeat' split
    all_goals first | rfl | (congr 1; omega) | omega
  rw [if_neg m2, if_neg m2]
  by_cases m3 : m = 3
  · rw [if_pos m3, if_pos m3, wrap_in (by omega) (by omega)]
    try unfold mn
    try unfold mx
    repeat' split
    all_goals first | rfl | (congr 1; repeat' split) | omega
    all_goals omega
  rw [if_neg m3, if_neg m3]
  by_cases m4 : m = 4
  · rw [if_pos m4]; repeat' split
    all_goals first | rfl | omega
  · rw [if_neg m4, if_neg (by omega)]
theorem example_tells (k : Nat) : frustumlaw11_example.f (k + 1) = some true := by
  unfold frustumlaw11_example.f
  simp only [address_index_tells, Option.bind_some]
  decide
def per (m s : Int) : Int := if s < 1 ∨ 64 < s then 0 else if m = 1 then s else if m = 2 then 2 * s else 0
theorem address_period_tells (k : Nat) (m s : Int) : address_Period.f (k + 1) m s = some (per m s) := by
  unfold address_Period.f per
  by_cases h1 : s < 1
  · rw [if_pos h1, if_pos (Or.inl h1)]; simp only [address_Period.j0, if_true]
  rw [if_neg h1]
  by_cases h2 : 64 < s
  · rw [if_pos (Or.inr h2), decide_eq_true (show s > 64 from h2)]; simp only [address_Period.j0, if_true]
  rw [if_neg (show ¬ (s < 1 ∨ 64 < s) by omega), decide_eq_false (show ¬ s > 64 by omega)]
  simp only [address_Period.j0]
  rw [if_neg (by decide), wrap_in (by omega) (by omega)]
  repeat' split
  all_goals rfl
theorem frustumref11_period_tells (k : Nat) (m s : Int) : frustumref11_Period.f (k + 1) m s = some (per m s) := by
  unfold frustumref11_Period.f per
  by_cases h1 : s < 1
  · rw [if_pos h1, if_pos (Or.inl h1)]; simp only [frustumref11_Period.j0, if_true]
  rw [if_neg h1]
  by_cases h2 : 64 < s
  · rw [if_pos (Or.inr h2), decide_eq_true (show s > 64 from h2)]; simp only [frustumref11_Period.j0, if_true]
  rw [if_neg (show ¬ (s < 1 ∨ 64 < s) by omega), decide_eq_false (show ¬ s > 64 by omega)]
  simp only [frustumref11_Period.j0]
  rw [if_neg (by decide), wrap_in (by omega) (by omega)]
  repeat' split
  all_goals rfl
theorem mod_same (a n : Int) : frustumref11_Mod.f a n = address_Mod.f a n := rfl
theorem text_same (m : Int) : frustumref11_Text.f m = address_Text.f m := rfl
theorem mod_some (a n : Int) : ∃ r, address_Mod.f a n = some r := by
  unfold address_Mod.f
  by_cases h : n < 1
  · rw [if_pos h]; exact ⟨_, rfl⟩
  · rw [if_neg h, if_neg (by omega)]; split <;> exact ⟨_, rfl⟩
theorem text_some (m : Int) : ∃ r, address_Text.f m = some r := by
  unfold address_Text.f
  repeat' split
  all_goals exact ⟨_, rfl⟩
theorem valid_same (m : Int) : frustumref11_Valid.f m = address_Valid.f m := by
  unfold frustumref11_Valid.f address_Valid.f
  by_cases h1 : m = 1
  · subst h1; decide
  by_cases h2 : m = 2
  · subst h2; decide
  by_cases h3 : m = 3
  · subst h3; decide
  by_cases h4 : m = 4
  · subst h4; decide
  rw [if_neg h1, if_neg h2, if_neg h3, beq_eq_false_iff_ne.mpr h4]
  by_cases h : m ≥ 1
  · rw [if_pos h, decide_eq_false (by omega)]
  · rw [if_neg h]
theorem valid_some (m : Int) : ∃ r, address_Valid.f m = some r := by
  unfold address_Valid.f
  split <;> exact ⟨_, rfl⟩
theorem AddressModes : frustumlaw11_AddressModes.Pure := by
  intro m i s _ _ _
  refine ⟨1, ?_⟩
  unfold frustumlaw11_AddressModes.f
  obtain ⟨v, hv⟩ := valid_some m
  obtain ⟨t, ht⟩ := text_some m
  obtain ⟨r, hr⟩ := mod_some i s
  rw [valid_same, text_same, mod_same, hv, ht, hr, address_period_tells 0, frustumref11_period_tells 0, example_tells 0]
  simp

end Go.Proofs.Ytblfokhcfpajpaa.Pure
