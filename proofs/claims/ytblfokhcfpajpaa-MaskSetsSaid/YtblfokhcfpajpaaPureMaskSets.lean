/- Proved: The operations are those of sets of lanes, and a mask is restored from its lanes. It holds for all arguments of the Go function. -/
import Derived.Test.YtblfokhcfpajpaaPMSx
import Derived.Laws.BitsLemmas
namespace Go.Proofs.Ytblfokhcfpajpaa.Pure
open Go Go.RowKit Go.Proofs.Ytblfokhcfpajpaa.PMS Go.Proofs.YtblfokhcfpajpaaW.PrintWords Go.Proofs.YtblfokhcfpajpaaW.PrintLast Go.Proofs.YtblfokhcfpajpaaW.PrintMore

theorem wrap_in {n : Int} (h0 : -9223372036854775808 ≤ n) (h1 : n ≤ 9223372036854775807) : wrap64 n = n := by unfold wrap64; omega
theorem u16_wrap (n : Int) : IntKind.u16.wrap n = n % 65536 := by simp [IntKind.wrap, IntKind.bits, IntKind.signed]
theorem u16_in (n : Int) (h0 : 0 ≤ n) (h1 : n < 2 ^ 16) : IntKind.u16.wrap n = n := by rw [u16_wrap]; omega
theorem tb_high {n i : Nat} (h : n < 65536) (hi : 16 ≤ i) : n.testBit i = false :=
  Nat.testBit_lt_two_pow (Nat.lt_of_lt_of_le h (Nat.pow_le_pow_right (by decide) hi : 2 ^ 16 ≤ 2 ^ i))
/-- Two numbers of 16 bits that have the same bits are the same. -/
theorem same_bits {a b : Nat} (ha : a < 65536) (hb : b < 65536) (h : ∀ i, i < 16 → a.testBit i = b.testBit i) : a = b := by
  apply Nat.eq_of_testBit_eq
  intro i
  by_cases hi : i < 16
  · exact h i hi
  · rw [tb_high ha (by omega), tb_high hb (by omega)]
theorem and_tells (a b : Nat) (ha : a < 65536) (hb : b < 65536) : Go.bits .and .u16 a b = ((a &&& b : Nat) : Int) := (bits_nat .u16 16 (by decide) u16_in a b ha hb).1
theorem or_tells (a b : Nat) (ha : a < 65536) (hb : b < 65536) : Go.bits .or .u16 a b = ((a ||| b : Nat) : Int) := (bits_nat .u16 16 (by decide) u16_in a b ha hb).2
/-- The bits of a that b lacks. -/
def less (a b : Nat) : Nat := (BitVec.ofNat 16 a &&& ~~~ BitVec.ofNat 16 b).toNat
theorem less_lt (a b : Nat) : less a b < 65536 := (BitVec.ofNat 16 a &&& ~~~ BitVec.ofNat 16 b).isLt
theorem less_bits (a b i : Nat) (hi : i < 16) : (less a b).testBit i = (a.testBit i && !b.testBit i) := by
  unfold less
  rw [BitVec.testBit_toNat, BitVec.getLsbD_and, BitVec.getLsbD_not, BitVec.getLsbD_ofNat, BitVec.getLsbD_ofNat]
  simp [hi]
theorem less_tells (a b : Nat) : Go.bits .andNot .u16 a b = ((less a b : Nat) : Int) := by
  unfold Go.bits less
  simp only [BitVec.ofInt_natCast]
  exact u16_in _ (Int.natCast_nonneg _) (by exact_mod_cast (BitVec.ofNat 16 a &&& ~~~ BitVec.ofNat 16 b).isLt)
/-- The mask of one lane. -/
def one (i : Int) : Nat := if 0 ≤ i ∧ i < 16 then 2 ^ i.toNat else 0
theorem one_lt (i : Int) : one i < 65536 := by
  unfold one
  split
  · have : i.toNat < 16 := by omega
    exact Nat.lt_of_lt_of_le (Nat.pow_lt_pow_right (by decide) this) (by decide : 2 ^ 16 ≤ 65536)
  · decide
theorem one_bits (i : Int) (j : Nat) (hj : j < 16) : (one i).testBit j = decide (i = (j : Int)) := by
  unfold one
  split
  · rw [Nat.testBit_two_pow]
    by_cases h : i = j
    · subst h; simp
    · rw [decide_eq_false h, decide_eq_false (by omega)]
  · rw [Nat.zero_testBit, decide_eq_false (by omega)]
theorem bit_tells (i : Int) : mask_bit.f i = some ((one i : Nat) : Int) := by
  unfold mask_bit.f one
  by_cases h0 : i < 0
  · rw [if_pos h0, if_neg (by omega)]; rfl
  rw [if_neg h0]
  by_cases h1 : i ≥ 16
  · rw [if_pos h1, if_neg (by omega)]; rfl
  rw [if_neg h1, if_pos (by omega), if_pos (by omega)]
  obtain ⟨j, rfl⟩ := Int.eq_ofNat_of_zero_le (show 0 ≤ i by omega)
  have hj : j < 16 := by omega
  unfold shl
  rw [u16_wrap, Int.toNat_natCast]
  have : ∀ j, j < 16 → (1 : Int) * 2 ^ min j IntKind.u16.bits % 65536 = ((2 ^ j : Nat) : Int) := by decide
  rw [this j hj]
/-- Is the lane in the mask? -/
def hasB (m : Nat) (i : Int) : Bool := decide (0 ≤ i) && m.testBit i.toNat
theorem hasB_out (m : Nat) (hm : m < 65536) (i : Int) (h : i < 0 ∨ 16 ≤ i) : hasB m i = false := by
  unfold hasB
  rcases h with h | h
  · rw [decide_eq_false (by omega)]; rfl
  · rw [tb_high hm (by omega), Bool.and_false]
theorem hasB_nat (m j : Nat) : hasB m (j : Int) = m.testBit j := by unfold hasB; simp
theorem and_one (m : Nat) (hm : m < 65536) (i : Int) : (((m &&& one i : Nat) : Int) != 0) = hasB m i := by
  have key : (m &&& one i = 0) ↔ hasB m i = false := by
    by_cases h : i < 0 ∨ 16 ≤ i
    · rw [hasB_out m hm i h]; unfold one; rw [if_neg (by omega)]; simp
    · obtain ⟨j, rfl⟩ := Int.eq_ofNat_of_zero_le (show 0 ≤ i by omega)
      rw [hasB_nat]
      have hj : j < 16 := by omega
      constructor
      · intro e
        have := congrArg (fun x => x.testBit j) e
        simpa [Nat.testBit_and, one_bits (j : Int) j hj] using this
      · intro e
        apply Nat.eq_of_testBit_eq
        intro k
        rw [Nat.testBit_and, Nat.zero_testBit]
        by_cases hk : k < 16
        · rw [one_bits _ k hk]
          by_cases hjk : j = k
          · subst hjk; rw [e]; rfl
          · rw [decide_eq_false (by omega), Bool.and_false]
        · rw [tb_high hm (by omega)]; rfl
  by_cases e : m &&& one i = 0
  · rw [key.mp e, e]; rfl
  · have : hasB m i = true := by
      cases hb : hasB m i with
      | true => rfl
      | false => exact absurd (key.mpr hb) e
    rw [this]
    exact bne_iff_ne.mpr (by omega)
theorem has_tells (m : Nat) (hm : m < 65536) (i : Int) : mask_Has.f m i = some (hasB m i) := by
  unfold mask_Has.f
  rw [bit_tells, Option.bind_some, and_tells m _ hm (one_lt i), and_one m hm]
theorem with_tells (m : Nat) (hm : m < 65536) (i : Int) : mask_With.f m i = some ((m ||| one i : Nat) : Int) := by
  unfold mask_With.f
  rw [bit_tells, Option.bind_some, or_tells m _ hm (one_lt i)]
theorem without_tells (m : Nat) (i : Int) : mask_Without.f m i = some ((less m (one i) : Nat) : Int) := by
  unfold mask_Without.f
  rw [bit_tells, Option.bind_some, less_tells]
theorem or_lt {a b : Nat} (ha : a < 65536) (hb : b < 65536) : a ||| b < 65536 := Nat.or_lt_two_pow (n := 16) ha hb
theorem and_lt (a : Nat) {b : Nat} (hb : b < 65536) : a &&& b < 65536 := Nat.and_lt_two_pow (n := 16) a hb
/-! The reference. -/
/-- The lanes from i on, d of them, that p takes. -/
def sel (p : Int → Bool) : Nat → Nat → List Int
  | 0, _ => []
  | d + 1, i => (if p i then [(i : Int)] else []) ++ sel p d (i + 1)
theorem sel_len (p : Int → Bool) (d : Nat) : ∀ i, (sel p d i).length ≤ d := by
  induction d with
  | zero => intro i; simp [sel]
  | succ d ih => intro i; have := ih (i + 1); unfold sel; rw [List.length_append]; split <;> simp <;> omega
theorem sel_mem (p : Int → Bool) (d : Nat) : ∀ (i j : Nat), ((j : Int) ∈ sel p d i) ↔ (i ≤ j ∧ j < i + d ∧ p j = true) := by
  induction d with
  | zero => intro i j; simp [sel]; omega
  | succ d ih =>
    intro i j
    unfold sel
    rw [List.mem_append, ih]
    by_cases hp : p i = true
    · rw [if_pos hp, List.mem_singleton]
      by_cases e : j = i
      · subst e; simp [hp]
      · constructor
        · rintro (h | h)
          · omega
          · exact ⟨by omega, by omega, h.2.2⟩
        · intro h; exact .inr ⟨by omega, by omega, h.2.2⟩
    · rw [if_neg hp]
      by_cases e : j = i
      · subst e; simp [hp]
      · constructor
        · rintro (h | h)
          · simp at h
          · exact ⟨by omega, by omega, h.2.2⟩
        · intro h; exact .inr ⟨by omega, by omega, h.2.2⟩
theorem step_wrap (i : Nat) (h : i < 16) : wrap64 ((i : Int) + 1) = ((i + 1 : Nat) : Int) := by rw [wrap_in (by omega) (by omega)]; omega
theorem sel_yes {p : Int → Bool} {d i : Nat} (h : p i = true) : sel p (d + 1) i = [(i : Int)] ++ sel p d (i + 1) := by show (if p i then _ else _) ++ _ = _; rw [if_pos h]
theorem sel_no {p : Int → Bool} {d i : Nat} (h : p i = false) : sel p (d + 1) i = sel p d (i + 1) := by show (if p i then _ else _) ++ _ = _; rw [h]; rfl
theorem has_and (a b : Nat) (i : Int) : hasB (a &&& b) i = (hasB a i && hasB b i) := by
  unfold hasB; rw [Nat.testBit_and]; cases decide (0 ≤ i) <;> rfl
theorem has_or (a b : Nat) (i : Int) : hasB (a ||| b) i = (hasB a i || hasB b i) := by
  unfold hasB; rw [Nat.testBit_or]; cases decide (0 ≤ i) <;> rfl
theorem has_less (a b : Nat) (ha : a < 65536) (i : Int) : hasB (less a b) i = (hasB a i && !hasB b i) := by
  by_cases h : i < 0 ∨ 16 ≤ i
  · rw [hasB_out _ (less_lt a b) i h, hasB_out a ha i h]; rfl
  · obtain ⟨j, rfl⟩ := Int.eq_ofNat_of_zero_le (show 0 ≤ i by omega)
    rw [hasB_nat, hasB_nat, hasB_nat, less_bits a b j (by omega)]
theorem has_one (i : Int) : hasB (one i) i = decide (0 ≤ i ∧ i < 16) := by
  by_cases h : i < 0 ∨ 16 ≤ i
  · rw [hasB_out _ (one_lt i) i h, decide_eq_false (by omega)]
  · obtain ⟨j, rfl⟩ := Int.eq_ofNat_of_zero_le (show 0 ≤ i by omega)
    rw [hasB_nat, one_bits _ j (by omega), decide_eq_true rfl, decide_eq_true (by omega)]
theorem example_tells : frustumlaw08_example.f = some true := by decide +kernel
theorem wf_u16 {a : Int} (h : (Lit.int .u16 a).wf = true) : ∃ n : Nat, a = n ∧ n < 65536 := by
  have h2 : 0 ≤ a ∧ a ≤ 65535 := by
    have h3 : (decide (IntKind.u16.min ≤ a) && decide (a ≤ IntKind.u16.max)) = true := h
    rw [Bool.and_eq_true, decide_eq_true_iff, decide_eq_true_iff] at h3
    exact h3
  exact ⟨a.toNat, by omega, by omega⟩
theorem and_fn (a b : Nat) (ha : a < 65536) (hb : b < 65536) : mask_And.f a b = some ((a &&& b : Nat) : Int) := by unfold mask_And.f; rw [and_tells a b ha hb]
theorem or_fn (a b : Nat) (ha : a < 65536) (hb : b < 65536) : mask_Or.f a b = some ((a ||| b : Nat) : Int) := by unfold mask_Or.f; rw [or_tells a b ha hb]
theorem less_fn (a b : Nat) : mask_AndNot.f a b = some ((less a b : Nat) : Int) := by unfold mask_AndNot.f; rw [less_tells a b]
theorem lanes_loop (m : Nat) (hm : m < 65536) (d : Nat) : ∀ (i k : Nat) (acc : List Int), i + d = 16 → acc.length ≤ i → 600 + d ≤ k →
    mask_Lanes.l0 k m acc i = some (acc ++ sel (fun j => hasB m j) d i) := by
  induction d with
  | zero =>
    intro i k acc h hl hk
    obtain ⟨k, rfl⟩ : ∃ m, k = m + 1 := ⟨k - 1, by omega⟩
    simp only [mask_Lanes.l0]
    rw [if_neg (by omega)]
    simp only [sel, List.append_nil]
  | succ d ih =>
    intro i k acc h hl hk
    obtain ⟨k, rfl⟩ : ∃ m, k = m + 1 := ⟨k - 1, by omega⟩
    simp only [mask_Lanes.l0]
    rw [if_pos (by omega), has_tells m hm i, step_wrap i (by omega)]
    simp only [Option.bind_some]
    cases h1 : hasB m i with
    | false => rw [if_neg (by decide), sel_no h1]; exact ih (i + 1) k acc (by omega) (by omega) (by omega)
    | true => rw [if_pos rfl, if_pos (by omega), sel_yes h1, ← List.append_assoc]; exact ih (i + 1) k _ (by omega) (by rw [List.length_append]; simp; omega) (by omega)
theorem lanes_tells (m : Nat) (hm : m < 65536) (k : Nat) (hk : 700 ≤ k) : mask_Lanes.f k m = some (sel (fun j => hasB m j) 16 0) := by
  unfold mask_Lanes.f
  rw [show (0 : Int) = ((0 : Nat) : Int) from rfl, lanes_loop m hm 16 0 k [] rfl (by simp) (by omega), List.nil_append]
/-- The mask of all lanes of a list, besides those of m. -/
def orAll (m : Nat) : List Int → Nat
  | [] => m
  | x :: l => orAll (m ||| one x) l
theorem orAll_lt (l : List Int) : ∀ m, m < 65536 → orAll m l < 65536 := by
  induction l with
  | nil => intro m h; exact h
  | cons x l ih => intro m h; exact ih _ (or_lt h (one_lt x))
theorem orAll_bits (l : List Int) (j : Nat) (hj : j < 16) : ∀ m, (orAll m l).testBit j = (m.testBit j || decide ((j : Int) ∈ l)) := by
  induction l with
  | nil => intro m; simp [orAll]
  | cons x l ih =>
    intro m
    unfold orAll
    rw [ih, Nat.testBit_or, one_bits x j hj, Bool.or_assoc]
    congr 1
    rw [Bool.eq_iff_iff]
    simp only [Bool.or_eq_true, decide_eq_true_iff, List.mem_cons]
    constructor
    · rintro (h | h)
      · exact .inl h.symm
      · exact .inr h
    · rintro (h | h)
      · exact .inl h.symm
      · exact .inr h
theorem of_loop (l : List Int) (hl : l.length ≤ 1000000000000000) (d : Nat) : ∀ (i m k : Nat), i + d = l.length → m < 65536 → d < k →
    mask_Of.l0 k m l (l.length : Int) i = some ((orAll m (l.drop i) : Nat) : Int) := by
  induction d with
  | zero =>
    intro i m k h hm hk
    obtain ⟨k, rfl⟩ : ∃ m, k = m + 1 := ⟨k - 1, by omega⟩
    simp only [mask_Of.l0]
    rw [if_neg (by omega), List.drop_eq_nil_of_le (by omega)]
    rfl
  | succ d ih =>
    intro i m k h hm hk
    obtain ⟨k, rfl⟩ : ∃ m, k = m + 1 := ⟨k - 1, by omega⟩
    have hi : i < l.length := by omega
    have hr : rd l i = l[i] := by unfold rd; rw [Int.toNat_natCast, List.getD_eq_getElem?_getD, List.getElem?_eq_getElem hi, Option.getD_some]
    simp only [mask_Of.l0]
    rw [if_pos (by omega), if_pos (by omega), if_pos (by omega), with_tells m hm, Option.bind_some, wrap_in (by omega) (by omega), hr, List.drop_eq_getElem_cons hi]
    exact ih (i + 1) _ k (by omega) (or_lt hm (one_lt _)) (by omega)
theorem of_tells (l : List Int) (hl : l.length ≤ 1000000000000000) (k : Nat) (hk : l.length < k) : mask_Of.f k l = some ((orAll 0 l : Nat) : Int) := by
  have := of_loop l hl l.length 0 0 k (by omega) (by decide) hk
  rw [List.drop_zero] at this
  exact this
theorem orAll_sel (a : Nat) (ha : a < 65536) : orAll 0 (sel (fun j => hasB a j) 16 0) = a :=
  same_bits (orAll_lt _ 0 (by decide)) ha fun j hj => by
    rw [orAll_bits _ j hj, Nat.zero_testBit, Bool.false_or, Bool.eq_iff_iff, decide_eq_true_iff, sel_mem, hasB_nat]
    exact ⟨fun h => h.2.2, fun h => ⟨by omega, by omega, h⟩⟩
theorem MaskSets_tail (k a : Nat) (ha : a < 65536) (i : Int) : frustumlaw08_MaskSets.j1 (k + 1) a i (decide (0 ≤ i ∧ i < 16)) false = some true := by
  simp only [frustumlaw08_MaskSets.j1, Bool.false_eq_true, if_false]
  simp only [with_tells a ha, without_tells, has_tells _ (or_lt ha (one_lt i)), has_tells _ (less_lt a (one i)), has_or, has_less a _ ha, has_one, Option.bind_some, example_tells]
  by_cases h : 0 ≤ i ∧ i < 16
  · rw [decide_eq_true h]
    have e : less (a ||| one i) (one i) = less a (one i) := same_bits (less_lt _ _) (less_lt _ _) fun j hj => by
      rw [less_bits _ _ j hj, less_bits _ _ j hj, Nat.testBit_or]; cases a.testBit j <;> cases (one i).testBit j <;> rfl
    rw [e]
    cases hasB a i <;> simp
  · rw [decide_eq_false h, hasB_out a ha i (by omega)]
    simp
theorem MaskSets : frustumlaw08_MaskSets.Pure := by
  intro a b i wa wb _
  obtain ⟨a, rfl, ha⟩ := wf_u16 wa
  obtain ⟨b, rfl, hb⟩ := wf_u16 wb
  refine ⟨1002, ?_⟩
  have hs := sel_len (fun j => hasB a j) 16 0
  have e0 : frustumlaw08_MaskSets.f 1002 a b i = frustumlaw08_MaskSets.j0 1002 a b i (decide (0 ≤ i ∧ i < 16)) := by
    unfold frustumlaw08_MaskSets.f
    by_cases h : i ≥ 0
    · rw [if_pos h]; congr 1; rw [Bool.eq_iff_iff, decide_eq_true_iff, decide_eq_true_iff]; omega
    · rw [if_neg h, decide_eq_false (by omega)]
  have t := MaskSets_tail 1000 a ha i
  rw [e0]
  simp only [frustumlaw08_MaskSets.j0]
  rw [lanes_tells a ha 1001 (by omega), Option.bind_some, of_tells _ (by omega) 1001 (by omega), Option.bind_some, orAll_sel a ha, if_pos rfl]
  simp only [and_fn a b ha hb, or_fn a b ha hb, less_fn, has_tells _ (and_lt a hb), has_tells _ (or_lt ha hb), has_tells a ha, has_tells b hb, has_tells _ (less_lt a b), Option.bind_some, has_and, has_or, has_less a b ha]
  cases h1 : hasB a i <;> cases h2 : hasB b i <;> exact t

end Go.Proofs.Ytblfokhcfpajpaa.Pure
