/- Proved: what the functions of package mask and of its reference compute, in terms of the bits of a number. -/
import Derived.Test.YtblfokhcfpajpaaPMx
import Derived.Laws.BitsLemmas
namespace Go.Proofs.Ytblfokhcfpajpaa.Pure
open Go Go.RowKit Go.Proofs.Ytblfokhcfpajpaa.PM Go.Proofs.YtblfokhcfpajpaaW.PrintWords Go.Proofs.YtblfokhcfpajpaaW.PrintLast Go.Proofs.YtblfokhcfpajpaaW.PrintMore

theorem wrap_in {n : Int} (h0 : -9223372036854775808 ≤ n) (h1 : n ≤ 9223372036854775807) : wrap64 n = n := by unfold wrap64; omega
theorem u16_wrap (n : Int) : IntKind.u16.wrap n = n % 65536 := by simp [IntKind.wrap, IntKind.bits, IntKind.signed]
theorem u16_in (n : Int) (h0 : 0 ≤ n) (h1 : n < 2 ^ 16) : IntKind.u16.wrap n = n := by rw [u16_wrap]; omega
theorem tb_high {n i : Nat} (h : n < 65536) (hi : 16 ≤ i) : n.testBit i = false :=
  Nat.testBit_lt_two_pow (Nat.lt_of_lt_of_le h (Nat.pow_le_pow_right (by decide) hi : 2 ^ 16 ≤ 2 ^ i))
/-- Two numbers of 16 bits that have the same bits are the same. -/
theorem same_bits {a b : Nat} (ha : a < 65536) (hb : b < 65536) (h : ∀ i, i < 16 → a.testBit i = b.testBit i) : a = b := by
  apply Nat.eq_of_testBit_eq
  intro i
  by_cases hi : i < 16
  · exact h i hi
  · rw [tb_high ha (by omega), tb_high hb (by omega)]
theorem and_tells (a b : Nat) (ha : a < 65536) (hb : b < 65536) : Go.bits .and .u16 a b = ((a &&& b : Nat) : Int) := (bits_nat .u16 16 (by decide) u16_in a b ha hb).1
theorem or_tells (a b : Nat) (ha : a < 65536) (hb : b < 65536) : Go.bits .or .u16 a b = ((a ||| b : Nat) : Int) := (bits_nat .u16 16 (by decide) u16_in a b ha hb).2
/-- The bits of a that b lacks. -/
def less (a b : Nat) : Nat := (BitVec.ofNat 16 a &&& ~~~ BitVec.ofNat 16 b).toNat
theorem less_lt (a b : Nat) : less a b < 65536 := (BitVec.ofNat 16 a &&& ~~~ BitVec.ofNat 16 b).isLt
theorem less_bits (a b i : Nat) (hi : i < 16) : (less a b).testBit i = (a.testBit i && !b.testBit i) := by
  unfold less
  rw [BitVec.testBit_toNat, BitVec.getLsbD_and, BitVec.getLsbD_not, BitVec.getLsbD_ofNat, BitVec.getLsbD_ofNat]
  simp [hi]
theorem less_tells (a b : Nat) : Go.bits .andNot .u16 a b = ((less a b : Nat) : Int) := by
  unfold Go.bits less
  simp only [BitVec.ofInt_natCast]
  exact u16_in _ (Int.natCast_nonneg _) (by exact_mod_cast (BitVec.ofNat 16 a &&& ~~~ BitVec.ofNat 16 b).isLt)
/-- The mask of one lane. -/
def one (i : Int) : Nat := if 0 ≤ i ∧ i < 16 then 2 ^ i.toNat else 0
theorem one_lt (i : Int) : one i < 65536 := by
  unfold one
  split
  · have : i.toNat < 16 := by omega
    exact Nat.lt_of_lt_of_le (Nat.pow_lt_pow_right (by decide) this) (by decide : 2 ^ 16 ≤ 65536)
  · decide
theorem one_bits (i : Int) (j : Nat) (hj : j < 16) : (one i).testBit j = decide (i = (j : Int)) := by
  unfold one
  split
  · rw [Nat.testBit_two_pow]
    by_cases h : i = j
    · subst h; simp
    · rw [decide_eq_false h, decide_eq_false (by omega)]
  · rw [Nat.zero_testBit, decide_eq_false (by omega)]
theorem bit_tells (i : Int) : mask_bit.f i = some ((one i : Nat) : Int) := by
  unfold mask_bit.f one
  by_cases h0 : i < 0
  · rw [if_pos h0, if_neg (by omega)]; rfl
  rw [if_neg h0]
  by_cases h1 : i ≥ 16
  · rw [if_pos h1, if_neg (by omega)]; rfl
  rw [if_neg h1, if_pos (by omega), if_pos (by omega)]
  obtain ⟨j, rfl⟩ := Int.eq_ofNat_of_zero_le (show 0 ≤ i by omega)
  have hj : j < 16 := by omega
  unfold shl
  rw [u16_wrap, Int.toNat_natCast]
  have : ∀ j, j < 16 → (1 : Int) * 2 ^ min j IntKind.u16.bits % 65536 = ((2 ^ j : Nat) : Int) := by decide
  rw [this j hj]
/-- Is the lane in the mask? -/
def hasB (m : Nat) (i : Int) : Bool := decide (0 ≤ i) && m.testBit i.toNat
theorem hasB_out (m : Nat) (hm : m < 65536) (i : Int) (h : i < 0 ∨ 16 ≤ i) : hasB m i = false := by
  unfold hasB
  rcases h with h | h
  · rw [decide_eq_false (by omega)]; rfl
  · rw [tb_high hm (by omega), Bool.and_false]
theorem hasB_nat (m j : Nat) : hasB m (j : Int) = m.testBit j := by unfold hasB; simp
theorem and_one (m : Nat) (hm : m < 65536) (i : Int) : (((m &&& one i : Nat) : Int) != 0) = hasB m i := by
  have key : (m &&& one i = 0) ↔ hasB m i = false := by
    by_cases h : i < 0 ∨ 16 ≤ i
    · rw [hasB_out m hm i h]; unfold one; rw [if_neg (by omega)]; simp
    · obtain ⟨j, rfl⟩ := Int.eq_ofNat_of_zero_le (show 0 ≤ i by omega)
      rw [hasB_nat]
      have hj : j < 16 := by omega
      constructor
      · intro e
        have := congrArg (fun x => x.testBit j) e
        simpa [Nat.testBit_and, one_bits (j : Int) j hj] using this
      · intro e
        apply Nat.eq_of_testBit_eq
        intro k
        rw [Nat.testBit_and, Nat.zero_testBit]
        by_cases hk : k < 16
        · rw [one_bits _ k hk]
          by_cases hjk : j = k
          · subst hjk; rw [e]; rfl
          · rw [decide_eq_false (by omega), Bool.and_false]
        · rw [tb_high hm (by omega)]; rfl
  by_cases e : m &&& one i = 0
  · rw [key.mp e, e]; rfl
  · have : hasB m i = true := by
      cases hb : hasB m i with
      | true => rfl
      | false => exact absurd (key.mpr hb) e
    rw [this]
    exact bne_iff_ne.mpr (by omega)
theorem has_tells (m : Nat) (hm : m < 65536) (i : Int) : mask_Has.f m i = some (hasB m i) := by
  unfold mask_Has.f
  rw [bit_tells, Option.bind_some, and_tells m _ hm (one_lt i), and_one m hm]
theorem with_tells (m : Nat) (hm : m < 65536) (i : Int) : mask_With.f m i = some ((m ||| one i : Nat) : Int) := by
  unfold mask_With.f
  rw [bit_tells, Option.bind_some, or_tells m _ hm (one_lt i)]
theorem without_tells (m : Nat) (i : Int) : mask_Without.f m i = some ((less m (one i) : Nat) : Int) := by
  unfold mask_Without.f
  rw [bit_tells, Option.bind_some, less_tells]
theorem or_lt {a b : Nat} (ha : a < 65536) (hb : b < 65536) : a ||| b < 65536 := Nat.or_lt_two_pow (n := 16) ha hb
theorem and_lt (a : Nat) {b : Nat} (hb : b < 65536) : a &&& b < 65536 := Nat.and_lt_two_pow (n := 16) a hb
/-! The reference. -/
theorem ref_has_loop (d : Nat) : ∀ (k : Nat) (x i : Nat) (l : Int), (i : Int) + d = l → l ≤ 15 → x < 65536 → d < k → frustumref08_Has.l0 k l x i = some (x.testBit d) := by
  induction d with
  | zero =>
    intro k x i l h hl hx hk
    obtain ⟨k, rfl⟩ : ∃ m, k = m + 1 := ⟨k - 1, by omega⟩
    simp only [frustumref08_Has.l0]
    rw [if_neg (by omega), Nat.testBit_zero, Int.tmod_eq_emod_of_nonneg (by omega)]
    congr 1
    rw [Bool.eq_iff_iff]; simp; omega
  | succ d ih =>
    intro k x i l h hl hx hk
    obtain ⟨k, rfl⟩ : ∃ m, k = m + 1 := ⟨k - 1, by omega⟩
    simp only [frustumref08_Has.l0]
    have e : wrap64 (Int.tdiv (x : Int) 2) = ((x / 2 : Nat) : Int) := by
      rw [Int.tdiv_eq_ediv_of_nonneg (by omega), wrap_in (by omega) (by omega)]; omega
    rw [if_pos (by omega), e, wrap_in (n := (i : Int) + 1) (by omega) (by omega)]
    have := ih k (x / 2) (i + 1) l (by omega) hl (by omega) (by omega)
    rw [Nat.testBit_succ]
    exact this
theorem ref_has_tells (k : Nat) (m : Nat) (hm : m < 65536) (i : Int) (hk : 20 ≤ k) : frustumref08_Has.f k m i = some (hasB m i) := by
  unfold frustumref08_Has.f
  obtain ⟨k, rfl⟩ : ∃ m, k = m + 1 := ⟨k - 1, by omega⟩
  by_cases h0 : i < 0
  · rw [if_pos h0]; simp only [frustumref08_Has.j0, if_true]; rw [hasB_out m hm i (by omega)]
  rw [if_neg h0]
  by_cases h1 : i > 15
  · rw [decide_eq_true h1]; simp only [frustumref08_Has.j0, if_true]; rw [hasB_out m hm i (by omega)]
  rw [decide_eq_false h1]
  simp only [frustumref08_Has.j0, Bool.false_eq_true, if_false]
  obtain ⟨j, rfl⟩ := Int.eq_ofNat_of_zero_le (show 0 ≤ i by omega)
  rw [wrap_in (by omega) (by omega), hasB_nat]
  exact ref_has_loop j k m 0 j (by omega) (by omega) hm (by omega)
/-- What the reference's Of adds up. -/
def ofGo (l : List Int) : Nat → Nat → Nat → Nat
  | 0, _, m => m
  | d + 1, i, m => ofGo l d (i + 1) (if ((i : Int) ∈ l) then m + 2 ^ i else m)
theorem ofGo_facts (l : List Int) (d : Nat) : ∀ (i m : Nat), i + d = 16 → m < 2 ^ i → ofGo l d i m < 65536 ∧ ∀ j, j < 16 → (ofGo l d i m).testBit j = if j < i then m.testBit j else decide ((j : Int) ∈ l) := by
  induction d with
  | zero =>
    intro i m h hm
    obtain rfl : i = 16 := by omega
    unfold ofGo
    exact ⟨hm, fun j hj => by rw [if_pos hj]⟩
  | succ d ih =>
    intro i m h hm
    unfold ofGo
    have hs : 2 ^ (i + 1) = 2 ^ i + 2 ^ i := by rw [Nat.pow_succ]; omega
    obtain ⟨h1, h2⟩ := ih (i + 1) (if ((i : Int) ∈ l) then m + 2 ^ i else m) (by omega) (by split <;> omega)
    refine ⟨h1, fun j hj => ?_⟩
    rw [h2 j hj]
    by_cases hji : j < i
    · rw [if_pos (by omega), if_pos hji]
      split
      · rw [Nat.add_comm, Nat.testBit_two_pow_add_gt hji]
      · rfl
    · rw [if_neg hji]
      by_cases e : j = i
      · subst e
        rw [if_pos (by omega)]
        by_cases hin : (j : Int) ∈ l
        · rw [if_pos hin, Nat.add_comm, Nat.testBit_two_pow_add_eq, Nat.testBit_lt_two_pow hm, decide_eq_true hin]; rfl
        · rw [if_neg hin, Nat.testBit_lt_two_pow hm, decide_eq_false hin]
      · rw [if_neg (by omega)]
def ofL (l : List Int) : Nat := ofGo l 16 0 0
theorem ofL_lt (l : List Int) : ofL l < 65536 := (ofGo_facts l 16 0 0 rfl (by decide)).1
theorem ofL_bits (l : List Int) (j : Nat) (hj : j < 16) : (ofL l).testBit j = decide ((j : Int) ∈ l) := by
  have := (ofGo_facts l 16 0 0 rfl (by decide)).2 j hj
  rw [if_neg (by omega)] at this
  exact this
theorem mem_drop_step (l : List Int) (i : Nat) (h : i < l.length) (x : Int) : x ∈ l.drop i ↔ l.getD i 0 = x ∨ x ∈ l.drop (i + 1) := by
  rw [List.drop_eq_getElem_cons h, List.mem_cons, List.getD_eq_getElem?_getD, List.getElem?_eq_getElem h, Option.getD_some]
  constructor
  · rintro (rfl | h); exact .inl rfl; exact .inr h
  · rintro (rfl | h); exact .inl rfl; exact .inr h
theorem pow_le16 {i : Nat} (h : i < 16) : 2 ^ i ≤ 32768 := Nat.pow_le_pow_right (n := 2) (by decide) (show i ≤ 15 by omega)
theorem ref_of_scan (l : List Int) (hl : l.length ≤ 1000000000000000) (v : Int) (K : Nat) (m i : Nat) (hi : i < 16) (hm : m < 2 ^ i)
    (H : ∀ k, K ≤ k → frustumref08_Of.l0 k l ((if ((i : Int) ∈ l) then m + 2 ^ i else m : Nat) : Int) ((2 ^ (i + 1) : Nat) : Int) ((i + 1 : Nat) : Int) = some v) (d : Nat) :
    ∀ (j k : Nat), j + d = l.length → (¬ ((i : Int) ∈ l.take j)) → K + d + 1 ≤ k → frustumref08_Of.l1 k l m ((2 ^ i : Nat) : Int) i j = some v := by
  have hp := pow_le16 hi
  have e1 : wrap64 (((2 ^ i : Nat) : Int) * 2) = ((2 ^ (i + 1) : Nat) : Int) := by
    rw [wrap_in (by omega) (by omega), Nat.pow_succ]; omega
  have e2 : wrap64 ((i : Int) + 1) = ((i + 1 : Nat) : Int) := by rw [wrap_in (by omega) (by omega)]; omega
  induction d with
  | zero =>
    intro j k h hnot hk
    obtain ⟨k, rfl⟩ : ∃ m, k = m + 1 := ⟨k - 1, by omega⟩
    simp only [frustumref08_Of.l1]
    have : j = l.length := by omega
    subst this
    rw [List.take_length] at hnot
    rw [if_neg (by omega), e1, e2]
    have := H k (by omega)
    rw [if_neg hnot] at this
    exact this
  | succ d ih =>
    intro j k h hnot hk
    obtain ⟨k, rfl⟩ : ∃ m, k = m + 1 := ⟨k - 1, by omega⟩
    simp only [frustumref08_Of.l1]
    rw [if_pos (by omega), if_pos (by omega)]
    have hj : j < l.length := by omega
    have hr : rd l j = l.getD j 0 := by unfold rd; rw [Int.toNat_natCast]
    rw [hr]
    by_cases e : l.getD j 0 = (i : Int)
    · have hin : (i : Int) ∈ l := by
        rw [← e, List.getD_eq_getElem?_getD, List.getElem?_eq_getElem hj, Option.getD_some]
        exact List.getElem_mem hj
      rw [if_pos e, e1, e2]
      have := H k (by omega)
      rw [if_pos hin] at this
      rw [wrap_in (n := (m : Int) + _) (by omega) (by omega)]
      exact_mod_cast this
    · rw [if_neg e, wrap_in (by omega) (by omega)]
      have := ih (j + 1) k (by omega) (by
        rw [List.take_add_one, List.mem_append, List.getElem?_eq_getElem hj]
        rintro (h | h)
        · exact hnot h
        · simp at h
          rw [List.getD_eq_getElem?_getD, List.getElem?_eq_getElem hj, Option.getD_some] at e
          exact e h.symm) (by omega)
      exact this
theorem ref_of_lanes (l : List Int) (hl : l.length ≤ 1000000000000000) (d : Nat) : ∀ (i m k : Nat), i + d = 16 → m < 2 ^ i → d * (l.length + 2) + 1 ≤ k →
    frustumref08_Of.l0 k l m ((2 ^ i : Nat) : Int) i = some ((ofGo l d i m : Nat) : Int) := by
  induction d with
  | zero =>
    intro i m k h hm hk
    obtain ⟨k, rfl⟩ : ∃ m, k = m + 1 := ⟨k - 1, by omega⟩
    obtain rfl : i = 16 := by omega
    simp only [frustumref08_Of.l0]
    rw [if_neg (by omega), u16_in _ (by omega) (by omega)]
    rfl
  | succ d ih =>
    intro i m k h hm hk
    have hd : (d + 1) * (l.length + 2) = d * (l.length + 2) + (l.length + 2) := by rw [Nat.add_mul, Nat.one_mul]
    obtain ⟨k, rfl⟩ : ∃ m, k = m + 1 := ⟨k - 1, by omega⟩
    simp only [frustumref08_Of.l0]
    rw [if_pos (by omega)]
    have hs : 2 ^ (i + 1) = 2 ^ i + 2 ^ i := by rw [Nat.pow_succ]; omega
    exact ref_of_scan l hl _ (d * (l.length + 2) + 1) m i (by omega) hm (fun k' hk' => ih (i + 1) _ k' (by omega) (by split <;> omega) hk') l.length 0 k (by omega) (by simp) (by omega)
theorem ref_of_tells (l : List Int) (hl : l.length ≤ 1000000000000000) (k : Nat) (hk : 16 * (l.length + 2) + 1 ≤ k) : frustumref08_Of.f k l = some ((ofL l : Nat) : Int) :=
  ref_of_lanes l hl 16 0 0 k rfl (by decide) hk
/-- The lanes from i on, d of them, that p takes. -/
def sel (p : Int → Bool) : Nat → Nat → List Int
  | 0, _ => []
  | d + 1, i => (if p i then [(i : Int)] else []) ++ sel p d (i + 1)
theorem sel_len (p : Int → Bool) (d : Nat) : ∀ i, (sel p d i).length ≤ d := by
  induction d with
  | zero => intro i; simp [sel]
  | succ d ih => intro i; have := ih (i + 1); unfold sel; rw [List.length_append]; split <;> simp <;> omega
theorem sel_mem (p : Int → Bool) (d : Nat) : ∀ (i j : Nat), ((j : Int) ∈ sel p d i) ↔ (i ≤ j ∧ j < i + d ∧ p j = true) := by
  induction d with
  | zero => intro i j; simp [sel]; omega
  | succ d ih =>
    intro i j
    unfold sel
    rw [List.mem_append, ih]
    by_cases hp : p i = true
    · rw [if_pos hp, List.mem_singleton]
      by_cases e : j = i
      · subst e; simp [hp]
      · constructor
        · rintro (h | h)
          · omega
          · exact ⟨by omega, by omega, h.2.2⟩
        · intro h; exact .inr ⟨by omega, by omega, h.2.2⟩
    · rw [if_neg hp]
      by_cases e : j = i
      · subst e; simp [hp]
      · constructor
        · rintro (h | h)
          · simp at h
          · exact ⟨by omega, by omega, h.2.2⟩
        · intro h; exact .inr ⟨by omega, by omega, h.2.2⟩
theorem step_wrap (i : Nat) (h : i < 16) : wrap64 ((i : Int) + 1) = ((i + 1 : Nat) : Int) := by rw [wrap_in (by omega) (by omega)]; omega
theorem sel_yes {p : Int → Bool} {d i : Nat} (h : p i = true) : sel p (d + 1) i = [(i : Int)] ++ sel p d (i + 1) := by show (if p i then _ else _) ++ _ = _; rw [if_pos h]
theorem sel_no {p : Int → Bool} {d i : Nat} (h : p i = false) : sel p (d + 1) i = sel p d (i + 1) := by show (if p i then _ else _) ++ _ = _; rw [h]; rfl
theorem ref_and_loop (a b : Nat) (ha : a < 65536) (hb : b < 65536) (d : Nat) : ∀ (i k : Nat) (acc : List Int), i + d = 16 → acc.length ≤ i → 600 + d ≤ k →
    frustumref08_And.l0 k a b acc i = some ((ofL (acc ++ sel (fun j => hasB a j && hasB b j) d i) : Nat) : Int) := by
  induction d with
  | zero =>
    intro i k acc h hl hk
    obtain ⟨k, rfl⟩ : ∃ m, k = m + 1 := ⟨k - 1, by omega⟩
    simp only [frustumref08_And.l0]
    rw [if_neg (by omega), ref_of_tells acc (by omega) k (by omega)]
    simp only [sel, List.append_nil, Option.bind_some]
  | succ d ih =>
    intro i k acc h hl hk
    obtain ⟨k, rfl⟩ : ∃ m, k = m + 1 := ⟨k - 1, by omega⟩
    simp only [frustumref08_And.l0]
    rw [if_pos (by omega), ref_has_tells k a ha i (by omega), ref_has_tells k b hb i (by omega), step_wrap i (by omega)]
    simp only [Option.bind_some]
    cases h1 : hasB a i with
    | false => rw [if_neg (by decide), sel_no (by rw [h1]; rfl)]; exact ih (i + 1) k acc (by omega) (by omega) (by omega)
    | true =>
      rw [if_pos rfl]
      cases h2 : hasB b i with
      | false => rw [if_neg (by decide), sel_no (by rw [h1, h2]; rfl)]; exact ih (i + 1) k acc (by omega) (by omega) (by omega)
      | true => rw [if_pos rfl, if_pos (by omega), sel_yes (by rw [h1, h2]; rfl), ← List.append_assoc]; exact ih (i + 1) k _ (by omega) (by rw [List.length_append]; simp; omega) (by omega)
theorem ref_or_loop (a b : Nat) (ha : a < 65536) (hb : b < 65536) (d : Nat) : ∀ (i k : Nat) (acc : List Int), i + d = 16 → acc.length ≤ i → 600 + d ≤ k →
    frustumref08_Or.l0 k a b acc i = some ((ofL (acc ++ sel (fun j => hasB a j || hasB b j) d i) : Nat) : Int) := by
  induction d with
  | zero =>
    intro i k acc h hl hk
    obtain ⟨k, rfl⟩ : ∃ m, k = m + 1 := ⟨k - 1, by omega⟩
    simp only [frustumref08_Or.l0]
    rw [if_neg (by omega), ref_of_tells acc (by omega) k (by omega)]
    simp only [sel, List.append_nil, Option.bind_some]
  | succ d ih =>
    intro i k acc h hl hk
    obtain ⟨k, rfl⟩ : ∃ m, k = m + 1 := ⟨k - 1, by omega⟩
    simp only [frustumref08_Or.l0]
    rw [if_pos (by omega), ref_has_tells k a ha i (by omega), ref_has_tells k b hb i (by omega), step_wrap i (by omega)]
    simp only [Option.bind_some]
    cases h1 : hasB a i with
    | true => rw [if_pos rfl, if_pos (by omega), sel_yes (by rw [h1]; rfl), ← List.append_assoc]; exact ih (i + 1) k _ (by omega) (by rw [List.length_append]; simp; omega) (by omega)
    | false =>
      rw [if_neg (by decide)]
      cases h2 : hasB b i with
      | false => rw [if_neg (by decide), sel_no (by rw [h1, h2]; rfl)]; exact ih (i + 1) k acc (by omega) (by omega) (by omega)
      | true => rw [if_pos rfl, if_pos (by omega), sel_yes (by rw [h1, h2]; rfl), ← List.append_assoc]; exact ih (i + 1) k _ (by omega) (by rw [List.length_append]; simp; omega) (by omega)
theorem ref_andnot_loop (a b : Nat) (ha : a < 65536) (hb : b < 65536) (d : Nat) : ∀ (i k : Nat) (acc : List Int), i + d = 16 → acc.length ≤ i → 600 + d ≤ k →
    frustumref08_AndNot.l0 k a b acc i = some ((ofL (acc ++ sel (fun j => hasB a j && !hasB b j) d i) : Nat) : Int) := by
  induction d with
  | zero =>
    intro i k acc h hl hk
    obtain ⟨k, rfl⟩ : ∃ m, k = m + 1 := ⟨k - 1, by omega⟩
    simp only [frustumref08_AndNot.l0]
    rw [if_neg (by omega), ref_of_tells acc (by omega) k (by omega)]
    simp only [sel, List.append_nil, Option.bind_some]
  | succ d ih =>
    intro i k acc h hl hk
    obtain ⟨k, rfl⟩ : ∃ m, k = m + 1 := ⟨k - 1, by omega⟩
    simp only [frustumref08_AndNot.l0]
    rw [if_pos (by omega), ref_has_tells k a ha i (by omega), ref_has_tells k b hb i (by omega), step_wrap i (by omega)]
    simp only [Option.bind_some]
    cases h1 : hasB a i with
    | false => rw [if_neg (by decide), sel_no (by rw [h1]; rfl)]; exact ih (i + 1) k acc (by omega) (by omega) (by omega)
    | true =>
      rw [if_pos rfl]
      cases h2 : hasB b i with
      | true => rw [if_pos rfl, sel_no (by rw [h1, h2]; rfl)]; exact ih (i + 1) k acc (by omega) (by omega) (by omega)
      | false => rw [if_neg (by decide), if_pos (by omega), sel_yes (by rw [h1, h2]; rfl), ← List.append_assoc]; exact ih (i + 1) k _ (by omega) (by rw [List.length_append]; simp; omega) (by omega)
theorem ref_without_loop (m : Nat) (hm : m < 65536) (lane : Int) (d : Nat) : ∀ (i k : Nat) (acc : List Int), i + d = 16 → acc.length ≤ i → 600 + d ≤ k →
    frustumref08_Without.l0 k m lane acc i = some ((ofL (acc ++ sel (fun j => decide (j ≠ lane) && hasB m j) d i) : Nat) : Int) := by
  induction d with
  | zero =>
    intro i k acc h hl hk
    obtain ⟨k, rfl⟩ : ∃ m, k = m + 1 := ⟨k - 1, by omega⟩
    simp only [frustumref08_Without.l0]
    rw [if_neg (by omega), ref_of_tells acc (by omega) k (by omega)]
    simp only [sel, List.append_nil, Option.bind_some]
  | succ d ih =>
    intro i k acc h hl hk
    obtain ⟨k, rfl⟩ : ∃ m, k = m + 1 := ⟨k - 1, by omega⟩
    simp only [frustumref08_Without.l0]
    rw [if_pos (by omega), ref_has_tells k m hm i (by omega), step_wrap i (by omega)]
    simp only [Option.bind_some]
    by_cases e : (i : Int) = lane
    · rw [if_pos e, sel_no (by rw [decide_eq_false (by simpa using e)]; rfl)]; exact ih (i + 1) k acc (by omega) (by omega) (by omega)
    rw [if_neg e]
    cases h1 : hasB m i with
    | false => rw [if_neg (by decide), sel_no (by rw [h1, Bool.and_false])]; exact ih (i + 1) k acc (by omega) (by omega) (by omega)
    | true => rw [if_pos rfl, if_pos (by omega), sel_yes (by rw [h1, decide_eq_true e]; rfl), ← List.append_assoc]; exact ih (i + 1) k _ (by omega) (by rw [List.length_append]; simp; omega) (by omega)
theorem ref_all_loop (n : Int) (d : Nat) : ∀ (i k : Nat) (acc : List Int), i + d = 16 → acc.length ≤ i → 600 + d ≤ k →
    frustumref08_All.l0 k n acc i = some ((ofL (acc ++ sel (fun j => decide (j < n)) d i) : Nat) : Int) := by
  induction d with
  | zero =>
    intro i k acc h hl hk
    obtain ⟨k, rfl⟩ : ∃ m, k = m + 1 := ⟨k - 1, by omega⟩
    simp only [frustumref08_All.l0]
    rw [if_neg (by omega), ref_of_tells acc (by omega) k (by omega)]
    simp only [sel, List.append_nil, Option.bind_some]
  | succ d ih =>
    intro i k acc h hl hk
    obtain ⟨k, rfl⟩ : ∃ m, k = m + 1 := ⟨k - 1, by omega⟩
    simp only [frustumref08_All.l0]
    rw [if_pos (by omega), step_wrap i (by omega)]
    by_cases e : (i : Int) < n
    · rw [if_pos e, if_pos (by omega), sel_yes (decide_eq_true e), ← List.append_assoc]; exact ih (i + 1) k _ (by omega) (by rw [List.length_append]; simp; omega) (by omega)
    · rw [if_neg e, ref_of_tells acc (by omega) k (by omega)]
      simp only [Option.bind_some]
      have : ∀ (d' i' : Nat), n ≤ i' → sel (fun j => decide (j < n)) d' i' = [] := by
        intro d'
        induction d' with
        | zero => intro i' _; rfl
        | succ d' ih' => intro i' h'; rw [sel_no (decide_eq_false (by omega))]; exact ih' (i' + 1) (by omega)
      rw [this (d + 1) i (by omega), List.append_nil]
theorem ref_lanes_loop (m : Nat) (hm : m < 65536) (d : Nat) : ∀ (i k : Nat) (acc : List Int), i + d = 16 → acc.length ≤ i → 600 + d ≤ k →
    frustumref08_Lanes.l0 k m acc i = some (acc ++ sel (fun j => hasB m j) d i) := by
  induction d with
  | zero =>
    intro i k acc h hl hk
    obtain ⟨k, rfl⟩ : ∃ m, k = m + 1 := ⟨k - 1, by omega⟩
    simp only [frustumref08_Lanes.l0]
    rw [if_neg (by omega)]
    simp only [sel, List.append_nil]
  | succ d ih =>
    intro i k acc h hl hk
    obtain ⟨k, rfl⟩ : ∃ m, k = m + 1 := ⟨k - 1, by omega⟩
    simp only [frustumref08_Lanes.l0]
    rw [if_pos (by omega), ref_has_tells k m hm i (by omega), step_wrap i (by omega)]
    simp only [Option.bind_some]
    cases h1 : hasB m i with
    | false => rw [if_neg (by decide), sel_no h1]; exact ih (i + 1) k acc (by omega) (by omega) (by omega)
    | true => rw [if_pos rfl, if_pos (by omega), sel_yes h1, ← List.append_assoc]; exact ih (i + 1) k _ (by omega) (by rw [List.length_append]; simp; omega) (by omega)
/-- The mask of the lanes that p takes. -/
theorem ofL_sel_bits (p : Int → Bool) (j : Nat) (hj : j < 16) : (ofL (sel p 16 0)).testBit j = p j := by
  rw [ofL_bits _ j hj, Bool.eq_iff_iff, decide_eq_true_iff, sel_mem]
  exact ⟨fun h => h.2.2, fun h => ⟨by omega, by omega, h⟩⟩
theorem ofL_sel (p : Int → Bool) (n : Nat) (hn : n < 65536) (h : ∀ j : Nat, j < 16 → n.testBit j = p j) : ofL (sel p 16 0) = n :=
  same_bits (ofL_lt _) hn fun j hj => by rw [ofL_sel_bits p j hj, h j hj]
theorem ref_and_tells (a b : Nat) (ha : a < 65536) (hb : b < 65536) (k : Nat) (hk : 700 ≤ k) : frustumref08_And.f k a b = some ((a &&& b : Nat) : Int) := by
  unfold frustumref08_And.f
  rw [show (0 : Int) = ((0 : Nat) : Int) from rfl, ref_and_loop a b ha hb 16 0 k [] rfl (by simp) (by omega), List.nil_append, ofL_sel _ (a &&& b) (and_lt a hb)]
  intro j hj; rw [Nat.testBit_and, hasB_nat, hasB_nat]
theorem ref_or_tells (a b : Nat) (ha : a < 65536) (hb : b < 65536) (k : Nat) (hk : 700 ≤ k) : frustumref08_Or.f k a b = some ((a ||| b : Nat) : Int) := by
  unfold frustumref08_Or.f
  rw [show (0 : Int) = ((0 : Nat) : Int) from rfl, ref_or_loop a b ha hb 16 0 k [] rfl (by simp) (by omega), List.nil_append, ofL_sel _ (a ||| b) (or_lt ha hb)]
  intro j hj; rw [Nat.testBit_or, hasB_nat, hasB_nat]
theorem ref_andnot_tells (a b : Nat) (ha : a < 65536) (hb : b < 65536) (k : Nat) (hk : 700 ≤ k) : frustumref08_AndNot.f k a b = some ((less a b : Nat) : Int) := by
  unfold frustumref08_AndNot.f
  rw [show (0 : Int) = ((0 : Nat) : Int) from rfl, ref_andnot_loop a b ha hb 16 0 k [] rfl (by simp) (by omega), List.nil_append, ofL_sel _ (less a b) (less_lt a b)]
  intro j hj; rw [less_bits a b j hj, hasB_nat, hasB_nat]
theorem ref_without_tells (m : Nat) (hm : m < 65536) (lane : Int) (k : Nat) (hk : 700 ≤ k) : frustumref08_Without.f k m lane = some ((less m (one lane) : Nat) : Int) := by
  unfold frustumref08_Without.f
  rw [show (0 : Int) = ((0 : Nat) : Int) from rfl, ref_without_loop m hm lane 16 0 k [] rfl (by simp) (by omega), List.nil_append, ofL_sel _ (less m (one lane)) (less_lt _ _)]
  intro j hj
  rw [less_bits _ _ j hj, hasB_nat, one_bits lane j hj, Bool.and_comm]
  congr 1
  by_cases e : lane = (j : Int)
  · rw [decide_eq_true e, decide_eq_false (by simpa using e.symm)]; rfl
  · rw [decide_eq_false e, decide_eq_true (by simpa using fun h => e h.symm)]; rfl
theorem ref_lanes_tells (m : Nat) (hm : m < 65536) (k : Nat) (hk : 700 ≤ k) : frustumref08_Lanes.f k m = some (sel (fun j => hasB m j) 16 0) := by
  unfold frustumref08_Lanes.f
  rw [show (0 : Int) = ((0 : Nat) : Int) from rfl, ref_lanes_loop m hm 16 0 k [] rfl (by simp) (by omega), List.nil_append]
theorem ref_with_tells (m : Nat) (hm : m < 65536) (lane : Int) (k : Nat) (hk : 700 ≤ k) : frustumref08_With.f k m lane = some ((m ||| one lane : Nat) : Int) := by
  unfold frustumref08_With.f
  have hs := sel_len (fun j => hasB m j) 16 0
  rw [ref_lanes_tells m hm k hk, Option.bind_some, if_pos (by omega), ref_of_tells _ (by rw [List.length_append]; simp; omega) k (by rw [List.length_append]; simp; omega), Option.bind_some]
  congr 2
  apply same_bits (ofL_lt _) (or_lt hm (one_lt lane))
  intro j hj
  rw [ofL_bits _ j hj, Nat.testBit_or, one_bits lane j hj, Bool.eq_iff_iff, decide_eq_true_iff, List.mem_append, sel_mem, List.mem_singleton, Bool.or_eq_true, decide_eq_true_iff, hasB_nat]
  constructor
  · rintro (h | h)
    · exact .inl h.2.2
    · exact .inr h.symm
  · rintro (h | h)
    · exact .inl ⟨by omega, by omega, h⟩
    · exact .inr h.symm
/-- How many lanes All takes. -/
def cnt (n : Int) : Nat := (mn (mx n 0) 16).toNat
theorem cnt_le (n : Int) : cnt n ≤ 16 := by unfold cnt mn mx; split <;> split <;> omega
theorem cnt_lt (n : Int) (j : Nat) (hj : j < 16) : j < cnt n ↔ (j : Int) < n := by unfold cnt mn mx; split <;> split <;> omega
theorem all_lt (n : Int) : 2 ^ cnt n - 1 < 65536 := by
  have := Nat.pow_le_pow_right (n := 2) (by decide) (cnt_le n)
  have h2 : 2 ^ 16 = 65536 := by decide
  have := Nat.two_pow_pos (cnt n)
  omega
theorem all_bits (n : Int) (j : Nat) (hj : j < 16) : (2 ^ cnt n - 1).testBit j = decide ((j : Int) < n) := by
  rw [Nat.testBit_two_pow_sub_one, Bool.eq_iff_iff, decide_eq_true_iff, decide_eq_true_iff, cnt_lt n j hj]
theorem all_tells (n : Int) : mask_All.f n = some ((2 ^ cnt n - 1 : Nat) : Int) := by
  unfold mask_All.f
  have h := cnt_le n
  show some (IntKind.u16.wrap (IntKind.u16.wrap (2 ^ cnt n) - 1)) = _
  rw [u16_wrap, u16_wrap]
  have : ∀ c, c ≤ 16 → ((2 : Int) ^ c % 65536 - 1) % 65536 = ((2 ^ c - 1 : Nat) : Int) := by decide
  rw [this _ h]
theorem ref_all_tells (n : Int) (k : Nat) (hk : 700 ≤ k) : frustumref08_All.f k n = some ((2 ^ cnt n - 1 : Nat) : Int) := by
  unfold frustumref08_All.f
  rw [show (0 : Int) = ((0 : Nat) : Int) from rfl, ref_all_loop n 16 0 k [] rfl (by simp) (by omega), List.nil_append, ofL_sel _ (2 ^ cnt n - 1) (all_lt n)]
  intro j hj; rw [all_bits n j hj]
theorem has_and (a b : Nat) (i : Int) : hasB (a &&& b) i = (hasB a i && hasB b i) := by
  unfold hasB; rw [Nat.testBit_and]; cases decide (0 ≤ i) <;> rfl
theorem has_or (a b : Nat) (i : Int) : hasB (a ||| b) i = (hasB a i || hasB b i) := by
  unfold hasB; rw [Nat.testBit_or]; cases decide (0 ≤ i) <;> rfl
theorem has_less (a b : Nat) (ha : a < 65536) (i : Int) : hasB (less a b) i = (hasB a i && !hasB b i) := by
  by_cases h : i < 0 ∨ 16 ≤ i
  · rw [hasB_out _ (less_lt a b) i h, hasB_out a ha i h]; rfl
  · obtain ⟨j, rfl⟩ := Int.eq_ofNat_of_zero_le (show 0 ≤ i by omega)
    rw [hasB_nat, hasB_nat, hasB_nat, less_bits a b j (by omega)]
theorem has_one (i : Int) : hasB (one i) i = decide (0 ≤ i ∧ i < 16) := by
  by_cases h : i < 0 ∨ 16 ≤ i
  · rw [hasB_out _ (one_lt i) i h, decide_eq_false (by omega)]
  · obtain ⟨j, rfl⟩ := Int.eq_ofNat_of_zero_le (show 0 ≤ i by omega)
    rw [hasB_nat, one_bits _ j (by omega), decide_eq_true rfl, decide_eq_true (by omega)]
theorem example_tells : frustumlaw08_example.f = some true := by decide +kernel
theorem wf_u16 {a : Int} (h : (Lit.int .u16 a).wf = true) : ∃ n : Nat, a = n ∧ n < 65536 := by
  have h2 : 0 ≤ a ∧ a ≤ 65535 := by
    have h3 : (decide (IntKind.u16.min ≤ a) && decide (a ≤ IntKind.u16.max)) = true := h
    rw [Bool.and_eq_true, decide_eq_true_iff, decide_eq_true_iff] at h3
    exact h3
  exact ⟨a.toNat, by omega, by omega⟩
theorem and_fn (a b : Nat) (ha : a < 65536) (hb : b < 65536) : mask_And.f a b = some ((a &&& b : Nat) : Int) := by unfold mask_And.f; rw [and_tells a b ha hb]
theorem or_fn (a b : Nat) (ha : a < 65536) (hb : b < 65536) : mask_Or.f a b = some ((a ||| b : Nat) : Int) := by unfold mask_Or.f; rw [or_tells a b ha hb]
theorem less_fn (a b : Nat) : mask_AndNot.f a b = some ((less a b : Nat) : Int) := by unfold mask_AndNot.f; rw [less_tells a b]

end Go.Proofs.Ytblfokhcfpajpaa.Pure
