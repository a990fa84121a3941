/- IsName and FormatHash: the two sides answer alike. -/
import Derived.Test.YtkmnkikcbmfecaaDoorPlainN
namespace Go.Proofs.YtkmnkikcbmfecaaDoor.PureN
open Go Go.RowKit Go.Proofs.YtkmnkikcbmfecaaDoor.PFN Go.Proofs.YtkmnkikcbmfecaaDoorW.PrintWords Go.Proofs.YtkmnkikcbmfecaaDoorW.PrintLast Go.Proofs.YtkmnkikcbmfecaaDoorW.PrintMore
def ltrB (c : UInt8) : Bool := decide ((97 ≤ c.toNat ∧ c.toNat ≤ 122) ∨ (65 ≤ c.toNat ∧ c.toNat ≤ 90) ∨ c.toNat = 95)
def namC (c : UInt8) : Bool := ltrB c || isD c
theorem ltr_tells (c : UInt8) : frustumref06_letter.f (c.toNat : Int) = some (ltrB c) := by
  unfold frustumref06_letter.f ltrB
  by_cases h1 : 97 ≤ c.toNat <;> by_cases h2 : c.toNat ≤ 122 <;> by_cases h3 : 65 ≤ c.toNat <;> by_cases h4 : c.toNat ≤ 90 <;> by_cases h5 : c.toNat = 95 <;>
    (repeat (first | rw [if_pos (by omega)] | rw [if_neg (by omega)])) <;> (congr 1; rw [Bool.eq_iff_iff]; simp only [beq_iff_eq, decide_eq_true_eq, true_iff]; omega)
theorem isName_step (s : ByteArray) (i : Nat) (h : i < s.data.toList.length) (hs : s.data.toList.length ≤ 1000000) (k : Nat) :
    format_IsName.l0 (k + 1) s i = if ltrB s.data.toList[i] = true ∨ (i ≠ 0 ∧ isD s.data.toList[i] = true) then format_IsName.l0 k s ((i + 1 : Nat) : Int) else some false := by
  have hz : (s.size : Int) = s.data.toList.length := by rw [size_len]
  have hw : wrap64 ((i : Int) + 1) = ((i + 1 : Nat) : Int) := by rw [wrap_in (by omega) (by omega)]; omega
  have hb := bt_nat s i h
  simp only [format_IsName.l0]
  rw [if_pos (by omega), if_pos (by omega), hb, hw]
  unfold ltrB isD
  generalize s.data.toList[i] = c
  generalize format_IsName.l0 k s ((i + 1 : Nat) : Int) = X
  simp only [Bool.and_eq_true, decide_eq_true_eq]
  by_cases h1 : 97 ≤ c.toNat <;> by_cases h2 : c.toNat ≤ 122 <;> by_cases h3 : 65 ≤ c.toNat <;> by_cases h4 : c.toNat ≤ 90 <;> by_cases h5 : c.toNat = 95 <;> by_cases h6 : i = 0 <;> by_cases h7 : 48 ≤ c.toNat <;> by_cases h8 : c.toNat ≤ 57 <;>
    first
    | omega
    | ((repeat (first | rw [if_pos (by omega)] | rw [if_neg (by omega)])))
theorem isName_loop (s : ByteArray) (hs : s.data.toList.length ≤ 1000000) (d : Nat) : ∀ (i k : Nat), 1 ≤ i → i + d = s.data.toList.length → d < k →
    format_IsName.l0 k s i = some ((s.data.toList.drop i).all namC) := by
  induction d with
  | zero =>
    intro i k h1 hd hk
    obtain ⟨k, rfl⟩ : ∃ m, k = m + 1 := ⟨k - 1, by omega⟩
    have hz : (s.size : Int) = s.data.toList.length := by rw [size_len]
    simp only [format_IsName.l0]
    rw [if_neg (by omega), List.drop_of_length_le (by omega)]; rfl
  | succ d ih =>
    intro i k h1 hd hk
    obtain ⟨k, rfl⟩ : ∃ m, k = m + 1 := ⟨k - 1, by omega⟩
    have hlt : i < s.data.toList.length := by omega
    rw [isName_step s i hlt hs k, drop_at _ i hlt, List.all_cons, ih (i + 1) k (by omega) (by omega) (by omega)]
    unfold namC
    by_cases hc : (ltrB s.data.toList[i] || isD s.data.toList[i]) = true
    · rw [hc, if_pos (by rw [Bool.or_eq_true] at hc; rcases hc with h | h; exact Or.inl h; exact Or.inr ⟨by omega, h⟩)]; simp
    · rw [Bool.not_eq_true] at hc
      rw [hc, if_neg (by rw [Bool.or_eq_false_iff] at hc; rw [hc.1, hc.2]; simp)]; rfl
def nameM (l : List UInt8) : Bool := match l with
  | [] => false
  | c :: r => decide (r.length < 16) && (ltrB c && r.all namC)
theorem isName_tells (s : ByteArray) (hs : s.data.toList.length ≤ 1000000) (k : Nat) (hk : s.data.toList.length + 2 < k) : format_IsName.f k s = some (nameM s.data.toList) := by
  obtain ⟨k, rfl⟩ : ∃ m, k = m + 2 := ⟨k - 2, by omega⟩
  have hz : (s.size : Int) = s.data.toList.length := by rw [size_len]
  unfold format_IsName.f
  rw [list_of]
  cases hl : s.data.toList with
  | nil => rw [if_pos rfl]; simp only [format_IsName.j0]; rfl
  | cons c r =>
    rw [if_neg (by simp)]
    have hlen : s.data.toList.length = r.length + 1 := by rw [hl]; rfl
    simp only [format_IsName.j0]
    show _ = some (decide (r.length < 16) && (ltrB c && r.all namC))
    by_cases h16 : r.length < 16
    · have h0 : s.data.toList[0]'(by omega) = c := by simp [hl]
      rw [if_neg (by rw [decide_eq_true_eq]; omega), show (0 : Int) = ((0 : Nat) : Int) from rfl, isName_step s 0 (by omega) hs k, h0, decide_eq_true h16]
      by_cases hc : ltrB c = true
      · rw [if_pos (Or.inl hc), isName_loop s hs r.length 1 k (by omega) (by omega) (by omega), hl, hc]; rfl
      · rw [if_neg (by simp [hc])]; rw [Bool.not_eq_true] at hc; rw [hc]; rfl
    · rw [if_pos (by rw [decide_eq_true_eq]; omega), decide_eq_false h16]; rfl
theorem refName_loop (s : ByteArray) (hs : s.data.toList.length ≤ 1000000) (d : Nat) : ∀ (i k : Nat), 1 ≤ i → i + d = s.data.toList.length → d < k →
    frustumref06_IsName.l0 k s i = some ((s.data.toList.drop i).all namC) := by
  have hz : (s.size : Int) = s.data.toList.length := by rw [size_len]
  induction d with
  | zero =>
    intro i k h1 hd hk
    obtain ⟨k, rfl⟩ : ∃ m, k = m + 1 := ⟨k - 1, by omega⟩
    simp only [frustumref06_IsName.l0]
    rw [if_neg (by omega), List.drop_of_length_le (by omega)]; rfl
  | succ d ih =>
    intro i k h1 hd hk
    obtain ⟨k, rfl⟩ : ∃ m, k = m + 1 := ⟨k - 1, by omega⟩
    have hlt : i < s.data.toList.length := by omega
    have hw : wrap64 ((i : Int) + 1) = ((i + 1 : Nat) : Int) := by rw [wrap_in (by omega) (by omega)]; omega
    simp only [frustumref06_IsName.l0]
    rw [if_pos (by omega), if_pos (by omega), bt_nat s i hlt, hw, ltr_tells, ih (i + 1) k (by omega) (by omega) (by omega), drop_at _ i hlt, List.all_cons]
    simp only [Option.bind_some]
    unfold namC isD
    cases hc : ltrB s.data.toList[i]
    · rw [if_neg (by simp)]
      by_cases h7 : 48 ≤ (s.data.toList[i]).toNat <;> by_cases h8 : (s.data.toList[i]).toNat ≤ 57
      · rw [if_neg (by omega), if_neg (by omega), decide_eq_true h7, decide_eq_true h8]; rfl
      · rw [if_neg (by omega), if_pos (by omega), decide_eq_false h8]; simp
      · rw [if_pos (by omega), decide_eq_false h7]; rfl
      · rw [if_pos (by omega), decide_eq_false h7]; rfl
    · rw [if_pos rfl]; rfl
theorem refName_tells (s : ByteArray) (hs : s.data.toList.length ≤ 1000000) (k : Nat) (hk : s.data.toList.length + 2 < k) : frustumref06_IsName.f k s = some (nameM s.data.toList) := by
  obtain ⟨k, rfl⟩ : ∃ m, k = m + 1 := ⟨k - 1, by omega⟩
  have hz : (s.size : Int) = s.data.toList.length := by rw [size_len]
  unfold frustumref06_IsName.f
  cases hl : s.data.toList with
  | nil =>
    have h0 : s.data.toList.length = 0 := by rw [hl]; rfl
    rw [if_pos (by omega)]; simp only [frustumref06_IsName.j0]; rfl
  | cons c r =>
    have hlen : s.data.toList.length = r.length + 1 := by rw [hl]; rfl
    rw [if_neg (by omega)]
    simp only [frustumref06_IsName.j0]
    show _ = some (decide (r.length < 16) && (ltrB c && r.all namC))
    by_cases h16 : r.length < 16
    · have h0 : s.data.toList[0]'(by omega) = c := by simp [hl]
      have hb := bt_nat s 0 (by omega)
      rw [if_neg (by omega), if_pos (by omega), show (0 : Int) = ((0 : Nat) : Int) from rfl, hb, h0, ltr_tells, decide_eq_true h16]
      simp only [Option.bind_some]
      cases hc : ltrB c
      · simp
      · rw [show (1 : Int) = ((1 : Nat) : Int) from rfl, refName_loop s hs r.length 1 k (by omega) (by omega) (by omega), hl]; simp
    · rw [if_pos (by omega), decide_eq_false h16]; simp
def padH : Nat → Nat → List UInt8
  | 0, _ => []
  | k + 1, u => padH k (u / 16) ++ [hexd (u % 16)]
theorem padH_len (k : Nat) : ∀ u, (padH k u).length = k := by
  induction k with
  | zero => intro u; rfl
  | succ k ih => intro u; simp [padH, ih]
theorem padH_zero (k : Nat) : padH k 0 = List.replicate k 48 := by
  induction k with
  | zero => rfl
  | succ k ih => simp only [padH, Nat.zero_div, Nat.zero_mod, ih]; rw [List.replicate_succ']; rfl
theorem hex_pad (k : Nat) : ∀ u, u < 16 ^ (k + 1) → 1 ≤ (hexF k u).length ∧ (hexF k u).length ≤ k + 1 ∧ List.replicate (k + 1 - (hexF k u).length) 48 ++ hexF k u = padH (k + 1) u := by
  induction k with
  | zero => intro u hu; exact ⟨by simp [hexF], by simp [hexF], by simp [hexF, padH]⟩
  | succ k ih =>
    intro u hu
    simp only [hexF]
    by_cases h : u < 16
    · rw [if_pos h]
      refine ⟨by simp, by simp, ?_⟩
      show List.replicate (k + 1 + 1 - 1) 48 ++ [hexd u] = padH (k + 1) (u / 16) ++ [hexd (u % 16)]
      rw [Nat.div_eq_of_lt h, padH_zero, Nat.mod_eq_of_lt h]; rfl
    · rw [if_neg h]
      obtain ⟨h1, h2, h3⟩ := ih (u / 16) (by rw [Nat.pow_succ] at hu; omega)
      refine ⟨by simp, by simp; omega, ?_⟩
      rw [List.length_append, List.length_singleton, show k + 1 + 1 - ((hexF k (u / 16)).length + 1) = k + 1 - (hexF k (u / 16)).length by omega, ← List.append_assoc, h3]; rfl
theorem strOf_one (k : Nat) (h : k < 16) : strOfNums [bt (⟨#[48, 49, 50, 51, 52, 53, 54, 55, 56, 57, 97, 98, 99, 100, 101, 102]⟩ : ByteArray) (k : Int)] = ⟨[hexd k].toArray⟩ := by
  have h2 := bt_nat (⟨#[48, 49, 50, 51, 52, 53, 54, 55, 56, 57, 97, 98, 99, 100, 101, 102]⟩ : ByteArray) k (by show k < 16; exact h)
  have hall : ∀ i : Fin 16, ([48, 49, 50, 51, 52, 53, 54, 55, 56, 57, 97, 98, 99, 100, 101, 102] : List UInt8)[i.val]'i.isLt = hexd i.val := by decide
  have h3 := hall ⟨k, h⟩
  rw [h2]
  have h4 : ((⟨#[48, 49, 50, 51, 52, 53, 54, 55, 56, 57, 97, 98, 99, 100, 101, 102]⟩ : ByteArray).data.toList[k]'(by show k < 16; exact h)) = hexd k := h3
  rw [h4]
  unfold strOfNums
  simp
theorem refHash_loop (n : Nat) : ∀ (u k i : Nat) (acc : List UInt8), i + n = 16 → acc.length = i → u < 18446744073709551616 → n < k → frustumref06_FormatHash.l0 k u ⟨acc.toArray⟩ i = some ⟨(padH n u ++ acc).toArray⟩ := by
  induction n with
  | zero =>
    intro u k i acc hi ha hu hk
    obtain ⟨k, rfl⟩ : ∃ m, k = m + 1 := ⟨k - 1, by omega⟩
    simp only [frustumref06_FormatHash.l0]
    rw [if_neg (by omega)]; rfl
  | succ n ih =>
    intro u k i acc hi ha hu hk
    obtain ⟨k, rfl⟩ : ∃ m, k = m + 1 := ⟨k - 1, by omega⟩
    simp only [frustumref06_FormatHash.l0]
    have ht : Int.tmod (u : Int) 16 = ((u % 16 : Nat) : Int) := by rw [Int.tmod_eq_emod_of_nonneg (by omega)]; omega
    have hd : Int.tdiv (u : Int) 16 = ((u / 16 : Nat) : Int) := by rw [Int.tdiv_eq_ediv_of_nonneg (by omega)]; omega
    have hw : wrap64 ((i : Int) + 1) = ((i + 1 : Nat) : Int) := by rw [wrap_in (by omega) (by omega)]; omega
    rw [if_pos (by omega), ht, hd, if_pos (by omega), if_pos (by omega)]
    simp only [Option.bind_some]
    rw [strOf_one _ (by omega), mk_size, mk_size, if_pos (by simp; omega), mk_append, hw, u64_wrap, show ((u / 16 : Nat) : Int) % 18446744073709551616 = ((u / 16 : Nat) : Int) by omega, ih (u / 16) k (i + 1) _ (by omega) (by simp; omega) (by omega) (by omega)]
    simp [padH]
theorem hash_tells (u : Nat) (hu : u < 18446744073709551616) : format_FormatHash.f u = some ⟨(padH 16 u).toArray⟩ := by
  obtain ⟨h1, h2, h3⟩ := hex_pad 15 u (by rw [show (16 : Nat) ^ (15 + 1) = 18446744073709551616 by decide]; exact hu)
  unfold format_FormatHash.f
  refine bind_of (v := ⟨(hexF 15 u).toArray⟩) ?_ ?_
  · unfold strconv_FormatUint_45.f strconv_FormatUint_60.f
    rw [if_pos ⟨rfl, by omega, by omega⟩, Int.toNat_natCast]; rfl
  · rw [mk_size]
    have hw : wrap64 (16 - ((hexF 15 u).length : Int)) = ((16 - (hexF 15 u).length : Nat) : Int) := by rw [wrap_in (by omega) (by omega)]; omega
    rw [hw]
    refine bind_of (v := ⟨(List.replicate (16 - (hexF 15 u).length) (48 : UInt8)).toArray⟩) ?_ ?_
    · unfold strings_Repeat.f
      rw [if_pos ⟨by omega, by omega, by rw [Int.toNat_natCast]; show 1 * _ ≤ _; omega⟩, Int.toNat_natCast]
      have hr : ∀ n : Nat, Lib.repeatL [48] n = List.replicate n (48 : UInt8) := by
        intro n
        induction n with
        | zero => rfl
        | succ n ih => simp only [Lib.repeatL, ih, List.replicate_succ]; rfl
      rw [show (⟨#[48]⟩ : ByteArray).data.toList = [48] from rfl, hr]
    · rw [mk_size, if_pos (by simp; omega), mk_append, ← h3]
theorem namesLaw (s : ByteArray) (a1 : Int) (hw : (Lit.int .u64 a1).wf = true) : ∃ k, frustumlaw06_FormatNames.f k s a1 = some true := by
  refine ⟨3000, ?_⟩
  have hz : (s.size : Int) = s.data.toList.length := by rw [size_len]
  unfold frustumlaw06_FormatNames.f
  by_cases h : (s.size : Int) > 2000
  · rw [if_pos h]; exact bind_of (example_tells _ (by omega)) rfl
  · rw [if_neg h]
    refine bind_of (isName_tells s (by omega) _ (by omega)) (bind_of (refName_tells s (by omega) _ (by omega)) ?_)
    rw [if_pos (by simp)]
    have hu : 0 ≤ a1 ∧ a1 < 18446744073709551616 := by
      have h := hw
      simp [Lit.wf, IntKind.min, IntKind.max, IntKind.signed, IntKind.bits] at h
      omega
    obtain ⟨u, rfl⟩ : ∃ u : Nat, a1 = u := ⟨a1.toNat, by omega⟩
    have hr := refHash_loop 16 u 3000 0 [] (by omega) rfl (by omega) (by omega)
    rw [List.append_nil] at hr
    refine bind_of (hash_tells u (by omega)) (bind_of (v := ⟨(padH 16 u).toArray⟩) (by unfold frustumref06_FormatHash.f; exact hr) ?_)
    rw [if_pos rfl]
    exact bind_of (example_tells _ (by omega)) rfl
end Go.Proofs.YtkmnkikcbmfecaaDoor.PureN
namespace Go.Proofs.YtkmnkikcbmfecaaDoor.Pure
open Go.RowKit Go.Proofs.YtkmnkikcbmfecaaDoor.PFN
theorem FormatNames : frustumlaw06_FormatNames.Pure := fun a0 a1 _ hw => Go.Proofs.YtkmnkikcbmfecaaDoor.PureN.namesLaw a0 a1 hw
end Go.Proofs.YtkmnkikcbmfecaaDoor.Pure
