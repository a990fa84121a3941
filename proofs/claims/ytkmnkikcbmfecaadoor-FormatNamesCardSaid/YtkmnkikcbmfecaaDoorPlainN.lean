/- The plain laws of the package format that IsName and FormatHash need. -/
import Derived.Test.YtkmnkikcbmfecaaDoorPFNx
import Derived.Lib.CountLaws
import Derived.Lib.SplitLaws
namespace Go.Proofs.YtkmnkikcbmfecaaDoor.PureN
open Go Go.RowKit Go.Proofs.YtkmnkikcbmfecaaDoor.PFN Go.Proofs.YtkmnkikcbmfecaaDoorW.PrintWords Go.Proofs.YtkmnkikcbmfecaaDoorW.PrintLast Go.Proofs.YtkmnkikcbmfecaaDoorW.PrintMore
theorem wrap_in {n : Int} (h0 : -9223372036854775808 ≤ n) (h1 : n ≤ 9223372036854775807) : wrap64 n = n := by unfold wrap64; omega
theorem bind_of {α β : Type} {x : Option α} {v : α} {f : α → Option β} {r : Option β} (h : x = some v) (h2 : f v = r) : x.bind f = r := by subst h; exact h2
/-! Strings as lists of bytes. -/
theorem size_len (s : ByteArray) : s.size = s.data.toList.length := Array.length_toList.symm
theorem list_of (s : ByteArray) : s.toList = s.data.toList := Lib.toList_data s
theorem bt_nat (s : ByteArray) (i : Nat) (h : i < s.data.toList.length) : bt s i = ((s.data.toList[i]).toNat : Int) := by
  unfold bt
  rw [Int.toNat_natCast, dif_pos (by rw [size_len]; exact h)]
  rfl
theorem byte_lt (c : UInt8) : c.toNat < 256 := c.toNat_lt
theorem byte_eq {a b : UInt8} (h : a.toNat = b.toNat) : a = b := UInt8.toNat_inj.mp h
theorem data_mk (l : List UInt8) : (⟨l.toArray⟩ : ByteArray).data.toList = l := rfl
theorem mk_data (s : ByteArray) : (⟨s.data.toList.toArray⟩ : ByteArray) = s := by cases s; rfl
theorem data_append (a b : ByteArray) : (a ++ b).data.toList = a.data.toList ++ b.data.toList := by rw [ByteArray.data_append, Array.toList_append]
theorem same_data {a b : ByteArray} (h : a.data.toList = b.data.toList) : a = b := by
  cases a; cases b; simp only at h; congr 1; exact Array.toList_inj.mp h
theorem drop_at (l : List UInt8) (i : Nat) (h : i < l.length) : l.drop i = l[i] :: l.drop (i + 1) := List.drop_eq_getElem_cons h
/-! Digits and their number. -/
def isD (c : UInt8) : Bool := decide (48 ≤ c.toNat) && decide (c.toNat ≤ 57)
def dv (c : UInt8) : Nat := c.toNat - 48
def valF (n : Nat) (l : List UInt8) : Nat := l.foldl (fun n c => n * 10 + dv c) n
theorem isD_range {c : UInt8} (h : isD c = true) : 48 ≤ c.toNat ∧ c.toNat ≤ 57 := by
  unfold isD at h; rw [Bool.and_eq_true, decide_eq_true_iff, decide_eq_true_iff] at h; exact h
theorem isD_not {c : UInt8} (h : isD c = false) : c.toNat < 48 ∨ 57 < c.toNat := by
  unfold isD at h; rw [Bool.and_eq_false_iff, decide_eq_false_iff_not, decide_eq_false_iff_not] at h; omega
theorem valF_cons (n : Nat) (c : UInt8) (l : List UInt8) : valF n (c :: l) = valF (n * 10 + dv c) l := by unfold valF; rw [List.foldl_cons]
theorem valF_ge (l : List UInt8) : ∀ n, n ≤ valF n l := by
  induction l with
  | nil => intro n; exact Nat.le_refl _
  | cons c l ih => intro n; rw [valF_cons]; exact Nat.le_trans (by omega) (ih _)
theorem digits_loop (s : ByteArray) (hs : s.data.toList.length ≤ 4611686018427387904) (d : Nat) : ∀ (i k : Nat), i + d = s.data.toList.length → d < k →
    format_digits.l0 k s i = some ((s.data.toList.drop i).all isD && (s.data.toList != [])) := by
  induction d with
  | zero =>
    intro i k h hk
    obtain ⟨k, rfl⟩ : ∃ m, k = m + 1 := ⟨k - 1, by omega⟩
    simp only [format_digits.l0]
    rw [size_len, if_neg (by omega), List.drop_eq_nil_of_le (by omega), list_of, List.all_nil, Bool.true_and]
  | succ d ih =>
    intro i k h hk
    obtain ⟨k, rfl⟩ : ∃ m, k = m + 1 := ⟨k - 1, by omega⟩
    have hi : i < s.data.toList.length := by omega
    simp only [format_digits.l0]
    rw [size_len, if_pos (by omega), if_pos (by omega), bt_nat s i hi, drop_at _ i hi, List.all_cons]
    cases hb : isD s.data.toList[i] with
    | false =>
      rcases isD_not hb with h1 | h1
      · rw [if_pos (by omega)]; rfl
      · rw [if_neg (by omega), if_pos (by omega)]; rfl
    | true =>
      have := isD_range hb
      rw [if_neg (by omega), if_neg (by omega), wrap_in (by omega) (by omega)]
      exact ih (i + 1) k (by omega) (by omega)
theorem digits_tells (s : ByteArray) (hs : s.data.toList.length ≤ 4611686018427387904) (k : Nat) (hk : s.data.toList.length < k) :
    format_digits.f k s = some (s.data.toList.all isD && (s.data.toList != [])) := by
  unfold format_digits.f
  have := digits_loop s hs s.data.toList.length 0 k (by omega) hk
  rw [List.drop_zero] at this
  exact this
/-- Is it the decimal form of a natural number? -/
def natOk (l : List UInt8) : Bool := l.all isD && (l != []) && !(decide (1 < l.length) && (l.head? == some 48))
/-- What 'natural' returns. -/
def natM (l : List UInt8) (most : Nat) : Int × Int := if natOk l = true then (if valF 0 l > most then (0, 6) else ((valF 0 l : Int), 0)) else (0, 3)
theorem natural_loop (s : ByteArray) (hs : s.data.toList.length ≤ 4611686018427387904) (most : Nat) (hm : 9 ≤ most) (hm2 : most ≤ 4611686018427387904) (hd : s.data.toList.all isD = true) (d : Nat) :
    ∀ (i k n : Nat), i + d = s.data.toList.length → d < k → n ≤ most →
    format_natural.l0 k s most n i = some (if valF n (s.data.toList.drop i) > most then (0, 6) else ((valF n (s.data.toList.drop i) : Int), 0)) := by
  induction d with
  | zero =>
    intro i k n h hk hn
    obtain ⟨k, rfl⟩ : ∃ m, k = m + 1 := ⟨k - 1, by omega⟩
    simp only [format_natural.l0]
    rw [size_len, if_neg (by omega), List.drop_eq_nil_of_le (by omega), if_neg (show ¬ valF n [] > most by show ¬ n > most; omega)]
    rfl
  | succ d ih =>
    intro i k n h hk hn
    obtain ⟨k, rfl⟩ : ∃ m, k = m + 1 := ⟨k - 1, by omega⟩
    have hi : i < s.data.toList.length := by omega
    have hb := isD_range (List.all_eq_true.mp hd _ (List.getElem_mem hi))
    have hdv : dv s.data.toList[i] = s.data.toList[i].toNat - 48 := rfl
    simp only [format_natural.l0]
    rw [size_len, if_pos (by omega), if_pos (by omega), bt_nat s i hi, drop_at _ i hi, valF_cons]
    have e0 : (((s.data.toList[i]).toNat : Int) - 48) % 256 = (dv s.data.toList[i] : Int) := by omega
    rw [e0]
    generalize dv s.data.toList[i] = dd at *
    have hdd : dd ≤ 9 := by omega
    rw [wrap_in (n := (most : Int) - dd) (by omega) (by omega), Int.tdiv_eq_ediv_of_nonneg (by omega), wrap_in (n := ((most : Int) - dd) / 10) (by omega) (by omega)]
    by_cases hgt : n * 10 + dd > most
    · have := valF_ge (s.data.toList.drop (i + 1)) (n * 10 + dd)
      rw [if_pos (by omega), if_pos (by omega)]
    · rw [if_neg (by omega), wrap_in (n := 10 * (n : Int)) (by omega) (by omega), wrap_in (n := 10 * (n : Int) + dd) (by omega) (by omega), wrap_in (n := (i : Int) + 1) (by omega) (by omega)]
      have := ih (i + 1) k (n * 10 + dd) (by omega) (by omega) (by omega)
      rw [← this]
      congr 1
      omega
theorem natural_tells (s : ByteArray) (hs : s.data.toList.length ≤ 4611686018427387904) (most : Nat) (hm : 9 ≤ most) (hm2 : most ≤ 4611686018427387904) (k : Nat) (hk : s.data.toList.length + 1 < k) :
    format_natural.f k s most = some (natM s.data.toList most) := by
  unfold format_natural.f natM natOk
  obtain ⟨k, rfl⟩ : ∃ m, k = m + 1 := ⟨k - 1, by omega⟩
  rw [digits_tells s hs (k + 1) (by omega), Option.bind_some]
  have hj : ∀ k, s.data.toList.length + 1 < k + 1 → s.data.toList.all isD = true → format_natural.j0 (k + 1) s most false = some (if valF 0 s.data.toList > most then (0, 6) else ((valF 0 s.data.toList : Int), 0)) := by
    intro k hk hd
    simp only [format_natural.j0, Bool.false_eq_true, if_false]
    exact natural_loop s hs most hm hm2 hd s.data.toList.length 0 k 0 (by omega) (by omega) (by omega)
  have ht : ∀ k, format_natural.j0 (k + 1) s most true = some (0, 3) := by intro k; simp only [format_natural.j0, if_true]
  cases hd : s.data.toList.all isD with
  | false => simp only [Bool.false_and, Bool.false_eq_true, if_false]; exact ht k
  | true =>
    cases hn : (s.data.toList != []) with
    | false => simp only [Bool.and_false, Bool.false_and, Bool.false_eq_true, if_false]; exact ht k
    | true =>
      simp only [Bool.and_true, Bool.true_and, if_true]
      by_cases h1 : 1 < s.data.toList.length
      · rw [size_len, if_pos (by omega), if_pos (by omega), decide_eq_true h1]
        have hb := bt_nat s 0 (by omega)
        rw [show (0 : Int) = ((0 : Nat) : Int) from rfl, hb]
        have hh : s.data.toList.head? = some s.data.toList[0] := by rw [List.head?_eq_getElem?, List.getElem?_eq_getElem (by omega)]
        rw [hh]
        by_cases h48 : s.data.toList[0] = 48
        · rw [h48]
          exact ht k
        · have : ((s.data.toList[0].toNat : Int) == 48) = false := beq_eq_false_iff_ne.mpr (fun e => h48 (byte_eq (by show _ = 48; omega)))
          rw [this, show (some s.data.toList[0] == some (48 : UInt8)) = false from beq_eq_false_iff_ne.mpr (fun e => h48 (Option.some.inj e))]
          simp only [Bool.and_false, Bool.not_false, if_true]
          exact hj k hk hd
      · rw [size_len, if_neg (by omega), decide_eq_false h1]
        simp only [Bool.false_and, Bool.not_false, if_true]
        exact hj k hk hd
theorem bne_nil (l : List UInt8) : (l != []) = decide (0 < l.length) := by cases l <;> simp
def neg (l : List UInt8) : Bool := l.head? == some 45
def rest (l : List UInt8) : List UInt8 := if neg l = true then l.drop 1 else l
theorem rest_len (l : List UInt8) : (rest l).length ≤ l.length := by unfold rest; split <;> simp
theorem cutPrefix_tells (s : ByteArray) (hs : s.data.toList.length ≤ 4611686018427387904) : strings_CutPrefix.f s (⟨#[45]⟩ : ByteArray) = some (⟨(rest s.data.toList).toArray⟩, neg s.data.toList) := by
  unfold strings_CutPrefix.f stringslite_CutPrefix.f stringslite_HasPrefix.f
  have h1 : ((⟨#[45]⟩ : ByteArray).size : Int) = 1 := rfl
  rw [h1, size_len]
  unfold rest
  by_cases h : 1 ≤ s.data.toList.length
  · have hh : s.data.toList.head? = some s.data.toList[0] := by rw [List.head?_eq_getElem?, List.getElem?_eq_getElem (by omega)]
    have e1 : (s.extract 0 ((1 : Int)).toNat).toList = [s.data.toList[0]] := by
      rw [list_of, Lib.extract_data]
      have := drop_at s.data.toList 0 (by omega)
      rw [this]
      rfl
    have e2 : (⟨#[45]⟩ : ByteArray).toList = [45] := by rw [list_of]
    have e3 : neg s.data.toList = ([s.data.toList[0]] == [(45 : UInt8)]) := by
      unfold neg; rw [hh]
      by_cases e : s.data.toList[0] = 45
      · rw [e]; rfl
      · rw [beq_eq_false_iff_ne.mpr (fun q => e (Option.some.inj q)), beq_eq_false_iff_ne.mpr (fun q => e (List.cons.inj q).1)]
    rw [if_pos (by omega), if_pos (by omega), if_pos (by omega), e1, e2, ← e3]
    simp only [Option.bind_some]
    cases hn : neg s.data.toList with
    | false => simp only [Bool.false_eq_true, if_false, Option.bind_some]
    | true =>
      simp only [if_true]
      rw [if_pos (by omega), if_pos (by omega)]
      simp only [Option.bind_some]
      congr 2
      apply same_data
      rw [← size_len, Lib.extract_to_end]
      rfl
  · have h0 : s.data.toList = [] := List.eq_nil_of_length_eq_zero (by omega)
    rw [if_neg (by omega)]
    simp only [Option.bind_some, Bool.false_eq_true, if_false]
    rw [show neg s.data.toList = false by rw [h0]; rfl]
    simp only [Bool.false_eq_true, if_false]
/-- What ParseInt returns. -/
def pintM (l : List UInt8) : Int × Int :=
  if natOk (rest l) = true then (if valF 0 (rest l) > 4611686018427387904 then (0, 6) else if neg l = true then (if valF 0 (rest l) = 0 then (0, 3) else (-(valF 0 (rest l) : Int), 0)) else ((valF 0 (rest l) : Int), 0)) else (0, 3)
theorem u64_wrap (n : Int) : IntKind.u64.wrap n = n % 18446744073709551616 := by simp [IntKind.wrap, IntKind.bits, IntKind.signed]
theorem dec_small {u : Nat} (h : u < 10) : Lib.decDigits u = [UInt8.ofNat (48 + u)] := by rw [Lib.decDigits, dif_pos h]
theorem dec_big {u : Nat} (h : ¬ u < 10) : Lib.decDigits u = Lib.decDigits (u / 10) ++ [UInt8.ofNat (48 + u % 10)] := by rw [Lib.decDigits, dif_neg h]
theorem nums_one (d : Nat) (h : d < 10) : strOfNums [(48 + (d : Int)) % 256] = ⟨[UInt8.ofNat (48 + d)].toArray⟩ := by
  unfold strOfNums
  have : ((48 + (d : Int)) % 256).toNat = 48 + d := by omega
  simp [this]
theorem mk_append (a b : List UInt8) : (⟨a.toArray⟩ : ByteArray) ++ ⟨b.toArray⟩ = ⟨(a ++ b).toArray⟩ := by
  apply same_data; rw [data_append]
theorem mk_size (a : List UInt8) : (⟨a.toArray⟩ : ByteArray).size = a.length := by rw [size_len]
theorem valF_append (a b : List UInt8) (n : Nat) : valF n (a ++ b) = valF (valF n a) b := by unfold valF; rw [List.foldl_append]
theorem digit_back {c : UInt8} (h : isD c = true) : UInt8.ofNat (48 + dv c) = c := by
  have := isD_range h
  apply byte_eq
  show (UInt8.ofNat (48 + (c.toNat - 48))).toNat = c.toNat
  rw [UInt8.toNat_ofNat']
  omega
theorem canon_back (l : List UInt8) : ∀ (c : UInt8), (c :: l).all isD = true → c ≠ 48 → 1 ≤ valF 0 (c :: l) ∧ Lib.decDigits (valF 0 (c :: l)) = c :: l := by
  have key : ∀ (n : Nat) (l : List UInt8), l.length = n → ∀ c, (c :: l).all isD = true → c ≠ 48 → 1 ≤ valF 0 (c :: l) ∧ Lib.decDigits (valF 0 (c :: l)) = c :: l := by
    intro n
    induction n with
    | zero =>
      intro l hl c hd hc
      obtain rfl := List.eq_nil_of_length_eq_zero hl
      have hdc : isD c = true := by simpa using hd
      have hr := isD_range hdc
      have hne : c.toNat ≠ 48 := fun e => hc (byte_eq e)
      have e : valF 0 [c] = dv c := by rw [valF_cons]; show 0 * 10 + dv c = dv c; omega
      rw [e]
      have hdv : dv c = c.toNat - 48 := rfl
      exact ⟨by omega, by rw [dec_small (by omega), digit_back hdc]⟩
    | succ n ih =>
      intro l hl c hd hc
      have hne : l ≠ [] := by intro e; subst e; simp at hl
      have hsp : l.dropLast ++ [l.getLast hne] = l := List.dropLast_concat_getLast hne
      have hdl : (c :: l.dropLast).all isD = true := by
        rw [List.all_cons, Bool.and_eq_true] at hd ⊢
        refine ⟨hd.1, List.all_eq_true.mpr fun x hx => List.all_eq_true.mp hd.2 x (by rw [← hsp]; exact List.mem_append_left _ hx)⟩
      obtain ⟨h1, h2⟩ := ih l.dropLast (by rw [List.length_dropLast]; omega) c hdl hc
      have hlast : isD (l.getLast hne) = true := by
        rw [List.all_cons, Bool.and_eq_true] at hd
        exact List.all_eq_true.mp hd.2 _ (List.getLast_mem hne)
      have hr := isD_range hlast
      have e : valF 0 (c :: l) = valF 0 (c :: l.dropLast) * 10 + dv (l.getLast hne) := by
        conv => lhs; rw [← hsp, ← List.cons_append, valF_append, valF_cons]
        rfl
      have hdv : dv (l.getLast hne) = (l.getLast hne).toNat - 48 := rfl
      have hd9 : dv (l.getLast hne) ≤ 9 := by omega
      rw [e]
      refine ⟨by omega, ?_⟩
      rw [dec_big (by omega)]
      have e1 : (valF 0 (c :: l.dropLast) * 10 + dv (l.getLast hne)) / 10 = valF 0 (c :: l.dropLast) := by omega
      have e2 : (valF 0 (c :: l.dropLast) * 10 + dv (l.getLast hne)) % 10 = dv (l.getLast hne) := by omega
      rw [e1, e2, h2, digit_back hlast, List.cons_append, hsp]
  exact fun c => key l.length l rfl c
theorem nat_back (l : List UInt8) (h : natOk l = true) : Lib.decDigits (valF 0 l) = l := by
  unfold natOk at h
  rw [Bool.and_eq_true, Bool.and_eq_true] at h
  obtain ⟨⟨h1, h2⟩, h3⟩ := h
  cases l with
  | nil => simp at h2
  | cons c t =>
    by_cases hc : c = 48
    · subst hc
      cases t with
      | nil =>
        have e : valF 0 [(48 : UInt8)] = 0 := by rw [valF_cons]; rfl
        rw [e, dec_small (by decide)]; rfl
      | cons d t => simp at h3
    · exact (canon_back t c h1 hc).2
theorem int_back (l : List UInt8) (h : (pintM l).2 = 0) : Lib.itoa (pintM l).1 = l := by
  unfold pintM at h ⊢
  have hr : rest l = if neg l = true then l.drop 1 else l := rfl
  cases hn : natOk (rest l) with
  | false => rw [hn] at h; simp at h
  | true =>
    have hb := nat_back _ hn
    rw [hn] at h
    simp only [if_true] at h ⊢
    generalize valF 0 (rest l) = v at *
    by_cases hv : v > 4611686018427387904
    · rw [if_pos hv] at h; simp at h
    · rw [if_neg hv] at h
      rw [if_neg hv]
      cases hg : neg l with
      | false =>
        rw [hg] at hr
        simp only [Bool.false_eq_true, if_false] at hr ⊢
        unfold Lib.itoa
        rw [if_neg (by omega), Int.toNat_natCast, hb, hr]
      | true =>
        rw [hg] at hr h
        simp only [if_true] at hr h ⊢
        by_cases h0 : v = 0
        · rw [if_pos h0] at h; simp at h
        · rw [if_neg h0]
          unfold Lib.itoa
          rw [if_pos (by show -(v : Int) < 0; omega), show (-(v : Int)).natAbs = v by omega, hb, hr]
          cases l with
          | nil => simp [neg] at hg
          | cons c t =>
            have : c = 45 := by unfold neg at hg; simpa using hg
            subst this; rfl
theorem pint_range (l : List UInt8) : -9223372036854775808 ≤ (pintM l).1 ∧ (pintM l).1 ≤ 9223372036854775807 := by
  unfold pintM
  repeat' split
  all_goals (simp only; omega)
/-! The first place of a byte. -/
def pos (c : UInt8) : List UInt8 → Nat
  | [] => 0
  | b :: l => if b = c then 0 else pos c l + 1
theorem pos_le (c : UInt8) (l : List UInt8) : pos c l ≤ l.length := by
  induction l with
  | nil => exact Nat.le_refl _
  | cons b l ih => unfold pos; split <;> simp; omega
theorem index_pos (c : UInt8) (l : List UInt8) : Lib.index l [c] = if pos c l < l.length then (pos c l : Int) else -1 := by
  induction l with
  | nil => rfl
  | cons b l ih =>
    unfold Lib.index pos
    have hp : List.isPrefixOf [c] (b :: l) = (c == b) := by simp [List.isPrefixOf]
    rw [hp]
    by_cases h : b = c
    · subst h; simp
    · rw [beq_eq_false_iff_ne.mpr (fun e => h e.symm), if_neg (by decide), if_neg h, ih]
      by_cases hl : pos c l < l.length
      · rw [if_pos hl, beq_eq_false_iff_ne.mpr (show ((pos c l : Nat) : Int) ≠ -1 by omega), if_neg (by decide), if_pos (by rw [List.length_cons]; omega)]
        omega
      · rw [if_neg hl, if_pos (by decide), if_neg (by rw [List.length_cons]; omega)]
theorem cut_pos (c : UInt8) (l : List UInt8) : Lib.cut l [c] = if pos c l < l.length then (l.take (pos c l), l.drop (pos c l + 1), true) else (l, [], false) := by
  unfold Lib.cut
  rw [index_pos]
  by_cases h : pos c l < l.length
  · rw [if_pos h, if_pos h, if_pos (by omega), Int.toNat_natCast]; rfl
  · rw [if_neg h, if_neg h, if_neg (by omega)]
theorem pos_at (c : UInt8) (l : List UInt8) (h : pos c l < l.length) : l[pos c l] = c := by
  induction l with
  | nil => simp at h
  | cons b l ih =>
    unfold pos at h ⊢
    by_cases e : b = c
    · simp only [if_pos e]; exact e
    · simp only [if_neg e] at h ⊢
      simp only [List.getElem_cons_succ]
      exact ih (by simpa using h)
theorem pos_before (c : UInt8) (l : List UInt8) : ∀ (i : Nat) (hi : i < l.length), i < pos c l → l[i] ≠ c := by
  induction l with
  | nil => intro i hi; simp at hi
  | cons b l ih =>
    intro i hi h
    unfold pos at h
    by_cases e : b = c
    · rw [if_pos e] at h; omega
    · rw [if_neg e] at h
      cases i with
      | zero => exact e
      | succ i => exact ih i (by simpa using hi) (by omega)
theorem roundDiv_tells (n d : Nat) (hn : n ≤ 4611686018427387904) (hd : d ≤ 4611686018427387904) (h0 : 0 < d) : format_roundDiv.f n d = some (((n + d / 2) / d : Nat) : Int) := by
  unfold format_roundDiv.f
  have a1 : Int.tdiv (d : Int) 2 = (d : Int) / 2 := Int.tdiv_eq_ediv_of_nonneg (by omega)
  rw [if_neg (by omega), a1, wrap_in (n := (d : Int) / 2) (by omega) (by omega), wrap_in (n := (n : Int) + (d : Int) / 2) (by omega) (by omega)]
  have a2 : Int.tdiv ((n : Int) + (d : Int) / 2) d = ((n : Int) + (d : Int) / 2) / d := Int.tdiv_eq_ediv_of_nonneg (by omega)
  rw [a2]
  have e : ((n : Int) + (d : Int) / 2) / d = (((n + d / 2) / d : Nat) : Int) := by
    rw [Int.natCast_ediv]; rfl
  rw [e]
  have : (n + d / 2) / d ≤ n + d / 2 := Nat.div_le_self _ _
  generalize (n + d / 2) / d = q at *
  rw [wrap_in (by omega) (by omega)]
theorem half_up (n d : Nat) (he : d % 2 = 0) (h0 : 0 < d) : (n + d / 2) / d = n / d + (if d ≤ 2 * (n % d) then 1 else 0) := by
  have h1 := Nat.div_add_mod n d
  have h2 := Nat.mod_lt n h0
  generalize n / d = q at *
  generalize n % d = r at *
  by_cases h : d ≤ 2 * r
  · rw [if_pos h]
    apply Nat.div_eq_of_lt_le
    · rw [Nat.add_mul, Nat.one_mul, Nat.mul_comm]; omega
    · rw [Nat.add_mul, Nat.add_mul, Nat.one_mul, Nat.mul_comm q d]; omega
  · rw [if_neg h]
    apply Nat.div_eq_of_lt_le
    · rw [Nat.add_zero, Nat.mul_comm]; omega
    · rw [Nat.add_zero, Nat.add_mul, Nat.one_mul, Nat.mul_comm q d]; omega
theorem pow_le5 {j : Nat} (h : j ≤ 5) : 10 ^ j ≤ 100000 ∧ 1 ≤ 10 ^ j := ⟨Nat.pow_le_pow_right (n := 10) (by decide) h, Nat.one_le_pow _ _ (by decide)⟩
theorem even_pow {j : Nat} (h : 1 ≤ j) : 10 ^ j % 2 = 0 := by
  obtain ⟨i, rfl⟩ : ∃ i, j = i + 1 := ⟨j - 1, by omega⟩
  rw [Nat.pow_succ]; omega
/-! ParseFixed. -/
/-- The fixed-point number of a whole part and a fraction part. -/
def fixOf (w : Nat) (part : List UInt8) : Nat := w * 65536 + (valF 0 part * 65536 + 10 ^ part.length / 2) / 10 ^ part.length
def pfixM (l : List UInt8) : Int × Int :=
  let r := rest l
  if pos 46 r < r.length ∧ (r.drop (pos 46 r + 1)).all isD = true ∧ 0 < (r.drop (pos 46 r + 1)).length ∧ (r.drop (pos 46 r + 1)).length ≤ 5 ∧ natOk (r.take (pos 46 r)) = true then
    (if valF 0 (r.take (pos 46 r)) > 8191 then (0, 6) else if neg l = true ∧ fixOf (valF 0 (r.take (pos 46 r))) (r.drop (pos 46 r + 1)) = 0 then (0, 3) else if fixOf (valF 0 (r.take (pos 46 r))) (r.drop (pos 46 r + 1)) > 536870911 then (0, 6) else if neg l = true then (-(fixOf (valF 0 (r.take (pos 46 r))) (r.drop (pos 46 r + 1)) : Int), 0) else ((fixOf (valF 0 (r.take (pos 46 r))) (r.drop (pos 46 r + 1)) : Int), 0))
  else (0, 3)
theorem valF_lt (l : List UInt8) : ∀ n, l.all isD = true → valF n l < (n + 1) * 10 ^ l.length := by
  induction l with
  | nil => intro n _; show n < (n + 1) * 1; omega
  | cons c l ih =>
    intro n h
    rw [List.all_cons, Bool.and_eq_true] at h
    have hr := isD_range h.1
    have hdv : dv c = c.toNat - 48 := rfl
    have := ih (n * 10 + dv c) h.2
    rw [valF_cons, List.length_cons, Nat.pow_succ]
    refine Nat.lt_of_lt_of_le this ?_
    have e : (n + 1) * (10 ^ l.length * 10) = ((n + 1) * 10) * 10 ^ l.length := by rw [Nat.mul_comm (10 ^ l.length) 10, ← Nat.mul_assoc]
    rw [e]
    exact Nat.mul_le_mul_right _ (by omega)
theorem valF_small (l : List UInt8) (h : l.all isD = true) (hl : l.length ≤ 5) : valF 0 l < 10 ^ l.length ∧ 10 ^ l.length ≤ 100000 ∧ 1 ≤ 10 ^ l.length := by
  have := valF_lt l 0 h
  rw [Nat.zero_add, Nat.one_mul] at this
  exact ⟨this, pow_le5 hl⟩
theorem parseFixed_loop (s : ByteArray) (hd : s.data.toList.all isD = true) (hl : s.data.toList.length ≤ 5) (ng : Bool) (w : Nat) (hw : w ≤ 8191) (d : Nat) : ∀ (i k f : Nat), i + d = s.data.toList.length → d + 1 < k → f < 10 ^ i → 0 < s.data.toList.length →
    format_ParseFixed.l0 k ng s w f ((10 ^ i : Nat) : Int) i = some (
      let x := w * 65536 + (valF f (s.data.toList.drop i) * 65536 + 10 ^ s.data.toList.length / 2) / 10 ^ s.data.toList.length
      if ng = true ∧ x = 0 then (0, 3) else if x > 536870911 then (0, 6) else if ng = true then (-(x : Int), 0) else ((x : Int), 0)) := by
  induction d with
  | zero =>
    intro i k f h hk hf hpos
    obtain ⟨k, rfl⟩ : ∃ m, k = m + 2 := ⟨k - 2, by omega⟩
    obtain rfl : i = s.data.toList.length := by omega
    obtain ⟨hp1, hp2⟩ := pow_le5 hl
    rw [List.drop_eq_nil_of_le (Nat.le_refl _)]
    have e0 : valF f [] = f := rfl
    rw [e0]
    generalize hP : 10 ^ s.data.toList.length = P at *
    simp only [format_ParseFixed.l0]
    rw [size_len, if_neg (by omega), wrap_in (n := (f : Int) * 65536) (by omega) (by omega)]
    have e1 : (f : Int) * 65536 = ((f * 65536 : Nat) : Int) := by omega
    rw [e1]
    refine bind_of (roundDiv_tells (f * 65536) P (by omega) (by omega) (by omega)) ?_
    have hq : (f * 65536 + P / 2) / P ≤ f * 65536 + P / 2 := Nat.div_le_self _ _
    generalize (f * 65536 + P / 2) / P = q at *
    rw [wrap_in (n := (w : Int) * 65536) (by omega) (by omega), wrap_in (n := (w : Int) * 65536 + q) (by omega) (by omega)]
    have e2 : (w : Int) * 65536 + q = ((w * 65536 + q : Nat) : Int) := by omega
    rw [e2]
    generalize w * 65536 + q = x
    have hx : x = x := rfl
    cases ng with
    | false =>
      simp only [format_ParseFixed.j2, Bool.false_eq_true, if_false, false_and]
      by_cases h : x > 536870911
      · rw [if_pos h, if_pos (by omega)]
      · rw [if_neg h, if_neg (by omega)]
    | true =>
      simp only [format_ParseFixed.j2, if_true, true_and]
      by_cases h0 : x = 0
      · subst h0; rfl
      · rw [beq_eq_false_iff_ne.mpr (by omega), if_neg (by decide), if_neg h0]
        by_cases h : x > 536870911
        · rw [if_pos h, if_pos (by omega)]
        · rw [if_neg h, if_neg (by omega), wrap_in (by omega) (by omega)]
  | succ d ih =>
    intro i k f h hk hf hpos
    obtain ⟨k, rfl⟩ : ∃ m, k = m + 1 := ⟨k - 1, by omega⟩
    have hi : i < s.data.toList.length := by omega
    have hb := isD_range (List.all_eq_true.mp hd _ (List.getElem_mem hi))
    have hdv : dv s.data.toList[i] = s.data.toList[i].toNat - 48 := rfl
    obtain ⟨hp1, hp2⟩ := pow_le5 (j := i) (by omega)
    simp only [format_ParseFixed.l0]
    rw [size_len, if_pos (by omega), if_pos (by omega), bt_nat s i hi, drop_at _ i hi, valF_cons]
    have e0 : (((s.data.toList[i]).toNat : Int) - 48) % 256 = (dv s.data.toList[i] : Int) := by omega
    rw [e0]
    generalize dv s.data.toList[i] = dd at *
    have hdd : dd ≤ 9 := by omega
    have := ih (i + 1) k (f * 10 + dd) (by omega) (by omega) (by rw [Nat.pow_succ]; omega) hpos
    rw [← this, Nat.pow_succ]
    rw [wrap_in (n := 10 * (f : Int)) (by omega) (by omega), wrap_in (n := 10 * (f : Int) + dd) (by omega) (by omega), wrap_in (n := 10 * ((10 ^ i : Nat) : Int)) (by omega) (by omega), wrap_in (n := (i : Int) + 1) (by omega) (by omega)]
    have e1 : 10 * (f : Int) + dd = ((f * 10 + dd : Nat) : Int) := by omega
    have e2 : 10 * ((10 ^ i : Nat) : Int) = ((10 ^ i * 10 : Nat) : Int) := by omega
    rw [e1, e2]
    rfl
theorem parseFixed_tells (s : ByteArray) (hs : s.data.toList.length ≤ 4000000000) (k : Nat) (hk : s.data.toList.length + 10 < k) : format_ParseFixed.f k s = some (pfixM s.data.toList) := by
  unfold format_ParseFixed.f
  have hr := rest_len s.data.toList
  refine bind_of (cutPrefix_tells s (by omega)) ?_
  unfold pfixM
  generalize hrr : rest s.data.toList = r at *
  have hc : strings_Cut.f (⟨r.toArray⟩ : ByteArray) (⟨#[46]⟩ : ByteArray) = some (if pos 46 r < r.length then (⟨(r.take (pos 46 r)).toArray⟩, ⟨(r.drop (pos 46 r + 1)).toArray⟩, true) else (⟨r.toArray⟩, ⟨#[]⟩, false)) := by
    unfold strings_Cut.f
    rw [mk_size, if_pos (by omega), data_mk, show (⟨#[46]⟩ : ByteArray).data.toList = [46] from rfl, cut_pos]
    split <;> rfl
  refine bind_of hc ?_
  obtain ⟨k, rfl⟩ : ∃ m, k = m + 1 := ⟨k - 1, by omega⟩
  have ht : ∀ a b c, format_ParseFixed.j0 (k + 1) a b c true = some (0, 3) := by intro a b c; simp only [format_ParseFixed.j0, if_true]
  by_cases hp : pos 46 r < r.length
  · rw [if_pos hp]
    simp only [if_true]
    have hlen : (r.drop (pos 46 r + 1)).length = r.length - (pos 46 r + 1) := List.length_drop
    have hlen2 : (r.take (pos 46 r)).length ≤ r.length := by rw [List.length_take]; omega
    generalize hpart : r.drop (pos 46 r + 1) = part at *
    generalize hwhole : r.take (pos 46 r) = whole at *
    refine bind_of (digits_tells _ (by rw [data_mk]; omega) (k + 1) (by rw [data_mk]; omega)) ?_
    rw [data_mk, bne_nil, mk_size]
    by_cases hd : part.all isD = true
    · by_cases h0 : 0 < part.length
      · rw [hd, decide_eq_true h0]
        simp only [Bool.and_self, if_true]
        by_cases h5 : part.length ≤ 5
        · rw [decide_eq_false (by omega)]
          simp only [format_ParseFixed.j0, Bool.false_eq_true, if_false]
          refine bind_of (natural_tells _ (by rw [data_mk]; omega) 8191 (by omega) (by omega) k (by rw [data_mk]; omega)) ?_
          rw [data_mk]
          unfold natM
          by_cases hn : natOk whole = true
          · have hcond : pos 46 r < r.length ∧ True ∧ 0 < part.length ∧ part.length ≤ 5 ∧ natOk whole = true := ⟨hp, trivial, h0, h5, hn⟩
            rw [if_pos hn, if_pos hcond]
            by_cases hv : valF 0 whole > 8191
            · rw [if_pos hv, if_pos hv]; rfl
            · rw [if_neg hv, if_neg hv, if_pos rfl]
              have := parseFixed_loop (⟨part.toArray⟩ : ByteArray) (by rw [data_mk]; exact hd) (by rw [data_mk]; exact h5) (neg s.data.toList) (valF 0 whole) (by omega) part.length 0 k 0 (by rw [data_mk]; omega) (by omega) (by decide) (by rw [data_mk]; exact h0)
              rw [data_mk, List.drop_zero] at this
              exact this
          · rw [if_neg hn, if_neg (show ¬ (pos 46 r < r.length ∧ True ∧ 0 < part.length ∧ part.length ≤ 5 ∧ natOk whole = true) from fun h => hn h.2.2.2.2), if_neg (by decide)]
        · rw [decide_eq_true (by omega), ht, if_neg (by omega)]
      · rw [decide_eq_false h0, Bool.and_false, if_neg (by decide), ht, if_neg (by omega)]
    · rw [Bool.eq_false_iff.mpr hd, Bool.false_and, if_neg (by decide), ht, if_neg (fun h => by simp at h)]
  · rw [if_neg hp]
    simp only [Bool.false_eq_true, if_false]
    rw [ht, if_neg (fun h => hp h.1)]
/-! The reference's reading of a fixed number. -/
def pfixR (ng : Bool) (r : List UInt8) : Int × Int :=
  if pos 46 r < r.length ∧ (r.drop (pos 46 r + 1)).all isD = true ∧ 0 < (r.drop (pos 46 r + 1)).length ∧ (r.drop (pos 46 r + 1)).length ≤ 5 ∧ natOk (r.take (pos 46 r)) = true then
    (if valF 0 (r.take (pos 46 r)) > 8191 then (0, 6) else if ng = true ∧ fixOf (valF 0 (r.take (pos 46 r))) (r.drop (pos 46 r + 1)) = 0 then (0, 3) else if fixOf (valF 0 (r.take (pos 46 r))) (r.drop (pos 46 r + 1)) > 536870911 then (0, 6) else if ng = true then (-(fixOf (valF 0 (r.take (pos 46 r))) (r.drop (pos 46 r + 1)) : Int), 0) else ((fixOf (valF 0 (r.take (pos 46 r))) (r.drop (pos 46 r + 1)) : Int), 0))
  else (0, 3)
theorem pfixM_eq (l : List UInt8) : pfixM l = pfixR (neg l) (rest l) := rfl
theorem natOk_all {l : List UInt8} (hn : natOk l = true) : l.all isD = true := by
  unfold natOk at hn; rw [Bool.and_eq_true, Bool.and_eq_true] at hn; exact hn.1.1
theorem bt45 (s : ByteArray) (h : 0 < s.data.toList.length) : (bt s 0 == 45) = neg s.data.toList := by
  have hh : s.data.toList.head? = some s.data.toList[0] := by rw [List.head?_eq_getElem?, List.getElem?_eq_getElem (by omega)]
  have hb := bt_nat s 0 h
  unfold neg; rw [hh]
  by_cases e : s.data.toList[0] = 45
  · rw [show bt s 0 = 45 by rw [show (0 : Int) = ((0 : Nat) : Int) from rfl, hb, e]; rfl, e]; rfl
  · rw [beq_eq_false_iff_ne.mpr (fun q => e (Option.some.inj q))]
    refine beq_eq_false_iff_ne.mpr (fun q => e (byte_eq ?_))
    rw [show (0 : Int) = ((0 : Nat) : Int) from rfl, hb] at q
    show _ = 45
    omega
def padD : Nat → Nat → List UInt8
  | 0, _ => []
  | j + 1, f => padD j (f / 10) ++ [UInt8.ofNat (48 + f % 10)]
theorem padD_len (j : Nat) : ∀ f, (padD j f).length = j := by
  induction j with
  | zero => intro f; rfl
  | succ j ih => intro f; simp only [padD, List.length_append, ih, List.length_singleton]
theorem isD_ofNat {d : Nat} (h : d < 10) : isD (UInt8.ofNat (48 + d)) = true ∧ dv (UInt8.ofNat (48 + d)) = d := by
  have e : (UInt8.ofNat (48 + d)).toNat = 48 + d := by rw [UInt8.toNat_ofNat']; omega
  unfold isD dv
  rw [e]
  refine ⟨?_, by omega⟩
  rw [decide_eq_true (by omega), decide_eq_true (by omega)]; rfl
theorem padD_all (j : Nat) : ∀ f, (padD j f).all isD = true := by
  induction j with
  | zero => intro f; rfl
  | succ j ih =>
    intro f
    simp only [padD, List.all_append, ih, Bool.true_and, List.all_cons, List.all_nil, Bool.and_true]
    exact (isD_ofNat (Nat.mod_lt _ (by decide))).1
theorem padD_val (j : Nat) : ∀ f, f < 10 ^ j → valF 0 (padD j f) = f := by
  induction j with
  | zero => intro f h; have : f = 0 := by simpa using h
            subst this; rfl
  | succ j ih =>
    intro f h
    simp only [padD]
    rw [valF_append, ih (f / 10) (by rw [Nat.pow_succ] at h; omega), valF_cons, (isD_ofNat (Nat.mod_lt f (by decide))).2]
    show f / 10 * 10 + f % 10 = f
    omega
theorem dec_pad (j : Nat) : ∀ c f, 1 ≤ c → c < 10 → f < 10 ^ j → Lib.decDigits (10 ^ j * c + f) = UInt8.ofNat (48 + c) :: padD j f := by
  induction j with
  | zero =>
    intro c f h1 h2 h3
    have : f = 0 := by simpa using h3
    subst this
    rw [Nat.pow_zero, Nat.one_mul, Nat.add_zero, dec_small h2]; rfl
  | succ j ih =>
    intro c f h1 h2 h3
    have hp : 1 ≤ 10 ^ j := Nat.one_le_pow _ _ (by decide)
    have hc : 10 ^ j ≤ 10 ^ j * c := Nat.le_mul_of_pos_right _ h1
    have e : 10 ^ (j + 1) * c = 10 * (10 ^ j * c) := by rw [Nat.pow_succ, Nat.mul_comm (10 ^ j) 10, Nat.mul_assoc]
    rw [Nat.pow_succ] at h3
    rw [e]
    have := ih c (f / 10) h1 h2 (by omega)
    generalize 10 ^ j * c = P at *
    rw [dec_big (by omega), show (10 * P + f) / 10 = P + f / 10 by omega, show (10 * P + f) % 10 = f % 10 by omega, this]
    rfl
theorem pad_rep (j : Nat) : ∀ f, f < 10 ^ j → 1 ≤ j → (Lib.decDigits f).length ≤ j ∧ List.replicate (j - (Lib.decDigits f).length) 48 ++ Lib.decDigits f = padD j f := by
  induction j with
  | zero => intro f _ h; omega
  | succ j ih =>
    intro f h _
    rw [Nat.pow_succ] at h
    by_cases hf : f < 10
    · rw [dec_small hf]
      refine ⟨by simp, ?_⟩
      have hz : ∀ j, padD j 0 = List.replicate j 48 := by
        intro j
        induction j with
        | zero => rfl
        | succ j ih => simp only [padD]; rw [show (0 : Nat) / 10 = 0 from rfl, ih, show UInt8.ofNat (48 + 0 % 10) = 48 from rfl, List.replicate_succ']
      simp only [padD, List.length_singleton]
      rw [show f / 10 = 0 by omega, hz, show f % 10 = f by omega, Nat.add_sub_cancel]
    · have hj : 1 ≤ j := by
        cases j with
        | zero => simp at h; omega
        | succ j => omega
      obtain ⟨h1, h2⟩ := ih (f / 10) (by omega) hj
      rw [dec_big hf]
      simp only [padD]
      rw [← h2, List.length_append, List.length_singleton]
      refine ⟨by omega, ?_⟩
      rw [List.append_assoc, show j + 1 - ((Lib.decDigits (f / 10)).length + 1) = j - (Lib.decDigits (f / 10)).length by omega]
def fof (r j : Nat) : Nat := (r * 10 ^ j + 32768) / 65536
def gd (r j : Nat) : Bool := decide (fof r j < 10 ^ j) && decide ((fof r j * 65536 + 10 ^ j / 2) / 10 ^ j = r)
def sel (r : Nat) : Nat → Nat → Nat
  | 0, j => j
  | d + 1, j => if gd r j = true then j else sel r d (j + 1)
def jof (r : Nat) : Nat := sel r 4 1
theorem gd5 (r : Nat) (h : r < 65536) : gd r 5 = true := by
  unfold gd fof
  rw [show (10 : Nat) ^ 5 = 100000 from rfl]
  have h1 : (r * 100000 + 32768) / 65536 < 100000 := by omega
  have h2 : ((r * 100000 + 32768) / 65536 * 65536 + 100000 / 2) / 100000 = r := by omega
  rw [decide_eq_true h1, decide_eq_true h2]; rfl
theorem sel_range (r d : Nat) : ∀ j, j ≤ sel r d j ∧ sel r d j ≤ j + d := by
  induction d with
  | zero => intro j; exact ⟨Nat.le_refl _, Nat.le_refl _⟩
  | succ d ih =>
    intro j
    simp only [sel]
    split
    · exact ⟨Nat.le_refl _, by omega⟩
    · have := ih (j + 1); omega
theorem jof_range (r : Nat) : 1 ≤ jof r ∧ jof r ≤ 5 := sel_range r 4 1
theorem sel_good (r d : Nat) : ∀ j, gd r (j + d) = true → gd r (sel r d j) = true := by
  induction d with
  | zero => intro j h; exact h
  | succ d ih =>
    intro j h
    simp only [sel]
    split
    · assumption
    · exact ih (j + 1) (by rw [show j + 1 + d = j + (d + 1) by omega]; exact h)
theorem jof_good (r : Nat) (h : r < 65536) : gd r (jof r) = true := sel_good r 4 1 (gd5 r h)
theorem sel_least (r d : Nat) : ∀ j i, j ≤ i → i < sel r d j → gd r i = false := by
  induction d with
  | zero => intro j i h h2; simp only [sel] at h2; omega
  | succ d ih =>
    intro j i h h2
    simp only [sel] at h2
    split at h2
    · omega
    · rename_i hg
      by_cases e : i = j
      · subst e; exact Bool.eq_false_iff.mpr hg
      · exact ih (j + 1) i (by omega) h2
theorem jof_least (r i : Nat) (h1 : 1 ≤ i) (h : i < jof r) : gd r i = false := sel_least r 4 1 i h1 h
def fbody (u : Nat) : List UInt8 := Lib.decDigits (u / 65536) ++ 46 :: padD (jof (u % 65536)) (fof (u % 65536) (jof (u % 65536)))
def fmtM (v : Int) : List UInt8 := if v < -536870911 ∨ v > 536870911 then [] else if v < 0 then 45 :: fbody v.natAbs else fbody v.natAbs
theorem fof_le (r j : Nat) (h : r < 65536) (hj : j ≤ 5) : fof r j ≤ 100000 := by
  have := pow_le5 hj
  unfold fof
  generalize 10 ^ j = P at *
  have : r * P ≤ 65535 * P := Nat.mul_le_mul_right _ (by omega)
  omega
theorem dec_lt (u : Nat) (h : u ≤ 536870911) : (Lib.decDigits u).length ≤ 20 := by
  by_cases h10 : u < 10
  · rw [dec_small h10]; exact (by decide : 1 ≤ 20)
  have hl := Lib.decDigits_length u
  have hn : Lib.nDigits u ≤ 20 := by
    have := Lib.numDigits_eq u (by omega) (by omega)
    have h3 := this.1; have h4 := this.2
    split at h3 <;> omega
  omega
theorem itoa_nat (u : Nat) : Lib.itoa (u : Int) = Lib.decDigits u := by
  unfold Lib.itoa
  rw [if_neg (by omega)]; rfl
theorem fmt_j3 (k u j : Nat) (sg : List UInt8) (hs : sg.length ≤ 1) (hu : u ≤ 536870911) (h1 : 1 ≤ j) (h5 : j ≤ 5) (f : Nat) (hf : f < 10 ^ j) (a b : Int) :
    format_FormatFixed.j3 (k + 1) u ⟨sg.toArray⟩ a b j f true = some ⟨(sg ++ (Lib.decDigits (u / 65536) ++ 46 :: padD j f)).toArray⟩ := by
  have hp := pow_le5 h5
  simp only [format_FormatFixed.j3, if_true]
  obtain ⟨hl, hrep⟩ := pad_rep j f hf h1
  have hI : ∀ n : Nat, n ≤ 1000000000 → strconv_Itoa.f (n : Int) = some ⟨(Lib.decDigits n).toArray⟩ := by
    intro n hn
    unfold strconv_Itoa.f
    rw [if_pos (by omega), itoa_nat]
  refine bind_of (hI f (by omega)) ?_
  have e1 : wrap64 (Int.tdiv (u : Int) 65536) = ((u / 65536 : Nat) : Int) := by rw [Int.tdiv_eq_ediv_of_nonneg (by omega), wrap_in (by omega) (by omega)]; omega
  rw [e1]
  refine bind_of (hI (u / 65536) (by omega)) ?_
  have hd := dec_lt (u / 65536) (by omega)
  rw [mk_append, show (⟨#[46]⟩ : ByteArray) = ⟨[46].toArray⟩ from rfl, mk_append, mk_size, mk_size, mk_size, mk_size, mk_size]
  rw [if_pos (by omega), if_pos (by simp only [List.length_append]; omega)]
  rw [wrap_in (n := (j : Int) - ((Lib.decDigits f).length : Int)) (by omega) (by omega)]
  have hr : strings_Repeat.f (⟨#[48]⟩ : ByteArray) ((j : Int) - ((Lib.decDigits f).length : Int)) = some ⟨(List.replicate (j - (Lib.decDigits f).length) 48).toArray⟩ := by
    unfold strings_Repeat.f
    have ht : ((j : Int) - ((Lib.decDigits f).length : Int)).toNat = j - (Lib.decDigits f).length := by omega
    rw [ht, show (⟨#[48]⟩ : ByteArray).size = 1 from rfl, if_pos (by omega)]
    congr 3
    rw [show (⟨#[48]⟩ : ByteArray).data.toList = [48] from rfl]
    generalize j - (Lib.decDigits f).length = m
    induction m with
    | zero => rfl
    | succ m ih => rw [List.replicate_succ, ← ih]; rfl
  refine bind_of hr ?_
  rw [mk_size, mk_append, mk_size, mk_append]
  rw [if_pos (by simp only [List.length_append, List.length_singleton, List.length_replicate]; omega), if_pos (by simp only [List.length_append, List.length_singleton, List.length_replicate]; omega)]
  congr 3
  rw [List.append_assoc, List.append_assoc, List.append_assoc, hrep]
  rfl
theorem fmt_loop (u : Nat) (hu : u ≤ 536870911) (sg : List UInt8) (hs : sg.length ≤ 1) (d : Nat) : ∀ (j k : Nat), 1 ≤ j → j + d = 5 → 2 * d + 1 < k →
    format_FormatFixed.l0 k u ⟨sg.toArray⟩ ((u % 65536 : Nat) : Int) ((10 ^ (j - 1) : Nat) : Int) j = some ⟨(sg ++ (Lib.decDigits (u / 65536) ++ 46 :: padD (sel (u % 65536) d j) (fof (u % 65536) (sel (u % 65536) d j)))).toArray⟩ := by
  have hr : u % 65536 < 65536 := Nat.mod_lt _ (by decide)
  have step : ∀ (j k : Nat), 1 ≤ j → j ≤ 5 → format_FormatFixed.l0 (k + 2) u ⟨sg.toArray⟩ ((u % 65536 : Nat) : Int) ((10 ^ (j - 1) : Nat) : Int) j =
      if gd (u % 65536) j = true then some ⟨(sg ++ (Lib.decDigits (u / 65536) ++ 46 :: padD j (fof (u % 65536) j))).toArray⟩ else format_FormatFixed.l0 k u ⟨sg.toArray⟩ ((u % 65536 : Nat) : Int) ((10 ^ j : Nat) : Int) ((j + 1 : Nat) : Int) := by
    intro j k h1 h5
    have hp := pow_le5 h5
    have hpe : 10 ^ (j - 1) * 10 = 10 ^ j := by rw [← Nat.pow_succ, show (j - 1).succ = j by omega]
    have hpi : ((10 ^ (j - 1) : Nat) : Int) * 10 = ((10 ^ j : Nat) : Int) := by omega
    have hfo := fof_le (u % 65536) j hr h5
    have h3 := fmt_j3 k u j sg hs hu h1 h5 (fof (u % 65536) j)
    have hno : ∀ a b c, format_FormatFixed.j3 (k + 1) u ⟨sg.toArray⟩ a b j c false = format_FormatFixed.l0 k u ⟨sg.toArray⟩ a b ((j + 1 : Nat) : Int) := by
      intro a b c
      simp only [format_FormatFixed.j3, Bool.false_eq_true, if_false]
      rw [wrap_in (by omega) (by omega)]; rfl
    have hgd : gd (u % 65536) j = (decide (fof (u % 65536) j < 10 ^ j) && decide ((fof (u % 65536) j * 65536 + 10 ^ j / 2) / 10 ^ j = u % 65536)) := rfl
    rw [show format_FormatFixed.l0 (k + 2) u ⟨sg.toArray⟩ ((u % 65536 : Nat) : Int) ((10 ^ (j - 1) : Nat) : Int) j = format_FormatFixed.l0 (k + 1 + 1) u ⟨sg.toArray⟩ ((u % 65536 : Nat) : Int) ((10 ^ (j - 1) : Nat) : Int) j from rfl]
    simp only [format_FormatFixed.l0]
    rw [if_pos (by omega), hpi, wrap_in (n := ((10 ^ j : Nat) : Int)) (by omega) (by omega)]
    have hrd : fof (u % 65536) j = ((u % 65536) * 10 ^ j + 65536 / 2) / 65536 := rfl
    generalize u % 65536 = r at *
    have hrp : r * 10 ^ j ≤ 65536 * 100000 := Nat.mul_le_mul (by omega) hp.1
    have e1 : (r : Int) * ((10 ^ j : Nat) : Int) = ((r * 10 ^ j : Nat) : Int) := by rw [Int.natCast_mul]
    rw [e1, wrap_in (by omega) (by omega)]
    refine bind_of ((roundDiv_tells (r * 10 ^ j) 65536 (by omega) (by omega) (by omega)).trans (by rw [← hrd])) ?_
    generalize fof r j = f at *
    by_cases hf : f < 10 ^ j
    · rw [if_pos (by omega), wrap_in (n := (f : Int) * 65536) (by omega) (by omega), show (f : Int) * 65536 = ((f * 65536 : Nat) : Int) by omega]
      refine bind_of (roundDiv_tells (f * 65536) (10 ^ j) (by omega) (by omega) (by omega)) ?_
      rw [decide_eq_true hf, Bool.true_and] at hgd
      generalize (f * 65536 + 10 ^ j / 2) / 10 ^ j = g at *
      by_cases hg : g = r
      · rw [hgd, decide_eq_true hg, if_pos rfl, ← h3 hf r ((10 ^ j : Nat) : Int), beq_iff_eq.mpr (by omega)]
      · rw [hgd, decide_eq_false hg, if_neg (by decide), beq_eq_false_iff_ne.mpr (by omega), hno]
    · rw [decide_eq_false hf, Bool.false_and] at hgd
      rw [if_neg (by omega), hno, hgd, if_neg (by decide)]
  induction d with
  | zero =>
    intro j k h1 h5 hk
    obtain ⟨k, rfl⟩ : ∃ m, k = m + 2 := ⟨k - 2, by omega⟩
    obtain rfl : j = 5 := by omega
    rw [step 5 k (by decide) (by decide), if_pos (gd5 _ hr)]
    rfl
  | succ d ih =>
    intro j k h1 h5 hk
    obtain ⟨k, rfl⟩ : ∃ m, k = m + 2 := ⟨k - 2, by omega⟩
    rw [step j k h1 (by omega)]
    simp only [sel]
    by_cases hg : gd (u % 65536) j = true
    · rw [if_pos hg, if_pos hg]
    · rw [if_neg hg, if_neg hg]
      exact ih (j + 1) k (by omega) (by omega) (by omega)
theorem formatFixed_tells (v : Int) (k : Nat) (hk : 20 < k) : format_FormatFixed.f k v = some ⟨(fmtM v).toArray⟩ := by
  unfold format_FormatFixed.f fmtM
  obtain ⟨k, rfl⟩ : ∃ m, k = m + 2 := ⟨k - 2, by omega⟩
  by_cases h1 : v < -536870911
  · rw [if_pos h1, if_pos (Or.inl h1)]
    simp only [format_FormatFixed.j0, if_true]
  · rw [if_neg h1]
    by_cases h2 : v > 536870911
    · rw [decide_eq_true h2, if_pos (Or.inr h2)]
      simp only [format_FormatFixed.j0, if_true]
    · rw [decide_eq_false h2, if_neg (by omega)]
      simp only [format_FormatFixed.j0, format_FormatFixed.j1, Bool.false_eq_true, if_false]
      have hm : ∀ u : Nat, Int.tmod (u : Int) 65536 = ((u % 65536 : Nat) : Int) := by intro u; rw [Int.tmod_eq_emod_of_nonneg (by omega)]; omega
      by_cases h0 : v < 0
      · rw [if_pos h0, if_pos h0, wrap_in (by omega) (by omega), show -v = ((v.natAbs : Nat) : Int) by omega, hm]
        exact fmt_loop v.natAbs (by omega) [45] (by simp) 4 1 k (by decide) (by decide) (by omega)
      · rw [if_neg h0, if_neg h0, show v = ((v.natAbs : Nat) : Int) by omega, hm]
        exact fmt_loop v.natAbs (by omega) [] (by simp) 4 1 k (by decide) (by decide) (by omega)
/-! The reference's form, and the way back. -/
theorem dec_facts (n : Nat) : ∀ u, u < n → (Lib.decDigits u).all isD = true ∧ valF 0 (Lib.decDigits u) = u ∧ (0 < u → (Lib.decDigits u).head? ≠ some 48) ∧ (Lib.decDigits u) ≠ [] := by
  induction n with
  | zero => intro u h; omega
  | succ n ih =>
    intro u hu
    by_cases h : u < 10
    · rw [dec_small h]
      obtain ⟨h1, h2⟩ := isD_ofNat h
      refine ⟨by rw [List.all_cons, h1]; rfl, ?_, ?_, by simp⟩
      · rw [valF_cons, h2, Nat.zero_mul, Nat.zero_add]; rfl
      · intro h0 e
        have e := Option.some.inj e
        have : dv (UInt8.ofNat (48 + u)) = dv 48 := by rw [e]
        rw [h2] at this
        have : u = 0 := this
        omega
    · rw [dec_big h]
      obtain ⟨h1, h2⟩ := isD_ofNat (Nat.mod_lt u (show 10 > 0 by decide))
      obtain ⟨i1, i2, i3, i4⟩ := ih (u / 10) (by omega)
      refine ⟨by rw [List.all_append, i1, List.all_cons, h1]; rfl, ?_, ?_, by simp⟩
      · rw [valF_append, i2, valF_cons, h2]
        show u / 10 * 10 + u % 10 = u
        omega
      · intro _ e
        cases hd : Lib.decDigits (u / 10) with
        | nil => exact i4 hd
        | cons a l =>
          rw [hd] at e i3
          exact i3 (by omega) e
theorem dec_ok (u : Nat) : natOk (Lib.decDigits u) = true ∧ valF 0 (Lib.decDigits u) = u := by
  obtain ⟨h1, h2, h3, h4⟩ := dec_facts (u + 1) u (Nat.lt_succ_self u)
  refine ⟨?_, h2⟩
  unfold natOk
  rw [h1, bne_iff_ne.mpr h4, Bool.true_and, Bool.true_and]
  by_cases h0 : 0 < u
  · rw [beq_eq_false_iff_ne.mpr (h3 h0), Bool.and_false]; rfl
  · rw [show u = 0 by omega, dec_small (by decide)]; rfl
theorem pos_mid (l r : List UInt8) (h : l.all isD = true) : pos 46 (l ++ 46 :: r) = l.length := by
  induction l with
  | nil => simp [pos]
  | cons c l ih =>
    rw [List.all_cons, Bool.and_eq_true] at h
    have hc := isD_range h.1
    rw [List.cons_append, pos, if_neg, ih h.2, List.length_cons]
    · intro e
      have : c = 46 := by simpa using e
      rw [this] at hc
      exact absurd hc.1 (by decide)
theorem pfixR_body (ng : Bool) (whole part : List UInt8) (hw : natOk whole = true) (hd : part.all isD = true) (h0 : 0 < part.length) (h5 : part.length ≤ 5) :
    pfixR ng (whole ++ 46 :: part) = if valF 0 whole > 8191 then (0, 6) else if ng = true ∧ fixOf (valF 0 whole) part = 0 then (0, 3) else if fixOf (valF 0 whole) part > 536870911 then (0, 6) else if ng = true then (-(fixOf (valF 0 whole) part : Int), 0) else ((fixOf (valF 0 whole) part : Int), 0) := by
  unfold pfixR
  rw [pos_mid whole part (natOk_all hw)]
  have e1 : (whole ++ 46 :: part).take whole.length = whole := List.take_left
  have e2 : (whole ++ 46 :: part).drop (whole.length + 1) = part := by
    rw [List.drop_append]; simp
  rw [e1, e2, if_pos ⟨by simp, hd, h0, h5, hw⟩]
theorem neg_digit (l r : List UInt8) (h : natOk l = true) : neg (l ++ r) = false ∧ rest (l ++ r) = l ++ r := by
  have : neg (l ++ r) = false := by
    cases l with
    | nil => unfold natOk at h; simp at h
    | cons c l =>
      have hc := isD_range ((Bool.and_eq_true _ _).mp (natOk_all h)).1
      unfold neg
      rw [List.cons_append, List.head?_cons]
      refine beq_eq_false_iff_ne.mpr (fun e => ?_)
      rw [Option.some.inj e] at hc
      exact absurd hc.1 (by decide)
  refine ⟨this, ?_⟩
  unfold rest
  rw [this, if_neg (by decide)]
theorem neg_minus (l : List UInt8) : neg (45 :: l) = true ∧ rest (45 :: l) = l := ⟨rfl, rfl⟩
theorem fix_body (u j : Nat) (hg : gd (u % 65536) j = true) : fixOf (valF 0 (Lib.decDigits (u / 65536))) (padD j (fof (u % 65536) j)) = u := by
  unfold gd at hg
  rw [Bool.and_eq_true, decide_eq_true_eq, decide_eq_true_eq] at hg
  unfold fixOf
  rw [(dec_ok _).2, padD_len, padD_val j _ hg.1, hg.2]
  omega
theorem back_fixed (v : Int) (h0 : -536870911 ≤ v) (h1 : v ≤ 536870911) : pfixM (fmtM v) = (v, 0) := by
  have hj := jof_range (v.natAbs % 65536)
  have hg := jof_good (v.natAbs % 65536) (Nat.mod_lt _ (by decide))
  have hb : ∀ ng, pfixR ng (fbody v.natAbs) = if v.natAbs / 65536 > 8191 then (0, 6) else if ng = true ∧ v.natAbs = 0 then (0, 3) else if v.natAbs > 536870911 then (0, 6) else if ng = true then (-(v.natAbs : Int), 0) else ((v.natAbs : Int), 0) := by
    intro ng
    unfold fbody
    rw [pfixR_body ng _ _ (dec_ok _).1 (padD_all _ _) (by rw [padD_len]; omega) (by rw [padD_len]; omega), fix_body v.natAbs _ hg, (dec_ok _).2]
  unfold fmtM
  rw [if_neg (by omega), pfixM_eq]
  by_cases hv : v < 0
  · rw [if_pos hv, (neg_minus _).1, (neg_minus _).2, hb, if_neg (by omega), if_neg (by omega), if_neg (by omega), if_pos rfl]
    congr 1; omega
  · have hn := neg_digit (Lib.decDigits (v.natAbs / 65536)) (46 :: padD (jof (v.natAbs % 65536)) (fof (v.natAbs % 65536) (jof (v.natAbs % 65536)))) (dec_ok _).1
    have hn1 : neg (fbody v.natAbs) = false := hn.1
    have hn2 : rest (fbody v.natAbs) = fbody v.natAbs := hn.2
    rw [if_neg hv, hn1, hn2, hb, if_neg (by omega), if_neg (by simp), if_neg (by omega), if_neg (by decide)]
    congr 1; omega
theorem example_tells (k : Nat) (hk : 60 < k) : frustumlaw06_example.f k = some true := by
  unfold frustumlaw06_example.f
  refine bind_of (parseFixed_tells (⟨#[49, 46, 53, 48]⟩ : ByteArray) (by decide) k (by show 4 + 10 < k; omega)) ?_
  have e1 : fmtM 98304 = [49, 46, 53] := by
    show Lib.decDigits 1 ++ 46 :: padD (jof 32768) (fof 32768 (jof 32768)) = _
    rw [dec_small (by decide), show padD (jof 32768) (fof 32768 (jof 32768)) = [53] by decide]; rfl
  have e2 : fmtM 1 = [48, 46, 48, 48, 48, 48, 50] := by
    show Lib.decDigits 0 ++ 46 :: padD (jof 1) (fof 1 (jof 1)) = _
    rw [dec_small (by decide), show padD (jof 1) (fof 1 (jof 1)) = [48, 48, 48, 48, 50] by decide]; rfl
  have e3 : fmtM (-65536) = [45, 49, 46, 48] := by
    show 45 :: (Lib.decDigits 1 ++ 46 :: padD (jof 0) (fof 0 (jof 0))) = _
    rw [dec_small (by decide), show padD (jof 0) (fof 0 (jof 0)) = [48] by decide]; rfl
  refine bind_of (formatFixed_tells 98304 k (by omega)) ?_
  rw [e1, list_of, data_mk, if_pos rfl]
  refine bind_of (formatFixed_tells 1 k (by omega)) ?_
  rw [e2, list_of, data_mk, if_pos rfl]
  refine bind_of (formatFixed_tells (-65536) k (by omega)) ?_
  rw [e3, list_of, data_mk, if_pos rfl]
  have e4 : pfixM [49, 46, 53, 48] = (98304, 0) := by decide
  rw [show (⟨#[49, 46, 53, 48]⟩ : ByteArray).data.toList = [49, 46, 53, 48] from rfl, e4]
  rfl
end Go.Proofs.YtkmnkikcbmfecaaDoor.PureN
