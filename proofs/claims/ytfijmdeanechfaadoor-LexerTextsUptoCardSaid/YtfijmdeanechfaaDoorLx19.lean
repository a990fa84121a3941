/- The plain law of Lex: what the package and the reference come to, and that it is the same. -/
import Derived.Test.YtfijmdeanechfaaDoorLx18
namespace Go.Proofs.YtfijmdeanechfaaDoor.Lx
open Go Go.RowKit Go.Proofs.YtfijmdeanechfaaDoor.Eng
set_option linter.unusedVariables false
set_option linter.unusedSimpArgs false
structure LexR where
  toks : List Tok
  line : Int
  err : Int
def z4 : Tok := ⟨0, ⟨#[]⟩, 0, 0⟩
def endT (l : Int) : Tok := ⟨5, ⟨#[]⟩, 0, l⟩
def kTokL (s : ByteArray) (a : Nat) (l : Int) : Tok := ⟨(kTok s a).kind, (kTok s a).text, (kTok s a).value, l⟩
def isCm (s : ByteArray) (a : Nat) : Bool := hasP (s.extract a s.size) ⟨#[47, 47]⟩
def lexP (s : ByteArray) : Nat → Nat → Int → List Tok → LexR
  | 0, _, _, _ => ⟨[], 0, 0⟩
  | n + 1, a, l, ts =>
    bif decide (s.size ≤ a) then ⟨ts ++ [endT l], 0, 0⟩ else
    bif bAt s a == 10 then lexP s n (a + 1) (l + 1) ts else
    bif bAt s a == 32 then lexP s n (a + 1) l ts else
    bif bAt s a == 9 then lexP s n (a + 1) l ts else
    bif isCm s a then lexP s n (runE noNl s a) l ts else
    bif Nat.beq ts.length 4000 && kSt s a then ⟨[], l, 9⟩ else
    bif kErr s a == 0 then lexP s n (kEnd s a) l (ts ++ [kTokL s a l]) else ⟨[], l, kErr s a⟩
def lexT (s : ByteArray) : LexR := bif decide (16384 < s.size) then ⟨[], 0, 5⟩ else lexP s (s.size + 1) 0 1 []
def lexQ (s : ByteArray) : Nat → Nat → List Tok → LexR
  | 0, _, _ => ⟨[], 0, 0⟩
  | n + 1, a, ts =>
    bif decide (a < s.size) then
      (bif kSt s a then
        (bif Nat.beq ts.length 4000 then ⟨[], 1 + cnt s a, 9⟩ else
        bif kErr s a == 0 then lexQ s n (skipE s (kEnd s a)) (ts ++ [kTokL s a (1 + cnt s a)]) else ⟨[], 1 + cnt s a, kErr s a⟩)
      else ⟨[], 1 + cnt s a, 3⟩)
    else ⟨ts ++ [endT (1 + cnt s s.size)], 0, 0⟩
theorem lexP_step (s : ByteArray) (n a : Nat) (l : Int) (ts : List Tok) : lexP s (n + 1) a l ts =
    bif decide (s.size ≤ a) then ⟨ts ++ [endT l], 0, 0⟩ else
    bif bAt s a == 10 then lexP s n (a + 1) (l + 1) ts else
    bif bAt s a == 32 then lexP s n (a + 1) l ts else
    bif bAt s a == 9 then lexP s n (a + 1) l ts else
    bif isCm s a then lexP s n (runE noNl s a) l ts else
    bif Nat.beq ts.length 4000 && kSt s a then ⟨[], l, 9⟩ else
    bif kErr s a == 0 then lexP s n (kEnd s a) l (ts ++ [kTokL s a l]) else ⟨[], l, kErr s a⟩ := rfl
/-! ### what a run is -/
theorem run_is {p : Int → Bool} {s : ByteArray} {a e : Nat} (h : a ≤ e) (hin : ∀ j, a ≤ j → j < e → j < s.size ∧ p (bAt s (j : Int)) = true) (hout : ¬ (e < s.size ∧ p (bAt s (e : Int)) = true)) : runE p s a = e := by
  obtain ⟨d, rfl⟩ : ∃ d, e = a + d := ⟨e - a, by omega⟩
  clear h
  induction d generalizing a with
  | zero => exact runE_stop hout
  | succ d ih =>
    obtain ⟨h1, h2⟩ := hin a (Nat.le_refl _) (by omega)
    rw [runE_step h1 h2, ih (a := a + 1) (fun j h3 h4 => hin j (by omega) (by omega)) (by rw [show a + 1 + d = a + (d + 1) by omega]; exact hout)]
    omega
theorem run_out {p : Int → Bool} {s : ByteArray} (a : Nat) : ¬ (runE p s a < s.size ∧ p (bAt s (runE p s a : Nat)) = true) := by
  unfold runE
  have h : ∀ n i, s.size - i ≤ n → ¬ (runP p s n i < s.size ∧ p (bAt s (runP p s n i : Nat)) = true) := by
    intro n
    induction n with
    | zero => intro i hi h; have : i < s.size := h.1; omega
    | succ n ih =>
      intro i hi
      rw [show runP p s (n + 1) i = if i < s.size ∧ p (bAt s i) = true then runP p s n (i + 1) else i from rfl]
      by_cases c : i < s.size ∧ p (bAt s i) = true
      · rw [if_pos c]; exact ih (i + 1) (by omega)
      · rw [if_neg c]; exact c
  exact h _ _ (Nat.le_refl _)
/-! ### line feeds -/
theorem cnt_same {s : ByteArray} {a e : Nat} (h : a ≤ e) (hn : ∀ j, a ≤ j → j < e → bAt s (j : Int) ≠ 10) : cnt s e = cnt s a := by
  obtain ⟨d, rfl⟩ : ∃ d, e = a + d := ⟨e - a, by omega⟩
  clear h
  induction d with
  | zero => rfl
  | succ d ih =>
    rw [show a + (d + 1) = (a + d) + 1 by omega]
    show cnt s (a + d) + (bif _ then _ else _) = _
    rw [ih (fun j h1 h2 => hn j h1 (by omega)), show (bAt s ((a + d : Nat) : Int) == 10) = false by simpa using hn (a + d) (by omega) (by omega)]
    exact Int.add_zero _
theorem cnt_ext (s : ByteArray) {a : Nat} (h : a ≤ s.size) : ∀ i, i ≤ a → cnt (s.extract 0 a) i = cnt s i
  | 0, _ => rfl
  | i + 1, hi => by
    have e := bAt_ext s (a := 0) (b := a) (i := i) (by omega)
    rw [Nat.zero_add] at e
    show cnt _ i + (bif _ then _ else _) = cnt _ i + (bif _ then _ else _)
    rw [cnt_ext s h i (by omega), e]
theorem cnt_pre (s : ByteArray) {a : Nat} (h : a ≤ s.size) : cnt (s.extract 0 a) (s.extract 0 a).size = cnt s a := by
  rw [ext_size s 0 a h, Nat.sub_zero]; exact cnt_ext s h a (Nat.le_refl _)
/-! ### signs -/
theorem hasW_mem {l : List ByteArray} {x : ByteArray} (h : hasW l x = true) : x ∈ l := by
  unfold hasW at h
  obtain ⟨y, hy, e⟩ := List.any_eq_true.1 h
  have e : y.toList = x.toList := by simpa using e
  rw [blist, blist] at e
  have : y = x := by
    cases y; cases x
    rename_i a b
    congr 1
    exact Array.toList_inj.1 e
  rwa [← this]
theorem sg_bytes : ∀ x ∈ sgWords, (1 ≤ x.size ∧ x.size ≤ 2) ∧ (∀ j, j < x.size → bAt x (j : Int) ≠ 10 ∧ bAt x (j : Int) ≠ 32 ∧ bAt x (j : Int) ≠ 9) ∧ hasW sgWords (x.extract 0 1) = true := by decide +kernel
theorem ext_ext (s : ByteArray) {a b c d : Nat} (h : a + d ≤ b) : (s.extract a b).extract c d = s.extract (a + c) (a + d) := by
  rw [ByteArray.extract_extract]
  congr 1
  omega
theorem tS2_S1 {s : ByteArray} {a : Nat} (h : tS2 s a = true) : tS1 s a = true := by
  unfold tS2 at h
  rw [Bool.and_eq_true] at h
  have := (sg_bytes _ (hasW_mem h.2)).2.2
  rw [ext_ext s (by omega), Nat.add_zero] at this
  exact this
end Go.Proofs.YtfijmdeanechfaaDoor.Lx
