/- The plain law of LexerComments. -/
import Derived.Test.YtfijmdeanechfaaDoorLx29
namespace Go.Proofs.YtfijmdeanechfaaDoor.Lx
open Go Go.RowKit Go.Proofs.YtfijmdeanechfaaDoor.Eng
set_option linter.unusedVariables false
set_option linter.unusedSimpArgs false
/-- The same but for the lines. -/
def noLn (t : Tok) : Tok := ⟨t.kind, t.text, t.value, 0⟩
structure SameR (r r' : LexR) : Prop where
  err : r.err = r'.err
  toks : r.toks.map noLn = r'.toks.map noLn
theorem map_len {ts ts' : List Tok} (h : ts.map noLn = ts'.map noLn) : ts.length = ts'.length := by
  have := congrArg List.length h
  simpa using this
theorem kTokL_same {s S : ByteArray} {a p n : Nat} (h : TokSame s a S p n) (l l' : Int) : noLn (kTokL s a l) = noLn (kTokL S p l') := by
  unfold noLn kTokL; rw [h.tok]
theorem cm_vw {s S : ByteArray} {a p n : Nat} (hv : Vw s a S p n) (h : 2 ≤ n) : isCm s a = isCm S p := by
  have q1 := hv.le; have q2 := hv.le'
  have e0 := hv.eq 0 (by omega)
  have e1 := hv.eq 1 (by omega)
  rw [Nat.add_zero, Nat.add_zero] at e0
  have : isCm s a = true ↔ isCm S p = true := by
    rw [isCm_iff (by omega), isCm_iff (by omega), e0, e1]
    exact ⟨fun h => ⟨by omega, h.2⟩, fun h => ⟨by omega, h.2⟩⟩
  cases c : isCm s a with
  | true => exact (this.1 c).symm
  | false =>
    cases c2 : isCm S p with
    | false => rfl
    | true => rw [this.2 c2] at c; cases c
/-- One step at places that look the same up to where both texts stop. -/
theorem lex_step {s S : ByteArray} (hle : s.size + 6 ≤ 9223372036854775807) {a p k n m : Nat} {l l' : Int} {ts ts' : List Tok} (hv : Vw s a S p k) (hk : 1 ≤ k) (hs : Stp s (a + k)) (hS : Stp S (p + k))
    (hs0 : ¬ (a + k < s.size ∧ noNl (bAt s ((a + k : Nat) : Int)) = true)) (hS0 : ¬ (p + k < S.size ∧ noNl (bAt S ((p + k : Nat) : Int)) = true)) (hc : isCm s a = isCm S p) (ht : ts.map noLn = ts'.map noLn)
    (ih : ∀ d, 1 ≤ d → d ≤ k → ∀ l l' us us', us.map noLn = us'.map noLn → SameR (lexP s n (a + d) l us) (lexP S m (p + d) l' us')) : SameR (lexP s (n + 1) a l ts) (lexP S (m + 1) p l' ts') := by
  have q1 := hv.le; have q2 := hv.le'
  have e0 : bAt s (a : Int) = bAt S (p : Int) := by have := hv.eq 0 (by omega); rwa [Nat.add_zero, Nat.add_zero] at this
  have hT := tok_both hv hk hs hS
  rw [lexP_step, lexP_step, decide_eq_false (show ¬ s.size ≤ a by omega), decide_eq_false (show ¬ S.size ≤ p by omega), cond_false, cond_false, ← e0, ← hc, ← hT.err, ← hT.st, ← map_len ht]
  cases c1 : bAt s (a : Int) == 10 with
  | true => exact ih 1 (Nat.le_refl _) hk _ _ _ _ ht
  | false =>
    rw [cond_false, cond_false]
    cases c2 : bAt s (a : Int) == 32 with
    | true => exact ih 1 (Nat.le_refl _) hk _ _ _ _ ht
    | false =>
      rw [cond_false, cond_false]
      cases c3 : bAt s (a : Int) == 9 with
      | true => exact ih 1 (Nat.le_refl _) hk _ _ _ _ ht
      | false =>
        rw [cond_false, cond_false]
        cases c4 : isCm s a with
        | true =>
          have g := run_com (by omega) ((isCm_iff (by omega)).1 c4).2.1
          obtain ⟨d, r1, r2, _⟩ := run_le (q := noNl) (i := 0) (Nat.zero_le k) hs0 q1
          have r3 := run_vw (i := 0) hv hS0 r1 r2
          rw [Nat.add_zero] at r1 r3
          rw [cond_true, cond_true, r1, r3]
          exact ih d (by omega) r2 _ _ _ _ ht
        | false =>
          rw [cond_false, cond_false]
          cases c5 : Nat.beq ts.length 4000 && kSt s a with
          | true => exact ⟨rfl, rfl⟩
          | false =>
            rw [cond_false, cond_false]
            cases c7 : kErr s a == 0 with
            | false => exact ⟨rfl, rfl⟩
            | true =>
              have c8 : kSt s a = true := by
                cases c : kSt s a with
                | true => rfl
                | false => rw [no_tok c] at c7; cases c7
              have hi := tok_in (by omega) hle c8
              have hg := hi.gt
              obtain ⟨d, r1, r2, r3⟩ := hT.kend
              rw [cond_true, cond_true, r1, r2]
              exact ih d (by omega) r3 _ _ _ _ (by rw [List.map_append, List.map_append, ht]; simp only [List.map_cons, List.map_nil, kTokL_same hT l l'])
/-- What is the same to the end has the same tokens. -/
theorem lex_shift {s S : ByteArray} (hle : s.size + 6 ≤ 9223372036854775807) : ∀ (n m a p k : Nat) (l l' : Int) (ts ts' : List Tok), Vw s a S p k → a + k = s.size → p + k = S.size → k + 1 ≤ n → k + 1 ≤ m → ts.map noLn = ts'.map noLn → SameR (lexP s n a l ts) (lexP S m p l' ts') := by
  intro n
  induction n with
  | zero => intro m a p k l l' ts ts' hv h1 h2 h3; omega
  | succ n ih =>
    intro m a p k l l' ts ts' hv h1 h2 h3 h4 ht
    obtain ⟨m, rfl⟩ : ∃ m', m = m' + 1 := ⟨m - 1, by omega⟩
    by_cases hk : 1 ≤ k
    · have hcm : isCm s a = isCm S p := by
        by_cases c : 2 ≤ k
        · exact cm_vw hv c
        · have z1 : isCm s a = false := by
            cases h : isCm s a with
            | false => rfl
            | true => have := ((isCm_iff (by omega)).1 h).1; omega
          have z2 : isCm S p = false := by
            cases h : isCm S p with
            | false => rfl
            | true => have := ((isCm_iff (by omega)).1 h).1; omega
          rw [z1, z2]
      exact lex_step hle hv hk (fun h => by omega) (fun h => by omega) (fun h => by omega) (fun h => by omega) hcm ht fun d d1 d2 l l' us us' hu =>
        ih m (a + d) (p + d) (k - d) l l' us us' (hv.sub (by omega)) (by omega) (by omega) (by omega) (by omega) hu
    · rw [lexP_step, lexP_step, decide_eq_true (show s.size ≤ a by omega), decide_eq_true (show S.size ≤ p by omega), cond_true, cond_true]
      exact ⟨rfl, by rw [List.map_append, List.map_append, ht]; rfl⟩
/-- What is the same up to a line feed. -/
theorem lex_upto {s S : ByteArray} (hle : s.size + 6 ≤ 9223372036854775807) {k : Nat} (hv : Vw s 0 S 0 (k + 1)) (h10 : bAt s (k : Int) = 10) (N : Nat)
    (hend : ∀ n m l l' ts ts', s.size ≤ n + k → S.size ≤ m + k → ts.map noLn = ts'.map noLn → SameR (lexP s (n + 1) k l ts) (lexP S (m + 1) k l' ts')) :
    ∀ (n m a : Nat) (l l' : Int) (ts ts' : List Tok), a ≤ k → s.size + 1 ≤ n + a → S.size + 1 ≤ m + a → ts.map noLn = ts'.map noLn → SameR (lexP s n a l ts) (lexP S m a l' ts') := by
  have q1 := hv.le; have q2 := hv.le'
  have h10' : bAt S (k : Int) = 10 := by
    have := hv.eq k (by omega)
    rw [Nat.zero_add, h10] at this
    exact this.symm
  intro n
  induction n with
  | zero => intro m a l l' ts ts' h1 h2; omega
  | succ n ih =>
    intro m a l l' ts ts' h1 h2 h3 ht
    obtain ⟨m, rfl⟩ : ∃ m', m = m' + 1 := ⟨m - 1, by omega⟩
    by_cases hk : a = k
    · subst hk
      exact hend n m l l' ts ts' (by omega) (by omega) ht
    · have hv' := hv.sub (i := a) (m := k - a) (by omega)
      have hv2 := hv.sub (i := a) (m := k - a + 1) (by omega)
      rw [Nat.zero_add] at hv' hv2
      have ek : a + (k - a) = k := by omega
      refine lex_step hle hv' (by omega) (fun _ => by rw [ek]; exact .inr h10) (fun _ => by rw [ek]; exact .inr h10') (fun h => by rw [ek, h10] at h; exact absurd h.2 (by decide)) (fun h => by rw [ek, h10'] at h; exact absurd h.2 (by decide)) (cm_vw hv2 (by omega)) ht fun d d1 d2 l l' us us' hu =>
        ih m (a + d) l l' us us' (by omega) (by omega) (by omega) hu
/-- The law: a comment in a line of its own. -/
theorem lex_comment {A B c : ByteArray} (hz : A.size + B.size + c.size ≤ 8000) (hc : ∀ j, j < c.size → bAt c (j : Int) ≠ 10) :
    SameR (lexT (A ++ (⟨#[10]⟩ ++ B))) (lexT (A ++ (⟨#[10, 47, 47]⟩ ++ (c ++ (⟨#[10]⟩ ++ B))))) := by
  obtain ⟨s, hs⟩ : ∃ s, s = A ++ (⟨#[10]⟩ ++ B) := ⟨_, rfl⟩
  obtain ⟨S, hS⟩ : ∃ S, S = A ++ (⟨#[10, 47, 47]⟩ ++ (c ++ (⟨#[10]⟩ ++ B))) := ⟨_, rfl⟩
  have z1 : (ByteArray.mk #[10]).size = 1 := rfl
  have z3 : (ByteArray.mk #[10, 47, 47]).size = 3 := rfl
  have es : s.size = A.size + (1 + B.size) := by rw [hs, app_size, app_size, z1]
  have eS : S.size = A.size + (3 + (c.size + (1 + B.size))) := by rw [hS, app_size, app_size, app_size, app_size, z1, z3]
  have F1 : From s 0 (A ++ (⟨#[10]⟩ ++ B)) := ⟨by rw [← hs]; omega, fun j hj => by rw [← hs, Nat.zero_add]⟩
  have F2 : From S 0 (A ++ (⟨#[10, 47, 47]⟩ ++ (c ++ (⟨#[10]⟩ ++ B)))) := ⟨by rw [← hS]; omega, fun j hj => by rw [← hS, Nat.zero_add]⟩
  have F3 := F1.right
  have F4 := F2.right
  have F5 := F4.right
  have F6 := F5.right
  have F7 := F6.right
  have F8 := F3.right
  rw [Nat.zero_add] at F3 F4 F5 F6 F7 F8
  rw [z1] at F7 F8
  rw [z3] at F5 F6 F7
  have b1 : bAt s (A.size : Int) = 10 := by have := F3.left (j := 0) (by decide); rwa [Nat.add_zero] at this
  have b2 : bAt S (A.size : Int) = 10 := by have := F4.left (j := 0) (by decide); rwa [Nat.add_zero] at this
  have b3 : bAt S ((A.size + 1 : Nat) : Int) = 47 := F4.left (j := 1) (by decide)
  have b4 : bAt S ((A.size + 2 : Nat) : Int) = 47 := F4.left (j := 2) (by decide)
  have b5 : bAt S ((A.size + 3 + c.size : Nat) : Int) = 10 := by have := F6.left (j := 0) (by decide); rwa [Nat.add_zero] at this
  have hv : Vw s 0 S 0 (A.size + 1) := ⟨by omega, by omega, fun j hj => by
    rw [Nat.zero_add]
    by_cases h : j < A.size
    · have h1 := F1.left h
      have h2 := F2.left h
      rw [Nat.zero_add] at h1 h2
      rw [h1, h2]
    · rw [show j = A.size by omega, b1, b2]⟩
  have hB : Vw s (A.size + 1) S (A.size + 3 + c.size + 1) B.size := ⟨by omega, by omega, fun j hj => by rw [F8.eq j hj, F7.eq j hj]⟩
  rw [← hs, ← hS]
  unfold lexT
  rw [decide_eq_false (show ¬ 16384 < s.size by omega), decide_eq_false (show ¬ 16384 < S.size by omega), cond_false, cond_false]
  refine lex_upto (by omega) hv b1 0 (fun n m l l' ts ts' h1 h2 ht => ?_) _ _ 0 1 1 [] [] (Nat.zero_le _) (by omega) (by omega) rfl
  rw [lexP_step, decide_eq_false (show ¬ s.size ≤ A.size by omega), cond_false, b1, show ((10 : Int) == 10) = true from rfl, cond_true]
  rw [lexP_step, decide_eq_false (show ¬ S.size ≤ A.size by omega), cond_false, b2, show ((10 : Int) == 10) = true from rfl, cond_true]
  obtain ⟨m, rfl⟩ : ∃ m', m = m' + 1 := ⟨m - 1, by omega⟩
  have hcm : isCm S (A.size + 1) = true := (isCm_iff (by omega)).2 ⟨by omega, b3, b4⟩
  have hrun : runE noNl S (A.size + 1) = A.size + 3 + c.size := run_is (by omega) (fun j j1 j2 => ⟨by omega, by
    by_cases c1 : j = A.size + 1
    · rw [c1, b3]; rfl
    · by_cases c2 : j = A.size + 2
      · rw [c2, b4]; rfl
      · have := F5.left (j := j - (A.size + 3)) (by omega)
        rw [show A.size + 3 + (j - (A.size + 3)) = j by omega] at this
        rw [this]
        have := hc (j - (A.size + 3)) (by omega)
        unfold noNl
        simpa using this⟩) (fun h => by rw [b5] at h; exact absurd h.2 (by decide))
  rw [lexP_step S m, decide_eq_false (show ¬ S.size ≤ A.size + 1 by omega), cond_false, b3, show ((47 : Int) == 10) = false from rfl, show ((47 : Int) == 32) = false from rfl, show ((47 : Int) == 9) = false from rfl, hcm, hrun]
  simp only [cond_false, cond_true]
  obtain ⟨m, rfl⟩ : ∃ m', m = m' + 1 := ⟨m - 1, by omega⟩
  rw [lexP_step S m, decide_eq_false (show ¬ S.size ≤ A.size + 3 + c.size by omega), cond_false, b5, show ((10 : Int) == 10) = true from rfl, cond_true]
  exact lex_shift (by omega) n m _ _ B.size _ _ ts ts' hB (by omega) (by omega) (by omega) (by omega) ht
end Go.Proofs.YtfijmdeanechfaaDoor.Lx
