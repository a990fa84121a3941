/- Tokens hang on their own bytes and on where they end. -/
import Derived.Test.YtfijmdeanechfaaDoorLx25
namespace Go.Proofs.YtfijmdeanechfaaDoor.Lx
open Go Go.RowKit Go.Proofs.YtfijmdeanechfaaDoor.Eng
set_option linter.unusedVariables false
set_option linter.unusedSimpArgs false
/-- The same bytes at two places. -/
structure Vw (s : ByteArray) (a : Nat) (S : ByteArray) (p n : Nat) : Prop where
  le : a + n ≤ s.size
  le' : p + n ≤ S.size
  eq : ∀ j, j < n → bAt s ((a + j : Nat) : Int) = bAt S ((p + j : Nat) : Int)
/-- The text's end, a space or a line feed. -/
def Stp (s : ByteArray) (q : Nat) : Prop := q < s.size → bAt s (q : Int) = 32 ∨ bAt s (q : Int) = 10
theorem Stp.no {s : ByteArray} {q : Nat} (h : Stp s q) {f : Int → Bool} (h1 : f 32 = false) (h2 : f 10 = false) : ¬ (q < s.size ∧ f (bAt s (q : Int)) = true) := fun ⟨h3, h4⟩ => by
  rcases h h3 with e | e
  · rw [e, h1] at h4; cases h4
  · rw [e, h2] at h4; cases h4
theorem Vw.sub {s S : ByteArray} {a p n : Nat} (h : Vw s a S p n) {i m : Nat} (hm : i + m ≤ n) : Vw s (a + i) S (p + i) m :=
  ⟨by have := h.le; omega, by have := h.le'; omega, fun j hj => by
    have := h.eq (i + j) (by omega)
    rw [← Nat.add_assoc, ← Nat.add_assoc] at this
    exact this⟩
theorem Vw.txt {s S : ByteArray} {a p n : Nat} (h : Vw s a S p n) {m : Nat} (hm : m ≤ n) : s.extract a (a + m) = S.extract p (p + m) := by
  have h1 := h.le; have h2 := h.le'
  refine ba_ext (by rw [ext_size s a (a + m) (by omega), ext_size S p (p + m) (by omega)]; omega) fun j hj => ?_
  rw [ext_size s a (a + m) (by omega)] at hj
  rw [bAt_ext s (by omega), bAt_ext S (by omega)]
  exact h.eq j (by omega)
theorem run_vw {q : Int → Bool} {s S : ByteArray} {a p n i d : Nat} (h : Vw s a S p n) (hS : ¬ (p + n < S.size ∧ q (bAt S ((p + n : Nat) : Int)) = true)) (hd : runE q s (a + i) = a + d) (hn : d ≤ n) : runE q S (p + i) = p + d := by
  have hi : i ≤ d := by have := runE_ge q s (a + i); omega
  have h1 := h.le; have h2 := h.le'
  refine run_is (by omega) (fun j q1 q2 => ?_) ?_
  · have := runE_in (p := q) (s := s) (i := a + i) (j := a + (j - p)) (by omega) (by omega)
    have e := h.eq (j - p) (by omega)
    rw [show p + (j - p) = j by omega] at e
    rw [← e]
    exact ⟨by omega, this.1⟩
  · by_cases c : d = n
    · rw [c]; exact hS
    · have := run_out (p := q) (s := s) (a + i)
      rw [hd, h.eq d (by omega)] at this
      exact fun ⟨c1, c2⟩ => this ⟨by omega, c2⟩
theorem run_le {q : Int → Bool} {s : ByteArray} {a i n : Nat} (hi : i ≤ n) (hs : ¬ (a + n < s.size ∧ q (bAt s ((a + n : Nat) : Int)) = true)) (hn : a + n ≤ s.size) : ∃ d, runE q s (a + i) = a + d ∧ d ≤ n ∧ i ≤ d := by
  have h1 := runE_ge q s (a + i)
  refine ⟨runE q s (a + i) - a, by omega, ?_, by omega⟩
  rcases Nat.lt_or_ge (a + n) (runE q s (a + i)) with c | c
  · have := runE_in (p := q) (s := s) (i := a + i) (j := a + n) (by omega) c
    exact absurd ⟨this.2, this.1⟩ hs
  · omega
def afterL (s : ByteArray) (q : Nat) : Bool := decide (q < s.size) && isLt (bAt s (q : Int))
theorem Stp.after {s : ByteArray} {q : Nat} (h : Stp s q) : afterL s q = false := by
  have := h.no (f := isLt) rfl rfl
  unfold afterL
  cases c : decide (q < s.size) with
  | false => rfl
  | true =>
    rw [Bool.true_and]
    cases c2 : isLt (bAt s (q : Int)) with
    | false => rfl
    | true => exact absurd ⟨of_decide_eq_true c, c2⟩ this
theorem Stp.nofx {s : ByteArray} {q : Nat} (h : Stp s q) : nFx s q = false := by
  cases c : nFx s q with
  | false => rfl
  | true =>
    obtain ⟨f1, f2, _⟩ := nFx_out c
    rcases h (by omega) with e | e <;> rw [e] at f2 <;> exact absurd f2 (by decide)
structure NumSame (s : ByteArray) (a : Nat) (S : ByteArray) (p n : Nat) : Prop where
  out : ∃ d1 d F, runE isDg s a = a + d1 ∧ runE isDg S p = p + d1 ∧ nFx s (a + d1) = F ∧ nFx S (p + d1) = F ∧ d ≤ n ∧
    (F = false → d = d1) ∧ (F = true → runE isDg s (a + d1 + 1) = a + d ∧ runE isDg S (p + d1 + 1) = p + d) ∧ afterL s (a + d) = afterL S (p + d)
theorem NumSame.same {s S : ByteArray} {a p n : Nat} (hv : Vw s a S p n) (h : NumSame s a S p n) (h1 : 1 ≤ n) : nErr s a = nErr S p ∧ nTok s a = nTok S p ∧ ∃ d, nEnd s a = a + d ∧ nEnd S p = p + d ∧ d ≤ n := by
  obtain ⟨d1, d, F, e1, e2, f1, f2, hd, k1, k2, hL⟩ := h.out
  have en : nEnd s a = a + d := by
    unfold nEnd
    rw [e1, f1]
    cases F with
    | true => exact (k2 rfl).1
    | false => rw [k1 rfl]; rfl
  have en2 : nEnd S p = p + d := by
    unfold nEnd
    rw [e2, f2]
    cases F with
    | true => exact (k2 rfl).2
    | false => rw [k1 rfl]; rfl
  have et : nTxt s a = nTxt S p := by unfold nTxt; rw [en, en2]; exact hv.txt hd
  have e0 : bAt s (a : Int) = bAt S (p : Int) := by have := hv.eq 0 (by omega); rwa [Nat.add_zero, Nat.add_zero] at this
  have eb : nBad s a = nBad S p := by
    unfold nBad
    rw [en, en2, e1, e2, f1, f2, e0, decide_eq_decide.2 (show a + d1 + 6 < a + d ↔ p + d1 + 6 < p + d by omega), decide_eq_decide.2 (show a + 1 < a + d1 ↔ p + 1 < p + d1 by omega)]
    show (_ || (_ || afterL s (a + d))) = (_ || (_ || afterL S (p + d)))
    rw [hL]
  have es : a + d1 - a = p + d1 - p := by omega
  refine ⟨?_, ?_, d, en, en2, hd⟩
  · unfold nErr; rw [eb, e1, e2, f1, f2, et, es]
  · unfold nTok; rw [e1, e2, f1, f2, et, es]
structure TokSame (s : ByteArray) (a : Nat) (S : ByteArray) (p n : Nat) : Prop where
  err : kErr s a = kErr S p
  tok : kTok s a = kTok S p
  st : kSt s a = kSt S p
  kend : ∃ d, kEnd s a = a + d ∧ kEnd S p = p + d ∧ d ≤ n
theorem tok_same {s S : ByteArray} {a p n : Nat} (hv : Vw s a S p n) (h1 : 1 ≤ n) (hw : isLt (bAt s (a : Int)) = true → ∃ d, runE isWd s a = a + d ∧ runE isWd S p = p + d ∧ d ≤ n)
    (hn : isDg (bAt s (a : Int)) = true → NumSame s a S p n) (h2 : tS2 s a = tS2 S p ∧ (tS2 s a = true → 2 ≤ n)) : TokSame s a S p n := by
  have e0 : bAt s (a : Int) = bAt S (p : Int) := by have := hv.eq 0 (by omega); rwa [Nat.add_zero, Nat.add_zero] at this
  have e1 : tS1 s a = tS1 S p := by unfold tS1; rw [hv.txt h1]
  have est : kSt s a = kSt S p := by unfold kSt; rw [e0, e1]
  cases c1 : isLt (bAt s (a : Int)) with
  | true =>
    obtain ⟨d, q1, q2, q3⟩ := hw c1
    have c1' := c1
    rw [e0] at c1'
    refine ⟨by unfold kErr; rw [c1, c1']; rfl, ?_, est, d, by unfold kEnd; rw [c1]; exact q1, by unfold kEnd; rw [c1']; exact q2, q3⟩
    unfold kTok
    rw [c1, c1', q1, q2, hv.txt q3]; rfl
  | false =>
    have c1' := c1
    rw [e0] at c1'
    cases c2 : isDg (bAt s (a : Int)) with
    | true =>
      have c2' := c2
      rw [e0] at c2'
      obtain ⟨q1, q2, d, q3, q4, q5⟩ := (hn c2).same hv h1
      refine ⟨by unfold kErr; rw [c1, c1', c2, c2', q1]; rfl, by unfold kTok; rw [c1, c1', c2, c2', q2]; rfl, est, d, by unfold kEnd; rw [c1, c2]; exact q3, by unfold kEnd; rw [c1', c2']; exact q4, q5⟩
    | false =>
      have c2' := c2
      rw [e0] at c2'
      refine ⟨by unfold kErr; rw [c1, c1', c2, c2', e1, h2.1]; rfl, ?_, est, ?_⟩
      · unfold kTok
        rw [c1, c1', c2, c2', ← h2.1]
        cases c3 : tS2 s a with
        | true => rw [hv.txt (h2.2 c3)]; rfl
        | false => rw [hv.txt h1]; rfl
      · unfold kEnd
        rw [c1, c1', c2, c2', ← h2.1]
        cases c3 : tS2 s a with
        | true => exact ⟨2, rfl, rfl, h2.2 c3⟩
        | false => exact ⟨1, rfl, rfl, h1⟩
/-- A sign of two bytes does not end in a space or a line feed. -/
theorem Stp.noS2 {s : ByteArray} {a : Nat} (h : Stp s (a + 1)) : tS2 s a = false := by
  cases c : tS2 s a with
  | false => rfl
  | true =>
    unfold tS2 at c
    rw [Bool.and_eq_true, decide_eq_true_iff] at c
    have hb := (sg_bytes _ (hasW_mem c.2)).2.1 1 (by rw [ext_size s a (a + 2) c.1]; omega)
    rw [bAt_ext s (by omega)] at hb
    rcases h (by omega) with e | e
    · exact absurd e hb.2.1
    · exact absurd e hb.1
theorem tS2_vw {s S : ByteArray} {a p n : Nat} (hv : Vw s a S p n) (h2 : 2 ≤ n) : tS2 s a = tS2 S p := by
  have q1 := hv.le; have q2 := hv.le'
  unfold tS2
  rw [hv.txt h2, decide_eq_true (show a + 2 ≤ s.size by omega), decide_eq_true (show p + 2 ≤ S.size by omega)]
/-- Both texts stop at the same place. -/
theorem tok_both {s S : ByteArray} {a p n : Nat} (hv : Vw s a S p n) (h1 : 1 ≤ n) (hs : Stp s (a + n)) (hS : Stp S (p + n)) : TokSame s a S p n := by
  have q1 := hv.le; have q2 := hv.le'
  refine tok_same hv h1 (fun _ => ?_) (fun _ => ?_) ?_
  · obtain ⟨d, r1, r2, _⟩ := run_le (q := isWd) (i := 0) (Nat.zero_le n) (hs.no rfl rfl) q1
    exact ⟨d, r1, run_vw (i := 0) hv (hS.no rfl rfl) r1 r2, r2⟩
  · obtain ⟨d1, r1, r2, _⟩ := run_le (q := isDg) (i := 0) (Nat.zero_le n) (hs.no rfl rfl) q1
    have r3 := run_vw (i := 0) hv (hS.no rfl rfl) r1 r2
    have aft : ∀ d, d ≤ n → afterL s (a + d) = afterL S (p + d) := fun d hd => by
      by_cases c : d = n
      · rw [c, hs.after, hS.after]
      · unfold afterL
        rw [decide_eq_true (show a + d < s.size by omega), decide_eq_true (show p + d < S.size by omega), hv.eq d (by omega)]
    have hF : nFx s (a + d1) = nFx S (p + d1) := by
      by_cases c : d1 = n
      · rw [c, hs.nofx, hS.nofx]
      · by_cases c2 : d1 + 1 = n
        · have : ∀ (t : ByteArray) (b : Nat), Stp t (b + n) → nFx t (b + d1) = false := fun t b ht => by
            cases cf : nFx t (b + d1) with
            | false => rfl
            | true =>
              obtain ⟨f1, _, f3⟩ := nFx_out cf
              rw [show b + d1 + 1 = b + n by omega] at f1 f3
              exact absurd ⟨f1, f3⟩ (ht.no (f := isDg) rfl rfl)
          rw [this s a hs, this S p hS]
        · unfold nFx
          have z1 := hv.eq d1 (by omega)
          have z2 := hv.eq (d1 + 1) (by omega)
          rw [← Nat.add_assoc, ← Nat.add_assoc] at z2
          rw [z1, z2, decide_eq_true (show a + d1 + 1 < s.size by omega), decide_eq_true (show p + d1 + 1 < S.size by omega)]
    cases cF : nFx s (a + d1) with
    | false =>
      rw [cF] at hF
      exact ⟨d1, d1, false, r1, r3, cF, hF.symm, r2, fun _ => rfl, fun c => by (cases c), aft d1 r2⟩
    | true =>
      rw [cF] at hF
      have hd : d1 + 1 ≤ n := by
        rcases Nat.lt_or_ge d1 n with c | c
        · omega
        · rw [show d1 = n by omega, hs.nofx] at cF; cases cF
      obtain ⟨d, t1, t2, _⟩ := run_le (q := isDg) (i := d1 + 1) hd (hs.no rfl rfl) q1
      have t3 := run_vw (i := d1 + 1) hv (hS.no rfl rfl) t1 t2
      exact ⟨d1, d, true, r1, r3, cF, hF.symm, t2, fun c => by (cases c), fun _ => ⟨by rw [Nat.add_assoc]; exact t1, by rw [Nat.add_assoc]; exact t3⟩, aft d t2⟩
  · by_cases c : n = 1
    · subst c
      rw [hs.noS2, hS.noS2]
      exact ⟨rfl, fun c => by (cases c)⟩
    · exact ⟨tS2_vw hv (by omega), fun _ => by omega⟩
/-- A token alone: the other text stops where the token ends. -/
theorem tok_alone {s S : ByteArray} {a p n : Nat} (hlt : a < s.size) (hle : s.size + 6 ≤ 9223372036854775807) (hv : Vw s a S p n) (he : kErr s a = 0) (hn : kEnd s a = a + n) (h1 : 1 ≤ n) (hS : Stp S (p + n)) : TokSame s a S p n := by
  have q1 := hv.le; have q2 := hv.le'
  refine tok_same hv h1 (fun c1 => ?_) (fun c2 => ?_) ?_
  · have e : runE isWd s a = a + n := by rw [← hn]; unfold kEnd; rw [c1]; rfl
    exact ⟨n, e, run_vw (i := 0) hv (hS.no rfl rfl) e (Nat.le_refl _), Nat.le_refl _⟩
  · have c1 := dg_lt c2
    have hN : NumAt s a := ⟨hlt, hle, c2⟩
    have en : nEnd s a = a + n := by rw [← hn]; unfold kEnd; rw [c1, c2]; rfl
    have eb : nBad s a = false := by
      have e : nErr s a = 0 := by rw [← he]; unfold kErr; rw [c1, c2]; rfl
      cases cb : nBad s a with
      | false => rfl
      | true => unfold nErr at e; rw [if_pos cb] at e; cases e
    have hg := hN.gt
    obtain ⟨d1, r1⟩ : ∃ d1, runE isDg s a = a + d1 := ⟨runE isDg s a - a, by omega⟩
    have eL : afterL s (a + n) = false := by
      unfold nBad at eb
      rw [Bool.or_eq_false_iff, Bool.or_eq_false_iff, en] at eb
      exact eb.2.2
    unfold nEnd at en
    rw [r1] at en
    cases cF : nFx s (a + d1) with
    | false =>
      rw [cF] at en
      have e : d1 = n := by have : a + d1 = a + n := en; omega
      subst e
      exact ⟨d1, d1, false, r1, run_vw (i := 0) hv (hS.no rfl rfl) r1 (Nat.le_refl _), cF, hS.nofx, Nat.le_refl _, fun _ => rfl, fun c => by (cases c), by rw [eL, hS.after]⟩
    | true =>
      rw [cF] at en
      have en : runE isDg s (a + d1 + 1) = a + n := en
      obtain ⟨f1, f2, f3⟩ := nFx_out cF
      have hd : d1 + 2 ≤ n := by
        rw [runE_step f1 f3] at en
        have := runE_ge isDg s (a + d1 + 1 + 1)
        omega
      have z1 := hv.eq d1 (by omega)
      have z2 := hv.eq (d1 + 1) (by omega)
      rw [← Nat.add_assoc, ← Nat.add_assoc] at z2
      have hF : nFx S (p + d1) = true := by
        unfold nFx
        rw [← z1, ← z2, f2, f3, decide_eq_true (show p + d1 + 1 < S.size by omega)]; rfl
      exact ⟨d1, n, true, r1, run_vw (i := 0) hv (hS.no rfl rfl) r1 (by omega), cF, hF, Nat.le_refl _, fun c => by (cases c), fun _ => ⟨en, run_vw (i := d1 + 1) hv (hS.no rfl rfl) en (Nat.le_refl _)⟩, by rw [eL, hS.after]⟩
  · by_cases c : n = 1
    · subst c
      have : tS2 s a = false ∨ (isLt (bAt s (a : Int)) = true ∨ isDg (bAt s (a : Int)) = true) := by
        cases c1 : isLt (bAt s (a : Int)) with
        | true => exact .inr (.inl rfl)
        | false =>
          cases c2 : isDg (bAt s (a : Int)) with
          | true => exact .inr (.inr rfl)
          | false =>
            cases c3 : tS2 s a with
            | false => exact .inl rfl
            | true => unfold kEnd at hn; rw [c1, c2, c3] at hn; have : a + 2 = a + 1 := hn; omega
      have n2 : tS2 s a = false := by
        rcases this with c | c
        · exact c
        · cases c3 : tS2 s a with
          | false => rfl
          | true =>
            have h1 := tS2_S1 c3
            have hm := hasW_mem h1
            have e0 : bAt (s.extract a (a + 1)) ((0 : Nat) : Int) = bAt s (a : Int) := bAt_ext s (by omega)
            have key : ∀ x ∈ sgWords, isLt (bAt x ((0 : Nat) : Int)) = false ∧ isDg (bAt x ((0 : Nat) : Int)) = false := by decide +kernel
            have := key _ hm
            rw [e0] at this
            rcases c with c | c
            · rw [c] at this; cases this.1
            · rw [c] at this; cases this.2
      rw [n2, hS.noS2]
      exact ⟨rfl, fun c => by (cases c)⟩
    · exact ⟨tS2_vw hv (by omega), fun _ => by omega⟩
end Go.Proofs.YtfijmdeanechfaaDoor.Lx
