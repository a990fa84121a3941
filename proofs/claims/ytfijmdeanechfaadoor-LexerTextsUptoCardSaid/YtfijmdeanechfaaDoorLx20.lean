/- The plain law of Lex: what a token's bytes are; the package's Lex is the reference's. -/
import Derived.Test.YtfijmdeanechfaaDoorLx19
namespace Go.Proofs.YtfijmdeanechfaaDoor.Lx
open Go Go.RowKit Go.Proofs.YtfijmdeanechfaaDoor.Eng
set_option linter.unusedVariables false
set_option linter.unusedSimpArgs false
theorem ba_ext {x y : ByteArray} (hs : x.size = y.size) (h : ∀ j, j < x.size → bAt x (j : Int) = bAt y (j : Int)) : x = y := by
  cases x; cases y
  rename_i a b
  congr 1
  refine Array.ext hs fun i h1 h2 => ?_
  have := h i h1
  rw [bAt_get (s := ⟨a⟩) h1, bAt_get (s := ⟨b⟩) h2] at this
  rw [← UInt8.toNat_inj]
  have e : ((a.toList[i]'(by simpa using h1)).toNat : Int) = ((b.toList[i]'(by simpa using h2)).toNat : Int) := this
  simpa using Int.ofNat_inj.1 e
theorem beq_list {x y : ByteArray} : (x.toList == y.toList) = true ↔ x = y := by
  rw [blist, blist]
  refine ⟨fun h => ?_, fun h => by rw [h]; simp⟩
  have h : x.data.toList = y.data.toList := by simpa using h
  cases x; cases y
  congr 1
  exact Array.toList_inj.1 h
theorem isCm_iff {s : ByteArray} {a : Nat} (ha : a ≤ s.size) : isCm s a = true ↔ a + 1 < s.size ∧ bAt s (a : Int) = 47 ∧ bAt s ((a + 1 : Nat) : Int) = 47 := by
  have hz := ext_size s a s.size (Nat.le_refl _)
  have h2 : (ByteArray.mk #[47, 47]).size = 2 := rfl
  unfold isCm hasP
  rw [hz, h2, Bool.and_eq_true, decide_eq_true_iff, beq_list]
  constructor
  · rintro ⟨h, e⟩
    rw [ext_ext s (by omega), Nat.add_zero] at e
    have e0 := congrArg (fun x => bAt x ((0 : Nat) : Int)) e
    have e1 := congrArg (fun x => bAt x ((1 : Nat) : Int)) e
    rw [bAt_ext s (by omega)] at e0 e1
    exact ⟨by omega, e0, e1⟩
  · rintro ⟨h, e0, e1⟩
    refine ⟨by omega, ?_⟩
    rw [ext_ext s (by omega), Nat.add_zero]
    refine ba_ext (by rw [ext_size s a (a + 2) (by omega), h2]; omega) fun j hj => ?_
    rw [ext_size s a (a + 2) (by omega)] at hj
    rw [bAt_ext s (by omega)]
    have : j = 0 ∨ j = 1 := by omega
    rcases this with rfl | rfl
    · exact e0
    · exact e1
theorem wd_ne {c : Int} (h : isWd c = true) : c ≠ 10 ∧ c ≠ 32 ∧ c ≠ 9 ∧ c ≠ 46 ∧ c ≠ 47 := by
  unfold isWd isLt isDg at h
  simp at h
  omega
theorem lt_wd {c : Int} (h : isLt c = true) : isWd c = true := by unfold isWd; rw [h]; rfl
theorem dg_wd {c : Int} (h : isDg c = true) : isWd c = true := by unfold isWd; rw [h, Bool.or_true]
structure TokIn (s : ByteArray) (a : Nat) : Prop where
  gt : a < kEnd s a
  le : kEnd s a ≤ s.size
  text : (kTok s a).text = s.extract a (kEnd s a)
  bytes : ∀ j, a ≤ j → j < kEnd s a → bAt s (j : Int) ≠ 10 ∧ bAt s (j : Int) ≠ 32 ∧ bAt s (j : Int) ≠ 9
theorem tok_in {s : ByteArray} {a : Nat} (h : a < s.size) (hle : s.size + 6 ≤ 9223372036854775807) (hst : kSt s a = true) : TokIn s a := by
  cases c1 : isLt (bAt s (a : Int)) with
  | true =>
    have e : kEnd s a = runE isWd s a := by unfold kEnd; rw [c1]; rfl
    have et : kTok s a = ⟨1, s.extract a (runE isWd s a), 0, 0⟩ := by unfold kTok; rw [c1]; rfl
    refine ⟨?_, ?_, by rw [et, e], fun j h1 h2 => ?_⟩
    · rw [e, runE_step h (lt_wd c1)]; exact runE_ge _ _ _
    · rw [e]; exact runE_le _ _ _ (by omega)
    · rw [e] at h2
      have := wd_ne (runE_in h1 h2).1
      exact ⟨this.1, this.2.1, this.2.2.1⟩
  | false =>
    cases c2 : isDg (bAt s (a : Int)) with
    | true =>
      have e : kEnd s a = nEnd s a := by unfold kEnd; rw [c1, c2]; rfl
      have et : kTok s a = nTok s a := by unfold kTok; rw [c1, c2]; rfl
      have hN : NumAt s a := ⟨h, hle, c2⟩
      have hg := hN.gt; have hl := hN.e_le
      have etx : (nTok s a).text = s.extract a (nEnd s a) := by unfold nTok nTxt; split <;> rfl
      obtain ⟨e1, he1⟩ : ∃ e1, e1 = runE isDg s a := ⟨_, rfl⟩
      have d1 : ∀ j, a ≤ j → j < e1 → isDg (bAt s (j : Int)) = true := fun j h1 h2 => (runE_in (i := a) h1 (by rw [← he1]; exact h2)).1
      cases hf : nFx s e1 with
      | false =>
        have en : nEnd s a = e1 := by unfold nEnd; rw [← he1, hf]; rfl
        refine ⟨by rw [e, en]; omega, by rw [e, en]; omega, by rw [et, e, etx], fun j h1 h2 => ?_⟩
        rw [e, en] at h2
        have := wd_ne (dg_wd (d1 j h1 h2))
        exact ⟨this.1, this.2.1, this.2.2.1⟩
      | true =>
        obtain ⟨f1, f2, f3⟩ := nFx_out hf
        have en : nEnd s a = runE isDg s (e1 + 1) := by unfold nEnd; rw [← he1, hf]; rfl
        have g1 : e1 + 1 ≤ runE isDg s (e1 + 1) := runE_ge _ _ _
        refine ⟨by rw [e, en]; omega, by rw [e, en]; exact runE_le _ _ _ (by omega), by rw [et, e, etx], fun j h1 h2 => ?_⟩
        rw [e, en] at h2
        rcases Nat.lt_trichotomy j e1 with c | c | c
        · have := wd_ne (dg_wd (d1 j h1 c))
          exact ⟨this.1, this.2.1, this.2.2.1⟩
        · rw [c, f2]; decide
        · have := wd_ne (dg_wd (runE_in (i := e1 + 1) (by omega) h2).1)
          exact ⟨this.1, this.2.1, this.2.2.1⟩
    | false =>
      have h1 : tS1 s a = true := by unfold kSt at hst; rw [c1, c2] at hst; exact hst
      cases c3 : tS2 s a with
      | true =>
        have e : kEnd s a = a + 2 := by unfold kEnd; rw [c1, c2, c3]; rfl
        have et : kTok s a = ⟨4, s.extract a (a + 2), 0, 0⟩ := by unfold kTok; rw [c1, c2, c3]; rfl
        unfold tS2 at c3
        rw [Bool.and_eq_true, decide_eq_true_iff] at c3
        have hb := (sg_bytes _ (hasW_mem c3.2)).2.1
        rw [ext_size s a (a + 2) c3.1] at hb
        refine ⟨by omega, by omega, by rw [et, e], fun j h1 h2 => ?_⟩
        rw [e] at h2
        have := hb (j - a) (by omega)
        rw [bAt_ext s (by omega), show a + (j - a) = j by omega] at this
        exact this
      | false =>
        have e : kEnd s a = a + 1 := by unfold kEnd; rw [c1, c2, c3]; rfl
        have et : kTok s a = ⟨4, s.extract a (a + 1), 0, 0⟩ := by unfold kTok; rw [c1, c2, c3]; rfl
        have hb := (sg_bytes _ (hasW_mem h1)).2.1
        rw [ext_size s a (a + 1) (by omega)] at hb
        refine ⟨by omega, by omega, by rw [et, e], fun j h1 h2 => ?_⟩
        rw [e] at h2
        have := hb (j - a) (by omega)
        rw [bAt_ext s (by omega), show a + (j - a) = j by omega] at this
        exact this
theorem no_tok {s : ByteArray} {a : Nat} (h : kSt s a = false) : kErr s a = 3 := by
  unfold kSt at h
  rw [Bool.or_eq_false_iff, Bool.or_eq_false_iff] at h
  have h2 : tS2 s a = false := by
    cases c : tS2 s a with
    | false => rfl
    | true => rw [tS2_S1 c] at h; cases h.2.2
  unfold kErr
  rw [h.1, h.2.1, h.2.2, h2]; rfl
theorem lex_eq {s : ByteArray} (hle : s.size + 6 ≤ 9223372036854775807) : ∀ (n m a : Nat) (ts : List Tok), a ≤ s.size → s.size + 1 ≤ n + a → s.size + 1 ≤ m + skipE s a → lexP s n a (1 + cnt s a) ts = lexQ s m (skipE s a) ts := by
  intro n
  induction n with
  | zero => intro m a ts h1 h2; omega
  | succ n ih =>
    intro m a ts h1 h2 h3
    rw [lexP_step]
    rcases Nat.lt_or_ge a s.size with hlt | hge
    · rw [decide_eq_false (show ¬ s.size ≤ a by omega), cond_false]
      have sp : isSp (bAt s (a : Int)) = true → skipE s a = skipE s (a + 1) := fun h => by rw [skipE_eq s a, if_pos hlt, if_pos h]
      cases c1 : bAt s (a : Int) == 10 with
      | true =>
        have e := sp (by unfold isSp; rw [c1]; simp)
        have ec : cnt s (a + 1) = cnt s a + 1 := by show cnt s a + (bif _ then _ else _) = _; rw [c1]; rfl
        rw [cond_true, e, show 1 + cnt s a + 1 = 1 + cnt s (a + 1) by omega]
        rw [e] at h3
        exact ih m (a + 1) ts (by omega) (by omega) h3
      | false =>
        rw [cond_false]
        have ec : cnt s (a + 1) = cnt s a := by show cnt s a + (bif _ then _ else _) = _; rw [c1]; exact Int.add_zero _
        cases c2 : bAt s (a : Int) == 32 with
        | true =>
          have e := sp (by unfold isSp; rw [c2]; simp)
          rw [cond_true, e, ← ec]
          rw [e] at h3
          exact ih m (a + 1) ts (by omega) (by omega) h3
        | false =>
          rw [cond_false]
          cases c3 : bAt s (a : Int) == 9 with
          | true =>
            have e := sp (by unfold isSp; rw [c3]; simp)
            rw [cond_true, e, ← ec]
            rw [e] at h3
            exact ih m (a + 1) ts (by omega) (by omega) h3
          | false =>
            rw [cond_false]
            have ns : ¬ isSp (bAt s (a : Int)) = true := by unfold isSp; rw [c1, c2, c3]; decide
            cases c4 : isCm s a with
            | true =>
              obtain ⟨k1, k2, k3⟩ := (isCm_iff h1).1 c4
              have e : skipE s a = skipE s (runE noNl s a) := by rw [skipE_eq s a, if_pos hlt, if_neg ns, if_pos ⟨k2, k1, k3⟩]
              have g := run_com hlt k2
              have ec : cnt s (runE noNl s a) = cnt s a := cnt_same (by omega) fun j q1 q2 => by
                have := (runE_in q1 q2).1
                unfold noNl at this
                simpa using this
              rw [cond_true, e, ← ec]
              rw [e] at h3
              exact ih m _ ts (runE_le _ _ _ h1) (by omega) h3
            | false =>
              rw [cond_false]
              have e : skipE s a = a := by
                rw [skipE_eq s a, if_pos hlt, if_neg ns, if_neg fun c => by rw [(isCm_iff h1).2 ⟨c.2.1, c.1, c.2.2⟩] at c4; cases c4]
              rw [e] at h3
              rw [e]
              obtain ⟨m, rfl⟩ : ∃ m', m = m' + 1 := ⟨m - 1, by omega⟩
              show _ = bif decide (a < s.size) then _ else _
              rw [decide_eq_true hlt, cond_true]
              cases c5 : kSt s a with
              | false =>
                rw [Bool.and_false, cond_false, no_tok c5]; rfl
              | true =>
                rw [Bool.and_true, cond_true]
                cases c6 : Nat.beq ts.length 4000 with
                | true => rfl
                | false =>
                  rw [cond_false, cond_false]
                  cases c7 : kErr s a == 0 with
                  | false => rfl
                  | true =>
                    have ht := tok_in hlt hle c5
                    have h4 := ht.gt; have h5 := ht.le
                    have ec : cnt s (kEnd s a) = cnt s a := cnt_same (by omega) fun j q1 q2 => (ht.bytes j q1 q2).1
                    have h6 := (skipP_ge s (s.size - kEnd s a) (kEnd s a)).1
                    rw [cond_true, cond_true]
                    have := ih m (kEnd s a) (ts ++ [kTokL s a (1 + cnt s a)]) h5 (by omega) (by show s.size + 1 ≤ m + skipP s (s.size - kEnd s a) (kEnd s a); omega)
                    rw [ec] at this
                    exact this
    · have ea : a = s.size := by omega
      rw [decide_eq_true hge, cond_true]
      have e : skipE s a = a := by rw [skipE_eq, if_neg (by omega)]
      rw [e] at h3
      rw [e]
      obtain ⟨m, rfl⟩ : ∃ m', m = m' + 1 := ⟨m - 1, by omega⟩
      show _ = bif decide (a < s.size) then _ else _
      rw [decide_eq_false (by omega), cond_false, ea]
end Go.Proofs.YtfijmdeanechfaaDoor.Lx
