/- The plain laws of LexerTokens and LexerComments. -/
import Derived.Test.YtfijmdeanechfaaDoorLx27
import Derived.Test.YtfijmdeanechfaaDoorLx28
namespace Go.Proofs.YtfijmdeanechfaaDoor.Lx
open Go Go.RowKit Go.Proofs.YtfijmdeanechfaaDoor.Eng
set_option linter.unusedVariables false
set_option linter.unusedSimpArgs false
/-- A token that Lex makes. -/
structure GoodT (t : Tok) : Prop where
  out : ∃ (s : ByteArray) (a : Nat), a < s.size ∧ s.size + 6 ≤ 9223372036854775807 ∧ kSt s a = true ∧ kErr s a = 0 ∧ ∃ l, t = kTokL s a l
theorem lexP_good {s : ByteArray} (hle : s.size + 6 ≤ 9223372036854775807) : ∀ (n a : Nat) (l : Int) (ts : List Tok), (lexP s n a l ts).err = 0 → s.size + 1 ≤ n + a → a ≤ s.size → ts.length ≤ 4000 → (∀ t ∈ ts, GoodT t) → ∃ us L, (lexP s n a l ts).toks = us ++ [endT L] ∧ us.length ≤ 4000 ∧ ∀ t ∈ us, GoodT t := by
  intro n
  induction n with
  | zero => intro a l ts h1 h2 h3; omega
  | succ n ih =>
    intro a l ts h1 h2 h3 h4 h5
    rw [lexP_step] at h1 ⊢
    rcases Nat.lt_or_ge a s.size with hlt | hge
    · rw [decide_eq_false (show ¬ s.size ≤ a by omega), cond_false] at h1 ⊢
      cases c1 : bAt s (a : Int) == 10 with
      | true => rw [c1] at h1; exact ih _ _ _ h1 (by omega) (by omega) h4 h5
      | false =>
        rw [c1, cond_false] at h1
        rw [cond_false]
        cases c2 : bAt s (a : Int) == 32 with
        | true => rw [c2] at h1; exact ih _ _ _ h1 (by omega) (by omega) h4 h5
        | false =>
          rw [c2, cond_false] at h1
          rw [cond_false]
          cases c3 : bAt s (a : Int) == 9 with
          | true => rw [c3] at h1; exact ih _ _ _ h1 (by omega) (by omega) h4 h5
          | false =>
            rw [c3, cond_false] at h1
            rw [cond_false]
            cases c4 : isCm s a with
            | true =>
              rw [c4] at h1
              have g := run_com hlt ((isCm_iff h3).1 c4).2.1
              exact ih _ _ _ h1 (by omega) (runE_le _ _ _ h3) h4 h5
            | false =>
              rw [c4, cond_false] at h1
              rw [cond_false]
              cases c5 : Nat.beq ts.length 4000 && kSt s a with
              | true => rw [c5] at h1; exact absurd h1 (show ¬ (9 : Int) = 0 by decide)
              | false =>
                rw [c5, cond_false] at h1
                rw [cond_false]
                cases c7 : kErr s a == 0 with
                | false =>
                  rw [c7] at h1
                  have c7 : kErr s a ≠ 0 := by simpa using c7
                  exact absurd h1 c7
                | true =>
                  rw [c7, cond_true] at h1
                  rw [cond_true]
                  have c8 : kSt s a = true := by
                    cases c : kSt s a with
                    | true => rfl
                    | false => rw [no_tok c] at c7; cases c7
                  have ht := tok_in hlt hle c8
                  have h6 := ht.gt; have h7 := ht.le
                  have hl4 : ts.length ≠ 4000 := fun c => by rw [c, c8] at c5; cases c5
                  refine ih _ _ _ h1 (by omega) h7 (by rw [List.length_append]; simp; omega) fun t ht => ?_
                  rcases List.mem_append.1 ht with q | q
                  · exact h5 t q
                  · rw [List.mem_singleton.1 q]
                    exact ⟨s, a, hlt, hle, c8, by simpa using c7, l, rfl⟩
    · rw [decide_eq_true hge, cond_true]
      exact ⟨ts, l, rfl, h4, h5⟩
/-- The texts, a space between each two. -/
def joinT : List ByteArray → ByteArray
  | [] => ⟨#[]⟩
  | [x] => x
  | x :: y :: r => x ++ (⟨#[32]⟩ ++ joinT (y :: r))
theorem app_size (x y : ByteArray) : (x ++ y).size = x.size + y.size := by simp
theorem app_l {x y : ByteArray} {i : Nat} (h : i < x.size) : bAt (x ++ y) (i : Int) = bAt x (i : Int) := by
  unfold bAt
  rw [Int.toNat_natCast, List.getD_eq_getElem?_getD, List.getD_eq_getElem?_getD]
  have e : (x ++ y).data.toList = x.data.toList ++ y.data.toList := by simp [ByteArray.data_append]
  have h : i < x.data.toList.length := h
  rw [e, List.getElem?_append_left h]
theorem app_r {x y : ByteArray} {i : Nat} : bAt (x ++ y) ((x.size + i : Nat) : Int) = bAt y (i : Int) := by
  unfold bAt
  rw [Int.toNat_natCast, Int.toNat_natCast, List.getD_eq_getElem?_getD, List.getD_eq_getElem?_getD]
  have e : (x ++ y).data.toList = x.data.toList ++ y.data.toList := by simp [ByteArray.data_append]
  have h : x.data.toList.length = x.size := rfl
  rw [e, List.getElem?_append_right (by omega), h, Nat.add_sub_cancel_left]
/-- The text from a place on. -/
structure From (S : ByteArray) (p : Nat) (x : ByteArray) : Prop where
  sz : p + x.size = S.size
  eq : ∀ j, j < x.size → bAt S ((p + j : Nat) : Int) = bAt x (j : Int)
theorem From.right {S : ByteArray} {p : Nat} {x y : ByteArray} (h : From S p (x ++ y)) : From S (p + x.size) y :=
  ⟨by have := h.sz; rw [app_size] at this; omega, fun j hj => by
    have := h.eq (x.size + j) (by rw [app_size]; omega)
    rw [← Nat.add_assoc, app_r] at this
    exact this⟩
theorem From.left {S : ByteArray} {p : Nat} {x y : ByteArray} (h : From S p (x ++ y)) {j : Nat} (hj : j < x.size) : bAt S ((p + j : Nat) : Int) = bAt x (j : Int) := by
  have := h.eq j (by rw [app_size]; omega)
  rw [app_l hj] at this
  exact this
theorem no_cm {S : ByteArray} {p n : Nat} (hp : p < S.size) (hle : S.size + 6 ≤ 9223372036854775807) (hst : kSt S p = true) (hk : kEnd S p = p + n) (hS : Stp S (p + n)) : isCm S p = false := by
  cases c : isCm S p with
  | false => rfl
  | true =>
    obtain ⟨k1, k2, k3⟩ := (isCm_iff (by omega)).1 c
    have c1 : isLt (bAt S (p : Int)) = false := by rw [k2]; rfl
    have c2 : isDg (bAt S (p : Int)) = false := by rw [k2]; rfl
    have c3 : tS2 S p = false := by
      cases c3 : tS2 S p with
      | false => rfl
      | true =>
        unfold tS2 at c3
        rw [Bool.and_eq_true, decide_eq_true_iff] at c3
        have key : ∀ x ∈ sgWords, x.size = 2 → bAt x ((0 : Nat) : Int) ≠ 47 := by decide +kernel
        have := key _ (hasW_mem c3.2) (by rw [ext_size S p (p + 2) c3.1]; omega)
        rw [bAt_ext S (by omega)] at this
        exact absurd k2 this
    have e : kEnd S p = p + 1 := by unfold kEnd; rw [c1, c2, c3]; rfl
    have hn : n = 1 := by omega
    subst hn
    rcases hS (by omega) with e | e <;> rw [k3] at e <;> exact absurd e (by decide)
theorem GoodT.text {t : Tok} (h : GoodT t) : 1 ≤ t.text.size := by
  obtain ⟨s, a, h1, h2, h3, h4, l, rfl⟩ := h.out
  have ht := tok_in h1 h2 h3
  have := ht.gt; have := ht.le
  show 1 ≤ (kTok s a).text.size
  rw [ht.text, ext_size s a _ ht.le]; omega
/-- A token's text, alone, is the token. -/
theorem good_at {t : Tok} (h : GoodT t) {S : ByteArray} {p : Nat} (hp : p + t.text.size ≤ S.size) (he : ∀ j, j < t.text.size → bAt S ((p + j : Nat) : Int) = bAt t.text (j : Int)) (hS : Stp S (p + t.text.size)) :
    kErr S p = 0 ∧ kSt S p = true ∧ kEnd S p = p + t.text.size ∧ (∀ l, kTokL S p l = ⟨t.kind, t.text, t.value, l⟩) ∧ bAt S (p : Int) ≠ 10 ∧ bAt S (p : Int) ≠ 32 ∧ bAt S (p : Int) ≠ 9 := by
  have h1 := h.text
  obtain ⟨s, a, g1, g2, g3, g4, l, rfl⟩ := h.out
  have ht := tok_in g1 g2 g3
  have hk := ht.gt; have hk2 := ht.le
  have etx : (kTokL s a l).text = s.extract a (kEnd s a) := ht.text
  have esz : (kTokL s a l).text.size = kEnd s a - a := by rw [etx, ext_size s a _ hk2]
  rw [esz] at hp he hS
  have hv : Vw s a S p (kEnd s a - a) := ⟨by omega, hp, fun j hj => by
    have := he j hj
    rw [etx, bAt_ext s (by omega)] at this
    exact this.symm⟩
  have := tok_alone g1 g2 hv g4 (by omega) (by omega) hS
  obtain ⟨d, q1, q2, q3⟩ := this.kend
  have e0 : bAt s (a : Int) = bAt S (p : Int) := by have := hv.eq 0 (by omega); rwa [Nat.add_zero, Nat.add_zero] at this
  refine ⟨by rw [← this.err]; exact g4, by rw [← this.st]; exact g3, by rw [esz, q2]; omega, fun l' => ?_, ?_⟩
  · unfold kTokL; rw [← this.tok]
  · rw [← e0]; exact ht.bytes a (Nat.le_refl _) hk
def at1 (t : Tok) : Tok := ⟨t.kind, t.text, t.value, 1⟩
theorem joinT_cons (x : ByteArray) (r : List ByteArray) : joinT (x :: r) = x ++ (match r with | [] => ⟨#[]⟩ | _ => ⟨#[32]⟩ ++ joinT r) := by
  cases r with
  | nil => show x = x ++ _; refine ba_ext (by rw [app_size]; rfl) fun j hj => (app_l hj).symm
  | cons y r => rfl
theorem lex_join {S : ByteArray} (hle : S.size + 6 ≤ 9223372036854775807) : ∀ (us : List Tok) (n p : Nat) (ts : List Tok), (∀ t ∈ us, GoodT t) → From S p (joinT (us.map (·.text))) → S.size + 1 ≤ n + p → ts.length + us.length ≤ 4000 →
    lexP S n p 1 ts = ⟨ts ++ (us.map at1 ++ [endT 1]), 0, 0⟩
  | [], n, p, ts, hg, hF, hn, hl => by
    have hp := hF.sz
    have hp : p = S.size := hp
    obtain ⟨n, rfl⟩ : ∃ m, n = m + 1 := ⟨n - 1, by omega⟩
    rw [lexP_step, decide_eq_true (show S.size ≤ p by omega), cond_true]; rfl
  | t :: us, n, p, ts, hg, hF, hn, hl => by
    have gt := hg t (by simp)
    have h1 := gt.text
    have hF1 : From S p (t.text ++ (match us.map (·.text) with | [] => ⟨#[]⟩ | _ => ⟨#[32]⟩ ++ joinT (us.map (·.text)))) := by rw [← joinT_cons]; exact hF
    have hsz := hF1.sz
    rw [app_size] at hsz
    have hR := hF1.right
    have hS : Stp S (p + t.text.size) := fun hq => by
      have hz := hR.sz
      cases us with
      | nil => have hz : p + t.text.size + 0 = S.size := hz; omega
      | cons u us =>
        have := hR.left (j := 0) (show 0 < 1 by decide)
        rw [Nat.add_zero] at this
        exact .inl this
    obtain ⟨k1, k2, k3, k4, k5, k6, k7⟩ := good_at gt (S := S) (p := p) (by omega) (fun j hj => hF1.left hj) hS
    have hcm := no_cm (by omega) hle k2 k3 hS
    have hl' : ts.length + (us.length + 1) ≤ 4000 := hl
    have hb : (Nat.beq ts.length 4000 && kSt S p) = false := by
      cases c : Nat.beq ts.length 4000 with
      | false => rfl
      | true => have := Nat.eq_of_beq_eq_true c; omega
    obtain ⟨n, rfl⟩ : ∃ m, n = m + 1 := ⟨n - 1, by omega⟩
    rw [lexP_step, decide_eq_false (show ¬ S.size ≤ p by omega), show (bAt S (p : Int) == 10) = false by simpa using k5, show (bAt S (p : Int) == 32) = false by simpa using k6, show (bAt S (p : Int) == 9) = false by simpa using k7, hcm, hb, k1]
    simp only [cond_false]
    rw [show ((0 : Int) == 0) = true from rfl, cond_true, k3, k4 1]
    cases us with
    | nil =>
      have := lex_join hle [] n (p + t.text.size) (ts ++ [at1 t]) (fun t ht => by cases ht) ⟨hR.sz, fun j hj => absurd hj (Nat.not_lt_zero j)⟩ (by omega) (by rw [List.length_append]; show ts.length + 1 + 0 ≤ _; omega)
      rw [show (Tok.mk t.kind t.text t.value 1) = at1 t from rfl, this]
      simp
    | cons u us =>
      have hR : From S (p + t.text.size) (⟨#[32]⟩ ++ joinT ((u :: us).map (·.text))) := hR
      have b0 : bAt S ((p + t.text.size : Nat) : Int) = 32 := by
        have := hR.left (j := 0) (show 0 < 1 by decide)
        rw [Nat.add_zero] at this
        exact this
      have hsz2 := hR.sz
      rw [app_size] at hsz2
      have hsz2 : p + t.text.size + (1 + (joinT ((u :: us).map (·.text))).size) = S.size := hsz2
      obtain ⟨n, rfl⟩ : ∃ m, n = m + 1 := ⟨n - 1, by omega⟩
      rw [lexP_step, decide_eq_false (show ¬ S.size ≤ p + t.text.size by omega), b0, show ((32 : Int) == 10) = false from rfl, show ((32 : Int) == 32) = true from rfl]
      simp only [cond_false, cond_true]
      have := lex_join hle (u :: us) n (p + t.text.size + 1) (ts ++ [at1 t]) (fun t ht => hg t (by simp at ht ⊢; right; exact ht)) hR.right (by omega) (by rw [List.length_append]; have : us.length + 1 + 1 = (t :: u :: us).length := rfl; simp at hl ⊢; omega)
      rw [show (Tok.mk t.kind t.text t.value 1) = at1 t from rfl, this]
      simp
/-- The law: the text of the tokens has the same tokens, all in line 1. -/
theorem lex_tokens {s : ByteArray} (hle : s.size + 6 ≤ 9223372036854775807) (h0 : (lexT s).err = 0) : ∃ us L, (lexT s).toks = us ++ [endT L] ∧ (∀ t ∈ us, t.kind ≠ 5) ∧ us.length ≤ 4000 ∧
    ∀ S : ByteArray, S = joinT (us.map (·.text)) → S.size ≤ 16384 → lexT S = ⟨us.map at1 ++ [endT 1], 0, 0⟩ := by
  have h1 : ¬ 16384 < s.size := fun c => by unfold lexT at h0; rw [decide_eq_true c] at h0; exact absurd h0 (show ¬ (5 : Int) = 0 by decide)
  have e : lexT s = lexP s (s.size + 1) 0 1 [] := by unfold lexT; rw [decide_eq_false h1]; rfl
  rw [e] at h0 ⊢
  obtain ⟨us, L, q1, q2, q3⟩ := lexP_good hle _ _ _ _ h0 (by omega) (Nat.zero_le _) (Nat.zero_le _) (fun t ht => by cases ht)
  refine ⟨us, L, q1, fun t ht => ?_, q2, fun S hS hz => ?_⟩
  · obtain ⟨s', a, _, _, _, _, l, rfl⟩ := (q3 t ht).out
    exact kTok_kind s' a
  · unfold lexT
    rw [decide_eq_false (show ¬ 16384 < S.size by omega), cond_false]
    have := lex_join (S := S) (by omega) us (S.size + 1) 0 [] q3 ⟨by rw [hS]; omega, fun j hj => by rw [← hS, Nat.zero_add]⟩ (by omega) (by simpa using q2)
    rw [this]; rfl
end Go.Proofs.YtfijmdeanechfaaDoor.Lx
