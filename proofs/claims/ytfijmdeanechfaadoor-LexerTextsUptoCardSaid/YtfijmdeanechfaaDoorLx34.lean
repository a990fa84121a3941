/- The laws LexerTokens and LexerComments: that they are true. -/
import Derived.Test.YtfijmdeanechfaaDoorLx33
namespace Go.Proofs.YtfijmdeanechfaaDoor.Lx
open Go Go.RowKit Go.WideShapes Go.Proofs.YtfijmdeanechfaaDoor.Eng Go.Proofs.YtfijmdeanechfaaDoor.Opn
set_option linter.unusedVariables false
set_option linter.unusedSimpArgs false
theorem e9T (T : ByteArray → List Tok) (O : Nat → Prop) (w0 : World) : Entry Tryd.prog O w0 9 (gLexT T O w0) := fun hf args M k hg hm β w hI => by
  unfold gLexT at hg
  split at hg
  case h_2 => exact hg.elim
  rename_i s
  obtain ⟨hc, hG, h0, ht, hk⟩ := hg
  exact e9 O w0 hf [.v (.c (.val (.string s)))] M k ⟨hc, hG, fun h => absurd h0 h, fun _ ys hy => by rw [hy.eq, ← ht.eq]; exact hk⟩ hm β w hI
theorem e21X (X : ByteArray) (O : Nat → Prop) (w0 : World) : Entry Tryd.prog O w0 21 (gTxtX X O w0) := fun hf args M k hg hm β w hI => by
  unfold gTxtX at hg
  split at hg
  case h_2 => exact hg.elim
  rename_i a
  obtain ⟨ts, hT, hw, hX, hk⟩ := hg
  exact e21 O w0 hf [a] M k ⟨ts, hT, hw, fun S hS => by rw [hS, ← hX.eq]; exact hk⟩ hm β w hI
theorem ΓT_ok (T : ByteArray → List Tok) (X : ByteArray) : TSF Tryd.prog (ΓT T X) := (Γ23_ok.add (e9T T)).add (e21X X)
theorem ΓU_ok : TSF Tryd.prog ΓU := Γ23_ok.add e9N
theorem txs_all {us : List Tok} (h : ∀ t ∈ us, t.kind ≠ 5) (L : Int) : txs (us ++ [endT L]) = us.map (·.text) := by
  unfold txs
  rw [List.filter_append, List.filter_eq_self.2 (fun t ht => by simpa using h t ht)]
  simp [endT]
theorem wt_le {us : List Tok} {B : Nat} (h : ∀ t ∈ us, t.text.size ≤ B) : wtS (us.map (·.text)) ≤ us.length * (B + 1) := by
  induction us with
  | nil => exact Nat.zero_le _
  | cons t us ih =>
    have h1 := ih fun t ht => h t (by simp [ht])
    have h2 := h t (by simp)
    show t.text.size + 1 + wtS (us.map (·.text)) ≤ (us.length + 1) * (B + 1)
    rw [Nat.add_mul, Nat.one_mul]; omega
theorem lexP_small {s : ByteArray} (hle : s.size + 6 ≤ 9223372036854775807) : ∀ (n a : Nat) (l : Int) (ts : List Tok), a ≤ s.size → (∀ t ∈ ts, t.text.size ≤ s.size) → ∀ t ∈ (lexP s n a l ts).toks, t.text.size ≤ s.size := by
  intro n
  induction n with
  | zero => intro a l ts h1 h2 t ht; cases ht
  | succ n ih =>
    intro a l ts h1 h2
    rw [lexP_step]
    rcases Nat.lt_or_ge a s.size with hlt | hge
    · rw [decide_eq_false (show ¬ s.size ≤ a by omega), cond_false]
      cases c1 : bAt s (a : Int) == 10 with
      | true => exact ih _ _ _ (by omega) h2
      | false =>
        cases c2 : bAt s (a : Int) == 32 with
        | true => exact ih _ _ _ (by omega) h2
        | false =>
          cases c3 : bAt s (a : Int) == 9 with
          | true => exact ih _ _ _ (by omega) h2
          | false =>
            cases c4 : isCm s a with
            | true => exact ih _ _ _ (runE_le _ _ _ h1) h2
            | false =>
              cases c5 : Nat.beq ts.length 4000 && kSt s a with
              | true => intro t ht; cases ht
              | false =>
                cases c7 : kErr s a == 0 with
                | false => intro t ht; cases ht
                | true =>
                  have c8 : kSt s a = true := by
                    cases c : kSt s a with
                    | true => rfl
                    | false => rw [no_tok c] at c7; cases c7
                  have ht := tok_in hlt hle c8
                  refine ih _ _ _ ht.le fun t hm => ?_
                  rcases List.mem_append.1 hm with q | q
                  · exact h2 t q
                  · rw [List.mem_singleton.1 q]
                    show (kTok s a).text.size ≤ _
                    rw [ht.text, ext_size s a _ ht.le]
                    have := ht.le
                    omega
    · rw [decide_eq_true hge, cond_true]
      intro t ht
      rcases List.mem_append.1 ht with q | q
      · exact h2 t q
      · rw [List.mem_singleton.1 q]; exact Nat.zero_le _
theorem lexT_small {s : ByteArray} (hle : s.size + 6 ≤ 9223372036854775807) : ∀ t ∈ (lexT s).toks, t.text.size ≤ s.size := by
  unfold lexT
  cases decide (16384 < s.size) with
  | true => intro t ht; cases ht
  | false => exact lexP_small hle _ _ _ _ (Nat.zero_le _) (fun t ht => by cases ht)
set_option maxRecDepth 100000 in
theorem law8 {W : World} (hG : GlS 2 sgWords (fun _ => False) W) {v : Value} (q : ArgS v) : Calls Tryd.prog 8 #[v] W (fun e W' => e = .returned (.bool true) ∧ Below W.heap.size W W') := by
  obtain ⟨s, rfl, hs⟩ := q
  by_cases h0 : (lexT s).err = 0
  · obtain ⟨us, L, h1, h2, h3, h4⟩ := lex_tokens (s := s) (by omega) h0
    have hz : s.size ≤ 16384 := by
      rcases Nat.lt_or_ge 16384 s.size with c | c
      · unfold lexT at h0; rw [decide_eq_true c] at h0; exact absurd h0 (show ¬ (5 : Int) = 0 by decide)
      · exact c
    have htx := txs_all h2 L
    have hsm := lexT_small (s := s) (by omega)
    rw [h1] at hsm
    have hwt := wt_le (us := us) (B := s.size) fun t ht => hsm t (List.mem_append_left _ ht)
    have hw : TxtW (lexT s).toks := ⟨by
      rw [h1, htx]
      refine Nat.le_trans hwt (Nat.le_trans (Nat.mul_le_mul h3 (by omega : s.size + 1 ≤ 16385)) (by decide)), by rw [h1]; simp; omega⟩
    obtain ⟨X, hX⟩ : ∃ X, X = joinT (us.map (·.text)) := ⟨_, rfl⟩
    have h5 := h4 X hX
    refine law_of (ΓT_ok (fun s => (lexT s).toks) X _ W) (f := 8) (args := [tV s]) _ 100 5 (by decide) (f8o _ W s X (fun s => (lexT s).toks) _ ?_)
    refine ⟨⟨by omega⟩, hG, h0, ⟨rfl⟩, (lexT s).toks, .lst 0 rfl rfl, hw, ⟨by rw [hX, h1, htx]⟩, cond_of (fun _ => ⟨hG, rfl⟩) (fun hx => ?_)⟩
    have hx := of_decide_eq_false hx
    have h5 := h5 (by omega)
    have ht : (lexT X).toks = us.map at1 ++ [endT 1] := by rw [h5]
    rw [ht, h1]
    have hl : (us.map at1 ++ [endT 1]).length = (us ++ [endT L]).length := by simp
    have hlen : (us ++ [endT L]).length ≤ 4001 := by simp; omega
    rw [hl]
    refine ⟨⟨by omega⟩, hG, by rw [h5], ⟨ht.symm⟩, cond_of (fun h => by simp at h) (fun _ => ⟨fun _ _ => Nat.zero_le _, ⟨⟨by omega, by omega⟩, rfl, fun _ => rfl⟩, ?_⟩)⟩
    rintro ⟨i⟩ J ⟨i0, i1⟩
    obtain ⟨i, rfl⟩ : ∃ n : Nat, i = n := ⟨i.toNat, by omega⟩
    dsimp only
    rw [Int.toNat_natCast]
    refine cond_of (fun h => ?_) (fun _ => ⟨hG, rfl⟩)
    have h := of_decide_eq_true h
    have hin : In (i : Int) ((us ++ [endT L]).length : Int) := ⟨by omega, h⟩
    have hat : ((us.map at1 ++ [endT 1]).getD i z4) = at1 ((us ++ [endT L]).getD i z4) := by
      have : (us.map at1 ++ [endT 1]) = (us ++ [endT L]).map at1 := by simp [at1, endT]
      rw [this, List.getD_eq_getElem?_getD, List.getD_eq_getElem?_getD, List.getElem?_map, List.getElem?_eq_getElem (by omega)]; rfl
    rw [hat, wrap_in (by omega) (by omega)]
    exact ⟨hin, hin, cond_of (fun c => by simp [at1] at c) (fun _ => ⟨hin, hin, hin, hin, cond_of (fun c => by simp [at1] at c) (fun _ => ⟨hin, hin, hin, hin, cond_of (fun c => by simp [at1] at c) (fun _ => ⟨hin, hin, hin, hin, cond_of (fun c => by simp [at1] at c) (fun _ => ⟨⟨⟨by omega, by omega⟩, rfl, fun _ => rfl⟩, ⟨by show (_ : Int).toNat < (_ : Int).toNat; omega⟩⟩)⟩)⟩)⟩)⟩
  · refine law_of (ΓU_ok _ W) (f := 8) (args := [tV s]) _ 100 5 (by decide) (f8n _ W s _ ?_)
    refine ⟨⟨by omega⟩, hG, fun h => absurd h h0, ?_⟩
    rw [show ((lexT s).err != 0) = true by simpa using h0]
    exact ⟨hG, rfl⟩
set_option maxRecDepth 100000 in
theorem law4 {W : World} (hG : GlS 2 sgWords (fun _ => False) W) {v0 v1 v2 : Value} (q0 : ArgS v0) (q1 : ArgS v1) (q2 : ArgS v2) : Calls Tryd.prog 4 #[v0, v1, v2] W (fun e W' => e = .returned (.bool true) ∧ Below W.heap.size W W') := by
  obtain ⟨a, rfl, ha⟩ := q0
  obtain ⟨b, rfl, hb⟩ := q1
  obtain ⟨c, rfl, hc⟩ := q2
  have z1 : (ByteArray.mk #[(10 : UInt8)]).size = 1 := rfl
  have z3 : (ByteArray.mk #[(10 : UInt8), 47, 47]).size = 3 := rfl
  have hW : IntKind.i64.wrap (IntKind.i64.wrap ((a.size : Int) + (b.size : Int)) + (c.size : Int)) = (a.size : Int) + b.size + c.size := by
    rw [wrap_in (n := (a.size : Int) + b.size) (by omega) (by omega), wrap_in (by omega) (by omega)]
  -- the comment's loop
  have loop : ∀ i : Nat, (i : Int) < c.size → (bAt c i == 10) = false → (∀ j : Nat, (j : Int) < (i : Int) → bAt c j ≠ 10) → Fits (I4 a b c) (N1.mk (IntKind.i64.wrap ((i : Int) + 1))) ((I4 a b c).mem (N1.mk (IntKind.i64.wrap ((i : Int) + 1)))) ((I4 a b c).tmp (N1.mk (IntKind.i64.wrap ((i : Int) + 1)))) ∧ Dec (I4 a b c) (N1.mk (IntKind.i64.wrap ((i : Int) + 1))) (N1.mk i) := fun i hi hn hj => by
    rw [wrap_in (by omega) (by omega)]
    refine ⟨⟨⟨by omega, by omega, fun j h => ?_⟩, rfl, fun _ => rfl⟩, ⟨by show (_ : Int).toNat < (_ : Int).toNat; omega⟩⟩
    by_cases e : j = i
    · rw [e]; simpa using hn
    · exact hj j (by omega)
  by_cases hbig : (a.size : Int) + b.size + c.size > 8000
  · refine law_of (ΓU_ok _ W) (f := 4) (args := [tV a, tV b, tV c]) _ 100 5 (by decide) (f4n _ W a b c _ ?_)
    rw [hW, decide_eq_true hbig]
    exact ⟨hG, rfl⟩
  have hs1 : (a ++ ⟨#[10]⟩ ++ b).size = a.size + 1 + b.size := by rw [app_size, app_size, z1]
  have hs2 : (a ++ ⟨#[10, 47, 47]⟩ ++ c ++ ⟨#[10]⟩ ++ b).size = a.size + 3 + c.size + 1 + b.size := by rw [app_size, app_size, app_size, app_size, z1, z3]
  have same : (∀ j : Nat, (j : Int) < (c.size : Int) → bAt c j ≠ 10) → SameR (lexT (a ++ ⟨#[10]⟩ ++ b)) (lexT (a ++ ⟨#[10, 47, 47]⟩ ++ c ++ ⟨#[10]⟩ ++ b)) := fun hn => by
    have := lex_comment (A := a) (B := b) (c := c) (by omega) (fun j hj => hn j (by omega))
    rw [← ByteArray.append_assoc, ← ByteArray.append_assoc, ← ByteArray.append_assoc, ← ByteArray.append_assoc] at this
    exact this
  have nl : ∀ (i : Nat), ¬ (i : Int) < c.size → (i : Int) ≤ c.size → (∀ j : Nat, (j : Int) < (i : Int) → bAt c j ≠ 10) → ∀ j : Nat, (j : Int) < (c.size : Int) → bAt c j ≠ 10 := fun i h1 h2 h j hj => h j (by omega)
  by_cases h0 : (lexT (a ++ ⟨#[10]⟩ ++ b)).err = 0 ∧ (lexT (a ++ ⟨#[10, 47, 47]⟩ ++ c ++ ⟨#[10]⟩ ++ b)).err = 0
  · refine law_of (ΓT_ok (fun s => (lexT s).toks) ⟨#[]⟩ _ W) (f := 4) (args := [tV a, tV b, tV c]) _ 100 5 (by decide) (f4o _ W a b c ⟨#[]⟩ (fun s => (lexT s).toks) _ ?_)
    rw [hW, decide_eq_false hbig]
    refine ⟨fun _ _ => Nat.zero_le _, ⟨⟨by omega, by omega, fun j h => by omega⟩, rfl, fun _ => rfl⟩, ?_⟩
    rintro ⟨i⟩ J ⟨i0, i1, hj⟩
    obtain ⟨i, rfl⟩ : ∃ n : Nat, i = n := ⟨i.toNat, by omega⟩
    dsimp only
    refine cond_of (fun h => ⟨⟨by omega, of_decide_eq_true h⟩, cond_of (fun _ => ⟨hG, rfl⟩) (fun d => loop i (of_decide_eq_true h) d hj)⟩) (fun h => ?_)
    have h := of_decide_eq_false h
    have sm := same (nl i h i1 hj)
    obtain ⟨s1, e1⟩ : ∃ s, s = a ++ ⟨#[10]⟩ ++ b := ⟨_, rfl⟩
    obtain ⟨s2, e2⟩ : ∃ s, s = a ++ ⟨#[10, 47, 47]⟩ ++ c ++ ⟨#[10]⟩ ++ b := ⟨_, rfl⟩
    have hl1 := lexT_len s1
    have hl2 := lexT_len s2
    rw [← e1, ← e2] at sm h0
    rw [← e1] at hs1
    rw [← e2] at hs2
    rw [app_size a, app_size (a ++ _) c, app_size a, app_size (a ++ _ ++ c), app_size (a ++ _) c, app_size a, z1, z3, ← e1, ← e2]
    have hlen := map_len sm.toks
    have hg : ∀ m, m < (lexT s1).toks.length → noLn ((lexT s1).toks.getD m z4) = noLn ((lexT s2).toks.getD m z4) := fun m hm => by
      have : ((lexT s1).toks.map noLn)[m]? = ((lexT s2).toks.map noLn)[m]? := by rw [sm.toks]
      rw [List.getElem?_map, List.getElem?_map, List.getElem?_eq_getElem hm, List.getElem?_eq_getElem (by omega)] at this
      rw [List.getD_eq_getElem?_getD, List.getD_eq_getElem?_getD, List.getElem?_eq_getElem hm, List.getElem?_eq_getElem (by omega)]
      exact Option.some.inj this
    refine ⟨⟨by omega⟩, ⟨by omega⟩, ⟨by omega⟩, hG, h0.1, ⟨rfl⟩, ⟨by omega⟩, ⟨by omega⟩, ⟨by omega⟩, ⟨by omega⟩, ⟨by omega⟩, hG, h0.2, ⟨rfl⟩, cond_of (fun d => by rw [hlen] at d; simp at d) (fun _ => ⟨fun _ _ => Nat.zero_le _, ⟨⟨by omega, by omega⟩, rfl, fun _ => rfl⟩, ?_⟩)⟩
    rintro ⟨m⟩ J ⟨m0, m1⟩
    obtain ⟨m, rfl⟩ : ∃ n : Nat, m = n := ⟨m.toNat, by omega⟩
    dsimp only
    rw [Int.toNat_natCast]
    refine cond_of (fun h => ?_) (fun _ => ⟨hG, rfl⟩)
    have h := of_decide_eq_true h
    have hin1 : In (m : Int) ((lexT s1).toks.length : Int) := ⟨by omega, h⟩
    have hin2 : In (m : Int) ((lexT s2).toks.length : Int) := ⟨by omega, by omega⟩
    have hq := hg m (by omega)
    have k1 : ((lexT s1).toks.getD m z4).kind = ((lexT s2).toks.getD m z4).kind := (congrArg Tok.kind hq : (noLn _).kind = (noLn _).kind)
    have k2 : ((lexT s1).toks.getD m z4).text = ((lexT s2).toks.getD m z4).text := (congrArg Tok.text hq : (noLn _).text = (noLn _).text)
    have k3 : ((lexT s1).toks.getD m z4).value = ((lexT s2).toks.getD m z4).value := (congrArg Tok.value hq : (noLn _).value = (noLn _).value)
    rw [k1, k2, k3, wrap_in (by omega) (by omega)]
    exact ⟨hin1, hin1, hin2, hin2, cond_of (fun d => by simp at d) (fun _ => ⟨hin1, hin1, hin2, hin2, cond_of (fun d => by simp at d) (fun _ => ⟨hin1, hin1, hin2, hin2, cond_of (fun d => by simp at d) (fun _ => ⟨⟨⟨by omega, by omega⟩, rfl, fun _ => rfl⟩, ⟨by show (_ : Int).toNat < (_ : Int).toNat; omega⟩⟩)⟩)⟩)⟩
  · refine law_of (ΓU_ok _ W) (f := 4) (args := [tV a, tV b, tV c]) _ 100 5 (by decide) (f4n _ W a b c _ ?_)
    rw [hW, decide_eq_false hbig]
    refine ⟨fun _ _ => Nat.zero_le _, ⟨⟨by omega, by omega, fun j h => by omega⟩, rfl, fun _ => rfl⟩, ?_⟩
    rintro ⟨i⟩ J ⟨i0, i1, hj⟩
    obtain ⟨i, rfl⟩ : ∃ n : Nat, i = n := ⟨i.toNat, by omega⟩
    dsimp only
    refine cond_of (fun h => ⟨⟨by omega, of_decide_eq_true h⟩, cond_of (fun _ => ⟨hG, rfl⟩) (fun d => loop i (of_decide_eq_true h) d hj)⟩) (fun h => ?_)
    have h := of_decide_eq_false h
    have sm := same (nl i h i1 hj)
    obtain ⟨s1, e1⟩ : ∃ s, s = a ++ ⟨#[10]⟩ ++ b := ⟨_, rfl⟩
    obtain ⟨s2, e2⟩ : ∃ s, s = a ++ ⟨#[10, 47, 47]⟩ ++ c ++ ⟨#[10]⟩ ++ b := ⟨_, rfl⟩
    rw [← e1, ← e2] at sm h0
    rw [← e1] at hs1
    rw [← e2] at hs2
    rw [app_size a, app_size (a ++ _) c, app_size a, app_size (a ++ _ ++ c), app_size (a ++ _) c, app_size a, z1, z3, ← e1, ← e2]
    have n1 : (lexT s1).err ≠ 0 := fun h => h0 ⟨h, by rw [← sm.err]; exact h⟩
    have n2 : (lexT s2).err ≠ 0 := by rw [← sm.err]; exact n1
    refine ⟨⟨by omega⟩, ⟨by omega⟩, ⟨by omega⟩, hG, fun h => absurd h n1, ⟨by omega⟩, ⟨by omega⟩, ⟨by omega⟩, ⟨by omega⟩, ⟨by omega⟩, hG, fun h => absurd h n2, ?_⟩
    rw [sm.err, bne_self_eq_false]
    exact ⟨hG, rfl⟩
end Go.Proofs.YtfijmdeanechfaaDoor.Lx
