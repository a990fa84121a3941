/- The law LexerLines: what its text comes to, and that it is true. -/
import Derived.Test.YtfijmdeanechfaaDoorLx26
namespace Go.Proofs.YtfijmdeanechfaaDoor.Lx
open Go Go.RowKit Go.WideShapes Go.Proofs.YtfijmdeanechfaaDoor.Eng Go.Proofs.YtfijmdeanechfaaDoor.Opn
set_option linter.unusedVariables false
set_option linter.unusedSimpArgs false
theorem e9O (ts : List Tok) (O : Nat → Prop) (w0 : World) : Entry Tryd.prog O w0 9 (gLexO ts O w0) := fun hf args M k hg hm β w hI => by
  unfold gLexO at hg
  split at hg
  case h_2 => exact hg.elim
  rename_i s
  obtain ⟨hc, hG, h0, ht, hk⟩ := hg
  exact e9 O w0 hf [.v (.c (.val (.string s)))] M k ⟨hc, hG, fun h => absurd h0 h, fun _ ys hy => by obtain rfl := hy.eq; obtain rfl := ht.eq; exact hk⟩ hm β w hI
theorem e9N (O : Nat → Prop) (w0 : World) : Entry Tryd.prog O w0 9 (gLexN O w0) := fun hf args M k hg hm β w hI => by
  unfold gLexN at hg
  split at hg
  case h_2 => exact hg.elim
  rename_i s
  obtain ⟨hc, hG, h0, hk⟩ := hg
  exact e9 O w0 hf [.v (.c (.val (.string s)))] M k ⟨hc, hG, fun _ => hk, fun h => absurd h h0⟩ hm β w hI
theorem ΓO_ok (ts : List Tok) : TSF Tryd.prog (ΓO ts) := Γ21_ok.add (e9O ts)
theorem ΓX_ok : TSF Tryd.prog ΓX := Γ21_ok.add e9N
theorem getD_drop {ts : List Tok} {i : Nat} (h : i < ts.length) : ts.drop i = ts.getD i z4 :: ts.drop (i + 1) := by
  rw [List.drop_eq_getElem_cons h, List.getD_eq_getElem?_getD, List.getElem?_eq_getElem h]; rfl
set_option maxRecDepth 100000 in
set_option maxHeartbeats 1000000 in
theorem law5 {W : World} (hG : GlS 2 sgWords (fun _ => False) W) {v : Value} (q : ArgS v) : Calls Tryd.prog 5 #[v] W (fun e W' => e = .returned (.bool true) ∧ Below W.heap.size W W') := by
  obtain ⟨s, rfl, hs⟩ := q
  have hlen := lexT_len s
  by_cases h0 : (lexT s).err = 0
  · generalize hts : (lexT s).toks = ts
    rw [hts] at hlen
    have h1 : s.size ≤ 16384 := by
      rcases Nat.lt_or_ge 16384 s.size with c | c
      · unfold lexT at h0; rw [decide_eq_true c] at h0; exact absurd h0 (show ¬ (5 : Int) = 0 by decide)
      · exact c
    obtain ⟨us, hus, hasc⟩ := (lexT_ok (by omega) h1).ok h0
    rw [hts, List.nil_append] at hus
    have hl : ts.length = us.length + 1 := by rw [hus]; simp
    have he := AscE.of hasc
    rw [← hus] at he
    have hlast : ts.getD us.length z4 = endT (1 + cnt s s.size) := by
      rw [hus, List.getD_eq_getElem?_getD, List.getElem?_append_right (Nat.le_refl _), Nat.sub_self]; rfl
    have hc := cnt_in s s.size
    have w1 : IntKind.i64.wrap ((ts.length : Int) - 1) = (us.length : Int) := by rw [wrap_in (by omega) (by omega)]; omega
    refine law_of (ΓO_ok ts _ W) (f := 5) (args := [tV s]) _ 100 5 (by decide) (f5o _ W s ts _ ?_)
    rw [w1, Int.toNat_natCast, hlast]
    have hin : In (us.length : Int) (ts.length : Int) := ⟨by omega, by omega⟩
    refine ⟨⟨by omega⟩, hG, h0, ⟨hts.symm⟩, cond_of (fun h => by have := eq_of_beq h; omega) (fun _ => ⟨hin, hin, cond_of (fun h => by simp [endT] at h) (fun _ => ⟨⟨hin, ⟨hin, ⟨by omega⟩, ?_⟩, ⟨⟨by omega⟩, hin, ?_⟩, trivial⟩, ⟨⟨by omega⟩, hin, hin, ?_⟩, trivial⟩)⟩)⟩
    all_goals
      refine cond_of (fun h => by simp [endT] at h) (fun _ => ⟨fun _ _ => Nat.zero_le _, ⟨⟨by omega, by omega, he⟩, rfl, fun _ => rfl⟩, ?_⟩)
      rintro ⟨i, last⟩ J ⟨i0, i1, ha⟩
      obtain ⟨i, rfl⟩ : ∃ m : Nat, i = m := ⟨i.toNat, by omega⟩
      rw [Int.toNat_natCast] at ha
      dsimp only
      rw [Int.toNat_natCast]
      refine cond_of (fun h => ?_) (fun _ => ⟨hG, rfl⟩)
      have h := of_decide_eq_true h
      have hi : In (i : Int) (ts.length : Int) := ⟨by omega, by omega⟩
      rw [getD_drop (by omega)] at ha
      obtain ⟨a1, a2, a3⟩ := ha.head
      rw [wrap_in (n := (i : Int) + 1) (by omega) (by omega)]
      have fin : Fits (I5 ts) (N2.mk ((i : Int) + 1) (ts.getD i z4).line) ((I5 ts).mem (N2.mk ((i : Int) + 1) (ts.getD i z4).line)) ((I5 ts).tmp (N2.mk ((i : Int) + 1) (ts.getD i z4).line)) ∧ Dec (I5 ts) (N2.mk ((i : Int) + 1) (ts.getD i z4).line) (N2.mk i last) :=
        ⟨⟨⟨by omega, by omega, by rw [show ((i : Int) + 1).toNat = i + 1 by omega]; exact a3⟩, rfl, fun _ => rfl⟩, ⟨by show (_ : Int).toNat < (_ : Int).toNat; omega⟩⟩
      refine ⟨hi, hi, cond_of (fun c => ?_) (fun _ => ⟨hi, hi, cond_of (fun c => cond_of (fun c2 => ?_) (fun _ => ⟨hi, hi, fin⟩)) (fun _ => ⟨hi, hi, fin⟩)⟩)⟩
      · have c : (ts.getD i z4).line < last := of_decide_eq_true c
        omega
      · have c : (ts.getD i z4).kind = 5 := by simpa using c
        have c2 : (i : Int) ≠ us.length := by simpa using c2
        exact absurd c (a2 fun hn => by
          have := congrArg List.length hn
          rw [List.length_drop] at this
          simp at this
          omega)
  · refine law_of (ΓX_ok _ W) (f := 5) (args := [tV s]) _ 100 5 (by decide) (f5n _ W s _ ?_)
    refine ⟨⟨by omega⟩, hG, fun h => absurd h h0, ?_⟩
    have hb : ((lexT s).err != 0) = true := by simpa using h0
    rw [hb, cond_true]
    rcases Nat.lt_or_ge 16384 s.size with c | c
    · have e : lexT s = ⟨[], 0, 5⟩ := by unfold lexT; rw [decide_eq_true c]; rfl
      rw [e]
      exact ⟨hG, rfl⟩
    · obtain ⟨_, q1, q2⟩ := (lexT_ok (by omega) c).no h0
      rw [decide_eq_true (show (lexT s).line ≥ 1 from q1), decide_eq_true q2]
      exact ⟨⟨by omega⟩, hG, rfl⟩
end Go.Proofs.YtfijmdeanechfaaDoor.Lx
