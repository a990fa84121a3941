/- The reference's Lex: entry. -/
import Derived.Test.YtfijmdeanechfaaDoorLx21
namespace Go.Proofs.YtfijmdeanechfaaDoor.Lx
open Go Go.RowKit Go.Proofs.YtfijmdeanechfaaDoor.Eng
set_option linter.unusedVariables false
set_option linter.unusedSimpArgs false
theorem lexT_Q {s : ByteArray} (hle : s.size + 6 ≤ 9223372036854775807) (h : ¬ 16384 < s.size) : lexT s = lexQ s (s.size + 1) (skipE s 0) [] := by
  unfold lexT
  rw [decide_eq_false h, cond_false]
  have h6 := (skipP_ge s (s.size - 0) 0).1
  exact lex_eq hle (s.size + 1) (s.size + 1) 0 [] (Nat.zero_le _) (by omega) (by omega)
set_option maxRecDepth 100000 in
set_option maxHeartbeats 1000000 in
theorem e11 (O : Nat → Prop) (w0 : World) : Entry Tryd.prog O w0 11 (gLexR O w0) :=
  Entry.madeL Γ19_ok 100 5 (g := gLexR) (fun O w0 args M k hg β w hI => by
    unfold gLexR at hg
    split at hg
    case h_2 => exact hg.elim
    rename_i s
    obtain ⟨⟨hle⟩, hk0, hk1⟩ := hg
    refine ⟨[tV s], _, rfl, f11 _ w s (R11 s) _ ?_⟩
    refine cond_of (fun h => ?_) (fun h => ?_)
    · have h := of_decide_eq_true h
      have e : lexT s = ⟨[], 0, 5⟩ := by unfold lexT; rw [decide_eq_true (show 16384 < s.size by omega)]; rfl
      have := hk0 (by rw [e]; show (5 : Int) ≠ 0; decide)
      rw [e] at this
      exact genN this
    have h := of_decide_eq_false h
    have hs : s.size ≤ 16384 := by omega
    have sk : ∀ i, i ≤ s.size → i ≤ skipE s i ∧ skipE s i ≤ s.size := fun i hi => ⟨(skipP_ge s (s.size - i) i).1, (skipP_ge s (s.size - i) i).2 hi⟩
    have s0 := sk 0 (by omega)
    refine ⟨⟨by omega, by omega, by omega⟩, ⟨by omega⟩, fun _ _ => Nat.zero_le _, ⟨⟨by omega, by show ((skipE s 0 : Nat) : Int) ≤ _; omega, [], s.size + 1, LsX.nil _ _ _, Nat.zero_le _, by omega, by rw [lexT_Q hle (by omega)]; rfl⟩, rfl, fun _ => rfl⟩, ?_⟩
    rintro ⟨z, a, n, f⟩ J ⟨a0, a1, ts, m, hx, hn, hm, hR⟩
    obtain ⟨a, rfl⟩ : ∃ a' : Nat, a = a' := ⟨a.toNat, by omega⟩
    rw [Int.toNat_natCast] at hm hR
    obtain ⟨m, rfl⟩ : ∃ m', m = m' + 1 := ⟨m - 1, by omega⟩
    rw [show lexQ s (m + 1) a ts = bif decide (a < s.size) then
      (bif kSt s a then
        (bif Nat.beq ts.length 4000 then ⟨[], 1 + cnt s a, 9⟩ else
        bif kErr s a == 0 then lexQ s m (skipE s (kEnd s a)) (ts ++ [kTokL s a (1 + cnt s a)]) else ⟨[], 1 + cnt s a, kErr s a⟩)
      else ⟨[], 1 + cnt s a, 3⟩)
    else ⟨ts ++ [endT (1 + cnt s s.size)], 0, 0⟩ from rfl] at hR
    have hnl := hx.len
    dsimp only
    refine cond_of (fun h => ?_) (fun h => ?_)
    rotate_left
    · have h := of_decide_eq_false h
      rw [decide_eq_false (show ¬ a < s.size by omega), cond_false] at hR
      exact ⟨⟨by omega⟩, room_of (by omega) (by decide), gen1 (hx.push (endT (1 + cnt s s.size)) rfl) (hk1 (by rw [← hR]) _ ⟨by rw [← hR]⟩)⟩
    have h := of_decide_eq_true h
    have hlt : a < s.size := by omega
    have hin : In (a : Int) (s.size : Int) := ⟨by omega, by omega⟩
    rw [decide_eq_true hlt, cond_true] at hR
    rw [Int.toNat_natCast]
    have w1 : IntKind.i64.wrap ((a : Int) + 1) = ((a + 1 : Nat) : Int) := wrap_in (by omega) (by omega)
    rw [w1, Int.toNat_natCast]
    have hcut : Cut (a : Int) ((a + 1 : Nat) : Int) (s.size : Int) := ⟨by omega, by omega, by omega⟩
    have c45 : ∀ b, ((n : Int) == 4000) = b → Nat.beq ts.length 4000 = b := fun b hb => by
      cases b with
      | true =>
        have : (n : Int) = 4000 := by simpa using hb
        rw [show ts.length = 4000 by omega]; rfl
      | false =>
        have : ¬ (n : Int) = 4000 := by simpa using hb
        cases hc : Nat.beq ts.length 4000 with
        | false => rfl
        | true => have := Nat.eq_of_beq_eq_true hc; omega
    rw [show cnt (s.extract 0 a) (s.extract 0 a).size = cnt s a from cnt_pre s (by omega)]
    have nost : kSt s a = false → k (.tup [.c (.val (.slice none 0 0)), .c (.val (.int .i64 (1 + cnt s a))), .c (.val (.int .i64 3))]) M := fun hst => by
      rw [hst] at hR
      have := hk0 (by rw [← hR]; show (3 : Int) ≠ 0; decide)
      rw [← hR] at this
      exact this
    have full : ((n : Int) == 4000) = true → kSt s a = true → k (.tup [.c (.val (.slice none 0 0)), .c (.val (.int .i64 (1 + cnt s a))), .c (.val (.int .i64 9))]) M := fun c5 hst => by
      rw [c45 _ c5, hst] at hR
      have := hk0 (by rw [← hR]; show (9 : Int) ≠ 0; decide)
      rw [← hR] at this
      exact this
    have st : isDg (bAt s a) = true ∨ isLt (bAt s a) = true ∨ tS1 s a = true → kSt s a = true := fun h => by
      unfold kSt
      rcases h with h | h | h <;> simp [h]
    refine ⟨⟨by omega, by show (0 : Int) ≤ (a : Int); omega, by show (a : Int) ≤ _; omega⟩, ⟨by show (s.extract 0 a).size + 1 ≤ _; rw [ext_size s 0 a (by omega)]; omega⟩, hin, ?_⟩
    have nt : ∀ {b : Bool}, (!b) = true → b = false := fun h => by simpa using h
    have nf : ∀ {b : Bool}, (!b) = false → b = true := fun h => by simpa using h
    refine cond_of (fun d1 => ⟨hin, cond_of (fun d2 => ⟨hcut, trivial, cond_of (fun d3 => ?_) (fun d3 => cond_of (fun c5 => ?_) (fun c5 => ?_))⟩) (fun d2 => cond_of (fun c5 => ?_) (fun c5 => ?_))⟩) (fun d1 => cond_of (fun c5 => ?_) (fun c5 => ?_))
    · exact genN (nost (by unfold kSt; rw [nt d1, nt d2, show tS1 s a = false from nt d3]; rfl))
    · exact genN (full c5 (st (.inr (.inr (nf d3)))))
    rotate_left
    · exact genN (full c5 (st (.inr (.inl (nf d2)))))
    rotate_left
    · exact genN (full c5 (st (.inl (nf d1))))
    rotate_left
    all_goals
      have hst : kSt s a = true := by first | exact st (.inl (nf d1)) | exact st (.inr (.inl (nf d2))) | exact st (.inr (.inr (nf d3)))
      rw [c45 _ c5, hst, cond_true, cond_false] at hR
      refine ⟨hin, ⟨hle⟩, hst, fun he => ?_, fun he t e => ?_⟩
    rotate_left
    iterate 3
      · have he2 : (kErr s a != 0) = true := by simpa using he
        have he3 : (kErr s a == 0) = false := by simpa using he
        rw [he2, cond_true]
        rw [he3, cond_false] at hR
        have := hk0 (by rw [← hR]; exact he)
        rw [← hR] at this
        exact genN this
      try rotate_left
    all_goals
      rw [he] at hR
      have hl4 : ts.length ≠ 4000 := fun c => by
        have := c45 _ c5
        rw [c] at this; cases this
      have ht := tok_in hlt hle hst
      have h4 := ht.gt
      have h5 := ht.le
      have s1 := sk (kEnd s a) h5
      rw [Int.toNat_natCast]
      refine ⟨room_of (by omega) (by decide), ⟨by omega, by omega, by omega⟩, ⟨by omega⟩, ⟨⟨by omega, by show ((skipE s (kEnd s a) : Nat) : Int) ≤ _; omega, ts ++ [kTokL s a (1 + cnt s a)], m, hx.push (kTokL s a (1 + cnt s a)) rfl, by rw [List.length_append]; simp; omega, by rw [Int.toNat_natCast]; omega, hR⟩, rfl, fun _ => rfl⟩, ⟨by show (_ : Int).toNat < (_ : Int).toNat; omega⟩⟩) O w0
def Γ20 : TabF := addF (addF Γ19 9 gLex) 11 gLexR
theorem Γ20_ok : TSF Tryd.prog Γ20 := (Γ19_ok.add e9).add e11
end Go.Proofs.YtfijmdeanechfaaDoor.Lx
