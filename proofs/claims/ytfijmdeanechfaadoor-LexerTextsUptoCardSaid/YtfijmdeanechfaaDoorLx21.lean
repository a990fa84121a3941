/- Lex and the reference's Lex: entries. -/
import Derived.Test.YtfijmdeanechfaaDoorLx20
namespace Go.Proofs.YtfijmdeanechfaaDoor.Lx
open Go Go.RowKit Go.Proofs.YtfijmdeanechfaaDoor.Eng
set_option linter.unusedVariables false
set_option linter.unusedSimpArgs false
/-- The list that a list's elements are. -/
structure LsX {α : Type} (enc : α → List SC) (d : α) (n : Nat) (f : Nat → List SC) (xs : List α) : Prop where
  len : n = xs.length
  at_ : ∀ j, j < n → f j = enc (xs.getD j d)
theorem LsX.nil {α : Type} (enc : α → List SC) (d : α) (f : Nat → List SC) : LsX enc d 0 f [] := ⟨rfl, fun j hj => absurd hj (Nat.not_lt_zero j)⟩
theorem LsX.push {α : Type} {enc : α → List SC} {d : α} {n : Nat} {f : Nat → List SC} {xs : List α} (h : LsX enc d n f xs) (x : α) {g : Nat → List SC} (hg : g = fun j => bif Nat.blt j n then f j else enc x) : LsX enc d (n + 1) g (xs ++ [x]) := by
  subst hg
  refine ⟨by rw [List.length_append, h.len]; rfl, fun j hj => ?_⟩
  by_cases hjn : j < n
  · have e : Nat.blt j n = true := by simpa using hjn
    simp only [e, cond_true]
    rw [h.at_ j hjn]
    congr 1
    rw [List.getD_eq_getElem?_getD, List.getD_eq_getElem?_getD, List.getElem?_append_left (by rw [← h.len]; exact hjn)]
  · have e : Nat.blt j n = false := by
      cases hb : Nat.blt j n with
      | false => rfl
      | true => exact absurd (by simpa using hb) hjn
    simp only [e, cond_false]
    have e2 : j = xs.length := by have := h.len; omega
    rw [List.getD_eq_getElem?_getD, List.getElem?_append_right (by omega), e2, Nat.sub_self]
    rfl
theorem room_of {n b : Nat} (h : n ≤ 100000) (hb : b ≤ 1000) : Room n b := by
  refine ⟨Nat.le_trans (Nat.mul_le_mul (by omega : n + n / 4 + 192 ≤ 200000) hb) (by decide)⟩
def tkL (ts : List Tok) : Blk := .lst 33 4 ts.length (fun j => tokC (ts.getD j z4))
structure LexIs (s : ByteArray) (ts : List Tok) : Prop where
  eq : ts = (lexT s).toks
def gLexW (s : ByteArray) (M : List Blk) (k : SX → List Blk → Prop) : Prop :=
  ((lexT s).err ≠ 0 → k (.tup [.c (.val (.slice none 0 0)), .c (.val (.int .i64 (lexT s).line)), .c (.val (.int .i64 (lexT s).err))]) M) ∧
  ((lexT s).err = 0 → ∀ ts, LexIs s ts → k (.tup [.c (.lst M.length), .c (.val (.int .i64 0)), .c (.val (.int .i64 0))]) (M ++ [tkL ts]))
def gLex : EntF := fun O w0 args M k => match args with
  | [.v (.c (.val (.string s)))] => Cat s.size 6 ∧ GlS 2 sgWords O w0 ∧ gLexW s M k
  | _ => False
def gLexR : EntF := fun O w0 args M k => match args with
  | [.v (.c (.val (.string s)))] => Cat s.size 6 ∧ gLexW s M k
  | _ => False
theorem gen1 {M : List Blk} {k : SX → List Blk → Prop} {n : Nat} {f : Nat → List SC} {a b : Blk} {ts : List Tok} (hx : LsX tokC z4 n f ts) (hk : k (.tup [.c (.lst M.length), .c (.val (.int .i64 0)), .c (.val (.int .i64 0))]) (M ++ [tkL ts])) :
    ∃ K N N' y', noDup K = true ∧ renM K [a, b, .lst 33 4 n f] = some N ∧ LEq N N' ∧ renX K (.tup [.c (.lst 2), .c (.val (.int .i64 0)), .c (.val (.int .i64 0))]) = some y' ∧ k (shX M.length y') (M ++ N'.map (shB M.length)) := by
  obtain ⟨hn, hf⟩ := hx
  subst hn
  exact ⟨[.at_ 2], _, [tkL ts], _, rfl, rfl, ⟨⟨_, rfl, hf⟩, trivial⟩, rfl, hk⟩
theorem genN {M : List Blk} {k : SX → List Blk → Prop} {M0 : List Blk} {l e : Int} (hk : k (.tup [.c (.val (.slice none 0 0)), .c (.val (.int .i64 l)), .c (.val (.int .i64 e))]) M) :
    ∃ K N N' y', noDup K = true ∧ renM K M0 = some N ∧ LEq N N' ∧ renX K (.tup [.c (.val (.slice none 0 0)), .c (.val (.int .i64 l)), .c (.val (.int .i64 e))]) = some y' ∧ k (shX M.length y') (M ++ N'.map (shB M.length)) :=
  ⟨[], [], [], _, rfl, rfl, trivial, rfl, by rw [List.map_nil, List.append_nil]; exact hk⟩
def R9 (s : ByteArray) : T9 → Prop := fun ⟨l, a, n, f⟩ => 0 ≤ a ∧ a ≤ s.size ∧ 1 ≤ l ∧ l ≤ a + 1 ∧ ∃ ts m, LsX tokC z4 n f ts ∧ ts.length ≤ 4000 ∧ s.size + 1 ≤ m + a.toNat ∧ lexP s m a.toNat l ts = lexT s
def R11 (s : ByteArray) : T9 → Prop := fun ⟨_, a, n, f⟩ => 0 ≤ a ∧ a ≤ s.size ∧ ∃ ts m, LsX tokC z4 n f ts ∧ ts.length ≤ 4000 ∧ s.size + 1 ≤ m + a.toNat ∧ lexQ s m a.toNat ts = lexT s
set_option maxRecDepth 100000 in
set_option maxHeartbeats 1000000 in
theorem e9 (O : Nat → Prop) (w0 : World) : Entry Tryd.prog O w0 9 (gLex O w0) :=
  Entry.madeL Γ19_ok 100 5 (g := gLex) (fun O w0 args M k hg β w hI => by
    unfold gLex at hg
    split at hg
    case h_2 => exact hg.elim
    rename_i s
    obtain ⟨⟨hle⟩, hG, hk0, hk1⟩ := hg
    have hG := hG.at hI.fr
    refine ⟨[tV s], _, rfl, f9 _ w s (R9 s) _ ?_⟩
    refine cond_of (fun h => ?_) (fun h => ?_)
    · have h := of_decide_eq_true h
      have e : lexT s = ⟨[], 0, 5⟩ := by unfold lexT; rw [decide_eq_true (show 16384 < s.size by omega)]; rfl
      have := hk0 (by rw [e]; show (5 : Int) ≠ 0; decide)
      rw [e] at this
      exact genN this
    have h := of_decide_eq_false h
    have hs : s.size ≤ 16384 := by omega
    refine ⟨fun _ _ => Nat.zero_le _, ⟨⟨by omega, by omega, by omega, by omega, [], s.size + 1, LsX.nil _ _ _, Nat.zero_le _, by omega, by unfold lexT; rw [decide_eq_false (show ¬ 16384 < s.size by omega)]; rfl⟩, rfl, fun _ => rfl⟩, ?_⟩
    rintro ⟨l, a, n, f⟩ J ⟨a0, a1, l0, l1, ts, m, hx, hn, hm, hR⟩
    obtain ⟨a, rfl⟩ : ∃ a' : Nat, a = a' := ⟨a.toNat, by omega⟩
    rw [Int.toNat_natCast] at hm hR
    obtain ⟨m, rfl⟩ : ∃ m', m = m' + 1 := ⟨m - 1, by omega⟩
    rw [lexP_step] at hR
    have hnl := hx.len
    dsimp only
    refine cond_of (fun h => ?_) (fun h => ?_)
    · have h := of_decide_eq_true h
      rw [decide_eq_true (show s.size ≤ a by omega), cond_true] at hR
      refine ⟨room_of (by omega) (by decide), gen1 (hx.push (endT l) rfl) (hk1 (by rw [← hR]) _ ⟨by rw [← hR]⟩)⟩
    have h := of_decide_eq_false h
    have hlt : a < s.size := by omega
    have hin : In (a : Int) (s.size : Int) := ⟨by omega, by omega⟩
    rw [decide_eq_false (show ¬ s.size ≤ a by omega), cond_false] at hR
    rw [Int.toNat_natCast]
    have w1 : IntKind.i64.wrap ((a : Int) + 1) = ((a + 1 : Nat) : Int) := wrap_in (by omega) (by omega)
    have wl : IntKind.i64.wrap (l + 1) = l + 1 := wrap_in (by omega) (by omega)
    rw [w1, wl, Int.toNat_natCast]
    refine ⟨hin, cond_of (fun c1 => ?_) (fun c1 => ⟨hin, cond_of (fun c2 => ?_) (fun c2 => ⟨hin, cond_of (fun c3 => ?_) (fun c3 => ?_)⟩)⟩)⟩
    · rw [c1] at hR
      exact ⟨⟨⟨by omega, by omega, by omega, by omega, ts, m, hx, hn, by omega, hR⟩, rfl, fun _ => rfl⟩, ⟨by show (_ : Int).toNat < (_ : Int).toNat; omega⟩⟩
    · rw [c1, c2] at hR
      exact ⟨⟨⟨by omega, by omega, by omega, by omega, ts, m, hx, hn, by omega, hR⟩, rfl, fun _ => rfl⟩, ⟨by show (_ : Int).toNat < (_ : Int).toNat; omega⟩⟩
    · rw [c1, c2, c3] at hR
      exact ⟨⟨⟨by omega, by omega, by omega, by omega, ts, m, hx, hn, by omega, hR⟩, rfl, fun _ => rfl⟩, ⟨by show (_ : Int).toNat < (_ : Int).toNat; omega⟩⟩
    rw [c1, c2, c3, cond_false, cond_false, cond_false] at hR
    refine ⟨⟨by show (0 : Int) ≤ (a : Int); omega, by show (a : Int) ≤ (s.size : Int); omega, by show (s.size : Int) ≤ _; omega⟩, cond_of (fun c4 => ?_) (fun c4 => ?_)⟩
    · have c4 : isCm s a = true := c4
      rw [c4, cond_true] at hR
      have g := run_com hlt ((isCm_iff (by omega)).1 c4).2.1
      have g2 := runE_le noNl s a (by omega)
      exact ⟨⟨by omega, by omega, by omega⟩, ⟨by omega⟩, ⟨⟨by omega, by omega, by omega, by omega, ts, m, hx, hn, by rw [Int.toNat_natCast]; omega, hR⟩, rfl, fun _ => rfl⟩, ⟨by show (_ : Int).toNat < (_ : Int).toNat; omega⟩⟩
    have c4 : isCm s a = false := c4
    rw [c4, cond_false] at hR
    refine ⟨hin, ?_⟩
    have hcut : Cut (a : Int) ((a + 1 : Nat) : Int) (s.size : Int) := ⟨by omega, by omega, by omega⟩
    have c45 : ∀ b, ((n : Int) == 4000) = b → Nat.beq ts.length 4000 = b := fun b hb => by
      cases b with
      | true =>
        have : (n : Int) = 4000 := by simpa using hb
        rw [show ts.length = 4000 by omega]; rfl
      | false =>
        have : ¬ (n : Int) = 4000 := by simpa using hb
        cases hc : Nat.beq ts.length 4000 with
        | false => rfl
        | true => have := Nat.eq_of_beq_eq_true hc; omega
    have full : ((n : Int) == 4000) = true → kSt s a = true → k (.tup [.c (.val (.slice none 0 0)), .c (.val (.int .i64 l)), .c (.val (.int .i64 9))]) M := fun c5 hst => by
      rw [c45 _ c5, hst] at hR
      have := hk0 (by rw [← hR]; show (9 : Int) ≠ 0; decide)
      rw [← hR] at this
      exact this
    refine cond_of (fun c5 => cond_of (fun d1 => genN (full c5 (by unfold kSt; rw [d1]; rfl))) (fun d1 => cond_of (fun d2 => genN (full c5 (by unfold kSt; rw [d2, Bool.true_or, Bool.or_true]))) (fun d2 => ⟨hcut, hG, cond_of (fun d3 => genN (full c5 (by unfold kSt; rw [show tS1 s a = true from d3, Bool.or_true, Bool.or_true]))) (fun d3 => ?_)⟩))) (fun c5 => ?_)
    all_goals
      have hf : (Nat.beq ts.length 4000 && kSt s a) = false := by first | (rw [c45 _ c5]; rfl) | (unfold kSt; rw [d1, d2, show tS1 s a = false from d3]; exact Bool.and_false _)
      rw [hf, cond_false] at hR
      refine ⟨hin, ⟨hle⟩, hG, fun he => ?_, fun he t => ?_⟩
    rotate_left
    iterate 2
      · have he2 : (kErr s a != 0) = true := by simpa using he
        have he3 : (kErr s a == 0) = false := by simpa using he
        rw [he2, cond_true]
        rw [he3, cond_false] at hR
        have := hk0 (by rw [← hR]; exact he)
        rw [← hR] at this
        exact genN this
      try rotate_left
    all_goals
      rw [he] at hR
      have hst : kSt s a = true := by
        cases c : kSt s a with
        | true => rfl
        | false => rw [no_tok c] at he; cases he
      have hl4 : ts.length ≠ 4000 := fun c => by
        rw [c, hst] at hf; cases hf
      have ht := tok_in hlt hle hst
      have h4 := ht.gt
      have h5 := ht.le
      rw [ht.text, ext_size s a (kEnd s a) h5]
      have wk : IntKind.i64.wrap ((a : Int) + ((kEnd s a - a : Nat) : Int)) = ((kEnd s a : Nat) : Int) := by rw [wrap_in (by omega) (by omega)]; omega
      rw [wk]
      refine ⟨room_of (by omega) (by decide), ⟨⟨by omega, by omega, by omega, by omega, ts ++ [kTokL s a l], m, hx.push (kTokL s a l) (by unfold tokC kTokL; rw [ht.text]), by rw [List.length_append]; simp; omega, by rw [Int.toNat_natCast]; omega, hR⟩, rfl, fun _ => rfl⟩, ⟨by show (_ : Int).toNat < (_ : Int).toNat; omega⟩⟩) O w0
end Go.Proofs.YtfijmdeanechfaaDoor.Lx
