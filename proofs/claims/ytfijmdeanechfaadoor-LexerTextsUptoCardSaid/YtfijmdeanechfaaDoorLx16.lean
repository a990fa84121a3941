/- Token and the reference's token: entries. -/
import Derived.Test.YtfijmdeanechfaaDoorLx15
namespace Go.Proofs.YtfijmdeanechfaaDoor.Lx
open Go Go.RowKit Go.Proofs.YtfijmdeanechfaaDoor.Eng
set_option linter.unusedVariables false
set_option linter.unusedSimpArgs false
def tS2 (s : ByteArray) (a : Nat) : Bool := decide (a + 2 ≤ s.size) && hasW sgWords (s.extract a (a + 2))
def tS1 (s : ByteArray) (a : Nat) : Bool := hasW sgWords (s.extract a (a + 1))
def kEnd (s : ByteArray) (a : Nat) : Nat := bif isLt (bAt s a) then runE isWd s a else bif isDg (bAt s a) then nEnd s a else bif tS2 s a then a + 2 else a + 1
def kTok (s : ByteArray) (a : Nat) : Tok := bif isLt (bAt s a) then ⟨1, s.extract a (runE isWd s a), 0, 0⟩ else bif isDg (bAt s a) then nTok s a else bif tS2 s a then ⟨4, s.extract a (a + 2), 0, 0⟩ else ⟨4, s.extract a (a + 1), 0, 0⟩
def kSt (s : ByteArray) (a : Nat) : Bool := isLt (bAt s a) || (isDg (bAt s a) || tS1 s a)
def kErr (s : ByteArray) (a : Nat) : Int := bif isLt (bAt s a) then 0 else bif isDg (bAt s a) then nErr s a else bif tS2 s a || tS1 s a then 0 else 3
def gTk : EntF := fun O w0 args M k => match args with
  | [.v (.c (.val (.string s))), .v (.c (.val (.int .i64 a)))] => In a s.size ∧ Cat s.size 6 ∧ GlS 2 sgWords O w0 ∧
      (kErr s a.toNat = 0 → k (.tup [.agg (tokC (kTok s a.toNat)), .c (.val (.int .i64 0))]) M) ∧ (kErr s a.toNat ≠ 0 → ∀ t, k (.tup [.agg (tokC t), .c (.val (.int .i64 (kErr s a.toNat)))]) M)
  | _ => False
def gTkR : EntF := fun _ _ args M k => match args with
  | [.v (.c (.val (.string s))), .v (.c (.val (.int .i64 a)))] => In a s.size ∧ Cat s.size 6 ∧ kSt s a.toNat = true ∧
      (kErr s a.toNat = 0 → k (.tup [.agg (tokC (kTok s a.toNat)), .c (.val (.int .i64 (kEnd s a.toNat))), .c (.val (.int .i64 0))]) M) ∧ (kErr s a.toNat ≠ 0 → ∀ t e, k (.tup [.agg (tokC t), .c (.val (.int .i64 e)), .c (.val (.int .i64 (kErr s a.toNat)))]) M)
  | _ => False
theorem dg_lt {c : Int} (h : isDg c = true) : isLt c = false := by
  have := dg_ne h
  unfold isLt
  rw [decide_eq_false (show ¬ c ≥ 97 by omega), decide_eq_false (show ¬ c ≥ 65 by omega), show (c == 95) = false by simpa using (show c ≠ 95 by omega)]
  rfl
set_option maxRecDepth 100000 in
theorem tok_body {s : ByteArray} {n : Nat} (hlt : n < s.size) (hle : s.size + 6 ≤ 9223372036854775807) (K : SX → Prop) (w : World) (hG : GlS 2 sgWords (fun _ => False) w)
    (ok : kErr s n = 0 → K (.tup [.agg (tokC (kTok s n)), .c (.val (.int .i64 0))])) (bad : kErr s n ≠ 0 → ∀ t, K (.tup [.agg (tokC t), .c (.val (.int .i64 (kErr s n)))])) :
    evFn Tryd.prog (fun _ => False) w (Γ17 (fun _ => False) w) Λn 100 5 28 [tV s, iV n] [] (fun y _ => K y) := by
  refine f28 _ w s n K ?_
  have w2 : IntKind.i64.wrap ((n : Int) + 2) = ((n + 2 : Nat) : Int) := wrap_in (by omega) (by omega)
  have w1 : IntKind.i64.wrap ((n : Int) + 1) = ((n + 1 : Nat) : Int) := wrap_in (by omega) (by omega)
  rw [w1, w2, Int.toNat_natCast]
  have hr := runE_ge isWd s n
  have hr2 := runE_le isWd s n (by omega)
  unfold kErr kTok at ok
  unfold kErr at bad
  refine ⟨⟨by omega, by omega⟩, cond_of (fun c1 => ?_) (fun c1 => cond_of (fun c2 => ?_) (fun c2 => ?_))⟩
  · rw [c1] at ok
    exact ⟨⟨by omega, by omega, by omega⟩, ⟨by omega⟩, ⟨by show (0 : Int) ≤ (n : Int); omega, by show (n : Int) ≤ (runE isWd s n : Int); omega, by show (runE isWd s n : Int) ≤ _; omega⟩, ok rfl⟩
  · rw [c1, c2] at ok bad
    exact ⟨⟨by omega, by omega⟩, ⟨by omega⟩, c2, ok, bad⟩
  · rw [c1, c2] at ok bad
    have one : tS2 s n = false → Cut (n : Int) ((n + 1 : Nat) : Int) (s.size : Int) ∧ GlS 2 sgWords (fun _ => False) w ∧ bif hasW sgWords (s.extract n (n + 1)) then Cut (n : Int) ((n + 1 : Nat) : Int) (s.size : Int) ∧ K (.tup [.agg [.val (.int .i64 4), .val (.string (s.extract n (n + 1))), .val (.int .i64 0), .val (.int .i64 0)], .c (.val (.int .i64 0))]) else K (.tup [.agg [.val (.int .i64 0), .val (.string ⟨#[]⟩), .val (.int .i64 0), .val (.int .i64 0)], .c (.val (.int .i64 3))]) := fun h2 => by
      rw [h2] at ok bad
      refine ⟨⟨by omega, by omega, by omega⟩, hG, cond_of (fun c4 => ⟨⟨by omega, by omega, by omega⟩, ?_⟩) (fun c4 => ?_)⟩
      · rw [show tS1 s n = true from c4] at ok; exact ok rfl
      · rw [show tS1 s n = false from c4] at bad; exact bad (show (3 : Int) ≠ 0 by decide) ⟨0, ⟨#[]⟩, 0, 0⟩
    refine cond_of (fun c3 => ?_) (fun c3 => one ?_)
    · have c3' : n + 2 ≤ s.size := by have := of_decide_eq_true c3; omega
      refine ⟨⟨by show (0 : Int) ≤ (n : Int); omega, by show (n : Int) ≤ ((n + 2 : Nat) : Int); omega, by show ((n + 2 : Nat) : Int) ≤ _; omega⟩, hG, cond_of (fun c4 => ⟨⟨by show (0 : Int) ≤ (n : Int); omega, by show (n : Int) ≤ ((n + 2 : Nat) : Int); omega, by show ((n + 2 : Nat) : Int) ≤ _; omega⟩, ?_⟩) (fun c4 => one ?_)⟩
      · have h2 : tS2 s n = true := by unfold tS2; rw [decide_eq_true c3']; exact c4
        rw [h2] at ok; exact ok rfl
      · unfold tS2; rw [decide_eq_true c3']; exact c4
    · have c3' : ¬ n + 2 ≤ s.size := by have := of_decide_eq_false c3; omega
      unfold tS2; rw [decide_eq_false c3']; rfl
set_option maxRecDepth 100000 in
theorem tok_bodyR {s : ByteArray} {n : Nat} (hlt : n < s.size) (hle : s.size + 6 ≤ 9223372036854775807) (hst : kSt s n = true) (K : SX → Prop) (w : World)
    (ok : kErr s n = 0 → K (.tup [.agg (tokC (kTok s n)), .c (.val (.int .i64 (kEnd s n))), .c (.val (.int .i64 0))])) (bad : kErr s n ≠ 0 → ∀ t e, K (.tup [.agg (tokC t), .c (.val (.int .i64 e)), .c (.val (.int .i64 (kErr s n)))])) :
    evFn Tryd.prog (fun _ => False) w (Γ17 (fun _ => False) w) (Λof 32 (I32 s n)) 100 5 32 [tV s, iV n] [] (fun y _ => K y) := by
  refine f32 _ w s n K ?_
  have w2 : IntKind.i64.wrap ((n : Int) + 2) = ((n + 2 : Nat) : Int) := wrap_in (by omega) (by omega)
  have w1 : IntKind.i64.wrap ((n : Int) + 1) = ((n + 1 : Nat) : Int) := wrap_in (by omega) (by omega)
  rw [w1, w2, Int.toNat_natCast]
  have hr := runE_ge isWd s n
  have hr2 := runE_le isWd s n (by omega)
  unfold kErr kTok kEnd at ok
  unfold kErr at bad
  refine ⟨⟨by omega, by omega⟩, cond_of (fun c2 => ?_) (fun c2 => ⟨⟨by omega, by omega⟩, cond_of (fun c1 => ?_) (fun c1 => ?_)⟩)⟩
  · rw [dg_lt c2, c2] at ok bad
    exact ⟨⟨by omega, by omega⟩, ⟨by omega⟩, c2, ok, bad⟩
  · rw [c1] at ok
    refine ⟨fun _ _ => Nat.zero_le _, ⟨⟨by omega, by omega, rfl⟩, rfl, fun _ => rfl⟩, ?_⟩
    rintro ⟨i⟩ J ⟨q0, q1, q2⟩
    obtain ⟨m, rfl⟩ : ∃ m : Nat, i = m := ⟨i.toNat, by omega⟩
    rw [Int.toNat_natCast, Int.toNat_natCast] at q2
    dsimp only
    have stop : ¬ (m < s.size ∧ isWd (bAt s m) = true) → Cut (n : Int) (m : Int) (s.size : Int) ∧ K (.tup [.agg [.val (.int .i64 1), .val (.string (s.extract n m)), .val (.int .i64 0), .val (.int .i64 0)], .c (.val (.int .i64 m)), .c (.val (.int .i64 0))]) := fun h => by
      have e := runE_stop h
      rw [q2] at e
      rw [← e]
      exact ⟨⟨by omega, by omega, by omega⟩, ok rfl⟩
    have go : m < s.size → isWd (bAt s m) = true → Fits (I32 s n) (N1.mk (IntKind.i64.wrap ((m : Int) + 1))) ((I32 s n).mem (N1.mk (IntKind.i64.wrap ((m : Int) + 1)))) ((I32 s n).tmp (N1.mk (IntKind.i64.wrap ((m : Int) + 1)))) ∧ Dec (I32 s n) (N1.mk (IntKind.i64.wrap ((m : Int) + 1))) (N1.mk m) := fun hm hw => by
      rw [wrap_in (by omega) (by omega)]
      refine ⟨⟨⟨by omega, by omega, ?_⟩, rfl, fun _ => rfl⟩, ⟨by show (_ : Int).toNat < (_ : Int).toNat; omega⟩⟩
      rw [show ((m : Int) + 1).toNat = m + 1 by omega, ← runE_step hm hw, q2, Int.toNat_natCast]
    refine cond_of (fun h => ?_) (fun h => stop fun c => absurd (of_decide_eq_false h) (by omega))
    have h : m < s.size := by have := of_decide_eq_true h; omega
    refine ⟨⟨by omega, by omega⟩, cond_of (fun d1 => go h (by unfold isWd; rw [d1]; rfl)) (fun d1 => ⟨⟨by omega, by omega⟩, cond_of (fun d2 => go h (by unfold isWd; rw [d1, d2]; rfl)) (fun d2 => stop fun c => by unfold isWd at c; rw [d1, d2] at c; exact absurd c.2 (by decide))⟩)⟩
  · rw [c1, c2] at ok bad
    have h1 : tS1 s n = true := by unfold kSt at hst; rw [c1, c2] at hst; exact hst
    rw [h1, Bool.or_true] at ok bad
    have one : tS2 s n = false → Cut (n : Int) ((n + 1 : Nat) : Int) (s.size : Int) ∧ K (.tup [.agg [.val (.int .i64 4), .val (.string (s.extract n (n + 1))), .val (.int .i64 0), .val (.int .i64 0)], .c (.val (.int .i64 ((n + 1 : Nat) : Int))), .c (.val (.int .i64 0))]) := fun h2 => by
      rw [h2] at ok
      exact ⟨⟨by omega, by omega, by omega⟩, ok rfl⟩
    refine cond_of (fun c3 => ?_) (fun c3 => one ?_)
    · have c3' : n + 2 ≤ s.size := by have := of_decide_eq_true c3; omega
      refine ⟨⟨by show (0 : Int) ≤ (n : Int); omega, by show (n : Int) ≤ ((n + 2 : Nat) : Int); omega, by show ((n + 2 : Nat) : Int) ≤ _; omega⟩, trivial, cond_of (fun c4 => ⟨⟨by show (0 : Int) ≤ (n : Int); omega, by show (n : Int) ≤ ((n + 2 : Nat) : Int); omega, by show ((n + 2 : Nat) : Int) ≤ _; omega⟩, ?_⟩) (fun c4 => one ?_)⟩
      · have h2 : tS2 s n = true := by unfold tS2; rw [decide_eq_true c3']; exact c4
        rw [h2] at ok; exact ok rfl
      · unfold tS2; rw [decide_eq_true c3']; exact c4
    · have c3' : ¬ n + 2 ≤ s.size := by have := of_decide_eq_false c3; omega
      unfold tS2; rw [decide_eq_false c3']; rfl
set_option maxRecDepth 100000 in
theorem e28 (O : Nat → Prop) (w0 : World) : Entry Tryd.prog O w0 28 (gTk O w0) :=
  Entry.pureK Γ17_ok 100 5 (g := gTk) (fun O w0 args M k hg => by
    unfold gTk at hg
    split at hg
    case h_2 => exact hg.elim
    rename_i s a
    obtain ⟨⟨h0, h1⟩, ⟨h2⟩, hG, hk1, hk2⟩ := hg
    obtain ⟨n, rfl⟩ : ∃ n : Nat, a = n := ⟨a.toNat, by omega⟩
    exact ⟨_, fun _ => rfl, fun w hw => ⟨_, tok_body (by omega) h2 _ w (hG.at hw) (fun e => ⟨by unfold tokC; rfl, hk1 e⟩) (fun e t => ⟨rfl, hk2 e t⟩)⟩⟩) O w0
set_option maxRecDepth 100000 in
theorem e32 (O : Nat → Prop) (w0 : World) : Entry Tryd.prog O w0 32 (gTkR O w0) :=
  Entry.pureK Γ17_ok 100 5 (g := gTkR) (fun O w0 args M k hg => by
    unfold gTkR at hg
    split at hg
    case h_2 => exact hg.elim
    rename_i s a
    obtain ⟨⟨h0, h1⟩, ⟨h2⟩, h3, hk1, hk2⟩ := hg
    obtain ⟨n, rfl⟩ : ∃ n : Nat, a = n := ⟨a.toNat, by omega⟩
    exact ⟨_, fun _ => rfl, fun w hw => ⟨_, tok_bodyR (by omega) h2 h3 _ w (fun e => ⟨by unfold tokC; rfl, hk1 e⟩) (fun e t z => ⟨rfl, hk2 e t z⟩)⟩⟩) O w0
def Γ18 : TabF := addF (addF Γ17 28 gTk) 32 gTkR
theorem Γ18_ok : TSF Tryd.prog Γ18 := (Γ17_ok.add e28).add e32
end Go.Proofs.YtfijmdeanechfaaDoor.Lx
