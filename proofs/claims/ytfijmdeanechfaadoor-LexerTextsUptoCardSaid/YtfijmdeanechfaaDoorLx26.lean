/- The plain law of LexerLines; the law's condition. -/
import Derived.Test.YtfijmdeanechfaaDoorLx25
namespace Go.Proofs.YtfijmdeanechfaaDoor.Lx
open Go Go.RowKit Go.WideShapes Go.Proofs.YtfijmdeanechfaaDoor.Eng Go.Proofs.YtfijmdeanechfaaDoor.Opn
set_option linter.unusedVariables false
set_option linter.unusedSimpArgs false
/-- Lines that ascend, no end among them. -/
def Asc : Int → List Tok → Int → Prop
  | lo, [], hi => lo ≤ hi
  | lo, t :: us, hi => t.kind ≠ 5 ∧ lo ≤ t.line ∧ Asc t.line us hi
--HIDE
theorem Asc.lo {us : List Tok} : ∀ {lo lo' hi : Int}, lo' ≤ lo → Asc lo us hi → Asc lo' us hi := by
  cases us with
  | nil => intro lo lo' hi h h2; exact Int.le_trans h h2
  | cons t us => intro lo lo' hi h h2; exact ⟨h2.1, Int.le_trans h h2.2.1, h2.2.2⟩
theorem cnt_mono (s : ByteArray) {a b : Nat} (h : a ≤ b) : cnt s a ≤ cnt s b := by
  induction b with
  | zero => rw [show a = 0 by omega]; exact Int.le_refl _
  | succ b ih =>
    by_cases e : a = b + 1
    · rw [e]; exact Int.le_refl _
    · have h1 := ih (by omega)
      show cnt s a ≤ cnt s b + (bif _ then _ else _)
      cases bAt s (b : Int) == 10 <;> simp <;> omega
theorem kTok_kind (s : ByteArray) (a : Nat) : (kTok s a).kind ≠ 5 := by
  unfold kTok nTok
  cases isLt (bAt s (a : Int)) <;> cases isDg (bAt s (a : Int)) <;> cases tS2 s a <;> simp <;> split <;> simp
/-- What Lex returns. -/
structure LexOk (s : ByteArray) (l : Int) (ts : List Tok) (r : LexR) : Prop where
  ok : r.err = 0 → ∃ us, r.toks = ts ++ (us ++ [endT (1 + cnt s s.size)]) ∧ Asc l us (1 + cnt s s.size)
  no : r.err ≠ 0 → r.toks = [] ∧ l ≤ r.line ∧ r.line ≤ 1 + cnt s s.size
theorem LexOk.lo {s : ByteArray} {l l' : Int} {ts : List Tok} {r : LexR} (h : LexOk s l ts r) (hl : l' ≤ l) : LexOk s l' ts r :=
  ⟨fun e => by obtain ⟨us, h1, h2⟩ := h.ok e; exact ⟨us, h1, h2.lo hl⟩, fun e => by obtain ⟨h1, h2, h3⟩ := h.no e; exact ⟨h1, by omega, h3⟩⟩
theorem lexP_ok {s : ByteArray} (hle : s.size + 6 ≤ 9223372036854775807) : ∀ (n a : Nat) (ts : List Tok), a ≤ s.size → s.size + 1 ≤ n + a → LexOk s (1 + cnt s a) ts (lexP s n a (1 + cnt s a) ts) := by
  intro n
  induction n with
  | zero => intro a ts h1 h2; omega
  | succ n ih =>
    intro a ts h1 h2
    rw [lexP_step]
    have hcs := cnt_mono s h1
    rcases Nat.lt_or_ge a s.size with hlt | hge
    · rw [decide_eq_false (show ¬ s.size ≤ a by omega), cond_false]
      have hc1 := cnt_mono s (show a ≤ a + 1 by omega)
      cases c1 : bAt s (a : Int) == 10 with
      | true =>
        have ec : cnt s (a + 1) = cnt s a + 1 := by show cnt s a + (bif _ then _ else _) = _; rw [c1]; rfl
        rw [cond_true, show 1 + cnt s a + 1 = 1 + cnt s (a + 1) by omega]
        exact (ih (a + 1) ts (by omega) (by omega)).lo (by omega)
      | false =>
        rw [cond_false]
        have ec : cnt s (a + 1) = cnt s a := by show cnt s a + (bif _ then _ else _) = _; rw [c1]; exact Int.add_zero _
        cases c2 : bAt s (a : Int) == 32 with
        | true => rw [cond_true, ← ec]; exact ih (a + 1) ts (by omega) (by omega)
        | false =>
          rw [cond_false]
          cases c3 : bAt s (a : Int) == 9 with
          | true => rw [cond_true, ← ec]; exact ih (a + 1) ts (by omega) (by omega)
          | false =>
            rw [cond_false]
            cases c4 : isCm s a with
            | true =>
              obtain ⟨k1, k2, k3⟩ := (isCm_iff h1).1 c4
              have g := run_com hlt k2
              have ec : cnt s (runE noNl s a) = cnt s a := cnt_same (by omega) fun j q1 q2 => by
                have := (runE_in q1 q2).1
                unfold noNl at this
                simpa using this
              rw [cond_true, ← ec]
              exact ih _ ts (runE_le _ _ _ h1) (by omega)
            | false =>
              rw [cond_false]
              cases c5 : Nat.beq ts.length 4000 && kSt s a with
              | true => exact ⟨fun e => absurd e (by show ¬ (9 : Int) = 0; decide), fun _ => ⟨rfl, Int.le_refl _, by show 1 + cnt s a ≤ _; omega⟩⟩
              | false =>
                rw [cond_false]
                cases c7 : kErr s a == 0 with
                | false =>
                  have c7 : kErr s a ≠ 0 := by simpa using c7
                  exact ⟨fun e => absurd e c7, fun _ => ⟨rfl, Int.le_refl _, by show 1 + cnt s a ≤ _; omega⟩⟩
                | true =>
                  have c8 : kSt s a = true := by
                    cases c : kSt s a with
                    | true => rfl
                    | false => rw [no_tok c] at c7; cases c7
                  have ht := tok_in hlt hle c8
                  have h4 := ht.gt; have h5 := ht.le
                  have ec : cnt s (kEnd s a) = cnt s a := cnt_same (by omega) fun j q1 q2 => (ht.bytes j q1 q2).1
                  have := ih (kEnd s a) (ts ++ [kTokL s a (1 + cnt s a)]) h5 (by omega)
                  rw [ec] at this
                  rw [cond_true]
                  refine ⟨fun e => ?_, this.no⟩
                  obtain ⟨us, q1, q2⟩ := this.ok e
                  exact ⟨kTokL s a (1 + cnt s a) :: us, by rw [q1]; simp, kTok_kind s a, Int.le_refl _, q2⟩
    · have ea : a = s.size := by omega
      rw [decide_eq_true hge, cond_true, ea]
      exact ⟨fun _ => ⟨[], rfl, Int.le_refl _⟩, fun e => absurd rfl e⟩
theorem lexT_ok {s : ByteArray} (hle : s.size + 6 ≤ 9223372036854775807) (h : s.size ≤ 16384) : LexOk s 1 [] (lexT s) := by
  unfold lexT
  rw [decide_eq_false (show ¬ 16384 < s.size by omega), cond_false]
  exact lexP_ok hle (s.size + 1) 0 [] (Nat.zero_le _) (by omega)
--SHOW
/-- A list of tokens that ends in the one end, its lines ascending. -/
def AscE : Int → List Tok → Prop
  | _, [] => True
  | lo, [t] => lo ≤ t.line
  | lo, t :: us => t.kind ≠ 5 ∧ lo ≤ t.line ∧ AscE t.line us
--HIDE
theorem AscE.of {L : Int} : ∀ {us : List Tok} {lo : Int}, Asc lo us L → AscE lo (us ++ [endT L])
  | [], lo, h => h
  | [t], lo, h => ⟨h.1, h.2.1, h.2.2⟩
  | t :: u :: us, lo, h => ⟨h.1, h.2.1, AscE.of h.2.2⟩
theorem AscE.head {lo : Int} {t : Tok} {us : List Tok} (h : AscE lo (t :: us)) : lo ≤ t.line ∧ (us ≠ [] → t.kind ≠ 5) ∧ AscE t.line us := by
  cases us with
  | nil => exact ⟨h, fun c => absurd rfl c, trivial⟩
  | cons u us => exact ⟨h.2.1, fun _ => h.1, h.2.2⟩
--SHOW
def I5 (ts : List Tok) : LInv where
  σ := N2
  pre := fun ⟨i, last⟩ => 0 ≤ i ∧ i ≤ ts.length ∧ AscE last (ts.drop i.toNat)
  mem := fun _ => [tkL ts]
  tmp := fun ⟨i, last⟩ J => [jV (J 0), jV (J 1), jV (J 2), .v (.c (.lst 0)), jV (J 4), jV (J 5), iV last, jV (J 7), jV (J 8), jV (J 9), jV (J 10), jV (J 11), jV (J 12), jV (J 13), jV (J 14), jV (J 15), jV (J 16), jV (J 17), jV (J 18), jV (J 19), jV (J 20), jV (J 21), jV (J 22), jV (J 23), jV (J 24), jV (J 25), jV (J 26), jV (J 27), jV (J 28), jV (J 29), jV (J 30), jV (J 31), jV (J 32), jV (J 33), jV (J 34), jV (J 35), jV (J 36), jV (J 37), jV (J 38), jV (J 39), jV (J 40), jV (J 41), jV (J 42), jV (J 43), jV (J 44), jV (J 45), jV (J 46), jV (J 47), jV (J 48), jV (J 49), jV (J 50), jV (J 51), jV (J 52), jV (J 53), jV (J 54), jV (J 55), jV (J 56), jV (J 57), jV (J 58), jV (J 59), jV (J 60), jV (J 61), jV (J 62), jV (J 63), jV (J 64), jV (J 65), jV (J 66), jV (J 67), jV (J 68), jV (J 69), iV ts.length, iV i, jV (J 72), jV (J 73), jV (J 74), jV (J 75), jV (J 76), jV (J 77), jV (J 78), jV (J 79), jV (J 80), jV (J 81), jV (J 82), jV (J 83), jV (J 84), jV (J 85), jV (J 86), jV (J 87), jV (J 88), jV (J 89), jV (J 90), jV (J 91), jV (J 92), jV (J 93), jV (J 94), jV (J 95), jV (J 96), jV (J 97), jV (J 98), jV (J 99), jV (J 100), jV (J 101), jV (J 102)]
  read := fun _ ts => rI2 ts 71 6
  junk := [0, 1, 2, 4, 5, 7, 8, 9, 10, 11, 12, 13, 14, 15, 16, 17, 18, 19, 20, 21, 22, 23, 24, 25, 26, 27, 28, 29, 30, 31, 32, 33, 34, 35, 36, 37, 38, 39, 40, 41, 42, 43, 44, 45, 46, 47, 48, 49, 50, 51, 52, 53, 54, 55, 56, 57, 58, 59, 60, 61, 62, 63, 64, 65, 66, 67, 68, 69, 72, 73, 74, 75, 76, 77, 78, 79, 80, 81, 82, 83, 84, 85, 86, 87, 88, 89, 90, 91, 92, 93, 94, 95, 96, 97, 98, 99, 100, 101, 102]
  μ := fun ⟨i, _⟩ => (ts.length - i).toNat
def gLexO (ts : List Tok) : EntF := fun O w0 args M k => match args with
  | [.v (.c (.val (.string s)))] => Cat s.size 6 ∧ GlS 2 sgWords O w0 ∧ (lexT s).err = 0 ∧ LexIs s ts ∧ k (.tup [.c (.lst M.length), .c (.val (.int .i64 0)), .c (.val (.int .i64 0))]) (M ++ [tkL ts])
  | _ => False
def gLexN : EntF := fun O w0 args M k => match args with
  | [.v (.c (.val (.string s)))] => Cat s.size 6 ∧ GlS 2 sgWords O w0 ∧ (lexT s).err ≠ 0 ∧ k (.tup [.c (.val (.slice none 0 0)), .c (.val (.int .i64 (lexT s).line)), .c (.val (.int .i64 (lexT s).err))]) M
  | _ => False
def ΓO (ts : List Tok) : TabF := addF Γ21 9 (gLexO ts)
def ΓX : TabF := addF Γ21 9 gLexN
set_option maxHeartbeats 4000000 in
set_option maxRecDepth 100000 in
theorem f5o (O : Nat → Prop) (w0 : World) (s : ByteArray) (ts : List Tok) (K : SX → Prop) (h_ : Cat (ByteArray.size s) (6 : Nat) ∧ GlS (2 : Nat) sgWords O w0 ∧ LexR.err (lexT s) = (0 : Int) ∧ LexIs s ts ∧ bif (↑(List.length ts) : Int) == (0 : Int) then K (SX.v (SV.c (SC.val (Value.bool false)))) else In (IntKind.wrap IntKind.i64 ((↑(List.length ts) : Int) - (1 : Int))) (↑(List.length ts) : Int) ∧ In (↑(Int.toNat (IntKind.wrap IntKind.i64 ((↑(List.length ts) : Int) - (1 : Int)))) : Int) (↑(List.length ts) : Int) ∧ bif Tok.kind (List.getD ts (Int.toNat (IntKind.wrap IntKind.i64 ((↑(List.length ts) : Int) - (1 : Int)))) z4) != (5 : Int) then K (SX.v (SV.c (SC.val (Value.bool false)))) else (In (IntKind.wrap IntKind.i64 ((↑(List.length ts) : Int) - (1 : Int))) (↑(List.length ts) : Int) ∧ (In (↑(Int.toNat (IntKind.wrap IntKind.i64 ((↑(List.length ts) : Int) - (1 : Int)))) : Int) (↑(List.length ts) : Int) ∧ Cat (ByteArray.size s) (1 : Nat) ∧ bif Tok.line (List.getD ts (Int.toNat (IntKind.wrap IntKind.i64 ((↑(List.length ts) : Int) - (1 : Int)))) z4) != (1 : Int) + cnt s (ByteArray.size s) then K (SX.v (SV.c (SC.val (Value.bool false)))) else (∀ (s : N2), LInv.pre (I5 ts) s → Nat.le (0 : Nat) (List.length (LInv.mem (I5 ts) s))) ∧ Fits (I5 ts) (N2.mk (0 : Int) (1 : Int)) (LInv.mem (I5 ts) (N2.mk (0 : Int) (1 : Int))) (LInv.tmp (I5 ts) (N2.mk (0 : Int) (1 : Int))) ∧ ∀ (s : N2) (J : Nat → Value), LInv.pre (I5 ts) s → bif decide (s.1 < (↑(List.length ts) : Int)) then In s.1 (↑(List.length ts) : Int) ∧ In (↑(Int.toNat s.1) : Int) (↑(List.length ts) : Int) ∧ bif decide (Tok.line (List.getD ts (Int.toNat s.1) z4) < s.2) then K (SX.v (SV.c (SC.val (Value.bool false)))) else In s.1 (↑(List.length ts) : Int) ∧ In (↑(Int.toNat s.1) : Int) (↑(List.length ts) : Int) ∧ bif Tok.kind (List.getD ts (Int.toNat s.1) z4) == (5 : Int) then bif s.1 != IntKind.wrap IntKind.i64 ((↑(List.length ts) : Int) - (1 : Int)) then K (SX.v (SV.c (SC.val (Value.bool false)))) else In s.1 (↑(List.length ts) : Int) ∧ In (↑(Int.toNat s.1) : Int) (↑(List.length ts) : Int) ∧ Fits (I5 ts) (N2.mk (IntKind.wrap IntKind.i64 (s.1 + (1 : Int))) (Tok.line (List.getD ts (Int.toNat s.1) z4))) (LInv.mem (I5 ts) (N2.mk (IntKind.wrap IntKind.i64 (s.1 + (1 : Int))) (Tok.line (List.getD ts (Int.toNat s.1) z4)))) (LInv.tmp (I5 ts) (N2.mk (IntKind.wrap IntKind.i64 (s.1 + (1 : Int))) (Tok.line (List.getD ts (Int.toNat s.1) z4)))) ∧ Dec (I5 ts) (N2.mk (IntKind.wrap IntKind.i64 (s.1 + (1 : Int))) (Tok.line (List.getD ts (Int.toNat s.1) z4))) s else In s.1 (↑(List.length ts) : Int) ∧ In (↑(Int.toNat s.1) : Int) (↑(List.length ts) : Int) ∧ Fits (I5 ts) (N2.mk (IntKind.wrap IntKind.i64 (s.1 + (1 : Int))) (Tok.line (List.getD ts (Int.toNat s.1) z4))) (LInv.mem (I5 ts) (N2.mk (IntKind.wrap IntKind.i64 (s.1 + (1 : Int))) (Tok.line (List.getD ts (Int.toNat s.1) z4)))) (LInv.tmp (I5 ts) (N2.mk (IntKind.wrap IntKind.i64 (s.1 + (1 : Int))) (Tok.line (List.getD ts (Int.toNat s.1) z4)))) ∧ Dec (I5 ts) (N2.mk (IntKind.wrap IntKind.i64 (s.1 + (1 : Int))) (Tok.line (List.getD ts (Int.toNat s.1) z4))) s else GlS (2 : Nat) sgWords O w0 ∧ K (SX.v (SV.c (SC.val (Value.bool true))))) ∧ (Cat (ByteArray.size s) (1 : Nat) ∧ In (↑(Int.toNat (IntKind.wrap IntKind.i64 ((↑(List.length ts) : Int) - (1 : Int)))) : Int) (↑(List.length ts) : Int) ∧ bif Tok.line (List.getD ts (Int.toNat (IntKind.wrap IntKind.i64 ((↑(List.length ts) : Int) - (1 : Int)))) z4) != (1 : Int) + cnt s (ByteArray.size s) then K (SX.v (SV.c (SC.val (Value.bool false)))) else (∀ (s : N2), LInv.pre (I5 ts) s → Nat.le (0 : Nat) (List.length (LInv.mem (I5 ts) s))) ∧ Fits (I5 ts) (N2.mk (0 : Int) (1 : Int)) (LInv.mem (I5 ts) (N2.mk (0 : Int) (1 : Int))) (LInv.tmp (I5 ts) (N2.mk (0 : Int) (1 : Int))) ∧ ∀ (s : N2) (J : Nat → Value), LInv.pre (I5 ts) s → bif decide (s.1 < (↑(List.length ts) : Int)) then In s.1 (↑(List.length ts) : Int) ∧ In (↑(Int.toNat s.1) : Int) (↑(List.length ts) : Int) ∧ bif decide (Tok.line (List.getD ts (Int.toNat s.1) z4) < s.2) then K (SX.v (SV.c (SC.val (Value.bool false)))) else In s.1 (↑(List.length ts) : Int) ∧ In (↑(Int.toNat s.1) : Int) (↑(List.length ts) : Int) ∧ bif Tok.kind (List.getD ts (Int.toNat s.1) z4) == (5 : Int) then bif s.1 != IntKind.wrap IntKind.i64 ((↑(List.length ts) : Int) - (1 : Int)) then K (SX.v (SV.c (SC.val (Value.bool false)))) else In s.1 (↑(List.length ts) : Int) ∧ In (↑(Int.toNat s.1) : Int) (↑(List.length ts) : Int) ∧ Fits (I5 ts) (N2.mk (IntKind.wrap IntKind.i64 (s.1 + (1 : Int))) (Tok.line (List.getD ts (Int.toNat s.1) z4))) (LInv.mem (I5 ts) (N2.mk (IntKind.wrap IntKind.i64 (s.1 + (1 : Int))) (Tok.line (List.getD ts (Int.toNat s.1) z4)))) (LInv.tmp (I5 ts) (N2.mk (IntKind.wrap IntKind.i64 (s.1 + (1 : Int))) (Tok.line (List.getD ts (Int.toNat s.1) z4)))) ∧ Dec (I5 ts) (N2.mk (IntKind.wrap IntKind.i64 (s.1 + (1 : Int))) (Tok.line (List.getD ts (Int.toNat s.1) z4))) s else In s.1 (↑(List.length ts) : Int) ∧ In (↑(Int.toNat s.1) : Int) (↑(List.length ts) : Int) ∧ Fits (I5 ts) (N2.mk (IntKind.wrap IntKind.i64 (s.1 + (1 : Int))) (Tok.line (List.getD ts (Int.toNat s.1) z4))) (LInv.mem (I5 ts) (N2.mk (IntKind.wrap IntKind.i64 (s.1 + (1 : Int))) (Tok.line (List.getD ts (Int.toNat s.1) z4)))) (LInv.tmp (I5 ts) (N2.mk (IntKind.wrap IntKind.i64 (s.1 + (1 : Int))) (Tok.line (List.getD ts (Int.toNat s.1) z4)))) ∧ Dec (I5 ts) (N2.mk (IntKind.wrap IntKind.i64 (s.1 + (1 : Int))) (Tok.line (List.getD ts (Int.toNat s.1) z4))) s else GlS (2 : Nat) sgWords O w0 ∧ K (SX.v (SV.c (SC.val (Value.bool true))))) ∧ True) ∧ (Cat (ByteArray.size s) (1 : Nat) ∧ In (IntKind.wrap IntKind.i64 ((↑(List.length ts) : Int) - (1 : Int))) (↑(List.length ts) : Int) ∧ In (↑(Int.toNat (IntKind.wrap IntKind.i64 ((↑(List.length ts) : Int) - (1 : Int)))) : Int) (↑(List.length ts) : Int) ∧ bif Tok.line (List.getD ts (Int.toNat (IntKind.wrap IntKind.i64 ((↑(List.length ts) : Int) - (1 : Int)))) z4) != (1 : Int) + cnt s (ByteArray.size s) then K (SX.v (SV.c (SC.val (Value.bool false)))) else (∀ (s : N2), LInv.pre (I5 ts) s → Nat.le (0 : Nat) (List.length (LInv.mem (I5 ts) s))) ∧ Fits (I5 ts) (N2.mk (0 : Int) (1 : Int)) (LInv.mem (I5 ts) (N2.mk (0 : Int) (1 : Int))) (LInv.tmp (I5 ts) (N2.mk (0 : Int) (1 : Int))) ∧ ∀ (s : N2) (J : Nat → Value), LInv.pre (I5 ts) s → bif decide (s.1 < (↑(List.length ts) : Int)) then In s.1 (↑(List.length ts) : Int) ∧ In (↑(Int.toNat s.1) : Int) (↑(List.length ts) : Int) ∧ bif decide (Tok.line (List.getD ts (Int.toNat s.1) z4) < s.2) then K (SX.v (SV.c (SC.val (Value.bool false)))) else In s.1 (↑(List.length ts) : Int) ∧ In (↑(Int.toNat s.1) : Int) (↑(List.length ts) : Int) ∧ bif Tok.kind (List.getD ts (Int.toNat s.1) z4) == (5 : Int) then bif s.1 != IntKind.wrap IntKind.i64 ((↑(List.length ts) : Int) - (1 : Int)) then K (SX.v (SV.c (SC.val (Value.bool false)))) else In s.1 (↑(List.length ts) : Int) ∧ In (↑(Int.toNat s.1) : Int) (↑(List.length ts) : Int) ∧ Fits (I5 ts) (N2.mk (IntKind.wrap IntKind.i64 (s.1 + (1 : Int))) (Tok.line (List.getD ts (Int.toNat s.1) z4))) (LInv.mem (I5 ts) (N2.mk (IntKind.wrap IntKind.i64 (s.1 + (1 : Int))) (Tok.line (List.getD ts (Int.toNat s.1) z4)))) (LInv.tmp (I5 ts) (N2.mk (IntKind.wrap IntKind.i64 (s.1 + (1 : Int))) (Tok.line (List.getD ts (Int.toNat s.1) z4)))) ∧ Dec (I5 ts) (N2.mk (IntKind.wrap IntKind.i64 (s.1 + (1 : Int))) (Tok.line (List.getD ts (Int.toNat s.1) z4))) s else In s.1 (↑(List.length ts) : Int) ∧ In (↑(Int.toNat s.1) : Int) (↑(List.length ts) : Int) ∧ Fits (I5 ts) (N2.mk (IntKind.wrap IntKind.i64 (s.1 + (1 : Int))) (Tok.line (List.getD ts (Int.toNat s.1) z4))) (LInv.mem (I5 ts) (N2.mk (IntKind.wrap IntKind.i64 (s.1 + (1 : Int))) (Tok.line (List.getD ts (Int.toNat s.1) z4)))) (LInv.tmp (I5 ts) (N2.mk (IntKind.wrap IntKind.i64 (s.1 + (1 : Int))) (Tok.line (List.getD ts (Int.toNat s.1) z4)))) ∧ Dec (I5 ts) (N2.mk (IntKind.wrap IntKind.i64 (s.1 + (1 : Int))) (Tok.line (List.getD ts (Int.toNat s.1) z4))) s else GlS (2 : Nat) sgWords O w0 ∧ K (SX.v (SV.c (SC.val (Value.bool true))))) ∧ True) : evFn Tryd.prog O w0 (ΓO ts O w0) (Λof 5 (I5 ts)) 100 5 5 [tV s] [] (fun y _ => K y) := vc_of h_ (by kernel_rfl)
set_option maxHeartbeats 4000000 in
set_option maxRecDepth 100000 in
theorem f5n (O : Nat → Prop) (w0 : World) (s : ByteArray) (K : SX → Prop) (h_ : Cat (ByteArray.size s) (6 : Nat) ∧ GlS (2 : Nat) sgWords O w0 ∧ (LexR.err (lexT s) = (0 : Int) → False) ∧ bif LexR.err (lexT s) != (0 : Int) then bif decide (LexR.line (lexT s) ≥ (1 : Int)) then Cat (ByteArray.size s) (1 : Nat) ∧ bif decide (LexR.line (lexT s) ≤ (1 : Int) + cnt s (ByteArray.size s)) then GlS (2 : Nat) sgWords O w0 ∧ K (SX.v (SV.c (SC.val (Value.bool true)))) else bif LexR.err (lexT s) == (5 : Int) then bif LexR.line (lexT s) == (0 : Int) then GlS (2 : Nat) sgWords O w0 ∧ K (SX.v (SV.c (SC.val (Value.bool true)))) else K (SX.v (SV.c (SC.val (Value.bool false)))) else K (SX.v (SV.c (SC.val (Value.bool false)))) else bif LexR.err (lexT s) == (5 : Int) then bif LexR.line (lexT s) == (0 : Int) then GlS (2 : Nat) sgWords O w0 ∧ K (SX.v (SV.c (SC.val (Value.bool true)))) else K (SX.v (SV.c (SC.val (Value.bool false)))) else K (SX.v (SV.c (SC.val (Value.bool false)))) else K (SX.v (SV.c (SC.val (Value.bool false))))) : evFn Tryd.prog O w0 (ΓX O w0) Λn 100 5 5 [tV s] [] (fun y _ => K y) := vc_of h_ (by kernel_rfl)
end Go.Proofs.YtfijmdeanechfaaDoor.Lx
