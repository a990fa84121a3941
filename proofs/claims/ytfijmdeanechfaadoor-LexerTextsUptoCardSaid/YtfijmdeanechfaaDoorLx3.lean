/- Contract of the reference's skip. -/
import Derived.Test.YtfijmdeanechfaaDoorLx2
namespace Go.Proofs.YtfijmdeanechfaaDoor.Lx
open Go Go.RowKit Go.Proofs.YtfijmdeanechfaaDoor.Eng
set_option linter.unusedVariables false
def isSp (c : Int) : Bool := c == 32 || (c == 9 || c == 10)
def skipP (s : ByteArray) : Nat → Nat → Nat
  | 0, i => i
  | n + 1, i => if i < s.size then (if isSp (bAt s i) then skipP s n (i + 1) else if bAt s i = 47 ∧ i + 1 < s.size ∧ bAt s ((i + 1 : Nat) : Int) = 47 then skipP s n (runE noNl s i) else i) else i
def skipE (s : ByteArray) (i : Nat) : Nat := skipP s (s.size - i) i
def I29 (s : ByteArray) (a : Nat) : LInv where
  σ := N1
  pre := fun ⟨i⟩ => 0 ≤ i ∧ i ≤ s.size ∧ skipE s i.toNat = skipE s a
  mem := fun _ => []
  tmp := fun ⟨i⟩ J => [tV s, iV i, undefX, undefX, iV 0, jV (J 5), jV (J 6), jV (J 7), jV (J 8), jV (J 9), jV (J 10), jV (J 11), jV (J 12), jV (J 13), jV (J 14), jV (J 15), jV (J 16), jV (J 17), jV (J 18), jV (J 19), jV (J 20), jV (J 21), jV (J 22), jV (J 23), jV (J 24), jV (J 25), jV (J 26), jV (J 27), jV (J 28), jV (J 29), jV (J 30), jV (J 31), jV (J 32), jV (J 33), jV (J 34), jV (J 35), jV (J 36), jV (J 37), jV (J 38), jV (J 39), jV (J 40), jV (J 41), jV (J 42), jV (J 43), jV (J 44), jV (J 45), jV (J 46), jV (J 47), jV (J 48), jV (J 49), jV (J 50), jV (J 51), jV (J 52), jV (J 53)]
  read := fun _ ts => rI ts 1
  junk := [5, 6, 7, 8, 9, 10, 11, 12, 13, 14, 15, 16, 17, 18, 19, 20, 21, 22, 23, 24, 25, 26, 27, 28, 29, 30, 31, 32, 33, 34, 35, 36, 37, 38, 39, 40, 41, 42, 43, 44, 45, 46, 47, 48, 49, 50, 51, 52, 53]
  μ := fun ⟨i⟩ => (s.size - i).toNat
def I29b (s : ByteArray) (a : Nat) (b : Int) : LInv where
  σ := N1
  pre := fun ⟨i⟩ => b ≤ i ∧ i ≤ s.size ∧ skipE s (runE noNl s i.toNat) = skipE s a
  mem := fun _ => []
  tmp := fun ⟨i⟩ J => [tV s, iV i, undefX, undefX, iV 0, jV (J 5), jV (J 6), jV (J 7), jV (J 8), jV (J 9), jV (J 10), jV (J 11), jV (J 12), jV (J 13), jV (J 14), jV (J 15), jV (J 16), jV (J 17), jV (J 18), jV (J 19), jV (J 20), jV (J 21), jV (J 22), jV (J 23), jV (J 24), jV (J 25), jV (J 26), jV (J 27), jV (J 28), jV (J 29), jV (J 30), jV (J 31), jV (J 32), jV (J 33), jV (J 34), jV (J 35), jV (J 36), jV (J 37), jV (J 38), jV (J 39), jV (J 40), jV (J 41), jV (J 42), jV (J 43), jV (J 44), jV (J 45), jV (J 46), jV (J 47), jV (J 48), jV (J 49), jV (J 50), jV (J 51), jV (J 52), jV (J 53)]
  read := fun _ ts => rI ts 1
  junk := [5, 6, 7, 8, 9, 10, 11, 12, 13, 14, 15, 16, 17, 18, 19, 20, 21, 22, 23, 24, 25, 26, 27, 28, 29, 30, 31, 32, 33, 34, 35, 36, 37, 38, 39, 40, 41, 42, 43, 44, 45, 46, 47, 48, 49, 50, 51, 52, 53]
  μ := fun ⟨i⟩ => (s.size - i).toNat
def Λ29 (s : ByteArray) (a : Nat) : LT := fun g r => bif Nat.beq g 29 then (bif Nat.beq r 1 then some (I29 s a) else bif Nat.beq r 6 then some (.fam [1] fun l => I29b s a (l.getD 0 0)) else none) else none
set_option maxHeartbeats 4000000 in
set_option maxRecDepth 100000 in
theorem f29 (O : Nat → Prop) (w0 : World) (s : ByteArray) (a : Nat) (K : SX → Prop) (h_ : (∀ (s_1 : N1), LInv.pre (I29 s a) s_1 → Nat.le (0 : Nat) (List.length (LInv.mem (I29 s a) s_1))) ∧ Fits (I29 s a) (N1.mk (↑a : Int)) (LInv.mem (I29 s a) (N1.mk (↑a : Int))) (LInv.tmp (I29 s a) (N1.mk (↑a : Int))) ∧ ∀ (s_1 : N1) (J : Nat → Value), LInv.pre (I29 s a) s_1 → bif decide (s_1.1 < (↑(ByteArray.size s) : Int)) then In s_1.1 (↑(ByteArray.size s) : Int) ∧ bif bAt s s_1.1 == (32 : Int) then Fits (I29 s a) (N1.mk (IntKind.wrap IntKind.i64 (s_1.1 + (1 : Int)))) (LInv.mem (I29 s a) (N1.mk (IntKind.wrap IntKind.i64 (s_1.1 + (1 : Int))))) (LInv.tmp (I29 s a) (N1.mk (IntKind.wrap IntKind.i64 (s_1.1 + (1 : Int))))) ∧ Dec (I29 s a) (N1.mk (IntKind.wrap IntKind.i64 (s_1.1 + (1 : Int)))) s_1 else bif bAt s s_1.1 == (9 : Int) then Fits (I29 s a) (N1.mk (IntKind.wrap IntKind.i64 (s_1.1 + (1 : Int)))) (LInv.mem (I29 s a) (N1.mk (IntKind.wrap IntKind.i64 (s_1.1 + (1 : Int))))) (LInv.tmp (I29 s a) (N1.mk (IntKind.wrap IntKind.i64 (s_1.1 + (1 : Int))))) ∧ Dec (I29 s a) (N1.mk (IntKind.wrap IntKind.i64 (s_1.1 + (1 : Int)))) s_1 else bif bAt s s_1.1 == (10 : Int) then Fits (I29 s a) (N1.mk (IntKind.wrap IntKind.i64 (s_1.1 + (1 : Int)))) (LInv.mem (I29 s a) (N1.mk (IntKind.wrap IntKind.i64 (s_1.1 + (1 : Int))))) (LInv.tmp (I29 s a) (N1.mk (IntKind.wrap IntKind.i64 (s_1.1 + (1 : Int))))) ∧ Dec (I29 s a) (N1.mk (IntKind.wrap IntKind.i64 (s_1.1 + (1 : Int)))) s_1 else bif bAt s s_1.1 == (47 : Int) then bif decide (IntKind.wrap IntKind.i64 (s_1.1 + (1 : Int)) < (↑(ByteArray.size s) : Int)) then In (IntKind.wrap IntKind.i64 (s_1.1 + (1 : Int))) (↑(ByteArray.size s) : Int) ∧ bif bAt s (IntKind.wrap IntKind.i64 (s_1.1 + (1 : Int))) == (47 : Int) then (∀ (s_2 : N1), LInv.pre ((fun l ↦ I29b s a (List.getD l (0 : Nat) (0 : Int))) [s_1.1]) s_2 → Nat.le (0 : Nat) (List.length (LInv.mem ((fun l ↦ I29b s a (List.getD l (0 : Nat) (0 : Int))) [s_1.1]) s_2))) ∧ Fits ((fun l ↦ I29b s a (List.getD l (0 : Nat) (0 : Int))) [s_1.1]) (N1.mk s_1.1) (LInv.mem ((fun l ↦ I29b s a (List.getD l (0 : Nat) (0 : Int))) [s_1.1]) (N1.mk s_1.1)) (LInv.tmp ((fun l ↦ I29b s a (List.getD l (0 : Nat) (0 : Int))) [s_1.1]) (N1.mk s_1.1)) ∧ ∀ (s_2 : N1) (J : Nat → Value), LInv.pre ((fun l ↦ I29b s a (List.getD l (0 : Nat) (0 : Int))) [s_1.1]) s_2 → bif decide (s_2.1 < (↑(ByteArray.size s) : Int)) then In s_2.1 (↑(ByteArray.size s) : Int) ∧ bif bAt s s_2.1 != (10 : Int) then Fits ((fun l ↦ I29b s a (List.getD l (0 : Nat) (0 : Int))) [s_1.1]) (N1.mk (IntKind.wrap IntKind.i64 (s_2.1 + (1 : Int)))) (LInv.mem ((fun l ↦ I29b s a (List.getD l (0 : Nat) (0 : Int))) [s_1.1]) (N1.mk (IntKind.wrap IntKind.i64 (s_2.1 + (1 : Int))))) (LInv.tmp ((fun l ↦ I29b s a (List.getD l (0 : Nat) (0 : Int))) [s_1.1]) (N1.mk (IntKind.wrap IntKind.i64 (s_2.1 + (1 : Int))))) ∧ Dec ((fun l ↦ I29b s a (List.getD l (0 : Nat) (0 : Int))) [s_1.1]) (N1.mk (IntKind.wrap IntKind.i64 (s_2.1 + (1 : Int)))) s_2 else Fits (I29 s a) (N1.mk s_2.1) (LInv.mem (I29 s a) (N1.mk s_2.1)) (LInv.tmp (I29 s a) (N1.mk s_2.1)) ∧ Dec (I29 s a) (N1.mk s_2.1) s_1 else Fits (I29 s a) (N1.mk s_2.1) (LInv.mem (I29 s a) (N1.mk s_2.1)) (LInv.tmp (I29 s a) (N1.mk s_2.1)) ∧ Dec (I29 s a) (N1.mk s_2.1) s_1 else K (SX.v (SV.c (SC.val (Value.int IntKind.i64 s_1.1)))) else K (SX.v (SV.c (SC.val (Value.int IntKind.i64 s_1.1)))) else K (SX.v (SV.c (SC.val (Value.int IntKind.i64 s_1.1)))) else K (SX.v (SV.c (SC.val (Value.int IntKind.i64 s_1.1))))) : evFn Tryd.prog O w0 (Γ2 O w0) (Λ29 s a) 100 5 29 [tV s, iV a] [] (fun y _ => K y) := vc_of h_ (by kernel_rfl)
def gSkip : EntF := fun _ _ args M k => match args with
  | [.v (.c (.val (.string s))), .v (.c (.val (.int .i64 a)))] => Cut 0 a s.size ∧ Cat s.size 0 ∧ k (iV (skipE s a.toNat)) M
  | _ => False
def Γ4 : TabF := addF Γ3 29 gSkip
--HIDE
theorem skipP_one (s : ByteArray) (n i : Nat) : skipP s (n + 1) i = if i < s.size then (if isSp (bAt s i) then skipP s n (i + 1) else if bAt s i = 47 ∧ i + 1 < s.size ∧ bAt s ((i + 1 : Nat) : Int) = 47 then skipP s n (runE noNl s i) else i) else i := rfl
theorem run_com {s : ByteArray} {i : Nat} (h : i < s.size) (hc : bAt s i = 47) : i + 1 ≤ runE noNl s i := by
  rw [runE_step h (by rw [hc]; rfl)]; exact runE_ge _ _ _
theorem skipP_fuel (s : ByteArray) : ∀ n m i, s.size - i ≤ n → s.size - i ≤ m → skipP s n i = skipP s m i := by
  intro n
  induction n with
  | zero =>
    intro m i h _
    cases m with
    | zero => rfl
    | succ m => rw [skipP_one, if_neg (by omega)]; rfl
  | succ n ih =>
    intro m i h h2
    cases m with
    | zero => rw [skipP_one, if_neg (by omega)]; rfl
    | succ m =>
      rw [skipP_one, skipP_one]
      split
      · rename_i hi
        split
        · exact ih _ _ (by omega) (by omega)
        · split
          · rename_i hc
            have := run_com hi hc.1
            exact ih _ _ (by omega) (by omega)
          · rfl
      · rfl
theorem skipE_eq (s : ByteArray) (i : Nat) : skipE s i = if i < s.size then (if isSp (bAt s i) then skipE s (i + 1) else if bAt s i = 47 ∧ i + 1 < s.size ∧ bAt s ((i + 1 : Nat) : Int) = 47 then skipE s (runE noNl s i) else i) else i := by
  by_cases h : i < s.size
  · rw [if_pos h]
    unfold skipE
    obtain ⟨n, hn⟩ : ∃ n, s.size - i = n + 1 := ⟨s.size - i - 1, by omega⟩
    rw [hn, skipP_one, if_pos h]
    split
    · exact skipP_fuel s _ _ _ (by omega) (by omega)
    · split
      · rename_i hc
        have := run_com h hc.1
        exact skipP_fuel s _ _ _ (by omega) (by omega)
      · rfl
  · rw [if_neg h]
    unfold skipE
    rw [show s.size - i = 0 by omega]
    rfl
theorem skipP_ge (s : ByteArray) : ∀ n i, i ≤ skipP s n i ∧ (i ≤ s.size → skipP s n i ≤ s.size)
  | 0, i => ⟨Nat.le_refl _, id⟩
  | n + 1, i => by
    rw [skipP_one]
    split
    · split
      · have := skipP_ge s n (i + 1); exact ⟨by omega, fun _ => this.2 (by omega)⟩
      · split
        · have := skipP_ge s n (runE noNl s i); have h2 := runE_ge noNl s i; exact ⟨by omega, fun h => this.2 (runE_le _ _ _ h)⟩
        · exact ⟨Nat.le_refl _, id⟩
    · exact ⟨Nat.le_refl _, id⟩
theorem e29 (O : Nat → Prop) (w0 : World) : Entry Tryd.prog O w0 29 (gSkip O w0) :=
  Entry.pure Γ2_ok 100 5 (g := gSkip) (fun O w0 args M k hg => by
    unfold gSkip at hg
    split at hg
    case h_2 => exact hg.elim
    rename_i s a
    obtain ⟨⟨h0, h1, h2⟩, ⟨hs⟩, hk⟩ := hg
    obtain ⟨n, rfl⟩ : ∃ n : Nat, a = n := ⟨a.toNat, by omega⟩
    have hn : ((n : Int)).toNat = n := by omega
    refine ⟨_, _, rfl, hk, fun _ => rfl, fun w hw => ⟨_, f29 _ w s n _ ⟨fun _ _ => Nat.zero_le _, ⟨⟨by omega, by omega, by rw [hn]⟩, rfl, fun _ => rfl⟩, ?_⟩⟩⟩
    rintro ⟨i⟩ J ⟨g0, g1, g2⟩
    have hi : ((i.toNat : Nat) : Int) = i := by omega
    have hi1 : ((i.toNat + 1 : Nat) : Int) = i + 1 := by omega
    have e := skipE_eq s i.toNat
    rw [hi] at e
    dsimp only
    refine cond_of (fun h => ?_) (fun h => ?_)
    rotate_left
    · have h : ¬ i < s.size := by simpa using h
      rw [if_neg (by omega)] at e
      rw [hn, ← g2, e, hi]
    have h : i < s.size := by simpa using h
    rw [if_pos (by omega)] at e
    rw [wrap_in (by omega) (by omega)]
    have sp : isSp (bAt s i) = true → Fits (I29 s n) (N1.mk (i + 1)) ((I29 s n).mem (N1.mk (i + 1))) ((I29 s n).tmp (N1.mk (i + 1))) ∧ Dec (I29 s n) (N1.mk (i + 1)) (N1.mk i) := fun hc => by
      rw [if_pos hc] at e
      refine ⟨⟨⟨by omega, by omega, ?_⟩, rfl, fun _ => rfl⟩, ⟨by show (_ : Int).toNat < (_ : Int).toNat; omega⟩⟩
      rw [show (i + 1).toNat = i.toNat + 1 by omega, ← e, g2]
    refine ⟨⟨g0, h⟩, cond_of (fun hc => sp (by unfold isSp; rw [hc]; rfl)) (fun hc1 => cond_of (fun hc => sp (by unfold isSp; rw [hc]; simp)) (fun hc2 => cond_of (fun hc => sp (by unfold isSp; rw [hc]; simp)) (fun hc3 => ?_)))⟩
    rw [if_neg (by unfold isSp; rw [hc1, hc2, hc3]; decide)] at e
    have stop : ¬ (bAt s i = 47 ∧ i.toNat + 1 < s.size ∧ bAt s ((i.toNat + 1 : Nat) : Int) = 47) → iV i = iV (skipE s (n : Int).toNat) := fun hc => by
      rw [if_neg hc] at e
      rw [hn, ← g2, e, hi]
    refine cond_of (fun q1 => ?_) (fun q1 => stop fun c => by simp at q1; exact q1 c.1)
    have q1 : bAt s i = 47 := by simpa using q1
    refine cond_of (fun q2 => ?_) (fun q2 => stop fun c => by simp at q2; omega)
    have q2 : i + 1 < s.size := by simpa using q2
    refine ⟨⟨by omega, q2⟩, cond_of (fun q3 => ?_) (fun q3 => stop fun c => by rw [hi1] at c; simp at q3; exact q3 c.2.2)⟩
    have q3 : bAt s (i + 1) = 47 := by simpa using q3
    rw [if_pos ⟨q1, by omega, by rw [hi1]; exact q3⟩] at e
    refine ⟨fun _ _ => Nat.zero_le _, ⟨⟨Int.le_refl _, by omega, by rw [← e, g2]⟩, rfl, fun _ => rfl⟩, ?_⟩
    rintro ⟨m⟩ J2 ⟨b0, b1, b2⟩
    have b0 : i ≤ m := b0
    dsimp only
    have hm : ((m.toNat : Nat) : Int) = m := by omega
    have out : ¬ (m.toNat < s.size ∧ noNl (bAt s m) = true) → Fits (I29 s n) (N1.mk m) ((I29 s n).mem (N1.mk m)) ((I29 s n).tmp (N1.mk m)) ∧ Dec (I29 s n) (N1.mk m) (N1.mk i) := fun hc => by
      rw [runE_stop (by rw [hm]; exact hc)] at b2
      have : m ≠ i := fun c => hc (by rw [c]; exact ⟨by omega, by rw [q1]; rfl⟩)
      exact ⟨⟨⟨by omega, b1, b2⟩, rfl, fun _ => rfl⟩, ⟨by show (_ : Int).toNat < (_ : Int).toNat; omega⟩⟩
    refine cond_of (fun r1 => ?_) (fun r1 => out fun c => by simp at r1; omega)
    have r1 : m < s.size := by simpa using r1
    refine ⟨⟨by omega, r1⟩, cond_of (fun r2 => ?_) (fun r2 => out fun c => by unfold noNl at c; rw [r2] at c; exact absurd c.2 (by decide))⟩
    rw [wrap_in (by omega) (by omega)]
    refine ⟨⟨⟨by show i ≤ m + 1; omega, by omega, ?_⟩, rfl, fun _ => rfl⟩, ⟨by show (_ : Int).toNat < (_ : Int).toNat; omega⟩⟩
    rw [show (m + 1).toNat = m.toNat + 1 by omega, ← runE_step (by omega) (by rw [hm]; exact r2), b2]) O w0
theorem Γ4_ok : TSF Tryd.prog Γ4 := Γ3_ok.add e29
--SHOW
end Go.Proofs.YtfijmdeanechfaaDoor.Lx
