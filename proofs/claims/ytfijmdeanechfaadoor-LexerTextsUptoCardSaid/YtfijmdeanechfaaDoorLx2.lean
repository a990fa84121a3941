/- Contracts of the scanning loops of the package lexer and its reference: run, digits, skip. -/
import Derived.Test.YtfijmdeanechfaaDoorLx1
namespace Go.Proofs.YtfijmdeanechfaaDoor.Lx
open Go Go.RowKit Go.Proofs.YtfijmdeanechfaaDoor.Eng
set_option linter.unusedVariables false
/-- The index behind the bytes that p takes from i on. -/
def runP (p : Int → Bool) (s : ByteArray) : Nat → Nat → Nat
  | 0, i => i
  | n + 1, i => if i < s.size ∧ p (bAt s i) = true then runP p s n (i + 1) else i
def runE (p : Int → Bool) (s : ByteArray) (i : Nat) : Nat := runP p s (s.size - i) i
theorem runE_step {p : Int → Bool} {s : ByteArray} {i : Nat} (h : i < s.size) (hp : p (bAt s i) = true) : runE p s i = runE p s (i + 1) := by
  unfold runE
  obtain ⟨n, hn⟩ : ∃ n, s.size - i = n + 1 := ⟨s.size - i - 1, by omega⟩
  rw [hn, show s.size - (i + 1) = n by omega]
  show (if _ then _ else _) = _
  rw [if_pos ⟨h, hp⟩]
theorem runE_stop {p : Int → Bool} {s : ByteArray} {i : Nat} (h : ¬ (i < s.size ∧ p (bAt s i) = true)) : runE p s i = i := by
  unfold runE
  cases s.size - i with
  | zero => rfl
  | succ n => show (if _ then _ else _) = _; rw [if_neg h]
theorem runP_ge (p : Int → Bool) (s : ByteArray) : ∀ n i, i ≤ runP p s n i ∧ (i ≤ s.size → runP p s n i ≤ s.size)
  | 0, i => ⟨Nat.le_refl _, id⟩
  | n + 1, i => by
    show i ≤ (if _ then _ else _) ∧ (_ → (if _ then _ else _) ≤ _)
    split
    · rename_i h; have := runP_ge p s n (i + 1); exact ⟨by omega, fun _ => this.2 (by omega)⟩
    · exact ⟨Nat.le_refl _, id⟩
theorem runE_ge (p : Int → Bool) (s : ByteArray) (i : Nat) : i ≤ runE p s i := (runP_ge p s _ i).1
theorem runE_le (p : Int → Bool) (s : ByteArray) (i : Nat) (h : i ≤ s.size) : runE p s i ≤ s.size := (runP_ge p s _ i).2 h
def I24 (p : Int → Bool) (s : ByteArray) (a : Nat) (f : Nat) : LInv where
  σ := N1
  pre := fun ⟨i⟩ => 0 ≤ i ∧ i ≤ s.size ∧ runE p s i.toNat = runE p s a
  mem := fun _ => []
  tmp := fun ⟨i⟩ J => [tV s, iV i, fV f, undefX, undefX, undefX, iV 0, jV (J 7), jV (J 8), jV (J 9), jV (J 10), jV (J 11), jV (J 12), jV (J 13), jV (J 14), jV (J 15), jV (J 16), jV (J 17), jV (J 18), jV (J 19), jV (J 20)]
  read := fun _ ts => rI ts 1
  junk := [7, 8, 9, 10, 11, 12, 13, 14, 15, 16, 17, 18, 19, 20]
  μ := fun ⟨i⟩ => (s.size - i).toNat
def I48 (s : ByteArray) (a : Nat) : LInv where
  σ := N1
  pre := fun ⟨i⟩ => 0 ≤ i ∧ i ≤ s.size ∧ runE isDg s i.toNat = runE isDg s a
  mem := fun _ => []
  tmp := fun ⟨i⟩ J => [tV s, iV i, undefX, undefX, iV 0, jV (J 5), jV (J 6), jV (J 7), jV (J 8), jV (J 9), jV (J 10), jV (J 11), jV (J 12), jV (J 13), jV (J 14), jV (J 15), jV (J 16), jV (J 17)]
  read := fun _ ts => rI ts 1
  junk := [5, 6, 7, 8, 9, 10, 11, 12, 13, 14, 15, 16, 17]
  μ := fun ⟨i⟩ => (s.size - i).toNat
set_option maxHeartbeats 4000000 in
set_option maxRecDepth 100000 in
theorem f24a (O : Nat → Prop) (w0 : World) (p : Int → Bool) (s : ByteArray) (a : Nat) (K : SX → Prop) (h_ : (∀ (s_1 : N1), LInv.pre (I24 p s a (25 : Nat)) s_1 → Nat.le (0 : Nat) (List.length (LInv.mem (I24 p s a (25 : Nat)) s_1))) ∧ Fits (I24 p s a (25 : Nat)) (N1.mk (↑a : Int)) (LInv.mem (I24 p s a (25 : Nat)) (N1.mk (↑a : Int))) (LInv.tmp (I24 p s a (25 : Nat)) (N1.mk (↑a : Int))) ∧ ∀ (s_1 : N1) (J : Nat → Value), LInv.pre (I24 p s a (25 : Nat)) s_1 → bif decide (s_1.1 < (↑(ByteArray.size s) : Int)) then In s_1.1 (↑(ByteArray.size s) : Int) ∧ bif noNl (bAt s s_1.1) then Fits (I24 p s a (25 : Nat)) (N1.mk (IntKind.wrap IntKind.i64 (s_1.1 + (1 : Int)))) (LInv.mem (I24 p s a (25 : Nat)) (N1.mk (IntKind.wrap IntKind.i64 (s_1.1 + (1 : Int))))) (LInv.tmp (I24 p s a (25 : Nat)) (N1.mk (IntKind.wrap IntKind.i64 (s_1.1 + (1 : Int))))) ∧ Dec (I24 p s a (25 : Nat)) (N1.mk (IntKind.wrap IntKind.i64 (s_1.1 + (1 : Int)))) s_1 else K (SX.v (SV.c (SC.val (Value.int IntKind.i64 s_1.1)))) else K (SX.v (SV.c (SC.val (Value.int IntKind.i64 s_1.1))))) : evFn Tryd.prog O w0 (Γ2 O w0) (Λof 24 (I24 p s a 25)) 100 5 24 [tV s, iV a, fV 25] [] (fun y _ => K y) := vc_of h_ (by kernel_rfl)
set_option maxHeartbeats 4000000 in
set_option maxRecDepth 100000 in
theorem f24b (O : Nat → Prop) (w0 : World) (p : Int → Bool) (s : ByteArray) (a : Nat) (K : SX → Prop) (h_ : (∀ (s_1 : N1), LInv.pre (I24 p s a (27 : Nat)) s_1 → Nat.le (0 : Nat) (List.length (LInv.mem (I24 p s a (27 : Nat)) s_1))) ∧ Fits (I24 p s a (27 : Nat)) (N1.mk (↑a : Int)) (LInv.mem (I24 p s a (27 : Nat)) (N1.mk (↑a : Int))) (LInv.tmp (I24 p s a (27 : Nat)) (N1.mk (↑a : Int))) ∧ ∀ (s_1 : N1) (J : Nat → Value), LInv.pre (I24 p s a (27 : Nat)) s_1 → bif decide (s_1.1 < (↑(ByteArray.size s) : Int)) then In s_1.1 (↑(ByteArray.size s) : Int) ∧ bif isDg (bAt s s_1.1) then Fits (I24 p s a (27 : Nat)) (N1.mk (IntKind.wrap IntKind.i64 (s_1.1 + (1 : Int)))) (LInv.mem (I24 p s a (27 : Nat)) (N1.mk (IntKind.wrap IntKind.i64 (s_1.1 + (1 : Int))))) (LInv.tmp (I24 p s a (27 : Nat)) (N1.mk (IntKind.wrap IntKind.i64 (s_1.1 + (1 : Int))))) ∧ Dec (I24 p s a (27 : Nat)) (N1.mk (IntKind.wrap IntKind.i64 (s_1.1 + (1 : Int)))) s_1 else K (SX.v (SV.c (SC.val (Value.int IntKind.i64 s_1.1)))) else K (SX.v (SV.c (SC.val (Value.int IntKind.i64 s_1.1))))) : evFn Tryd.prog O w0 (Γ2 O w0) (Λof 24 (I24 p s a 27)) 100 5 24 [tV s, iV a, fV 27] [] (fun y _ => K y) := vc_of h_ (by kernel_rfl)
set_option maxHeartbeats 4000000 in
set_option maxRecDepth 100000 in
theorem f24c (O : Nat → Prop) (w0 : World) (p : Int → Bool) (s : ByteArray) (a : Nat) (K : SX → Prop) (h_ : (∀ (s_1 : N1), LInv.pre (I24 p s a (37 : Nat)) s_1 → Nat.le (0 : Nat) (List.length (LInv.mem (I24 p s a (37 : Nat)) s_1))) ∧ Fits (I24 p s a (37 : Nat)) (N1.mk (↑a : Int)) (LInv.mem (I24 p s a (37 : Nat)) (N1.mk (↑a : Int))) (LInv.tmp (I24 p s a (37 : Nat)) (N1.mk (↑a : Int))) ∧ ∀ (s_1 : N1) (J : Nat → Value), LInv.pre (I24 p s a (37 : Nat)) s_1 → bif decide (s_1.1 < (↑(ByteArray.size s) : Int)) then In s_1.1 (↑(ByteArray.size s) : Int) ∧ bif isWd (bAt s s_1.1) then Fits (I24 p s a (37 : Nat)) (N1.mk (IntKind.wrap IntKind.i64 (s_1.1 + (1 : Int)))) (LInv.mem (I24 p s a (37 : Nat)) (N1.mk (IntKind.wrap IntKind.i64 (s_1.1 + (1 : Int))))) (LInv.tmp (I24 p s a (37 : Nat)) (N1.mk (IntKind.wrap IntKind.i64 (s_1.1 + (1 : Int))))) ∧ Dec (I24 p s a (37 : Nat)) (N1.mk (IntKind.wrap IntKind.i64 (s_1.1 + (1 : Int)))) s_1 else K (SX.v (SV.c (SC.val (Value.int IntKind.i64 s_1.1)))) else K (SX.v (SV.c (SC.val (Value.int IntKind.i64 s_1.1))))) : evFn Tryd.prog O w0 (Γ2 O w0) (Λof 24 (I24 p s a 37)) 100 5 24 [tV s, iV a, fV 37] [] (fun y _ => K y) := vc_of h_ (by kernel_rfl)
set_option maxHeartbeats 4000000 in
set_option maxRecDepth 100000 in
theorem f48 (O : Nat → Prop) (w0 : World) (s : ByteArray) (a : Nat) (K : SX → Prop) (h_ : (∀ (s_1 : N1), LInv.pre (I48 s a) s_1 → Nat.le (0 : Nat) (List.length (LInv.mem (I48 s a) s_1))) ∧ Fits (I48 s a) (N1.mk (↑a : Int)) (LInv.mem (I48 s a) (N1.mk (↑a : Int))) (LInv.tmp (I48 s a) (N1.mk (↑a : Int))) ∧ ∀ (s_1 : N1) (J : Nat → Value), LInv.pre (I48 s a) s_1 → bif decide (s_1.1 < (↑(ByteArray.size s) : Int)) then In s_1.1 (↑(ByteArray.size s) : Int) ∧ bif isDg (bAt s s_1.1) then Fits (I48 s a) (N1.mk (IntKind.wrap IntKind.i64 (s_1.1 + (1 : Int)))) (LInv.mem (I48 s a) (N1.mk (IntKind.wrap IntKind.i64 (s_1.1 + (1 : Int))))) (LInv.tmp (I48 s a) (N1.mk (IntKind.wrap IntKind.i64 (s_1.1 + (1 : Int))))) ∧ Dec (I48 s a) (N1.mk (IntKind.wrap IntKind.i64 (s_1.1 + (1 : Int)))) s_1 else K (SX.v (SV.c (SC.val (Value.int IntKind.i64 s_1.1)))) else K (SX.v (SV.c (SC.val (Value.int IntKind.i64 s_1.1))))) : evFn Tryd.prog O w0 (Γ2 O w0) (Λof 48 (I48 s a)) 100 5 48 [tV s, iV a] [] (fun y _ => K y) := vc_of h_ (by kernel_rfl)
def accO (f : Nat) : Option (Int → Bool) := bif Nat.beq f 25 then some noNl else bif Nat.beq f 27 then some isDg else bif Nat.beq f 37 then some isWd else none
def gRun : EntF := fun _ _ args M k => match args with
  | [.v (.c (.val (.string s))), .v (.c (.val (.int .i64 a))), .v (.c (.val (.func (.func f) ⟨[]⟩ ⟨[]⟩)))] => (match accO f with
    | some p => Cut 0 a s.size ∧ Cat s.size 0 ∧ k (iV (runE p s a.toNat)) M
    | none => False)
  | _ => False
def gDig : EntF := fun _ _ args M k => match args with
  | [.v (.c (.val (.string s))), .v (.c (.val (.int .i64 a)))] => Cut 0 a s.size ∧ Cat s.size 0 ∧ k (iV (runE isDg s a.toNat)) M
  | _ => False
def Γ3 : TabF := addF (addF Γ2 24 gRun) 48 gDig
--HIDE
theorem runVC (p : Int → Bool) (s : ByteArray) (a : Nat) (I : LInv) (mk : Int → I.σ) (hI : ∀ i, I.pre (mk i) ↔ 0 ≤ i ∧ i ≤ s.size ∧ runE p s i.toNat = runE p s a) (hμ : ∀ i, I.μ (mk i) = (s.size - i).toNat) (K : SX → Prop) (hs : s.size ≤ 9223372036854775807) {i : Int} (h0 : I.pre (mk i)) (hK : K (iV (runE p s a))) :
    bif decide (i < (s.size : Int)) then In i s.size ∧ bif p (bAt s i) then Fits I (mk (IntKind.i64.wrap (i + 1))) (I.mem (mk (IntKind.i64.wrap (i + 1)))) (I.tmp (mk (IntKind.i64.wrap (i + 1)))) ∧ Dec I (mk (IntKind.i64.wrap (i + 1))) (mk i) else K (iV i) else K (iV i) := by
  obtain ⟨h1, h2, h3⟩ := (hI i).1 h0
  have hi : ((i.toNat : Nat) : Int) = i := by omega
  have stop : ¬ (i.toNat < s.size ∧ p (bAt s i) = true) → K (iV i) := fun h => by
    have := runE_stop (p := p) (s := s) (i := i.toNat) (by rw [hi]; exact h)
    rw [h3] at this
    rw [this, hi] at hK
    exact hK
  refine cond_of (fun h => ?_) (fun h => stop fun c => by simp at h; omega)
  have hlt : i < s.size := by simpa using h
  refine ⟨⟨h1, hlt⟩, cond_of (fun hp => ?_) (fun hp => stop fun c => by rw [hp] at c; exact absurd c.2 (by decide))⟩
  rw [wrap_in (by omega) (by omega)]
  refine ⟨⟨(hI _).2 ⟨by omega, by omega, ?_⟩, rfl, fun _ => rfl⟩, ⟨?_⟩⟩
  · rw [show (i + 1).toNat = i.toNat + 1 by omega, ← h3]
    exact (runE_step (by omega) (by rw [hi]; exact hp)).symm
  · rw [hμ, hμ]; omega
theorem e24 (O : Nat → Prop) (w0 : World) : Entry Tryd.prog O w0 24 (gRun O w0) :=
  Entry.pure Γ2_ok 100 5 (g := gRun) (fun O w0 args M k hg => by
    unfold gRun at hg
    split at hg
    case h_2 => exact hg.elim
    rename_i s a f
    split at hg
    case h_2 => exact hg.elim
    rename_i p hp
    obtain ⟨⟨h0, h1, h2⟩, ⟨hs⟩, hk⟩ := hg
    obtain ⟨n, rfl⟩ : ∃ n : Nat, a = n := ⟨a.toNat, by omega⟩
    refine ⟨_, _, rfl, hk, fun _ => rfl, fun w hw => ?_⟩
    have hn : ((n : Int)).toNat = n := by omega
    have st : ∀ f, Fits (I24 p s n f) (N1.mk n) [] (LInv.tmp (I24 p s n f) (N1.mk n)) := fun f => ⟨⟨by omega, by omega, by rw [hn]⟩, rfl, fun _ => rfl⟩
    unfold accO at hp
    by_cases e1 : f = 25
    · subst e1; cases hp
      exact ⟨_, f24a _ w noNl s n _ ⟨fun _ _ => Nat.zero_le _, st 25, fun ⟨i⟩ J h => runVC noNl s n (I24 noNl s n 25) N1.mk (fun _ => Iff.rfl) (fun _ => rfl) (fun y => y = iV (runE noNl s (n : Int).toNat)) (by omega) h (by rw [hn])⟩⟩
    by_cases e2 : f = 27
    · subst e2; cases hp
      exact ⟨_, f24b _ w isDg s n _ ⟨fun _ _ => Nat.zero_le _, st 27, fun ⟨i⟩ J h => runVC isDg s n (I24 isDg s n 27) N1.mk (fun _ => Iff.rfl) (fun _ => rfl) (fun y => y = iV (runE isDg s (n : Int).toNat)) (by omega) h (by rw [hn])⟩⟩
    by_cases e3 : f = 37
    · subst e3; cases hp
      exact ⟨_, f24c _ w isWd s n _ ⟨fun _ _ => Nat.zero_le _, st 37, fun ⟨i⟩ J h => runVC isWd s n (I24 isWd s n 37) N1.mk (fun _ => Iff.rfl) (fun _ => rfl) (fun y => y = iV (runE isWd s (n : Int).toNat)) (by omega) h (by rw [hn])⟩⟩
    have b : ∀ m, f ≠ m → Nat.beq f m = false := fun m h => by
      cases hb : Nat.beq f m with
      | false => rfl
      | true => exact absurd (Nat.eq_of_beq_eq_true hb) h
    rw [b _ e1, b _ e2, b _ e3] at hp
    cases hp) O w0
theorem e48 (O : Nat → Prop) (w0 : World) : Entry Tryd.prog O w0 48 (gDig O w0) :=
  Entry.pure Γ2_ok 100 5 (g := gDig) (fun O w0 args M k hg => by
    unfold gDig at hg
    split at hg
    case h_2 => exact hg.elim
    rename_i s a
    obtain ⟨⟨h0, h1, h2⟩, ⟨hs⟩, hk⟩ := hg
    obtain ⟨n, rfl⟩ : ∃ n : Nat, a = n := ⟨a.toNat, by omega⟩
    refine ⟨_, _, rfl, hk, fun _ => rfl, fun w hw => ?_⟩
    have hn : ((n : Int)).toNat = n := by omega
    exact ⟨_, f48 _ w s n _ ⟨fun _ _ => Nat.zero_le _, ⟨⟨by omega, by omega, by rw [hn]⟩, rfl, fun _ => rfl⟩, fun ⟨i⟩ J h => runVC isDg s n (I48 s n) N1.mk (fun _ => Iff.rfl) (fun _ => rfl) (fun y => y = iV (runE isDg s (n : Int).toNat)) (by omega) h (by rw [hn])⟩⟩) O w0
theorem Γ3_ok : TSF Tryd.prog Γ3 := (Γ2_ok.add e24).add e48
--SHOW
end Go.Proofs.YtfijmdeanechfaaDoor.Lx
