/- (renumbered from the Command chapter) Contracts of the small functions of the package command and its reference: lists of numbers. -/
import Derived.Test.YtfhckpfiegenaaaGreatDoorProg
import Derived.Test.YtfhckpfiegenaaaGreatDoorEng
import Derived.Outline
import Derived.RegionTactic
import Derived.BigRegion
import Derived.KernelRfl
namespace Go.Proofs.YtfhckpfiegenaaaGreatDoor.Cm
open Go Go.RowKit Go.Proofs.YtfhckpfiegenaaaGreatDoor.Eng
set_option linter.unusedVariables false
set_option maxRecDepth 8000
structure S28 where
  f0 : Int
  f1 : Int
  f2 : Int
  f3 : Int
structure S30 where
  f0 : Int
  f1 : Int
  f2 : Int
  f3 : Int
  f4 : Int
  f5 : S28
  f6 : Int
  f7 : Int
  f8 : Int
structure S33 where
  f0 : Int
  f1 : Int
  f2 : Int
  f3 : Int
  f4 : Int
  f5 : Int
  f6 : Int
  f7 : Int
  f8 : S30
  f9 : List Int
  f10 : S28
  f11 : Int
  f12 : Int
  f13 : Bool
def z28 : S28 := ⟨0, 0, 0, 0⟩
def z30 : S30 := ⟨0, 0, 0, 0, 0, z28, 0, 0, 0⟩
def z33 : S33 := ⟨0, 0, 0, 0, 0, 0, 0, 0, z30, [], z28, 0, 0, false⟩
abbrev iV (n : Int) : SX := .v (.c (.val (.int .i64 n)))
abbrev bV (b : Bool) : SX := .v (.c (.val (.bool b)))
abbrev jV (v : Value) : SX := .v (.c (.opq v))
abbrev fV (f : Nat) : SX := .v (.c (.val (.func (.func f) #[] #[])))
def ints (l : List Int) : Nat → List SC := fun j => [.val (.int .i64 (l.getD j 0))]
abbrev sC (A : Option Addr) (l : List Int) (c : Nat) : SC := .rsl A 1 (ints l) 0 l.length c
abbrev sV (A : Option Addr) (l : List Int) (c : Nat) : SX := .v (.c (sC A l c))
structure N1 where
  i : Int
def rI (ts : List SX) (d : Nat) : N1 := match ts.getD d undefX with
  | .v (.c (.val (.int _ n))) => ⟨n⟩
  | _ => ⟨0⟩
abbrev LT := FuncId → Nat → Option LI
def Λn : LT := fun _ _ => none
def Λof (f : Nat) (I : LInv) : LT := fun g _ => bif Nat.beq g f then some I else none
def Γ0 : Tab := fun _ => none
def wide (n : Int) : Bool := !(decide (-2147483648 ≤ n) && decide (n ≤ 2147483647))
def I29 (A B : Option Addr) (l m : List Int) (c d : Nat) : LInv where
  σ := N1
  pre := fun ⟨i⟩ => 0 ≤ i ∧ i ≤ l.length ∧ l.length = m.length ∧ l.take i.toNat = m.take i.toNat
  mem := fun _ => []
  tmp := fun ⟨i⟩ J => [sV A l c, sV B m d, undefX, undefX, bV false, jV (J 5), sV A l c, iV l.length, sV B m d, iV m.length, bV ((l.length : Int) != m.length), sV A l c, iV l.length, iV i, jV (J 14), jV (J 15), jV (J 16), jV (J 17), jV (J 18), jV (J 19), jV (J 20), jV (J 21), jV (J 22), jV (J 23), jV (J 24), jV (J 25)]
  read := fun _ ts => rI ts 13
  junk := [5, 14, 15, 16, 17, 18, 19, 20, 21, 22, 23, 24, 25]
  μ := fun ⟨i⟩ => (l.length - i).toNat
def I30 (A B : Option Addr) (l m : List Int) (c d : Nat) : LInv where
  σ := N1
  pre := fun ⟨i⟩ => 0 ≤ i ∧ i ≤ l.length ∧ l.length = m.length ∧ l.take i.toNat = m.take i.toNat
  mem := fun _ => []
  tmp := fun ⟨i⟩ J => [sV A l c, sV B m d, undefX, undefX, bV false, iV i, sV A l c, iV l.length, sV B m d, iV m.length, bV ((l.length : Int) != m.length), jV (J 11), jV (J 12), jV (J 13), jV (J 14), jV (J 15), jV (J 16), jV (J 17), jV (J 18), jV (J 19), jV (J 20), jV (J 21), jV (J 22), jV (J 23), jV (J 24), jV (J 25)]
  read := fun _ ts => rI ts 5
  junk := [11, 12, 13, 14, 15, 16, 17, 18, 19, 20, 21, 22, 23, 24, 25]
  μ := fun ⟨i⟩ => (l.length - i).toNat
def I46 (A : Option Addr) (l : List Int) (c : Nat) : LInv where
  σ := N1
  pre := fun ⟨i⟩ => 0 ≤ i ∧ i ≤ l.length ∧ (l.take i.toNat).any wide = false
  mem := fun _ => []
  tmp := fun ⟨i⟩ J => [sV A l c, fV 67, undefX, undefX, iV 0, jV (J 5), sV A l c, iV l.length, iV i, jV (J 9), jV (J 10), jV (J 11), jV (J 12), jV (J 13), jV (J 14), jV (J 15), jV (J 16), jV (J 17), jV (J 18)]
  read := fun _ ts => rI ts 8
  junk := [5, 9, 10, 11, 12, 13, 14, 15, 16, 17, 18]
  μ := fun ⟨i⟩ => (l.length - i).toNat
def cells33 (x : S33) (s : SC) : List SC := [.val (.int .i64 x.f0), .val (.int .i64 x.f1), .val (.int .i64 x.f2), .val (.int .i64 x.f3), .val (.int .i64 x.f4), .val (.int .i64 x.f5), .val (.int .i64 x.f6), .val (.int .i64 x.f7), .val (.int .i64 x.f8.f0), .val (.int .i64 x.f8.f1), .val (.int .i64 x.f8.f2), .val (.int .i64 x.f8.f3), .val (.int .i64 x.f8.f4), .val (.int .i64 x.f8.f5.f0), .val (.int .i64 x.f8.f5.f1), .val (.int .i64 x.f8.f5.f2), .val (.int .i64 x.f8.f5.f3), .val (.int .i64 x.f8.f6), .val (.int .i64 x.f8.f7), .val (.int .i64 x.f8.f8), s, .val (.int .i64 x.f10.f0), .val (.int .i64 x.f10.f1), .val (.int .i64 x.f10.f2), .val (.int .i64 x.f10.f3), .val (.int .i64 x.f11), .val (.int .i64 x.f12), .val (.bool x.f13)]
def I42 (x : S33) (A : Option Addr) (c : Nat) : LInv where
  σ := N1
  pre := fun ⟨i⟩ => 0 ≤ i ∧ i ≤ x.f9.length ∧ (x.f9.take i.toNat).any wide = false
  mem := fun _ => [.mk 33 (cells33 x (sC A x.f9 c))]
  tmp := fun ⟨i⟩ J => [.v (.agg (cells33 x (sC A x.f9 c))), .v (.c (.ptr 0 0)), bV false, iV x.f9.length, iV i, jV (J 5), jV (J 6), jV (J 7), jV (J 8), jV (J 9), jV (J 10), jV (J 11), jV (J 12), jV (J 13), jV (J 14), jV (J 15), jV (J 16), jV (J 17), jV (J 18), jV (J 19), jV (J 20), jV (J 21), jV (J 22), jV (J 23), jV (J 24), jV (J 25), jV (J 26), jV (J 27), jV (J 28), jV (J 29), jV (J 30), jV (J 31), jV (J 32), jV (J 33), jV (J 34)]
  read := fun _ ts => rI ts 4
  junk := [5, 6, 7, 8, 9, 10, 11, 12, 13, 14, 15, 16, 17, 18, 19, 20, 21, 22, 23, 24, 25, 26, 27, 28, 29, 30, 31, 32, 33, 34]
  μ := fun ⟨i⟩ => (x.f9.length - i).toNat
set_option maxHeartbeats 4000000 in
set_option maxRecDepth 100000 in
theorem f29 (O : Nat → Prop) (w0 : World) (A B : Option Addr) (l m : List Int) (c d : Nat) (K : SX → Prop) (h_ : bif (↑(List.length l) : Int) != (↑(List.length m) : Int) then K (SX.v (SV.c (SC.val (Value.bool false)))) else (∀ (s : N1), LInv.pre (I29 A B l m c d) s → Nat.le (0 : Nat) (List.length (LInv.mem (I29 A B l m c d) s))) ∧ Fits (I29 A B l m c d) (N1.mk (0 : Int)) (LInv.mem (I29 A B l m c d) (N1.mk (0 : Int))) (LInv.tmp (I29 A B l m c d) (N1.mk (0 : Int))) ∧ ∀ (s : N1) (J : Nat → Value), LInv.pre (I29 A B l m c d) s → bif decide (s.1 < (↑(List.length l) : Int)) then In s.1 (↑(List.length l) : Int) ∧ Option.isSome A = true ∧ RowAt O w0 A (1 : Nat) (ints l ((0 : Nat) + Int.toNat s.1)) ((0 : Nat) + Int.toNat s.1) ∧ In s.1 (↑(List.length m) : Int) ∧ Option.isSome B = true ∧ RowAt O w0 B (1 : Nat) (ints m ((0 : Nat) + Int.toNat s.1)) ((0 : Nat) + Int.toNat s.1) ∧ bif List.getD l ((0 : Nat) + Int.toNat s.1) (0 : Int) != List.getD m ((0 : Nat) + Int.toNat s.1) (0 : Int) then K (SX.v (SV.c (SC.val (Value.bool false)))) else Fits (I29 A B l m c d) (N1.mk (IntKind.wrap IntKind.i64 (s.1 + (1 : Int)))) (LInv.mem (I29 A B l m c d) (N1.mk (IntKind.wrap IntKind.i64 (s.1 + (1 : Int))))) (LInv.tmp (I29 A B l m c d) (N1.mk (IntKind.wrap IntKind.i64 (s.1 + (1 : Int))))) ∧ Dec (I29 A B l m c d) (N1.mk (IntKind.wrap IntKind.i64 (s.1 + (1 : Int)))) s else K (SX.v (SV.c (SC.val (Value.bool true))))) : evFn Tryz.prog O w0 Γ0 (Λof 71 (I29 A B l m c d)) 100 5 71 [sV A l c, sV B m d] [] (fun y _ => K y) := vc_of h_ (by kernel_rfl)
set_option maxHeartbeats 4000000 in
set_option maxRecDepth 100000 in
theorem f30 (O : Nat → Prop) (w0 : World) (A B : Option Addr) (l m : List Int) (c d : Nat) (K : SX → Prop) (h_ : bif (↑(List.length l) : Int) != (↑(List.length m) : Int) then K (SX.v (SV.c (SC.val (Value.bool false)))) else (∀ (s : N1), LInv.pre (I30 A B l m c d) s → Nat.le (0 : Nat) (List.length (LInv.mem (I30 A B l m c d) s))) ∧ Fits (I30 A B l m c d) (N1.mk (0 : Int)) (LInv.mem (I30 A B l m c d) (N1.mk (0 : Int))) (LInv.tmp (I30 A B l m c d) (N1.mk (0 : Int))) ∧ ∀ (s : N1) (J : Nat → Value), LInv.pre (I30 A B l m c d) s → bif decide (s.1 < (↑(List.length l) : Int)) then In s.1 (↑(List.length l) : Int) ∧ Option.isSome A = true ∧ RowAt O w0 A (1 : Nat) (ints l ((0 : Nat) + Int.toNat s.1)) ((0 : Nat) + Int.toNat s.1) ∧ In s.1 (↑(List.length m) : Int) ∧ Option.isSome B = true ∧ RowAt O w0 B (1 : Nat) (ints m ((0 : Nat) + Int.toNat s.1)) ((0 : Nat) + Int.toNat s.1) ∧ bif List.getD l ((0 : Nat) + Int.toNat s.1) (0 : Int) != List.getD m ((0 : Nat) + Int.toNat s.1) (0 : Int) then K (SX.v (SV.c (SC.val (Value.bool false)))) else Fits (I30 A B l m c d) (N1.mk (IntKind.wrap IntKind.i64 (s.1 + (1 : Int)))) (LInv.mem (I30 A B l m c d) (N1.mk (IntKind.wrap IntKind.i64 (s.1 + (1 : Int))))) (LInv.tmp (I30 A B l m c d) (N1.mk (IntKind.wrap IntKind.i64 (s.1 + (1 : Int))))) ∧ Dec (I30 A B l m c d) (N1.mk (IntKind.wrap IntKind.i64 (s.1 + (1 : Int)))) s else K (SX.v (SV.c (SC.val (Value.bool true))))) : evFn Tryz.prog O w0 Γ0 (Λof 31 (I30 A B l m c d)) 100 5 31 [sV A l c, sV B m d] [] (fun y _ => K y) := vc_of h_ (by kernel_rfl)
set_option maxHeartbeats 4000000 in
set_option maxRecDepth 100000 in
theorem f46 (O : Nat → Prop) (w0 : World) (A : Option Addr) (l : List Int) (c : Nat) (K : SX → Prop) (h_ : (∀ (s : N1), LInv.pre (I46 A l c) s → Nat.le (0 : Nat) (List.length (LInv.mem (I46 A l c) s))) ∧ Fits (I46 A l c) (N1.mk (0 : Int)) (LInv.mem (I46 A l c) (N1.mk (0 : Int))) (LInv.tmp (I46 A l c) (N1.mk (0 : Int))) ∧ ∀ (s : N1) (J : Nat → Value), LInv.pre (I46 A l c) s → bif decide (s.1 < (↑(List.length l) : Int)) then In s.1 (↑(List.length l) : Int) ∧ Option.isSome A = true ∧ RowAt O w0 A (1 : Nat) (ints l ((0 : Nat) + Int.toNat s.1)) ((0 : Nat) + Int.toNat s.1) ∧ bif decide (List.getD l ((0 : Nat) + Int.toNat s.1) (0 : Int) ≥ (-2147483648 : Int)) then bif !decide (List.getD l ((0 : Nat) + Int.toNat s.1) (0 : Int) ≤ (2147483647 : Int)) then K (SX.v (SV.c (SC.val (Value.int IntKind.i64 s.1)))) else Fits (I46 A l c) (N1.mk (IntKind.wrap IntKind.i64 (s.1 + (1 : Int)))) (LInv.mem (I46 A l c) (N1.mk (IntKind.wrap IntKind.i64 (s.1 + (1 : Int))))) (LInv.tmp (I46 A l c) (N1.mk (IntKind.wrap IntKind.i64 (s.1 + (1 : Int))))) ∧ Dec (I46 A l c) (N1.mk (IntKind.wrap IntKind.i64 (s.1 + (1 : Int)))) s else K (SX.v (SV.c (SC.val (Value.int IntKind.i64 s.1)))) else K (SX.v (SV.c (SC.val (Value.int IntKind.i64 (-1 : Int)))))) : evFn Tryz.prog O w0 Γ0 (Λof 92 (I46 A l c)) 100 5 92 [sV A l c, fV 67] [] (fun y _ => K y) := vc_of h_ (by kernel_rfl)
set_option maxHeartbeats 4000000 in
set_option maxRecDepth 100000 in
theorem f42 (O : Nat → Prop) (w0 : World) (x : S33) (A : Option Addr) (c : Nat) (K : SX → Prop) (h_ : bif decide (S33.f3 x ≥ (0 : Int)) then bif !decide (S33.f3 x ≤ (63 : Int)) then K (SX.v (SV.c (SC.val (Value.bool false)))) else bif decide ((↑(List.length (S33.f9 x)) : Int) < (1 : Int)) then K (SX.v (SV.c (SC.val (Value.bool false)))) else bif decide ((↑(List.length (S33.f9 x)) : Int) > IntKind.wrap IntKind.i64 ((64 : Int) - S33.f3 x)) then K (SX.v (SV.c (SC.val (Value.bool false)))) else (∀ (s : N1), LInv.pre (I42 x A c) s → Nat.le (0 : Nat) (List.length (LInv.mem (I42 x A c) s))) ∧ Fits (I42 x A c) (N1.mk (0 : Int)) (LInv.mem (I42 x A c) (N1.mk (0 : Int))) (LInv.tmp (I42 x A c) (N1.mk (0 : Int))) ∧ ∀ (s : N1) (J : Nat → Value), LInv.pre (I42 x A c) s → bif decide (s.1 < (↑(List.length (S33.f9 x)) : Int)) then In s.1 (↑(List.length (S33.f9 x)) : Int) ∧ Option.isSome A = true ∧ RowAt O w0 A (1 : Nat) (ints (S33.f9 x) ((0 : Nat) + Int.toNat s.1)) ((0 : Nat) + Int.toNat s.1) ∧ bif decide (List.getD (S33.f9 x) ((0 : Nat) + Int.toNat s.1) (0 : Int) ≥ (-2147483648 : Int)) then bif !decide (List.getD (S33.f9 x) ((0 : Nat) + Int.toNat s.1) (0 : Int) ≤ (2147483647 : Int)) then K (SX.v (SV.c (SC.val (Value.bool false)))) else Fits (I42 x A c) (N1.mk (IntKind.wrap IntKind.i64 (s.1 + (1 : Int)))) (LInv.mem (I42 x A c) (N1.mk (IntKind.wrap IntKind.i64 (s.1 + (1 : Int))))) (LInv.tmp (I42 x A c) (N1.mk (IntKind.wrap IntKind.i64 (s.1 + (1 : Int))))) ∧ Dec (I42 x A c) (N1.mk (IntKind.wrap IntKind.i64 (s.1 + (1 : Int)))) s else K (SX.v (SV.c (SC.val (Value.bool false)))) else K (SX.v (SV.c (SC.val (Value.bool true)))) else K (SX.v (SV.c (SC.val (Value.bool false))))) : evFn Tryz.prog O w0 Γ0 (Λof 82 (I42 x A c)) 100 5 82 [.v (.agg (cells33 x (sC A x.f9 c)))] [] (fun y _ => K y) := vc_of h_ (by kernel_rfl)
--HIDE
/-- The list that a slice of ints holds. -/
structure IntsX (O : Nat → Prop) (w0 : World) (x : SX) (l : List Int) : Prop where
  le : l.length ≤ 9223372036854775807
  out : ∃ A c, (∀ β, x.den β = (sV A l c).den β) ∧ ∀ j, j < l.length → A.isSome = true ∧ RowAt O w0 A 1 (ints l j) j
theorem IntsX.nil (O : Nat → Prop) (w0 : World) : IntsX O w0 (SX.v (.c (.val (.slice none 0 0)))) [] := ⟨by decide, none, 0, fun _ => rfl, fun j hj => absurd hj (by simp)⟩
theorem wrap_in {n : Int} (h0 : -9223372036854775808 ≤ n) (h1 : n ≤ 9223372036854775807) : IntKind.i64.wrap n = n := by
  unfold IntKind.wrap; simp [IntKind.bits, IntKind.signed]; omega
theorem take_one {l m : List Int} {i : Nat} (hl : i < l.length) (hm : i < m.length) (h : l.take i = m.take i) (e : l.getD i 0 = m.getD i 0) : l.take (i + 1) = m.take (i + 1) := by
  rw [List.take_succ_eq_append_getElem hl, List.take_succ_eq_append_getElem hm, h]
  rw [List.getD_eq_getElem?_getD, List.getD_eq_getElem?_getD, List.getElem?_eq_getElem hl, List.getElem?_eq_getElem hm] at e
  have e2 : l[i] = m[i] := e
  rw [e2]
theorem any_one {p : Int → Bool} {l : List Int} {i : Nat} (hl : i < l.length) (h : (l.take i).any p = false) (e : p (l.getD i 0) = false) : (l.take (i + 1)).any p = false := by
  rw [List.take_succ_eq_append_getElem hl, List.any_append, h]
  rw [List.getD_eq_getElem?_getD, List.getElem?_eq_getElem hl] at e
  simpa using e
theorem any_here {p : Int → Bool} {l : List Int} {i : Nat} (hl : i < l.length) (e : p (l.getD i 0) = true) : l.any p = true := by
  rw [List.getD_eq_getElem?_getD, List.getElem?_eq_getElem hl] at e
  exact List.any_eq_true.2 ⟨_, List.getElem_mem hl, e⟩
theorem ne_of_getD {l m : List Int} {i : Nat} (e : l.getD i 0 ≠ m.getD i 0) : l ≠ m := fun h => e (by rw [h])
def gEq : EntF := fun O w0 args M k => match args with
  | [a, b] => ∃ l m, IntsX O w0 a l ∧ IntsX O w0 b m ∧ k (bV (l == m)) M
  | _ => False
theorem cond_of {b : Bool} {P Q : Prop} (h1 : b = true → P) (h2 : b = false → Q) : bif b then P else Q := by cases b; exact h2 rfl; exact h1 rfl
theorem e29 (O : Nat → Prop) (w0 : World) : Entry Tryz.prog O w0 71 (gEq O w0) :=
  Entry.pure (TSF.none _) 100 5 (g := gEq) (fun O w0 args M k => by
    intro hg
    unfold gEq at hg
    split at hg
    case h_2 => exact hg.elim
    rename_i a b
    obtain ⟨l, m, ⟨hl, A, c, ha, hA⟩, ⟨hm, B, d, hb, hB⟩, hk⟩ := hg
    refine ⟨bV (l == m), [sV A l c, sV B m d], rfl, hk, fun β => by unfold fr; simp only [List.map_cons, ha β, hb β, List.map_nil], fun w hw => ⟨_, f29 _ w A B l m c d _ ?_⟩⟩
    refine cond_of (fun h => ?_) (fun h => ?_)
    · have hne : l ≠ m := fun e => by rw [e] at h; simp at h
      rw [show (l == m) = false by simpa using hne]
    · have hlm0 : (l.length : Int) = m.length := by simpa using h
      have hlm : l.length = m.length := by omega
      refine ⟨fun _ _ => Nat.zero_le _, ⟨⟨by omega, by simp, hlm, rfl⟩, rfl, fun _ => rfl⟩, ?_⟩
      rintro ⟨i⟩ J ⟨h0, h1, _, ht⟩
      refine cond_of (fun h => ?_) (fun h => ?_)
      · have hlt : i < l.length := by simpa using h
        have e0 : 0 + i.toNat = i.toNat := Nat.zero_add _
        simp only [e0]
        refine ⟨⟨h0, hlt⟩, (hA i.toNat (by omega)).1, (hA i.toNat (by omega)).2.at hw, ⟨h0, by omega⟩, (hB i.toNat (by omega)).1, (hB i.toNat (by omega)).2.at hw, cond_of (fun h => ?_) (fun h => ?_)⟩
        · have hne : l ≠ m := ne_of_getD (i := i.toNat) (by simpa using h)
          rw [show (l == m) = false by simpa using hne]
        · have he : l.getD i.toNat 0 = m.getD i.toNat 0 := by simpa using h
          rw [wrap_in (by omega) (by omega)]
          refine ⟨⟨⟨by omega, by omega, hlm, ?_⟩, rfl, fun _ => rfl⟩, ⟨by show (_ : Int).toNat < (_ : Int).toNat; omega⟩⟩
          rw [show (i + 1).toNat = i.toNat + 1 by omega]
          exact take_one (by omega) (by omega) ht he
      · have hge : ¬ i < l.length := by simpa using h
        have hi : i.toNat = l.length := by omega
        rw [hi] at ht
        have he : l = m := by rw [List.take_length] at ht; rw [ht, hlm, List.take_length]
        rw [show (l == m) = true by simpa using he]) O w0
theorem e30 (O : Nat → Prop) (w0 : World) : Entry Tryz.prog O w0 31 (gEq O w0) :=
  Entry.pure (TSF.none _) 100 5 (g := gEq) (fun O w0 args M k => by
    intro hg
    unfold gEq at hg
    split at hg
    case h_2 => exact hg.elim
    rename_i a b
    obtain ⟨l, m, ⟨hl, A, c, ha, hA⟩, ⟨hm, B, d, hb, hB⟩, hk⟩ := hg
    refine ⟨bV (l == m), [sV A l c, sV B m d], rfl, hk, fun β => by unfold fr; simp only [List.map_cons, ha β, hb β, List.map_nil], fun w hw => ⟨_, f30 _ w A B l m c d _ ?_⟩⟩
    refine cond_of (fun h => ?_) (fun h => ?_)
    · have hne : l ≠ m := fun e => by rw [e] at h; simp at h
      rw [show (l == m) = false by simpa using hne]
    · have hlm0 : (l.length : Int) = m.length := by simpa using h
      have hlm : l.length = m.length := by omega
      refine ⟨fun _ _ => Nat.zero_le _, ⟨⟨by omega, by simp, hlm, rfl⟩, rfl, fun _ => rfl⟩, ?_⟩
      rintro ⟨i⟩ J ⟨h0, h1, _, ht⟩
      refine cond_of (fun h => ?_) (fun h => ?_)
      · have hlt : i < l.length := by simpa using h
        have e0 : 0 + i.toNat = i.toNat := Nat.zero_add _
        simp only [e0]
        refine ⟨⟨h0, hlt⟩, (hA i.toNat (by omega)).1, (hA i.toNat (by omega)).2.at hw, ⟨h0, by omega⟩, (hB i.toNat (by omega)).1, (hB i.toNat (by omega)).2.at hw, cond_of (fun h => ?_) (fun h => ?_)⟩
        · have hne : l ≠ m := ne_of_getD (i := i.toNat) (by simpa using h)
          rw [show (l == m) = false by simpa using hne]
        · have he : l.getD i.toNat 0 = m.getD i.toNat 0 := by simpa using h
          rw [wrap_in (by omega) (by omega)]
          refine ⟨⟨⟨by omega, by omega, hlm, ?_⟩, rfl, fun _ => rfl⟩, ⟨by show (_ : Int).toNat < (_ : Int).toNat; omega⟩⟩
          rw [show (i + 1).toNat = i.toNat + 1 by omega]
          exact take_one (by omega) (by omega) ht he
      · have hge : ¬ i < l.length := by simpa using h
        have hi : i.toNat = l.length := by omega
        rw [hi] at ht
        have he : l = m := by rw [List.take_length] at ht; rw [ht, hlm, List.take_length]
        rw [show (l == m) = true by simpa using he]) O w0
--SHOW
set_option maxHeartbeats 4000000 in
set_option maxRecDepth 100000 in
theorem f37 (O : Nat → Prop) (w0 : World) (A : Option Addr) (l : List Int) (c : Nat) (K : SX → Prop) (h_ : (∀ (s : N1), LInv.pre (I46 A l c) s → Nat.le (0 : Nat) (List.length (LInv.mem (I46 A l c) s))) ∧ Fits (I46 A l c) (N1.mk (0 : Int)) (LInv.mem (I46 A l c) (N1.mk (0 : Int))) (LInv.tmp (I46 A l c) (N1.mk (0 : Int))) ∧ ∀ (s : N1) (J : Nat → Value), LInv.pre (I46 A l c) s → bif decide (s.1 < (↑(List.length l) : Int)) then In s.1 (↑(List.length l) : Int) ∧ Option.isSome A = true ∧ RowAt O w0 A (1 : Nat) (ints l ((0 : Nat) + Int.toNat s.1)) ((0 : Nat) + Int.toNat s.1) ∧ bif decide (List.getD l ((0 : Nat) + Int.toNat s.1) (0 : Int) ≥ (-2147483648 : Int)) then bif !decide (List.getD l ((0 : Nat) + Int.toNat s.1) (0 : Int) ≤ (2147483647 : Int)) then K (SX.v (SV.c (SC.val (Value.bool (decide (s.1 ≥ (0 : Int))))))) else Fits (I46 A l c) (N1.mk (IntKind.wrap IntKind.i64 (s.1 + (1 : Int)))) (LInv.mem (I46 A l c) (N1.mk (IntKind.wrap IntKind.i64 (s.1 + (1 : Int))))) (LInv.tmp (I46 A l c) (N1.mk (IntKind.wrap IntKind.i64 (s.1 + (1 : Int))))) ∧ Dec (I46 A l c) (N1.mk (IntKind.wrap IntKind.i64 (s.1 + (1 : Int)))) s else K (SX.v (SV.c (SC.val (Value.bool (decide (s.1 ≥ (0 : Int))))))) else K (SX.v (SV.c (SC.val (Value.bool false))))) : evFn Tryz.prog O w0 Γ0 (Λof 92 (I46 A l c)) 100 5 69 [sV A l c, fV 67] [] (fun y _ => K y) := vc_of h_ (by kernel_rfl)
--HIDE
def gAny : EntF := fun O w0 args M k => match args with
  | [a, b] => ∃ l, b = fV 67 ∧ IntsX O w0 a l ∧ k (bV (l.any wide)) M
  | _ => False
theorem wide_of {n : Int} : wide n = (!decide (n ≥ -2147483648) || !decide (n ≤ 2147483647)) := by
  unfold wide; rw [Bool.not_and]
theorem e37 (O : Nat → Prop) (w0 : World) : Entry Tryz.prog O w0 69 (gAny O w0) :=
  Entry.pure (TSF.none _) 100 5 (g := gAny) (fun O w0 args M k => by
    intro hg
    unfold gAny at hg
    split at hg
    case h_2 => exact hg.elim
    rename_i a b
    obtain ⟨l, rfl, ⟨hl, A, c, ha, hA⟩, hk⟩ := hg
    refine ⟨bV (l.any wide), [sV A l c, fV 67], rfl, hk, fun β => by unfold fr; simp only [List.map_cons, ha β, List.map_nil], fun w hw => ⟨_, f37 _ w A l c _ ?_⟩⟩
    refine ⟨fun _ _ => Nat.zero_le _, ⟨⟨by omega, by simp, rfl⟩, rfl, fun _ => rfl⟩, ?_⟩
    rintro ⟨i⟩ J ⟨h0, h1, ht⟩
    refine cond_of (fun h => ?_) (fun h => ?_)
    · have hlt : i < l.length := by simpa using h
      have e0 : 0 + i.toNat = i.toNat := Nat.zero_add _
      have hT : wide (l.getD i.toNat 0) = true → bV (decide (i ≥ 0)) = bV (l.any wide) := fun hw => by
        rw [any_here (by omega) hw, decide_eq_true (show i ≥ 0 by omega)]
      simp only [e0]
      refine ⟨⟨h0, hlt⟩, (hA i.toNat (by omega)).1, (hA i.toNat (by omega)).2.at hw, cond_of (fun h2 => ?_) (fun h2 => hT (by rw [wide_of, h2]; rfl))⟩
      refine cond_of (fun h3 => hT (by rw [wide_of, h3]; simp)) (fun h3 => ?_)
      have hF : wide (l.getD i.toNat 0) = false := by rw [wide_of, h2, h3]; rfl
      rw [wrap_in (by omega) (by omega)]
      refine ⟨⟨⟨by omega, by omega, ?_⟩, rfl, fun _ => rfl⟩, ⟨by show (_ : Int).toNat < (_ : Int).toNat; omega⟩⟩
      rw [show (i + 1).toNat = i.toNat + 1 by omega]
      exact any_one (by omega) ht hF
    · have hge : ¬ i < l.length := by simpa using h
      have hi : i.toNat = l.length := by omega
      rw [hi, List.take_length] at ht
      rw [ht]) O w0
def uniM (x : S33) : Bool := decide (x.f3 ≥ 0) && (decide (x.f3 ≤ 63) && (decide ((x.f9.length : Int) ≥ 1) && (decide ((x.f9.length : Int) ≤ 64 - x.f3) && !x.f9.any wide)))
/-- The command that a value holds. -/
structure CmdX (O : Nat → Prop) (w0 : World) (x : SX) (c : S33) : Prop where
  le : c.f9.length ≤ 9223372036854775807
  out : ∃ A cp, (∀ β, x.den β = (SX.v (.agg (cells33 c (sC A c.f9 cp)))).den β) ∧ ∀ j, j < c.f9.length → A.isSome = true ∧ RowAt O w0 A 1 (ints c.f9 j) j
def gUni : EntF := fun O w0 args M k => match args with
  | [a] => ∃ c, CmdX O w0 a c ∧ k (bV (uniM c)) M
  | _ => False
set_option maxRecDepth 100000 in
theorem e42 (O : Nat → Prop) (w0 : World) : Entry Tryz.prog O w0 82 (gUni O w0) :=
  Entry.pure (TSF.none _) 100 5 (g := gUni) (fun O w0 args M k => by
    intro hg
    unfold gUni at hg
    split at hg
    case h_2 => exact hg.elim
    rename_i a
    obtain ⟨x, ⟨hl, A, c, ha, hA⟩, hk⟩ := hg
    refine ⟨bV (uniM x), [.v (.agg (cells33 x (sC A x.f9 c)))], rfl, hk, fun β => by unfold fr; simp only [List.map_cons, ha β, List.map_nil], fun w hw => ⟨_, f42 _ w x A c _ ?_⟩⟩
    unfold uniM
    refine cond_of (fun h1 => ?_) (fun h1 => by rw [h1]; rfl)
    refine cond_of (fun h2 => by rw [show decide (x.f3 ≤ 63) = false by simpa using h2]; simp) (fun h2 => ?_)
    have h2' : decide (x.f3 ≤ 63) = true := by simpa using h2
    refine cond_of (fun h3 => by rw [show decide ((x.f9.length : Int) ≥ 1) = false by simp at h3 ⊢; omega]; simp) (fun h3 => ?_)
    have h3' : decide ((x.f9.length : Int) ≥ 1) = true := by simp at h3 ⊢; omega
    have hb1 : 0 ≤ x.f3 := by simpa using h1
    have hb2 : x.f3 ≤ 63 := by simpa using h2'
    rw [wrap_in (by omega) (by omega)]
    refine cond_of (fun h4 => by rw [show decide ((x.f9.length : Int) ≤ 64 - x.f3) = false by simp at h4 ⊢; omega]; simp) (fun h4 => ?_)
    have h4' : decide ((x.f9.length : Int) ≤ 64 - x.f3) = true := by simp at h4 ⊢; omega
    rw [h1, h2', h3', h4']
    simp only [Bool.true_and]
    refine ⟨fun _ _ => Nat.zero_le _, ⟨⟨by omega, by simp, rfl⟩, rfl, fun _ => rfl⟩, ?_⟩
    rintro ⟨i⟩ J ⟨h0, h1, ht⟩
    refine cond_of (fun h => ?_) (fun h => ?_)
    · have hlt : i < x.f9.length := by simpa using h
      have e0 : 0 + i.toNat = i.toNat := Nat.zero_add _
      have hT : wide (x.f9.getD i.toNat 0) = true → bV false = bV (!x.f9.any wide) := fun hw => by rw [any_here (by omega) hw]; rfl
      simp only [e0]
      refine ⟨⟨h0, hlt⟩, (hA i.toNat (by omega)).1, (hA i.toNat (by omega)).2.at hw, cond_of (fun h2 => ?_) (fun h2 => hT (by rw [wide_of, h2]; rfl))⟩
      refine cond_of (fun h3 => hT (by rw [wide_of, h3]; simp)) (fun h3 => ?_)
      have hF : wide (x.f9.getD i.toNat 0) = false := by rw [wide_of, h2, h3]; rfl
      rw [wrap_in (by omega) (by omega)]
      refine ⟨⟨⟨by omega, by omega, ?_⟩, rfl, fun _ => rfl⟩, ⟨by show (_ : Int).toNat < (_ : Int).toNat; omega⟩⟩
      rw [show (i + 1).toNat = i.toNat + 1 by omega]
      exact any_one (by omega) ht hF
    · have hge : ¬ i < x.f9.length := by simpa using h
      have hi : i.toNat = x.f9.length := by omega
      rw [hi, List.take_length] at ht
      rw [ht]; rfl) O w0
def Γ1 : TabF := addF (addF (addF (addF (fun _ _ => Γ0) 71 gEq) 31 gEq) 69 gAny) 82 gUni
theorem Γ1_ok : TSF Tryz.prog Γ1 := (((((TSF.none _).add e29).add e30).add e37).add e42)
--SHOW
end Go.Proofs.YtfhckpfiegenaaaGreatDoor.Cm
