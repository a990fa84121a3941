/- The number that a decimal form says: ParseInt, of the package and of the reference. -/
import Derived.Test.YtfhckpfiegenaaaGreatDoorCm5
import Derived.Lib.Strings
namespace Go.Proofs.YtfhckpfiegenaaaGreatDoor.Tr
open Go Go.RowKit Go.Proofs.YtfhckpfiegenaaaGreatDoor.Eng Go.Proofs.YtfhckpfiegenaaaGreatDoor.Cm
set_option linter.unusedVariables false
set_option linter.unusedSimpArgs false
set_option maxRecDepth 8000
abbrev sV_ (s : ByteArray) : SX := .v (.c (.val (.string s)))
def isDg (a : Int) : Bool := decide (48 ≤ a) && decide (a ≤ 57)
def decV (s : ByteArray) : Nat → Int
  | 0 => 0
  | i + 1 => decV s i * 10 + (bAt s i - 48)
/-- Digits alone, up to a place. -/
structure DgTo (s : ByteArray) (n : Nat) : Prop where
  d : ∀ i : Nat, i < n → isDg (bAt s i) = true
structure PS1 where
  i : Int
structure PS2 where
  i : Int
  n : Int
def I107 (s : ByteArray) (R : Int → Prop) : LInv where
  σ := PS1
  pre := fun ⟨i⟩ => R i
  mem := fun _ => []
  tmp := fun ⟨i⟩ J => [sV_ s, jV (J 1), jV (J 2), iV i, jV (J 4), jV (J 5), jV (J 6), jV (J 7), jV (J 8), jV (J 9), jV (J 10), jV (J 11), jV (J 12), jV (J 13), jV (J 14), jV (J 15), jV (J 16), jV (J 17), jV (J 18), jV (J 19), jV (J 20), jV (J 21)]
  read := fun _ _ => ⟨0⟩
  junk := [1, 2, 4, 5, 6, 7, 8, 9, 10, 11, 12, 13, 14, 15, 16, 17, 18, 19, 20, 21]
  μ := fun ⟨i⟩ => (s.size - i).toNat
  keep := some fun _ _ => []
  ex := true
def I95 (s : ByteArray) (m : Int) (R : PS2 → Prop) : LInv where
  σ := PS2
  pre := fun ⟨i, n⟩ => R ⟨i, n⟩
  mem := fun _ => []
  tmp := fun ⟨i, n⟩ J => [sV_ s, iV m, jV (J 2), jV (J 3), jV (J 4), jV (J 5), iV n, iV i, jV (J 8), jV (J 9), jV (J 10), jV (J 11), jV (J 12), jV (J 13), jV (J 14), jV (J 15), jV (J 16), jV (J 17), jV (J 18), jV (J 19), jV (J 20), jV (J 21), jV (J 22), jV (J 23), jV (J 24), jV (J 25), jV (J 26), jV (J 27), jV (J 28), jV (J 29), jV (J 30), jV (J 31), jV (J 32), jV (J 33), jV (J 34), jV (J 35), jV (J 36), jV (J 37), jV (J 38), jV (J 39), jV (J 40), jV (J 41), jV (J 42), jV (J 43)]
  read := fun _ _ => ⟨0, 0⟩
  junk := [2, 3, 4, 5, 8, 9, 10, 11, 12, 13, 14, 15, 16, 17, 18, 19, 20, 21, 22, 23, 24, 25, 26, 27, 28, 29, 30, 31, 32, 33, 34, 35, 36, 37, 38, 39, 40, 41, 42, 43]
  μ := fun ⟨i, n⟩ => (s.size - i).toNat
  keep := some fun _ _ => []
  ex := true
def I112 (s : ByteArray) (R : PS2 → Prop) : LInv where
  σ := PS2
  pre := fun ⟨i, n⟩ => R ⟨i, n⟩
  mem := fun _ => []
  tmp := fun ⟨i, n⟩ J => [sV_ s, jV (J 1), jV (J 2), jV (J 3), iV n, iV i, jV (J 6), jV (J 7), jV (J 8), jV (J 9), jV (J 10), jV (J 11), jV (J 12), jV (J 13), jV (J 14), jV (J 15), jV (J 16), jV (J 17), jV (J 18), jV (J 19), jV (J 20), jV (J 21), jV (J 22), jV (J 23), jV (J 24), jV (J 25), jV (J 26), jV (J 27), jV (J 28), jV (J 29), jV (J 30), jV (J 31), jV (J 32), jV (J 33), jV (J 34), jV (J 35), jV (J 36), jV (J 37), jV (J 38), jV (J 39), jV (J 40)]
  read := fun _ _ => ⟨0, 0⟩
  junk := [1, 2, 3, 6, 7, 8, 9, 10, 11, 12, 13, 14, 15, 16, 17, 18, 19, 20, 21, 22, 23, 24, 25, 26, 27, 28, 29, 30, 31, 32, 33, 34, 35, 36, 37, 38, 39, 40]
  μ := fun ⟨i, n⟩ => (s.size - i).toNat
  keep := some fun _ _ => []
  ex := true
structure SzS (s : ByteArray) : Prop where
  le : s.size ≤ 9223372036854775807
def dgB (s : ByteArray) : Bool := decide (0 < s.size) && (List.range s.size).all fun i => isDg (bAt s (i : Nat))
structure DgIs (s : ByteArray) (b : Bool) : Prop where
  eq : b = dgB s
def gDgs : EntF := fun _ _ args M k => match args with
  | [.v (.c (.val (.string s)))] => SzS s ∧ ∀ b, DgIs s b → k (bV b) M
  | _ => False
/-- A decimal form without a sign: the number, or the error. -/
def natP (m : Int) (s : ByteArray) : Int × Int := if dgB s = false ∨ (1 < s.size ∧ bAt s 0 = 48) then (0, 3) else if decV s s.size ≤ m then (decV s s.size, 0) else (0, 6)
structure NatIs (m : Int) (s : ByteArray) (v e : Int) : Prop where
  v : v = (natP m s).1
  e : e = (natP m s).2
def gNat : EntF := fun _ _ args M k => match args with
  | [.v (.c (.val (.string s))), .v (.c (.val (.int .i64 m)))] => SzS s ∧ In m 4611686018427387905 ∧ In 8 m ∧ ∀ v e, NatIs m s v e → k (.tup [.c (.val (.int .i64 v)), .c (.val (.int .i64 e))]) M
  | _ => False
def negB (s : ByteArray) : Bool := decide (0 < s.size) && (bAt s 0 == 45)
def tailS (s : ByteArray) : ByteArray := s.extract 1 s.size
/-- The number that a text says, or the error. -/
def intP (s : ByteArray) : Int × Int :=
  if negB s = true then (if (natP 4611686018427387904 (tailS s)).2 ≠ 0 then (0, (natP 4611686018427387904 (tailS s)).2) else if (natP 4611686018427387904 (tailS s)).1 = 0 then (0, 3) else (- (natP 4611686018427387904 (tailS s)).1, 0))
  else natP 4611686018427387904 s
structure IntIs (s : ByteArray) (v e : Int) : Prop where
  v : v = (intP s).1
  e : e = (intP s).2
def gInt : EntF := fun _ _ args M k => match args with
  | [.v (.c (.val (.string s)))] => SzS s ∧ ∀ v e, IntIs s v e → k (.tup [.c (.val (.int .i64 v)), .c (.val (.int .i64 e))]) M
  | _ => False
/-- CutPrefix, of a minus sign. -/
structure CutIs (s : ByteArray) (r : ByteArray) (b : Bool) : Prop where
  is : b = negB s
  r : r = if negB s = true then tailS s else s
def gCutM : EntF := fun _ _ args M k => match args with
  | [.v (.c (.val (.string s))), .v (.c (.val (.string ⟨⟨[45]⟩⟩)))] => SzS s ∧ ∀ r b, CutIs s r b → k (.tup [.c (.val (.string r)), .c (.val (.bool b))]) M
  | _ => False
def capN : Int := 4611686018427387905
def noP (s : ByteArray) : Int := if dgB s = true then (if decV s s.size ≤ 4611686018427387905 then decV s s.size else 4611686018427387905) else 0
structure NoIs (s : ByteArray) (n : Int) (b : Bool) : Prop where
  is : b = dgB s
  n : n = noP s
def gNo : EntF := fun _ _ args M k => match args with
  | [.v (.c (.val (.string s)))] => SzS s ∧ ∀ n b, NoIs s n b → k (.tup [.c (.val (.int .i64 n)), .c (.val (.bool b))]) M
  | _ => False
def nrB (s : ByteArray) : Bool := dgB s && (s.size == 1 || !(bAt s 0 == 48))
structure NrIs (s : ByteArray) (n : Int) (b : Bool) : Prop where
  is : b = nrB s
  n : n = noP s
def gNr : EntF := fun _ _ args M k => match args with
  | [.v (.c (.val (.string s)))] => SzS s ∧ ∀ n b, NrIs s n b → k (.tup [.c (.val (.int .i64 n)), .c (.val (.bool b))]) M
  | _ => False
def Γz : TabF := fun _ _ _ => none
def Γq1 : TabF := addF Γz 107 gDgs
def Γq2 : TabF := addF (addF Γz 95 gNat) 94 gCutM
def Γq3 : TabF := addF Γz 112 gNo
def Γq4 : TabF := addF Γz 103 gNr
set_option maxHeartbeats 4000000 in
set_option maxRecDepth 100000 in
theorem f107 (O : Nat → Prop) (w0 : World) (s : ByteArray) (R : Int → Prop) (K : SX → Prop) (h_ : (∀ (s_1 : PS1), LInv.pre (I107 s R) s_1 → Nat.le (0 : Nat) (List.length (LInv.mem (I107 s R) s_1))) ∧ (FitE (I107 s R) [] (fun J ↦ [SX.v (SV.c (SC.val (Value.string s))), jV (J 1), jV (J 2), SX.v (SV.c (SC.val (Value.int IntKind.i64 0))), jV (J 4), jV (J 5), jV (J 6), jV (J 7), jV (J 8), jV (J 9), jV (J 10), jV (J 11), jV (J 12), jV (J 13), jV (J 14), jV (J 15), jV (J 16), jV (J 17), jV (J 18), jV (J 19), jV (J 20), jV (J 21)]) fun x ↦ True) ∧ ∀ (s_1 : PS1) (J : Nat → Value), LInv.pre (I107 s R) s_1 → bif decide (s_1.1 < (↑(ByteArray.size s) : Int)) then In s_1.1 (↑(ByteArray.size s) : Int) ∧ bif decide (bAt s s_1.1 < (48 : Int)) then K (SX.v (SV.c (SC.val (Value.bool false)))) else In s_1.1 (↑(ByteArray.size s) : Int) ∧ bif decide (bAt s s_1.1 > (57 : Int)) then K (SX.v (SV.c (SC.val (Value.bool false)))) else FitE (I107 s R) [] (fun J ↦ [SX.v (SV.c (SC.val (Value.string s))), jV (J 1), jV (J 2), SX.v (SV.c (SC.val (Value.int IntKind.i64 (IntKind.wrap IntKind.i64 (s_1.1 + (1 : Int)))))), jV (J 4), jV (J 5), jV (J 6), jV (J 7), jV (J 8), jV (J 9), jV (J 10), jV (J 11), jV (J 12), jV (J 13), jV (J 14), jV (J 15), jV (J 16), jV (J 17), jV (J 18), jV (J 19), jV (J 20), jV (J 21)]) fun s' ↦ LInv.μ (I107 s R) s' < LInv.μ (I107 s R) s_1 else K (SX.v (SV.c (SC.val (Value.bool !ByteArray.toList s == ByteArray.toList (ByteArray.mk #[])))))) : evFn Tryz.prog O w0 (Γz O w0) (Λof 107 (I107 s R)) 100 5 107 [sV_ s] [] (fun y _ => K y) := vc_of h_ (by kernel_rfl)
set_option maxHeartbeats 4000000 in
set_option maxRecDepth 100000 in
theorem f95 (O : Nat → Prop) (w0 : World) (s : ByteArray) (m : Int) (R : PS2 → Prop) (K : SX → Prop) (h_ : SzS s ∧ ∀ (b : Bool), DgIs s b → bif !b then K (SX.tup [SV.c (SC.val (Value.int IntKind.i64 0)), SV.c (SC.val (Value.int IntKind.i64 3))]) else bif decide ((↑(ByteArray.size s) : Int) > (1 : Int)) then In (0 : Int) (↑(ByteArray.size s) : Int) ∧ bif bAt s (0 : Int) == (48 : Int) then K (SX.tup [SV.c (SC.val (Value.int IntKind.i64 0)), SV.c (SC.val (Value.int IntKind.i64 3))]) else (∀ (s_1 : PS2), LInv.pre (I95 s m R) s_1 → Nat.le (0 : Nat) (List.length (LInv.mem (I95 s m R) s_1))) ∧ (FitE (I95 s m R) [] (fun J ↦ [SX.v (SV.c (SC.val (Value.string s))), SX.v (SV.c (SC.val (Value.int IntKind.i64 m))), jV (J 2), jV (J 3), jV (J 4), jV (J 5), SX.v (SV.c (SC.val (Value.int IntKind.i64 0))), SX.v (SV.c (SC.val (Value.int IntKind.i64 0))), jV (J 8), jV (J 9), jV (J 10), jV (J 11), jV (J 12), jV (J 13), jV (J 14), jV (J 15), jV (J 16), jV (J 17), jV (J 18), jV (J 19), jV (J 20), jV (J 21), jV (J 22), jV (J 23), jV (J 24), jV (J 25), jV (J 26), jV (J 27), jV (J 28), jV (J 29), jV (J 30), jV (J 31), jV (J 32), jV (J 33), jV (J 34), jV (J 35), jV (J 36), jV (J 37), jV (J 38), jV (J 39), jV (J 40), jV (J 41), jV (J 42), jV (J 43)]) fun x ↦ True) ∧ ∀ (s_1 : PS2) (J : Nat → Value), LInv.pre (I95 s m R) s_1 → bif decide (s_1.1 < (↑(ByteArray.size s) : Int)) then In s_1.1 (↑(ByteArray.size s) : Int) ∧ bif decide (s_1.2 > IntKind.wrap IntKind.i64 (Int.tdiv (IntKind.wrap IntKind.i64 (m - IntKind.wrap IntKind.i64 (IntKind.wrap IntKind.u8 (bAt s s_1.1 - (48 : Int))))) (10 : Int))) then K (SX.tup [SV.c (SC.val (Value.int IntKind.i64 0)), SV.c (SC.val (Value.int IntKind.i64 6))]) else FitE (I95 s m R) [] (fun J ↦ [SX.v (SV.c (SC.val (Value.string s))), SX.v (SV.c (SC.val (Value.int IntKind.i64 m))), jV (J 2), jV (J 3), jV (J 4), jV (J 5), SX.v (SV.c (SC.val (Value.int IntKind.i64 (IntKind.wrap IntKind.i64 (IntKind.wrap IntKind.i64 ((10 : Int) * s_1.2) + IntKind.wrap IntKind.i64 (IntKind.wrap IntKind.u8 (bAt s s_1.1 - (48 : Int)))))))), SX.v (SV.c (SC.val (Value.int IntKind.i64 (IntKind.wrap IntKind.i64 (s_1.1 + (1 : Int)))))), jV (J 8), jV (J 9), jV (J 10), jV (J 11), jV (J 12), jV (J 13), jV (J 14), jV (J 15), jV (J 16), jV (J 17), jV (J 18), jV (J 19), jV (J 20), jV (J 21), jV (J 22), jV (J 23), jV (J 24), jV (J 25), jV (J 26), jV (J 27), jV (J 28), jV (J 29), jV (J 30), jV (J 31), jV (J 32), jV (J 33), jV (J 34), jV (J 35), jV (J 36), jV (J 37), jV (J 38), jV (J 39), jV (J 40), jV (J 41), jV (J 42), jV (J 43)]) fun s' ↦ LInv.μ (I95 s m R) s' < LInv.μ (I95 s m R) s_1 else K (SX.tup [SV.c (SC.val (Value.int IntKind.i64 s_1.2)), SV.c (SC.val (Value.int IntKind.i64 0))]) else (∀ (s_1 : PS2), LInv.pre (I95 s m R) s_1 → Nat.le (0 : Nat) (List.length (LInv.mem (I95 s m R) s_1))) ∧ (FitE (I95 s m R) [] (fun J ↦ [SX.v (SV.c (SC.val (Value.string s))), SX.v (SV.c (SC.val (Value.int IntKind.i64 m))), jV (J 2), jV (J 3), jV (J 4), jV (J 5), SX.v (SV.c (SC.val (Value.int IntKind.i64 0))), SX.v (SV.c (SC.val (Value.int IntKind.i64 0))), jV (J 8), jV (J 9), jV (J 10), jV (J 11), jV (J 12), jV (J 13), jV (J 14), jV (J 15), jV (J 16), jV (J 17), jV (J 18), jV (J 19), jV (J 20), jV (J 21), jV (J 22), jV (J 23), jV (J 24), jV (J 25), jV (J 26), jV (J 27), jV (J 28), jV (J 29), jV (J 30), jV (J 31), jV (J 32), jV (J 33), jV (J 34), jV (J 35), jV (J 36), jV (J 37), jV (J 38), jV (J 39), jV (J 40), jV (J 41), jV (J 42), jV (J 43)]) fun x ↦ True) ∧ ∀ (s_1 : PS2) (J : Nat → Value), LInv.pre (I95 s m R) s_1 → bif decide (s_1.1 < (↑(ByteArray.size s) : Int)) then In s_1.1 (↑(ByteArray.size s) : Int) ∧ bif decide (s_1.2 > IntKind.wrap IntKind.i64 (Int.tdiv (IntKind.wrap IntKind.i64 (m - IntKind.wrap IntKind.i64 (IntKind.wrap IntKind.u8 (bAt s s_1.1 - (48 : Int))))) (10 : Int))) then K (SX.tup [SV.c (SC.val (Value.int IntKind.i64 0)), SV.c (SC.val (Value.int IntKind.i64 6))]) else FitE (I95 s m R) [] (fun J ↦ [SX.v (SV.c (SC.val (Value.string s))), SX.v (SV.c (SC.val (Value.int IntKind.i64 m))), jV (J 2), jV (J 3), jV (J 4), jV (J 5), SX.v (SV.c (SC.val (Value.int IntKind.i64 (IntKind.wrap IntKind.i64 (IntKind.wrap IntKind.i64 ((10 : Int) * s_1.2) + IntKind.wrap IntKind.i64 (IntKind.wrap IntKind.u8 (bAt s s_1.1 - (48 : Int)))))))), SX.v (SV.c (SC.val (Value.int IntKind.i64 (IntKind.wrap IntKind.i64 (s_1.1 + (1 : Int)))))), jV (J 8), jV (J 9), jV (J 10), jV (J 11), jV (J 12), jV (J 13), jV (J 14), jV (J 15), jV (J 16), jV (J 17), jV (J 18), jV (J 19), jV (J 20), jV (J 21), jV (J 22), jV (J 23), jV (J 24), jV (J 25), jV (J 26), jV (J 27), jV (J 28), jV (J 29), jV (J 30), jV (J 31), jV (J 32), jV (J 33), jV (J 34), jV (J 35), jV (J 36), jV (J 37), jV (J 38), jV (J 39), jV (J 40), jV (J 41), jV (J 42), jV (J 43)]) fun s' ↦ LInv.μ (I95 s m R) s' < LInv.μ (I95 s m R) s_1 else K (SX.tup [SV.c (SC.val (Value.int IntKind.i64 s_1.2)), SV.c (SC.val (Value.int IntKind.i64 0))])) : evFn Tryz.prog O w0 (Γq1 O w0) (Λof 95 (I95 s m R)) 100 5 95 [sV_ s, iV m] [] (fun y _ => K y) := vc_of h_ (by kernel_rfl)
set_option maxHeartbeats 4000000 in
set_option maxRecDepth 100000 in
theorem f73 (O : Nat → Prop) (w0 : World) (s : ByteArray) (K : SX → Prop) (h_ : SzS s ∧ ∀ (r : ByteArray) (b : Bool), CutIs s r b → SzS r ∧ In (4611686018427387904 : Int) (4611686018427387905 : Int) ∧ In (8 : Int) (4611686018427387904 : Int) ∧ ∀ (v e : Int), NatIs (4611686018427387904 : Int) r v e → bif e != (0 : Int) then K (SX.tup [SV.c (SC.val (Value.int IntKind.i64 0)), SV.c (SC.val (Value.int IntKind.i64 e))]) else bif !b then K (SX.tup [SV.c (SC.val (Value.int IntKind.i64 v)), SV.c (SC.val (Value.int IntKind.i64 0))]) else bif v == (0 : Int) then K (SX.tup [SV.c (SC.val (Value.int IntKind.i64 0)), SV.c (SC.val (Value.int IntKind.i64 3))]) else K (SX.tup [SV.c (SC.val (Value.int IntKind.i64 (IntKind.wrap IntKind.i64 ((0 : Int) - v)))), SV.c (SC.val (Value.int IntKind.i64 0))])) : evFn Tryz.prog O w0 (Γq2 O w0) Λn 100 5 73 [sV_ s] [] (fun y _ => K y) := vc_of h_ (by kernel_rfl)
set_option maxHeartbeats 4000000 in
set_option maxRecDepth 100000 in
theorem f94 (O : Nat → Prop) (w0 : World) (s : ByteArray) (K : SX → Prop) (h_ : bif decide ((↑(ByteArray.size s) : Int) ≥ (↑(ByteArray.size (ByteArray.mk #[(45 : UInt8)])) : Int)) then Cut (0 : Int) (1 : Int) (↑(ByteArray.size s) : Int) ∧ bif !ByteArray.toList (ByteArray.extract s (match none with | some l => Int.toNat l | none => (0 : Nat)) (match some (↑(ByteArray.size (ByteArray.mk #[(45 : UInt8)])) : Int) with | some h => Int.toNat h | none => ByteArray.size s)) == ByteArray.toList (ByteArray.mk #[(45 : UInt8)]) then K (SX.tup [SV.c (SC.val (Value.string s)), SV.c (SC.val (Value.bool false))]) else Cut (1 : Int) (Option.getD none (↑(ByteArray.size s) : Int)) (↑(ByteArray.size s) : Int) ∧ K (SX.tup [SV.c (SC.val (Value.string (ByteArray.extract s (match some (↑(ByteArray.size (ByteArray.mk #[(45 : UInt8)])) : Int) with | some l => Int.toNat l | none => (0 : Nat)) (match none with | some h => Int.toNat h | none => ByteArray.size s)))), SV.c (SC.val (Value.bool true))]) else K (SX.tup [SV.c (SC.val (Value.string s)), SV.c (SC.val (Value.bool false))])) : evFn Tryz.prog O w0 (Γz O w0) Λn 100 5 94 [sV_ s, sV_ ⟨#[45]⟩] [] (fun y _ => K y) := vc_of h_ (by kernel_rfl)
set_option maxHeartbeats 4000000 in
set_option maxRecDepth 100000 in
theorem f112 (O : Nat → Prop) (w0 : World) (s : ByteArray) (R : PS2 → Prop) (K : SX → Prop) (h_ : (∀ (s_1 : PS2), LInv.pre (I112 s R) s_1 → Nat.le (0 : Nat) (List.length (LInv.mem (I112 s R) s_1))) ∧ (FitE (I112 s R) [] (fun J ↦ [SX.v (SV.c (SC.val (Value.string s))), jV (J 1), jV (J 2), jV (J 3), SX.v (SV.c (SC.val (Value.int IntKind.i64 0))), SX.v (SV.c (SC.val (Value.int IntKind.i64 0))), jV (J 6), jV (J 7), jV (J 8), jV (J 9), jV (J 10), jV (J 11), jV (J 12), jV (J 13), jV (J 14), jV (J 15), jV (J 16), jV (J 17), jV (J 18), jV (J 19), jV (J 20), jV (J 21), jV (J 22), jV (J 23), jV (J 24), jV (J 25), jV (J 26), jV (J 27), jV (J 28), jV (J 29), jV (J 30), jV (J 31), jV (J 32), jV (J 33), jV (J 34), jV (J 35), jV (J 36), jV (J 37), jV (J 38), jV (J 39), jV (J 40)]) fun x ↦ True) ∧ ∀ (s_1 : PS2) (J : Nat → Value), LInv.pre (I112 s R) s_1 → bif decide (s_1.1 < (↑(ByteArray.size s) : Int)) then In s_1.1 (↑(ByteArray.size s) : Int) ∧ bif decide (bAt s s_1.1 < (48 : Int)) then K (SX.tup [SV.c (SC.val (Value.int IntKind.i64 0)), SV.c (SC.val (Value.bool false))]) else In s_1.1 (↑(ByteArray.size s) : Int) ∧ bif decide (bAt s s_1.1 > (57 : Int)) then K (SX.tup [SV.c (SC.val (Value.int IntKind.i64 0)), SV.c (SC.val (Value.bool false))]) else In s_1.1 (↑(ByteArray.size s) : Int) ∧ bif decide (s_1.2 > IntKind.wrap IntKind.i64 (Int.tdiv (IntKind.wrap IntKind.i64 ((4611686018427387905 : Int) - IntKind.wrap IntKind.i64 (IntKind.wrap IntKind.u8 (bAt s s_1.1 - (48 : Int))))) (10 : Int))) then FitE (I112 s R) [] (fun J ↦ [SX.v (SV.c (SC.val (Value.string s))), jV (J 1), jV (J 2), jV (J 3), SX.v (SV.c (SC.val (Value.int IntKind.i64 4611686018427387905))), SX.v (SV.c (SC.val (Value.int IntKind.i64 (IntKind.wrap IntKind.i64 (s_1.1 + (1 : Int)))))), jV (J 6), jV (J 7), jV (J 8), jV (J 9), jV (J 10), jV (J 11), jV (J 12), jV (J 13), jV (J 14), jV (J 15), jV (J 16), jV (J 17), jV (J 18), jV (J 19), jV (J 20), jV (J 21), jV (J 22), jV (J 23), jV (J 24), jV (J 25), jV (J 26), jV (J 27), jV (J 28), jV (J 29), jV (J 30), jV (J 31), jV (J 32), jV (J 33), jV (J 34), jV (J 35), jV (J 36), jV (J 37), jV (J 38), jV (J 39), jV (J 40)]) fun s' ↦ LInv.μ (I112 s R) s' < LInv.μ (I112 s R) s_1 else FitE (I112 s R) [] (fun J ↦ [SX.v (SV.c (SC.val (Value.string s))), jV (J 1), jV (J 2), jV (J 3), SX.v (SV.c (SC.val (Value.int IntKind.i64 (IntKind.wrap IntKind.i64 (IntKind.wrap IntKind.i64 (s_1.2 * (10 : Int)) + IntKind.wrap IntKind.i64 (IntKind.wrap IntKind.u8 (bAt s s_1.1 - (48 : Int)))))))), SX.v (SV.c (SC.val (Value.int IntKind.i64 (IntKind.wrap IntKind.i64 (s_1.1 + (1 : Int)))))), jV (J 6), jV (J 7), jV (J 8), jV (J 9), jV (J 10), jV (J 11), jV (J 12), jV (J 13), jV (J 14), jV (J 15), jV (J 16), jV (J 17), jV (J 18), jV (J 19), jV (J 20), jV (J 21), jV (J 22), jV (J 23), jV (J 24), jV (J 25), jV (J 26), jV (J 27), jV (J 28), jV (J 29), jV (J 30), jV (J 31), jV (J 32), jV (J 33), jV (J 34), jV (J 35), jV (J 36), jV (J 37), jV (J 38), jV (J 39), jV (J 40)]) fun s' ↦ LInv.μ (I112 s R) s' < LInv.μ (I112 s R) s_1 else K (SX.tup [SV.c (SC.val (Value.int IntKind.i64 s_1.2)), SV.c (SC.val (Value.bool (decide ((↑(ByteArray.size s) : Int) > (0 : Int)))))])) : evFn Tryz.prog O w0 (Γz O w0) (Λof 112 (I112 s R)) 100 5 112 [sV_ s] [] (fun y _ => K y) := vc_of h_ (by kernel_rfl)
set_option maxHeartbeats 4000000 in
set_option maxRecDepth 100000 in
theorem f103 (O : Nat → Prop) (w0 : World) (s : ByteArray) (K : SX → Prop) (h_ : SzS s ∧ ∀ (n : Int) (b : Bool), NoIs s n b → bif b then bif (↑(ByteArray.size s) : Int) == (1 : Int) then K (SX.tup [SV.c (SC.val (Value.int IntKind.i64 n)), SV.c (SC.val (Value.bool true))]) else In (0 : Int) (↑(ByteArray.size s) : Int) ∧ K (SX.tup [SV.c (SC.val (Value.int IntKind.i64 n)), SV.c (SC.val (Value.bool (bAt s (0 : Int) != (48 : Int))))]) else K (SX.tup [SV.c (SC.val (Value.int IntKind.i64 n)), SV.c (SC.val (Value.bool false))])) : evFn Tryz.prog O w0 (Γq3 O w0) Λn 100 5 103 [sV_ s] [] (fun y _ => K y) := vc_of h_ (by kernel_rfl)
set_option maxHeartbeats 4000000 in
set_option maxRecDepth 100000 in
theorem f86 (O : Nat → Prop) (w0 : World) (s : ByteArray) (K : SX → Prop) (h_ : bif decide ((↑(ByteArray.size s) : Int) > (0 : Int)) then In (0 : Int) (↑(ByteArray.size s) : Int) ∧ bif bAt s (0 : Int) == (45 : Int) then Cut (1 : Int) (Option.getD none (↑(ByteArray.size s) : Int)) (↑(ByteArray.size s) : Int) ∧ SzS (ByteArray.extract s (match some (1 : Int) with | some l => Int.toNat l | none => (0 : Nat)) (match none with | some h => Int.toNat h | none => ByteArray.size s)) ∧ ∀ (n : Int) (b : Bool), NrIs (ByteArray.extract s (match some (1 : Int) with | some l => Int.toNat l | none => (0 : Nat)) (match none with | some h => Int.toNat h | none => ByteArray.size s)) n b → bif !b then K (SX.tup [SV.c (SC.val (Value.int IntKind.i64 0)), SV.c (SC.val (Value.int IntKind.i64 3))]) else bif bAt s (0 : Int) == (45 : Int) then bif n == (0 : Int) then K (SX.tup [SV.c (SC.val (Value.int IntKind.i64 0)), SV.c (SC.val (Value.int IntKind.i64 3))]) else bif decide (n > (4611686018427387904 : Int)) then K (SX.tup [SV.c (SC.val (Value.int IntKind.i64 0)), SV.c (SC.val (Value.int IntKind.i64 6))]) else bif bAt s (0 : Int) == (45 : Int) then K (SX.tup [SV.c (SC.val (Value.int IntKind.i64 (IntKind.wrap IntKind.i64 ((0 : Int) - n)))), SV.c (SC.val (Value.int IntKind.i64 0))]) else K (SX.tup [SV.c (SC.val (Value.int IntKind.i64 n)), SV.c (SC.val (Value.int IntKind.i64 0))]) else bif decide (n > (4611686018427387904 : Int)) then K (SX.tup [SV.c (SC.val (Value.int IntKind.i64 0)), SV.c (SC.val (Value.int IntKind.i64 6))]) else bif bAt s (0 : Int) == (45 : Int) then K (SX.tup [SV.c (SC.val (Value.int IntKind.i64 (IntKind.wrap IntKind.i64 ((0 : Int) - n)))), SV.c (SC.val (Value.int IntKind.i64 0))]) else K (SX.tup [SV.c (SC.val (Value.int IntKind.i64 n)), SV.c (SC.val (Value.int IntKind.i64 0))]) else SzS s ∧ ∀ (n : Int) (b : Bool), NrIs s n b → bif !b then K (SX.tup [SV.c (SC.val (Value.int IntKind.i64 0)), SV.c (SC.val (Value.int IntKind.i64 3))]) else bif bAt s (0 : Int) == (45 : Int) then bif n == (0 : Int) then K (SX.tup [SV.c (SC.val (Value.int IntKind.i64 0)), SV.c (SC.val (Value.int IntKind.i64 3))]) else bif decide (n > (4611686018427387904 : Int)) then K (SX.tup [SV.c (SC.val (Value.int IntKind.i64 0)), SV.c (SC.val (Value.int IntKind.i64 6))]) else bif bAt s (0 : Int) == (45 : Int) then K (SX.tup [SV.c (SC.val (Value.int IntKind.i64 (IntKind.wrap IntKind.i64 ((0 : Int) - n)))), SV.c (SC.val (Value.int IntKind.i64 0))]) else K (SX.tup [SV.c (SC.val (Value.int IntKind.i64 n)), SV.c (SC.val (Value.int IntKind.i64 0))]) else bif decide (n > (4611686018427387904 : Int)) then K (SX.tup [SV.c (SC.val (Value.int IntKind.i64 0)), SV.c (SC.val (Value.int IntKind.i64 6))]) else bif bAt s (0 : Int) == (45 : Int) then K (SX.tup [SV.c (SC.val (Value.int IntKind.i64 (IntKind.wrap IntKind.i64 ((0 : Int) - n)))), SV.c (SC.val (Value.int IntKind.i64 0))]) else K (SX.tup [SV.c (SC.val (Value.int IntKind.i64 n)), SV.c (SC.val (Value.int IntKind.i64 0))]) else SzS s ∧ ∀ (n : Int) (b : Bool), NrIs s n b → bif !b then K (SX.tup [SV.c (SC.val (Value.int IntKind.i64 0)), SV.c (SC.val (Value.int IntKind.i64 3))]) else bif decide (n > (4611686018427387904 : Int)) then K (SX.tup [SV.c (SC.val (Value.int IntKind.i64 0)), SV.c (SC.val (Value.int IntKind.i64 6))]) else K (SX.tup [SV.c (SC.val (Value.int IntKind.i64 n)), SV.c (SC.val (Value.int IntKind.i64 0))])) : evFn Tryz.prog O w0 (Γq4 O w0) Λn 100 5 86 [sV_ s] [] (fun y _ => K y) := vc_of h_ (by kernel_rfl)
--HIDE
theorem Γz_ok : TSF Tryz.prog Γz := TSF.none _
theorem blist (s : ByteArray) : s.toList = s.data.toList := Lib.toList_data s
theorem wrap8 {n : Int} (h0 : 0 ≤ n) (h1 : n ≤ 255) : IntKind.u8.wrap n = n := by
  unfold IntKind.wrap; simp [IntKind.bits, IntKind.signed]; omega
theorem isDg_of {a : Int} (h0 : ¬ a < 48) (h1 : ¬ a > 57) : isDg a = true := by
  unfold isDg
  rw [decide_eq_true (show 48 ≤ a by omega), decide_eq_true (show a ≤ 57 by omega)]; rfl
theorem isDg_at {a : Int} (h : isDg a = true) : 48 ≤ a ∧ a ≤ 57 := by
  unfold isDg at h
  simpa using h
theorem DgTo.snoc {s : ByteArray} {i : Int} (h : DgTo s i.toNat) (h0 : 0 ≤ i) (hd : isDg (bAt s i) = true) : DgTo s (i + 1).toNat := ⟨fun j hj => by
  by_cases e : j = i.toNat
  · subst e
    rw [show ((i.toNat : Nat) : Int) = i by omega]; exact hd
  · exact h.d j (by omega)⟩
theorem dgB_iff {s : ByteArray} : dgB s = true ↔ 0 < s.size ∧ DgTo s s.size := by
  unfold dgB
  simp only [Bool.and_eq_true, decide_eq_true_eq, List.all_eq_true, List.mem_range]
  exact ⟨fun ⟨a, b⟩ => ⟨a, ⟨b⟩⟩, fun ⟨a, b⟩ => ⟨a, b.d⟩⟩
theorem dgB_no {s : ByteArray} {i : Int} (h0 : 0 ≤ i) (h1 : i < s.size) (h : bAt s i < 48 ∨ bAt s i > 57) : dgB s = false := by
  cases hd : dgB s with
  | false => rfl
  | true =>
    have := (dgB_iff.1 hd).2.d i.toNat (by omega)
    rw [show ((i.toNat : Nat) : Int) = i by omega] at this
    have := isDg_at this
    omega
theorem dgB_end {s : ByteArray} {i : Int} (h : DgTo s i.toNat) (hi : ¬ i < s.size) : dgB s = decide (0 < s.size) := by
  by_cases hp : 0 < s.size
  · rw [decide_eq_true hp]
    exact dgB_iff.2 ⟨hp, ⟨fun j hj => h.d j (by omega)⟩⟩
  · unfold dgB
    rw [decide_eq_false hp]; rfl
theorem emptyB (s : ByteArray) : (s.toList == (ByteArray.mk #[]).toList) = decide (s.size = 0) := by
  rw [blist, blist]
  rcases s with ⟨⟨l⟩⟩
  cases l with
  | nil => rfl
  | cons x l =>
    have h1 : (ByteArray.mk ⟨x :: l⟩).size = l.length + 1 := rfl
    rw [h1, decide_eq_false (by omega)]
    rfl
def R107 (s : ByteArray) : Int → Prop := fun i => 0 ≤ i ∧ i ≤ s.size ∧ DgTo s i.toNat
theorem e107 (O : Nat → Prop) (w0 : World) : Entry Tryz.prog O w0 107 (gDgs O w0) :=
  Entry.pure Γz_ok 100 5 (g := gDgs) (fun O w0 args M k hg => by
    unfold gDgs at hg
    split at hg
    case h_2 => exact hg.elim
    rename_i s
    obtain ⟨⟨hle⟩, hk⟩ := hg
    refine ⟨_, _, rfl, hk _ ⟨rfl⟩, fun _ => rfl, fun w hw => ⟨_, f107 _ w s (R107 s) _ ⟨fun _ _ => Nat.zero_le _, ⟨⟨⟨0⟩, ⟨Int.le_refl _, by omega, ⟨fun j hj => absurd hj (Nat.not_lt_zero j)⟩⟩, trivial, fun _ => rfl, trivial⟩⟩, ?_⟩⟩⟩
    rintro ⟨i⟩ J ⟨i0, i1, hd⟩
    dsimp only
    refine cond_of (fun h => ?_) (fun h => ?_)
    · have h : i < (s.size : Int) := of_decide_eq_true h
      refine ⟨⟨i0, h⟩, cond_of (fun a => ?_) (fun a => ⟨⟨i0, h⟩, cond_of (fun b => ?_) (fun b => ?_)⟩)⟩
      · rw [dgB_no i0 h (.inl (of_decide_eq_true a))]
      · rw [dgB_no i0 h (.inr (of_decide_eq_true b))]
      · rw [wrap_in (by omega) (by omega)]
        exact ⟨⟨⟨i + 1⟩, ⟨by omega, by omega, hd.snoc i0 (isDg_of (of_decide_eq_false a) (of_decide_eq_false b))⟩, trivial, fun _ => rfl, by show (_ : Int).toNat < (_ : Int).toNat; omega⟩⟩
    · have h : ¬ i < (s.size : Int) := of_decide_eq_false h
      rw [dgB_end hd h, emptyB]
      by_cases hz : s.size = 0
      · rw [decide_eq_true hz, decide_eq_false (show ¬ 0 < s.size by omega)]; rfl
      · rw [decide_eq_false hz, decide_eq_true (show 0 < s.size by omega)]; rfl) O w0
theorem Γq1_ok : TSF Tryz.prog Γq1 := Γz_ok.add e107
theorem dg_at {s : ByteArray} {n : Nat} (hd : DgTo s n) {i : Int} (h0 : 0 ≤ i) (h1 : i < n) : 48 ≤ bAt s i ∧ bAt s i ≤ 57 := by
  have := hd.d i.toNat (by omega)
  rw [show ((i.toNat : Nat) : Int) = i by omega] at this
  exact isDg_at this
theorem decV_ge {s : ByteArray} {n : Nat} (hd : DgTo s n) : ∀ i, i ≤ n → 0 ≤ decV s i
  | 0, _ => Int.le_refl _
  | i + 1, h => by
    have := decV_ge hd i (by omega)
    have := dg_at hd (i := i) (by omega) (by omega)
    show 0 ≤ decV s i * 10 + (bAt s i - 48)
    omega
theorem decV_mono {s : ByteArray} {n : Nat} (hd : DgTo s n) {i : Nat} (j : Nat) (h : i ≤ j) (hj : j ≤ n) : decV s i ≤ decV s j := by
  induction j with
  | zero => rw [show i = 0 by omega]; exact Int.le_refl _
  | succ j ih =>
    by_cases e : i = j + 1
    · rw [e]; exact Int.le_refl _
    · have h1 := ih (by omega) (by omega)
      have h2 := decV_ge hd j (by omega)
      have h3 := dg_at hd (i := (j : Int)) (by omega) (by omega)
      show decV s i ≤ decV s j * 10 + (bAt s j - 48)
      omega
theorem decV_succ {s : ByteArray} {i : Int} (h0 : 0 ≤ i) : decV s (i + 1).toNat = decV s i.toNat * 10 + (bAt s i - 48) := by
  rw [show (i + 1).toNat = i.toNat + 1 by omega]
  show decV s i.toNat * 10 + (bAt s ((i.toNat : Nat) : Int) - 48) = _
  rw [show ((i.toNat : Nat) : Int) = i by omega]
def R95 (s : ByteArray) (m : Int) : PS2 → Prop := fun ⟨i, n⟩ => 0 ≤ i ∧ i ≤ s.size ∧ n = decV s i.toNat ∧ n ≤ m
theorem natP_no {m : Int} {s : ByteArray} (h : dgB s = false ∨ (1 < s.size ∧ bAt s 0 = 48)) : natP m s = (0, 3) := by unfold natP; rw [if_pos h]
theorem natP_yes {m : Int} {s : ByteArray} (h : ¬ (dgB s = false ∨ (1 < s.size ∧ bAt s 0 = 48))) : natP m s = if decV s s.size ≤ m then (decV s s.size, 0) else (0, 6) := by unfold natP; rw [if_neg h]
abbrev tupI (p : Int × Int) : SX := .tup [.c (.val (.int .i64 p.1)), .c (.val (.int .i64 p.2))]
theorem loop95 {w : World} {s : ByteArray} {m : Int} (hle : s.size ≤ 9223372036854775807) (hm0 : 9 ≤ m) (hm1 : m ≤ 4611686018427387904) (hd : dgB s = true) (hn : ¬ (dgB s = false ∨ (1 < s.size ∧ bAt s 0 = 48))) : ∀ (s_1 : PS2) (J : Nat → Value), LInv.pre (I95 s m (R95 s m)) s_1 →
    bif decide (s_1.i < (s.size : Int)) then In s_1.i (s.size : Int) ∧
      bif decide (s_1.n > IntKind.i64.wrap (Int.tdiv (IntKind.i64.wrap (m - IntKind.i64.wrap (IntKind.u8.wrap (bAt s s_1.i - 48)))) 10)) then SX.tup [.c (.val (.int .i64 0)), .c (.val (.int .i64 6))] = tupI (natP m s)
      else FitE (I95 s m (R95 s m)) [] (fun J => (I95 s m (R95 s m)).tmp ⟨IntKind.i64.wrap (s_1.i + 1), IntKind.i64.wrap (IntKind.i64.wrap (10 * s_1.n) + IntKind.i64.wrap (IntKind.u8.wrap (bAt s s_1.i - 48)))⟩ J) (fun s' => LInv.μ (I95 s m (R95 s m)) s' < LInv.μ (I95 s m (R95 s m)) s_1)
    else SX.tup [.c (.val (.int .i64 s_1.n)), .c (.val (.int .i64 0))] = tupI (natP m s) := by
  rintro ⟨i, n⟩ J ⟨i0, i1, i2, i3⟩
  dsimp only
  rw [natP_yes hn]
  obtain ⟨hp, hD⟩ := dgB_iff.1 hd
  have hg := decV_ge hD i.toNat (by omega)
  refine cond_of (fun h => ?_) (fun h => ?_)
  · have h : i < (s.size : Int) := of_decide_eq_true h
    have hb := dg_at hD i0 h
    have hs := decV_succ (s := s) i0
    have hmono := decV_mono (i := (i + 1).toNat) hD s.size (by omega) (Nat.le_refl _)
    rw [wrap8 (n := bAt s i - 48) (by omega) (by omega), wrap_in (n := bAt s i - 48) (by omega) (by omega), wrap_in (n := m - (bAt s i - 48)) (by omega) (by omega), Int.tdiv_eq_ediv_of_nonneg (by omega), wrap_in (n := (m - (bAt s i - 48)) / 10) (by omega) (by omega), wrap_in (n := i + 1) (by omega) (by omega)]
    refine ⟨⟨i0, h⟩, cond_of (fun c => ?_) (fun c => ?_)⟩
    · have c : n > (m - (bAt s i - 48)) / 10 := of_decide_eq_true c
      rw [if_neg (by omega)]
    · have c : ¬ n > (m - (bAt s i - 48)) / 10 := of_decide_eq_false c
      rw [wrap_in (n := 10 * n) (by omega) (by omega), wrap_in (n := 10 * n + (bAt s i - 48)) (by omega) (by omega)]
      exact ⟨⟨⟨i + 1, _⟩, ⟨by omega, by omega, by rw [hs]; omega, by omega⟩, trivial, fun _ => rfl, by show (_ : Int).toNat < (_ : Int).toNat; omega⟩⟩
  · have h : ¬ i < (s.size : Int) := of_decide_eq_false h
    rw [show i.toNat = s.size by omega] at i2
    rw [← i2, if_pos i3]
theorem e95 (O : Nat → Prop) (w0 : World) : Entry Tryz.prog O w0 95 (gNat O w0) :=
  Entry.pure Γq1_ok 100 5 (g := gNat) (fun O w0 args M k hg => by
    unfold gNat at hg
    split at hg
    case h_2 => exact hg.elim
    rename_i s m
    obtain ⟨⟨hle⟩, ⟨hm0, hm1⟩, ⟨_, hm2⟩, hk⟩ := hg
    refine ⟨tupI (natP m s), _, rfl, hk _ _ ⟨rfl, rfl⟩, fun _ => rfl, fun w hw => ⟨_, f95 _ w s m (R95 s m) _ ⟨⟨hle⟩, ?_⟩⟩⟩
    rintro b ⟨rfl⟩
    have st : FitE (I95 s m (R95 s m)) [] (fun J => (I95 s m (R95 s m)).tmp ⟨0, 0⟩ J) (fun _ => True) := ⟨⟨⟨0, 0⟩, ⟨Int.le_refl _, by omega, rfl, by omega⟩, trivial, fun _ => rfl, trivial⟩⟩
    refine cond_of (fun hb => ?_) (fun hb => cond_of (fun h1 => ?_) (fun h1 => ?_))
    · rw [natP_no (.inl (by simpa using hb))]
    · have h1 : (s.size : Int) > 1 := of_decide_eq_true h1
      have hd : dgB s = true := by simpa using hb
      refine ⟨⟨by omega, by omega⟩, cond_of (fun h2 => ?_) (fun h2 => ?_)⟩
      · rw [natP_no (.inr ⟨by omega, by simpa using h2⟩)]
      · exact ⟨fun _ _ => Nat.zero_le _, st, loop95 (w := w) hle (by omega) (by omega) hd (by rw [hd]; rintro (h | h); cases h; exact absurd h.2 (by simpa using h2))⟩
    · have h1 : ¬ (s.size : Int) > 1 := of_decide_eq_false h1
      have hd : dgB s = true := by simpa using hb
      exact ⟨fun _ _ => Nat.zero_le _, st, loop95 (w := w) hle (by omega) (by omega) hd (by rw [hd]; rintro (h | h); cases h; omega)⟩) O w0
theorem ext1 (s : ByteArray) (c : UInt8) : (((s.extract 0 1).toList == (ByteArray.mk #[c]).toList) = true) ↔ 0 < s.size ∧ bAt s 0 = (c.toNat : Int) := by
  rw [blist, blist, Lib.extract_data]
  rcases s with ⟨⟨l⟩⟩
  cases l with
  | nil => constructor <;> (intro h; first | exact absurd h.1 (by decide) | (simp at h))
  | cons x l =>
    have h1 : (ByteArray.mk ⟨x :: l⟩).size = l.length + 1 := rfl
    rw [h1]
    show (([x] == [c]) = true) ↔ _ ∧ ((x.toNat : Int) = c.toNat)
    have : x = c ↔ ((x.toNat : Int) = (c.toNat : Int)) := by rw [← UInt8.toNat_inj]; omega
    rw [← this]
    simp
theorem e94 (O : Nat → Prop) (w0 : World) : Entry Tryz.prog O w0 94 (gCutM O w0) :=
  Entry.pure Γz_ok 100 5 (g := gCutM) (fun O w0 args M k hg => by
    unfold gCutM at hg
    split at hg
    case h_2 => exact hg.elim
    rename_i s
    obtain ⟨⟨hle⟩, hk⟩ := hg
    refine ⟨_, _, rfl, hk _ _ ⟨rfl, rfl⟩, fun _ => rfl, fun w hw => ⟨Λn, f94 _ w s _ ?_⟩⟩
    have hz : (ByteArray.mk #[45]).size = 1 := rfl
    rw [hz]
    refine cond_of (fun h => ?_) (fun h => ?_)
    · have h : (s.size : Int) ≥ 1 := of_decide_eq_true h
      refine ⟨⟨Int.le_refl _, by decide, h⟩, cond_of (fun c => ?_) (fun c => ?_)⟩
      · have c : ((s.extract 0 1).toList == (ByteArray.mk #[45]).toList) = false := by simpa using c
        have hn : negB s = false := by
          cases hb : negB s with
          | false => rfl
          | true =>
            unfold negB at hb
            simp only [Bool.and_eq_true, decide_eq_true_eq, beq_iff_eq] at hb
            rw [(ext1 s 45).2 ⟨hb.1, hb.2⟩] at c
            cases c
        rw [hn]; rfl
      · have c : ((s.extract 0 1).toList == (ByteArray.mk #[45]).toList) = true := by simpa using c
        have hn : negB s = true := by
          obtain ⟨h1, h2⟩ := (ext1 s 45).1 c
          unfold negB
          rw [decide_eq_true h1, h2]; rfl
        rw [hn]
        exact ⟨⟨by decide, h, Int.le_refl _⟩, rfl⟩
    · have h : ¬ (s.size : Int) ≥ 1 := of_decide_eq_false h
      have hn : negB s = false := by
        unfold negB
        rw [decide_eq_false (by omega)]; rfl
      rw [hn]; rfl) O w0
theorem Γq2_ok : TSF Tryz.prog Γq2 := (Γz_ok.add e95).add e94
theorem tail_size {s : ByteArray} : (tailS s).size = s.size - 1 := by unfold tailS; rw [ByteArray.size_extract]; omega
theorem natP_in {m : Int} (hm : 0 ≤ m) {s : ByteArray} : 0 ≤ (natP m s).1 ∧ (natP m s).1 ≤ m := by
  unfold natP
  split
  · exact ⟨Int.le_refl _, hm⟩
  · rename_i h
    have hd : dgB s = true := by
      cases hd : dgB s with
      | true => rfl
      | false => exact absurd (.inl hd) h
    have := decV_ge (dgB_iff.1 hd).2 s.size (Nat.le_refl _)
    split
    · exact ⟨this, by assumption⟩
    · exact ⟨Int.le_refl _, hm⟩
theorem e73 (O : Nat → Prop) (w0 : World) : Entry Tryz.prog O w0 73 (gInt O w0) :=
  Entry.pure Γq2_ok 100 5 (g := gInt) (fun O w0 args M k hg => by
    unfold gInt at hg
    split at hg
    case h_2 => exact hg.elim
    rename_i s
    obtain ⟨⟨hle⟩, hk⟩ := hg
    refine ⟨tupI (intP s), _, rfl, hk _ _ ⟨rfl, rfl⟩, fun _ => rfl, fun w hw => ⟨Λn, f73 _ w s _ ⟨⟨hle⟩, ?_⟩⟩⟩
    rintro r b ⟨hb, hr⟩
    have hrs : r.size ≤ 9223372036854775807 := by
      rw [hr]
      split
      · rw [tail_size]; omega
      · exact hle
    refine ⟨⟨hrs⟩, ⟨by decide, by decide⟩, ⟨by decide, by decide⟩, ?_⟩
    rintro v e ⟨hv, he⟩
    have hin := natP_in (m := 4611686018427387904) (by decide) (s := r)
    rw [← hv] at hin
    unfold intP
    cases hn : negB s with
    | false =>
      rw [hn] at hb hr
      simp at hr
      subst hr hb
      simp only [Bool.false_eq_true, if_false]
      have e0 : e = 0 ∨ e ≠ 0 := by omega
      refine cond_of (fun h => ?_) (fun h => ?_)
      · have h : e ≠ 0 := by simpa using h
        have : v = 0 := by
          rw [hv]; rw [he] at h
          unfold natP at h ⊢
          split
          · rfl
          · rename_i h2
            rw [if_neg h2] at h
            split
            · rename_i h3; rw [if_pos h3] at h; exact absurd rfl h
            · rfl
        rw [this] at hv
        rw [hv, he]
      · have h : e = 0 := by simpa using h
        rw [h] at he
        rw [hv, he]; rfl
    | true =>
      rw [hn] at hb hr
      simp only [if_true] at hr ⊢
      subst hr hb
      rw [← hv, ← he]
      refine cond_of (fun h => ?_) (fun h => ?_)
      · have h : e ≠ 0 := by simpa using h
        rw [if_pos h]
      · have h : e = 0 := by simpa using h
        subst h
        rw [if_neg (by decide)]
        refine cond_of (fun h => by cases h) (fun _ => cond_of (fun h => ?_) (fun h => ?_))
        · have h : v = 0 := by simpa using h
          rw [if_pos h]
        · have h : v ≠ 0 := by simpa using h
          rw [if_neg h, wrap_in (by omega) (by omega), show 0 - v = -v by omega]) O w0
/-! the reference's -/
def R112 (s : ByteArray) : PS2 → Prop := fun ⟨i, n⟩ => 0 ≤ i ∧ i ≤ s.size ∧ DgTo s i.toNat ∧ n = if decV s i.toNat ≤ 4611686018427387905 then decV s i.toNat else 4611686018427387905
theorem e112 (O : Nat → Prop) (w0 : World) : Entry Tryz.prog O w0 112 (gNo O w0) :=
  Entry.pure Γz_ok 100 5 (g := gNo) (fun O w0 args M k hg => by
    unfold gNo at hg
    split at hg
    case h_2 => exact hg.elim
    rename_i s
    obtain ⟨⟨hle⟩, hk⟩ := hg
    refine ⟨_, _, rfl, hk (noP s) (dgB s) ⟨rfl, rfl⟩, fun _ => rfl, fun w hw => ⟨_, f112 _ w s (R112 s) _ ⟨fun _ _ => Nat.zero_le _, ⟨⟨⟨0, 0⟩, ⟨Int.le_refl _, by omega, ⟨fun j hj => absurd hj (Nat.not_lt_zero j)⟩, rfl⟩, trivial, fun _ => rfl, trivial⟩⟩, ?_⟩⟩⟩
    rintro ⟨i, n⟩ J ⟨i0, i1, hd, hn⟩
    dsimp only
    refine cond_of (fun h => ?_) (fun h => ?_)
    · have h : i < (s.size : Int) := of_decide_eq_true h
      refine ⟨⟨i0, h⟩, cond_of (fun a => ?_) (fun a => ⟨⟨i0, h⟩, cond_of (fun b => ?_) (fun b => ⟨⟨i0, h⟩, ?_⟩)⟩)⟩
      · unfold noP
        rw [dgB_no i0 h (.inl (of_decide_eq_true a))]; rfl
      · unfold noP
        rw [dgB_no i0 h (.inr (of_decide_eq_true b))]; rfl
      · have a := of_decide_eq_false a
        have b := of_decide_eq_false b
        have hs := decV_succ (s := s) i0
        have hg := decV_ge hd i.toNat (Nat.le_refl _)
        have hd2 := hd.snoc i0 (isDg_of a b)
        have nb : 0 ≤ n ∧ n ≤ 4611686018427387905 := by rw [hn]; split <;> omega
        rw [wrap8 (n := bAt s i - 48) (by omega) (by omega), wrap_in (n := bAt s i - 48) (by omega) (by omega), wrap_in (n := 4611686018427387905 - (bAt s i - 48)) (by omega) (by omega), Int.tdiv_eq_ediv_of_nonneg (by omega), wrap_in (n := (4611686018427387905 - (bAt s i - 48)) / 10) (by omega) (by omega), wrap_in (n := i + 1) (by omega) (by omega)]
        refine cond_of (fun c => ?_) (fun c => ?_)
        · have c : n > (4611686018427387905 - (bAt s i - 48)) / 10 := of_decide_eq_true c
          refine ⟨⟨⟨i + 1, 4611686018427387905⟩, ⟨by omega, by omega, hd2, ?_⟩, trivial, fun _ => rfl, by show (_ : Int).toNat < (_ : Int).toNat; omega⟩⟩
          rw [hs]
          split at hn <;> split <;> omega
        · have c : ¬ n > (4611686018427387905 - (bAt s i - 48)) / 10 := of_decide_eq_false c
          rw [wrap_in (n := n * 10) (by omega) (by omega), wrap_in (n := n * 10 + (bAt s i - 48)) (by omega) (by omega)]
          refine ⟨⟨⟨i + 1, _⟩, ⟨by omega, by omega, hd2, ?_⟩, trivial, fun _ => rfl, by show (_ : Int).toNat < (_ : Int).toNat; omega⟩⟩
          rw [hs]
          split at hn <;> split <;> omega
    · have h : ¬ i < (s.size : Int) := of_decide_eq_false h
      have hi : i.toNat = s.size := by omega
      rw [hi] at hn
      unfold noP
      rw [dgB_end hd h]
      by_cases hz : 0 < s.size
      · rw [decide_eq_true hz, if_pos rfl, ← hn, decide_eq_true (show (s.size : Int) > 0 by omega)]
      · have h0 : s.size = 0 := by omega
        rw [decide_eq_false hz, if_neg (by decide), decide_eq_false (show ¬ (s.size : Int) > 0 by omega)]
        rw [h0] at hn
        have hn : n = 0 := hn
        rw [hn]) O w0
theorem Γq3_ok : TSF Tryz.prog Γq3 := Γz_ok.add e112
theorem e103 (O : Nat → Prop) (w0 : World) : Entry Tryz.prog O w0 103 (gNr O w0) :=
  Entry.pure Γq3_ok 100 5 (g := gNr) (fun O w0 args M k hg => by
    unfold gNr at hg
    split at hg
    case h_2 => exact hg.elim
    rename_i s
    obtain ⟨⟨hle⟩, hk⟩ := hg
    refine ⟨_, _, rfl, hk (noP s) (nrB s) ⟨rfl, rfl⟩, fun _ => rfl, fun w hw => ⟨Λn, f103 _ w s _ ⟨⟨hle⟩, ?_⟩⟩⟩
    rintro n b ⟨rfl, rfl⟩
    unfold nrB
    refine cond_of (fun h => ?_) (fun h => ?_)
    · rw [h]
      have hp := (dgB_iff.1 h).1
      refine cond_of (fun h1 => ?_) (fun h1 => ⟨⟨by omega, by omega⟩, ?_⟩)
      · have h1 : s.size = 1 := by have h1 := eq_of_beq h1; omega
        rw [h1]; rfl
      · have h1 : (s.size == 1) = false := by
          have h1 : ¬ ((s.size : Int) = 1) := by simpa using h1
          simp; omega
        rw [h1]; rfl
    · rw [h]; rfl) O w0
theorem Γq4_ok : TSF Tryz.prog Γq4 := Γz_ok.add e103
theorem int_ref {s r : ByteArray} {b : Bool} (hb : b = negB s) (hr : r = if negB s = true then tailS s else s) :
    intP s = if nrB r = false then (0, 3) else if b = true ∧ noP r = 0 then (0, 3) else if noP r > 4611686018427387904 then (0, 6) else if b = true then (- noP r, 0) else (noP r, 0) := by
  have key : ∀ r, natP 4611686018427387904 r = if nrB r = false then (0, 3) else if noP r > 4611686018427387904 then (0, 6) else (noP r, 0) := fun r => by
    unfold natP nrB noP
    cases hd : dgB r with
    | false => simp
    | true =>
      have hp := (dgB_iff.1 hd).1
      have hg := decV_ge (dgB_iff.1 hd).2 r.size (Nat.le_refl _)
      by_cases h1 : r.size = 1
      · rw [if_neg (by rintro (h | h); cases h; omega)]
        simp only [h1, beq_self_eq_true, Bool.true_or, Bool.and_true, if_true, if_neg (show ¬ (true = false) by decide)]
        rw [h1] at hg
        repeat' split
        all_goals first | rfl | (exfalso; omega)
      · by_cases h2 : bAt r 0 = 48
        · rw [if_pos (.inr ⟨by omega, h2⟩), h2, if_pos (by simp; omega)]
        · have hc : (true && (r.size == 1 || !(bAt r 0 == 48))) = true := by simp [h1, h2]
          rw [if_neg (by rintro (h | h); cases h; exact h2 h.2), hc]
          simp only [if_true, if_neg (show ¬ (true = false) by decide)]
          repeat' split
          all_goals first | rfl | (exfalso; omega)
  unfold intP
  cases hn : negB s with
  | false =>
    rw [hn] at hb hr
    simp at hr
    subst hr hb
    rw [if_neg (by decide), key]
    simp
  | true =>
    rw [hn] at hb hr
    simp only [if_true] at hr
    subst hr hb
    rw [if_pos rfl, key]
    cases hnr : nrB (tailS s) with
    | false => simp
    | true =>
      simp only [if_neg (show ¬ (true = false) by decide), true_and, if_true]
      by_cases h0 : noP (tailS s) = 0
      · rw [h0]; simp
      · rw [if_neg h0]
        by_cases h6 : noP (tailS s) > 4611686018427387904
        · rw [if_pos h6, if_pos (by decide), if_pos h6]
        · rw [if_neg h6, if_neg (by simp), if_neg h0, if_neg h6]
theorem noP_in (s : ByteArray) : 0 ≤ noP s ∧ noP s ≤ 4611686018427387905 := by
  unfold noP
  split
  · rename_i h
    have := decV_ge (dgB_iff.1 h).2 s.size (Nat.le_refl _)
    split <;> omega
  · omega
theorem e86 (O : Nat → Prop) (w0 : World) : Entry Tryz.prog O w0 86 (gInt O w0) :=
  Entry.pure Γq4_ok 100 5 (g := gInt) (fun O w0 args M k hg => by
    unfold gInt at hg
    split at hg
    case h_2 => exact hg.elim
    rename_i s
    obtain ⟨⟨hle⟩, hk⟩ := hg
    refine ⟨tupI (intP s), _, rfl, hk _ _ ⟨rfl, rfl⟩, fun _ => rfl, fun w hw => ⟨Λn, f86 _ w s _ ?_⟩⟩
    have fin : ∀ (r : ByteArray) (b : Bool), b = negB s → (r = if negB s = true then tailS s else s) → SzS r ∧ ∀ (n : Int) (c : Bool), NrIs r n c →
        bif !c then SX.tup [.c (.val (.int .i64 0)), .c (.val (.int .i64 3))] = tupI (intP s) else
        bif b then bif n == 0 then SX.tup [.c (.val (.int .i64 0)), .c (.val (.int .i64 3))] = tupI (intP s) else
          bif decide (n > 4611686018427387904) then SX.tup [.c (.val (.int .i64 0)), .c (.val (.int .i64 6))] = tupI (intP s) else
          bif b then SX.tup [.c (.val (.int .i64 (IntKind.i64.wrap (0 - n)))), .c (.val (.int .i64 0))] = tupI (intP s) else SX.tup [.c (.val (.int .i64 n)), .c (.val (.int .i64 0))] = tupI (intP s)
        else
          bif decide (n > 4611686018427387904) then SX.tup [.c (.val (.int .i64 0)), .c (.val (.int .i64 6))] = tupI (intP s) else
          bif b then SX.tup [.c (.val (.int .i64 (IntKind.i64.wrap (0 - n)))), .c (.val (.int .i64 0))] = tupI (intP s) else SX.tup [.c (.val (.int .i64 n)), .c (.val (.int .i64 0))] = tupI (intP s) := fun r b hb hr => by
      refine ⟨⟨?_⟩, ?_⟩
      · rw [hr]
        split
        · rw [tail_size]; omega
        · exact hle
      rintro n c ⟨rfl, rfl⟩
      have hin := noP_in r
      rw [int_ref hb hr]
      refine cond_of (fun h => ?_) (fun h => ?_)
      · rw [if_pos (by simpa using h)]
      · rw [if_neg (by simpa using h)]
        cases b with
        | true =>
          simp only [true_and, if_true, cond_true]
          refine cond_of (fun h0 => ?_) (fun h0 => ?_)
          · rw [if_pos (by simpa using h0)]
          · rw [if_neg (by simpa using h0)]
            refine cond_of (fun h6 => ?_) (fun h6 => ?_)
            · rw [if_pos (of_decide_eq_true h6)]
            · have h6 := of_decide_eq_false h6
              rw [if_neg h6, wrap_in (by omega) (by omega), show 0 - noP r = - noP r by omega]
        | false =>
          simp only [Bool.false_eq_true, false_and, if_false, cond_false]
          refine cond_of (fun h6 => ?_) (fun h6 => ?_)
          · rw [if_pos (of_decide_eq_true h6)]
          · rw [if_neg (of_decide_eq_false h6)]
    refine cond_of (fun h => ?_) (fun h => ?_)
    · have h : (s.size : Int) > 0 := of_decide_eq_true h
      refine ⟨⟨by omega, by omega⟩, ?_⟩
      cases hb : (bAt s 0 == 45) with
      | true =>
        have hn : negB s = true := by unfold negB; rw [decide_eq_true (by omega), hb]; rfl
        refine ⟨⟨by decide, by show (1 : Int) ≤ s.size; omega, Int.le_refl _⟩, ?_⟩
        exact fin (tailS s) true hn.symm (by rw [hn]; rfl)
      | false =>
        have hn : negB s = false := by unfold negB; rw [hb]; simp
        exact fin s false hn.symm (by rw [hn]; rfl)
    · have h : ¬ (s.size : Int) > 0 := of_decide_eq_false h
      have hn : negB s = false := by unfold negB; rw [decide_eq_false (by omega)]; rfl
      refine ⟨⟨hle⟩, ?_⟩
      rintro n c hc
      have := (fin s false hn.symm (by rw [hn]; rfl)).2 n c hc
      exact this) O w0
--SHOW
end Go.Proofs.YtfhckpfiegenaaaGreatDoor.Tr
