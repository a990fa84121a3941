/- Small functions of Requires: last, insert, Compact. -/
import Derived.Test.YtomnecadhiflnaaDoorCm15
import Derived.Test.YtomnecadhiflnaaDoorCm18
namespace Go.Proofs.YtomnecadhiflnaaDoor.Br
open Go Go.RowKit Go.Proofs.YtomnecadhiflnaaDoor.Eng Go.Proofs.YtomnecadhiflnaaDoor.Cm
set_option linter.unusedVariables false
set_option linter.unusedSimpArgs false
def I31 (B : Option Addr) (l : Nat → S33) (As : Nat → Option Addr) (cs : Nat → Nat) (n c : Nat) (fr to : Int) (R : Int → Prop) : LInv where
  σ := N1
  pre := fun ⟨i⟩ => R i
  mem := fun _ => []
  tmp := fun ⟨i⟩ J => [cmdsV B l As cs n c, iV fr, iV to, jV (J 3), jV (J 4), jV (J 5), jV (J 6), iV i, jV (J 8), jV (J 9), jV (J 10), jV (J 11), jV (J 12), jV (J 13), jV (J 14), jV (J 15), jV (J 16), jV (J 17), jV (J 18), jV (J 19), jV (J 20), jV (J 21), jV (J 22), jV (J 23), jV (J 24), jV (J 25), jV (J 26), jV (J 27), jV (J 28), jV (J 29), jV (J 30), jV (J 31), jV (J 32), jV (J 33)]
  read := fun _ ts => rI ts 7
  junk := [3, 4, 5, 6, 8, 9, 10, 11, 12, 13, 14, 15, 16, 17, 18, 19, 20, 21, 22, 23, 24, 25, 26, 27, 28, 29, 30, 31, 32, 33]
  μ := fun ⟨i⟩ => (to - i).toNat
/-- A number, a bool, a list. -/
structure B3 where
  i : Int
  b : Bool
  n : Nat
  f : Nat → List SC
def lstAt (M : List Blk) (x : SX) : Nat × (Nat → List SC) := match x with
  | .v (.c (.lst k)) => (match M[k]? with
    | some (.lst _ _ n f) => (n, f)
    | _ => (0, fun _ => []))
  | _ => (0, fun _ => [])
def K1 (e sz t : Nat) (ts : List SX) : KE := match ts.getD t undefX with
  | .v (.c (.lst k)) => .at_ k
  | _ => .nil e sz t
def rB3 (M : List Blk) (ts : List SX) (di db dl : Nat) : B3 := match ts.getD di undefX, ts.getD db undefX with
  | .v (.c (.val (.int _ n))), .v (.c (.val (.bool m))) => ⟨n, m, (lstAt M (ts.getD dl undefX)).1, (lstAt M (ts.getD dl undefX)).2⟩
  | _, _ => ⟨0, false, 0, fun _ => []⟩
def I32 (A : Option Addr) (l : List Int) (c : Nat) (t : Int) (R : B3 → Prop) : LInv where
  σ := B3
  pre := fun ⟨i, d, n, f⟩ => R ⟨i, d, n, f⟩
  mem := fun ⟨i, d, n, f⟩ => [.lst 3 1 n f]
  tmp := fun ⟨i, d, n, f⟩ J => [sV A l c, iV t, jV (J 2), jV (J 3), jV (J 4), .v (.c (.lst 0)), bV d, iV i, jV (J 8), jV (J 9), jV (J 10), jV (J 11), jV (J 12), jV (J 13), jV (J 14), jV (J 15), jV (J 16), jV (J 17), jV (J 18), jV (J 19), jV (J 20), jV (J 21), jV (J 22), jV (J 23), jV (J 24), jV (J 25), jV (J 26), jV (J 27), jV (J 28), jV (J 29), jV (J 30), jV (J 31), jV (J 32), jV (J 33), jV (J 34), jV (J 35), jV (J 36), jV (J 37), jV (J 38), jV (J 39), jV (J 40), jV (J 41), jV (J 42), jV (J 43), jV (J 44), jV (J 45), jV (J 46), jV (J 47), jV (J 48)]
  read := fun M ts => rB3 M ts 7 6 5
  junk := [2, 3, 4, 8, 9, 10, 11, 12, 13, 14, 15, 16, 17, 18, 19, 20, 21, 22, 23, 24, 25, 26, 27, 28, 29, 30, 31, 32, 33, 34, 35, 36, 37, 38, 39, 40, 41, 42, 43, 44, 45, 46, 47, 48]
  μ := fun ⟨i, d, n, f⟩ => (l.length - i).toNat
  keep := some fun M ts => [K1 3 1 5 ts]
def I28 (l : List Int) (R : Int → Prop) : LInv where
  σ := N1
  pre := fun ⟨i⟩ => R i
  mem := fun _ => [.lst 3 1 l.length (ints l)]
  tmp := fun ⟨i⟩ J => [.v (.c (.lst 0)), jV (J 1), jV (J 2), iV i, jV (J 4), jV (J 5), jV (J 6), jV (J 7), jV (J 8), jV (J 9), jV (J 10), jV (J 11), jV (J 12), jV (J 13), jV (J 14), jV (J 15), jV (J 16), jV (J 17), jV (J 18), jV (J 19), jV (J 20), jV (J 21), jV (J 22), jV (J 23), jV (J 24), jV (J 25), jV (J 26), jV (J 27), jV (J 28), jV (J 29), jV (J 30), jV (J 31), jV (J 32), jV (J 33), jV (J 34), jV (J 35), jV (J 36), jV (J 37), jV (J 38), jV (J 39), jV (J 40), jV (J 41), jV (J 42), jV (J 43), jV (J 44), jV (J 45), jV (J 46), jV (J 47), jV (J 48), jV (J 49), jV (J 50), jV (J 51), jV (J 52), jV (J 53), jV (J 54), jV (J 55), jV (J 56), jV (J 57), jV (J 58), jV (J 59), jV (J 60)]
  read := fun _ ts => rI ts 3
  junk := [1, 2, 4, 5, 6, 7, 8, 9, 10, 11, 12, 13, 14, 15, 16, 17, 18, 19, 20, 21, 22, 23, 24, 25, 26, 27, 28, 29, 30, 31, 32, 33, 34, 35, 36, 37, 38, 39, 40, 41, 42, 43, 44, 45, 46, 47, 48, 49, 50, 51, 52, 53, 54, 55, 56, 57, 58, 59, 60]
  μ := fun ⟨i⟩ => (l.length - i).toNat
  keep := some fun M ts => [.at_ 0]
/-- The place from which on the list is cut, two numbers, the list. -/
structure C4 where
  p : Nat
  k : Int
  j : Int
  n : Nat
  f : Nat → List SC
def numAt (f : Nat → List SC) (j : Nat) : Int := match f j with
  | [.val (.int _ x)] => x
  | _ => 0
def numsC (f : Nat → List SC) : Nat → List SC := fun j => [.val (.int .i64 (numAt f j))]
def rC4 (M : List Blk) (ts : List SX) : C4 := match ts.getD 3 undefX, ts.getD 5 undefX, ts.getD 4 undefX with
  | .v (.c (.val (.int _ n))), .v (.c (.val (.int _ m))), .v (.c (.lsub _ _ lo q)) => ⟨lo, n, m, (lstAt M (ts.getD 0 undefX)).1, (lstAt M (ts.getD 0 undefX)).2⟩
  | _, _, _ => ⟨0, 0, 0, 0, fun _ => []⟩
def I28b (l : List Int) (R : C4 → Prop) : LInv where
  σ := C4
  pre := fun ⟨p, k, j, n, f⟩ => R ⟨p, k, j, n, f⟩
  mem := fun ⟨p, k, j, n, f⟩ => [.lst 3 1 n (numsC f)]
  tmp := fun ⟨p, k, j, n, f⟩ J => [.v (.c (.lst 0)), jV (J 1), jV (J 2), iV k, .v (.c (.lsub 0 1 p (l.length - p))), iV j, jV (J 6), jV (J 7), jV (J 8), jV (J 9), jV (J 10), jV (J 11), jV (J 12), jV (J 13), jV (J 14), jV (J 15), jV (J 16), jV (J 17), jV (J 18), jV (J 19), jV (J 20), jV (J 21), jV (J 22), jV (J 23), jV (J 24), jV (J 25), jV (J 26), jV (J 27), jV (J 28), jV (J 29), jV (J 30), jV (J 31), jV (J 32), jV (J 33), jV (J 34), jV (J 35), jV (J 36), jV (J 37), jV (J 38), jV (J 39), jV (J 40), jV (J 41), jV (J 42), jV (J 43), jV (J 44), jV (J 45), jV (J 46), jV (J 47), jV (J 48), jV (J 49), jV (J 50), jV (J 51), jV (J 52), jV (J 53), jV (J 54), jV (J 55), jV (J 56), jV (J 57), jV (J 58), jV (J 59), jV (J 60)]
  read := rC4
  junk := [1, 2, 6, 7, 8, 9, 10, 11, 12, 13, 14, 15, 16, 17, 18, 19, 20, 21, 22, 23, 24, 25, 26, 27, 28, 29, 30, 31, 32, 33, 34, 35, 36, 37, 38, 39, 40, 41, 42, 43, 44, 45, 46, 47, 48, 49, 50, 51, 52, 53, 54, 55, 56, 57, 58, 59, 60]
  μ := fun ⟨p, k, j, n, f⟩ => (l.length - j).toNat
  keep := some fun M ts => [.at_ 0]
def Λ2 (f k1 : Nat) (I1 : LInv) (k2 : Nat) (I2 : LInv) : LT := fun g j => bif Nat.beq g f then (bif Nat.beq j k1 then some I1 else bif Nat.beq j k2 then some I2 else none) else none
set_option maxHeartbeats 4000000 in
set_option maxRecDepth 100000 in
theorem f31 (O : Nat → Prop) (w0 : World) (B : Option Addr) (l : Nat → S33) (As : Nat → Option Addr) (cs : Nat → Nat) (n c : Nat) (fr to : Int) (R : Int → Prop) (K : SX → Prop) (h_ : (∀ (s : N1), LInv.pre (I31 B l As cs n c fr to R) s → Nat.le (0 : Nat) (List.length (LInv.mem (I31 B l As cs n c fr to R) s))) ∧ Fits (I31 B l As cs n c fr to R) (N1.mk (IntKind.wrap IntKind.i64 (fr + (1 : Int)))) (LInv.mem (I31 B l As cs n c fr to R) (N1.mk (IntKind.wrap IntKind.i64 (fr + (1 : Int))))) (LInv.tmp (I31 B l As cs n c fr to R) (N1.mk (IntKind.wrap IntKind.i64 (fr + (1 : Int))))) ∧ ∀ (s : N1) (J : Nat → Value), LInv.pre (I31 B l As cs n c fr to R) s → bif decide (s.1 < to) then In s.1 (↑n : Int) ∧ Option.isSome B = true ∧ Option.isSome B = true ∧ RowAt O w0 B (28 : Nat) (rowsC l As cs ((0 : Nat) + Int.toNat s.1)) ((0 : Nat) + Int.toNat s.1) ∧ bif S33.f0 (l ((0 : Nat) + Int.toNat s.1)) == (4 : Int) then In s.1 (↑n : Int) ∧ Option.isSome B = true ∧ Option.isSome B = true ∧ RowAt O w0 B (28 : Nat) (rowsC l As cs ((0 : Nat) + Int.toNat s.1)) ((0 : Nat) + Int.toNat s.1) ∧ In fr (↑n : Int) ∧ Option.isSome B = true ∧ Option.isSome B = true ∧ RowAt O w0 B (28 : Nat) (rowsC l As cs ((0 : Nat) + Int.toNat fr)) ((0 : Nat) + Int.toNat fr) ∧ bif S33.f1 (l ((0 : Nat) + Int.toNat s.1)) == S33.f1 (l ((0 : Nat) + Int.toNat fr)) then K (SX.v (SV.c (SC.val (Value.bool false)))) else Fits (I31 B l As cs n c fr to R) (N1.mk (IntKind.wrap IntKind.i64 (s.1 + (1 : Int)))) (LInv.mem (I31 B l As cs n c fr to R) (N1.mk (IntKind.wrap IntKind.i64 (s.1 + (1 : Int))))) (LInv.tmp (I31 B l As cs n c fr to R) (N1.mk (IntKind.wrap IntKind.i64 (s.1 + (1 : Int))))) ∧ Dec (I31 B l As cs n c fr to R) (N1.mk (IntKind.wrap IntKind.i64 (s.1 + (1 : Int)))) s else Fits (I31 B l As cs n c fr to R) (N1.mk (IntKind.wrap IntKind.i64 (s.1 + (1 : Int)))) (LInv.mem (I31 B l As cs n c fr to R) (N1.mk (IntKind.wrap IntKind.i64 (s.1 + (1 : Int))))) (LInv.tmp (I31 B l As cs n c fr to R) (N1.mk (IntKind.wrap IntKind.i64 (s.1 + (1 : Int))))) ∧ Dec (I31 B l As cs n c fr to R) (N1.mk (IntKind.wrap IntKind.i64 (s.1 + (1 : Int)))) s else K (SX.v (SV.c (SC.val (Value.bool true))))) : evFn Tryd.prog O w0 (Γ14 O w0) (Λof 31 (I31 B l As cs n c fr to R)) 100 5 31 [cmdsV B l As cs n c, iV fr, iV to] [] (fun y _ => K y) := vc_of h_ (by kernel_rfl)
set_option maxHeartbeats 4000000 in
set_option maxRecDepth 100000 in
theorem f32 (O : Nat → Prop) (w0 : World) (A : Option Addr) (l : List Int) (c : Nat) (t : Int) (R : B3 → Prop) (K : SX → List Blk → Prop) (h_ : (∀ (s : B3), LInv.pre (I32 A l c t R) s → Nat.le (0 : Nat) (List.length (LInv.mem (I32 A l c t R) s))) ∧ Fits (I32 A l c t R) (B3.mk (0 : Int) false (0 : Nat) fun x ↦ []) (LInv.mem (I32 A l c t R) (B3.mk (0 : Int) false (0 : Nat) fun x ↦ [])) (LInv.tmp (I32 A l c t R) (B3.mk (0 : Int) false (0 : Nat) fun x ↦ [])) ∧ ∀ (s : B3) (J : Nat → Value), LInv.pre (I32 A l c t R) s → bif decide (s.1 < (↑(List.length l) : Int)) then bif !s.2 then In s.1 (↑(List.length l) : Int) ∧ Option.isSome A = true ∧ RowAt O w0 A (1 : Nat) (ints l ((0 : Nat) + Int.toNat s.1)) ((0 : Nat) + Int.toNat s.1) ∧ bif decide (List.getD l ((0 : Nat) + Int.toNat s.1) (0 : Int) ≥ t) then Room (s.3 + (1 : Nat)) (8 : Nat) ∧ In s.1 (↑(List.length l) : Int) ∧ Option.isSome A = true ∧ RowAt O w0 A (1 : Nat) (ints l ((0 : Nat) + Int.toNat s.1)) ((0 : Nat) + Int.toNat s.1) ∧ bif List.getD l ((0 : Nat) + Int.toNat s.1) (0 : Int) != t then In s.1 (↑(List.length l) : Int) ∧ Option.isSome A = true ∧ RowAt O w0 A (1 : Nat) (ints l ((0 : Nat) + Int.toNat s.1)) ((0 : Nat) + Int.toNat s.1) ∧ Room (s.3 + (1 : Nat) + (1 : Nat)) (8 : Nat) ∧ Fits (I32 A l c t R) (B3.mk (IntKind.wrap IntKind.i64 (s.1 + (1 : Int))) true (s.3 + (1 : Nat) + (1 : Nat)) fun j ↦ bif Nat.blt j (s.3 + (1 : Nat)) then bif Nat.blt j s.3 then s.4 j else [SC.val (Value.int IntKind.i64 t)] else [SC.val (Value.int IntKind.i64 (List.getD l ((0 : Nat) + Int.toNat s.1) (0 : Int)))]) (LInv.mem (I32 A l c t R) (B3.mk (IntKind.wrap IntKind.i64 (s.1 + (1 : Int))) true (s.3 + (1 : Nat) + (1 : Nat)) fun j ↦ bif Nat.blt j (s.3 + (1 : Nat)) then bif Nat.blt j s.3 then s.4 j else [SC.val (Value.int IntKind.i64 t)] else [SC.val (Value.int IntKind.i64 (List.getD l ((0 : Nat) + Int.toNat s.1) (0 : Int)))])) (LInv.tmp (I32 A l c t R) (B3.mk (IntKind.wrap IntKind.i64 (s.1 + (1 : Int))) true (s.3 + (1 : Nat) + (1 : Nat)) fun j ↦ bif Nat.blt j (s.3 + (1 : Nat)) then bif Nat.blt j s.3 then s.4 j else [SC.val (Value.int IntKind.i64 t)] else [SC.val (Value.int IntKind.i64 (List.getD l ((0 : Nat) + Int.toNat s.1) (0 : Int)))])) ∧ Dec (I32 A l c t R) (B3.mk (IntKind.wrap IntKind.i64 (s.1 + (1 : Int))) true (s.3 + (1 : Nat) + (1 : Nat)) fun j ↦ bif Nat.blt j (s.3 + (1 : Nat)) then bif Nat.blt j s.3 then s.4 j else [SC.val (Value.int IntKind.i64 t)] else [SC.val (Value.int IntKind.i64 (List.getD l ((0 : Nat) + Int.toNat s.1) (0 : Int)))]) s else Fits (I32 A l c t R) (B3.mk (IntKind.wrap IntKind.i64 (s.1 + (1 : Int))) true (s.3 + (1 : Nat)) fun j ↦ bif Nat.blt j s.3 then s.4 j else [SC.val (Value.int IntKind.i64 t)]) (LInv.mem (I32 A l c t R) (B3.mk (IntKind.wrap IntKind.i64 (s.1 + (1 : Int))) true (s.3 + (1 : Nat)) fun j ↦ bif Nat.blt j s.3 then s.4 j else [SC.val (Value.int IntKind.i64 t)])) (LInv.tmp (I32 A l c t R) (B3.mk (IntKind.wrap IntKind.i64 (s.1 + (1 : Int))) true (s.3 + (1 : Nat)) fun j ↦ bif Nat.blt j s.3 then s.4 j else [SC.val (Value.int IntKind.i64 t)])) ∧ Dec (I32 A l c t R) (B3.mk (IntKind.wrap IntKind.i64 (s.1 + (1 : Int))) true (s.3 + (1 : Nat)) fun j ↦ bif Nat.blt j s.3 then s.4 j else [SC.val (Value.int IntKind.i64 t)]) s else In s.1 (↑(List.length l) : Int) ∧ Option.isSome A = true ∧ RowAt O w0 A (1 : Nat) (ints l ((0 : Nat) + Int.toNat s.1)) ((0 : Nat) + Int.toNat s.1) ∧ bif List.getD l ((0 : Nat) + Int.toNat s.1) (0 : Int) != t then In s.1 (↑(List.length l) : Int) ∧ Option.isSome A = true ∧ RowAt O w0 A (1 : Nat) (ints l ((0 : Nat) + Int.toNat s.1)) ((0 : Nat) + Int.toNat s.1) ∧ Room (s.3 + (1 : Nat)) (8 : Nat) ∧ Fits (I32 A l c t R) (B3.mk (IntKind.wrap IntKind.i64 (s.1 + (1 : Int))) s.2 (s.3 + (1 : Nat)) fun j ↦ bif Nat.blt j s.3 then s.4 j else [SC.val (Value.int IntKind.i64 (List.getD l ((0 : Nat) + Int.toNat s.1) (0 : Int)))]) (LInv.mem (I32 A l c t R) (B3.mk (IntKind.wrap IntKind.i64 (s.1 + (1 : Int))) s.2 (s.3 + (1 : Nat)) fun j ↦ bif Nat.blt j s.3 then s.4 j else [SC.val (Value.int IntKind.i64 (List.getD l ((0 : Nat) + Int.toNat s.1) (0 : Int)))])) (LInv.tmp (I32 A l c t R) (B3.mk (IntKind.wrap IntKind.i64 (s.1 + (1 : Int))) s.2 (s.3 + (1 : Nat)) fun j ↦ bif Nat.blt j s.3 then s.4 j else [SC.val (Value.int IntKind.i64 (List.getD l ((0 : Nat) + Int.toNat s.1) (0 : Int)))])) ∧ Dec (I32 A l c t R) (B3.mk (IntKind.wrap IntKind.i64 (s.1 + (1 : Int))) s.2 (s.3 + (1 : Nat)) fun j ↦ bif Nat.blt j s.3 then s.4 j else [SC.val (Value.int IntKind.i64 (List.getD l ((0 : Nat) + Int.toNat s.1) (0 : Int)))]) s else Fits (I32 A l c t R) (B3.mk (IntKind.wrap IntKind.i64 (s.1 + (1 : Int))) s.2 s.3 s.4) (LInv.mem (I32 A l c t R) (B3.mk (IntKind.wrap IntKind.i64 (s.1 + (1 : Int))) s.2 s.3 s.4)) (LInv.tmp (I32 A l c t R) (B3.mk (IntKind.wrap IntKind.i64 (s.1 + (1 : Int))) s.2 s.3 s.4)) ∧ Dec (I32 A l c t R) (B3.mk (IntKind.wrap IntKind.i64 (s.1 + (1 : Int))) s.2 s.3 s.4) s else In s.1 (↑(List.length l) : Int) ∧ Option.isSome A = true ∧ RowAt O w0 A (1 : Nat) (ints l ((0 : Nat) + Int.toNat s.1)) ((0 : Nat) + Int.toNat s.1) ∧ bif List.getD l ((0 : Nat) + Int.toNat s.1) (0 : Int) != t then In s.1 (↑(List.length l) : Int) ∧ Option.isSome A = true ∧ RowAt O w0 A (1 : Nat) (ints l ((0 : Nat) + Int.toNat s.1)) ((0 : Nat) + Int.toNat s.1) ∧ Room (s.3 + (1 : Nat)) (8 : Nat) ∧ Fits (I32 A l c t R) (B3.mk (IntKind.wrap IntKind.i64 (s.1 + (1 : Int))) s.2 (s.3 + (1 : Nat)) fun j ↦ bif Nat.blt j s.3 then s.4 j else [SC.val (Value.int IntKind.i64 (List.getD l ((0 : Nat) + Int.toNat s.1) (0 : Int)))]) (LInv.mem (I32 A l c t R) (B3.mk (IntKind.wrap IntKind.i64 (s.1 + (1 : Int))) s.2 (s.3 + (1 : Nat)) fun j ↦ bif Nat.blt j s.3 then s.4 j else [SC.val (Value.int IntKind.i64 (List.getD l ((0 : Nat) + Int.toNat s.1) (0 : Int)))])) (LInv.tmp (I32 A l c t R) (B3.mk (IntKind.wrap IntKind.i64 (s.1 + (1 : Int))) s.2 (s.3 + (1 : Nat)) fun j ↦ bif Nat.blt j s.3 then s.4 j else [SC.val (Value.int IntKind.i64 (List.getD l ((0 : Nat) + Int.toNat s.1) (0 : Int)))])) ∧ Dec (I32 A l c t R) (B3.mk (IntKind.wrap IntKind.i64 (s.1 + (1 : Int))) s.2 (s.3 + (1 : Nat)) fun j ↦ bif Nat.blt j s.3 then s.4 j else [SC.val (Value.int IntKind.i64 (List.getD l ((0 : Nat) + Int.toNat s.1) (0 : Int)))]) s else Fits (I32 A l c t R) (B3.mk (IntKind.wrap IntKind.i64 (s.1 + (1 : Int))) s.2 s.3 s.4) (LInv.mem (I32 A l c t R) (B3.mk (IntKind.wrap IntKind.i64 (s.1 + (1 : Int))) s.2 s.3 s.4)) (LInv.tmp (I32 A l c t R) (B3.mk (IntKind.wrap IntKind.i64 (s.1 + (1 : Int))) s.2 s.3 s.4)) ∧ Dec (I32 A l c t R) (B3.mk (IntKind.wrap IntKind.i64 (s.1 + (1 : Int))) s.2 s.3 s.4) s else bif !s.2 then Room (s.3 + (1 : Nat)) (8 : Nat) ∧ K (SX.v (SV.c (SC.lst (2 : Nat)))) [Blk.dead, Blk.mk (3 : Nat) [SC.val (Value.int IntKind.i64 t)], Blk.lst (3 : Nat) (1 : Nat) (s.3 + (1 : Nat)) fun j ↦ bif Nat.blt j s.3 then s.4 j else [SC.val (Value.int IntKind.i64 t)]] else K (SX.v (SV.c (SC.lst (0 : Nat)))) [Blk.lst (nat_lit 3) (1 : Nat) s.3 s.4]) : evFn Tryd.prog O w0 (Γ14 O w0) (Λof 32 (I32 A l c t R)) 100 5 32 [sV A l c, iV t] [] (fun y M => K y M) := vc_of h_ (by kernel_rfl)
set_option maxHeartbeats 4000000 in
set_option maxRecDepth 100000 in
theorem f28 (O : Nat → Prop) (w0 : World) (l : List Int) (R1 : Int → Prop) (R2 : C4 → Prop) (K : SX → List Blk → Prop) (h_ : bif decide ((↑(List.length l) : Int) < (2 : Int)) then K (SX.v (SV.c (SC.lst (0 : Nat)))) [Blk.lst (nat_lit 3) (1 : Nat) (List.length l) (ints l)] else (∀ (s : N1), LInv.pre (I28 l R1) s → Nat.le (1 : Nat) (List.length (LInv.mem (I28 l R1) s))) ∧ Fits (I28 l R1) (N1.mk (1 : Int)) (LInv.mem (I28 l R1) (N1.mk (1 : Int))) (LInv.tmp (I28 l R1) (N1.mk (1 : Int))) ∧ ∀ (s : N1) (J : Nat → Value), LInv.pre (I28 l R1) s → bif decide (s.1 < (↑(List.length l) : Int)) then In s.1 (↑(List.length l) : Int) ∧ In (↑(Int.toNat s.1) : Int) (↑(List.length l) : Int) ∧ In (IntKind.wrap IntKind.i64 (s.1 - (1 : Int))) (↑(List.length l) : Int) ∧ In (↑(Int.toNat (IntKind.wrap IntKind.i64 (s.1 - (1 : Int)))) : Int) (↑(List.length l) : Int) ∧ bif List.getD l (Int.toNat s.1) (0 : Int) == List.getD l (Int.toNat (IntKind.wrap IntKind.i64 (s.1 - (1 : Int)))) (0 : Int) then Cut (Option.getD (some s.1) (0 : Int)) (Option.getD none (↑(List.length l) : Int)) (↑(List.length l) : Int) ∧ (∀ (s : C4), LInv.pre (I28b l R2) s → Nat.le (1 : Nat) (List.length (LInv.mem (I28b l R2) s))) ∧ Fits (I28b l R2) (C4.mk (Int.toNat s.1) s.1 (1 : Int) (List.length l) (ints l)) (LInv.mem (I28b l R2) (C4.mk (Int.toNat s.1) s.1 (1 : Int) (List.length l) (ints l))) (LInv.tmp (I28b l R2) (C4.mk (Int.toNat s.1) s.1 (1 : Int) (List.length l) (ints l))) ∧ ∀ (s : C4) (J : Nat → Value), LInv.pre (I28b l R2) s → In ((↑s.1 : Int) + (↑(List.length l - s.1) : Int)) ((↑s.4 : Int) + (1 : Int)) ∧ bif decide (s.3 < (↑(List.length l - s.1) : Int)) then In s.3 (↑(List.length l - s.1) : Int) ∧ In ((↑s.1 : Int) + (↑(List.length l - s.1) : Int)) ((↑s.4 : Int) + (1 : Int)) ∧ In (↑(s.1 + Int.toNat s.3) : Int) (↑s.4 : Int) ∧ In (IntKind.wrap IntKind.i64 (s.3 - (1 : Int))) (↑(List.length l - s.1) : Int) ∧ In ((↑s.1 : Int) + (↑(List.length l - s.1) : Int)) ((↑s.4 : Int) + (1 : Int)) ∧ In (↑(s.1 + Int.toNat (IntKind.wrap IntKind.i64 (s.3 - (1 : Int)))) : Int) (↑s.4 : Int) ∧ bif numAt s.5 (s.1 + Int.toNat s.3) != numAt s.5 (s.1 + Int.toNat (IntKind.wrap IntKind.i64 (s.3 - (1 : Int)))) then In s.3 (↑(List.length l - s.1) : Int) ∧ In ((↑s.1 : Int) + (↑(List.length l - s.1) : Int)) ((↑s.4 : Int) + (1 : Int)) ∧ In (↑(s.1 + Int.toNat s.3) : Int) (↑s.4 : Int) ∧ In s.2 (↑s.4 : Int) ∧ In (↑(Int.toNat s.2) : Int) (↑s.4 : Int) ∧ Fits (I28b l R2) (C4.mk s.1 (IntKind.wrap IntKind.i64 (s.2 + (1 : Int))) (IntKind.wrap IntKind.i64 (s.3 + (1 : Int))) s.4 fun j' ↦ bif Nat.beq j' (Int.toNat s.2) then [SC.val (Value.int IntKind.i64 (numAt s.5 (s.1 + Int.toNat s.3)))] else [SC.val (Value.int IntKind.i64 (numAt s.5 j'))]) [Blk.lst (nat_lit 3) (1 : Nat) s.4 fun j' ↦ bif Nat.beq j' (Int.toNat s.2) then [SC.val (Value.int IntKind.i64 (numAt s.5 (s.1 + Int.toNat s.3)))] else [SC.val (Value.int IntKind.i64 (numAt s.5 j'))]] (LInv.tmp (I28b l R2) (C4.mk s.1 (IntKind.wrap IntKind.i64 (s.2 + (1 : Int))) (IntKind.wrap IntKind.i64 (s.3 + (1 : Int))) s.4 fun j' ↦ bif Nat.beq j' (Int.toNat s.2) then [SC.val (Value.int IntKind.i64 (numAt s.5 (s.1 + Int.toNat s.3)))] else [SC.val (Value.int IntKind.i64 (numAt s.5 j'))])) ∧ Dec (I28b l R2) (C4.mk s.1 (IntKind.wrap IntKind.i64 (s.2 + (1 : Int))) (IntKind.wrap IntKind.i64 (s.3 + (1 : Int))) s.4 fun j' ↦ bif Nat.beq j' (Int.toNat s.2) then [SC.val (Value.int IntKind.i64 (numAt s.5 (s.1 + Int.toNat s.3)))] else [SC.val (Value.int IntKind.i64 (numAt s.5 j'))]) s else Fits (I28b l R2) (C4.mk s.1 s.2 (IntKind.wrap IntKind.i64 (s.3 + (1 : Int))) s.4 (numsC s.5)) (LInv.mem (I28b l R2) (C4.mk s.1 s.2 (IntKind.wrap IntKind.i64 (s.3 + (1 : Int))) s.4 (numsC s.5))) (LInv.tmp (I28b l R2) (C4.mk s.1 s.2 (IntKind.wrap IntKind.i64 (s.3 + (1 : Int))) s.4 (numsC s.5))) ∧ Dec (I28b l R2) (C4.mk s.1 s.2 (IntKind.wrap IntKind.i64 (s.3 + (1 : Int))) s.4 (numsC s.5)) s else Cut (Option.getD (some s.2) (0 : Int)) (Option.getD none (↑s.4 : Int)) (↑s.4 : Int) ∧ In ((↑(Int.toNat s.2) : Int) + (↑(s.4 - Int.toNat s.2) : Int)) ((↑s.4 : Int) + (1 : Int)) ∧ Cut (0 : Int) (Option.getD (some s.2) (↑s.4 : Int)) (↑s.4 : Int) ∧ K (SX.v (SV.c (SC.lsub (0 : Nat) (1 : Nat) (0 : Nat) (Int.toNat s.2)))) [Blk.lst (nat_lit 3) (1 : Nat) s.4 fun j ↦ bif Nat.ble (Int.toNat s.2) j && Nat.blt j (Int.toNat s.2 + (s.4 - Int.toNat s.2)) then [SC.val (Value.int IntKind.i64 (0 : Int))] else [SC.val (Value.int IntKind.i64 (numAt s.5 j))]] else Fits (I28 l R1) (N1.mk (IntKind.wrap IntKind.i64 (s.1 + (1 : Int)))) (LInv.mem (I28 l R1) (N1.mk (IntKind.wrap IntKind.i64 (s.1 + (1 : Int))))) (LInv.tmp (I28 l R1) (N1.mk (IntKind.wrap IntKind.i64 (s.1 + (1 : Int))))) ∧ Dec (I28 l R1) (N1.mk (IntKind.wrap IntKind.i64 (s.1 + (1 : Int)))) s else K (SX.v (SV.c (SC.lst (0 : Nat)))) [Blk.lst (nat_lit 3) (1 : Nat) (List.length l) (ints l)]) : evFn Tryd.prog O w0 (Γ14 O w0) (Λ2 28 4 (I28 l R1) 9 (I28b l R2)) 100 5 28 [.v (.c (.lst 0))] [.lst 3 1 l.length (ints l)] (fun y M => K y M) := vc_of h_ (by kernel_rfl)
def gLast : EntF := fun O w0 args M k => match args with
  | [a, .v (.c (.val (.int .i64 p))), .v (.c (.val (.int .i64 q)))] => ∃ l, CmdsX O w0 a l ∧ 0 ≤ p ∧ p < q ∧ q ≤ l.length ∧ k (bV (lastB l p.toNat q.toNat)) M
  | _ => False
def gIns : EntF := fun O w0 args M k => match args with
  | [a, .v (.c (.val (.int .i64 t)))] => ∃ l, IntsM O w0 M a l ∧ l.length ≤ 1000000 ∧ k (.v (.c (.lst M.length))) (M ++ [.lst 3 1 (insL l t).length (ints (insL l t))])
  | _ => False
def gCpt : EntF := fun O w0 args M k => match args with
  | [.v (.c (.lst b))] => ∃ l : List Int, (∃ f, M[b]? = some (.lst 3 1 l.length f) ∧ f = ints l) ∧ l.length ≤ 1000000 ∧ k (.v (.c (.lst M.length))) (M.set b .dead ++ [.lst 3 1 (cptU l l.length).length (ints (cptU l l.length))])
  | _ => False
def Γ15 : TabF := addW (addF (addF Γ14 31 gLast) 32 gIns) 28 gCpt
--HIDE
set_option maxRecDepth 100000 in
theorem e31 (O : Nat → Prop) (w0 : World) : Entry Tryd.prog O w0 31 (gLast O w0) :=
  Entry.pure Γ14_ok 100 5 (g := gLast) (fun O w0 args M k hg => by
    unfold gLast at hg
    split at hg
    case h_2 => exact hg.elim
    rename_i a p q
    obtain ⟨l, ⟨hl, B, c, As, cs, ha, hA⟩, h0, h1, h2, hk⟩ := hg
    refine ⟨_, [cmdsV B (fun j => l.getD j z33) As cs l.length c, iV p, iV q], rfl, hk, fun β => by unfold fr; simp only [List.map_cons, ha β, List.map_nil], fun w hw => ⟨_, f31 _ w B (fun j => l.getD j z33) As cs l.length c p q (fun i => p + 1 ≤ i ∧ i ≤ q ∧ ∀ m, p.toNat < m → m < i.toNat → bndB l (l.getD p.toNat z33).f1 m = false) _ ?_⟩⟩
    rw [wrap_in (show -9223372036854775808 ≤ p + 1 by omega) (by omega)]
    refine ⟨fun _ _ => Nat.zero_le _, ⟨⟨Int.le_refl _, by omega, fun m h3 h4 => by omega⟩, rfl, fun _ => rfl⟩, ?_⟩
    rintro ⟨i⟩ J ⟨hi0, hi1, hm⟩
    refine cond_of (fun h => ?_) (fun h => ?_)
    · have hlt : i < q := by simpa using h
      have hr := hA i.toNat (by omega)
      have hf := hA p.toNat (by omega)
      have e0 : ∀ n : Nat, 0 + n = n := Nat.zero_add
      simp only [e0]
      have hstep : bndB l (l.getD p.toNat z33).f1 i.toNat = false → ∀ m, p.toNat < m → m < (i + 1).toNat → bndB l (l.getD p.toNat z33).f1 m = false := fun hb m h3 h4 => by
        by_cases hmi : m = i.toNat
        · rw [hmi]; exact hb
        · exact hm m h3 (by omega)
      have hin : In i (l.length : Int) := ⟨by omega, by omega⟩
      refine ⟨hin, hr.1, hr.1, hr.2.1.at hw, cond_of (fun h4 => ⟨hin, hr.1, hr.1, hr.2.1.at hw, ⟨by omega, by omega⟩, hf.1, hf.1, hf.2.1.at hw, cond_of (fun h5 => ?_) (fun h5 => ?_)⟩) (fun h4 => ?_)⟩
      · have hb : bndB l (l.getD p.toNat z33).f1 i.toNat = true := by unfold bndB; rw [h4, h5]; rfl
        have hF : lastB l p.toNat q.toNat = false := by
          cases hh : lastB l p.toNat q.toNat with
          | false => rfl
          | true =>
            have := (lastB_iff l _ _).1 hh i.toNat (by omega) (by omega)
            rw [hb] at this; cases this
        rw [hF]
      · rw [wrap_in (show -9223372036854775808 ≤ i + 1 by omega) (by omega)]
        exact ⟨⟨⟨by omega, by omega, hstep (by unfold bndB; rw [h4, h5]; rfl)⟩, rfl, fun _ => rfl⟩, ⟨by show (_ : Int).toNat < (_ : Int).toNat; omega⟩⟩
      · rw [wrap_in (show -9223372036854775808 ≤ i + 1 by omega) (by omega)]
        exact ⟨⟨⟨by omega, by omega, hstep (by unfold bndB; rw [h4]; rfl)⟩, rfl, fun _ => rfl⟩, ⟨by show (_ : Int).toNat < (_ : Int).toNat; omega⟩⟩
    · have hge : ¬ i < q := by simpa using h
      have hT : lastB l p.toNat q.toNat = true := (lastB_iff l _ _).2 fun m h3 h4 => hm m h3 (by omega)
      rw [hT]) O w0
/-- The list that a list's elements are. -/
structure LsX {α : Type} (enc : α → List SC) (d : α) (n : Nat) (f : Nat → List SC) (xs : List α) : Prop where
  len : n = xs.length
  at_ : ∀ j, j < n → f j = enc (xs.getD j d)
theorem LsX.nil {α : Type} (enc : α → List SC) (d : α) (f : Nat → List SC) : LsX enc d 0 f [] := ⟨rfl, fun j hj => absurd hj (Nat.not_lt_zero j)⟩
theorem LsX.push {α : Type} {enc : α → List SC} {d : α} {n : Nat} {f : Nat → List SC} {xs : List α} (h : LsX enc d n f xs) (x : α) {g : Nat → List SC} (hg : g = fun j => bif Nat.blt j n then f j else enc x) : LsX enc d (n + 1) g (xs ++ [x]) := by
  subst hg
  refine ⟨by rw [List.length_append, h.len]; rfl, fun j hj => ?_⟩
  by_cases hjn : j < n
  · have hb : Nat.blt j n = true := by simpa using hjn
    simp only [hb, cond_true]
    rw [h.at_ j hjn, List.getD_eq_getElem?_getD, List.getD_eq_getElem?_getD, List.getElem?_append_left (by rw [← h.len]; exact hjn)]
  · have hb : Nat.blt j n = false := by
      cases hb : Nat.blt j n with
      | false => rfl
      | true => exact absurd (by simpa using hb) hjn
    have he : j = xs.length := by have := h.len; omega
    simp only [hb, cond_false]
    rw [List.getD_eq_getElem?_getD, he, List.getElem?_append_right (Nat.le_refl _), Nat.sub_self]; rfl
def encI (x : Int) : List SC := [.val (.int .i64 x)]
theorem drop_int {l : List Int} {i : Int} (h0 : 0 ≤ i) (h : i < l.length) : l.drop i.toNat = l.getD i.toNat 0 :: l.drop (i + 1).toNat := by
  have hn : i.toNat < l.length := by omega
  rw [List.drop_eq_getElem_cons hn, List.getD_eq_getElem?_getD, List.getElem?_eq_getElem hn, show (i + 1).toNat = i.toNat + 1 by omega]; rfl
def R32 (l : List Int) (t : Int) : B3 → Prop := fun ⟨i, d, n, f⟩ => 0 ≤ i ∧ i ≤ l.length ∧ ((n : Int) ≤ i + 1 ∧ (d = false → (n : Int) ≤ i)) ∧ ∃ out : List Int, LsX encI 0 n f out ∧ out ++ insF t d (l.drop i.toNat) = insF t false l
theorem insF_cons (t : Int) (d : Bool) (x : Int) (r : List Int) : insF t d (x :: r) = (bif !d && decide (x ≥ t) then [t] else []) ++ ((bif x != t then [x] else []) ++ insF t (bif !d && decide (x ≥ t) then true else d) r) := rfl
theorem resIns {M : List Blk} {b n : Nat} {f : Nat → List SC} {l out : List Int} {t : Int} (hb : M[b]? = some (.lst 3 1 n f)) (hL : LsX encI 0 n f out) (he : out = insF t false l) : ResL M 3 1 (insL l t).length (ints (insL l t)) (.lst b) := by
  subst he
  refine .lst b f ?_ fun j hj => hL.at_ j (by rw [hL.len]; exact hj)
  rw [hb, hL.len]; rfl
set_option maxRecDepth 100000 in
theorem e32 (O : Nat → Prop) (w0 : World) : Entry Tryd.prog O w0 32 (gIns O w0) :=
  Entry.madeQ Γ14_ok 100 5 (g := gIns) (fun O w0 args M k hg β w hI => by
    unfold gIns at hg
    split at hg
    case h_2 => exact hg.elim
    rename_i a t
    obtain ⟨l, hX, hsz, hk⟩ := hg
    obtain ⟨_, A, c, ha, hA⟩ := hX.rows hI
    refine ⟨[sV A l c, iV t], _, by unfold fr; simp only [List.map_cons, ha, List.map_nil], f32 _ w A l c t (R32 l t) _ ?_⟩
    have fin : ∀ (M' : List Blk) (b n : Nat) (f : Nat → List SC) (out : List Int), M'[b]? = some (.lst 3 1 n f) → LsX encI 0 n f out → out = insF t false l → QK M k (.v (.c (.lst b))) M' := fun M' b n f out h1 h2 h3 => ⟨[], .lst b, 3, 1, _, _, rfl, rfl, resIns h1 h2 h3, hk⟩
    refine ⟨fun _ _ => Nat.zero_le _, ⟨⟨Int.le_refl _, by omega, ⟨by omega, fun _ => by omega⟩, [], LsX.nil _ _ _, rfl⟩, rfl, fun _ => rfl⟩, ?_⟩
    rintro ⟨i, d, n, f⟩ J ⟨h0, h1, ⟨hn, hn2⟩, out, hL, he⟩
    have room : Room (n + 1) 8 := ⟨by omega⟩
    refine cond_of (fun h => ?_) (fun h => ?_)
    · have hlt : i < l.length := by simpa using h
      have e0 : ∀ n : Nat, 0 + n = n := Nat.zero_add
      simp only [e0]
      rw [wrap_in (show -9223372036854775808 ≤ i + 1 by omega) (by omega)]
      have hin : In i (l.length : Int) := ⟨h0, hlt⟩
      have hr := hA i.toNat (by omega)
      rw [drop_int h0 hlt, insF_cons] at he
      have room2 : Room (n + 1 + 1) 8 := ⟨by omega⟩
      have hd : ((l.length : Int) - (i + 1)).toNat < ((l.length : Int) - i).toNat := by omega
      generalize hxg : l.getD i.toNat 0 = x at he
      cases d with
      | false =>
        have hn2 := hn2 rfl
        refine ⟨hin, hr.1, hr.2, cond_of (fun hx => ⟨room, hin, hr.1, hr.2, cond_of (fun hy => ⟨hin, hr.1, hr.2, room2, ⟨⟨by omega, by omega, ⟨by omega, fun h => by first | exact absurd h (by decide) | omega⟩, (out ++ [t]) ++ [x], (hL.push t rfl).push _ rfl, ?_⟩, rfl, fun _ => rfl⟩, ⟨hd⟩⟩) (fun hy => ⟨⟨⟨by omega, by omega, ⟨by omega, fun h => by first | exact absurd h (by decide) | omega⟩, out ++ [t], hL.push t rfl, ?_⟩, rfl, fun _ => rfl⟩, ⟨hd⟩⟩)⟩)
          (fun hx => ⟨hin, hr.1, hr.2, cond_of (fun hy => ⟨hin, hr.1, hr.2, room, ⟨⟨by omega, by omega, ⟨by omega, fun h => by first | exact absurd h (by decide) | omega⟩, out ++ [x], hL.push _ rfl, ?_⟩, rfl, fun _ => rfl⟩, ⟨hd⟩⟩) (fun hy => ⟨⟨⟨by omega, by omega, ⟨by omega, fun h => by first | exact absurd h (by decide) | omega⟩, out, hL, ?_⟩, rfl, fun _ => rfl⟩, ⟨hd⟩⟩)⟩)⟩
        · rw [hx, hy] at he; rw [List.append_assoc, List.append_assoc]; exact he
        · rw [hx, hy] at he; rw [List.append_assoc]; exact he
        · rw [hx, hy] at he; rw [List.append_assoc]; exact he
        · rw [hx, hy] at he; exact he
      | true =>
        refine ⟨hin, hr.1, hr.2, cond_of (fun hy => ⟨hin, hr.1, hr.2, room, ⟨⟨by omega, by omega, ⟨by omega, fun h => by first | exact absurd h (by decide) | omega⟩, out ++ [x], hL.push _ rfl, ?_⟩, rfl, fun _ => rfl⟩, ⟨hd⟩⟩) (fun hy => ⟨⟨⟨by omega, by omega, ⟨by omega, fun h => by first | exact absurd h (by decide) | omega⟩, out, hL, ?_⟩, rfl, fun _ => rfl⟩, ⟨hd⟩⟩)⟩
        · rw [hy] at he; rw [List.append_assoc]; exact he
        · rw [hy] at he; exact he
    · have hge : ¬ i < l.length := by simpa using h
      have hi : l.drop i.toNat = [] := List.drop_eq_nil_of_le (by omega)
      rw [hi] at he
      cases d with
      | false => exact ⟨room, fin _ 2 _ _ (out ++ [t]) rfl (hL.push t rfl) he⟩
      | true => exact fin _ 0 _ _ out rfl hL (by simpa [insF] using he)) O w0
theorem cptU_all {l : List Int} : ∀ m, m ≤ l.length → (∀ j, j < m → kp l j = true) → cptU l m = l.take m
  | 0, _, _ => by simp [cptU]
  | m + 1, hm, h => by
    have hn : m < l.length := by omega
    rw [cptU_succ, h m (by omega), cptU_all m (by omega) (fun j hj => h j (by omega)), List.take_succ_eq_append_getElem hn, List.getD_eq_getElem?_getD, List.getElem?_eq_getElem hn]; rfl
theorem getD_take {l : List Int} {m q : Nat} (h : q < m) : (l.take m).getD q 0 = l.getD q 0 := by
  rw [List.getD_eq_getElem?_getD, List.getD_eq_getElem?_getD, List.getElem?_take_of_lt h]
def R28 (l : List Int) : Int → Prop := fun k => 1 ≤ k ∧ k ≤ l.length ∧ ∀ j, j < k.toNat → kp l j = true
def R28b (l : List Int) : C4 → Prop := fun ⟨p, k, j, n, f⟩ => n = l.length ∧ 1 ≤ p ∧ p < l.length ∧ 1 ≤ j ∧ j ≤ l.length - p ∧ 0 ≤ k ∧ k.toNat = (cptU l (p + j.toNat)).length ∧ k < p + j ∧ (∀ q, q < k.toNat → numAt f q = (cptU l (p + j.toNat)).getD q 0) ∧ ∀ q, k.toNat ≤ q → q < l.length → numAt f q = l.getD q 0
theorem resCpt {M : List Blk} {l : List Int} {n k : Nat} {f : Nat → List SC} (hb : M[0]? = some (.lst 3 1 n f)) (hk : k = (cptU l l.length).length) (hn : k ≤ n) (hf : ∀ j, j < k → f j = ints (cptU l l.length) j) : ResL M 3 1 (cptU l l.length).length (ints (cptU l l.length)) (.lsub 0 1 0 k) := by
  subst hk
  exact .sub 0 n f hb hn hf
theorem numAt_put (g : Nat → Int) (v : Int) (b q : Nat) : numAt (fun j' => bif Nat.beq j' b then [SC.val (.int .i64 v)] else [SC.val (.int .i64 (g j'))]) q = bif Nat.beq q b then v else g q := by
  unfold numAt
  dsimp only
  cases Nat.beq q b <;> rfl
theorem getD_last (xs : List Int) (y : Int) : (xs ++ [y]).getD xs.length 0 = y := by
  rw [List.getD_eq_getElem?_getD, List.getElem?_append_right (Nat.le_refl _), Nat.sub_self]; rfl
theorem getD_front (xs ys : List Int) {q : Nat} (h : q < xs.length) : (xs ++ ys).getD q 0 = xs.getD q 0 := by
  rw [List.getD_eq_getElem?_getD, List.getElem?_append_left h, ← List.getD_eq_getElem?_getD]
set_option maxRecDepth 100000 in
theorem e28 (O : Nat → Prop) (w0 : World) : EntryW Tryd.prog O w0 28 (gCpt O w0) :=
  Entry.ownL Γ14_ok 100 5 (g := gCpt) (fun O w0 args M k hg => by
    unfold gCpt at hg
    split at hg
    case h_2 => exact hg.elim
    rename_i b
    obtain ⟨l, ⟨f, hb, rfl⟩, hsz, hk⟩ := hg
    refine ⟨b, 3, 1, l.length, ints l, hb, rfl, fun O' w hw => ⟨_, f28 O' w l (R28 l) (R28b l) _ ?_⟩⟩
    have fin0 : (∀ j, j < l.length → kp l j = true) → ∃ n2 F2 x, SX.v (.c (.lst 0)) = SX.one x ∧ ResL [.lst 3 1 l.length (ints l)] 3 1 n2 F2 x ∧ k (SX.one (.lst M.length)) (M.set b .dead ++ [.lst 3 1 n2 F2]) := fun h => by
      have e := cptU_all l.length (Nat.le_refl _) h
      rw [List.take_length] at e
      refine ⟨_, _, .lst 0, rfl, .lst 0 (ints l) ?_ (fun j _ => ?_), hk⟩
      · rw [e]; rfl
      · rw [e]
    refine cond_of (fun h2 => fin0 fun j hj => ?_) (fun h2 => ?_)
    · have h2 : l.length < 2 := by have := of_decide_eq_true h2; omega
      have : j = 0 := by omega
      subst this; rfl
    have h2 : 2 ≤ l.length := by have := of_decide_eq_false h2; omega
    have hR0 : R28 l 1 := ⟨by omega, by omega, fun j hj => (by
      have h0 : j = 0 := by omega
      rw [h0]; rfl)⟩
    refine ⟨fun _ _ => Nat.le_refl _, ⟨hR0, rfl, fun _ => rfl⟩, ?_⟩
    rintro ⟨i⟩ J ⟨hi0, hi1, hkp⟩
    refine cond_of (fun h => ?_) (fun h => fin0 fun j hj => hkp j (by have := of_decide_eq_false h; dsimp only at this; omega))
    have hlt : i < l.length := of_decide_eq_true h
    dsimp only
    rw [wrap_in (show -9223372036854775808 ≤ i - 1 by omega) (by omega), wrap_in (show -9223372036854775808 ≤ i + 1 by omega) (by omega)]
    have hpi : i.toNat - 1 = (i - 1).toNat := by omega
    have hkpi : kp l i.toNat = (l.getD i.toNat 0 != l.getD (i - 1).toNat 0) := by
      unfold kp
      rw [show (i.toNat == 0) = false by simp; omega, hpi]; rfl
    refine ⟨⟨by omega, by omega⟩, ⟨by omega, by omega⟩, ⟨by omega, by omega⟩, ⟨by omega, by omega⟩, cond_of (fun he => ?_) (fun he => ?_)⟩
    rotate_left
    · refine ⟨⟨⟨by omega, by omega, fun j hj => ?_⟩, rfl, fun _ => rfl⟩, ⟨by show (_ : Int).toNat < (_ : Int).toNat; omega⟩⟩
      by_cases hj2 : j < i.toNat
      · exact hkp j hj2
      · have : j = i.toNat := by omega
        rw [this, hkpi]
        simpa using he
    have hk0f : kp l i.toNat = false := by rw [hkpi]; simpa using he
    have hall := cptU_all (l := l) i.toNat (by omega) hkp
    have hc1 : cptU l (i.toNat + (1 : Int).toNat) = l.take i.toNat := by
      rw [show i.toNat + (1 : Int).toNat = i.toNat + 1 by omega, cptU_succ, hk0f, hall]; simp
    have hlt1 : (l.take i.toNat).length = i.toNat := by rw [List.length_take]; omega
    refine ⟨⟨show (0 : Int) ≤ i by omega, show i ≤ (l.length : Int) by omega, show (l.length : Int) ≤ l.length by omega⟩, fun _ _ => Nat.le_refl _, ⟨⟨rfl, by omega, by omega, by omega, by omega, by omega, by rw [hc1, hlt1], by omega, fun q hq => ?_, fun q hq hq2 => rfl⟩, rfl, fun _ => rfl⟩, ?_⟩
    · rw [hc1, getD_take hq]; rfl
    rintro ⟨p, k2, j, n, f⟩ J2 ⟨hn, hp1, hp2, hj1, hj2, hk0, hkl, hkp2, hlo, hhi⟩
    subst hn
    dsimp only
    refine ⟨⟨by omega, by omega⟩, cond_of (fun hj => ?_) (fun hj => ?_)⟩
    · have hj : j < ((l.length - p : Nat) : Int) := of_decide_eq_true hj
      rw [wrap_in (show -9223372036854775808 ≤ j - 1 by omega) (by omega), wrap_in (show -9223372036854775808 ≤ j + 1 by omega) (by omega), wrap_in (show -9223372036854775808 ≤ k2 + 1 by omega) (by omega)]
      have e1 : numAt f (p + j.toNat) = l.getD (p + j.toNat) 0 := hhi _ (by omega) (by omega)
      have e2 : numAt f (p + (j - 1).toNat) = l.getD (p + (j - 1).toNat) 0 := hhi _ (by omega) (by omega)
      have hkpj : kp l (p + j.toNat) = (l.getD (p + j.toNat) 0 != l.getD (p + (j - 1).toNat) 0) := by
        unfold kp
        rw [show (p + j.toNat == 0) = false by simp; omega, show p + j.toNat - 1 = p + (j - 1).toNat by omega]; rfl
      have hs1 : p + (j + 1).toNat = p + j.toNat + 1 := by omega
      have hsucc := cptU_succ l (p + j.toNat)
      rw [e1, e2]
      refine ⟨⟨by omega, by omega⟩, ⟨by omega, by omega⟩, ⟨by omega, by omega⟩, ⟨by omega, by omega⟩, ⟨by omega, by omega⟩, ⟨by omega, by omega⟩, cond_of (fun hd => ?_) (fun hd => ?_)⟩
      · rw [hkpj, hd] at hsucc
        have hsucc : cptU l (p + j.toNat + 1) = cptU l (p + j.toNat) ++ [l.getD (p + j.toNat) 0] := hsucc
        have hnum : ∀ q, numAt (fun j' => bif Nat.beq j' k2.toNat then [SC.val (.int .i64 (l.getD (p + j.toNat) 0))] else [SC.val (.int .i64 (numAt f j'))]) q = bif Nat.beq q k2.toNat then l.getD (p + j.toNat) 0 else numAt f q := fun q => numAt_put (numAt f) _ _ q
        have hbf : ∀ q, q ≠ k2.toNat → Nat.beq q k2.toNat = false := fun q hq => by
          cases hb : Nat.beq q k2.toNat with
          | false => rfl
          | true => exact absurd (Nat.eq_of_beq_eq_true hb) hq
        refine ⟨⟨by omega, by omega⟩, ⟨by omega, by omega⟩, ⟨by omega, by omega⟩, ⟨by omega, by omega⟩, ⟨by omega, by omega⟩, ⟨⟨rfl, hp1, hp2, by omega, by omega, by omega, ?_, by omega, fun q hq => ?_, fun q hq hq2 => ?_⟩, ?_, fun _ => rfl⟩, ⟨by show (_ : Int).toNat < (_ : Int).toNat; omega⟩⟩
        · rw [hs1, hsucc, List.length_append, ← hkl]; simp; omega
        · rw [hnum, hs1, hsucc]
          by_cases hqk : q = k2.toNat
          · rw [hqk, Nat.beq_refl, hkl, getD_last]; rfl
          · rw [hbf q hqk, getD_front _ _ (by omega)]
            exact hlo q (by omega)
        · rw [hnum, hbf q (by omega)]
          exact hhi q (by omega) hq2
        · refine congrArg (fun F => [Blk.lst 3 1 l.length F]) (funext fun q => ?_)
          show _ = [SC.val (.int .i64 (numAt _ q))]
          rw [hnum]
          cases Nat.beq q k2.toNat <;> rfl
      · rw [hkpj, hd] at hsucc
        have hsucc : cptU l (p + j.toNat + 1) = cptU l (p + j.toNat) := by rw [hsucc]; simp
        refine ⟨⟨⟨rfl, hp1, hp2, by omega, by omega, hk0, by rw [hs1, hsucc]; exact hkl, by omega, fun q hq => ?_, fun q hq hq2 => ?_⟩, rfl, fun _ => rfl⟩, ⟨by show (_ : Int).toNat < (_ : Int).toNat; omega⟩⟩
        · rw [hs1, hsucc]; exact hlo q hq
        · exact hhi q hq hq2
    · have hj : ¬ j < ((l.length - p : Nat) : Int) := of_decide_eq_false hj
      have hpj : p + j.toNat = l.length := by omega
      rw [hpj] at hkl hlo
      have hkn : k2.toNat ≤ l.length := by have := cptU_len l l.length; omega
      refine ⟨⟨show (0 : Int) ≤ k2 by omega, show k2 ≤ (l.length : Int) by omega, show (l.length : Int) ≤ l.length by omega⟩, ⟨by omega, by omega⟩, ⟨Int.le_refl _, show (0 : Int) ≤ k2 by omega, show k2 ≤ (l.length : Int) by omega⟩, _, _, _, rfl, resCpt rfl hkl hkn (fun q hq => ?_), hk⟩
      have hb : Nat.ble k2.toNat q = false := by
        cases hb : Nat.ble k2.toNat q with
        | false => rfl
        | true => exact absurd (Nat.le_of_ble_eq_true hb) (by omega)
      simp only [hb, Bool.false_and, cond_false]
      rw [hlo q hq]; rfl) O w0
theorem Γ15_ok : TSF Tryd.prog Γ15 := ((Γ14_ok.add e31).add e32).addW e28
--SHOW
end Go.Proofs.YtomnecadhiflnaaDoor.Br
