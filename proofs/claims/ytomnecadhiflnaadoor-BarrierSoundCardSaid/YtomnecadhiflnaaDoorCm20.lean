/- Requires, of the package and of its reference. -/
import Derived.Test.YtomnecadhiflnaaDoorCm19
namespace Go.Proofs.YtomnecadhiflnaaDoor.Br
open Go Go.RowKit Go.Proofs.YtomnecadhiflnaaDoor.Eng Go.Proofs.YtomnecadhiflnaaDoor.Cm
set_option linter.unusedVariables false
set_option linter.unusedSimpArgs false
/-- A number and what a map has been told. -/
structure KD where
  i : Int
  d : List (Int × Int)
def rKD (M : List Blk) (ts : List SX) (di dm : Nat) : KD := match ts.getD di undefX, ts.getD dm undefX with
  | .v (.c (.val (.int _ n))), .v (.c (.mpv b)) => (match M[b]? with
    | some (.ab Q) => ⟨n, Q.d⟩
    | _ => ⟨0, []⟩)
  | _, _ => ⟨0, []⟩
/-- A number, a list of numbers, a list. -/
structure W5 where
  i : Int
  n : Nat
  f : Nat → List SC
  m : Nat
  g : Nat → List SC
def rW5 (M : List Blk) (ts : List SX) (di d1 d2 : Nat) : W5 := match ts.getD di undefX with
  | .v (.c (.val (.int _ n))) => ⟨n, (lstAt M (ts.getD d1 undefX)).1, (lstAt M (ts.getD d1 undefX)).2, (lstAt M (ts.getD d2 undefX)).1, (lstAt M (ts.getD d2 undefX)).2⟩
  | _ => ⟨0, 0, fun _ => [], 0, fun _ => []⟩
structure K2 where
  i : Int
  n : Nat
  f : Nat → List SC
def rK2 (M : List Blk) (ts : List SX) (di d1 : Nat) : K2 := match ts.getD di undefX with
  | .v (.c (.val (.int _ n))) => ⟨n, (lstAt M (ts.getD d1 undefX)).1, (lstAt M (ts.getD d1 undefX)).2⟩
  | _ => ⟨0, 0, fun _ => []⟩
def I13a (B : Option Addr) (l : Nat → S33) (As : Nat → Option Addr) (cs : Nat → Nat) (i : Int) (c : Nat) (R : KD → Prop) : LInv where
  σ := KD
  pre := fun ⟨k, d⟩ => R ⟨k, d⟩
  mem := fun ⟨k, d⟩ => [.ab ⟨d, MapH Tryd.prog 3 3 d⟩]
  tmp := fun ⟨k, d⟩ J => [jV (J 0), jV (J 1), jV (J 2), jV (J 3), jV (J 4), jV (J 5), .v (.c (.mpv 0)), jV (J 7), jV (J 8), jV (J 9), jV (J 10), jV (J 11), jV (J 12), jV (J 13), jV (J 14), jV (J 15), jV (J 16), jV (J 17), jV (J 18), jV (J 19), jV (J 20), jV (J 21), jV (J 22), jV (J 23), jV (J 24), jV (J 25), jV (J 26), jV (J 27), jV (J 28), jV (J 29), jV (J 30), jV (J 31), jV (J 32), jV (J 33), jV (J 34), jV (J 35), jV (J 36), jV (J 37), jV (J 38), jV (J 39), jV (J 40), jV (J 41), jV (J 42), cmdsV B l As cs i.toNat c, iV i.toNat, iV k, jV (J 46), jV (J 47), jV (J 48), jV (J 49), jV (J 50), jV (J 51), jV (J 52), jV (J 53), jV (J 54), jV (J 55), jV (J 56), jV (J 57), jV (J 58), jV (J 59), jV (J 60), jV (J 61), jV (J 62), jV (J 63), jV (J 64), jV (J 65), jV (J 66), jV (J 67), jV (J 68), jV (J 69), jV (J 70), jV (J 71), jV (J 72), jV (J 73)]
  read := fun M ts => rKD M ts 45 6
  junk := [0, 1, 2, 3, 4, 5, 7, 8, 9, 10, 11, 12, 13, 14, 15, 16, 17, 18, 19, 20, 21, 22, 23, 24, 25, 26, 27, 28, 29, 30, 31, 32, 33, 34, 35, 36, 37, 38, 39, 40, 41, 42, 46, 47, 48, 49, 50, 51, 52, 53, 54, 55, 56, 57, 58, 59, 60, 61, 62, 63, 64, 65, 66, 67, 68, 69, 70, 71, 72, 73]
  μ := fun ⟨k, d⟩ => (i - k).toNat
  keep := some fun M ts => (match ts.getD 6 undefX with
    | .v (.c (.mpv b)) => [.at_ b]
    | _ => [])
def I13b (R : W5 → Prop) : LInv where
  σ := W5
  pre := fun ⟨k, n, f, m, g⟩ => R ⟨k, n, f, m, g⟩
  mem := fun ⟨k, n, f, m, g⟩ => [.lst 3 1 n (numsC f), .lst 46 2 m g]
  tmp := fun ⟨k, n, f, m, g⟩ J => [jV (J 0), jV (J 1), jV (J 2), jV (J 3), jV (J 4), jV (J 5), jV (J 6), jV (J 7), jV (J 8), .v (.c (.lst 1)), jV (J 10), jV (J 11), jV (J 12), jV (J 13), jV (J 14), jV (J 15), jV (J 16), jV (J 17), jV (J 18), jV (J 19), jV (J 20), jV (J 21), jV (J 22), jV (J 23), jV (J 24), jV (J 25), jV (J 26), jV (J 27), jV (J 28), jV (J 29), jV (J 30), jV (J 31), jV (J 32), jV (J 33), jV (J 34), jV (J 35), jV (J 36), jV (J 37), jV (J 38), jV (J 39), jV (J 40), jV (J 41), jV (J 42), jV (J 43), jV (J 44), jV (J 45), jV (J 46), jV (J 47), jV (J 48), jV (J 49), jV (J 50), jV (J 51), jV (J 52), jV (J 53), jV (J 54), jV (J 55), jV (J 56), jV (J 57), jV (J 58), jV (J 59), jV (J 60), .v (.c (.lst 0)), iV n, iV k, jV (J 64), jV (J 65), jV (J 66), jV (J 67), jV (J 68), jV (J 69), jV (J 70), jV (J 71), jV (J 72), jV (J 73)]
  read := fun M ts => rW5 M ts 63 61 9
  junk := [0, 1, 2, 3, 4, 5, 6, 7, 8, 10, 11, 12, 13, 14, 15, 16, 17, 18, 19, 20, 21, 22, 23, 24, 25, 26, 27, 28, 29, 30, 31, 32, 33, 34, 35, 36, 37, 38, 39, 40, 41, 42, 43, 44, 45, 46, 47, 48, 49, 50, 51, 52, 53, 54, 55, 56, 57, 58, 59, 60, 64, 65, 66, 67, 68, 69, 70, 71, 72, 73]
  μ := fun ⟨k, n, f, m, g⟩ => (n - k).toNat
  keep := some fun M ts => [K1 3 1 61 ts, K1 46 2 9 ts]
def I14a (B : Option Addr) (l : Nat → S33) (As : Nat → Option Addr) (cs : Nat → Nat) (n0 c : Nat) (i : Int) (R : K2 → Prop) : LInv where
  σ := K2
  pre := fun ⟨k, n, f⟩ => R ⟨k, n, f⟩
  mem := fun ⟨k, n, f⟩ => [.lst 3 1 n f]
  tmp := fun ⟨k, n, f⟩ J => [cmdsV B l As cs n0 c, iV i, jV (J 2), jV (J 3), jV (J 4), jV (J 5), .v (.c (.lst 0)), iV k, jV (J 8), jV (J 9), jV (J 10), jV (J 11), jV (J 12), jV (J 13), jV (J 14), jV (J 15), jV (J 16), jV (J 17), jV (J 18), jV (J 19), jV (J 20), jV (J 21), jV (J 22), jV (J 23), jV (J 24), jV (J 25), jV (J 26), jV (J 27), jV (J 28), jV (J 29), jV (J 30), jV (J 31), jV (J 32), jV (J 33), jV (J 34), jV (J 35), jV (J 36), jV (J 37), jV (J 38), jV (J 39), jV (J 40), jV (J 41), jV (J 42), jV (J 43), jV (J 44), jV (J 45), jV (J 46), jV (J 47), jV (J 48), jV (J 49), jV (J 50), jV (J 51), jV (J 52), jV (J 53), jV (J 54), jV (J 55), jV (J 56), jV (J 57), jV (J 58), jV (J 59), jV (J 60), jV (J 61), jV (J 62), jV (J 63), jV (J 64), jV (J 65), jV (J 66), jV (J 67), jV (J 68), jV (J 69), jV (J 70), jV (J 71), jV (J 72), jV (J 73), jV (J 74), jV (J 75), jV (J 76), jV (J 77), jV (J 78)]
  read := fun M ts => rK2 M ts 7 6
  junk := [2, 3, 4, 5, 8, 9, 10, 11, 12, 13, 14, 15, 16, 17, 18, 19, 20, 21, 22, 23, 24, 25, 26, 27, 28, 29, 30, 31, 32, 33, 34, 35, 36, 37, 38, 39, 40, 41, 42, 43, 44, 45, 46, 47, 48, 49, 50, 51, 52, 53, 54, 55, 56, 57, 58, 59, 60, 61, 62, 63, 64, 65, 66, 67, 68, 69, 70, 71, 72, 73, 74, 75, 76, 77, 78]
  μ := fun ⟨k, n, f⟩ => (i - k).toNat
  keep := some fun M ts => [K1 3 1 6 ts]
def I14b (R : W5 → Prop) : LInv where
  σ := W5
  pre := fun ⟨k, n, f, m, g⟩ => R ⟨k, n, f, m, g⟩
  mem := fun ⟨k, n, f, m, g⟩ => [.lst 3 1 n (numsC f), .lst 46 2 m g]
  tmp := fun ⟨k, n, f, m, g⟩ J => [jV (J 0), jV (J 1), jV (J 2), jV (J 3), jV (J 4), jV (J 5), .v (.c (.lst 0)), jV (J 7), .v (.c (.lst 1)), iV k, jV (J 10), jV (J 11), jV (J 12), jV (J 13), jV (J 14), jV (J 15), jV (J 16), jV (J 17), jV (J 18), jV (J 19), jV (J 20), jV (J 21), jV (J 22), jV (J 23), jV (J 24), jV (J 25), jV (J 26), jV (J 27), jV (J 28), jV (J 29), jV (J 30), jV (J 31), jV (J 32), jV (J 33), jV (J 34), jV (J 35), jV (J 36), jV (J 37), jV (J 38), jV (J 39), jV (J 40), jV (J 41), jV (J 42), jV (J 43), jV (J 44), jV (J 45), jV (J 46), jV (J 47), jV (J 48), jV (J 49), jV (J 50), jV (J 51), jV (J 52), jV (J 53), jV (J 54), jV (J 55), jV (J 56), jV (J 57), jV (J 58), jV (J 59), jV (J 60), jV (J 61), jV (J 62), jV (J 63), jV (J 64), jV (J 65), jV (J 66), jV (J 67), jV (J 68), jV (J 69), jV (J 70), jV (J 71), jV (J 72), jV (J 73), jV (J 74), jV (J 75), jV (J 76), jV (J 77), jV (J 78)]
  read := fun M ts => rW5 M ts 9 6 8
  junk := [0, 1, 2, 3, 4, 5, 7, 10, 11, 12, 13, 14, 15, 16, 17, 18, 19, 20, 21, 22, 23, 24, 25, 26, 27, 28, 29, 30, 31, 32, 33, 34, 35, 36, 37, 38, 39, 40, 41, 42, 43, 44, 45, 46, 47, 48, 49, 50, 51, 52, 53, 54, 55, 56, 57, 58, 59, 60, 61, 62, 63, 64, 65, 66, 67, 68, 69, 70, 71, 72, 73, 74, 75, 76, 77, 78]
  μ := fun ⟨k, n, f, m, g⟩ => (n - k).toNat
  keep := some fun M ts => [K1 3 1 6 ts, K1 46 2 8 ts]
  ex := true
set_option maxHeartbeats 4000000 in
set_option maxRecDepth 100000 in
theorem f13 (O : Nat → Prop) (w0 : World) (B : Option Addr) (l : Nat → S33) (As : Nat → Option Addr) (cs : Nat → Nat) (n c : Nat) (i : Int) (R1 : KD → Prop) (R2 : W5 → Prop) (K : SX → List Blk → Prop) (h_ : bif decide (i < (0 : Int)) then K (SX.v (SV.c (SC.val (Value.slice none (0 : Nat) (0 : Nat))))) [] else bif decide (i ≥ (↑n : Int)) then K (SX.v (SV.c (SC.val (Value.slice none (0 : Nat) (0 : Nat))))) [] else In i (↑n : Int) ∧ Option.isSome B = true ∧ RowAt O w0 B (28 : Nat) (rowsC l As cs ((0 : Nat) + Int.toNat i)) ((0 : Nat) + Int.toNat i) ∧ bif S33.f0 (l ((0 : Nat) + Int.toNat i)) == (13 : Int) then K (SX.v (SV.c (SC.sl (1 : Nat) (0 : Nat) (1 : Nat) (1 : Nat)))) [Blk.mk (34 : Nat) [SC.val (Value.int IntKind.i64 (S33.f0 (l ((0 : Nat) + Int.toNat i)))), SC.val (Value.int IntKind.i64 (S33.f1 (l ((0 : Nat) + Int.toNat i)))), SC.val (Value.int IntKind.i64 (S33.f2 (l ((0 : Nat) + Int.toNat i)))), SC.val (Value.int IntKind.i64 (S33.f3 (l ((0 : Nat) + Int.toNat i)))), SC.val (Value.int IntKind.i64 (S33.f4 (l ((0 : Nat) + Int.toNat i)))), SC.val (Value.int IntKind.i64 (S33.f5 (l ((0 : Nat) + Int.toNat i)))), SC.val (Value.int IntKind.i64 (S33.f6 (l ((0 : Nat) + Int.toNat i)))), SC.val (Value.int IntKind.i64 (S33.f7 (l ((0 : Nat) + Int.toNat i)))), SC.val (Value.int IntKind.i64 (S30.f0 (S33.f8 (l ((0 : Nat) + Int.toNat i))))), SC.val (Value.int IntKind.i64 (S30.f1 (S33.f8 (l ((0 : Nat) + Int.toNat i))))), SC.val (Value.int IntKind.i64 (S30.f2 (S33.f8 (l ((0 : Nat) + Int.toNat i))))), SC.val (Value.int IntKind.i64 (S30.f3 (S33.f8 (l ((0 : Nat) + Int.toNat i))))), SC.val (Value.int IntKind.i64 (S30.f4 (S33.f8 (l ((0 : Nat) + Int.toNat i))))), SC.val (Value.int IntKind.i64 (S28.f0 (S30.f5 (S33.f8 (l ((0 : Nat) + Int.toNat i)))))), SC.val (Value.int IntKind.i64 (S28.f1 (S30.f5 (S33.f8 (l ((0 : Nat) + Int.toNat i)))))), SC.val (Value.int IntKind.i64 (S28.f2 (S30.f5 (S33.f8 (l ((0 : Nat) + Int.toNat i)))))), SC.val (Value.int IntKind.i64 (S28.f3 (S30.f5 (S33.f8 (l ((0 : Nat) + Int.toNat i)))))), SC.val (Value.int IntKind.i64 (S30.f6 (S33.f8 (l ((0 : Nat) + Int.toNat i))))), SC.val (Value.int IntKind.i64 (S30.f7 (S33.f8 (l ((0 : Nat) + Int.toNat i))))), SC.val (Value.int IntKind.i64 (S30.f8 (S33.f8 (l ((0 : Nat) + Int.toNat i))))), SC.rsl (As ((0 : Nat) + Int.toNat i)) (1 : Nat) (ints (S33.f9 (l ((0 : Nat) + Int.toNat i)))) (0 : Nat) (List.length (S33.f9 (l ((0 : Nat) + Int.toNat i)))) (cs ((0 : Nat) + Int.toNat i)), SC.val (Value.int IntKind.i64 (S28.f0 (S33.f10 (l ((0 : Nat) + Int.toNat i))))), SC.val (Value.int IntKind.i64 (S28.f1 (S33.f10 (l ((0 : Nat) + Int.toNat i))))), SC.val (Value.int IntKind.i64 (S28.f2 (S33.f10 (l ((0 : Nat) + Int.toNat i))))), SC.val (Value.int IntKind.i64 (S28.f3 (S33.f10 (l ((0 : Nat) + Int.toNat i))))), SC.val (Value.int IntKind.i64 (S33.f11 (l ((0 : Nat) + Int.toNat i)))), SC.val (Value.int IntKind.i64 (S33.f12 (l ((0 : Nat) + Int.toNat i)))), SC.val (Value.bool (S33.f13 (l ((0 : Nat) + Int.toNat i))))], Blk.mk (46 : Nat) [SC.val (Value.int IntKind.i64 (S33.f2 (l ((0 : Nat) + Int.toNat i)))), SC.val (Value.int IntKind.i64 (5 : Int))]] else bif S33.f0 (l ((0 : Nat) + Int.toNat i)) == (14 : Int) then K (SX.v (SV.c (SC.sl (1 : Nat) (0 : Nat) (1 : Nat) (1 : Nat)))) [Blk.mk (34 : Nat) [SC.val (Value.int IntKind.i64 (S33.f0 (l ((0 : Nat) + Int.toNat i)))), SC.val (Value.int IntKind.i64 (S33.f1 (l ((0 : Nat) + Int.toNat i)))), SC.val (Value.int IntKind.i64 (S33.f2 (l ((0 : Nat) + Int.toNat i)))), SC.val (Value.int IntKind.i64 (S33.f3 (l ((0 : Nat) + Int.toNat i)))), SC.val (Value.int IntKind.i64 (S33.f4 (l ((0 : Nat) + Int.toNat i)))), SC.val (Value.int IntKind.i64 (S33.f5 (l ((0 : Nat) + Int.toNat i)))), SC.val (Value.int IntKind.i64 (S33.f6 (l ((0 : Nat) + Int.toNat i)))), SC.val (Value.int IntKind.i64 (S33.f7 (l ((0 : Nat) + Int.toNat i)))), SC.val (Value.int IntKind.i64 (S30.f0 (S33.f8 (l ((0 : Nat) + Int.toNat i))))), SC.val (Value.int IntKind.i64 (S30.f1 (S33.f8 (l ((0 : Nat) + Int.toNat i))))), SC.val (Value.int IntKind.i64 (S30.f2 (S33.f8 (l ((0 : Nat) + Int.toNat i))))), SC.val (Value.int IntKind.i64 (S30.f3 (S33.f8 (l ((0 : Nat) + Int.toNat i))))), SC.val (Value.int IntKind.i64 (S30.f4 (S33.f8 (l ((0 : Nat) + Int.toNat i))))), SC.val (Value.int IntKind.i64 (S28.f0 (S30.f5 (S33.f8 (l ((0 : Nat) + Int.toNat i)))))), SC.val (Value.int IntKind.i64 (S28.f1 (S30.f5 (S33.f8 (l ((0 : Nat) + Int.toNat i)))))), SC.val (Value.int IntKind.i64 (S28.f2 (S30.f5 (S33.f8 (l ((0 : Nat) + Int.toNat i)))))), SC.val (Value.int IntKind.i64 (S28.f3 (S30.f5 (S33.f8 (l ((0 : Nat) + Int.toNat i)))))), SC.val (Value.int IntKind.i64 (S30.f6 (S33.f8 (l ((0 : Nat) + Int.toNat i))))), SC.val (Value.int IntKind.i64 (S30.f7 (S33.f8 (l ((0 : Nat) + Int.toNat i))))), SC.val (Value.int IntKind.i64 (S30.f8 (S33.f8 (l ((0 : Nat) + Int.toNat i))))), SC.rsl (As ((0 : Nat) + Int.toNat i)) (1 : Nat) (ints (S33.f9 (l ((0 : Nat) + Int.toNat i)))) (0 : Nat) (List.length (S33.f9 (l ((0 : Nat) + Int.toNat i)))) (cs ((0 : Nat) + Int.toNat i)), SC.val (Value.int IntKind.i64 (S28.f0 (S33.f10 (l ((0 : Nat) + Int.toNat i))))), SC.val (Value.int IntKind.i64 (S28.f1 (S33.f10 (l ((0 : Nat) + Int.toNat i))))), SC.val (Value.int IntKind.i64 (S28.f2 (S33.f10 (l ((0 : Nat) + Int.toNat i))))), SC.val (Value.int IntKind.i64 (S28.f3 (S33.f10 (l ((0 : Nat) + Int.toNat i))))), SC.val (Value.int IntKind.i64 (S33.f11 (l ((0 : Nat) + Int.toNat i)))), SC.val (Value.int IntKind.i64 (S33.f12 (l ((0 : Nat) + Int.toNat i)))), SC.val (Value.bool (S33.f13 (l ((0 : Nat) + Int.toNat i))))], Blk.mk (46 : Nat) [SC.val (Value.int IntKind.i64 (S33.f1 (l ((0 : Nat) + Int.toNat i)))), SC.val (Value.int IntKind.i64 (5 : Int))]] else bif S33.f0 (l ((0 : Nat) + Int.toNat i)) == (9 : Int) then Cut (0 : Int) (Option.getD (some i) (↑n : Int)) (↑c : Int) ∧ Cut (0 : Int) (↑n : Int) (↑c : Int) ∧ (∀ (s : KD), LInv.pre (I13a B l As cs i c R1) s → Nat.le (0 : Nat) (List.length (LInv.mem (I13a B l As cs i c R1) s))) ∧ Fits (I13a B l As cs i c R1) (KD.mk (0 : Int) []) (LInv.mem (I13a B l As cs i c R1) (KD.mk (0 : Int) [])) (LInv.tmp (I13a B l As cs i c R1) (KD.mk (0 : Int) [])) ∧ ∀ (s : KD) (J : Nat → Value), LInv.pre (I13a B l As cs i c R1) s → bif decide (s.1 < (↑(Int.toNat i) : Int)) then In s.1 (↑(Int.toNat i) : Int) ∧ Option.isSome B = true ∧ RowAt O w0 B (28 : Nat) (rowsC l As cs ((0 : Nat) + Int.toNat s.1)) ((0 : Nat) + Int.toNat s.1) ∧ bif S33.f0 (l ((0 : Nat) + Int.toNat s.1)) == (4 : Int) then AbQ.P (AbQ.mk s.2 (MapH Tryd.prog (3 : TypeId) (3 : TypeId) s.2)) = MapH Tryd.prog (3 : Nat) (3 : Nat) (AbQ.d (AbQ.mk s.2 (MapH Tryd.prog (3 : TypeId) (3 : TypeId) s.2))) ∧ In (↑(List.length (AbQ.d (AbQ.mk s.2 (MapH Tryd.prog (3 : TypeId) (3 : TypeId) s.2)))) : Int) (9223372036854775807 : Int) ∧ I64 (S33.f1 (l ((0 : Nat) + Int.toNat s.1))) ∧ I64 (S33.f2 (l ((0 : Nat) + Int.toNat s.1))) ∧ Fits (I13a B l As cs i c R1) (KD.mk (IntKind.wrap IntKind.i64 (s.1 + (1 : Int))) ((S33.f1 (l ((0 : Nat) + Int.toNat s.1)), S33.f2 (l ((0 : Nat) + Int.toNat s.1))) :: s.2)) (LInv.mem (I13a B l As cs i c R1) (KD.mk (IntKind.wrap IntKind.i64 (s.1 + (1 : Int))) ((S33.f1 (l ((0 : Nat) + Int.toNat s.1)), S33.f2 (l ((0 : Nat) + Int.toNat s.1))) :: s.2))) (LInv.tmp (I13a B l As cs i c R1) (KD.mk (IntKind.wrap IntKind.i64 (s.1 + (1 : Int))) ((S33.f1 (l ((0 : Nat) + Int.toNat s.1)), S33.f2 (l ((0 : Nat) + Int.toNat s.1))) :: s.2))) ∧ Dec (I13a B l As cs i c R1) (KD.mk (IntKind.wrap IntKind.i64 (s.1 + (1 : Int))) ((S33.f1 (l ((0 : Nat) + Int.toNat s.1)), S33.f2 (l ((0 : Nat) + Int.toNat s.1))) :: s.2)) s else Fits (I13a B l As cs i c R1) (KD.mk (IntKind.wrap IntKind.i64 (s.1 + (1 : Int))) s.2) (LInv.mem (I13a B l As cs i c R1) (KD.mk (IntKind.wrap IntKind.i64 (s.1 + (1 : Int))) s.2)) (LInv.tmp (I13a B l As cs i c R1) (KD.mk (IntKind.wrap IntKind.i64 (s.1 + (1 : Int))) s.2)) ∧ Dec (I13a B l As cs i c R1) (KD.mk (IntKind.wrap IntKind.i64 (s.1 + (1 : Int))) s.2) s else AbQ.P (AbQ.mk s.2 (MapH Tryd.prog (3 : TypeId) (3 : TypeId) s.2)) = MapH Tryd.prog (3 : TypeId) (3 : TypeId) (AbQ.d (AbQ.mk s.2 (MapH Tryd.prog (3 : TypeId) (3 : TypeId) s.2))) ∧ In (↑(List.length (AbQ.d (AbQ.mk s.2 (MapH Tryd.prog (3 : TypeId) (3 : TypeId) s.2)))) : Int) (1000000 : Int) ∧ ∃ l, (∃ f, some (Blk.lst (nat_lit 3) (1 : Nat) (List.length (svals (AbQ.d (AbQ.mk s.2 (MapH Tryd.prog (3 : TypeId) (3 : TypeId) s.2))))) (ints (svals (AbQ.d (AbQ.mk s.2 (MapH Tryd.prog (3 : TypeId) (3 : TypeId) s.2)))))) = some (Blk.lst (nat_lit 3) (1 : Nat) (List.length l) f) ∧ f = ints l) ∧ Nat.le (List.length l) (1000000 : Nat) ∧ (∀ (s : W5), LInv.pre (I13b R2) s → Nat.le (0 : Nat) (List.length (LInv.mem (I13b R2) s))) ∧ Fits (I13b R2) (W5.mk (0 : Int) (List.length (cptU l (List.length l))) (ints (cptU l (List.length l))) (0 : Nat) fun x ↦ []) (LInv.mem (I13b R2) (W5.mk (0 : Int) (List.length (cptU l (List.length l))) (ints (cptU l (List.length l))) (0 : Nat) fun x ↦ [])) (LInv.tmp (I13b R2) (W5.mk (0 : Int) (List.length (cptU l (List.length l))) (ints (cptU l (List.length l))) (0 : Nat) fun x ↦ [])) ∧ ∀ (s : W5) (J : Nat → Value), LInv.pre (I13b R2) s → bif decide (s.1 < (↑s.2 : Int)) then In s.1 (↑s.2 : Int) ∧ In (↑(Int.toNat s.1) : Int) (↑s.2 : Int) ∧ Room (s.4 + (1 : Nat)) (16 : Nat) ∧ Fits (I13b R2) (W5.mk (IntKind.wrap IntKind.i64 (s.1 + (1 : Int))) s.2 (numsC s.3) (s.4 + (1 : Nat)) fun j ↦ bif Nat.blt j s.4 then s.5 j else [SC.val (Value.int IntKind.i64 (numAt s.3 (Int.toNat s.1))), SC.val (Value.int IntKind.i64 (2 : Int))]) (LInv.mem (I13b R2) (W5.mk (IntKind.wrap IntKind.i64 (s.1 + (1 : Int))) s.2 (numsC s.3) (s.4 + (1 : Nat)) fun j ↦ bif Nat.blt j s.4 then s.5 j else [SC.val (Value.int IntKind.i64 (numAt s.3 (Int.toNat s.1))), SC.val (Value.int IntKind.i64 (2 : Int))])) (LInv.tmp (I13b R2) (W5.mk (IntKind.wrap IntKind.i64 (s.1 + (1 : Int))) s.2 (numsC s.3) (s.4 + (1 : Nat)) fun j ↦ bif Nat.blt j s.4 then s.5 j else [SC.val (Value.int IntKind.i64 (numAt s.3 (Int.toNat s.1))), SC.val (Value.int IntKind.i64 (2 : Int))])) ∧ Dec (I13b R2) (W5.mk (IntKind.wrap IntKind.i64 (s.1 + (1 : Int))) s.2 (numsC s.3) (s.4 + (1 : Nat)) fun j ↦ bif Nat.blt j s.4 then s.5 j else [SC.val (Value.int IntKind.i64 (numAt s.3 (Int.toNat s.1))), SC.val (Value.int IntKind.i64 (2 : Int))]) s else K (SX.v (SV.c (SC.lst (1 : Nat)))) [Blk.lst (nat_lit 3) (1 : Nat) s.2 (numsC s.3), Blk.lst (nat_lit 46) (2 : Nat) s.4 s.5] else K (SX.v (SV.c (SC.val (Value.slice none (0 : Nat) (0 : Nat))))) [Blk.mk (34 : Nat) [SC.val (Value.int IntKind.i64 (S33.f0 (l ((0 : Nat) + Int.toNat i)))), SC.val (Value.int IntKind.i64 (S33.f1 (l ((0 : Nat) + Int.toNat i)))), SC.val (Value.int IntKind.i64 (S33.f2 (l ((0 : Nat) + Int.toNat i)))), SC.val (Value.int IntKind.i64 (S33.f3 (l ((0 : Nat) + Int.toNat i)))), SC.val (Value.int IntKind.i64 (S33.f4 (l ((0 : Nat) + Int.toNat i)))), SC.val (Value.int IntKind.i64 (S33.f5 (l ((0 : Nat) + Int.toNat i)))), SC.val (Value.int IntKind.i64 (S33.f6 (l ((0 : Nat) + Int.toNat i)))), SC.val (Value.int IntKind.i64 (S33.f7 (l ((0 : Nat) + Int.toNat i)))), SC.val (Value.int IntKind.i64 (S30.f0 (S33.f8 (l ((0 : Nat) + Int.toNat i))))), SC.val (Value.int IntKind.i64 (S30.f1 (S33.f8 (l ((0 : Nat) + Int.toNat i))))), SC.val (Value.int IntKind.i64 (S30.f2 (S33.f8 (l ((0 : Nat) + Int.toNat i))))), SC.val (Value.int IntKind.i64 (S30.f3 (S33.f8 (l ((0 : Nat) + Int.toNat i))))), SC.val (Value.int IntKind.i64 (S30.f4 (S33.f8 (l ((0 : Nat) + Int.toNat i))))), SC.val (Value.int IntKind.i64 (S28.f0 (S30.f5 (S33.f8 (l ((0 : Nat) + Int.toNat i)))))), SC.val (Value.int IntKind.i64 (S28.f1 (S30.f5 (S33.f8 (l ((0 : Nat) + Int.toNat i)))))), SC.val (Value.int IntKind.i64 (S28.f2 (S30.f5 (S33.f8 (l ((0 : Nat) + Int.toNat i)))))), SC.val (Value.int IntKind.i64 (S28.f3 (S30.f5 (S33.f8 (l ((0 : Nat) + Int.toNat i)))))), SC.val (Value.int IntKind.i64 (S30.f6 (S33.f8 (l ((0 : Nat) + Int.toNat i))))), SC.val (Value.int IntKind.i64 (S30.f7 (S33.f8 (l ((0 : Nat) + Int.toNat i))))), SC.val (Value.int IntKind.i64 (S30.f8 (S33.f8 (l ((0 : Nat) + Int.toNat i))))), SC.rsl (As ((0 : Nat) + Int.toNat i)) (1 : Nat) (ints (S33.f9 (l ((0 : Nat) + Int.toNat i)))) (0 : Nat) (List.length (S33.f9 (l ((0 : Nat) + Int.toNat i)))) (cs ((0 : Nat) + Int.toNat i)), SC.val (Value.int IntKind.i64 (S28.f0 (S33.f10 (l ((0 : Nat) + Int.toNat i))))), SC.val (Value.int IntKind.i64 (S28.f1 (S33.f10 (l ((0 : Nat) + Int.toNat i))))), SC.val (Value.int IntKind.i64 (S28.f2 (S33.f10 (l ((0 : Nat) + Int.toNat i))))), SC.val (Value.int IntKind.i64 (S28.f3 (S33.f10 (l ((0 : Nat) + Int.toNat i))))), SC.val (Value.int IntKind.i64 (S33.f11 (l ((0 : Nat) + Int.toNat i)))), SC.val (Value.int IntKind.i64 (S33.f12 (l ((0 : Nat) + Int.toNat i)))), SC.val (Value.bool (S33.f13 (l ((0 : Nat) + Int.toNat i))))]]) : evFn Tryd.prog O w0 (Γ15 O w0) (Λ2 13 12 (I13a B l As cs i c R1) 19 (I13b R2)) 100 5 13 [cmdsV B l As cs n c, iV i] [] (fun y M => K y M) := vc_of h_ (by kernel_rfl)
set_option maxHeartbeats 4000000 in
set_option maxRecDepth 100000 in
theorem f14 (O : Nat → Prop) (w0 : World) (B : Option Addr) (l : Nat → S33) (As : Nat → Option Addr) (cs : Nat → Nat) (n c : Nat) (i : Int) (R1 : K2 → Prop) (R2 : W5 → Prop) (K : SX → List Blk → Prop) (h_ : bif decide (i < (0 : Int)) then K (SX.v (SV.c (SC.val (Value.slice none (0 : Nat) (0 : Nat))))) [] else bif decide (i ≥ (↑n : Int)) then K (SX.v (SV.c (SC.val (Value.slice none (0 : Nat) (0 : Nat))))) [] else In i (↑n : Int) ∧ Option.isSome B = true ∧ RowAt O w0 B (28 : Nat) (rowsC l As cs ((0 : Nat) + Int.toNat i)) ((0 : Nat) + Int.toNat i) ∧ bif S33.f0 (l ((0 : Nat) + Int.toNat i)) == (13 : Int) then K (SX.v (SV.c (SC.sl (1 : Nat) (0 : Nat) (1 : Nat) (1 : Nat)))) [Blk.mk (34 : Nat) [SC.val (Value.int IntKind.i64 (S33.f0 (l ((0 : Nat) + Int.toNat i)))), SC.val (Value.int IntKind.i64 (S33.f1 (l ((0 : Nat) + Int.toNat i)))), SC.val (Value.int IntKind.i64 (S33.f2 (l ((0 : Nat) + Int.toNat i)))), SC.val (Value.int IntKind.i64 (S33.f3 (l ((0 : Nat) + Int.toNat i)))), SC.val (Value.int IntKind.i64 (S33.f4 (l ((0 : Nat) + Int.toNat i)))), SC.val (Value.int IntKind.i64 (S33.f5 (l ((0 : Nat) + Int.toNat i)))), SC.val (Value.int IntKind.i64 (S33.f6 (l ((0 : Nat) + Int.toNat i)))), SC.val (Value.int IntKind.i64 (S33.f7 (l ((0 : Nat) + Int.toNat i)))), SC.val (Value.int IntKind.i64 (S30.f0 (S33.f8 (l ((0 : Nat) + Int.toNat i))))), SC.val (Value.int IntKind.i64 (S30.f1 (S33.f8 (l ((0 : Nat) + Int.toNat i))))), SC.val (Value.int IntKind.i64 (S30.f2 (S33.f8 (l ((0 : Nat) + Int.toNat i))))), SC.val (Value.int IntKind.i64 (S30.f3 (S33.f8 (l ((0 : Nat) + Int.toNat i))))), SC.val (Value.int IntKind.i64 (S30.f4 (S33.f8 (l ((0 : Nat) + Int.toNat i))))), SC.val (Value.int IntKind.i64 (S28.f0 (S30.f5 (S33.f8 (l ((0 : Nat) + Int.toNat i)))))), SC.val (Value.int IntKind.i64 (S28.f1 (S30.f5 (S33.f8 (l ((0 : Nat) + Int.toNat i)))))), SC.val (Value.int IntKind.i64 (S28.f2 (S30.f5 (S33.f8 (l ((0 : Nat) + Int.toNat i)))))), SC.val (Value.int IntKind.i64 (S28.f3 (S30.f5 (S33.f8 (l ((0 : Nat) + Int.toNat i)))))), SC.val (Value.int IntKind.i64 (S30.f6 (S33.f8 (l ((0 : Nat) + Int.toNat i))))), SC.val (Value.int IntKind.i64 (S30.f7 (S33.f8 (l ((0 : Nat) + Int.toNat i))))), SC.val (Value.int IntKind.i64 (S30.f8 (S33.f8 (l ((0 : Nat) + Int.toNat i))))), SC.rsl (As ((0 : Nat) + Int.toNat i)) (1 : Nat) (ints (S33.f9 (l ((0 : Nat) + Int.toNat i)))) (0 : Nat) (List.length (S33.f9 (l ((0 : Nat) + Int.toNat i)))) (cs ((0 : Nat) + Int.toNat i)), SC.val (Value.int IntKind.i64 (S28.f0 (S33.f10 (l ((0 : Nat) + Int.toNat i))))), SC.val (Value.int IntKind.i64 (S28.f1 (S33.f10 (l ((0 : Nat) + Int.toNat i))))), SC.val (Value.int IntKind.i64 (S28.f2 (S33.f10 (l ((0 : Nat) + Int.toNat i))))), SC.val (Value.int IntKind.i64 (S28.f3 (S33.f10 (l ((0 : Nat) + Int.toNat i))))), SC.val (Value.int IntKind.i64 (S33.f11 (l ((0 : Nat) + Int.toNat i)))), SC.val (Value.int IntKind.i64 (S33.f12 (l ((0 : Nat) + Int.toNat i)))), SC.val (Value.bool (S33.f13 (l ((0 : Nat) + Int.toNat i))))], Blk.mk (46 : Nat) [SC.val (Value.int IntKind.i64 (S33.f2 (l ((0 : Nat) + Int.toNat i)))), SC.val (Value.int IntKind.i64 (5 : Int))]] else bif S33.f0 (l ((0 : Nat) + Int.toNat i)) == (14 : Int) then K (SX.v (SV.c (SC.sl (1 : Nat) (0 : Nat) (1 : Nat) (1 : Nat)))) [Blk.mk (34 : Nat) [SC.val (Value.int IntKind.i64 (S33.f0 (l ((0 : Nat) + Int.toNat i)))), SC.val (Value.int IntKind.i64 (S33.f1 (l ((0 : Nat) + Int.toNat i)))), SC.val (Value.int IntKind.i64 (S33.f2 (l ((0 : Nat) + Int.toNat i)))), SC.val (Value.int IntKind.i64 (S33.f3 (l ((0 : Nat) + Int.toNat i)))), SC.val (Value.int IntKind.i64 (S33.f4 (l ((0 : Nat) + Int.toNat i)))), SC.val (Value.int IntKind.i64 (S33.f5 (l ((0 : Nat) + Int.toNat i)))), SC.val (Value.int IntKind.i64 (S33.f6 (l ((0 : Nat) + Int.toNat i)))), SC.val (Value.int IntKind.i64 (S33.f7 (l ((0 : Nat) + Int.toNat i)))), SC.val (Value.int IntKind.i64 (S30.f0 (S33.f8 (l ((0 : Nat) + Int.toNat i))))), SC.val (Value.int IntKind.i64 (S30.f1 (S33.f8 (l ((0 : Nat) + Int.toNat i))))), SC.val (Value.int IntKind.i64 (S30.f2 (S33.f8 (l ((0 : Nat) + Int.toNat i))))), SC.val (Value.int IntKind.i64 (S30.f3 (S33.f8 (l ((0 : Nat) + Int.toNat i))))), SC.val (Value.int IntKind.i64 (S30.f4 (S33.f8 (l ((0 : Nat) + Int.toNat i))))), SC.val (Value.int IntKind.i64 (S28.f0 (S30.f5 (S33.f8 (l ((0 : Nat) + Int.toNat i)))))), SC.val (Value.int IntKind.i64 (S28.f1 (S30.f5 (S33.f8 (l ((0 : Nat) + Int.toNat i)))))), SC.val (Value.int IntKind.i64 (S28.f2 (S30.f5 (S33.f8 (l ((0 : Nat) + Int.toNat i)))))), SC.val (Value.int IntKind.i64 (S28.f3 (S30.f5 (S33.f8 (l ((0 : Nat) + Int.toNat i)))))), SC.val (Value.int IntKind.i64 (S30.f6 (S33.f8 (l ((0 : Nat) + Int.toNat i))))), SC.val (Value.int IntKind.i64 (S30.f7 (S33.f8 (l ((0 : Nat) + Int.toNat i))))), SC.val (Value.int IntKind.i64 (S30.f8 (S33.f8 (l ((0 : Nat) + Int.toNat i))))), SC.rsl (As ((0 : Nat) + Int.toNat i)) (1 : Nat) (ints (S33.f9 (l ((0 : Nat) + Int.toNat i)))) (0 : Nat) (List.length (S33.f9 (l ((0 : Nat) + Int.toNat i)))) (cs ((0 : Nat) + Int.toNat i)), SC.val (Value.int IntKind.i64 (S28.f0 (S33.f10 (l ((0 : Nat) + Int.toNat i))))), SC.val (Value.int IntKind.i64 (S28.f1 (S33.f10 (l ((0 : Nat) + Int.toNat i))))), SC.val (Value.int IntKind.i64 (S28.f2 (S33.f10 (l ((0 : Nat) + Int.toNat i))))), SC.val (Value.int IntKind.i64 (S28.f3 (S33.f10 (l ((0 : Nat) + Int.toNat i))))), SC.val (Value.int IntKind.i64 (S33.f11 (l ((0 : Nat) + Int.toNat i)))), SC.val (Value.int IntKind.i64 (S33.f12 (l ((0 : Nat) + Int.toNat i)))), SC.val (Value.bool (S33.f13 (l ((0 : Nat) + Int.toNat i))))], Blk.mk (46 : Nat) [SC.val (Value.int IntKind.i64 (S33.f1 (l ((0 : Nat) + Int.toNat i)))), SC.val (Value.int IntKind.i64 (5 : Int))]] else bif S33.f0 (l ((0 : Nat) + Int.toNat i)) == (9 : Int) then (∀ (s : K2), LInv.pre (I14a B l As cs n c i R1) s → Nat.le (0 : Nat) (List.length (LInv.mem (I14a B l As cs n c i R1) s))) ∧ Fits (I14a B l As cs n c i R1) (K2.mk (0 : Int) (0 : Nat) fun x ↦ []) (LInv.mem (I14a B l As cs n c i R1) (K2.mk (0 : Int) (0 : Nat) fun x ↦ [])) (LInv.tmp (I14a B l As cs n c i R1) (K2.mk (0 : Int) (0 : Nat) fun x ↦ [])) ∧ ∀ (s : K2) (J : Nat → Value), LInv.pre (I14a B l As cs n c i R1) s → bif decide (s.1 < i) then In s.1 (↑n : Int) ∧ Option.isSome B = true ∧ Option.isSome B = true ∧ RowAt O w0 B (28 : Nat) (rowsC l As cs ((0 : Nat) + Int.toNat s.1)) ((0 : Nat) + Int.toNat s.1) ∧ bif S33.f0 (l ((0 : Nat) + Int.toNat s.1)) == (4 : Int) then ∃ l_1, CmdsX O w0 (SX.v (SV.c (SC.rsl B (28 : Nat) (rowsC l As cs) (0 : Nat) n c))) l_1 ∧ Int.NonNeg (s.1 - (0 : Int)) ∧ Int.NonNeg (i - (s.1 + (1 : Int))) ∧ Int.NonNeg ((↑(List.length l_1) : Int) - i) ∧ bif lastB l_1 (Int.toNat s.1) (Int.toNat i) then In s.1 (↑n : Int) ∧ Option.isSome B = true ∧ Option.isSome B = true ∧ RowAt O w0 B (28 : Nat) (rowsC l As cs ((0 : Nat) + Int.toNat s.1)) ((0 : Nat) + Int.toNat s.1) ∧ ∃ l_2, IntsM O w0 [Blk.lst (nat_lit 3) (1 : Nat) s.2 s.3] (SX.v (SV.c (SC.lst (0 : Nat)))) l_2 ∧ Nat.le (List.length l_2) (1000000 : Nat) ∧ Fits (I14a B l As cs n c i R1) (K2.mk (IntKind.wrap IntKind.i64 (s.1 + (1 : Int))) (List.length (insL l_2 (S33.f2 (l ((0 : Nat) + Int.toNat s.1))))) (ints (insL l_2 (S33.f2 (l ((0 : Nat) + Int.toNat s.1)))))) (LInv.mem (I14a B l As cs n c i R1) (K2.mk (IntKind.wrap IntKind.i64 (s.1 + (1 : Int))) (List.length (insL l_2 (S33.f2 (l ((0 : Nat) + Int.toNat s.1))))) (ints (insL l_2 (S33.f2 (l ((0 : Nat) + Int.toNat s.1))))))) (LInv.tmp (I14a B l As cs n c i R1) (K2.mk (IntKind.wrap IntKind.i64 (s.1 + (1 : Int))) (List.length (insL l_2 (S33.f2 (l ((0 : Nat) + Int.toNat s.1))))) (ints (insL l_2 (S33.f2 (l ((0 : Nat) + Int.toNat s.1))))))) ∧ Dec (I14a B l As cs n c i R1) (K2.mk (IntKind.wrap IntKind.i64 (s.1 + (1 : Int))) (List.length (insL l_2 (S33.f2 (l ((0 : Nat) + Int.toNat s.1))))) (ints (insL l_2 (S33.f2 (l ((0 : Nat) + Int.toNat s.1)))))) s else Fits (I14a B l As cs n c i R1) (K2.mk (IntKind.wrap IntKind.i64 (s.1 + (1 : Int))) s.2 s.3) (LInv.mem (I14a B l As cs n c i R1) (K2.mk (IntKind.wrap IntKind.i64 (s.1 + (1 : Int))) s.2 s.3)) (LInv.tmp (I14a B l As cs n c i R1) (K2.mk (IntKind.wrap IntKind.i64 (s.1 + (1 : Int))) s.2 s.3)) ∧ Dec (I14a B l As cs n c i R1) (K2.mk (IntKind.wrap IntKind.i64 (s.1 + (1 : Int))) s.2 s.3) s else Fits (I14a B l As cs n c i R1) (K2.mk (IntKind.wrap IntKind.i64 (s.1 + (1 : Int))) s.2 s.3) (LInv.mem (I14a B l As cs n c i R1) (K2.mk (IntKind.wrap IntKind.i64 (s.1 + (1 : Int))) s.2 s.3)) (LInv.tmp (I14a B l As cs n c i R1) (K2.mk (IntKind.wrap IntKind.i64 (s.1 + (1 : Int))) s.2 s.3)) ∧ Dec (I14a B l As cs n c i R1) (K2.mk (IntKind.wrap IntKind.i64 (s.1 + (1 : Int))) s.2 s.3) s else (∀ (s : W5), LInv.pre (I14b R2) s → Nat.le (0 : Nat) (List.length (LInv.mem (I14b R2) s))) ∧ (FitE (I14b R2) [Blk.lst (nat_lit 3) (1 : Nat) s.2 s.3, Blk.lst (46 : Nat) (2 : Nat) (0 : Nat) fun x ↦ []] (fun J ↦ [SX.v (SV.c (SC.opq (J (0 : Nat)))), SX.v (SV.c (SC.opq (J (1 : Nat)))), SX.v (SV.c (SC.opq (J (2 : Nat)))), SX.v (SV.c (SC.opq (J (3 : Nat)))), SX.v (SV.c (SC.opq (J (4 : Nat)))), SX.v (SV.c (SC.opq (J (5 : Nat)))), SX.v (SV.c (SC.lst (0 : Nat))), SX.v (SV.c (SC.opq (J (7 : Nat)))), SX.v (SV.c (SC.lst (1 : Nat))), SX.v (SV.c (SC.val (Value.int IntKind.i64 (0 : Int)))), SX.v (SV.c (SC.opq (J (10 : Nat)))), SX.v (SV.c (SC.opq (J (11 : Nat)))), SX.v (SV.c (SC.opq (J (12 : Nat)))), SX.v (SV.c (SC.opq (J (13 : Nat)))), SX.v (SV.c (SC.opq (J (14 : Nat)))), SX.v (SV.c (SC.opq (J (15 : Nat)))), SX.v (SV.c (SC.opq (J (16 : Nat)))), SX.v (SV.c (SC.opq (J (17 : Nat)))), SX.v (SV.c (SC.opq (J (18 : Nat)))), SX.v (SV.c (SC.opq (J (19 : Nat)))), SX.v (SV.c (SC.opq (J (20 : Nat)))), SX.v (SV.c (SC.opq (J (21 : Nat)))), SX.v (SV.c (SC.opq (J (22 : Nat)))), SX.v (SV.c (SC.opq (J (23 : Nat)))), SX.v (SV.c (SC.opq (J (24 : Nat)))), SX.v (SV.c (SC.opq (J (25 : Nat)))), SX.v (SV.c (SC.opq (J (26 : Nat)))), SX.v (SV.c (SC.opq (J (27 : Nat)))), SX.v (SV.c (SC.opq (J (28 : Nat)))), SX.v (SV.c (SC.opq (J (29 : Nat)))), SX.v (SV.c (SC.opq (J (30 : Nat)))), SX.v (SV.c (SC.opq (J (31 : Nat)))), SX.v (SV.c (SC.opq (J (32 : Nat)))), SX.v (SV.c (SC.opq (J (33 : Nat)))), SX.v (SV.c (SC.opq (J (34 : Nat)))), SX.v (SV.c (SC.opq (J (35 : Nat)))), SX.v (SV.c (SC.opq (J (36 : Nat)))), SX.v (SV.c (SC.opq (J (37 : Nat)))), SX.v (SV.c (SC.opq (J (38 : Nat)))), SX.v (SV.c (SC.opq (J (39 : Nat)))), SX.v (SV.c (SC.opq (J (40 : Nat)))), SX.v (SV.c (SC.opq (J (41 : Nat)))), SX.v (SV.c (SC.opq (J (42 : Nat)))), SX.v (SV.c (SC.opq (J (43 : Nat)))), SX.v (SV.c (SC.opq (J (44 : Nat)))), SX.v (SV.c (SC.opq (J (45 : Nat)))), SX.v (SV.c (SC.opq (J (46 : Nat)))), SX.v (SV.c (SC.opq (J (47 : Nat)))), SX.v (SV.c (SC.opq (J (48 : Nat)))), SX.v (SV.c (SC.opq (J (49 : Nat)))), SX.v (SV.c (SC.opq (J (50 : Nat)))), SX.v (SV.c (SC.opq (J (51 : Nat)))), SX.v (SV.c (SC.opq (J (52 : Nat)))), SX.v (SV.c (SC.opq (J (53 : Nat)))), SX.v (SV.c (SC.opq (J (54 : Nat)))), SX.v (SV.c (SC.opq (J (55 : Nat)))), SX.v (SV.c (SC.opq (J (56 : Nat)))), SX.v (SV.c (SC.opq (J (57 : Nat)))), SX.v (SV.c (SC.opq (J (58 : Nat)))), SX.v (SV.c (SC.opq (J (59 : Nat)))), SX.v (SV.c (SC.opq (J (60 : Nat)))), SX.v (SV.c (SC.opq (J (61 : Nat)))), SX.v (SV.c (SC.opq (J (62 : Nat)))), SX.v (SV.c (SC.opq (J (63 : Nat)))), SX.v (SV.c (SC.opq (J (64 : Nat)))), SX.v (SV.c (SC.opq (J (65 : Nat)))), SX.v (SV.c (SC.opq (J (66 : Nat)))), SX.v (SV.c (SC.opq (J (67 : Nat)))), SX.v (SV.c (SC.opq (J (68 : Nat)))), SX.v (SV.c (SC.opq (J (69 : Nat)))), SX.v (SV.c (SC.opq (J (70 : Nat)))), SX.v (SV.c (SC.opq (J (71 : Nat)))), SX.v (SV.c (SC.opq (J (72 : Nat)))), SX.v (SV.c (SC.opq (J (73 : Nat)))), SX.v (SV.c (SC.opq (J (74 : Nat)))), SX.v (SV.c (SC.opq (J (75 : Nat)))), SX.v (SV.c (SC.opq (J (76 : Nat)))), SX.v (SV.c (SC.opq (J (77 : Nat)))), SX.v (SV.c (SC.opq (J (78 : Nat))))]) fun x ↦ True) ∧ ∀ (s : W5) (J : Nat → Value), LInv.pre (I14b R2) s → bif decide (s.1 < (↑s.2 : Int)) then In s.1 (↑s.2 : Int) ∧ In (↑(Int.toNat s.1) : Int) (↑s.2 : Int) ∧ Room (s.4 + (1 : Nat)) (16 : Nat) ∧ FitE (I14b R2) [Blk.lst (nat_lit 3) (1 : Nat) s.2 (numsC s.3), Blk.lst (46 : Nat) (2 : Nat) (s.4 + (1 : Nat)) fun j ↦ bif Nat.blt j s.4 then s.5 j else [SC.val (Value.int IntKind.i64 (numAt s.3 (Int.toNat s.1))), SC.val (Value.int IntKind.i64 (2 : Int))]] (fun J ↦ [SX.v (SV.c (SC.opq (J (0 : Nat)))), SX.v (SV.c (SC.opq (J (1 : Nat)))), SX.v (SV.c (SC.opq (J (2 : Nat)))), SX.v (SV.c (SC.opq (J (3 : Nat)))), SX.v (SV.c (SC.opq (J (4 : Nat)))), SX.v (SV.c (SC.opq (J (5 : Nat)))), SX.v (SV.c (SC.lst (0 : Nat))), SX.v (SV.c (SC.opq (J (7 : Nat)))), SX.v (SV.c (SC.lst (1 : Nat))), SX.v (SV.c (SC.val (Value.int IntKind.i64 (IntKind.wrap IntKind.i64 (s.1 + (1 : Int)))))), SX.v (SV.c (SC.opq (J (10 : Nat)))), SX.v (SV.c (SC.opq (J (11 : Nat)))), SX.v (SV.c (SC.opq (J (12 : Nat)))), SX.v (SV.c (SC.opq (J (13 : Nat)))), SX.v (SV.c (SC.opq (J (14 : Nat)))), SX.v (SV.c (SC.opq (J (15 : Nat)))), SX.v (SV.c (SC.opq (J (16 : Nat)))), SX.v (SV.c (SC.opq (J (17 : Nat)))), SX.v (SV.c (SC.opq (J (18 : Nat)))), SX.v (SV.c (SC.opq (J (19 : Nat)))), SX.v (SV.c (SC.opq (J (20 : Nat)))), SX.v (SV.c (SC.opq (J (21 : Nat)))), SX.v (SV.c (SC.opq (J (22 : Nat)))), SX.v (SV.c (SC.opq (J (23 : Nat)))), SX.v (SV.c (SC.opq (J (24 : Nat)))), SX.v (SV.c (SC.opq (J (25 : Nat)))), SX.v (SV.c (SC.opq (J (26 : Nat)))), SX.v (SV.c (SC.opq (J (27 : Nat)))), SX.v (SV.c (SC.opq (J (28 : Nat)))), SX.v (SV.c (SC.opq (J (29 : Nat)))), SX.v (SV.c (SC.opq (J (30 : Nat)))), SX.v (SV.c (SC.opq (J (31 : Nat)))), SX.v (SV.c (SC.opq (J (32 : Nat)))), SX.v (SV.c (SC.opq (J (33 : Nat)))), SX.v (SV.c (SC.opq (J (34 : Nat)))), SX.v (SV.c (SC.opq (J (35 : Nat)))), SX.v (SV.c (SC.opq (J (36 : Nat)))), SX.v (SV.c (SC.opq (J (37 : Nat)))), SX.v (SV.c (SC.opq (J (38 : Nat)))), SX.v (SV.c (SC.opq (J (39 : Nat)))), SX.v (SV.c (SC.opq (J (40 : Nat)))), SX.v (SV.c (SC.opq (J (41 : Nat)))), SX.v (SV.c (SC.opq (J (42 : Nat)))), SX.v (SV.c (SC.opq (J (43 : Nat)))), SX.v (SV.c (SC.opq (J (44 : Nat)))), SX.v (SV.c (SC.opq (J (45 : Nat)))), SX.v (SV.c (SC.opq (J (46 : Nat)))), SX.v (SV.c (SC.opq (J (47 : Nat)))), SX.v (SV.c (SC.opq (J (48 : Nat)))), SX.v (SV.c (SC.opq (J (49 : Nat)))), SX.v (SV.c (SC.opq (J (50 : Nat)))), SX.v (SV.c (SC.opq (J (51 : Nat)))), SX.v (SV.c (SC.opq (J (52 : Nat)))), SX.v (SV.c (SC.opq (J (53 : Nat)))), SX.v (SV.c (SC.opq (J (54 : Nat)))), SX.v (SV.c (SC.opq (J (55 : Nat)))), SX.v (SV.c (SC.opq (J (56 : Nat)))), SX.v (SV.c (SC.opq (J (57 : Nat)))), SX.v (SV.c (SC.opq (J (58 : Nat)))), SX.v (SV.c (SC.opq (J (59 : Nat)))), SX.v (SV.c (SC.opq (J (60 : Nat)))), SX.v (SV.c (SC.opq (J (61 : Nat)))), SX.v (SV.c (SC.opq (J (62 : Nat)))), SX.v (SV.c (SC.opq (J (63 : Nat)))), SX.v (SV.c (SC.opq (J (64 : Nat)))), SX.v (SV.c (SC.opq (J (65 : Nat)))), SX.v (SV.c (SC.opq (J (66 : Nat)))), SX.v (SV.c (SC.opq (J (67 : Nat)))), SX.v (SV.c (SC.opq (J (68 : Nat)))), SX.v (SV.c (SC.opq (J (69 : Nat)))), SX.v (SV.c (SC.opq (J (70 : Nat)))), SX.v (SV.c (SC.opq (J (71 : Nat)))), SX.v (SV.c (SC.opq (J (72 : Nat)))), SX.v (SV.c (SC.opq (J (73 : Nat)))), SX.v (SV.c (SC.opq (J (74 : Nat)))), SX.v (SV.c (SC.opq (J (75 : Nat)))), SX.v (SV.c (SC.opq (J (76 : Nat)))), SX.v (SV.c (SC.opq (J (77 : Nat)))), SX.v (SV.c (SC.opq (J (78 : Nat))))]) fun s' ↦ LInv.μ (I14b R2) s' < LInv.μ (I14b R2) s else K (SX.v (SV.c (SC.lst (1 : Nat)))) [Blk.lst (nat_lit 3) (1 : Nat) s.2 (numsC s.3), Blk.lst (nat_lit 46) (2 : Nat) s.4 s.5] else K (SX.v (SV.c (SC.val (Value.slice none (0 : Nat) (0 : Nat))))) [Blk.mk (34 : Nat) [SC.val (Value.int IntKind.i64 (S33.f0 (l ((0 : Nat) + Int.toNat i)))), SC.val (Value.int IntKind.i64 (S33.f1 (l ((0 : Nat) + Int.toNat i)))), SC.val (Value.int IntKind.i64 (S33.f2 (l ((0 : Nat) + Int.toNat i)))), SC.val (Value.int IntKind.i64 (S33.f3 (l ((0 : Nat) + Int.toNat i)))), SC.val (Value.int IntKind.i64 (S33.f4 (l ((0 : Nat) + Int.toNat i)))), SC.val (Value.int IntKind.i64 (S33.f5 (l ((0 : Nat) + Int.toNat i)))), SC.val (Value.int IntKind.i64 (S33.f6 (l ((0 : Nat) + Int.toNat i)))), SC.val (Value.int IntKind.i64 (S33.f7 (l ((0 : Nat) + Int.toNat i)))), SC.val (Value.int IntKind.i64 (S30.f0 (S33.f8 (l ((0 : Nat) + Int.toNat i))))), SC.val (Value.int IntKind.i64 (S30.f1 (S33.f8 (l ((0 : Nat) + Int.toNat i))))), SC.val (Value.int IntKind.i64 (S30.f2 (S33.f8 (l ((0 : Nat) + Int.toNat i))))), SC.val (Value.int IntKind.i64 (S30.f3 (S33.f8 (l ((0 : Nat) + Int.toNat i))))), SC.val (Value.int IntKind.i64 (S30.f4 (S33.f8 (l ((0 : Nat) + Int.toNat i))))), SC.val (Value.int IntKind.i64 (S28.f0 (S30.f5 (S33.f8 (l ((0 : Nat) + Int.toNat i)))))), SC.val (Value.int IntKind.i64 (S28.f1 (S30.f5 (S33.f8 (l ((0 : Nat) + Int.toNat i)))))), SC.val (Value.int IntKind.i64 (S28.f2 (S30.f5 (S33.f8 (l ((0 : Nat) + Int.toNat i)))))), SC.val (Value.int IntKind.i64 (S28.f3 (S30.f5 (S33.f8 (l ((0 : Nat) + Int.toNat i)))))), SC.val (Value.int IntKind.i64 (S30.f6 (S33.f8 (l ((0 : Nat) + Int.toNat i))))), SC.val (Value.int IntKind.i64 (S30.f7 (S33.f8 (l ((0 : Nat) + Int.toNat i))))), SC.val (Value.int IntKind.i64 (S30.f8 (S33.f8 (l ((0 : Nat) + Int.toNat i))))), SC.rsl (As ((0 : Nat) + Int.toNat i)) (1 : Nat) (ints (S33.f9 (l ((0 : Nat) + Int.toNat i)))) (0 : Nat) (List.length (S33.f9 (l ((0 : Nat) + Int.toNat i)))) (cs ((0 : Nat) + Int.toNat i)), SC.val (Value.int IntKind.i64 (S28.f0 (S33.f10 (l ((0 : Nat) + Int.toNat i))))), SC.val (Value.int IntKind.i64 (S28.f1 (S33.f10 (l ((0 : Nat) + Int.toNat i))))), SC.val (Value.int IntKind.i64 (S28.f2 (S33.f10 (l ((0 : Nat) + Int.toNat i))))), SC.val (Value.int IntKind.i64 (S28.f3 (S33.f10 (l ((0 : Nat) + Int.toNat i))))), SC.val (Value.int IntKind.i64 (S33.f11 (l ((0 : Nat) + Int.toNat i)))), SC.val (Value.int IntKind.i64 (S33.f12 (l ((0 : Nat) + Int.toNat i)))), SC.val (Value.bool (S33.f13 (l ((0 : Nat) + Int.toNat i))))]]) : evFn Tryd.prog O w0 (Γ15 O w0) (Λ2 14 12 (I14a B l As cs n c i R1) 18 (I14b R2)) 100 5 14 [cmdsV B l As cs n c, iV i] [] (fun y M => K y M) := vc_of h_ (by kernel_rfl)
def prC (p : Int × Int) : List SC := [.val (.int .i64 p.1), .val (.int .i64 p.2)]
abbrev prs (xs : List (Int × Int)) : Nat → List SC := fun j => prC (xs.getD j (0, 0))
/-- The textures that a command uses, with the states that it requires. -/
def reqP (l : List S33) (i : Int) : List (Int × Int) :=
  if i < 0 ∨ i ≥ l.length then [] else
  if (l.getD i.toNat z33).f0 = 13 then [((l.getD i.toNat z33).f2, 5)] else
  if (l.getD i.toNat z33).f0 = 14 then [((l.getD i.toNat z33).f1, 5)] else
  if (l.getD i.toNat z33).f0 = 9 then (refL l i.toNat i.toNat).map (fun x => (x, 2)) else []
structure SlId (l : List S33) : Prop where
  at_ : ∀ j, j < l.length → I64 (l.getD j z33).f1 ∧ I64 (l.getD j z33).f2
/-- A list of commands that came in, of at most 400. -/
structure CmdsY (O : Nat → Prop) (w0 : World) (x : SX) (l : List S33) : Prop where
  sz : l.length ≤ 400
  id : SlId l
  out : ∃ B c As cs, (∀ β, x.den β = (cmdsV B (fun j => l.getD j z33) As cs l.length c).den β) ∧ l.length ≤ c ∧ ∀ j, j < l.length → B.isSome = true ∧ RowAt O w0 B 28 (rowsC (fun j => l.getD j z33) As cs j) j ∧ (l.getD j z33).f9.length ≤ 9223372036854775807 ∧ ∀ i, i < (l.getD j z33).f9.length → (As j).isSome = true ∧ RowAt O w0 (As j) 1 (ints (l.getD j z33).f9 i) i
def gReq : EntF := fun O w0 args M k => match args with
  | [a, .v (.c (.val (.int .i64 i)))] => ∃ l, CmdsY O w0 a l ∧ k (.v (.c (.lst M.length))) (M ++ [.lst 46 2 (reqP l i).length (prs (reqP l i))])
  | _ => False
def Γ16 : TabF := addF (addF Γ15 13 gReq) 14 gReq
--HIDE
theorem resNil {M : List Blk} {xs : List (Int × Int)} (hx : xs = []) : ResL M 46 2 xs.length (prs xs) (.val (.slice none 0 0)) := .nil (by rw [hx]; rfl)
theorem resOne {M : List Blk} {xs : List (Int × Int)} {a b : Int} (hb : M[1]? = some (.mk 46 [.val (.int .i64 a), .val (.int .i64 b)])) (hx : xs = [(a, b)]) : ResL M 46 2 xs.length (prs xs) (.sl 1 0 1 1) := by
  subst hx
  refine .sl 1 _ hb (show (1 : Nat) ≤ 9223372036854775807 by decide) rfl rfl (fun j hj => ?_)
  have h0 : j = 0 := by
    have hj : j < 1 := hj
    omega
  subst h0
  exact ⟨rfl, rfl, rfl, fun m c hc => by rw [Nat.zero_mul, Nat.zero_add]; exact hc⟩
theorem getD_map2 (xs : List Int) {j : Nat} (h : j < xs.length) : (xs.map (fun x => (x, (2 : Int)))).getD j (0, 0) = (xs.getD j 0, 2) := by
  rw [List.getD_eq_getElem?_getD, List.getElem?_map, List.getElem?_eq_getElem h, List.getD_eq_getElem?_getD, List.getElem?_eq_getElem h]; rfl
theorem resMap {M : List Blk} {ys : List (Int × Int)} {xs : List Int} {m : Nat} {g : Nat → List SC} (hb : M[1]? = some (.lst 46 2 m g)) (hx : ys = xs.map (fun x => (x, 2))) (hm : m = xs.length) (hg : ∀ j, j < m → g j = prC (xs.getD j 0, 2)) : ResL M 46 2 ys.length (prs ys) (.lst 1) := by
  subst hx hm
  refine .lst 1 g (by rw [hb, List.length_map]) (fun j hj => ?_)
  rw [List.length_map] at hj
  rw [hg j hj]
  show _ = prC ((xs.map (fun x => (x, (2 : Int)))).getD j (0, 0))
  rw [getD_map2 xs hj]
def R13a (l : List S33) (i : Int) : KD → Prop := fun ⟨k, d⟩ => 0 ≤ k ∧ k ≤ i ∧ d = histL l k.toNat
def R13b (xs : List Int) : W5 → Prop := fun ⟨k, n, f, m, g⟩ => 0 ≤ k ∧ k ≤ n ∧ n = xs.length ∧ (∀ j, j < n → numAt f j = xs.getD j 0) ∧ m = k.toNat ∧ ∀ j, j < m → g j = prC (xs.getD j 0, 2)
theorem R13b_step {xs : List Int} {k : Int} {n m : Nat} {f g : Nat → List SC} (h : R13b xs ⟨k, n, f, m, g⟩) (hk : k < n) {f' : Nat → List SC} (hf : ∀ j, j < n → numAt f' j = numAt f j) : R13b xs ⟨k + 1, n, f', m + 1, fun j => bif Nat.blt j m then g j else [.val (.int .i64 (numAt f k.toNat)), .val (.int .i64 2)]⟩ := by
  obtain ⟨h0, h1, h2, h3, h4, h5⟩ := h
  refine ⟨by omega, by omega, h2, fun j hj => by rw [hf j hj]; exact h3 j hj, by omega, fun j hj => ?_⟩
  dsimp only
  cases hb : Nat.blt j m with
  | true => exact h5 j (by simpa using hb)
  | false =>
    have hjm : ¬ j < m := fun h => by
      have : Nat.blt j m = true := by simpa using h
      rw [hb] at this; cases this
    have hj2 : j = k.toNat := by omega
    simp only [cond_false]
    rw [hj2, h3 k.toNat (by omega)]; rfl
theorem CmdsY.x {O : Nat → Prop} {w0 : World} {x : SX} {l : List S33} (h : CmdsY O w0 x l) : CmdsX O w0 x l := by
  obtain ⟨hsz, _, B, c, As, cs, ha, _, hA⟩ := h
  exact ⟨by omega, B, c, As, cs, ha, hA⟩
theorem keysV_len : ∀ (d : List (Int × Int)) (seen : List Int), (keysV seen d).length ≤ d.length
  | [], _ => by simp [keysV]
  | p :: r, seen => by
    have h1 := keysV_len r seen
    have h2 := keysV_len r (p.1 :: seen)
    unfold keysV
    cases seen.any (fun x => x == p.1) <;> simp <;> omega
theorem histL_succ (l : List S33) (k : Nat) : histL l (k + 1) = bif (l.getD k z33).f0 == 4 then ((l.getD k z33).f1, (l.getD k z33).f2) :: histL l k else histL l k := rfl
theorem refL_succ (l : List S33) (i k : Nat) : refL l i (k + 1) = bif (l.getD k z33).f0 == 4 && lastB l k i then insL (refL l i k) (l.getD k z33).f2 else refL l i k := rfl
theorem svals_len (d : List (Int × Int)) : (svals d).length ≤ d.length := by
  unfold svals
  rw [(isort_perm _).length_eq, List.length_map]
  exact keysV_len d []
theorem refL_len (l : List S33) (i : Nat) : (refL l i i).length ≤ i := by
  rw [← cpt_ref]
  exact Nat.le_trans (cptU_len _ _) (Nat.le_trans (svals_len _) (histL_len l i))
set_option maxRecDepth 100000 in
theorem e13 (O : Nat → Prop) (w0 : World) : Entry Tryd.prog O w0 13 (gReq O w0) :=
  Entry.madeQ Γ15_ok 100 5 (g := gReq) (fun O w0 args M k hg β w hI => by
    unfold gReq at hg
    split at hg
    case h_2 => exact hg.elim
    rename_i a i
    obtain ⟨l, ⟨hsz, hid, B, c, As, cs, ha, hcap, hA⟩, hk⟩ := hg
    refine ⟨[cmdsV B (fun j => l.getD j z33) As cs l.length c, iV i], _, by unfold fr; simp only [List.map_cons, ha β, List.map_nil], f13 _ w B (fun j => l.getD j z33) As cs l.length c i (R13a l i) (R13b (refL l i.toNat i.toNat)) (QK M k) ?_⟩
    have fin : ∀ {M' : List Blk} {s : SC}, ResL M' 46 2 (reqP l i).length (prs (reqP l i)) s → QK M k (.v (.c s)) M' := fun {M' s} h => ⟨[], s, 46, 2, _, _, rfl, rfl, h, hk⟩
    refine cond_of (fun h => fin (resNil (by unfold reqP; rw [if_pos (.inl (of_decide_eq_true h))]))) (fun h => cond_of (fun h2 => fin (resNil (by unfold reqP; rw [if_pos (.inr (of_decide_eq_true h2))]))) (fun h2 => ?_))
    have h0 : ¬ i < 0 := of_decide_eq_false h
    have h1 : ¬ i ≥ l.length := of_decide_eq_false h2
    have hno : ¬ (i < 0 ∨ i ≥ l.length) := by omega
    have e0 : ∀ n : Nat, 0 + n = n := Nat.zero_add
    have hr := hA i.toNat (by omega)
    simp only [e0]
    refine ⟨⟨by omega, by omega⟩, hr.1, hr.2.1.at hI.fr, cond_of (fun h3 => ?_) (fun h3 => cond_of (fun h4 => ?_) (fun h4 => cond_of (fun h5 => ?_) (fun h5 => ?_)))⟩
    · exact fin (resOne rfl (by unfold reqP; rw [if_neg hno, if_pos (by simpa using h3)]))
    · exact fin (resOne rfl (by unfold reqP; rw [if_neg hno, if_neg (by simpa using h3), if_pos (by simpa using h4)]))
    rotate_left
    · exact fin (resNil (by unfold reqP; rw [if_neg hno, if_neg (by simpa using h3), if_neg (by simpa using h4), if_neg (by simpa using h5)]))
    have hreq : reqP l i = (refL l i.toNat i.toNat).map (fun x => (x, 2)) := by unfold reqP; rw [if_neg hno, if_neg (by simpa using h3), if_neg (by simpa using h4), if_pos (by simpa using h5)]
    have hlen := refL_len l i.toNat
    refine ⟨⟨Int.le_refl _, show (0 : Int) ≤ i by omega, show i ≤ (c : Int) by omega⟩, ⟨Int.le_refl _, by omega, by omega⟩, fun _ _ => Nat.zero_le _, ⟨⟨Int.le_refl _, by omega, rfl⟩, rfl, fun _ => rfl⟩, ?_⟩
    rintro ⟨q, d⟩ J ⟨q0, q1, hd⟩
    subst hd
    dsimp only
    refine cond_of (fun hq => ?_) (fun hq => ?_)
    · have hq : q < (i.toNat : Int) := of_decide_eq_true hq
      have hrk := hA q.toNat (by omega)
      have hs : (q + 1).toNat = q.toNat + 1 := by omega
      have hI6 := hid.at_ q.toNat (by omega)
      have hhl := histL_len l q.toNat
      rw [wrap_in (show -9223372036854775808 ≤ q + 1 by omega) (by omega)]
      refine ⟨⟨q0, hq⟩, hrk.1, hrk.2.1.at hI.fr, cond_of (fun hb => ⟨trivial, ⟨by omega, by omega⟩, hI6.1, hI6.2, ⟨⟨by omega, by omega, ?_⟩, rfl, fun _ => rfl⟩, ⟨by show (_ : Int).toNat < (_ : Int).toNat; omega⟩⟩) (fun hb => ⟨⟨⟨by omega, by omega, ?_⟩, rfl, fun _ => rfl⟩, ⟨by show (_ : Int).toNat < (_ : Int).toNat; omega⟩⟩)⟩
      · rw [hs, histL_succ, hb]; rfl
      · rw [hs, histL_succ, hb]; rfl
    · have hq : ¬ q < (i.toNat : Int) := of_decide_eq_false hq
      have hqi : q.toNat = i.toNat := by omega
      have hhl := histL_len l q.toNat
      have hsl := svals_len (histL l q.toNat)
      have hcr := cpt_ref l i.toNat
      refine ⟨trivial, ⟨by omega, by omega⟩, svals (histL l q.toNat), ⟨_, rfl, rfl⟩, show (svals (histL l q.toNat)).length ≤ 1000000 by omega, fun _ _ => Nat.zero_le _, ⟨⟨Int.le_refl _, by omega, by rw [hqi, hcr], fun j hj => by rw [hqi, hcr]; rfl, rfl, fun j hj => absurd hj (Nat.not_lt_zero j)⟩, rfl, fun _ => rfl⟩, ?_⟩
      rintro ⟨k2, n, f, m, g⟩ J2 hR
      have hR' := hR
      obtain ⟨r0, r1, r2, r3, r4, r5⟩ := hR'
      dsimp only
      refine cond_of (fun hk1 => ?_) (fun hk1 => ?_)
      · have hk1 : k2 < (n : Int) := of_decide_eq_true hk1
        rw [wrap_in (show -9223372036854775808 ≤ k2 + 1 by omega) (by omega)]
        exact ⟨⟨r0, hk1⟩, ⟨by omega, by omega⟩, ⟨by omega⟩, ⟨R13b_step hR hk1 (fun j _ => rfl), rfl, fun _ => rfl⟩, ⟨by show (_ : Int).toNat < (_ : Int).toNat; omega⟩⟩
      · have hk1 : ¬ k2 < (n : Int) := of_decide_eq_false hk1
        exact fin (resMap rfl hreq (by omega) r5)) O w0
def R14a (l : List S33) (i : Int) : K2 → Prop := fun ⟨k, n, f⟩ => 0 ≤ k ∧ k ≤ i ∧ n = (refL l i.toNat k.toNat).length ∧ ∀ j, j < n → f j = ints (refL l i.toNat k.toNat) j
theorem insF_len (t : Int) : ∀ (l : List Int) (d : Bool), (insF t d l).length ≤ l.length + 1
  | [], d => by cases d <;> simp [insF]
  | x :: r, d => by
    rw [insF_cons]
    by_cases hd : (!d && decide (x ≥ t)) = true
    · rw [hd]
      simp only [cond_true]
      rw [insF_true]
      have := List.length_filter_le (· != t) r
      cases (x != t) <;> simp <;> omega
    · have hd : (!d && decide (x ≥ t)) = false := by simpa using hd
      rw [hd]
      simp only [cond_false]
      have := insF_len t r d
      cases (x != t) <;> simp <;> omega
theorem refL_le (l : List S33) (i : Nat) : ∀ k, (refL l i k).length ≤ k
  | 0 => Nat.le_refl _
  | k + 1 => by
    have ih := refL_le l i k
    rw [refL_succ]
    cases ((l.getD k z33).f0 == 4 && lastB l k i) with
    | false => simp only [cond_false]; omega
    | true =>
      simp only [cond_true]
      have := insF_len (l.getD k z33).f2 (refL l i k) false
      unfold insL; omega
set_option maxRecDepth 100000 in
theorem e14 (O : Nat → Prop) (w0 : World) : Entry Tryd.prog O w0 14 (gReq O w0) :=
  Entry.madeQ Γ15_ok 100 5 (g := gReq) (fun O w0 args M k hg β w hI => by
    unfold gReq at hg
    split at hg
    case h_2 => exact hg.elim
    rename_i a i
    obtain ⟨l, ⟨hsz, hid, B, c, As, cs, ha, hcap, hA⟩, hk⟩ := hg
    have hX : CmdsX (fun _ => False) w (cmdsV B (fun j => l.getD j z33) As cs l.length c) l := ⟨by omega, B, c, As, cs, fun _ => rfl, fun j hj => ⟨(hA j hj).1, (hA j hj).2.1.at hI.fr, (hA j hj).2.2.1, fun q hq => ⟨((hA j hj).2.2.2 q hq).1, ((hA j hj).2.2.2 q hq).2.at hI.fr⟩⟩⟩
    refine ⟨[cmdsV B (fun j => l.getD j z33) As cs l.length c, iV i], _, by unfold fr; simp only [List.map_cons, ha β, List.map_nil], f14 _ w B (fun j => l.getD j z33) As cs l.length c i (R14a l i) (R13b (refL l i.toNat i.toNat)) (QK M k) ?_⟩
    have fin : ∀ {M' : List Blk} {s : SC}, ResL M' 46 2 (reqP l i).length (prs (reqP l i)) s → QK M k (.v (.c s)) M' := fun {M' s} h => ⟨[], s, 46, 2, _, _, rfl, rfl, h, hk⟩
    refine cond_of (fun h => fin (resNil (by unfold reqP; rw [if_pos (.inl (of_decide_eq_true h))]))) (fun h => cond_of (fun h2 => fin (resNil (by unfold reqP; rw [if_pos (.inr (of_decide_eq_true h2))]))) (fun h2 => ?_))
    have h0 : ¬ i < 0 := of_decide_eq_false h
    have h1 : ¬ i ≥ l.length := of_decide_eq_false h2
    have hno : ¬ (i < 0 ∨ i ≥ l.length) := by omega
    have e0 : ∀ n : Nat, 0 + n = n := Nat.zero_add
    have hr := hA i.toNat (by omega)
    simp only [e0]
    refine ⟨⟨by omega, by omega⟩, hr.1, hr.2.1.at hI.fr, cond_of (fun h3 => ?_) (fun h3 => cond_of (fun h4 => ?_) (fun h4 => cond_of (fun h5 => ?_) (fun h5 => ?_)))⟩
    · exact fin (resOne rfl (by unfold reqP; rw [if_neg hno, if_pos (by simpa using h3)]))
    · exact fin (resOne rfl (by unfold reqP; rw [if_neg hno, if_neg (by simpa using h3), if_pos (by simpa using h4)]))
    rotate_left
    · exact fin (resNil (by unfold reqP; rw [if_neg hno, if_neg (by simpa using h3), if_neg (by simpa using h4), if_neg (by simpa using h5)]))
    have hreq : reqP l i = (refL l i.toNat i.toNat).map (fun x => (x, 2)) := by unfold reqP; rw [if_neg hno, if_neg (by simpa using h3), if_neg (by simpa using h4), if_pos (by simpa using h5)]
    have hlen := refL_len l i.toNat
    refine ⟨fun _ _ => Nat.zero_le _, ⟨⟨Int.le_refl _, by omega, rfl, fun j hj => absurd hj (Nat.not_lt_zero j)⟩, rfl, fun _ => rfl⟩, ?_⟩
    rintro ⟨q, n, f⟩ J ⟨q0, q1, hn, hf⟩
    dsimp only
    refine cond_of (fun hq => ?_) (fun hq => ?_)
    · have hq : q < i := of_decide_eq_true hq
      have hrk := hA q.toNat (by omega)
      have hs : (q + 1).toNat = q.toNat + 1 := by omega
      have hle := refL_le l i.toNat q.toNat
      have hin : In q (l.length : Int) := ⟨q0, by omega⟩
      have hat := hrk.2.1.at hI.fr
      rw [wrap_in (show -9223372036854775808 ≤ q + 1 by omega) (by omega)]
      have same : ((l.getD q.toNat z33).f0 == 4 && lastB l q.toNat i.toNat) = false → Fits (I14a B (fun j => l.getD j z33) As cs l.length c i (R14a l i)) ⟨q + 1, n, f⟩ (LInv.mem (I14a B (fun j => l.getD j z33) As cs l.length c i (R14a l i)) ⟨q + 1, n, f⟩) (LInv.tmp (I14a B (fun j => l.getD j z33) As cs l.length c i (R14a l i)) ⟨q + 1, n, f⟩) ∧ Dec (I14a B (fun j => l.getD j z33) As cs l.length c i (R14a l i)) ⟨q + 1, n, f⟩ ⟨q, n, f⟩ := fun hb =>
        ⟨⟨⟨by omega, by omega, by rw [hs, refL_succ, hb]; exact hn, fun j hj => by rw [hs, refL_succ, hb]; exact hf j hj⟩, rfl, fun _ => rfl⟩, ⟨by show (_ : Int).toNat < (_ : Int).toNat; omega⟩⟩
      refine ⟨hin, hrk.1, hrk.1, hat, cond_of (fun hb => ⟨l, hX, (show (0 : Int) ≤ q from q0), (show q + 1 ≤ i from hq), (show i ≤ (l.length : Int) by omega), cond_of (fun hl => ?_) (fun hl => same (by rw [hb, hl]; rfl))⟩) (fun hb => same (by rw [hb]; rfl))⟩
      refine ⟨hin, hrk.1, hrk.1, hat, refL l i.toNat q.toNat, ⟨.inr ⟨0, 3, f, rfl, by rw [← hn]; rfl, fun j hj => hf j (by rw [hn]; exact hj)⟩⟩, show (refL l i.toNat q.toNat).length ≤ 1000000 by omega, ⟨⟨by omega, by omega, by rw [hs, refL_succ, hb, hl]; rfl, fun j hj => by rw [hs, refL_succ, hb, hl]; rfl⟩, rfl, fun _ => rfl⟩, ⟨by show (_ : Int).toNat < (_ : Int).toNat; omega⟩⟩
    · have hq : ¬ q < i := of_decide_eq_false hq
      have hqi : q.toNat = i.toNat := by omega
      rw [hqi] at hn hf
      refine ⟨fun _ _ => Nat.zero_le _, ⟨⟨⟨0, n, ints (refL l i.toNat i.toNat), 0, fun _ => []⟩, ⟨Int.le_refl _, by omega, hn, fun j hj => rfl, rfl, fun j hj => absurd hj (Nat.not_lt_zero j)⟩, ⟨⟨_, rfl, hf⟩, ⟨_, rfl, fun j hj => rfl⟩, trivial⟩, fun _ => rfl, trivial⟩⟩, ?_⟩
      rintro ⟨k2, n2, f2, m, g⟩ J2 hR
      have hR' := hR
      obtain ⟨r0, r1, r2, r3, r4, r5⟩ := hR'
      dsimp only
      refine cond_of (fun hk1 => ?_) (fun hk1 => ?_)
      · have hk1 : k2 < (n2 : Int) := of_decide_eq_true hk1
        rw [wrap_in (show -9223372036854775808 ≤ k2 + 1 by omega) (by omega)]
        exact ⟨⟨r0, hk1⟩, ⟨by omega, by omega⟩, ⟨by omega⟩, ⟨⟨⟨k2 + 1, n2, f2, m + 1, _⟩, R13b_step hR hk1 (fun j _ => rfl), ⟨⟨_, rfl, fun j hj => rfl⟩, ⟨_, rfl, fun j hj => rfl⟩, trivial⟩, fun _ => rfl, by show (_ : Int).toNat < (_ : Int).toNat; omega⟩⟩⟩
      · have hk1 : ¬ k2 < (n2 : Int) := of_decide_eq_false hk1
        exact fin (resMap rfl hreq (by omega) r5)) O w0
theorem Γ16_ok : TSF Tryd.prog Γ16 := (Γ15_ok.add e13).add e14
--SHOW
end Go.Proofs.YtomnecadhiflnaaDoor.Br
