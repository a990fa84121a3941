/- Contracts of the package command and its reference: the draws and the passes of a list, and the copy of a command. -/
import Derived.Test.YtcompmidgfkloaaDoorCm10
namespace Go.Proofs.YtcompmidgfkloaaDoor.Cm
open Go Go.RowKit Go.Proofs.YtcompmidgfkloaaDoor.Eng
set_option linter.unusedVariables false
set_option linter.unusedSimpArgs false
structure N2 where
  i : Int
  n : Int
def rI2 (ts : List SX) (d e : Nat) : N2 := match ts.getD d undefX, ts.getD e undefX with
  | .v (.c (.val (.int _ n))), .v (.c (.val (.int _ m))) => ⟨n, m⟩
  | _, _ => ⟨0, 0⟩
def I22 (B : Option Addr) (l : Nat → S33) (As : Nat → Option Addr) (cs : Nat → Nat) (n c : Nat) (R : Int → Int → Prop) : LInv where
  σ := N2
  pre := fun ⟨i, d⟩ => R i d
  mem := fun _ => []
  tmp := fun ⟨i, d⟩ J => [jV (J 0), jV (J 1), jV (J 2), iV d, jV (J 4), jV (J 5), cmdsV B l As cs n c, iV n, iV i, jV (J 9), jV (J 10), jV (J 11), jV (J 12), jV (J 13), jV (J 14), jV (J 15), jV (J 16), jV (J 17), jV (J 18)]
  read := fun _ ts => rI2 ts 8 3
  junk := [0, 1, 2, 4, 5, 9, 10, 11, 12, 13, 14, 15, 16, 17, 18]
  μ := fun ⟨i, d⟩ => (n - i).toNat
def I23 (B : Option Addr) (l : Nat → S33) (As : Nat → Option Addr) (cs : Nat → Nat) (n c : Nat) (R : Int → Int → Prop) : LInv where
  σ := N2
  pre := fun ⟨i, d⟩ => R i d
  mem := fun _ => []
  tmp := fun ⟨i, d⟩ J => [cmdsV B l As cs n c, jV (J 1), jV (J 2), iV d, iV i, jV (J 5), jV (J 6), jV (J 7), jV (J 8), jV (J 9), jV (J 10), jV (J 11), jV (J 12), jV (J 13), jV (J 14), jV (J 15), jV (J 16), jV (J 17), jV (J 18), jV (J 19)]
  read := fun _ ts => rI2 ts 4 3
  junk := [1, 2, 5, 6, 7, 8, 9, 10, 11, 12, 13, 14, 15, 16, 17, 18, 19]
  μ := fun ⟨i, d⟩ => (n - i).toNat
/-- A number, a second one, and a list. -/
structure L2 where
  i : Int
  b : Int
  n : Nat
  f : Nat → List SC
def lstAt (M : List Blk) (x : SX) : Nat × (Nat → List SC) := match x with
  | .v (.c (.lst k)) => (match M[k]? with
    | some (.lst _ _ n f) => (n, f)
    | _ => (0, fun _ => []))
  | _ => (0, fun _ => [])
def K1 (e sz t : Nat) (ts : List SX) : KE := match ts.getD t undefX with
  | .v (.c (.lst k)) => .at_ k
  | _ => .nil e sz t
def rL2 (M : List Blk) (ts : List SX) (di db dl : Nat) : L2 := match ts.getD di undefX, ts.getD db undefX with
  | .v (.c (.val (.int _ n))), .v (.c (.val (.int _ m))) => ⟨n, m, (lstAt M (ts.getD dl undefX)).1, (lstAt M (ts.getD dl undefX)).2⟩
  | _, _ => ⟨0, 0, 0, fun _ => []⟩
def I20 (B : Option Addr) (l : Nat → S33) (As : Nat → Option Addr) (cs : Nat → Nat) (n c : Nat) (R : L2 → Prop) : LInv where
  σ := L2
  pre := fun ⟨i, b, m, f⟩ => R ⟨i, b, m, f⟩
  mem := fun ⟨i, b, m, f⟩ => [.lst 51 2 m f]
  tmp := fun ⟨i, b, m, f⟩ J => [jV (J 0), jV (J 1), jV (J 2), jV (J 3), jV (J 4), .v (.c (.lst 0)), iV b, jV (J 7), jV (J 8), jV (J 9), jV (J 10), jV (J 11), jV (J 12), jV (J 13), jV (J 14), jV (J 15), cmdsV B l As cs n c, iV n, iV i, jV (J 19), jV (J 20), jV (J 21), jV (J 22), jV (J 23), jV (J 24), jV (J 25), jV (J 26), jV (J 27), jV (J 28), jV (J 29), jV (J 30), jV (J 31), jV (J 32), jV (J 33), jV (J 34), jV (J 35), jV (J 36), jV (J 37)]
  read := fun M ts => rL2 M ts 18 6 5
  junk := [0, 1, 2, 3, 4, 7, 8, 9, 10, 11, 12, 13, 14, 15, 19, 20, 21, 22, 23, 24, 25, 26, 27, 28, 29, 30, 31, 32, 33, 34, 35, 36, 37]
  μ := fun ⟨i, b, m, f⟩ => (n - i).toNat
  keep := some fun M ts => [K1 51 2 5 ts]
def I21 (B : Option Addr) (l : Nat → S33) (As : Nat → Option Addr) (cs : Nat → Nat) (n c : Nat) (R : L2 → Prop) : LInv where
  σ := L2
  pre := fun ⟨i, b, m, f⟩ => R ⟨i, b, m, f⟩
  mem := fun ⟨i, b, m, f⟩ => [.lst 51 2 m f]
  tmp := fun ⟨i, b, m, f⟩ J => [cmdsV B l As cs n c, jV (J 1), jV (J 2), jV (J 3), jV (J 4), .v (.c (.lst 0)), iV b, iV i, jV (J 8), jV (J 9), jV (J 10), jV (J 11), jV (J 12), jV (J 13), jV (J 14), jV (J 15), jV (J 16), jV (J 17), jV (J 18), jV (J 19), jV (J 20), jV (J 21), jV (J 22), jV (J 23), jV (J 24), jV (J 25), jV (J 26), jV (J 27), jV (J 28), jV (J 29), jV (J 30), jV (J 31), jV (J 32), jV (J 33), jV (J 34), jV (J 35), jV (J 36), jV (J 37), jV (J 38), jV (J 39), jV (J 40), jV (J 41)]
  read := fun M ts => rL2 M ts 7 6 5
  junk := [1, 2, 3, 4, 8, 9, 10, 11, 12, 13, 14, 15, 16, 17, 18, 19, 20, 21, 22, 23, 24, 25, 26, 27, 28, 29, 30, 31, 32, 33, 34, 35, 36, 37, 38, 39, 40, 41]
  μ := fun ⟨i, b, m, f⟩ => (n - i).toNat
  keep := some fun M ts => [K1 51 2 5 ts]
def drawsN : List S33 → Int
  | [] => 0
  | x :: t => if x.f0 = 9 then drawsN t + 1 else drawsN t
def pas : List S33 → Int → Int → List (Int × Int)
  | [], _, _ => []
  | x :: t, i, b => if x.f0 = 7 then pas t (i + 1) i else if x.f0 = 8 then (b, i) :: pas t (i + 1) b else pas t (i + 1) b
def prC (p : Int × Int) : List SC := [.val (.int .i64 p.1), .val (.int .i64 p.2)]
/-- The list that a list's elements are. -/
structure LsX {α : Type} (enc : α → List SC) (d : α) (n : Nat) (f : Nat → List SC) (xs : List α) : Prop where
  len : n = xs.length
  at_ : ∀ j, j < n → f j = enc (xs.getD j d)
set_option maxHeartbeats 4000000 in
set_option maxRecDepth 100000 in
theorem f22 (O : Nat → Prop) (w0 : World) (B : Option Addr) (l : Nat → S33) (As : Nat → Option Addr) (cs : Nat → Nat) (n c : Nat) (R : Int → Int → Prop) (K : SX → Prop) (h_ : (∀ (s : N2), LInv.pre (I22 B l As cs n c R) s → Nat.le (0 : Nat) (List.length (LInv.mem (I22 B l As cs n c R) s))) ∧ Fits (I22 B l As cs n c R) (N2.mk (0 : Int) (0 : Int)) (LInv.mem (I22 B l As cs n c R) (N2.mk (0 : Int) (0 : Int))) (LInv.tmp (I22 B l As cs n c R) (N2.mk (0 : Int) (0 : Int))) ∧ ∀ (s : N2) (J : Nat → Value), LInv.pre (I22 B l As cs n c R) s → bif decide (s.1 < (↑n : Int)) then In s.1 (↑n : Int) ∧ Option.isSome B = true ∧ RowAt O w0 B (28 : Nat) (rowsC l As cs ((0 : Nat) + Int.toNat s.1)) ((0 : Nat) + Int.toNat s.1) ∧ bif S33.f0 (l ((0 : Nat) + Int.toNat s.1)) == (9 : Int) then Fits (I22 B l As cs n c R) (N2.mk (IntKind.wrap IntKind.i64 (s.1 + (1 : Int))) (IntKind.wrap IntKind.i64 (s.2 + (1 : Int)))) (LInv.mem (I22 B l As cs n c R) (N2.mk (IntKind.wrap IntKind.i64 (s.1 + (1 : Int))) (IntKind.wrap IntKind.i64 (s.2 + (1 : Int))))) (LInv.tmp (I22 B l As cs n c R) (N2.mk (IntKind.wrap IntKind.i64 (s.1 + (1 : Int))) (IntKind.wrap IntKind.i64 (s.2 + (1 : Int))))) ∧ Dec (I22 B l As cs n c R) (N2.mk (IntKind.wrap IntKind.i64 (s.1 + (1 : Int))) (IntKind.wrap IntKind.i64 (s.2 + (1 : Int)))) s else Fits (I22 B l As cs n c R) (N2.mk (IntKind.wrap IntKind.i64 (s.1 + (1 : Int))) s.2) (LInv.mem (I22 B l As cs n c R) (N2.mk (IntKind.wrap IntKind.i64 (s.1 + (1 : Int))) s.2)) (LInv.tmp (I22 B l As cs n c R) (N2.mk (IntKind.wrap IntKind.i64 (s.1 + (1 : Int))) s.2)) ∧ Dec (I22 B l As cs n c R) (N2.mk (IntKind.wrap IntKind.i64 (s.1 + (1 : Int))) s.2) s else K (SX.v (SV.c (SC.val (Value.int IntKind.i64 s.2))))) : evFn Tryd.prog O w0 (Γ10 O w0) (Λof 22 (I22 B l As cs n c R)) 100 5 22 [cmdsV B l As cs n c] [] (fun y _ => K y) := vc_of h_ (by kernel_rfl)
set_option maxHeartbeats 4000000 in
set_option maxRecDepth 100000 in
theorem f23 (O : Nat → Prop) (w0 : World) (B : Option Addr) (l : Nat → S33) (As : Nat → Option Addr) (cs : Nat → Nat) (n c : Nat) (R : Int → Int → Prop) (K : SX → Prop) (h_ : (∀ (s : N2), LInv.pre (I23 B l As cs n c R) s → Nat.le (0 : Nat) (List.length (LInv.mem (I23 B l As cs n c R) s))) ∧ Fits (I23 B l As cs n c R) (N2.mk (0 : Int) (0 : Int)) (LInv.mem (I23 B l As cs n c R) (N2.mk (0 : Int) (0 : Int))) (LInv.tmp (I23 B l As cs n c R) (N2.mk (0 : Int) (0 : Int))) ∧ ∀ (s : N2) (J : Nat → Value), LInv.pre (I23 B l As cs n c R) s → bif decide (s.1 < (↑n : Int)) then In s.1 (↑n : Int) ∧ Option.isSome B = true ∧ Option.isSome B = true ∧ RowAt O w0 B (28 : Nat) (rowsC l As cs ((0 : Nat) + Int.toNat s.1)) ((0 : Nat) + Int.toNat s.1) ∧ bif S33.f0 (l ((0 : Nat) + Int.toNat s.1)) == (9 : Int) then Fits (I23 B l As cs n c R) (N2.mk (IntKind.wrap IntKind.i64 (s.1 + (1 : Int))) (IntKind.wrap IntKind.i64 (s.2 + (1 : Int)))) (LInv.mem (I23 B l As cs n c R) (N2.mk (IntKind.wrap IntKind.i64 (s.1 + (1 : Int))) (IntKind.wrap IntKind.i64 (s.2 + (1 : Int))))) (LInv.tmp (I23 B l As cs n c R) (N2.mk (IntKind.wrap IntKind.i64 (s.1 + (1 : Int))) (IntKind.wrap IntKind.i64 (s.2 + (1 : Int))))) ∧ Dec (I23 B l As cs n c R) (N2.mk (IntKind.wrap IntKind.i64 (s.1 + (1 : Int))) (IntKind.wrap IntKind.i64 (s.2 + (1 : Int)))) s else Fits (I23 B l As cs n c R) (N2.mk (IntKind.wrap IntKind.i64 (s.1 + (1 : Int))) s.2) (LInv.mem (I23 B l As cs n c R) (N2.mk (IntKind.wrap IntKind.i64 (s.1 + (1 : Int))) s.2)) (LInv.tmp (I23 B l As cs n c R) (N2.mk (IntKind.wrap IntKind.i64 (s.1 + (1 : Int))) s.2)) ∧ Dec (I23 B l As cs n c R) (N2.mk (IntKind.wrap IntKind.i64 (s.1 + (1 : Int))) s.2) s else K (SX.v (SV.c (SC.val (Value.int IntKind.i64 s.2))))) : evFn Tryd.prog O w0 (Γ10 O w0) (Λof 23 (I23 B l As cs n c R)) 100 5 23 [cmdsV B l As cs n c] [] (fun y _ => K y) := vc_of h_ (by kernel_rfl)
set_option maxHeartbeats 4000000 in
set_option maxRecDepth 100000 in
theorem f20 (O : Nat → Prop) (w0 : World) (B : Option Addr) (l : Nat → S33) (As : Nat → Option Addr) (cs : Nat → Nat) (n c : Nat) (R : L2 → Prop) (K : SX → List Blk → Prop) (h_ : Gl0 O w0 ∧ ∃ l_1, CmdsX O w0 (SX.v (SV.c (SC.rsl B (28 : Nat) (rowsC l As cs) (0 : Nat) n c))) l_1 ∧ ∀ (i e : Int), (i, e) = valid l_1 → bif e != (0 : Int) then K (SX.v (SV.c (SC.val (Value.slice none (0 : Nat) (0 : Nat))))) [] else (∀ (s : L2), LInv.pre (I20 B l As cs n c R) s → Nat.le (0 : Nat) (List.length (LInv.mem (I20 B l As cs n c R) s))) ∧ Fits (I20 B l As cs n c R) (L2.mk (0 : Int) (0 : Int) (0 : Nat) fun x ↦ []) (LInv.mem (I20 B l As cs n c R) (L2.mk (0 : Int) (0 : Int) (0 : Nat) fun x ↦ [])) (LInv.tmp (I20 B l As cs n c R) (L2.mk (0 : Int) (0 : Int) (0 : Nat) fun x ↦ [])) ∧ ∀ (s : L2) (J : Nat → Value), LInv.pre (I20 B l As cs n c R) s → bif decide (s.1 < (↑n : Int)) then In s.1 (↑n : Int) ∧ Option.isSome B = true ∧ RowAt O w0 B (28 : Nat) (rowsC l As cs ((0 : Nat) + Int.toNat s.1)) ((0 : Nat) + Int.toNat s.1) ∧ bif S33.f0 (l ((0 : Nat) + Int.toNat s.1)) == (7 : Int) then Fits (I20 B l As cs n c R) (L2.mk (IntKind.wrap IntKind.i64 (s.1 + (1 : Int))) s.1 s.3 s.4) (LInv.mem (I20 B l As cs n c R) (L2.mk (IntKind.wrap IntKind.i64 (s.1 + (1 : Int))) s.1 s.3 s.4)) (LInv.tmp (I20 B l As cs n c R) (L2.mk (IntKind.wrap IntKind.i64 (s.1 + (1 : Int))) s.1 s.3 s.4)) ∧ Dec (I20 B l As cs n c R) (L2.mk (IntKind.wrap IntKind.i64 (s.1 + (1 : Int))) s.1 s.3 s.4) s else bif S33.f0 (l ((0 : Nat) + Int.toNat s.1)) == (8 : Int) then Room (s.3 + (1 : Nat)) (16 : Nat) ∧ Fits (I20 B l As cs n c R) (L2.mk (IntKind.wrap IntKind.i64 (s.1 + (1 : Int))) s.2 (s.3 + (1 : Nat)) fun j ↦ bif Nat.blt j s.3 then s.4 j else [SC.val (Value.int IntKind.i64 s.2), SC.val (Value.int IntKind.i64 s.1)]) (LInv.mem (I20 B l As cs n c R) (L2.mk (IntKind.wrap IntKind.i64 (s.1 + (1 : Int))) s.2 (s.3 + (1 : Nat)) fun j ↦ bif Nat.blt j s.3 then s.4 j else [SC.val (Value.int IntKind.i64 s.2), SC.val (Value.int IntKind.i64 s.1)])) (LInv.tmp (I20 B l As cs n c R) (L2.mk (IntKind.wrap IntKind.i64 (s.1 + (1 : Int))) s.2 (s.3 + (1 : Nat)) fun j ↦ bif Nat.blt j s.3 then s.4 j else [SC.val (Value.int IntKind.i64 s.2), SC.val (Value.int IntKind.i64 s.1)])) ∧ Dec (I20 B l As cs n c R) (L2.mk (IntKind.wrap IntKind.i64 (s.1 + (1 : Int))) s.2 (s.3 + (1 : Nat)) fun j ↦ bif Nat.blt j s.3 then s.4 j else [SC.val (Value.int IntKind.i64 s.2), SC.val (Value.int IntKind.i64 s.1)]) s else Fits (I20 B l As cs n c R) (L2.mk (IntKind.wrap IntKind.i64 (s.1 + (1 : Int))) s.2 s.3 s.4) (LInv.mem (I20 B l As cs n c R) (L2.mk (IntKind.wrap IntKind.i64 (s.1 + (1 : Int))) s.2 s.3 s.4)) (LInv.tmp (I20 B l As cs n c R) (L2.mk (IntKind.wrap IntKind.i64 (s.1 + (1 : Int))) s.2 s.3 s.4)) ∧ Dec (I20 B l As cs n c R) (L2.mk (IntKind.wrap IntKind.i64 (s.1 + (1 : Int))) s.2 s.3 s.4) s else K (SX.v (SV.c (SC.lst (0 : Nat)))) [Blk.lst (nat_lit 51) (2 : Nat) s.3 s.4]) : evFn Tryd.prog O w0 (Γ10 O w0) (Λof 20 (I20 B l As cs n c R)) 100 5 20 [cmdsV B l As cs n c] [] K := vc_of h_ (by kernel_rfl)
set_option maxHeartbeats 4000000 in
set_option maxRecDepth 100000 in
theorem f21 (O : Nat → Prop) (w0 : World) (B : Option Addr) (l : Nat → S33) (As : Nat → Option Addr) (cs : Nat → Nat) (n c : Nat) (R : L2 → Prop) (K : SX → List Blk → Prop) (h_ : ∃ l_1, CmdsX O w0 (SX.v (SV.c (SC.rsl B (28 : Nat) (rowsC l As cs) (0 : Nat) n c))) l_1 ∧ ∀ (i e : Int), (i, e) = validR l_1 → bif e != (0 : Int) then K (SX.v (SV.c (SC.val (Value.slice none (0 : Nat) (0 : Nat))))) [] else (∀ (s : L2), LInv.pre (I21 B l As cs n c R) s → Nat.le (0 : Nat) (List.length (LInv.mem (I21 B l As cs n c R) s))) ∧ Fits (I21 B l As cs n c R) (L2.mk (0 : Int) (0 : Int) (0 : Nat) fun x ↦ []) (LInv.mem (I21 B l As cs n c R) (L2.mk (0 : Int) (0 : Int) (0 : Nat) fun x ↦ [])) (LInv.tmp (I21 B l As cs n c R) (L2.mk (0 : Int) (0 : Int) (0 : Nat) fun x ↦ [])) ∧ ∀ (s : L2) (J : Nat → Value), LInv.pre (I21 B l As cs n c R) s → bif decide (s.1 < (↑n : Int)) then In s.1 (↑n : Int) ∧ Option.isSome B = true ∧ Option.isSome B = true ∧ RowAt O w0 B (28 : Nat) (rowsC l As cs ((0 : Nat) + Int.toNat s.1)) ((0 : Nat) + Int.toNat s.1) ∧ bif S33.f0 (l ((0 : Nat) + Int.toNat s.1)) == (7 : Int) then In s.1 (↑n : Int) ∧ Option.isSome B = true ∧ Option.isSome B = true ∧ RowAt O w0 B (28 : Nat) (rowsC l As cs ((0 : Nat) + Int.toNat s.1)) ((0 : Nat) + Int.toNat s.1) ∧ bif S33.f0 (l ((0 : Nat) + Int.toNat s.1)) == (8 : Int) then Room (s.3 + (1 : Nat)) (16 : Nat) ∧ Fits (I21 B l As cs n c R) (L2.mk (IntKind.wrap IntKind.i64 (s.1 + (1 : Int))) s.1 (s.3 + (1 : Nat)) fun j ↦ bif Nat.blt j s.3 then s.4 j else [SC.val (Value.int IntKind.i64 s.1), SC.val (Value.int IntKind.i64 s.1)]) (LInv.mem (I21 B l As cs n c R) (L2.mk (IntKind.wrap IntKind.i64 (s.1 + (1 : Int))) s.1 (s.3 + (1 : Nat)) fun j ↦ bif Nat.blt j s.3 then s.4 j else [SC.val (Value.int IntKind.i64 s.1), SC.val (Value.int IntKind.i64 s.1)])) (LInv.tmp (I21 B l As cs n c R) (L2.mk (IntKind.wrap IntKind.i64 (s.1 + (1 : Int))) s.1 (s.3 + (1 : Nat)) fun j ↦ bif Nat.blt j s.3 then s.4 j else [SC.val (Value.int IntKind.i64 s.1), SC.val (Value.int IntKind.i64 s.1)])) ∧ Dec (I21 B l As cs n c R) (L2.mk (IntKind.wrap IntKind.i64 (s.1 + (1 : Int))) s.1 (s.3 + (1 : Nat)) fun j ↦ bif Nat.blt j s.3 then s.4 j else [SC.val (Value.int IntKind.i64 s.1), SC.val (Value.int IntKind.i64 s.1)]) s else Fits (I21 B l As cs n c R) (L2.mk (IntKind.wrap IntKind.i64 (s.1 + (1 : Int))) s.1 s.3 s.4) (LInv.mem (I21 B l As cs n c R) (L2.mk (IntKind.wrap IntKind.i64 (s.1 + (1 : Int))) s.1 s.3 s.4)) (LInv.tmp (I21 B l As cs n c R) (L2.mk (IntKind.wrap IntKind.i64 (s.1 + (1 : Int))) s.1 s.3 s.4)) ∧ Dec (I21 B l As cs n c R) (L2.mk (IntKind.wrap IntKind.i64 (s.1 + (1 : Int))) s.1 s.3 s.4) s else In s.1 (↑n : Int) ∧ Option.isSome B = true ∧ Option.isSome B = true ∧ RowAt O w0 B (28 : Nat) (rowsC l As cs ((0 : Nat) + Int.toNat s.1)) ((0 : Nat) + Int.toNat s.1) ∧ bif S33.f0 (l ((0 : Nat) + Int.toNat s.1)) == (8 : Int) then Room (s.3 + (1 : Nat)) (16 : Nat) ∧ Fits (I21 B l As cs n c R) (L2.mk (IntKind.wrap IntKind.i64 (s.1 + (1 : Int))) s.2 (s.3 + (1 : Nat)) fun j ↦ bif Nat.blt j s.3 then s.4 j else [SC.val (Value.int IntKind.i64 s.2), SC.val (Value.int IntKind.i64 s.1)]) (LInv.mem (I21 B l As cs n c R) (L2.mk (IntKind.wrap IntKind.i64 (s.1 + (1 : Int))) s.2 (s.3 + (1 : Nat)) fun j ↦ bif Nat.blt j s.3 then s.4 j else [SC.val (Value.int IntKind.i64 s.2), SC.val (Value.int IntKind.i64 s.1)])) (LInv.tmp (I21 B l As cs n c R) (L2.mk (IntKind.wrap IntKind.i64 (s.1 + (1 : Int))) s.2 (s.3 + (1 : Nat)) fun j ↦ bif Nat.blt j s.3 then s.4 j else [SC.val (Value.int IntKind.i64 s.2), SC.val (Value.int IntKind.i64 s.1)])) ∧ Dec (I21 B l As cs n c R) (L2.mk (IntKind.wrap IntKind.i64 (s.1 + (1 : Int))) s.2 (s.3 + (1 : Nat)) fun j ↦ bif Nat.blt j s.3 then s.4 j else [SC.val (Value.int IntKind.i64 s.2), SC.val (Value.int IntKind.i64 s.1)]) s else Fits (I21 B l As cs n c R) (L2.mk (IntKind.wrap IntKind.i64 (s.1 + (1 : Int))) s.2 s.3 s.4) (LInv.mem (I21 B l As cs n c R) (L2.mk (IntKind.wrap IntKind.i64 (s.1 + (1 : Int))) s.2 s.3 s.4)) (LInv.tmp (I21 B l As cs n c R) (L2.mk (IntKind.wrap IntKind.i64 (s.1 + (1 : Int))) s.2 s.3 s.4)) ∧ Dec (I21 B l As cs n c R) (L2.mk (IntKind.wrap IntKind.i64 (s.1 + (1 : Int))) s.2 s.3 s.4) s else K (SX.v (SV.c (SC.lst (0 : Nat)))) [Blk.lst (nat_lit 51) (2 : Nat) s.3 s.4]) : evFn Tryd.prog O w0 (Γ10 O w0) (Λof 21 (I21 B l As cs n c R)) 100 5 21 [cmdsV B l As cs n c] [] K := vc_of h_ (by kernel_rfl)
set_option maxHeartbeats 4000000 in
set_option maxRecDepth 100000 in
theorem f19 (O : Nat → Prop) (w0 : World) (x : S33) (A : Option Addr) (c : Nat) (K : SX → List Blk → Prop) (h_ : bif bif Option.isNone A then true else false then K (SX.v (SV.agg [SC.val (Value.int IntKind.i64 (S33.f0 x)), SC.val (Value.int IntKind.i64 (S33.f1 x)), SC.val (Value.int IntKind.i64 (S33.f2 x)), SC.val (Value.int IntKind.i64 (S33.f3 x)), SC.val (Value.int IntKind.i64 (S33.f4 x)), SC.val (Value.int IntKind.i64 (S33.f5 x)), SC.val (Value.int IntKind.i64 (S33.f6 x)), SC.val (Value.int IntKind.i64 (S33.f7 x)), SC.val (Value.int IntKind.i64 (S30.f0 (S33.f8 x))), SC.val (Value.int IntKind.i64 (S30.f1 (S33.f8 x))), SC.val (Value.int IntKind.i64 (S30.f2 (S33.f8 x))), SC.val (Value.int IntKind.i64 (S30.f3 (S33.f8 x))), SC.val (Value.int IntKind.i64 (S30.f4 (S33.f8 x))), SC.val (Value.int IntKind.i64 (S28.f0 (S30.f5 (S33.f8 x)))), SC.val (Value.int IntKind.i64 (S28.f1 (S30.f5 (S33.f8 x)))), SC.val (Value.int IntKind.i64 (S28.f2 (S30.f5 (S33.f8 x)))), SC.val (Value.int IntKind.i64 (S28.f3 (S30.f5 (S33.f8 x)))), SC.val (Value.int IntKind.i64 (S30.f6 (S33.f8 x))), SC.val (Value.int IntKind.i64 (S30.f7 (S33.f8 x))), SC.val (Value.int IntKind.i64 (S30.f8 (S33.f8 x))), SC.val (Value.slice none (0 : Nat) (0 : Nat)), SC.val (Value.int IntKind.i64 (S28.f0 (S33.f10 x))), SC.val (Value.int IntKind.i64 (S28.f1 (S33.f10 x))), SC.val (Value.int IntKind.i64 (S28.f2 (S33.f10 x))), SC.val (Value.int IntKind.i64 (S28.f3 (S33.f10 x))), SC.val (Value.int IntKind.i64 (S33.f11 x)), SC.val (Value.int IntKind.i64 (S33.f12 x)), SC.val (Value.bool (S33.f13 x))])) [Blk.mk (33 : Nat) [SC.val (Value.int IntKind.i64 (S33.f0 x)), SC.val (Value.int IntKind.i64 (S33.f1 x)), SC.val (Value.int IntKind.i64 (S33.f2 x)), SC.val (Value.int IntKind.i64 (S33.f3 x)), SC.val (Value.int IntKind.i64 (S33.f4 x)), SC.val (Value.int IntKind.i64 (S33.f5 x)), SC.val (Value.int IntKind.i64 (S33.f6 x)), SC.val (Value.int IntKind.i64 (S33.f7 x)), SC.val (Value.int IntKind.i64 (S30.f0 (S33.f8 x))), SC.val (Value.int IntKind.i64 (S30.f1 (S33.f8 x))), SC.val (Value.int IntKind.i64 (S30.f2 (S33.f8 x))), SC.val (Value.int IntKind.i64 (S30.f3 (S33.f8 x))), SC.val (Value.int IntKind.i64 (S30.f4 (S33.f8 x))), SC.val (Value.int IntKind.i64 (S28.f0 (S30.f5 (S33.f8 x)))), SC.val (Value.int IntKind.i64 (S28.f1 (S30.f5 (S33.f8 x)))), SC.val (Value.int IntKind.i64 (S28.f2 (S30.f5 (S33.f8 x)))), SC.val (Value.int IntKind.i64 (S28.f3 (S30.f5 (S33.f8 x)))), SC.val (Value.int IntKind.i64 (S30.f6 (S33.f8 x))), SC.val (Value.int IntKind.i64 (S30.f7 (S33.f8 x))), SC.val (Value.int IntKind.i64 (S30.f8 (S33.f8 x))), SC.val (Value.slice none (0 : Nat) (0 : Nat)), SC.val (Value.int IntKind.i64 (S28.f0 (S33.f10 x))), SC.val (Value.int IntKind.i64 (S28.f1 (S33.f10 x))), SC.val (Value.int IntKind.i64 (S28.f2 (S33.f10 x))), SC.val (Value.int IntKind.i64 (S28.f3 (S33.f10 x))), SC.val (Value.int IntKind.i64 (S33.f11 x)), SC.val (Value.int IntKind.i64 (S33.f12 x)), SC.val (Value.bool (S33.f13 x))], Blk.mk (33 : Nat) [SC.val (Value.int IntKind.i64 (S33.f0 x)), SC.val (Value.int IntKind.i64 (S33.f1 x)), SC.val (Value.int IntKind.i64 (S33.f2 x)), SC.val (Value.int IntKind.i64 (S33.f3 x)), SC.val (Value.int IntKind.i64 (S33.f4 x)), SC.val (Value.int IntKind.i64 (S33.f5 x)), SC.val (Value.int IntKind.i64 (S33.f6 x)), SC.val (Value.int IntKind.i64 (S33.f7 x)), SC.val (Value.int IntKind.i64 (S30.f0 (S33.f8 x))), SC.val (Value.int IntKind.i64 (S30.f1 (S33.f8 x))), SC.val (Value.int IntKind.i64 (S30.f2 (S33.f8 x))), SC.val (Value.int IntKind.i64 (S30.f3 (S33.f8 x))), SC.val (Value.int IntKind.i64 (S30.f4 (S33.f8 x))), SC.val (Value.int IntKind.i64 (S28.f0 (S30.f5 (S33.f8 x)))), SC.val (Value.int IntKind.i64 (S28.f1 (S30.f5 (S33.f8 x)))), SC.val (Value.int IntKind.i64 (S28.f2 (S30.f5 (S33.f8 x)))), SC.val (Value.int IntKind.i64 (S28.f3 (S30.f5 (S33.f8 x)))), SC.val (Value.int IntKind.i64 (S30.f6 (S33.f8 x))), SC.val (Value.int IntKind.i64 (S30.f7 (S33.f8 x))), SC.val (Value.int IntKind.i64 (S30.f8 (S33.f8 x))), SC.val (Value.slice none (0 : Nat) (0 : Nat)), SC.val (Value.int IntKind.i64 (S28.f0 (S33.f10 x))), SC.val (Value.int IntKind.i64 (S28.f1 (S33.f10 x))), SC.val (Value.int IntKind.i64 (S28.f2 (S33.f10 x))), SC.val (Value.int IntKind.i64 (S28.f3 (S33.f10 x))), SC.val (Value.int IntKind.i64 (S33.f11 x)), SC.val (Value.int IntKind.i64 (S33.f12 x)), SC.val (Value.bool (S33.f13 x))]] else RowsOk O w0 A (1 : Nat) (ints (S33.f9 x)) (0 : Nat) (List.length (S33.f9 x)) ∧ Room ((0 : Nat) + List.length (S33.f9 x)) (8 : Nat) ∧ K (SX.v (SV.agg [SC.val (Value.int IntKind.i64 (S33.f0 x)), SC.val (Value.int IntKind.i64 (S33.f1 x)), SC.val (Value.int IntKind.i64 (S33.f2 x)), SC.val (Value.int IntKind.i64 (S33.f3 x)), SC.val (Value.int IntKind.i64 (S33.f4 x)), SC.val (Value.int IntKind.i64 (S33.f5 x)), SC.val (Value.int IntKind.i64 (S33.f6 x)), SC.val (Value.int IntKind.i64 (S33.f7 x)), SC.val (Value.int IntKind.i64 (S30.f0 (S33.f8 x))), SC.val (Value.int IntKind.i64 (S30.f1 (S33.f8 x))), SC.val (Value.int IntKind.i64 (S30.f2 (S33.f8 x))), SC.val (Value.int IntKind.i64 (S30.f3 (S33.f8 x))), SC.val (Value.int IntKind.i64 (S30.f4 (S33.f8 x))), SC.val (Value.int IntKind.i64 (S28.f0 (S30.f5 (S33.f8 x)))), SC.val (Value.int IntKind.i64 (S28.f1 (S30.f5 (S33.f8 x)))), SC.val (Value.int IntKind.i64 (S28.f2 (S30.f5 (S33.f8 x)))), SC.val (Value.int IntKind.i64 (S28.f3 (S30.f5 (S33.f8 x)))), SC.val (Value.int IntKind.i64 (S30.f6 (S33.f8 x))), SC.val (Value.int IntKind.i64 (S30.f7 (S33.f8 x))), SC.val (Value.int IntKind.i64 (S30.f8 (S33.f8 x))), SC.lst (3 : Nat), SC.val (Value.int IntKind.i64 (S28.f0 (S33.f10 x))), SC.val (Value.int IntKind.i64 (S28.f1 (S33.f10 x))), SC.val (Value.int IntKind.i64 (S28.f2 (S33.f10 x))), SC.val (Value.int IntKind.i64 (S28.f3 (S33.f10 x))), SC.val (Value.int IntKind.i64 (S33.f11 x)), SC.val (Value.int IntKind.i64 (S33.f12 x)), SC.val (Value.bool (S33.f13 x))])) [Blk.mk (33 : Nat) [SC.val (Value.int IntKind.i64 (S33.f0 x)), SC.val (Value.int IntKind.i64 (S33.f1 x)), SC.val (Value.int IntKind.i64 (S33.f2 x)), SC.val (Value.int IntKind.i64 (S33.f3 x)), SC.val (Value.int IntKind.i64 (S33.f4 x)), SC.val (Value.int IntKind.i64 (S33.f5 x)), SC.val (Value.int IntKind.i64 (S33.f6 x)), SC.val (Value.int IntKind.i64 (S33.f7 x)), SC.val (Value.int IntKind.i64 (S30.f0 (S33.f8 x))), SC.val (Value.int IntKind.i64 (S30.f1 (S33.f8 x))), SC.val (Value.int IntKind.i64 (S30.f2 (S33.f8 x))), SC.val (Value.int IntKind.i64 (S30.f3 (S33.f8 x))), SC.val (Value.int IntKind.i64 (S30.f4 (S33.f8 x))), SC.val (Value.int IntKind.i64 (S28.f0 (S30.f5 (S33.f8 x)))), SC.val (Value.int IntKind.i64 (S28.f1 (S30.f5 (S33.f8 x)))), SC.val (Value.int IntKind.i64 (S28.f2 (S30.f5 (S33.f8 x)))), SC.val (Value.int IntKind.i64 (S28.f3 (S30.f5 (S33.f8 x)))), SC.val (Value.int IntKind.i64 (S30.f6 (S33.f8 x))), SC.val (Value.int IntKind.i64 (S30.f7 (S33.f8 x))), SC.val (Value.int IntKind.i64 (S30.f8 (S33.f8 x))), SC.lst (3 : Nat), SC.val (Value.int IntKind.i64 (S28.f0 (S33.f10 x))), SC.val (Value.int IntKind.i64 (S28.f1 (S33.f10 x))), SC.val (Value.int IntKind.i64 (S28.f2 (S33.f10 x))), SC.val (Value.int IntKind.i64 (S28.f3 (S33.f10 x))), SC.val (Value.int IntKind.i64 (S33.f11 x)), SC.val (Value.int IntKind.i64 (S33.f12 x)), SC.val (Value.bool (S33.f13 x))], Blk.mk (33 : Nat) [SC.val (Value.int IntKind.i64 (S33.f0 x)), SC.val (Value.int IntKind.i64 (S33.f1 x)), SC.val (Value.int IntKind.i64 (S33.f2 x)), SC.val (Value.int IntKind.i64 (S33.f3 x)), SC.val (Value.int IntKind.i64 (S33.f4 x)), SC.val (Value.int IntKind.i64 (S33.f5 x)), SC.val (Value.int IntKind.i64 (S33.f6 x)), SC.val (Value.int IntKind.i64 (S33.f7 x)), SC.val (Value.int IntKind.i64 (S30.f0 (S33.f8 x))), SC.val (Value.int IntKind.i64 (S30.f1 (S33.f8 x))), SC.val (Value.int IntKind.i64 (S30.f2 (S33.f8 x))), SC.val (Value.int IntKind.i64 (S30.f3 (S33.f8 x))), SC.val (Value.int IntKind.i64 (S30.f4 (S33.f8 x))), SC.val (Value.int IntKind.i64 (S28.f0 (S30.f5 (S33.f8 x)))), SC.val (Value.int IntKind.i64 (S28.f1 (S30.f5 (S33.f8 x)))), SC.val (Value.int IntKind.i64 (S28.f2 (S30.f5 (S33.f8 x)))), SC.val (Value.int IntKind.i64 (S28.f3 (S30.f5 (S33.f8 x)))), SC.val (Value.int IntKind.i64 (S30.f6 (S33.f8 x))), SC.val (Value.int IntKind.i64 (S30.f7 (S33.f8 x))), SC.val (Value.int IntKind.i64 (S30.f8 (S33.f8 x))), SC.lst (3 : Nat), SC.val (Value.int IntKind.i64 (S28.f0 (S33.f10 x))), SC.val (Value.int IntKind.i64 (S28.f1 (S33.f10 x))), SC.val (Value.int IntKind.i64 (S28.f2 (S33.f10 x))), SC.val (Value.int IntKind.i64 (S28.f3 (S33.f10 x))), SC.val (Value.int IntKind.i64 (S33.f11 x)), SC.val (Value.int IntKind.i64 (S33.f12 x)), SC.val (Value.bool (S33.f13 x))], Blk.dead, Blk.lst (3 : Nat) (1 : Nat) ((0 : Nat) + List.length (S33.f9 x)) fun j ↦ [SC.val (Value.int IntKind.i64 (List.getD (S33.f9 x) ((0 : Nat) + (j - (0 : Nat))) (0 : Int)))]]) : evFn Tryd.prog O w0 (Γ10 O w0) Λn 100 5 19 [cmdV x A c] [] K := vc_of h_ (by kernel_rfl)
def gDrw : EntF := fun O w0 args M k => match args with
  | [a] => ∃ l, CmdsX O w0 a l ∧ k (iV (drawsN l)) M
  | _ => False
def gPas : EntF := fun O w0 args M k => match args with
  | [a] => Gl0 O w0 ∧ ∃ l, CmdsX O w0 a l ∧ ((valid l).2 ≠ 0 → k (.v (.c (.val (.slice none 0 0)))) M) ∧ ((valid l).2 = 0 → ∀ xs, xs = pas l 0 0 → k (.v (.c (.lst M.length))) (M ++ [.lst 51 2 xs.length (fun j => prC (xs.getD j (0, 0)))]))
  | _ => False
def gPasR : EntF := fun O w0 args M k => match args with
  | [a] => ∃ l, CmdsX O w0 a l ∧ ((validR l).2 ≠ 0 → k (.v (.c (.val (.slice none 0 0)))) M) ∧ ((validR l).2 = 0 → ∀ xs, xs = pas l 0 0 → k (.v (.c (.lst M.length))) (M ++ [.lst 51 2 xs.length (fun j => prC (xs.getD j (0, 0)))]))
  | _ => False
def gCln : EntF := fun O w0 args M k => match args with
  | [a] => ∃ c : S33, CmdX O w0 a c ∧ Room (0 + c.f9.length) 8 ∧ (c.f9 = [] → k (.v (.agg (cells33 c (.val (.slice none 0 0))))) M) ∧ ∀ n f, LsX (fun i => [SC.val (.int .i64 i)]) 0 n f c.f9 → k (.v (.agg (cells33 c (.lst M.length)))) (M ++ [.lst 3 1 n f])
  | _ => False
def Γ11 : TabF := addF (addF (addF (addF (addF Γ10 22 gDrw) 23 gDrw) 20 gPas) 21 gPasR) 19 gCln
--HIDE
theorem drawsN_nil : drawsN [] = 0 := rfl
theorem drawsN_le : ∀ l : List S33, 0 ≤ drawsN l ∧ drawsN l ≤ l.length
  | [] => by simp [drawsN]
  | x :: t => by
    have := drawsN_le t
    unfold drawsN
    split <;> simp <;> omega
theorem drawsN_cons (x : S33) (t : List S33) : drawsN (x :: t) = if x.f0 = 9 then drawsN t + 1 else drawsN t := rfl
theorem valid_len {l : List S33} (h : (valid l).2 = 0) : l.length ≤ 256 := by
  unfold valid at h
  by_cases c : l.length > 256
  · rw [if_pos c] at h; exact absurd h (by decide)
  · omega
theorem LsX.nil {α : Type} (enc : α → List SC) (d : α) (f : Nat → List SC) : LsX enc d 0 f [] := ⟨rfl, fun j hj => absurd hj (Nat.not_lt_zero j)⟩
theorem LsX.push {α : Type} {enc : α → List SC} {d : α} {n : Nat} {f : Nat → List SC} {xs : List α} (h : LsX enc d n f xs) (x : α) {g : Nat → List SC} (hg : g = fun j => bif Nat.blt j n then f j else enc x) : LsX enc d (n + 1) g (xs ++ [x]) := by
  subst hg
  refine ⟨by rw [List.length_append, h.len]; rfl, fun j hj => ?_⟩
  by_cases hjn : j < n
  · have e : Nat.blt j n = true := by simpa using hjn
    simp only [e, cond_true]
    rw [h.at_ j hjn]
    congr 1
    rw [List.getD_eq_getElem?_getD, List.getD_eq_getElem?_getD, List.getElem?_append_left (by rw [← h.len]; exact hjn)]
  · have e : Nat.blt j n = false := by
      cases hb : Nat.blt j n with
      | false => rfl
      | true => exact absurd (by simpa using hb) hjn
    simp only [e, cond_false]
    have e2 : j = xs.length := by have := h.len; omega
    rw [List.getD_eq_getElem?_getD, List.getElem?_append_right (by omega), e2, Nat.sub_self]
    rfl
theorem room_of {n b : Nat} (h : n ≤ 100000) (hb : b ≤ 1000) : Room n b := by
  refine ⟨Nat.le_trans (Nat.mul_le_mul (by omega : n + n / 4 + 192 ≤ 200000) hb) (by decide)⟩
set_option maxRecDepth 100000 in
theorem e22 (O : Nat → Prop) (w0 : World) : Entry Tryd.prog O w0 22 (gDrw O w0) :=
  Entry.pure Γ10_ok 100 5 (g := gDrw) (fun O w0 args M k hg => by
    unfold gDrw at hg
    split at hg
    case h_2 => exact hg.elim
    rename_i a
    obtain ⟨l, ⟨hl, B, c, As, cs, ha, hA⟩, hk⟩ := hg
    refine ⟨_, [cmdsV B (fun j => l.getD j z33) As cs l.length c], rfl, hk, fun β => by unfold fr; simp only [List.map_cons, ha β, List.map_nil], fun w hw => ⟨_, f22 _ w B (fun j => l.getD j z33) As cs l.length c (fun i d => 0 ≤ i ∧ i ≤ l.length ∧ d + drawsN (l.drop i.toNat) = drawsN l ∧ 0 ≤ d ∧ d ≤ i) _ ?_⟩⟩
    refine ⟨fun _ _ => Nat.zero_le _, ⟨⟨by omega, by omega, by simp, by omega, by omega⟩, rfl, fun _ => rfl⟩, ?_⟩
    rintro ⟨i, d⟩ J ⟨h0, h1, hd, hd0, hd1⟩
    refine cond_of (fun h => ?_) (fun h => ?_)
    · have hlt : i < l.length := by simpa using h
      obtain ⟨hB, hR, hL, hI⟩ := hA i.toNat (by omega)
      simp only [Nat.zero_add]
      rw [drop_here h0 hlt, drawsN_cons] at hd
      refine ⟨⟨h0, hlt⟩, hB, hR.at hw, cond_of (fun h9 => ?_) (fun h9 => ?_)⟩
      · rw [if_pos (by simpa using h9)] at hd
        rw [wrap_in (by omega) (by omega), wrap_in (by omega) (by omega)]
        exact ⟨⟨⟨by omega, by omega, by rw [show (i + 1).toNat = i.toNat + 1 by omega]; omega, by omega, by omega⟩, rfl, fun _ => rfl⟩, ⟨by show (_ : Int).toNat < (_ : Int).toNat; omega⟩⟩
      · rw [if_neg (by simpa using h9)] at hd
        rw [wrap_in (by omega) (by omega)]
        exact ⟨⟨⟨by omega, by omega, by rw [show (i + 1).toNat = i.toNat + 1 by omega]; omega, by omega, by omega⟩, rfl, fun _ => rfl⟩, ⟨by show (_ : Int).toNat < (_ : Int).toNat; omega⟩⟩
    · have hge : ¬ i < l.length := by simpa using h
      rw [List.drop_eq_nil_of_le (by omega), drawsN_nil] at hd
      rw [show d = drawsN l by omega]) O w0
set_option maxRecDepth 100000 in
theorem e23 (O : Nat → Prop) (w0 : World) : Entry Tryd.prog O w0 23 (gDrw O w0) :=
  Entry.pure Γ10_ok 100 5 (g := gDrw) (fun O w0 args M k hg => by
    unfold gDrw at hg
    split at hg
    case h_2 => exact hg.elim
    rename_i a
    obtain ⟨l, ⟨hl, B, c, As, cs, ha, hA⟩, hk⟩ := hg
    refine ⟨_, [cmdsV B (fun j => l.getD j z33) As cs l.length c], rfl, hk, fun β => by unfold fr; simp only [List.map_cons, ha β, List.map_nil], fun w hw => ⟨_, f23 _ w B (fun j => l.getD j z33) As cs l.length c (fun i d => 0 ≤ i ∧ i ≤ l.length ∧ d + drawsN (l.drop i.toNat) = drawsN l ∧ 0 ≤ d ∧ d ≤ i) _ ?_⟩⟩
    refine ⟨fun _ _ => Nat.zero_le _, ⟨⟨by omega, by omega, by simp, by omega, by omega⟩, rfl, fun _ => rfl⟩, ?_⟩
    rintro ⟨i, d⟩ J ⟨h0, h1, hd, hd0, hd1⟩
    refine cond_of (fun h => ?_) (fun h => ?_)
    · have hlt : i < l.length := by simpa using h
      obtain ⟨hB, hR, hL, hI⟩ := hA i.toNat (by omega)
      simp only [Nat.zero_add]
      rw [drop_here h0 hlt, drawsN_cons] at hd
      refine ⟨⟨h0, hlt⟩, hB, hB, hR.at hw, cond_of (fun h9 => ?_) (fun h9 => ?_)⟩
      · rw [if_pos (by simpa using h9)] at hd
        rw [wrap_in (by omega) (by omega), wrap_in (by omega) (by omega)]
        exact ⟨⟨⟨by omega, by omega, by rw [show (i + 1).toNat = i.toNat + 1 by omega]; omega, by omega, by omega⟩, rfl, fun _ => rfl⟩, ⟨by show (_ : Int).toNat < (_ : Int).toNat; omega⟩⟩
      · rw [if_neg (by simpa using h9)] at hd
        rw [wrap_in (by omega) (by omega)]
        exact ⟨⟨⟨by omega, by omega, by rw [show (i + 1).toNat = i.toNat + 1 by omega]; omega, by omega, by omega⟩, rfl, fun _ => rfl⟩, ⟨by show (_ : Int).toNat < (_ : Int).toNat; omega⟩⟩
    · have hge : ¬ i < l.length := by simpa using h
      rw [List.drop_eq_nil_of_le (by omega), drawsN_nil] at hd
      rw [show d = drawsN l by omega]) O w0
theorem pas_cons (x : S33) (t : List S33) (i b : Int) : pas (x :: t) i b = if x.f0 = 7 then pas t (i + 1) i else if x.f0 = 8 then (b, i) :: pas t (i + 1) b else pas t (i + 1) b := rfl
/-- What the loops of the two Passes keep. -/
def PasR (l : List S33) : L2 → Prop := fun ⟨i, b, n, f⟩ => 0 ≤ i ∧ i ≤ l.length ∧ ∃ xs, LsX prC (0, 0) n f xs ∧ xs ++ pas (l.drop i.toNat) i b = pas l 0 0 ∧ (xs.length : Int) ≤ i
theorem gen1 {M : List Blk} {k : SX → List Blk → Prop} {n : Nat} {f : Nat → List SC} {M0 : List Blk} {xs : List (Int × Int)} (hM : M0 = [.lst 51 2 n f]) (hx : LsX prC (0, 0) n f xs) (hk : k (.v (.c (.lst M.length))) (M ++ [.lst 51 2 xs.length (fun j => prC (xs.getD j (0, 0)))])) :
    ∃ K N N' y', noDup K = true ∧ renM K M0 = some N ∧ LEq N N' ∧ renX K (SX.v (.c (.lst 0))) = some y' ∧ k (shX M.length y') (M ++ N'.map (shB M.length)) := by
  subst hM
  obtain ⟨hn, hf⟩ := hx
  subst hn
  exact ⟨[.at_ 0], _, [.lst 51 2 xs.length (fun j => prC (xs.getD j (0, 0)))], _, rfl, rfl, ⟨⟨_, rfl, hf⟩, trivial⟩, rfl, hk⟩
theorem genN {M : List Blk} {k : SX → List Blk → Prop} {M0 : List Blk} (hk : k (.v (.c (.val (.slice none 0 0)))) M) :
    ∃ K N N' y', noDup K = true ∧ renM K M0 = some N ∧ LEq N N' ∧ renX K (SX.v (.c (.val (.slice none 0 0)))) = some y' ∧ k (shX M.length y') (M ++ N'.map (shB M.length)) :=
  ⟨[], [], [], _, rfl, rfl, trivial, rfl, by rw [List.map_nil, List.append_nil]; exact hk⟩
set_option maxRecDepth 100000 in
theorem e20 (O : Nat → Prop) (w0 : World) : Entry Tryd.prog O w0 20 (gPas O w0) :=
  Entry.madeL Γ10_ok 100 5 (g := gPas) (fun O w0 args M k hg β w hI => by
    unfold gPas at hg
    split at hg
    case h_2 => exact hg.elim
    rename_i a
    obtain ⟨hG, l, ⟨hl, B, c, As, cs, ha, hA⟩, hk0, hk1⟩ := hg
    refine ⟨[cmdsV B (fun j => l.getD j z33) As cs l.length c], _, by unfold fr; simp only [List.map_cons, ha β, List.map_nil], f20 _ w B (fun j => l.getD j z33) As cs l.length c (PasR l) _ ?_⟩
    have hw := hI.fr
    have hX : CmdsX (fun _ => False) w (SX.v (.c (.rsl B 28 (rowsC (fun j => l.getD j z33) As cs) 0 l.length c))) l := ⟨hl, B, c, As, cs, fun _ => rfl, fun j hj => ⟨(hA j hj).1, (hA j hj).2.1.at hw, (hA j hj).2.2.1, rowsAt (hA j hj).2.2.2 hw⟩⟩
    refine ⟨hG.at hw, l, hX, fun i e hv => ?_⟩
    have he : e = (valid l).2 := by rw [← hv]
    refine cond_of (fun h => genN (hk0 (by rw [← he]; simpa using h))) (fun h => ?_)
    have h0 : (valid l).2 = 0 := by rw [← he]; simpa using h
    have hl256 := valid_len h0
    refine ⟨fun _ _ => Nat.zero_le _, ⟨⟨by omega, by omega, [], LsX.nil _ _ _, by simp, by simp⟩, rfl, fun _ => rfl⟩, ?_⟩
    rintro ⟨i, b, n, f⟩ J ⟨h0', h1, xs, hxs, hp, hlen⟩
    refine cond_of (fun h => ?_) (fun h => ?_)
    · have hlt : i < l.length := by simpa using h
      obtain ⟨hB, hR, hL, hI⟩ := hA i.toNat (by omega)
      simp only [Nat.zero_add]
      rw [drop_here h0' hlt, pas_cons] at hp
      have e1 : (i + 1).toNat = i.toNat + 1 := by omega
      have hn := hxs.len
      refine ⟨⟨h0', hlt⟩, hB, hR.at hw, cond_of (fun h7 => ?_) (fun h7 => cond_of (fun h8 => ?_) (fun h8 => ?_))⟩
      · rw [if_pos (by simpa using h7)] at hp
        rw [wrap_in (by omega) (by omega)]
        exact ⟨⟨⟨by omega, by omega, xs, hxs, by rw [e1]; exact hp, by omega⟩, rfl, fun _ => rfl⟩, ⟨by show (_ : Int).toNat < (_ : Int).toNat; omega⟩⟩
      · rw [if_neg (by simpa using h7), if_pos (by simpa using h8)] at hp
        rw [wrap_in (by omega) (by omega)]
        refine ⟨room_of (by omega) (by decide), ⟨⟨by omega, by omega, xs ++ [(b, i)], hxs.push (b, i) rfl, by rw [e1, List.append_assoc]; exact hp, by rw [List.length_append]; simp; omega⟩, rfl, fun _ => rfl⟩, ⟨by show (_ : Int).toNat < (_ : Int).toNat; omega⟩⟩
      · rw [if_neg (by simpa using h7), if_neg (by simpa using h8)] at hp
        rw [wrap_in (by omega) (by omega)]
        exact ⟨⟨⟨by omega, by omega, xs, hxs, by rw [e1]; exact hp, by omega⟩, rfl, fun _ => rfl⟩, ⟨by show (_ : Int).toNat < (_ : Int).toNat; omega⟩⟩
    · have hge : ¬ i < l.length := by simpa using h
      rw [List.drop_eq_nil_of_le (by omega)] at hp
      have hp : xs = pas l 0 0 := by rw [← hp]; simp [pas]
      exact gen1 rfl hxs (hk1 h0 xs hp)) O w0
set_option maxRecDepth 100000 in
theorem e21 (O : Nat → Prop) (w0 : World) : Entry Tryd.prog O w0 21 (gPasR O w0) :=
  Entry.madeL Γ10_ok 100 5 (g := gPasR) (fun O w0 args M k hg β w hI => by
    unfold gPasR at hg
    split at hg
    case h_2 => exact hg.elim
    rename_i a
    obtain ⟨l, ⟨hl, B, c, As, cs, ha, hA⟩, hk0, hk1⟩ := hg
    refine ⟨[cmdsV B (fun j => l.getD j z33) As cs l.length c], _, by unfold fr; simp only [List.map_cons, ha β, List.map_nil], f21 _ w B (fun j => l.getD j z33) As cs l.length c (PasR l) _ ?_⟩
    have hw := hI.fr
    have hX : CmdsX (fun _ => False) w (SX.v (.c (.rsl B 28 (rowsC (fun j => l.getD j z33) As cs) 0 l.length c))) l := ⟨hl, B, c, As, cs, fun _ => rfl, fun j hj => ⟨(hA j hj).1, (hA j hj).2.1.at hw, (hA j hj).2.2.1, rowsAt (hA j hj).2.2.2 hw⟩⟩
    refine ⟨l, hX, fun i e hv => ?_⟩
    have he : e = (validR l).2 := by rw [← hv]
    refine cond_of (fun h => genN (hk0 (by rw [← he]; simpa using h))) (fun h => ?_)
    have h0 : (validR l).2 = 0 := by rw [← he]; simpa using h
    have hl256 := valid_len (by rw [valid_eq]; exact h0)
    refine ⟨fun _ _ => Nat.zero_le _, ⟨⟨by omega, by omega, [], LsX.nil _ _ _, by simp, by simp⟩, rfl, fun _ => rfl⟩, ?_⟩
    rintro ⟨i, b, n, f⟩ J ⟨h0', h1, xs, hxs, hp, hlen⟩
    refine cond_of (fun h => ?_) (fun h => ?_)
    · have hlt : i < l.length := by simpa using h
      obtain ⟨hB, hR, hL, hI⟩ := hA i.toNat (by omega)
      simp only [Nat.zero_add]
      rw [drop_here h0' hlt, pas_cons] at hp
      have e1 : (i + 1).toNat = i.toNat + 1 := by omega
      have hn := hxs.len
      have hR := hR.at hw
      refine ⟨⟨h0', hlt⟩, hB, hB, hR, cond_of (fun h7 => ?_) (fun h7 => ?_)⟩
      · rw [if_pos (by simpa using h7)] at hp
        refine ⟨⟨h0', hlt⟩, hB, hB, hR, cond_of (fun h8 => ?_) (fun h8 => ?_)⟩
        · simp at h7 h8; omega
        · rw [wrap_in (by omega) (by omega)]
          exact ⟨⟨⟨by omega, by omega, xs, hxs, by rw [e1]; exact hp, by omega⟩, rfl, fun _ => rfl⟩, ⟨by show (_ : Int).toNat < (_ : Int).toNat; omega⟩⟩
      · rw [if_neg (by simpa using h7)] at hp
        refine ⟨⟨h0', hlt⟩, hB, hB, hR, cond_of (fun h8 => ?_) (fun h8 => ?_)⟩
        · rw [if_pos (by simpa using h8)] at hp
          rw [wrap_in (by omega) (by omega)]
          refine ⟨room_of (by omega) (by decide), ⟨⟨by omega, by omega, xs ++ [(b, i)], hxs.push (b, i) rfl, by rw [e1, List.append_assoc]; exact hp, by rw [List.length_append]; simp; omega⟩, rfl, fun _ => rfl⟩, ⟨by show (_ : Int).toNat < (_ : Int).toNat; omega⟩⟩
        · rw [if_neg (by simpa using h8)] at hp
          rw [wrap_in (by omega) (by omega)]
          exact ⟨⟨⟨by omega, by omega, xs, hxs, by rw [e1]; exact hp, by omega⟩, rfl, fun _ => rfl⟩, ⟨by show (_ : Int).toNat < (_ : Int).toNat; omega⟩⟩
    · have hge : ¬ i < l.length := by simpa using h
      rw [List.drop_eq_nil_of_le (by omega)] at hp
      have hp : xs = pas l 0 0 := by rw [← hp]; simp [pas]
      exact gen1 rfl hxs (hk1 h0 xs hp)) O w0
set_option maxRecDepth 100000 in
theorem e19 (O : Nat → Prop) (w0 : World) : Entry Tryd.prog O w0 19 (gCln O w0) :=
  Entry.made Γ10_ok 100 5 (g := gCln) (fun O w0 args M k hg β w hI => by
    unfold gCln at hg
    split at hg
    case h_2 => exact hg.elim
    rename_i a
    obtain ⟨x, ⟨hx, A, cp, ha, hA⟩, hroom, hk0, hk1⟩ := hg
    refine ⟨[cmdV x A cp], _, by unfold fr; simp only [List.map_cons, ha β, List.map_nil], f19 _ w x A cp _ ?_⟩
    have hw := hI.fr
    have hR := rowsAt hA hw
    refine cond_of (fun h => ?_) (fun h => ?_)
    · have h9 : x.f9 = [] := by
        cases hf : x.f9 with
        | nil => rfl
        | cons y ys =>
          have := (hA 0 (by rw [hf]; simp)).1
          cases A with
          | none => cases this
          | some a => cases h
      exact ⟨[], [], _, rfl, rfl, rfl, by rw [List.map_nil, List.append_nil]; exact hk0 h9⟩
    · refine ⟨⟨fun j hj => ⟨(hR j hj).1, by simpa using (hR j hj).2, rfl, rfl⟩⟩, hroom, ⟨[.at_ 3], _, _, rfl, rfl, rfl, ?_⟩⟩
      refine hk1 _ _ ⟨by simp, fun j hj => ?_⟩
      simp [ints]) O w0
theorem Γ11_ok : TSF Tryd.prog Γ11 := ((((Γ10_ok.add e22).add e23).add e20).add e21).add e19
--SHOW
end Go.Proofs.YtcompmidgfkloaaDoor.Cm
