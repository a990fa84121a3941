/- The laws CommandPasses and CommandPairs: what their texts come to. -/
import Derived.Test.YtcompmidgfkloaaDoorCm18
namespace Go.Proofs.YtcompmidgfkloaaDoor.Cm
open Go Go.RowKit Go.Proofs.YtcompmidgfkloaaDoor.Eng
set_option linter.unusedVariables false
set_option linter.unusedSimpArgs false
structure N3' where
  i : Int
  a : Int
  b : Int
def rN3' (ts : List SX) (d e g : Nat) : N3' := match ts.getD d undefX, ts.getD e undefX, ts.getD g undefX with
  | .v (.c (.val (.int _ n))), .v (.c (.val (.int _ a))), .v (.c (.val (.int _ b))) => ⟨n, a, b⟩
  | _, _, _ => ⟨0, 0, 0⟩
abbrev prL (xs : List (Int × Int)) : Blk := .lst 51 2 xs.length (fun j => prC (xs.getD j (0, 0)))
structure PasIs (xs : List (Int × Int)) (l : List S33) : Prop where
  eq : xs = pas l 0 0
/-- Passes of a valid list; of one that is not. -/
def gPasV (xs : List (Int × Int)) : EntF := fun O w0 args M k => match args with
  | [a] => Gl0 O w0 ∧ ∃ l, CmdsX O w0 a l ∧ (valid l).2 = 0 ∧ PasIs xs l ∧ k (.v (.c (.lst M.length))) (M ++ [prL xs])
  | _ => False
def gPasN : EntF := fun O w0 args M k => match args with
  | [a] => Gl0 O w0 ∧ ∃ l, CmdsX O w0 a l ∧ (valid l).2 ≠ 0 ∧ k (.v (.c (.val (.slice none 0 0)))) M
  | _ => False
def ΓV (xs : List (Int × Int)) : TabF := addF (addF Γ12 20 (gPasV xs)) 21 (gPasV xs)
def ΓNo : TabF := addF (addF Γ12 20 gPasN) 21 gPasN
def I8 (B : Option Addr) (l : Nat → S33) (As : Nat → Option Addr) (cs : Nat → Nat) (n c : Nat) (xs : List (Int × Int)) : LInv where
  σ := N1
  pre := fun ⟨i⟩ => 0 ≤ i ∧ i ≤ xs.length
  mem := fun ⟨i⟩ => [prL xs, prL xs]
  tmp := fun ⟨i⟩ J => [cmdsV B l As cs n c, jV (J 1), jV (J 2), .v (.c (.lst 0)), .v (.c (.lst 1)), jV (J 5), jV (J 6), jV (J 7), jV (J 8), jV (J 9), jV (J 10), jV (J 11), jV (J 12), jV (J 13), jV (J 14), jV (J 15), iV xs.length, iV i, jV (J 18), jV (J 19), jV (J 20), jV (J 21), jV (J 22), jV (J 23), jV (J 24), jV (J 25), jV (J 26), jV (J 27), jV (J 28), jV (J 29), jV (J 30), jV (J 31), jV (J 32), jV (J 33), jV (J 34), jV (J 35), jV (J 36), jV (J 37)]
  read := fun M ts => rI ts 17
  junk := [1, 2, 5, 6, 7, 8, 9, 10, 11, 12, 13, 14, 15, 18, 19, 20, 21, 22, 23, 24, 25, 26, 27, 28, 29, 30, 31, 32, 33, 34, 35, 36, 37]
  μ := fun ⟨i⟩ => (xs.length - i).toNat
def I9 (B : Option Addr) (l : Nat → S33) (As : Nat → Option Addr) (cs : Nat → Nat) (n c : Nat) (xs : List (Int × Int)) (R : Int → Int → Int → Prop) : LInv where
  σ := N3'
  pre := fun ⟨i, a, b⟩ => R i a b
  mem := fun ⟨i, a, b⟩ => [prL xs]
  tmp := fun ⟨i, a, b⟩ J => [cmdsV B l As cs n c, jV (J 1), jV (J 2), .v (.c (.lst 0)), jV (J 4), jV (J 5), iV a, iV b, jV (J 8), jV (J 9), jV (J 10), jV (J 11), jV (J 12), jV (J 13), jV (J 14), jV (J 15), jV (J 16), jV (J 17), jV (J 18), jV (J 19), jV (J 20), jV (J 21), jV (J 22), jV (J 23), jV (J 24), iV xs.length, iV i, jV (J 27), jV (J 28), jV (J 29), jV (J 30), jV (J 31), jV (J 32), jV (J 33), jV (J 34), jV (J 35), jV (J 36), jV (J 37), jV (J 38), jV (J 39), jV (J 40), jV (J 41), jV (J 42), jV (J 43), jV (J 44), jV (J 45), jV (J 46), jV (J 47), jV (J 48), jV (J 49), jV (J 50), jV (J 51), jV (J 52), jV (J 53), jV (J 54), jV (J 55), jV (J 56), jV (J 57), jV (J 58), jV (J 59), jV (J 60), jV (J 61), jV (J 62), jV (J 63), jV (J 64), jV (J 65), jV (J 66), jV (J 67), jV (J 68), jV (J 69), jV (J 70), jV (J 71), jV (J 72), jV (J 73), jV (J 74), jV (J 75), jV (J 76), jV (J 77), jV (J 78), jV (J 79), jV (J 80), jV (J 81), jV (J 82), jV (J 83), jV (J 84), jV (J 85), jV (J 86), jV (J 87), jV (J 88), jV (J 89), jV (J 90), jV (J 91), jV (J 92), jV (J 93), jV (J 94), jV (J 95), jV (J 96), jV (J 97), jV (J 98), jV (J 99), jV (J 100), jV (J 101), jV (J 102), jV (J 103), jV (J 104), jV (J 105), jV (J 106)]
  read := fun M ts => rN3' ts 26 6 7
  junk := [1, 2, 4, 5, 8, 9, 10, 11, 12, 13, 14, 15, 16, 17, 18, 19, 20, 21, 22, 23, 24, 27, 28, 29, 30, 31, 32, 33, 34, 35, 36, 37, 38, 39, 40, 41, 42, 43, 44, 45, 46, 47, 48, 49, 50, 51, 52, 53, 54, 55, 56, 57, 58, 59, 60, 61, 62, 63, 64, 65, 66, 67, 68, 69, 70, 71, 72, 73, 74, 75, 76, 77, 78, 79, 80, 81, 82, 83, 84, 85, 86, 87, 88, 89, 90, 91, 92, 93, 94, 95, 96, 97, 98, 99, 100, 101, 102, 103, 104, 105, 106]
  μ := fun ⟨i, a, b⟩ => (xs.length - i).toNat
set_option maxHeartbeats 4000000 in
set_option maxRecDepth 100000 in
theorem f8v (O : Nat → Prop) (w0 : World) (B : Option Addr) (l : Nat → S33) (As : Nat → Option Addr) (cs : Nat → Nat) (n c : Nat) (xs : List (Int × Int)) (K : SX → Prop) (h_ : Gl0 O w0 ∧ ∃ l_1, CmdsX O w0 (SX.v (SV.c (SC.rsl B (28 : Nat) (rowsC l As cs) (0 : Nat) n c))) l_1 ∧ Prod.snd (valid l_1) = (0 : Int) ∧ PasIs xs l_1 ∧ Gl0 O w0 ∧ ∃ l_2, CmdsX O w0 (SX.v (SV.c (SC.rsl B (28 : Nat) (rowsC l As cs) (0 : Nat) n c))) l_2 ∧ Prod.snd (valid l_2) = (0 : Int) ∧ PasIs xs l_2 ∧ bif (↑(List.length xs) : Int) != (↑(List.length xs) : Int) then K (SX.v (SV.c (SC.val (Value.bool false)))) else (∀ (s : N1), LInv.pre (I8 B l As cs n c xs) s → Nat.le (0 : Nat) (List.length (LInv.mem (I8 B l As cs n c xs) s))) ∧ Fits (I8 B l As cs n c xs) (N1.mk (0 : Int)) (LInv.mem (I8 B l As cs n c xs) (N1.mk (0 : Int))) (LInv.tmp (I8 B l As cs n c xs) (N1.mk (0 : Int))) ∧ ∀ (s : N1) (J : Nat → Value), LInv.pre (I8 B l As cs n c xs) s → bif decide (s.1 < (↑(List.length xs) : Int)) then In s.1 (↑(List.length xs) : Int) ∧ In (↑(Int.toNat s.1) : Int) (↑(List.length xs) : Int) ∧ In s.1 (↑(List.length xs) : Int) ∧ In (↑(Int.toNat s.1) : Int) (↑(List.length xs) : Int) ∧ bif !(Prod.fst (List.getD xs (Int.toNat s.1) ((0 : Int), (0 : Int))) == Prod.fst (List.getD xs (Int.toNat s.1) ((0 : Int), (0 : Int))) && (Prod.snd (List.getD xs (Int.toNat s.1) ((0 : Int), (0 : Int))) == Prod.snd (List.getD xs (Int.toNat s.1) ((0 : Int), (0 : Int))) && true)) then K (SX.v (SV.c (SC.val (Value.bool false)))) else Fits (I8 B l As cs n c xs) (N1.mk (IntKind.wrap IntKind.i64 (s.1 + (1 : Int)))) (LInv.mem (I8 B l As cs n c xs) (N1.mk (IntKind.wrap IntKind.i64 (s.1 + (1 : Int))))) (LInv.tmp (I8 B l As cs n c xs) (N1.mk (IntKind.wrap IntKind.i64 (s.1 + (1 : Int))))) ∧ Dec (I8 B l As cs n c xs) (N1.mk (IntKind.wrap IntKind.i64 (s.1 + (1 : Int)))) s else ∃ l_3, CmdsX O w0 (SX.v (SV.c (SC.rsl B (28 : Nat) (rowsC l As cs) (0 : Nat) n c))) l_3 ∧ ∃ l_4, CmdsX O w0 (SX.v (SV.c (SC.rsl B (28 : Nat) (rowsC l As cs) (0 : Nat) n c))) l_4 ∧ bif drawsN l_3 == drawsN l_4 then Gl0 O w0 ∧ K (SX.v (SV.c (SC.val (Value.bool true)))) else K (SX.v (SV.c (SC.val (Value.bool false))))) : evFn Tryd.prog O w0 (ΓV xs O w0) (Λof 8 (I8 B l As cs n c xs)) 100 5 8 [cmdsV B l As cs n c] [] (fun y _ => K y) := vc_of h_ (by kernel_rfl)
set_option maxHeartbeats 4000000 in
set_option maxRecDepth 100000 in
theorem f8n (O : Nat → Prop) (w0 : World) (B : Option Addr) (l : Nat → S33) (As : Nat → Option Addr) (cs : Nat → Nat) (n c : Nat) (K : SX → Prop) (h_ : Gl0 O w0 ∧ ∃ l_1, CmdsX O w0 (SX.v (SV.c (SC.rsl B (28 : Nat) (rowsC l As cs) (0 : Nat) n c))) l_1 ∧ (Prod.snd (valid l_1) = (0 : Int) → False) ∧ Gl0 O w0 ∧ ∃ l_2, CmdsX O w0 (SX.v (SV.c (SC.rsl B (28 : Nat) (rowsC l As cs) (0 : Nat) n c))) l_2 ∧ (Prod.snd (valid l_2) = (0 : Int) → False) ∧ ∃ l_3, CmdsX O w0 (SX.v (SV.c (SC.rsl B (28 : Nat) (rowsC l As cs) (0 : Nat) n c))) l_3 ∧ ∃ l_4, CmdsX O w0 (SX.v (SV.c (SC.rsl B (28 : Nat) (rowsC l As cs) (0 : Nat) n c))) l_4 ∧ bif drawsN l_3 == drawsN l_4 then Gl0 O w0 ∧ K (SX.v (SV.c (SC.val (Value.bool true)))) else K (SX.v (SV.c (SC.val (Value.bool false))))) : evFn Tryd.prog O w0 (ΓNo O w0) Λn 100 5 8 [cmdsV B l As cs n c] [] (fun y _ => K y) := vc_of h_ (by kernel_rfl)
set_option maxHeartbeats 4000000 in
set_option maxRecDepth 100000 in
theorem f9v (O : Nat → Prop) (w0 : World) (B : Option Addr) (l : Nat → S33) (As : Nat → Option Addr) (cs : Nat → Nat) (n c : Nat) (xs : List (Int × Int)) (R : Int → Int → Int → Prop) (K : SX → Prop) (h_ : Gl0 O w0 ∧ ∃ l_1, CmdsX O w0 (SX.v (SV.c (SC.rsl B (28 : Nat) (rowsC l As cs) (0 : Nat) n c))) l_1 ∧ Prod.snd (valid l_1) = (0 : Int) ∧ PasIs xs l_1 ∧ Gl0 O w0 ∧ ∃ l_2, CmdsX O w0 (SX.v (SV.c (SC.rsl B (28 : Nat) (rowsC l As cs) (0 : Nat) n c))) l_2 ∧ ∀ (i e : Int), (i, e) = valid l_2 → bif e != (0 : Int) then bif (↑(List.length xs) : Int) == (0 : Int) then Gl0 O w0 ∧ K (SX.v (SV.c (SC.val (Value.bool true)))) else K (SX.v (SV.c (SC.val (Value.bool false)))) else (∀ (s : N3'), LInv.pre (I9 B l As cs n c xs R) s → Nat.le (0 : Nat) (List.length (LInv.mem (I9 B l As cs n c xs R) s))) ∧ Fits (I9 B l As cs n c xs R) (N3'.mk (0 : Int) (-1 : Int) (0 : Int)) (LInv.mem (I9 B l As cs n c xs R) (N3'.mk (0 : Int) (-1 : Int) (0 : Int))) (LInv.tmp (I9 B l As cs n c xs R) (N3'.mk (0 : Int) (-1 : Int) (0 : Int))) ∧ ∀ (s : N3') (J : Nat → Value), LInv.pre (I9 B l As cs n c xs R) s → bif decide (s.1 < (↑(List.length xs) : Int)) then In s.1 (↑(List.length xs) : Int) ∧ In (↑(Int.toNat s.1) : Int) (↑(List.length xs) : Int) ∧ bif decide (Prod.fst (List.getD xs (Int.toNat s.1) ((0 : Int), (0 : Int))) ≤ s.2) then K (SX.v (SV.c (SC.val (Value.bool false)))) else In s.1 (↑(List.length xs) : Int) ∧ In (↑(Int.toNat s.1) : Int) (↑(List.length xs) : Int) ∧ In s.1 (↑(List.length xs) : Int) ∧ In (↑(Int.toNat s.1) : Int) (↑(List.length xs) : Int) ∧ bif decide (Prod.snd (List.getD xs (Int.toNat s.1) ((0 : Int), (0 : Int))) ≤ Prod.fst (List.getD xs (Int.toNat s.1) ((0 : Int), (0 : Int)))) then K (SX.v (SV.c (SC.val (Value.bool false)))) else In s.1 (↑(List.length xs) : Int) ∧ In (↑(Int.toNat s.1) : Int) (↑(List.length xs) : Int) ∧ bif decide (Prod.snd (List.getD xs (Int.toNat s.1) ((0 : Int), (0 : Int))) ≥ (↑n : Int)) then K (SX.v (SV.c (SC.val (Value.bool false)))) else In s.1 (↑(List.length xs) : Int) ∧ In (↑(Int.toNat s.1) : Int) (↑(List.length xs) : Int) ∧ In (Prod.fst (List.getD xs (Int.toNat s.1) ((0 : Int), (0 : Int)))) (↑n : Int) ∧ Option.isSome B = true ∧ Option.isSome B = true ∧ RowAt O w0 B (28 : Nat) (rowsC l As cs ((0 : Nat) + Int.toNat (Prod.fst (List.getD xs (Int.toNat s.1) ((0 : Int), (0 : Int)))))) ((0 : Nat) + Int.toNat (Prod.fst (List.getD xs (Int.toNat s.1) ((0 : Int), (0 : Int))))) ∧ bif S33.f0 (l ((0 : Nat) + Int.toNat (Prod.fst (List.getD xs (Int.toNat s.1) ((0 : Int), (0 : Int)))))) != (7 : Int) then K (SX.v (SV.c (SC.val (Value.bool false)))) else In s.1 (↑(List.length xs) : Int) ∧ In (↑(Int.toNat s.1) : Int) (↑(List.length xs) : Int) ∧ In (Prod.snd (List.getD xs (Int.toNat s.1) ((0 : Int), (0 : Int)))) (↑n : Int) ∧ Option.isSome B = true ∧ Option.isSome B = true ∧ RowAt O w0 B (28 : Nat) (rowsC l As cs ((0 : Nat) + Int.toNat (Prod.snd (List.getD xs (Int.toNat s.1) ((0 : Int), (0 : Int)))))) ((0 : Nat) + Int.toNat (Prod.snd (List.getD xs (Int.toNat s.1) ((0 : Int), (0 : Int))))) ∧ bif S33.f0 (l ((0 : Nat) + Int.toNat (Prod.snd (List.getD xs (Int.toNat s.1) ((0 : Int), (0 : Int)))))) != (8 : Int) then K (SX.v (SV.c (SC.val (Value.bool false)))) else In s.1 (↑(List.length xs) : Int) ∧ In (↑(Int.toNat s.1) : Int) (↑(List.length xs) : Int) ∧ In s.1 (↑(List.length xs) : Int) ∧ In (↑(Int.toNat s.1) : Int) (↑(List.length xs) : Int) ∧ Cut (Option.getD (some (Prod.fst (List.getD xs (Int.toNat s.1) ((0 : Int), (0 : Int))))) (0 : Int)) (Option.getD (some (Prod.snd (List.getD xs (Int.toNat s.1) ((0 : Int), (0 : Int))))) (↑n : Int)) (↑c : Int) ∧ Cut (0 : Int) (↑n : Int) (↑c : Int) ∧ (Prod.fst (List.getD xs (Int.toNat s.1) ((0 : Int), (0 : Int))) < (↑c : Int) → ∃ l_3, CmdsX O w0 (SX.v (SV.c (SC.rsl B (28 : Nat) (rowsC l As cs) ((0 : Nat) + Int.toNat (Prod.fst (List.getD xs (Int.toNat s.1) ((0 : Int), (0 : Int))))) ((match some (Prod.snd (List.getD xs (Int.toNat s.1) ((0 : Int), (0 : Int)))) with | some h => Int.toNat h | none => n) - Int.toNat (Prod.fst (List.getD xs (Int.toNat s.1) ((0 : Int), (0 : Int))))) (c - Int.toNat (Prod.fst (List.getD xs (Int.toNat s.1) ((0 : Int), (0 : Int)))))))) l_3 ∧ Fits (I9 B l As cs n c xs R) (N3'.mk (IntKind.wrap IntKind.i64 (s.1 + (1 : Int))) (Prod.snd (List.getD xs (Int.toNat s.1) ((0 : Int), (0 : Int)))) (IntKind.wrap IntKind.i64 (s.3 + drawsN l_3))) (LInv.mem (I9 B l As cs n c xs R) (N3'.mk (IntKind.wrap IntKind.i64 (s.1 + (1 : Int))) (Prod.snd (List.getD xs (Int.toNat s.1) ((0 : Int), (0 : Int)))) (IntKind.wrap IntKind.i64 (s.3 + drawsN l_3)))) (LInv.tmp (I9 B l As cs n c xs R) (N3'.mk (IntKind.wrap IntKind.i64 (s.1 + (1 : Int))) (Prod.snd (List.getD xs (Int.toNat s.1) ((0 : Int), (0 : Int)))) (IntKind.wrap IntKind.i64 (s.3 + drawsN l_3)))) ∧ Dec (I9 B l As cs n c xs R) (N3'.mk (IntKind.wrap IntKind.i64 (s.1 + (1 : Int))) (Prod.snd (List.getD xs (Int.toNat s.1) ((0 : Int), (0 : Int)))) (IntKind.wrap IntKind.i64 (s.3 + drawsN l_3))) s) ∧ (Prod.fst (List.getD xs (Int.toNat s.1) ((0 : Int), (0 : Int))) = (↑c : Int) → ∃ l_3, CmdsX O w0 (SX.v (SV.c (SC.rsl B (28 : Nat) (rowsC l As cs) (0 : Nat) (0 : Nat) (0 : Nat)))) l_3 ∧ Fits (I9 B l As cs n c xs R) (N3'.mk (IntKind.wrap IntKind.i64 (s.1 + (1 : Int))) (Prod.snd (List.getD xs (Int.toNat s.1) ((0 : Int), (0 : Int)))) (IntKind.wrap IntKind.i64 (s.3 + drawsN l_3))) (LInv.mem (I9 B l As cs n c xs R) (N3'.mk (IntKind.wrap IntKind.i64 (s.1 + (1 : Int))) (Prod.snd (List.getD xs (Int.toNat s.1) ((0 : Int), (0 : Int)))) (IntKind.wrap IntKind.i64 (s.3 + drawsN l_3)))) (LInv.tmp (I9 B l As cs n c xs R) (N3'.mk (IntKind.wrap IntKind.i64 (s.1 + (1 : Int))) (Prod.snd (List.getD xs (Int.toNat s.1) ((0 : Int), (0 : Int)))) (IntKind.wrap IntKind.i64 (s.3 + drawsN l_3)))) ∧ Dec (I9 B l As cs n c xs R) (N3'.mk (IntKind.wrap IntKind.i64 (s.1 + (1 : Int))) (Prod.snd (List.getD xs (Int.toNat s.1) ((0 : Int), (0 : Int)))) (IntKind.wrap IntKind.i64 (s.3 + drawsN l_3))) s) else ∃ l_3, CmdsX O w0 (SX.v (SV.c (SC.rsl B (28 : Nat) (rowsC l As cs) (0 : Nat) n c))) l_3 ∧ bif s.3 == drawsN l_3 then Gl0 O w0 ∧ K (SX.v (SV.c (SC.val (Value.bool true)))) else K (SX.v (SV.c (SC.val (Value.bool false))))) : evFn Tryd.prog O w0 (ΓV xs O w0) (Λof 9 (I9 B l As cs n c xs R)) 100 5 9 [cmdsV B l As cs n c] [] (fun y _ => K y) := vc_of h_ (by kernel_rfl)
set_option maxHeartbeats 4000000 in
set_option maxRecDepth 100000 in
theorem f9n (O : Nat → Prop) (w0 : World) (B : Option Addr) (l : Nat → S33) (As : Nat → Option Addr) (cs : Nat → Nat) (n c : Nat) (K : SX → Prop) (h_ : Gl0 O w0 ∧ ∃ l_1, CmdsX O w0 (SX.v (SV.c (SC.rsl B (28 : Nat) (rowsC l As cs) (0 : Nat) n c))) l_1 ∧ (Prod.snd (valid l_1) = (0 : Int) → False) ∧ Gl0 O w0 ∧ ∃ l_2, CmdsX O w0 (SX.v (SV.c (SC.rsl B (28 : Nat) (rowsC l As cs) (0 : Nat) n c))) l_2 ∧ ∀ (i e : Int), (i, e) = valid l_2 → bif e != (0 : Int) then Gl0 O w0 ∧ K (SX.v (SV.c (SC.val (Value.bool true)))) else ∃ l_3, CmdsX O w0 (SX.v (SV.c (SC.rsl B (28 : Nat) (rowsC l As cs) (0 : Nat) n c))) l_3 ∧ bif (0 : Int) == drawsN l_3 then Gl0 O w0 ∧ K (SX.v (SV.c (SC.val (Value.bool true)))) else K (SX.v (SV.c (SC.val (Value.bool false))))) : evFn Tryd.prog O w0 (ΓNo O w0) Λn 100 5 9 [cmdsV B l As cs n c] [] (fun y _ => K y) := vc_of h_ (by kernel_rfl)
--HIDE
theorem e20V (xs : List (Int × Int)) (O : Nat → Prop) (w0 : World) : Entry Tryd.prog O w0 20 (gPasV xs O w0) := fun hf args M k hg hm β w hI => by
  unfold gPasV at hg
  split at hg
  case h_2 => exact hg.elim
  obtain ⟨hG, l, hX, h0, ⟨hx⟩, hk⟩ := hg
  exact e20 O w0 hf [_] M k ⟨hG, l, hX, fun h => absurd h0 h, fun _ ys hy => by rw [hy, ← hx]; exact hk⟩ hm β w hI
theorem e21V (xs : List (Int × Int)) (O : Nat → Prop) (w0 : World) : Entry Tryd.prog O w0 21 (gPasV xs O w0) := fun hf args M k hg hm β w hI => by
  unfold gPasV at hg
  split at hg
  case h_2 => exact hg.elim
  obtain ⟨hG, l, hX, h0, ⟨hx⟩, hk⟩ := hg
  rw [valid_eq] at h0
  exact e21 O w0 hf [_] M k ⟨l, hX, fun h => absurd h0 h, fun _ ys hy => by rw [hy, ← hx]; exact hk⟩ hm β w hI
theorem e20N (O : Nat → Prop) (w0 : World) : Entry Tryd.prog O w0 20 (gPasN O w0) := fun hf args M k hg hm β w hI => by
  unfold gPasN at hg
  split at hg
  case h_2 => exact hg.elim
  obtain ⟨hG, l, hX, h0, hk⟩ := hg
  exact e20 O w0 hf [_] M k ⟨hG, l, hX, fun _ => hk, fun h => absurd h h0⟩ hm β w hI
theorem e21N (O : Nat → Prop) (w0 : World) : Entry Tryd.prog O w0 21 (gPasN O w0) := fun hf args M k hg hm β w hI => by
  unfold gPasN at hg
  split at hg
  case h_2 => exact hg.elim
  obtain ⟨hG, l, hX, h0, hk⟩ := hg
  rw [valid_eq] at h0
  exact e21 O w0 hf [_] M k ⟨l, hX, fun _ => hk, fun h => absurd h h0⟩ hm β w hI
theorem ΓV_ok (xs : List (Int × Int)) : TSF Tryd.prog (ΓV xs) := (Γ12_ok.add (e20V xs)).add (e21V xs)
theorem ΓNo_ok : TSF Tryd.prog ΓNo := (Γ12_ok.add e20N).add e21N
set_option maxRecDepth 100000 in
theorem law8 {W : World} (hG : Gl0 (fun _ => False) W) {v0 : Value} (q : ArgL W v0) : Calls Tryd.prog 8 #[v0] W (fun e W' => e = .returned (.bool true) ∧ Below W.heap.size W W') := by
  obtain ⟨l, B, c, As, cs, rfl, hsz, hcap, hX, hrows⟩ := q
  by_cases h0 : (valid l).2 = 0
  · have hl := valid_len h0
    generalize hxs : pas l 0 0 = xs
    refine law_of (ΓV_ok xs _ W) (f := 8) (args := [cmdsV B (fun j => l.getD j z33) As cs l.length c]) _ 100 5 (by decide) (f8v _ W B (fun j => l.getD j z33) As cs l.length c xs _ ?_)
    refine ⟨hG, l, hX, h0, ⟨hxs.symm⟩, hG, l, hX, h0, ⟨hxs.symm⟩, cond_of (fun h => by simp at h) (fun _ => ?_)⟩
    refine ⟨fun _ _ => Nat.zero_le _, ⟨⟨by omega, by omega⟩, rfl, fun _ => rfl⟩, ?_⟩
    rintro ⟨i⟩ J ⟨i0, i1⟩
    dsimp only
    have hxl : xs.length ≤ 256 := by rw [← hxs]; exact Nat.le_trans (pas_len l 0 0) hl
    refine cond_of (fun h => ?_) (fun h => ?_)
    · have hlt : i < xs.length := by simpa using h
      have hin : In i (xs.length : Int) := ⟨i0, hlt⟩
      have hin2 : In ((i.toNat : Nat) : Int) (xs.length : Int) := ⟨by omega, by omega⟩
      refine ⟨hin, hin2, hin, hin2, cond_of (fun h => by simp at h) (fun _ => ?_)⟩
      rw [wrap_in (by omega) (by omega)]
      exact ⟨⟨⟨by omega, by omega⟩, rfl, fun _ => rfl⟩, ⟨by show (_ : Int).toNat < (_ : Int).toNat; omega⟩⟩
    · refine ⟨l, hX, l, hX, ?_⟩
      rw [beq_self_eq_true]
      exact ⟨hG, rfl⟩
  · refine law_of (ΓNo_ok _ W) (f := 8) (args := [cmdsV B (fun j => l.getD j z33) As cs l.length c]) _ 100 5 (by decide) (f8n _ W B (fun j => l.getD j z33) As cs l.length c _ ?_)
    refine ⟨hG, l, hX, h0, hG, l, hX, h0, l, hX, l, hX, ?_⟩
    rw [beq_self_eq_true]
    exact ⟨hG, rfl⟩
set_option maxRecDepth 100000 in
theorem law9 {W : World} (hG : Gl0 (fun _ => False) W) {v0 : Value} (q : ArgL W v0) : Calls Tryd.prog 9 #[v0] W (fun e W' => e = .returned (.bool true) ∧ Below W.heap.size W W') := by
  obtain ⟨l, B, c, As, cs, rfl, hsz, hcap, hX, hrows⟩ := q
  obtain ⟨p0, e0, hv0⟩ : ∃ p e, valid l = (p, e) := ⟨_, _, rfl⟩
  by_cases h0 : (valid l).2 = 0
  · have hl := valid_len h0
    have he0 : e0 = 0 := by rw [hv0] at h0; exact h0
    subst he0
    have hv2 : valG l.length l 0 s0 = (p0, 0) := by
      unfold valid at hv0
      rw [if_neg (by omega)] at hv0
      exact hv0
    have hch := pas_chain l l.length l 0 s0 p0 0 (-1) hv2 rfl (Nat.zero_le _) (fun h => by cases h) (fun _ => by decide)
    generalize hxs : pas l 0 0 = xs
    have hch : Chain l (-1) xs ∧ sumD l xs = drawsN l := by
      rw [← hxs]
      refine ⟨hch.1, ?_⟩
      have := hch.2
      simpa [s0] using this
    refine law_of (ΓV_ok xs _ W) (f := 9) (args := [cmdsV B (fun j => l.getD j z33) As cs l.length c]) _ 100 5 (by decide) (f9v _ W B (fun j => l.getD j z33) As cs l.length c xs (fun i a b => 0 ≤ i ∧ i ≤ xs.length ∧ Chain l a (xs.drop i.toNat) ∧ b + sumD l (xs.drop i.toNat) = drawsN l ∧ 0 ≤ b) _ ?_)
    refine ⟨hG, l, hX, h0, ⟨hxs.symm⟩, hG, l, hX, fun p e hv => ?_⟩
    rw [hv0] at hv
    cases hv
    refine cond_of (fun h => by simp at h) (fun _ => ?_)
    refine ⟨fun _ _ => Nat.zero_le _, ⟨⟨by omega, by omega, hch.1, by rw [Int.toNat_zero, List.drop_zero]; omega, by omega⟩, rfl, fun _ => rfl⟩, ?_⟩
    have hxl : xs.length ≤ 256 := by rw [← hxs]; exact Nat.le_trans (pas_len l 0 0) hl
    have hdl := drawsN_le l
    rintro ⟨i, a, b⟩ J ⟨i0, i1, hc, hd, b0⟩
    dsimp only
    refine cond_of (fun h => ?_) (fun h => ?_)
    · have hlt : i < xs.length := by simpa using h
      have hin : In i (xs.length : Int) := ⟨i0, hlt⟩
      have hin2 : In ((i.toNat : Nat) : Int) (xs.length : Int) := ⟨by omega, by omega⟩
      obtain ⟨x, y, hxy⟩ : ∃ x y, xs.getD i.toNat (0, 0) = (x, y) := ⟨_, _, rfl⟩
      have hdrop : xs.drop i.toNat = (x, y) :: xs.drop (i.toNat + 1) := by
        rw [List.drop_eq_getElem_cons (by omega : i.toNat < xs.length), ← hxy, List.getD_eq_getElem?_getD, List.getElem?_eq_getElem (by omega)]; rfl
      rw [hdrop] at hc hd
      obtain ⟨c1, c2, c3, c4, c5, c6, c7⟩ := hc
      have hd : b + (dr l x.toNat y.toNat + sumD l (xs.drop (i.toNat + 1))) = drawsN l := hd
      have hs1 := sumD_nonneg l (xs.drop (i.toNat + 1))
      have hs2 : 0 ≤ dr l x.toNat y.toNat := (drawsN_le _).1
      simp only [hxy, Nat.zero_add]
      obtain ⟨hB, hRx, _, _⟩ := hrows x.toNat (by omega)
      obtain ⟨_, hRy, _, _⟩ := hrows y.toNat (by omega)
      have hix : In x (l.length : Int) := ⟨by omega, by omega⟩
      have hiy : In y (l.length : Int) := ⟨by omega, by omega⟩
      refine ⟨hin, hin2, cond_of (fun h => by simp at h; omega) (fun _ => ⟨hin, hin2, hin, hin2, cond_of (fun h => by simp at h; omega) (fun _ => ⟨hin, hin2, cond_of (fun h => by simp at h; omega) (fun _ => ⟨hin, hin2, hix, hB, hB, hRx, cond_of (fun h => by rw [c5] at h; simp at h) (fun _ => ⟨hin, hin2, hiy, hB, hB, hRy, cond_of (fun h => by rw [c6] at h; simp at h) (fun _ => ?_)⟩)⟩)⟩)⟩)⟩
      have hfin : ∀ b', b' = b + dr l x.toNat y.toNat → Fits (I9 B (fun j => l.getD j z33) As cs l.length c xs (fun i a b => 0 ≤ i ∧ i ≤ xs.length ∧ Chain l a (xs.drop i.toNat) ∧ b + sumD l (xs.drop i.toNat) = drawsN l ∧ 0 ≤ b)) (N3'.mk (IntKind.i64.wrap (i + 1)) y (IntKind.i64.wrap b')) (LInv.mem (I9 B (fun j => l.getD j z33) As cs l.length c xs (fun i a b => 0 ≤ i ∧ i ≤ xs.length ∧ Chain l a (xs.drop i.toNat) ∧ b + sumD l (xs.drop i.toNat) = drawsN l ∧ 0 ≤ b)) (N3'.mk (IntKind.i64.wrap (i + 1)) y (IntKind.i64.wrap b'))) (LInv.tmp (I9 B (fun j => l.getD j z33) As cs l.length c xs (fun i a b => 0 ≤ i ∧ i ≤ xs.length ∧ Chain l a (xs.drop i.toNat) ∧ b + sumD l (xs.drop i.toNat) = drawsN l ∧ 0 ≤ b)) (N3'.mk (IntKind.i64.wrap (i + 1)) y (IntKind.i64.wrap b'))) ∧ Dec (I9 B (fun j => l.getD j z33) As cs l.length c xs (fun i a b => 0 ≤ i ∧ i ≤ xs.length ∧ Chain l a (xs.drop i.toNat) ∧ b + sumD l (xs.drop i.toNat) = drawsN l ∧ 0 ≤ b)) (N3'.mk (IntKind.i64.wrap (i + 1)) y (IntKind.i64.wrap b')) ⟨i, a, b⟩ := fun b' e => by
        rw [wrap_in (n := i + 1) (by omega) (by omega), wrap_in (n := b') (by omega) (by omega)]
        have hi1 : (i + 1).toNat = i.toNat + 1 := by omega
        exact ⟨⟨⟨by omega, by omega, by rw [hi1]; exact c7, by rw [hi1]; omega, by omega⟩, rfl, fun _ => rfl⟩, ⟨by show (_ : Int).toNat < (_ : Int).toNat; omega⟩⟩
      have hcut : ∀ c', CmdsX (fun _ => False) W (SX.v (.c (.rsl B 28 (rowsC (fun j => l.getD j z33) As cs) x.toNat (y.toNat - x.toNat) c'))) ((l.take y.toNat).drop x.toNat) := fun c' => hX.cut (by omega) (by omega) (Or.inl (by omega)) c'
      refine ⟨hin, hin2, hin, hin2, ⟨by simp; omega, by simp; omega, by simp; omega⟩, ⟨by omega, by omega, by omega⟩, fun _ => ⟨(l.take y.toNat).drop x.toNat, hcut _, hfin _ rfl⟩, fun hh => by omega⟩
    · have hi : i = xs.length := by
        have : ¬ i < xs.length := by simpa using h
        omega
      rw [List.drop_eq_nil_of_le (by omega)] at hd
      have hd : b + 0 = drawsN l := hd
      refine ⟨l, hX, ?_⟩
      rw [show b = drawsN l by omega, beq_self_eq_true]
      exact ⟨hG, rfl⟩
  · refine law_of (ΓNo_ok _ W) (f := 9) (args := [cmdsV B (fun j => l.getD j z33) As cs l.length c]) _ 100 5 (by decide) (f9n _ W B (fun j => l.getD j z33) As cs l.length c _ ?_)
    refine ⟨hG, l, hX, h0, hG, l, hX, fun p e hv => ?_⟩
    have he : e ≠ 0 := by rw [← hv] at h0; exact h0
    exact cond_of (fun _ => ⟨hG, rfl⟩) (fun h => by simp at h; exact absurd h he)
--SHOW
end Go.Proofs.YtcompmidgfkloaaDoor.Cm
