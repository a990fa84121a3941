/- The requirements that do not hold: missing, of the package; ready, of its reference. -/
import Derived.Test.YtomnecadhiflnaaDoorCm21
import Derived.Test.YtomnecadhiflnaaDoorEngD
namespace Go.Proofs.YtomnecadhiflnaaDoor.Br
open Go Go.RowKit Go.Proofs.YtomnecadhiflnaaDoor.Eng Go.Proofs.YtomnecadhiflnaaDoor.Cm
set_option linter.unusedVariables false
set_option linter.unusedSimpArgs false
/-- Two numbers, a list. -/
structure E6 where
  i : Int
  j : Int
  n : Nat
  f : Nat → List SC
def pairAt (f : Nat → List SC) (j : Nat) : Int × Int := match f j with
  | [.val (.int _ x), .val (.int _ y)] => (x, y)
  | _ => (0, 0)
def prsC (f : Nat → List SC) : Nat → List SC := fun j => [.val (.int .i64 (pairAt f j).1), .val (.int .i64 (pairAt f j).2)]
def rE6 (M : List Blk) (ts : List SX) (di dj dl : Nat) : E6 := match ts.getD di undefX, ts.getD dj undefX with
  | .v (.c (.val (.int _ n))), .v (.c (.val (.int _ m))) => ⟨n, m, (lstAt M (ts.getD dl undefX)).1, (lstAt M (ts.getD dl undefX)).2⟩
  | _, _ => ⟨0, 0, 0, fun _ => []⟩
abbrev dlV : SX := .v (.c (.clo 50 [(0, 0)]))
abbrev stBlk (A : Option Addr) (L : List Int) (c : Nat) : Blk := .mk 22 [sC A L c]
def I69 (A : Option Addr) (L : List Int) (c : Nat) (xs : List (Int × Int)) (R : Int → Prop) : LInv where
  σ := N1
  pre := fun ⟨k⟩ => R k
  mem := fun ⟨k⟩ => [stBlk A L c, prL xs]
  tmp := fun ⟨k⟩ J => [.v (.c (.lst 1)), dlV, jV (J 2), jV (J 3), jV (J 4), jV (J 5), jV (J 6), iV xs.length, iV k, jV (J 9), jV (J 10), jV (J 11), jV (J 12), jV (J 13), jV (J 14), jV (J 15), jV (J 16), jV (J 17), jV (J 18)]
  read := fun M ts => rI ts 8
  junk := [2, 3, 4, 5, 6, 9, 10, 11, 12, 13, 14, 15, 16, 17, 18]
  μ := fun ⟨k⟩ => (xs.length - k).toNat
  keep := some fun M ts => [.at_ 0, .at_ 1]
def I49 (A : Option Addr) (L : List Int) (c : Nat) (xs : List (Int × Int)) (R : E6 → Prop) : LInv where
  σ := E6
  pre := fun ⟨i, j, n, f⟩ => R ⟨i, j, n, f⟩
  mem := fun ⟨i, j, n, f⟩ => [stBlk A L c, .lst 46 2 n (prsC f)]
  tmp := fun ⟨i, j, n, f⟩ J => [.v (.c (.lst 1)), dlV, jV (J 2), jV (J 3), jV (J 4), iV i, iV j, jV (J 7), jV (J 8), jV (J 9), jV (J 10), jV (J 11), jV (J 12), jV (J 13), jV (J 14), jV (J 15), jV (J 16), jV (J 17), jV (J 18), jV (J 19), jV (J 20), jV (J 21), jV (J 22), jV (J 23), jV (J 24), jV (J 25), jV (J 26), jV (J 27), jV (J 28), jV (J 29), jV (J 30), jV (J 31), jV (J 32), jV (J 33), jV (J 34), jV (J 35), jV (J 36), jV (J 37), jV (J 38), jV (J 39), jV (J 40), jV (J 41)]
  read := fun M ts => rE6 M ts 5 6 0
  junk := [2, 3, 4, 7, 8, 9, 10, 11, 12, 13, 14, 15, 16, 17, 18, 19, 20, 21, 22, 23, 24, 25, 26, 27, 28, 29, 30, 31, 32, 33, 34, 35, 36, 37, 38, 39, 40, 41]
  μ := fun ⟨i, j, n, f⟩ => (xs.length - j).toNat
  keep := some fun M ts => [.at_ 0, .at_ 1]
def I36 (A : Option Addr) (L : List Int) (c : Nat) (xs : List (Int × Int)) (R : Int → Prop) : LInv where
  σ := N1
  pre := fun ⟨k⟩ => R k
  mem := fun ⟨k⟩ => [prL xs]
  tmp := fun ⟨k⟩ J => [jV (J 0), jV (J 1), sV A L c, jV (J 3), jV (J 4), jV (J 5), jV (J 6), .v (.c (.lst 0)), iV k, jV (J 9), jV (J 10), jV (J 11), jV (J 12), jV (J 13), jV (J 14), jV (J 15), jV (J 16), jV (J 17), jV (J 18), jV (J 19), jV (J 20), jV (J 21), jV (J 22), jV (J 23), jV (J 24), jV (J 25), jV (J 26), jV (J 27), jV (J 28), jV (J 29), jV (J 30), jV (J 31)]
  read := fun M ts => rI ts 8
  junk := [0, 1, 3, 4, 5, 6, 9, 10, 11, 12, 13, 14, 15, 16, 17, 18, 19, 20, 21, 22, 23, 24, 25, 26, 27, 28, 29, 30, 31]
  μ := fun ⟨k⟩ => (xs.length - k).toNat
  keep := some fun M ts => [K1 46 2 7 ts]
def Λm (I1 I2 : LInv) : LT := fun g j => bif Nat.beq g 69 then some I1 else bif Nat.beq g 49 then some I2 else none
set_option maxHeartbeats 4000000 in
set_option maxRecDepth 100000 in
theorem f34 (O : Nat → Prop) (w0 : World) (B : Option Addr) (l : Nat → S33) (As : Nat → Option Addr) (cs : Nat → Nat) (n c : Nat) (i : Int) (A : Option Addr) (L : List Int) (d : Nat) (xs : List (Int × Int)) (R1 : Int → Prop) (R2 : E6 → Prop) (K : SX → List Blk → Prop) (h_ : ∃ l_1, CmdsY O w0 (SX.v (SV.c (SC.rsl B (28 : Nat) (rowsC l As cs) (0 : Nat) n c))) l_1 ∧ ReqIs xs l_1 i ∧ (∀ (s : N1), LInv.pre (I69 A L d xs R1) s → Nat.le (2 : Nat) (List.length (LInv.mem (I69 A L d xs R1) s))) ∧ Fits (I69 A L d xs R1) (N1.mk (0 : Int)) (LInv.mem (I69 A L d xs R1) (N1.mk (0 : Int))) (LInv.tmp (I69 A L d xs R1) (N1.mk (0 : Int))) ∧ ∀ (s : N1) (J : Nat → Value), LInv.pre (I69 A L d xs R1) s → bif decide (s.1 < (↑(List.length xs) : Int)) then In s.1 (↑(List.length xs) : Int) ∧ In (↑(Int.toNat s.1) : Int) (↑(List.length xs) : Int) ∧ In (Prod.fst (List.getD xs (Int.toNat s.1) ((0 : Int), (0 : Int)))) (↑(List.length L) : Int) ∧ Option.isSome A = true ∧ RowAt O w0 A (1 : Nat) (ints L ((0 : Nat) + Int.toNat (Prod.fst (List.getD xs (Int.toNat s.1) ((0 : Int), (0 : Int)))))) ((0 : Nat) + Int.toNat (Prod.fst (List.getD xs (Int.toNat s.1) ((0 : Int), (0 : Int))))) ∧ bif List.getD L ((0 : Nat) + Int.toNat (Prod.fst (List.getD xs (Int.toNat s.1) ((0 : Int), (0 : Int))))) (0 : Int) == Prod.snd (List.getD xs (Int.toNat s.1) ((0 : Int), (0 : Int))) then bif s.1 == (-1 : Int) then K (SX.v (SV.c (SC.lst (1 : Nat)))) [Blk.mk (nat_lit 22) [SC.rsl A (1 : Nat) (ints L) (0 : Nat) (List.length L) d], Blk.lst (nat_lit 46) (2 : Nat) (List.length xs) (prs xs), Blk.mk (46 : Nat) [SC.val (Value.int IntKind.i64 (Prod.fst (List.getD xs (Int.toNat s.1) ((0 : Int), (0 : Int))))), SC.val (Value.int IntKind.i64 (Prod.snd (List.getD xs (Int.toNat s.1) ((0 : Int), (0 : Int)))))]] else (∀ (s : E6), LInv.pre (I49 A L d xs R2) s → Nat.le (2 : Nat) (List.length (LInv.mem (I49 A L d xs R2) s))) ∧ Fits (I49 A L d xs R2) (E6.mk s.1 (IntKind.wrap IntKind.i64 (s.1 + (1 : Int))) (List.length xs) (prs xs)) (LInv.mem (I49 A L d xs R2) (E6.mk s.1 (IntKind.wrap IntKind.i64 (s.1 + (1 : Int))) (List.length xs) (prs xs))) (LInv.tmp (I49 A L d xs R2) (E6.mk s.1 (IntKind.wrap IntKind.i64 (s.1 + (1 : Int))) (List.length xs) (prs xs))) ∧ ∀ (s : E6) (J : Nat → Value), LInv.pre (I49 A L d xs R2) s → bif decide (s.2 < (↑s.3 : Int)) then In s.2 (↑s.3 : Int) ∧ In (↑(Int.toNat s.2) : Int) (↑s.3 : Int) ∧ In (Prod.fst (pairAt s.4 (Int.toNat s.2))) (↑(List.length L) : Int) ∧ Option.isSome A = true ∧ RowAt O w0 A (1 : Nat) (ints L ((0 : Nat) + Int.toNat (Prod.fst (pairAt s.4 (Int.toNat s.2))))) ((0 : Nat) + Int.toNat (Prod.fst (pairAt s.4 (Int.toNat s.2)))) ∧ bif !List.getD L ((0 : Nat) + Int.toNat (Prod.fst (pairAt s.4 (Int.toNat s.2)))) (0 : Int) == Prod.snd (pairAt s.4 (Int.toNat s.2)) then In s.1 (↑s.3 : Int) ∧ In (↑(Int.toNat s.1) : Int) (↑s.3 : Int) ∧ Fits (I49 A L d xs R2) (E6.mk (IntKind.wrap IntKind.i64 (s.1 + (1 : Int))) (IntKind.wrap IntKind.i64 (s.2 + (1 : Int))) s.3 fun j' ↦ bif Nat.beq j' (Int.toNat s.1) then [SC.val (Value.int IntKind.i64 (Prod.fst (pairAt s.4 (Int.toNat s.2)))), SC.val (Value.int IntKind.i64 (Prod.snd (pairAt s.4 (Int.toNat s.2))))] else [SC.val (Value.int IntKind.i64 (Prod.fst (pairAt s.4 j'))), SC.val (Value.int IntKind.i64 (Prod.snd (pairAt s.4 j')))]) [Blk.mk (nat_lit 22) [SC.rsl A (1 : Nat) (ints L) (0 : Nat) (List.length L) d], Blk.lst (nat_lit 46) (2 : Nat) s.3 fun j' ↦ bif Nat.beq j' (Int.toNat s.1) then [SC.val (Value.int IntKind.i64 (Prod.fst (pairAt s.4 (Int.toNat s.2)))), SC.val (Value.int IntKind.i64 (Prod.snd (pairAt s.4 (Int.toNat s.2))))] else [SC.val (Value.int IntKind.i64 (Prod.fst (pairAt s.4 j'))), SC.val (Value.int IntKind.i64 (Prod.snd (pairAt s.4 j')))]] (LInv.tmp (I49 A L d xs R2) (E6.mk (IntKind.wrap IntKind.i64 (s.1 + (1 : Int))) (IntKind.wrap IntKind.i64 (s.2 + (1 : Int))) s.3 fun j' ↦ bif Nat.beq j' (Int.toNat s.1) then [SC.val (Value.int IntKind.i64 (Prod.fst (pairAt s.4 (Int.toNat s.2)))), SC.val (Value.int IntKind.i64 (Prod.snd (pairAt s.4 (Int.toNat s.2))))] else [SC.val (Value.int IntKind.i64 (Prod.fst (pairAt s.4 j'))), SC.val (Value.int IntKind.i64 (Prod.snd (pairAt s.4 j')))])) ∧ Dec (I49 A L d xs R2) (E6.mk (IntKind.wrap IntKind.i64 (s.1 + (1 : Int))) (IntKind.wrap IntKind.i64 (s.2 + (1 : Int))) s.3 fun j' ↦ bif Nat.beq j' (Int.toNat s.1) then [SC.val (Value.int IntKind.i64 (Prod.fst (pairAt s.4 (Int.toNat s.2)))), SC.val (Value.int IntKind.i64 (Prod.snd (pairAt s.4 (Int.toNat s.2))))] else [SC.val (Value.int IntKind.i64 (Prod.fst (pairAt s.4 j'))), SC.val (Value.int IntKind.i64 (Prod.snd (pairAt s.4 j')))]) s else Fits (I49 A L d xs R2) (E6.mk s.1 (IntKind.wrap IntKind.i64 (s.2 + (1 : Int))) s.3 (prsC s.4)) (LInv.mem (I49 A L d xs R2) (E6.mk s.1 (IntKind.wrap IntKind.i64 (s.2 + (1 : Int))) s.3 (prsC s.4))) (LInv.tmp (I49 A L d xs R2) (E6.mk s.1 (IntKind.wrap IntKind.i64 (s.2 + (1 : Int))) s.3 (prsC s.4))) ∧ Dec (I49 A L d xs R2) (E6.mk s.1 (IntKind.wrap IntKind.i64 (s.2 + (1 : Int))) s.3 (prsC s.4)) s else Cut (Option.getD (some s.1) (0 : Int)) (Option.getD none (↑s.3 : Int)) (↑s.3 : Int) ∧ In ((↑(Int.toNat s.1) : Int) + (↑(s.3 - Int.toNat s.1) : Int)) ((↑s.3 : Int) + (1 : Int)) ∧ Cut (0 : Int) (Option.getD (some s.1) (↑s.3 : Int)) (↑s.3 : Int) ∧ K (SX.v (SV.c (SC.lsub (1 : Nat) (2 : Nat) (0 : Nat) (Int.toNat s.1)))) [Blk.mk (nat_lit 22) [SC.rsl A (1 : Nat) (ints L) (0 : Nat) (List.length L) d], Blk.lst (nat_lit 46) (2 : Nat) s.3 fun j ↦ bif Nat.ble (Int.toNat s.1) j && Nat.blt j (Int.toNat s.1 + (s.3 - Int.toNat s.1)) then [SC.val (Value.int IntKind.i64 (0 : Int)), SC.val (Value.int IntKind.i64 (0 : Int))] else [SC.val (Value.int IntKind.i64 (Prod.fst (pairAt s.4 j))), SC.val (Value.int IntKind.i64 (Prod.snd (pairAt s.4 j)))]] else Fits (I69 A L d xs R1) (N1.mk (IntKind.wrap IntKind.i64 (s.1 + (1 : Int)))) (LInv.mem (I69 A L d xs R1) (N1.mk (IntKind.wrap IntKind.i64 (s.1 + (1 : Int))))) (LInv.tmp (I69 A L d xs R1) (N1.mk (IntKind.wrap IntKind.i64 (s.1 + (1 : Int))))) ∧ Dec (I69 A L d xs R1) (N1.mk (IntKind.wrap IntKind.i64 (s.1 + (1 : Int)))) s else K (SX.v (SV.c (SC.lst (1 : Nat)))) [Blk.mk (nat_lit 22) [SC.rsl A (1 : Nat) (ints L) (0 : Nat) (List.length L) d], Blk.lst (nat_lit 46) (2 : Nat) (List.length xs) (prs xs)]) : evFn Tryd.prog O w0 (ΓR xs O w0) (Λm (I69 A L d xs R1) (I49 A L d xs R2)) 100 5 34 [cmdsV B l As cs n c, iV i, sV A L d] [] (fun y M => K y M) := vc_of h_ (by kernel_rfl)
set_option maxHeartbeats 4000000 in
set_option maxRecDepth 100000 in
theorem f36 (O : Nat → Prop) (w0 : World) (B : Option Addr) (l : Nat → S33) (As : Nat → Option Addr) (cs : Nat → Nat) (n c : Nat) (i : Int) (A : Option Addr) (L : List Int) (d : Nat) (xs : List (Int × Int)) (R : Int → Prop) (K : SX → Prop) (h_ : ∃ l_1, CmdsY O w0 (SX.v (SV.c (SC.rsl B (28 : Nat) (rowsC l As cs) (0 : Nat) n c))) l_1 ∧ ReqIs xs l_1 i ∧ (∀ (s : N1), LInv.pre (I36 A L d xs R) s → Nat.le (0 : Nat) (List.length (LInv.mem (I36 A L d xs R) s))) ∧ Fits (I36 A L d xs R) (N1.mk (0 : Int)) (LInv.mem (I36 A L d xs R) (N1.mk (0 : Int))) (LInv.tmp (I36 A L d xs R) (N1.mk (0 : Int))) ∧ ∀ (s : N1) (J : Nat → Value), LInv.pre (I36 A L d xs R) s → bif decide (s.1 < (↑(List.length xs) : Int)) then In s.1 (↑(List.length xs) : Int) ∧ In (↑(Int.toNat s.1) : Int) (↑(List.length xs) : Int) ∧ In (Prod.fst (List.getD xs (Int.toNat s.1) ((0 : Int), (0 : Int)))) (↑(List.length L) : Int) ∧ Option.isSome A = true ∧ RowAt O w0 A (1 : Nat) (ints L ((0 : Nat) + Int.toNat (Prod.fst (List.getD xs (Int.toNat s.1) ((0 : Int), (0 : Int)))))) ((0 : Nat) + Int.toNat (Prod.fst (List.getD xs (Int.toNat s.1) ((0 : Int), (0 : Int))))) ∧ In s.1 (↑(List.length xs) : Int) ∧ In (↑(Int.toNat s.1) : Int) (↑(List.length xs) : Int) ∧ bif List.getD L ((0 : Nat) + Int.toNat (Prod.fst (List.getD xs (Int.toNat s.1) ((0 : Int), (0 : Int))))) (0 : Int) != Prod.snd (List.getD xs (Int.toNat s.1) ((0 : Int), (0 : Int))) then K (SX.v (SV.c (SC.val (Value.bool false)))) else Fits (I36 A L d xs R) (N1.mk (IntKind.wrap IntKind.i64 (s.1 + (1 : Int)))) (LInv.mem (I36 A L d xs R) (N1.mk (IntKind.wrap IntKind.i64 (s.1 + (1 : Int))))) (LInv.tmp (I36 A L d xs R) (N1.mk (IntKind.wrap IntKind.i64 (s.1 + (1 : Int))))) ∧ Dec (I36 A L d xs R) (N1.mk (IntKind.wrap IntKind.i64 (s.1 + (1 : Int)))) s else K (SX.v (SV.c (SC.val (Value.bool true))))) : evFn Tryd.prog O w0 (ΓR xs O w0) (Λof 36 (I36 A L d xs R)) 100 5 36 [cmdsV B l As cs n c, iV i, sV A L d] [] (fun y _ => K y) := vc_of h_ (by kernel_rfl)
--HIDE
/-- The requirements of a command that do not hold. -/
def misP (l : List S33) (i : Int) (L : List Int) : List (Int × Int) := (reqP l i).filter (fun r => !(L.getD r.1.toNat 0 == r.2))
structure MisIs (xs : List (Int × Int)) (l : List S33) (i : Int) (L : List Int) : Prop where
  eq : xs = misP l i L
structure RdyIs (b : Bool) (l : List S33) (i : Int) (L : List Int) : Prop where
  eq : b = (misP l i L).isEmpty
structure ReqIn (l : List S33) (i : Int) (n : Nat) : Prop where
  at_ : ∀ r ∈ reqP l i, 0 ≤ r.1 ∧ r.1 < n
/-- A list of numbers: as IntsM, or rows that are written no more. -/
structure IntsN (O : Nat → Prop) (w0 : World) (M : List Blk) (x : SX) (l : List Int) : Prop where
  out : IntsM O w0 M x l ∨ ∃ (A : Option Addr) (c k : Nat) (Q : World → Prop), x = sV A l c ∧ M[k]? = some (Blk.fz Q) ∧ l.length ≤ 9223372036854775807 ∧ ∀ w, Q w → RowsF A 1 l.length (ints l) w
theorem IntsN.rows {O : Nat → Prop} {w0 w : World} {β : Env} {M : List Blk} {x : SX} {l : List Int} (h : IntsN O w0 M x l) (hI : Inv O w0 β M w) :
    l.length ≤ 9223372036854775807 ∧ ∃ A c, (sV A l c).den β = x.den β ∧ ∀ j, j < l.length → A.isSome = true ∧ RowAt (fun _ => False) w A 1 (ints l j) j := by
  rcases h.out with h | ⟨A, c, k, Q, rfl, hk, hl, hQ⟩
  · exact h.rows hI
  · obtain ⟨F, _, h2⟩ := (hI.fz k Q hk).out
    exact ⟨hl, A, c, rfl, (hQ w (h2 w fun _ _ => rfl)).at_⟩
def gMis : EntF := fun O w0 args M k => match args with
  | [a, .v (.c (.val (.int .i64 i))), b] => ∃ l L, CmdsY O w0 a l ∧ IntsN O w0 M b L ∧ ReqIn l i L.length ∧ ∀ xs, MisIs xs l i L → k (.v (.c (.lst M.length))) (M ++ [prL xs])
  | _ => False
def gRdy : EntF := fun O w0 args M k => match args with
  | [a, .v (.c (.val (.int .i64 i))), b] => ∃ l L, CmdsY O w0 a l ∧ IntsN O w0 M b L ∧ ReqIn l i L.length ∧ ∀ q, RdyIs q l i L → k (bV q) M
  | _ => False
def gMis1 (l : List S33) (L : List Int) (i : Int) : EntF := fun O w0 args M k => match args with
  | [a, b, c] => b = iV i ∧ CmdsY O w0 a l ∧ IntsN O w0 M c L ∧ ReqIn l i L.length ∧ k (.v (.c (.lst M.length))) (M ++ [prL (misP l i L)])
  | _ => False
def gRdy1 (l : List S33) (L : List Int) (i : Int) : EntF := fun O w0 args M k => match args with
  | [a, b, c] => b = iV i ∧ CmdsY O w0 a l ∧ IntsN O w0 M c L ∧ ReqIn l i L.length ∧ k (bV (misP l i L).isEmpty) M
  | _ => False
def keepB (L : List Int) (r : Int × Int) : Bool := !(L.getD r.1.toNat 0 == r.2)
def flX (xs : List (Int × Int)) (L : List Int) (m : Nat) : List (Int × Int) := (xs.take m).filter (keepB L)
theorem flX_succ {xs : List (Int × Int)} {L : List Int} {m : Nat} (h : m < xs.length) : flX xs L (m + 1) = flX xs L m ++ bif keepB L (xs.getD m (0, 0)) then [xs.getD m (0, 0)] else [] := by
  unfold flX
  rw [List.take_succ_eq_append_getElem h, List.filter_append, List.getD_eq_getElem?_getD, List.getElem?_eq_getElem h]
  simp only [Option.getD_some]
  cases hk : keepB L xs[m] <;> simp [hk]
theorem flX_all {xs : List (Int × Int)} {L : List Int} : ∀ m, m ≤ xs.length → (∀ j, j < m → keepB L (xs.getD j (0, 0)) = true) → flX xs L m = xs.take m
  | 0, _, _ => by simp [flX]
  | m + 1, hm, h => by
    rw [flX_succ (by omega), h m (by omega), flX_all m (by omega) (fun j hj => h j (by omega)), List.take_succ_eq_append_getElem (by omega : m < xs.length), List.getD_eq_getElem?_getD, List.getElem?_eq_getElem (by omega : m < xs.length)]; rfl
theorem flX_le (xs : List (Int × Int)) (L : List Int) (m : Nat) : (flX xs L m).length ≤ m := by
  unfold flX
  exact Nat.le_trans (List.length_filter_le _ _) (by rw [List.length_take]; omega)
theorem getD_take2 {xs : List (Int × Int)} {m q : Nat} (h : q < m) : (xs.take m).getD q (0, 0) = xs.getD q (0, 0) := by
  rw [List.getD_eq_getElem?_getD, List.getD_eq_getElem?_getD, List.getElem?_take_of_lt h]
theorem getD_last2 (xs : List (Int × Int)) (y : Int × Int) : (xs ++ [y]).getD xs.length (0, 0) = y := by
  rw [List.getD_eq_getElem?_getD, List.getElem?_append_right (Nat.le_refl _), Nat.sub_self]; rfl
theorem getD_front2 (xs ys : List (Int × Int)) {q : Nat} (h : q < xs.length) : (xs ++ ys).getD q (0, 0) = xs.getD q (0, 0) := by
  rw [List.getD_eq_getElem?_getD, List.getElem?_append_left h, ← List.getD_eq_getElem?_getD]
theorem getD_mem2 {xs : List (Int × Int)} {q : Nat} (h : q < xs.length) : xs.getD q (0, 0) ∈ xs := by
  rw [List.getD_eq_getElem?_getD, List.getElem?_eq_getElem h]; exact List.getElem_mem h
theorem pairAt_put (g : Nat → Int × Int) (v : Int × Int) (b q : Nat) : pairAt (fun j' => bif Nat.beq j' b then [SC.val (.int .i64 v.1), SC.val (.int .i64 v.2)] else [SC.val (.int .i64 (g j').1), SC.val (.int .i64 (g j').2)]) q = bif Nat.beq q b then v else g q := by
  unfold pairAt
  dsimp only
  cases Nat.beq q b <;> rfl
def R69 (xs : List (Int × Int)) (L : List Int) : Int → Prop := fun k => 0 ≤ k ∧ k ≤ xs.length ∧ ∀ j, j < k.toNat → keepB L (xs.getD j (0, 0)) = true
def R36 (xs : List (Int × Int)) (L : List Int) : Int → Prop := fun k => 0 ≤ k ∧ k ≤ xs.length ∧ ∀ j, j < k.toNat → keepB L (xs.getD j (0, 0)) = false
def R49 (xs : List (Int × Int)) (L : List Int) : E6 → Prop := fun ⟨i, j, n, f⟩ => n = xs.length ∧ 0 ≤ i ∧ i < j ∧ j ≤ n ∧ i.toNat = (flX xs L j.toNat).length ∧ (∀ q, q < i.toNat → pairAt f q = (flX xs L j.toNat).getD q (0, 0)) ∧ ∀ q, j.toNat ≤ q → q < n → pairAt f q = xs.getD q (0, 0)
set_option maxRecDepth 100000 in
theorem e34 (O : Nat → Prop) (w0 : World) : Entry Tryd.prog O w0 34 (gMis O w0) := fun hf args M k hg hm β w hI => by
  unfold gMis at hg
  split at hg
  case h_2 => exact hg.elim
  rename_i a i b
  obtain ⟨l, L, hX, hL, hR, hk⟩ := hg
  refine Entry.madeQ (ΓR_ok (reqP l i)) 100 5 (g := gMis1 l L i) (fun O w0 args M k hg β w hI => ?_) O w0 hf [a, .v (.c (.val (.int .i64 i))), b] M k ⟨rfl, hX, hL, hR, hk (misP l i L) ⟨rfl⟩⟩ hm β w hI
  unfold gMis1 at hg
  split at hg
  case h_2 => exact hg.elim
  rename_i a b c
  obtain ⟨rfl, ⟨hsz, hid, B, cc, As, cs, ha, hcap, hA⟩, hL, hR, hk⟩ := hg
  obtain ⟨hll, A, d, hb, hA2⟩ := hL.rows hI
  have hY : CmdsY (fun _ => False) w (cmdsV B (fun j => l.getD j z33) As cs l.length cc) l := ⟨hsz, hid, B, cc, As, cs, fun _ => rfl, hcap, fun j hj => ⟨(hA j hj).1, (hA j hj).2.1.at hI.fr, (hA j hj).2.2.1, fun q hq => ⟨((hA j hj).2.2.2 q hq).1, ((hA j hj).2.2.2 q hq).2.at hI.fr⟩⟩⟩
  refine ⟨[cmdsV B (fun j => l.getD j z33) As cs l.length cc, iV i, sV A L d], _, by unfold fr; simp only [List.map_cons, ha β, hb, List.map_nil], f34 _ w B (fun j => l.getD j z33) As cs l.length cc i A L d (reqP l i) (R69 (reqP l i) L) (R49 (reqP l i) L) (QK M k) ?_⟩
  have hxl : (reqP l i).length ≤ 1000000 := by
    unfold reqP
    split
    · simp
    split
    · simp
    split
    · simp
    split
    · rw [List.length_map]
      have := refL_len l i.toNat
      omega
    · simp
  have hms : misP l i L = flX (reqP l i) L (reqP l i).length := by unfold flX; rw [List.take_length]; rfl
  have hin := hR.at_
  generalize hxs : reqP l i = xs at *
  have hxs2 : ReqIs xs l i := ⟨hxs.symm⟩
  have e0 : ∀ n : Nat, 0 + n = n := Nat.zero_add
  refine ⟨l, hY, hxs2, fun _ _ => Nat.le_refl _, ⟨⟨Int.le_refl _, by omega, fun j hj => absurd hj (Nat.not_lt_zero j)⟩, rfl, fun _ => rfl⟩, ?_⟩
  rintro ⟨p⟩ J ⟨hp0, hp1, hp⟩
  dsimp only
  simp only [e0]
  refine cond_of (fun h => ?_) (fun h => ?_)
  rotate_left
  · have h : ¬ p < xs.length := of_decide_eq_false h
    have hall := flX_all (xs := xs) (L := L) xs.length (Nat.le_refl _) (fun j hj => hp j (by omega))
    rw [List.take_length] at hall
    rw [← hms] at hall
    refine ⟨[], .lst 1, 46, 2, (misP l i L).length, prs (misP l i L), rfl, rfl, ?_, hk⟩
    rw [hall]
    exact .lst 1 (prs xs) rfl (fun j _ => rfl)
  have h : p < xs.length := of_decide_eq_true h
  have hv := hin _ (getD_mem2 (show p.toNat < xs.length by omega))
  have ht := hA2 ((xs.getD p.toNat (0, 0)).1.toNat) (by omega)
  refine ⟨⟨hp0, h⟩, ⟨by omega, by omega⟩, ⟨hv.1, hv.2⟩, ht.1, ht.2, cond_of (fun hd => ?_) (fun hd => ?_)⟩
  rotate_left
  · rw [wrap_in (show -9223372036854775808 ≤ p + 1 by omega) (by omega)]
    refine ⟨⟨⟨by omega, by omega, fun j hj => ?_⟩, rfl, fun _ => rfl⟩, ⟨by show (_ : Int).toNat < (_ : Int).toNat; omega⟩⟩
    by_cases hj2 : j < p.toNat
    · exact hp j hj2
    · have : j = p.toNat := by omega
      rw [this]
      show (!_) = true
      rw [hd]; rfl
  have hno : (p == -1) = false := by simp; omega
  rw [hno]
  simp only [cond_false]
  rw [wrap_in (show -9223372036854775808 ≤ p + 1 by omega) (by omega)]
  have hkf : keepB L (xs.getD p.toNat (0, 0)) = false := by show (!_) = false; rw [hd]; rfl
  have hfl : flX xs L (p + 1).toNat = xs.take p.toNat := by
    rw [show (p + 1).toNat = p.toNat + 1 by omega, flX_succ (by omega), hkf, flX_all p.toNat (by omega) hp]; simp
  have hfln : (xs.take p.toNat).length = p.toNat := by rw [List.length_take]; omega
  refine ⟨fun _ _ => Nat.le_refl _, ⟨⟨rfl, by omega, by omega, by omega, by rw [hfl, hfln], fun q hq => ?_, fun q hq hq2 => rfl⟩, rfl, fun _ => rfl⟩, ?_⟩
  · rw [hfl, getD_take2 hq]; rfl
  rintro ⟨u, j, n, f⟩ J2 ⟨hn, hu0, huj, hj1, hul, hlo, hhi⟩
  subst hn
  dsimp only
  refine cond_of (fun hj => ?_) (fun hj => ?_)
  · have hj : j < (xs.length : Int) := of_decide_eq_true hj
    have e1 : pairAt f j.toNat = xs.getD j.toNat (0, 0) := hhi _ (Nat.le_refl _) (by omega)
    have hv2 := hin _ (getD_mem2 (show j.toNat < xs.length by omega))
    have ht2 := hA2 ((xs.getD j.toNat (0, 0)).1.toNat) (by omega)
    have hs1 : (j + 1).toNat = j.toNat + 1 := by omega
    have hsucc := flX_succ (L := L) (show j.toNat < xs.length by omega)
    have hle := flX_le xs L j.toNat
    rw [e1, wrap_in (show -9223372036854775808 ≤ j + 1 by omega) (by omega), wrap_in (show -9223372036854775808 ≤ u + 1 by omega) (by omega)]
    refine ⟨⟨by omega, hj⟩, ⟨by omega, by omega⟩, ⟨hv2.1, hv2.2⟩, ht2.1, ht2.2, cond_of (fun hd2 => ?_) (fun hd2 => ?_)⟩
    · have hk2 : keepB L (xs.getD j.toNat (0, 0)) = true := hd2
      rw [hk2] at hsucc
      simp only [cond_true] at hsucc
      have hnum : ∀ q, pairAt (fun j' => bif Nat.beq j' u.toNat then [SC.val (.int .i64 (xs.getD j.toNat (0, 0)).1), SC.val (.int .i64 (xs.getD j.toNat (0, 0)).2)] else [SC.val (.int .i64 (pairAt f j').1), SC.val (.int .i64 (pairAt f j').2)]) q = bif Nat.beq q u.toNat then xs.getD j.toNat (0, 0) else pairAt f q := fun q => pairAt_put (pairAt f) _ _ q
      have hbf : ∀ q, q ≠ u.toNat → Nat.beq q u.toNat = false := fun q hq => by
        cases hb : Nat.beq q u.toNat with
        | false => rfl
        | true => exact absurd (Nat.eq_of_beq_eq_true hb) hq
      refine ⟨⟨by omega, by omega⟩, ⟨by omega, by omega⟩, ⟨⟨rfl, by omega, by omega, by omega, ?_, fun q hq => ?_, fun q hq hq2 => ?_⟩, ?_, fun _ => rfl⟩, ⟨by show (_ : Int).toNat < (_ : Int).toNat; omega⟩⟩
      · rw [hs1, hsucc, List.length_append, ← hul]; simp; omega
      · rw [hnum, hs1, hsucc]
        by_cases hqk : q = u.toNat
        · rw [hqk, Nat.beq_refl, hul, getD_last2]; rfl
        · rw [hbf q hqk, getD_front2 _ _ (by omega)]
          exact hlo q (by omega)
      · rw [hnum, hbf q (by omega)]
        exact hhi q (by omega) hq2
      · refine congrArg (fun F => [stBlk A L d, Blk.lst 46 2 xs.length F]) (funext fun q => ?_)
        show _ = [SC.val (.int .i64 (pairAt _ q).1), SC.val (.int .i64 (pairAt _ q).2)]
        rw [hnum]
        cases Nat.beq q u.toNat <;> rfl
    · have hk2 : keepB L (xs.getD j.toNat (0, 0)) = false := hd2
      rw [hk2] at hsucc
      have hsucc : flX xs L (j.toNat + 1) = flX xs L j.toNat := by rw [hsucc]; simp
      refine ⟨⟨⟨rfl, by omega, by omega, by omega, by rw [hs1, hsucc]; exact hul, fun q hq => ?_, fun q hq hq2 => ?_⟩, rfl, fun _ => rfl⟩, ⟨by show (_ : Int).toNat < (_ : Int).toNat; omega⟩⟩
      · rw [hs1, hsucc]; exact hlo q hq
      · exact hhi q (by omega) hq2
  · have hj : ¬ j < (xs.length : Int) := of_decide_eq_false hj
    have hjn : j.toNat = xs.length := by omega
    rw [hjn] at hul hlo
    rw [← hms] at hul hlo
    refine ⟨⟨hu0, show u ≤ (xs.length : Int) by omega, show (xs.length : Int) ≤ xs.length by omega⟩, ⟨by omega, by omega⟩, ⟨Int.le_refl _, hu0, show u ≤ (xs.length : Int) by omega⟩, [], .lsub 1 2 0 u.toNat, 46, 2, (misP l i L).length, prs (misP l i L), rfl, rfl, ?_, hk⟩
    rw [← hul]
    refine .sub 1 xs.length _ rfl (by omega) (fun q hq => ?_)
    have hb : Nat.ble u.toNat q = false := by
      cases hb : Nat.ble u.toNat q with
      | false => rfl
      | true => exact absurd (Nat.le_of_ble_eq_true hb) (by omega)
    simp only [hb, Bool.false_and, cond_false]
    rw [hlo q hq]; rfl
set_option maxRecDepth 100000 in
theorem e36 (O : Nat → Prop) (w0 : World) : Entry Tryd.prog O w0 36 (gRdy O w0) := fun hf args M k hg hm β w hI => by
  unfold gRdy at hg
  split at hg
  case h_2 => exact hg.elim
  rename_i a i b
  obtain ⟨l, L, hX, hL, hR, hk⟩ := hg
  refine Entry.pureM (ΓR_ok (reqP l i)) 100 5 (g := gRdy1 l L i) (fun O w0 args M k hg => ?_) O w0 hf [a, .v (.c (.val (.int .i64 i))), b] M k ⟨rfl, hX, hL, hR, hk _ ⟨rfl⟩⟩ hm β w hI
  unfold gRdy1 at hg
  split at hg
  case h_2 => exact hg.elim
  rename_i a b c
  obtain ⟨rfl, ⟨hsz, hid, B, cc, As, cs, ha, hcap, hA⟩, hL, hR, hk⟩ := hg
  refine ⟨_, rfl, hk, fun β w hI => ?_⟩
  obtain ⟨hll, A, d, hb, hA2⟩ := hL.rows hI
  have hY : CmdsY (fun _ => False) w (cmdsV B (fun j => l.getD j z33) As cs l.length cc) l := ⟨hsz, hid, B, cc, As, cs, fun _ => rfl, hcap, fun j hj => ⟨(hA j hj).1, (hA j hj).2.1.at hI.fr, (hA j hj).2.2.1, fun q hq => ⟨((hA j hj).2.2.2 q hq).1, ((hA j hj).2.2.2 q hq).2.at hI.fr⟩⟩⟩
  refine ⟨[cmdsV B (fun j => l.getD j z33) As cs l.length cc, iV i, sV A L d], _, by unfold fr; simp only [List.map_cons, ha β, hb, List.map_nil], f36 _ w B (fun j => l.getD j z33) As cs l.length cc i A L d (reqP l i) (R36 (reqP l i) L) _ ?_⟩
  have hms : misP l i L = flX (reqP l i) L (reqP l i).length := by unfold flX; rw [List.take_length]; rfl
  have hmf : misP l i L = (reqP l i).filter (keepB L) := rfl
  have hin := hR.at_
  have hxl : (reqP l i).length ≤ 1000000 := by
    unfold reqP
    split
    · simp
    split
    · simp
    split
    · simp
    split
    · rw [List.length_map]
      have := refL_len l i.toNat
      omega
    · simp
  generalize hxs : reqP l i = xs at *
  have hxs2 : ReqIs xs l i := ⟨hxs.symm⟩
  have e0 : ∀ n : Nat, 0 + n = n := Nat.zero_add
  refine ⟨l, hY, hxs2, fun _ _ => Nat.zero_le _, ⟨⟨Int.le_refl _, by omega, fun j hj => absurd hj (Nat.not_lt_zero j)⟩, rfl, fun _ => rfl⟩, ?_⟩
  rintro ⟨p⟩ J ⟨hp0, hp1, hp⟩
  dsimp only
  simp only [e0]
  refine cond_of (fun h => ?_) (fun h => ?_)
  · have h : p < xs.length := of_decide_eq_true h
    have hv := hin _ (getD_mem2 (show p.toNat < xs.length by omega))
    have ht := hA2 ((xs.getD p.toNat (0, 0)).1.toNat) (by omega)
    refine ⟨⟨hp0, h⟩, ⟨by omega, by omega⟩, ⟨hv.1, hv.2⟩, ht.1, ht.2, ⟨hp0, h⟩, ⟨by omega, by omega⟩, cond_of (fun hd => ?_) (fun hd => ?_)⟩
    · have hm : xs.getD p.toNat (0, 0) ∈ misP l i L := by
        rw [hmf]
        exact List.mem_filter.2 ⟨getD_mem2 (by omega), hd⟩
      intro β
      cases hc : misP l i L with
      | nil => rw [hc] at hm; cases hm
      | cons _ _ => rfl
    · rw [wrap_in (show -9223372036854775808 ≤ p + 1 by omega) (by omega)]
      refine ⟨⟨⟨by omega, by omega, fun j hj => ?_⟩, rfl, fun _ => rfl⟩, ⟨by show (_ : Int).toNat < (_ : Int).toNat; omega⟩⟩
      by_cases hj2 : j < p.toNat
      · exact hp j hj2
      · have : j = p.toNat := by omega
        rw [this]
        exact hd
  · have h : ¬ p < xs.length := of_decide_eq_false h
    have hn : misP l i L = [] := by
      rw [hmf]
      refine List.filter_eq_nil_iff.2 fun a ha => ?_
      obtain ⟨j, hj, rfl⟩ := List.getElem_of_mem ha
      have := hp j (by omega)
      rw [List.getD_eq_getElem?_getD, List.getElem?_eq_getElem hj] at this
      simp only [Option.getD_some] at this
      rw [this]
      simp
    intro β
    rw [hn]; rfl
def Γ18 : TabF := addF (addF Γ17 34 gMis) 36 gRdy
theorem Γ18_ok : TSF Tryd.prog Γ18 := (Γ17_ok.add e34).add e36
--SHOW
end Go.Proofs.YtomnecadhiflnaaDoor.Br
