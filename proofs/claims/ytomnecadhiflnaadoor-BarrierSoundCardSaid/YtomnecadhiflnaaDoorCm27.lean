/- The laws BarrierMissing and BarrierSound: what their texts come to. -/
import Derived.Test.YtomnecadhiflnaaDoorCm26
namespace Go.Proofs.YtomnecadhiflnaaDoor.Br
open Go Go.RowKit Go.Proofs.YtomnecadhiflnaaDoor.Eng Go.Proofs.YtomnecadhiflnaaDoor.Cm
set_option linter.unusedVariables false
set_option linter.unusedSimpArgs false
structure M5 where
  k : Int
  ys : List (Int × Int × Int)
  zs : List (Int × Int × Int)
structure M8 where
  k : Int
  F : List Int
  c : Int
def I5 (R : M5 → Prop) : LInv where
  σ := M5
  pre := fun ⟨k, ys, zs⟩ => R ⟨k, ys, zs⟩
  mem := fun ⟨k, ys, zs⟩ => [trL ys, trL zs]
  tmp := fun ⟨k, ys, zs⟩ J => [jV (J 0), jV (J 1), jV (J 2), jV (J 3), jV (J 4), .v (.c (.lst 0)), .v (.c (.lst 1)), iV k, jV (J 8), jV (J 9), jV (J 10), jV (J 11), jV (J 12), jV (J 13), jV (J 14), jV (J 15), jV (J 16), jV (J 17), jV (J 18), jV (J 19), jV (J 20), jV (J 21), jV (J 22), jV (J 23), jV (J 24), jV (J 25), jV (J 26), jV (J 27), jV (J 28), jV (J 29), jV (J 30), jV (J 31), jV (J 32), jV (J 33), jV (J 34), jV (J 35), jV (J 36), jV (J 37), jV (J 38)]
  read := fun M ts => ⟨0, [], []⟩
  junk := [0, 1, 2, 3, 4, 8, 9, 10, 11, 12, 13, 14, 15, 16, 17, 18, 19, 20, 21, 22, 23, 24, 25, 26, 27, 28, 29, 30, 31, 32, 33, 34, 35, 36, 37, 38]
  μ := fun ⟨k, ys, zs⟩ => (ys.length - k).toNat
  keep := some fun M ts => [Ki 5 ts, Ki 6 ts]
  ex := true
def I8 (B : Option Addr) (l : Nat → S33) (As : Nat → Option Addr) (cs : Nat → Nat) (n c : Nat) (A : Option Addr) (L : List Int) (d : Nat) (R : M8 → Prop) : LInv where
  σ := M8
  pre := fun ⟨k, F, e⟩ => R ⟨k, F, e⟩
  mem := fun ⟨k, F, e⟩ => [stL F]
  tmp := fun ⟨k, F, e⟩ J => [cmdsV B l As cs n c, sV A L d, jV (J 2), jV (J 3), jV (J 4), .v (.c (.lst 0)), iV e, jV (J 7), iV k, jV (J 9), jV (J 10), jV (J 11), jV (J 12), jV (J 13), jV (J 14), jV (J 15), jV (J 16), jV (J 17), jV (J 18), jV (J 19), jV (J 20), jV (J 21), jV (J 22), jV (J 23), jV (J 24), jV (J 25), jV (J 26), jV (J 27), jV (J 28), jV (J 29), jV (J 30), jV (J 31), jV (J 32), jV (J 33), jV (J 34), jV (J 35), jV (J 36), jV (J 37), jV (J 38), jV (J 39), jV (J 40), jV (J 41), jV (J 42), jV (J 43), jV (J 44), jV (J 45), jV (J 46), jV (J 47), jV (J 48), jV (J 49), jV (J 50), jV (J 51), jV (J 52), jV (J 53), jV (J 54), jV (J 55), jV (J 56), jV (J 57), jV (J 58), jV (J 59), jV (J 60), jV (J 61), jV (J 62), jV (J 63), jV (J 64), jV (J 65), jV (J 66), jV (J 67), jV (J 68)]
  read := fun M ts => ⟨0, [], 0⟩
  junk := [2, 3, 4, 7, 9, 10, 11, 12, 13, 14, 15, 16, 17, 18, 19, 20, 21, 22, 23, 24, 25, 26, 27, 28, 29, 30, 31, 32, 33, 34, 35, 36, 37, 38, 39, 40, 41, 42, 43, 44, 45, 46, 47, 48, 49, 50, 51, 52, 53, 54, 55, 56, 57, 58, 59, 60, 61, 62, 63, 64, 65, 66, 67, 68]
  μ := fun ⟨k, F, e⟩ => (F.length - k).toNat
  keep := some fun M ts => [Ki 5 ts]
  ex := true
set_option maxHeartbeats 4000000 in
set_option maxRecDepth 100000 in
theorem f5 (O : Nat → Prop) (w0 : World) (B : Option Addr) (l : Nat → S33) (As : Nat → Option Addr) (cs : Nat → Nat) (n c : Nat) (A : Option Addr) (L : List Int) (d : Nat) (R : M5 → Prop) (K : SX → Prop) (h_ : bif decide ((↑n : Int) > (400 : Int)) then Gl0 O w0 ∧ K (SX.v (SV.c (SC.val (Value.bool true)))) else Gl0 O w0 ∧ ∃ l_1 L_1, CmdsY O w0 (SX.v (SV.c (SC.rsl B (28 : Nat) (rowsC l As cs) (0 : Nat) n c))) l_1 ∧ IntsM O w0 [] (SX.v (SV.c (SC.rsl A (1 : Nat) (ints L) (0 : Nat) (List.length L) d))) L_1 ∧ ∀ (ys : List (Int × Int × Int)), MsIs ys l_1 L_1 → Gl0 O w0 ∧ ∃ l_2 L_2, CmdsY O w0 (SX.v (SV.c (SC.rsl B (28 : Nat) (rowsC l As cs) (0 : Nat) n c))) l_2 ∧ IntsM O w0 [Blk.lst (nat_lit 52) (3 : Nat) (List.length ys) (trs ys)] (SX.v (SV.c (SC.rsl A (1 : Nat) (ints L) (0 : Nat) (List.length L) d))) L_2 ∧ ∀ (ys_1 : List (Int × Int × Int)), MsIs ys_1 l_2 L_2 → bif (↑(List.length ys) : Int) != (↑(List.length ys_1) : Int) then K (SX.v (SV.c (SC.val (Value.bool false)))) else (∀ (s : M5), LInv.pre (I5 R) s → Nat.le (0 : Nat) (List.length (LInv.mem (I5 R) s))) ∧ (FitE (I5 R) [Blk.lst (nat_lit 52) (3 : Nat) (List.length ys) (trs ys), Blk.lst (nat_lit 52) (3 : Nat) (List.length ys_1) (trs ys_1)] (fun J ↦ [SX.v (SV.c (SC.opq (J (0 : Nat)))), SX.v (SV.c (SC.opq (J (1 : Nat)))), SX.v (SV.c (SC.opq (J (2 : Nat)))), SX.v (SV.c (SC.opq (J (3 : Nat)))), SX.v (SV.c (SC.opq (J (4 : Nat)))), SX.v (SV.c (SC.lst (0 : Nat))), SX.v (SV.c (SC.lst (1 : Nat))), SX.v (SV.c (SC.val (Value.int IntKind.i64 (0 : Int)))), SX.v (SV.c (SC.opq (J (8 : Nat)))), SX.v (SV.c (SC.opq (J (9 : Nat)))), SX.v (SV.c (SC.opq (J (10 : Nat)))), SX.v (SV.c (SC.opq (J (11 : Nat)))), SX.v (SV.c (SC.opq (J (12 : Nat)))), SX.v (SV.c (SC.opq (J (13 : Nat)))), SX.v (SV.c (SC.opq (J (14 : Nat)))), SX.v (SV.c (SC.opq (J (15 : Nat)))), SX.v (SV.c (SC.opq (J (16 : Nat)))), SX.v (SV.c (SC.opq (J (17 : Nat)))), SX.v (SV.c (SC.opq (J (18 : Nat)))), SX.v (SV.c (SC.opq (J (19 : Nat)))), SX.v (SV.c (SC.opq (J (20 : Nat)))), SX.v (SV.c (SC.opq (J (21 : Nat)))), SX.v (SV.c (SC.opq (J (22 : Nat)))), SX.v (SV.c (SC.opq (J (23 : Nat)))), SX.v (SV.c (SC.opq (J (24 : Nat)))), SX.v (SV.c (SC.opq (J (25 : Nat)))), SX.v (SV.c (SC.opq (J (26 : Nat)))), SX.v (SV.c (SC.opq (J (27 : Nat)))), SX.v (SV.c (SC.opq (J (28 : Nat)))), SX.v (SV.c (SC.opq (J (29 : Nat)))), SX.v (SV.c (SC.opq (J (30 : Nat)))), SX.v (SV.c (SC.opq (J (31 : Nat)))), SX.v (SV.c (SC.opq (J (32 : Nat)))), SX.v (SV.c (SC.opq (J (33 : Nat)))), SX.v (SV.c (SC.opq (J (34 : Nat)))), SX.v (SV.c (SC.opq (J (35 : Nat)))), SX.v (SV.c (SC.opq (J (36 : Nat)))), SX.v (SV.c (SC.opq (J (37 : Nat)))), SX.v (SV.c (SC.opq (J (38 : Nat))))]) fun x ↦ True) ∧ ∀ (s : M5) (J : Nat → Value), LInv.pre (I5 R) s → bif decide (s.1 < (↑(List.length s.2) : Int)) then In s.1 (↑(List.length s.2) : Int) ∧ In (↑(Int.toNat s.1) : Int) (↑(List.length s.2) : Int) ∧ In s.1 (↑(List.length s.3) : Int) ∧ In (↑(Int.toNat s.1) : Int) (↑(List.length s.3) : Int) ∧ bif !(Prod.fst (List.getD s.2 (Int.toNat s.1) ((0 : Int), (0 : Int), (0 : Int))) == Prod.fst (List.getD s.3 (Int.toNat s.1) ((0 : Int), (0 : Int), (0 : Int))) && (Prod.fst (Prod.snd (List.getD s.2 (Int.toNat s.1) ((0 : Int), (0 : Int), (0 : Int)))) == Prod.fst (Prod.snd (List.getD s.3 (Int.toNat s.1) ((0 : Int), (0 : Int), (0 : Int)))) && (Prod.snd (Prod.snd (List.getD s.2 (Int.toNat s.1) ((0 : Int), (0 : Int), (0 : Int)))) == Prod.snd (Prod.snd (List.getD s.3 (Int.toNat s.1) ((0 : Int), (0 : Int), (0 : Int)))) && true))) then K (SX.v (SV.c (SC.val (Value.bool false)))) else FitE (I5 R) [Blk.lst (nat_lit 52) (3 : Nat) (List.length s.2) (trs s.2), Blk.lst (nat_lit 52) (3 : Nat) (List.length s.3) (trs s.3)] (fun J ↦ [SX.v (SV.c (SC.opq (J (0 : Nat)))), SX.v (SV.c (SC.opq (J (1 : Nat)))), SX.v (SV.c (SC.opq (J (2 : Nat)))), SX.v (SV.c (SC.opq (J (3 : Nat)))), SX.v (SV.c (SC.opq (J (4 : Nat)))), SX.v (SV.c (SC.lst (0 : Nat))), SX.v (SV.c (SC.lst (1 : Nat))), SX.v (SV.c (SC.val (Value.int IntKind.i64 (IntKind.wrap IntKind.i64 (s.1 + (1 : Int)))))), SX.v (SV.c (SC.opq (J (8 : Nat)))), SX.v (SV.c (SC.opq (J (9 : Nat)))), SX.v (SV.c (SC.opq (J (10 : Nat)))), SX.v (SV.c (SC.opq (J (11 : Nat)))), SX.v (SV.c (SC.opq (J (12 : Nat)))), SX.v (SV.c (SC.opq (J (13 : Nat)))), SX.v (SV.c (SC.opq (J (14 : Nat)))), SX.v (SV.c (SC.opq (J (15 : Nat)))), SX.v (SV.c (SC.opq (J (16 : Nat)))), SX.v (SV.c (SC.opq (J (17 : Nat)))), SX.v (SV.c (SC.opq (J (18 : Nat)))), SX.v (SV.c (SC.opq (J (19 : Nat)))), SX.v (SV.c (SC.opq (J (20 : Nat)))), SX.v (SV.c (SC.opq (J (21 : Nat)))), SX.v (SV.c (SC.opq (J (22 : Nat)))), SX.v (SV.c (SC.opq (J (23 : Nat)))), SX.v (SV.c (SC.opq (J (24 : Nat)))), SX.v (SV.c (SC.opq (J (25 : Nat)))), SX.v (SV.c (SC.opq (J (26 : Nat)))), SX.v (SV.c (SC.opq (J (27 : Nat)))), SX.v (SV.c (SC.opq (J (28 : Nat)))), SX.v (SV.c (SC.opq (J (29 : Nat)))), SX.v (SV.c (SC.opq (J (30 : Nat)))), SX.v (SV.c (SC.opq (J (31 : Nat)))), SX.v (SV.c (SC.opq (J (32 : Nat)))), SX.v (SV.c (SC.opq (J (33 : Nat)))), SX.v (SV.c (SC.opq (J (34 : Nat)))), SX.v (SV.c (SC.opq (J (35 : Nat)))), SX.v (SV.c (SC.opq (J (36 : Nat)))), SX.v (SV.c (SC.opq (J (37 : Nat)))), SX.v (SV.c (SC.opq (J (38 : Nat))))]) fun s' ↦ LInv.μ (I5 R) s' < LInv.μ (I5 R) s else Gl0 O w0 ∧ K (SX.v (SV.c (SC.val (Value.bool true))))) : evFn Tryd.prog O w0 (Γ20 O w0) (Λof 5 (I5 R)) 100 5 5 [cmdsV B l As cs n c, sV A L d] [] (fun y _ => K y) := vc_of h_ (by kernel_rfl)
set_option maxHeartbeats 4000000 in
set_option maxRecDepth 100000 in
theorem f8 (O : Nat → Prop) (w0 : World) (B : Option Addr) (l : Nat → S33) (As : Nat → Option Addr) (cs : Nat → Nat) (n c : Nat) (A : Option Addr) (L : List Int) (d : Nat) (R : M8 → Prop) (K : SX → Prop) (h_ : bif decide ((↑n : Int) > (400 : Int)) then Gl0 O w0 ∧ K (SX.v (SV.c (SC.val (Value.bool true)))) else Gl0 O w0 ∧ ∃ l_1 L_1, CmdsZ O w0 (SX.v (SV.c (SC.rsl B (28 : Nat) (rowsC l As cs) (0 : Nat) n c))) l_1 ∧ IntsM O w0 [] (SX.v (SV.c (SC.rsl A (1 : Nat) (ints L) (0 : Nat) (List.length L) d))) L_1 ∧ ∀ (F : List Int) (c_1 e : Int), CkIs l_1 L_1 F c_1 e → bif e != (0 : Int) then bif (↑(List.length F) : Int) == (0 : Int) then bif decide (c_1 ≥ (0 : Int)) then bif decide (c_1 ≤ (↑n : Int)) then Gl0 O w0 ∧ K (SX.v (SV.c (SC.val (Value.bool true)))) else K (SX.v (SV.c (SC.val (Value.bool false)))) else K (SX.v (SV.c (SC.val (Value.bool false)))) else K (SX.v (SV.c (SC.val (Value.bool false)))) else (∀ (s : M8), LInv.pre (I8 B l As cs n c A L d R) s → Nat.le (0 : Nat) (List.length (LInv.mem (I8 B l As cs n c A L d R) s))) ∧ (FitE (I8 B l As cs n c A L d R) [Blk.lst (nat_lit 25) (1 : Nat) (List.length F) (ints F)] (fun J ↦ [SX.v (SV.c (SC.rsl B (28 : Nat) (rowsC l As cs) (0 : Nat) n c)), SX.v (SV.c (SC.rsl A (1 : Nat) (ints L) (0 : Nat) (List.length L) d)), SX.v (SV.c (SC.opq (J (2 : Nat)))), SX.v (SV.c (SC.opq (J (3 : Nat)))), SX.v (SV.c (SC.opq (J (4 : Nat)))), SX.v (SV.c (SC.lst (0 : Nat))), SX.v (SV.c (SC.val (Value.int IntKind.i64 c_1))), SX.v (SV.c (SC.opq (J (7 : Nat)))), SX.v (SV.c (SC.val (Value.int IntKind.i64 (0 : Int)))), SX.v (SV.c (SC.opq (J (9 : Nat)))), SX.v (SV.c (SC.opq (J (10 : Nat)))), SX.v (SV.c (SC.opq (J (11 : Nat)))), SX.v (SV.c (SC.opq (J (12 : Nat)))), SX.v (SV.c (SC.opq (J (13 : Nat)))), SX.v (SV.c (SC.opq (J (14 : Nat)))), SX.v (SV.c (SC.opq (J (15 : Nat)))), SX.v (SV.c (SC.opq (J (16 : Nat)))), SX.v (SV.c (SC.opq (J (17 : Nat)))), SX.v (SV.c (SC.opq (J (18 : Nat)))), SX.v (SV.c (SC.opq (J (19 : Nat)))), SX.v (SV.c (SC.opq (J (20 : Nat)))), SX.v (SV.c (SC.opq (J (21 : Nat)))), SX.v (SV.c (SC.opq (J (22 : Nat)))), SX.v (SV.c (SC.opq (J (23 : Nat)))), SX.v (SV.c (SC.opq (J (24 : Nat)))), SX.v (SV.c (SC.opq (J (25 : Nat)))), SX.v (SV.c (SC.opq (J (26 : Nat)))), SX.v (SV.c (SC.opq (J (27 : Nat)))), SX.v (SV.c (SC.opq (J (28 : Nat)))), SX.v (SV.c (SC.opq (J (29 : Nat)))), SX.v (SV.c (SC.opq (J (30 : Nat)))), SX.v (SV.c (SC.opq (J (31 : Nat)))), SX.v (SV.c (SC.opq (J (32 : Nat)))), SX.v (SV.c (SC.opq (J (33 : Nat)))), SX.v (SV.c (SC.opq (J (34 : Nat)))), SX.v (SV.c (SC.opq (J (35 : Nat)))), SX.v (SV.c (SC.opq (J (36 : Nat)))), SX.v (SV.c (SC.opq (J (37 : Nat)))), SX.v (SV.c (SC.opq (J (38 : Nat)))), SX.v (SV.c (SC.opq (J (39 : Nat)))), SX.v (SV.c (SC.opq (J (40 : Nat)))), SX.v (SV.c (SC.opq (J (41 : Nat)))), SX.v (SV.c (SC.opq (J (42 : Nat)))), SX.v (SV.c (SC.opq (J (43 : Nat)))), SX.v (SV.c (SC.opq (J (44 : Nat)))), SX.v (SV.c (SC.opq (J (45 : Nat)))), SX.v (SV.c (SC.opq (J (46 : Nat)))), SX.v (SV.c (SC.opq (J (47 : Nat)))), SX.v (SV.c (SC.opq (J (48 : Nat)))), SX.v (SV.c (SC.opq (J (49 : Nat)))), SX.v (SV.c (SC.opq (J (50 : Nat)))), SX.v (SV.c (SC.opq (J (51 : Nat)))), SX.v (SV.c (SC.opq (J (52 : Nat)))), SX.v (SV.c (SC.opq (J (53 : Nat)))), SX.v (SV.c (SC.opq (J (54 : Nat)))), SX.v (SV.c (SC.opq (J (55 : Nat)))), SX.v (SV.c (SC.opq (J (56 : Nat)))), SX.v (SV.c (SC.opq (J (57 : Nat)))), SX.v (SV.c (SC.opq (J (58 : Nat)))), SX.v (SV.c (SC.opq (J (59 : Nat)))), SX.v (SV.c (SC.opq (J (60 : Nat)))), SX.v (SV.c (SC.opq (J (61 : Nat)))), SX.v (SV.c (SC.opq (J (62 : Nat)))), SX.v (SV.c (SC.opq (J (63 : Nat)))), SX.v (SV.c (SC.opq (J (64 : Nat)))), SX.v (SV.c (SC.opq (J (65 : Nat)))), SX.v (SV.c (SC.opq (J (66 : Nat)))), SX.v (SV.c (SC.opq (J (67 : Nat)))), SX.v (SV.c (SC.opq (J (68 : Nat))))]) fun x ↦ True) ∧ ∀ (s : M8) (J : Nat → Value), LInv.pre (I8 B l As cs n c A L d R) s → bif decide (s.1 < (↑(List.length s.2) : Int)) then In s.1 (↑(List.length s.2) : Int) ∧ In (↑(Int.toNat s.1) : Int) (↑(List.length s.2) : Int) ∧ bif !stB (List.getD s.2 (Int.toNat s.1) (0 : Int)) then K (SX.v (SV.c (SC.val (Value.bool false)))) else FitE (I8 B l As cs n c A L d R) [Blk.lst (nat_lit 25) (1 : Nat) (List.length s.2) (ints s.2)] (fun J ↦ [SX.v (SV.c (SC.rsl B (28 : Nat) (rowsC l As cs) (0 : Nat) n c)), SX.v (SV.c (SC.rsl A (1 : Nat) (ints L) (0 : Nat) (List.length L) d)), SX.v (SV.c (SC.opq (J (2 : Nat)))), SX.v (SV.c (SC.opq (J (3 : Nat)))), SX.v (SV.c (SC.opq (J (4 : Nat)))), SX.v (SV.c (SC.lst (0 : Nat))), SX.v (SV.c (SC.val (Value.int IntKind.i64 s.3))), SX.v (SV.c (SC.opq (J (7 : Nat)))), SX.v (SV.c (SC.val (Value.int IntKind.i64 (IntKind.wrap IntKind.i64 (s.1 + (1 : Int)))))), SX.v (SV.c (SC.opq (J (9 : Nat)))), SX.v (SV.c (SC.opq (J (10 : Nat)))), SX.v (SV.c (SC.opq (J (11 : Nat)))), SX.v (SV.c (SC.opq (J (12 : Nat)))), SX.v (SV.c (SC.opq (J (13 : Nat)))), SX.v (SV.c (SC.opq (J (14 : Nat)))), SX.v (SV.c (SC.opq (J (15 : Nat)))), SX.v (SV.c (SC.opq (J (16 : Nat)))), SX.v (SV.c (SC.opq (J (17 : Nat)))), SX.v (SV.c (SC.opq (J (18 : Nat)))), SX.v (SV.c (SC.opq (J (19 : Nat)))), SX.v (SV.c (SC.opq (J (20 : Nat)))), SX.v (SV.c (SC.opq (J (21 : Nat)))), SX.v (SV.c (SC.opq (J (22 : Nat)))), SX.v (SV.c (SC.opq (J (23 : Nat)))), SX.v (SV.c (SC.opq (J (24 : Nat)))), SX.v (SV.c (SC.opq (J (25 : Nat)))), SX.v (SV.c (SC.opq (J (26 : Nat)))), SX.v (SV.c (SC.opq (J (27 : Nat)))), SX.v (SV.c (SC.opq (J (28 : Nat)))), SX.v (SV.c (SC.opq (J (29 : Nat)))), SX.v (SV.c (SC.opq (J (30 : Nat)))), SX.v (SV.c (SC.opq (J (31 : Nat)))), SX.v (SV.c (SC.opq (J (32 : Nat)))), SX.v (SV.c (SC.opq (J (33 : Nat)))), SX.v (SV.c (SC.opq (J (34 : Nat)))), SX.v (SV.c (SC.opq (J (35 : Nat)))), SX.v (SV.c (SC.opq (J (36 : Nat)))), SX.v (SV.c (SC.opq (J (37 : Nat)))), SX.v (SV.c (SC.opq (J (38 : Nat)))), SX.v (SV.c (SC.opq (J (39 : Nat)))), SX.v (SV.c (SC.opq (J (40 : Nat)))), SX.v (SV.c (SC.opq (J (41 : Nat)))), SX.v (SV.c (SC.opq (J (42 : Nat)))), SX.v (SV.c (SC.opq (J (43 : Nat)))), SX.v (SV.c (SC.opq (J (44 : Nat)))), SX.v (SV.c (SC.opq (J (45 : Nat)))), SX.v (SV.c (SC.opq (J (46 : Nat)))), SX.v (SV.c (SC.opq (J (47 : Nat)))), SX.v (SV.c (SC.opq (J (48 : Nat)))), SX.v (SV.c (SC.opq (J (49 : Nat)))), SX.v (SV.c (SC.opq (J (50 : Nat)))), SX.v (SV.c (SC.opq (J (51 : Nat)))), SX.v (SV.c (SC.opq (J (52 : Nat)))), SX.v (SV.c (SC.opq (J (53 : Nat)))), SX.v (SV.c (SC.opq (J (54 : Nat)))), SX.v (SV.c (SC.opq (J (55 : Nat)))), SX.v (SV.c (SC.opq (J (56 : Nat)))), SX.v (SV.c (SC.opq (J (57 : Nat)))), SX.v (SV.c (SC.opq (J (58 : Nat)))), SX.v (SV.c (SC.opq (J (59 : Nat)))), SX.v (SV.c (SC.opq (J (60 : Nat)))), SX.v (SV.c (SC.opq (J (61 : Nat)))), SX.v (SV.c (SC.opq (J (62 : Nat)))), SX.v (SV.c (SC.opq (J (63 : Nat)))), SX.v (SV.c (SC.opq (J (64 : Nat)))), SX.v (SV.c (SC.opq (J (65 : Nat)))), SX.v (SV.c (SC.opq (J (66 : Nat)))), SX.v (SV.c (SC.opq (J (67 : Nat)))), SX.v (SV.c (SC.opq (J (68 : Nat))))]) fun s' ↦ LInv.μ (I8 B l As cs n c A L d R) s' < LInv.μ (I8 B l As cs n c A L d R) s else bif (↑(List.length s.2) : Int) == (8 : Int) then bif s.3 == (↑n : Int) then Gl0 O w0 ∧ ∃ l_2 L_2, CmdsY O w0 (SX.v (SV.c (SC.rsl B (28 : Nat) (rowsC l As cs) (0 : Nat) n c))) l_2 ∧ IntsM O w0 [Blk.lst (nat_lit 25) (1 : Nat) (List.length s.2) (ints s.2)] (SX.v (SV.c (SC.rsl A (1 : Nat) (ints L) (0 : Nat) (List.length L) d))) L_2 ∧ ∀ (ys : List (Int × Int × Int)), MsIs ys l_2 L_2 → bif (↑(List.length ys) : Int) == (0 : Int) then Gl0 O w0 ∧ K (SX.v (SV.c (SC.val (Value.bool true)))) else K (SX.v (SV.c (SC.val (Value.bool false)))) else K (SX.v (SV.c (SC.val (Value.bool false)))) else K (SX.v (SV.c (SC.val (Value.bool false))))) : evFn Tryd.prog O w0 (Γ20 O w0) (Λof 8 (I8 B l As cs n c A L d R)) 100 5 8 [cmdsV B l As cs n c, sV A L d] [] (fun y _ => K y) := vc_of h_ (by kernel_rfl)
--HIDE
def R5 : M5 → Prop := fun ⟨k, ys, zs⟩ => 0 ≤ k ∧ k ≤ ys.length ∧ zs = ys ∧ ys.length ≤ 400 * 401
def R8 (l : List S33) (L : List Int) : M8 → Prop := fun ⟨k, F, e⟩ => 0 ≤ k ∧ k ≤ F.length ∧ vsB F = true ∧ e = l.length ∧ msP l L = []
theorem eq_self3 (p : Int × Int × Int) : (!(p.1 == p.1 && (p.2.1 == p.2.1 && (p.2.2 == p.2.2 && true)))) = false := by simp
set_option maxRecDepth 100000 in
theorem law5 {W : World} (hG : Gl0 (fun _ => False) W) {v0 v1 : Value} (q0 : ArgL W v0) (q1 : ArgI W v1) : Calls Tryd.prog 5 #[v0, v1] W (fun e W' => e = .returned (.bool true) ∧ Below W.heap.size W W') := by
  obtain ⟨l, B, c, As, cs, rfl, _, hcap, hX, hrows, hid⟩ := q0
  obtain ⟨L, A, d, rfl, _, hL, hr⟩ := q1
  refine law_of (Γ20_ok _ W) (f := 5) (args := [cmdsV B (fun j => l.getD j z33) As cs l.length c, sV A L d]) _ 100 5 (by decide) (f5 _ W B (fun j => l.getD j z33) As cs l.length c A L d R5 _ ?_)
  have hZ : CmdsZ (fun _ => False) W (cmdsV B (fun j => l.getD j z33) As cs l.length c) l := ⟨hX.le, ⟨hid⟩, B, c, As, cs, fun _ => rfl, hcap, hrows⟩
  refine cond_of (fun _ => ⟨hG, rfl⟩) (fun h => ?_)
  have hsz : l.length ≤ 400 := by have := of_decide_eq_false h; omega
  have hY := hZ.y hsz
  refine ⟨hG, l, L, hY, ⟨.inl hL⟩, fun ys hys => ⟨hG, l, L, hY, ⟨.inl hL⟩, fun zs hzs => ?_⟩⟩
  have e : zs = ys := hzs.eq.trans hys.eq.symm
  subst e
  have hlen : zs.length ≤ 400 * 401 := by
    rw [hys.eq]
    unfold msP
    split
    · simp
    · exact Nat.le_trans (msR_len l _ _ _ (by omega)) (Nat.mul_le_mul_right _ hsz)
  rw [bne_self_eq_false]
  refine ⟨fun _ _ => Nat.zero_le _, ⟨⟨⟨0, zs, zs⟩, ⟨Int.le_refl _, by omega, rfl, hlen⟩, ⟨⟨_, rfl, fun _ _ => rfl⟩, ⟨_, rfl, fun _ _ => rfl⟩, trivial⟩, fun _ => rfl, trivial⟩⟩, ?_⟩
  rintro ⟨k, ys, zs2⟩ J ⟨k0, k1, rfl, hle⟩
  dsimp only
  refine cond_of (fun hk => ?_) (fun hk => ⟨hG, rfl⟩)
  have hk : k < (zs2.length : Int) := of_decide_eq_true hk
  have hin : In k (zs2.length : Int) := ⟨k0, hk⟩
  have hin2 : In (k.toNat : Int) (zs2.length : Int) := ⟨by omega, by omega⟩
  rw [eq_self3, wrap_in (show -9223372036854775808 ≤ k + 1 by omega) (by omega)]
  exact ⟨hin, hin2, hin, hin2, ⟨⟨⟨k + 1, zs2, zs2⟩, ⟨by omega, by omega, rfl, hle⟩, ⟨⟨_, rfl, fun _ _ => rfl⟩, ⟨_, rfl, fun _ _ => rfl⟩, trivial⟩, fun _ => rfl, by show (_ : Int).toNat < (_ : Int).toNat; omega⟩⟩⟩
theorem vsB_at {F : List Int} (h : vsB F = true) {j : Nat} (hj : j < F.length) : stB (F.getD j 0) = true := by
  unfold vsB at h
  simp only [Bool.and_eq_true] at h
  rw [List.getD_eq_getElem?_getD, List.getElem?_eq_getElem hj]
  exact List.all_eq_true.1 h.2 _ (List.getElem_mem hj)
set_option maxRecDepth 100000 in
theorem law8 {W : World} (hG : Gl0 (fun _ => False) W) {v0 v1 : Value} (q0 : ArgL W v0) (q1 : ArgI W v1) : Calls Tryd.prog 8 #[v0, v1] W (fun e W' => e = .returned (.bool true) ∧ Below W.heap.size W W') := by
  obtain ⟨l, B, c, As, cs, rfl, _, hcap, hX, hrows, hid⟩ := q0
  obtain ⟨L, A, d, rfl, _, hL, hr⟩ := q1
  refine law_of (Γ20_ok _ W) (f := 8) (args := [cmdsV B (fun j => l.getD j z33) As cs l.length c, sV A L d]) _ 100 5 (by decide) (f8 _ W B (fun j => l.getD j z33) As cs l.length c A L d (R8 l L) _ ?_)
  have hZ : CmdsZ (fun _ => False) W (cmdsV B (fun j => l.getD j z33) As cs l.length c) l := ⟨hX.le, ⟨hid⟩, B, c, As, cs, fun _ => rfl, hcap, hrows⟩
  refine cond_of (fun _ => ⟨hG, rfl⟩) (fun h => ?_)
  have hsz : l.length ≤ 400 := by have := of_decide_eq_false h; omega
  have hY := hZ.y hsz
  refine ⟨hG, l, L, hZ, ⟨.inl hL⟩, fun F e f hck => cond_of (fun he => ?_) (fun he => ?_)⟩
  · obtain ⟨h1, h2, h3⟩ := hck.bad (by simpa using he) (valid_in l)
    subst h1
    rw [decide_eq_true (show e ≥ 0 from h2), decide_eq_true h3]
    exact ⟨hG, rfl⟩
  have he : f = 0 := by simpa using he
  subst he
  obtain ⟨hv, hc, hm⟩ := hck.sound
  refine ⟨fun _ _ => Nat.zero_le _, ⟨⟨⟨0, F, e⟩, ⟨Int.le_refl _, by omega, hv, hc, hm⟩, ⟨⟨_, rfl, fun _ _ => rfl⟩, trivial⟩, fun _ => rfl, trivial⟩⟩, ?_⟩
  rintro ⟨k, F2, e2⟩ J ⟨k0, k1, hv2, rfl, hm2⟩
  have h8 := vsB_len hv2
  dsimp only
  refine cond_of (fun hk => ?_) (fun hk => ?_)
  · have hk : k < (F2.length : Int) := of_decide_eq_true hk
    rw [vsB_at hv2 (show k.toNat < F2.length by omega), wrap_in (show -9223372036854775808 ≤ k + 1 by omega) (by omega)]
    exact ⟨⟨k0, hk⟩, ⟨by omega, by omega⟩, ⟨⟨⟨k + 1, F2, _⟩, ⟨by omega, by omega, hv2, rfl, hm2⟩, ⟨⟨_, rfl, fun _ _ => rfl⟩, trivial⟩, fun _ => rfl, by show (_ : Int).toNat < (_ : Int).toNat; omega⟩⟩⟩
  · rw [h8, beq_self_eq_true]
    refine ⟨hG, l, L, hY, ⟨.inl hL⟩, fun ys hys => ?_⟩
    have e : ys = [] := hys.eq.trans hm2
    subst e
    exact ⟨hG, rfl⟩
--SHOW
end Go.Proofs.YtomnecadhiflnaaDoor.Br
