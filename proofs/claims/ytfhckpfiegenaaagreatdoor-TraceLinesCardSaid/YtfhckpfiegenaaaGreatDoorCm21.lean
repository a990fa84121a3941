/- Splitting at one byte; Fields, of the package and of the reference. -/
import Derived.Test.YtfhckpfiegenaaaGreatDoorCm20
import Derived.Test.YtfhckpfiegenaaaGreatDoorCm12
import Derived.Lib.SplitLaws
namespace Go.Proofs.YtfhckpfiegenaaaGreatDoor.Tr
open Go Go.RowKit Go.Proofs.YtfhckpfiegenaaaGreatDoor.Eng Go.Proofs.YtfhckpfiegenaaaGreatDoor.Cm
set_option linter.unusedVariables false
set_option linter.unusedSimpArgs false
set_option maxRecDepth 8000
abbrev u8V (n : Int) : SX := .v (.c (.val (.int .u8 n)))
def spl (c : UInt8) : List UInt8 → List UInt8 → List (List UInt8)
  | cur, [] => [cur]
  | cur, b :: l => if b = c then cur :: spl c [] l else spl c (cur ++ [b]) l
def mkB (l : List UInt8) : ByteArray := ⟨l.toArray⟩
/-- The parts of a text between bytes c. -/
def splS (c : UInt8) (s : ByteArray) : List ByteArray := (spl c [] (byt s)).map mkB
structure SplIs (c : Int) (s : ByteArray) (xs : List ByteArray) : Prop where
  eq : ∃ b : UInt8, c = b.toNat ∧ xs = splS b s
structure SzT (s : ByteArray) : Prop where
  le : s.size ≤ 4294967000
structure SzM (s : ByteArray) : Prop where
  le : s.size ≤ 1000000
def listOf (xs : List ByteArray) : Blk := .lst 9 1 xs.length (strsAt xs)
def gSpl (xs : List ByteArray) : EntF := fun O w0 args M k => match args with
  | [.v (.c (.val (.string s))), .v (.c (.val (.string ⟨⟨[c]⟩⟩)))] => GlT O w0 ∧ SzT s ∧ SplIs (c.toNat : Nat) s xs ∧ k (.v (.c (.lst M.length))) (M ++ [listOf xs])
  | _ => False
def gSplR (xs : List ByteArray) : EntF := fun O w0 args M k => match args with
  | [.v (.c (.val (.string s))), .v (.c (.val (.int .u8 c)))] => SzM s ∧ SplIs c s xs ∧ k (.v (.c (.lst M.length))) (M ++ [listOf xs])
  | _ => False
structure SpS where
  i : Int
  n : Nat
  F : Nat → List SC
/-- The word that stands at a place of a list. -/
def strAt (f : Nat → List SC) (j : Nat) : ByteArray := match f j with
  | [.val (.string x)] => x
  | _ => ⟨#[]⟩
def strC (f : Nat → List SC) : Nat → List SC := fun j => [.val (.string (strAt f j))]
def I54 (s : ByteArray) (c : Int) (R : SpS → Prop) : LInv where
  σ := SpS
  pre := fun ⟨i, n, F⟩ => R ⟨i, n, F⟩
  mem := fun ⟨i, n, F⟩ => [.lst 9 1 n (strC F)]
  tmp := fun ⟨i, n, F⟩ J => [sV_ s, u8V c, jV (J 2), jV (J 3), jV (J 4), .v (.c (.lst 0)), iV i, jV (J 7), jV (J 8), jV (J 9), jV (J 10), jV (J 11), jV (J 12), jV (J 13), jV (J 14), jV (J 15), jV (J 16), jV (J 17), jV (J 18), jV (J 19), jV (J 20), jV (J 21), jV (J 22), jV (J 23), jV (J 24), jV (J 25), jV (J 26), jV (J 27), jV (J 28), jV (J 29), jV (J 30), jV (J 31), jV (J 32), jV (J 33), jV (J 34), jV (J 35), jV (J 36), jV (J 37), jV (J 38), jV (J 39)]
  read := fun _ _ => ⟨0, 0, fun _ => []⟩
  junk := [2, 3, 4, 7, 8, 9, 10, 11, 12, 13, 14, 15, 16, 17, 18, 19, 20, 21, 22, 23, 24, 25, 26, 27, 28, 29, 30, 31, 32, 33, 34, 35, 36, 37, 38, 39]
  μ := fun ⟨i, n, F⟩ => (s.size - i).toNat
  keep := some fun M ts => [.at_ (match ts.getD 5 undefX with
    | .v (.c (.lst k)) => k
    | _ => 0)]
  ex := true
  conv := [(5, 1)]
def I26 (xs : List ByteArray) (R : Int → Prop) : LInv where
  σ := PS1
  pre := fun ⟨j⟩ => R j
  mem := fun _ => [listOf xs]
  tmp := fun ⟨j⟩ J => [jV (J 0), jV (J 1), jV (J 2), jV (J 3), .v (.c (.lst 0)), jV (J 5), jV (J 6), jV (J 7), jV (J 8), jV (J 9), jV (J 10), jV (J 11), .v (.c (.lst 0)), iV xs.length, iV j, jV (J 15), jV (J 16), jV (J 17), jV (J 18), jV (J 19), jV (J 20), jV (J 21), jV (J 22), jV (J 23), jV (J 24), jV (J 25), jV (J 26), jV (J 27), jV (J 28), jV (J 29), jV (J 30), jV (J 31), jV (J 32), jV (J 33), jV (J 34), jV (J 35), jV (J 36), jV (J 37)]
  read := fun _ _ => ⟨0⟩
  junk := [0, 1, 2, 3, 5, 6, 7, 8, 9, 10, 11, 15, 16, 17, 18, 19, 20, 21, 22, 23, 24, 25, 26, 27, 28, 29, 30, 31, 32, 33, 34, 35, 36, 37]
  μ := fun ⟨j⟩ => (xs.length - j).toNat
  keep := some fun M ts => [.at_ 0]
  ex := true
def I26i (xs : List ByteArray) (j : Int) (R : Int → Prop) : LInv where
  σ := PS1
  pre := fun ⟨i⟩ => R i
  mem := fun _ => [listOf xs]
  tmp := fun ⟨i⟩ J => [jV (J 0), jV (J 1), jV (J 2), jV (J 3), .v (.c (.lst 0)), jV (J 5), sV_ (xs.getD j.toNat ⟨#[63]⟩), iV i, jV (J 8), jV (J 9), jV (J 10), jV (J 11), .v (.c (.lst 0)), iV xs.length, iV j, jV (J 15), jV (J 16), jV (J 17), jV (J 18), jV (J 19), jV (J 20), jV (J 21), jV (J 22), jV (J 23), jV (J 24), jV (J 25), jV (J 26), jV (J 27), jV (J 28), jV (J 29), jV (J 30), jV (J 31), jV (J 32), jV (J 33), jV (J 34), jV (J 35), jV (J 36), jV (J 37)]
  read := fun _ _ => ⟨0⟩
  junk := [0, 1, 2, 3, 5, 8, 9, 10, 11, 15, 16, 17, 18, 19, 20, 21, 22, 23, 24, 25, 26, 27, 28, 29, 30, 31, 32, 33, 34, 35, 36, 37]
  μ := fun ⟨i⟩ => ((xs.getD j.toNat ⟨#[63]⟩).size - i).toNat
  keep := some fun M ts => [.at_ 0]
  ex := true
def Λ26 (xs : List ByteArray) (R : Int → Prop) (Q : Int → Int → Prop) : LT := fun g j => bif Nat.beq g 26 then (bif Nat.beq j 5 then some (I26 xs R) else bif Nat.beq j 10 then some (.fam [14] fun l => match l with
  | [t] => I26i xs t (Q t)
  | _ => I26 xs R) else none) else none
def I28 (xs : List ByteArray) (R : Int → Prop) : LInv where
  σ := PS1
  pre := fun ⟨j⟩ => R j
  mem := fun _ => [listOf xs]
  tmp := fun ⟨j⟩ J => [jV (J 0), jV (J 1), jV (J 2), jV (J 3), .v (.c (.lst 0)), iV j, jV (J 6), jV (J 7), jV (J 8), jV (J 9), jV (J 10), jV (J 11), jV (J 12), jV (J 13), jV (J 14), jV (J 15), jV (J 16), jV (J 17), jV (J 18), jV (J 19), jV (J 20), jV (J 21), jV (J 22), jV (J 23), jV (J 24), jV (J 25), jV (J 26), jV (J 27), jV (J 28), jV (J 29), jV (J 30), jV (J 31), jV (J 32), jV (J 33), jV (J 34), jV (J 35), jV (J 36), jV (J 37), jV (J 38), jV (J 39), jV (J 40), jV (J 41), jV (J 42), jV (J 43), jV (J 44), jV (J 45), jV (J 46), jV (J 47)]
  read := fun _ _ => ⟨0⟩
  junk := [0, 1, 2, 3, 6, 7, 8, 9, 10, 11, 12, 13, 14, 15, 16, 17, 18, 19, 20, 21, 22, 23, 24, 25, 26, 27, 28, 29, 30, 31, 32, 33, 34, 35, 36, 37, 38, 39, 40, 41, 42, 43, 44, 45, 46, 47]
  μ := fun ⟨j⟩ => (xs.length - j).toNat
  keep := some fun M ts => [.at_ 0]
  ex := true
def I28i (xs : List ByteArray) (j : Int) (R : Int → Prop) : LInv where
  σ := PS1
  pre := fun ⟨i⟩ => R i
  mem := fun _ => [listOf xs]
  tmp := fun ⟨i⟩ J => [jV (J 0), jV (J 1), jV (J 2), jV (J 3), .v (.c (.lst 0)), iV j, iV i, jV (J 7), jV (J 8), jV (J 9), jV (J 10), jV (J 11), jV (J 12), jV (J 13), jV (J 14), jV (J 15), jV (J 16), jV (J 17), jV (J 18), jV (J 19), jV (J 20), jV (J 21), jV (J 22), jV (J 23), jV (J 24), jV (J 25), jV (J 26), jV (J 27), jV (J 28), jV (J 29), jV (J 30), jV (J 31), jV (J 32), jV (J 33), jV (J 34), jV (J 35), jV (J 36), jV (J 37), jV (J 38), jV (J 39), jV (J 40), jV (J 41), jV (J 42), jV (J 43), jV (J 44), jV (J 45), jV (J 46), jV (J 47)]
  read := fun _ _ => ⟨0⟩
  junk := [0, 1, 2, 3, 7, 8, 9, 10, 11, 12, 13, 14, 15, 16, 17, 18, 19, 20, 21, 22, 23, 24, 25, 26, 27, 28, 29, 30, 31, 32, 33, 34, 35, 36, 37, 38, 39, 40, 41, 42, 43, 44, 45, 46, 47]
  μ := fun ⟨i⟩ => ((xs.getD j.toNat ⟨#[63]⟩).size - i).toNat
  keep := some fun M ts => [.at_ 0]
  ex := true
def Λ28 (xs : List ByteArray) (R : Int → Prop) (Q : Int → Int → Prop) : LT := fun g j => bif Nat.beq g 28 then (bif Nat.beq j 5 then some (I28 xs R) else bif Nat.beq j 10 then some (.fam [5] fun l => match l with
  | [t] => I28i xs t (Q t)
  | _ => I28 xs R) else none) else none
def fldB (x : ByteArray) : Bool := decide (0 < x.size) && (List.range x.size).all fun i => decide (33 ≤ bAt x (i : Nat)) && decide (bAt x (i : Nat) ≤ 126)
/-- The fields of a line, or the error. -/
def fldS (s : ByteArray) : List ByteArray × Int := if s.size = 0 then ([], 0) else if (splS 32 s).all fldB = true then (splS 32 s, 0) else ([], 3)
structure FldIs (s : ByteArray) (xs : List ByteArray) (e : Int) : Prop where
  xs : xs = (fldS s).1
  e : e = (fldS s).2
def gFld : EntF := fun O w0 args M k => match args with
  | [.v (.c (.val (.string s)))] => GlT O w0 ∧ SzM s ∧ ∀ xs e, FldIs s xs e → ∀ A c, k (.tup [.c (.rsl A 1 (strsAt xs) 0 xs.length c), .c (.val (.int .i64 e))]) (M ++ [.fz (RowsF A 1 xs.length (strsAt xs))])
  | _ => False
/-- .. a list of the caller's own. -/
def gFldL : EntF := fun O w0 args M k => match args with
  | [.v (.c (.val (.string s)))] => GlT O w0 ∧ SzM s ∧ ∀ xs e, FldIs s xs e → k (.tup [.c (.lst M.length), .c (.val (.int .i64 e))]) (M ++ [listOf xs])
  | _ => False
def ΓS (xs : List ByteArray) : TabF := addF (addF Γz 53 (gSpl xs)) 54 (gSplR xs)
set_option maxHeartbeats 4000000 in
set_option maxRecDepth 100000 in
theorem f54 (O : Nat → Prop) (w0 : World) (s : ByteArray) (c : Int) (R : SpS → Prop) (K : SX → List Blk → Prop) (h_ : (∀ (s_1 : SpS), LInv.pre (I54 s c R) s_1 → Nat.le (0 : Nat) (List.length (LInv.mem (I54 s c R) s_1))) ∧ (FitE (I54 s c R) [Blk.lst 9 1 1 fun j ↦ Option.rec ((fun _ ↦ []) ()) (fun val ↦ (fun val ↦ (fun x ↦ x) val) val) (chunks (1 : Nat) (1 : Nat) [SC.val (Value.string (ByteArray.mk #[]))])[j]?] (fun J ↦ [SX.v (SV.c (SC.val (Value.string s))), SX.v (SV.c (SC.val (Value.int IntKind.u8 c))), jV (J 2), jV (J 3), jV (J 4), SX.v (SV.c (SC.lst 0)), SX.v (SV.c (SC.val (Value.int IntKind.i64 0))), jV (J 7), jV (J 8), jV (J 9), jV (J 10), jV (J 11), jV (J 12), jV (J 13), jV (J 14), jV (J 15), jV (J 16), jV (J 17), jV (J 18), jV (J 19), jV (J 20), jV (J 21), jV (J 22), jV (J 23), jV (J 24), jV (J 25), jV (J 26), jV (J 27), jV (J 28), jV (J 29), jV (J 30), jV (J 31), jV (J 32), jV (J 33), jV (J 34), jV (J 35), jV (J 36), jV (J 37), jV (J 38), jV (J 39)]) fun x ↦ True) ∧ ∀ (s_1 : SpS) (J : Nat → Value), LInv.pre (I54 s c R) s_1 → bif decide (s_1.1 < (↑(ByteArray.size s) : Int)) then In s_1.1 (↑(ByteArray.size s) : Int) ∧ bif bAt s s_1.1 == c then Room (s_1.2 + (1 : Nat)) (16 : Nat) ∧ FitE (I54 s c R) [Blk.lst 9 1 (s_1.2 + (1 : Nat)) fun j ↦ bif Nat.blt j s_1.2 then [SC.val (Value.string (strAt s_1.3 j))] else [SC.val (Value.string (ByteArray.mk #[]))]] (fun J ↦ [SX.v (SV.c (SC.val (Value.string s))), SX.v (SV.c (SC.val (Value.int IntKind.u8 c))), jV (J 2), jV (J 3), jV (J 4), SX.v (SV.c (SC.lst 0)), SX.v (SV.c (SC.val (Value.int IntKind.i64 (IntKind.wrap IntKind.i64 (s_1.1 + (1 : Int)))))), jV (J 7), jV (J 8), jV (J 9), jV (J 10), jV (J 11), jV (J 12), jV (J 13), jV (J 14), jV (J 15), jV (J 16), jV (J 17), jV (J 18), jV (J 19), jV (J 20), jV (J 21), jV (J 22), jV (J 23), jV (J 24), jV (J 25), jV (J 26), jV (J 27), jV (J 28), jV (J 29), jV (J 30), jV (J 31), jV (J 32), jV (J 33), jV (J 34), jV (J 35), jV (J 36), jV (J 37), jV (J 38), jV (J 39)]) fun s' ↦ LInv.μ (I54 s c R) s' < LInv.μ (I54 s c R) s_1 else ((In (IntKind.wrap IntKind.i64 ((↑s_1.2 : Int) - (1 : Int))) (↑s_1.2 : Int) ∧ (In (↑(Int.toNat (IntKind.wrap IntKind.i64 ((↑s_1.2 : Int) - (1 : Int)))) : Int) (↑s_1.2 : Int) ∧ Cut (Option.getD (some s_1.1) (0 : Int)) (Option.getD (some (IntKind.wrap IntKind.i64 (s_1.1 + (1 : Int)))) (↑(ByteArray.size s) : Int)) (↑(ByteArray.size s) : Int) ∧ Cat (ByteArray.size (strAt s_1.3 (Int.toNat (IntKind.wrap IntKind.i64 ((↑s_1.2 : Int) - (1 : Int)))))) (ByteArray.size (ByteArray.extract s (match some s_1.1 with | some l => Int.toNat l | none => (0 : Nat)) (match some (IntKind.wrap IntKind.i64 (s_1.1 + (1 : Int))) with | some h => Int.toNat h | none => ByteArray.size s))) ∧ In (IntKind.wrap IntKind.i64 ((↑s_1.2 : Int) - (1 : Int))) (↑s_1.2 : Int) ∧ In (↑(Int.toNat (IntKind.wrap IntKind.i64 ((↑s_1.2 : Int) - (1 : Int)))) : Int) (↑s_1.2 : Int) ∧ FitE (I54 s c R) [Blk.lst (nat_lit 9) (1 : Nat) s_1.2 fun j' ↦ bif Nat.beq j' (Int.toNat (IntKind.wrap IntKind.i64 ((↑s_1.2 : Int) - (1 : Int)))) then [SC.val (Value.string (strAt s_1.3 (Int.toNat (IntKind.wrap IntKind.i64 ((↑s_1.2 : Int) - (1 : Int)))) ++ ByteArray.extract s (match some s_1.1 with | some l => Int.toNat l | none => (0 : Nat)) (match some (IntKind.wrap IntKind.i64 (s_1.1 + (1 : Int))) with | some h => Int.toNat h | none => ByteArray.size s)))] else [SC.val (Value.string (strAt s_1.3 j'))]] (fun J ↦ [SX.v (SV.c (SC.val (Value.string s))), SX.v (SV.c (SC.val (Value.int IntKind.u8 c))), jV (J 2), jV (J 3), jV (J 4), SX.v (SV.c (SC.lst 0)), SX.v (SV.c (SC.val (Value.int IntKind.i64 (IntKind.wrap IntKind.i64 (s_1.1 + (1 : Int)))))), jV (J 7), jV (J 8), jV (J 9), jV (J 10), jV (J 11), jV (J 12), jV (J 13), jV (J 14), jV (J 15), jV (J 16), jV (J 17), jV (J 18), jV (J 19), jV (J 20), jV (J 21), jV (J 22), jV (J 23), jV (J 24), jV (J 25), jV (J 26), jV (J 27), jV (J 28), jV (J 29), jV (J 30), jV (J 31), jV (J 32), jV (J 33), jV (J 34), jV (J 35), jV (J 36), jV (J 37), jV (J 38), jV (J 39)]) fun s' ↦ LInv.μ (I54 s c R) s' < LInv.μ (I54 s c R) s_1) ∧ (Cut (Option.getD (some s_1.1) (0 : Int)) (Option.getD (some (IntKind.wrap IntKind.i64 (s_1.1 + (1 : Int)))) (↑(ByteArray.size s) : Int)) (↑(ByteArray.size s) : Int) ∧ In (↑(Int.toNat (IntKind.wrap IntKind.i64 ((↑s_1.2 : Int) - (1 : Int)))) : Int) (↑s_1.2 : Int) ∧ Cat (ByteArray.size (strAt s_1.3 (Int.toNat (IntKind.wrap IntKind.i64 ((↑s_1.2 : Int) - (1 : Int)))))) (ByteArray.size (ByteArray.extract s (match some s_1.1 with | some l => Int.toNat l | none => (0 : Nat)) (match some (IntKind.wrap IntKind.i64 (s_1.1 + (1 : Int))) with | some h => Int.toNat h | none => ByteArray.size s))) ∧ In (IntKind.wrap IntKind.i64 ((↑s_1.2 : Int) - (1 : Int))) (↑s_1.2 : Int) ∧ In (↑(Int.toNat (IntKind.wrap IntKind.i64 ((↑s_1.2 : Int) - (1 : Int)))) : Int) (↑s_1.2 : Int) ∧ FitE (I54 s c R) [Blk.lst (nat_lit 9) (1 : Nat) s_1.2 fun j' ↦ bif Nat.beq j' (Int.toNat (IntKind.wrap IntKind.i64 ((↑s_1.2 : Int) - (1 : Int)))) then [SC.val (Value.string (strAt s_1.3 (Int.toNat (IntKind.wrap IntKind.i64 ((↑s_1.2 : Int) - (1 : Int)))) ++ ByteArray.extract s (match some s_1.1 with | some l => Int.toNat l | none => (0 : Nat)) (match some (IntKind.wrap IntKind.i64 (s_1.1 + (1 : Int))) with | some h => Int.toNat h | none => ByteArray.size s)))] else [SC.val (Value.string (strAt s_1.3 j'))]] (fun J ↦ [SX.v (SV.c (SC.val (Value.string s))), SX.v (SV.c (SC.val (Value.int IntKind.u8 c))), jV (J 2), jV (J 3), jV (J 4), SX.v (SV.c (SC.lst 0)), SX.v (SV.c (SC.val (Value.int IntKind.i64 (IntKind.wrap IntKind.i64 (s_1.1 + (1 : Int)))))), jV (J 7), jV (J 8), jV (J 9), jV (J 10), jV (J 11), jV (J 12), jV (J 13), jV (J 14), jV (J 15), jV (J 16), jV (J 17), jV (J 18), jV (J 19), jV (J 20), jV (J 21), jV (J 22), jV (J 23), jV (J 24), jV (J 25), jV (J 26), jV (J 27), jV (J 28), jV (J 29), jV (J 30), jV (J 31), jV (J 32), jV (J 33), jV (J 34), jV (J 35), jV (J 36), jV (J 37), jV (J 38), jV (J 39)]) fun s' ↦ LInv.μ (I54 s c R) s' < LInv.μ (I54 s c R) s_1) ∧ True) ∧ (Cut (Option.getD (some s_1.1) (0 : Int)) (Option.getD (some (IntKind.wrap IntKind.i64 (s_1.1 + (1 : Int)))) (↑(ByteArray.size s) : Int)) (↑(ByteArray.size s) : Int) ∧ In (IntKind.wrap IntKind.i64 ((↑s_1.2 : Int) - (1 : Int))) (↑s_1.2 : Int) ∧ In (↑(Int.toNat (IntKind.wrap IntKind.i64 ((↑s_1.2 : Int) - (1 : Int)))) : Int) (↑s_1.2 : Int) ∧ Cat (ByteArray.size (strAt s_1.3 (Int.toNat (IntKind.wrap IntKind.i64 ((↑s_1.2 : Int) - (1 : Int)))))) (ByteArray.size (ByteArray.extract s (match some s_1.1 with | some l => Int.toNat l | none => (0 : Nat)) (match some (IntKind.wrap IntKind.i64 (s_1.1 + (1 : Int))) with | some h => Int.toNat h | none => ByteArray.size s))) ∧ In (IntKind.wrap IntKind.i64 ((↑s_1.2 : Int) - (1 : Int))) (↑s_1.2 : Int) ∧ In (↑(Int.toNat (IntKind.wrap IntKind.i64 ((↑s_1.2 : Int) - (1 : Int)))) : Int) (↑s_1.2 : Int) ∧ FitE (I54 s c R) [Blk.lst (nat_lit 9) (1 : Nat) s_1.2 fun j' ↦ bif Nat.beq j' (Int.toNat (IntKind.wrap IntKind.i64 ((↑s_1.2 : Int) - (1 : Int)))) then [SC.val (Value.string (strAt s_1.3 (Int.toNat (IntKind.wrap IntKind.i64 ((↑s_1.2 : Int) - (1 : Int)))) ++ ByteArray.extract s (match some s_1.1 with | some l => Int.toNat l | none => (0 : Nat)) (match some (IntKind.wrap IntKind.i64 (s_1.1 + (1 : Int))) with | some h => Int.toNat h | none => ByteArray.size s)))] else [SC.val (Value.string (strAt s_1.3 j'))]] (fun J ↦ [SX.v (SV.c (SC.val (Value.string s))), SX.v (SV.c (SC.val (Value.int IntKind.u8 c))), jV (J 2), jV (J 3), jV (J 4), SX.v (SV.c (SC.lst 0)), SX.v (SV.c (SC.val (Value.int IntKind.i64 (IntKind.wrap IntKind.i64 (s_1.1 + (1 : Int)))))), jV (J 7), jV (J 8), jV (J 9), jV (J 10), jV (J 11), jV (J 12), jV (J 13), jV (J 14), jV (J 15), jV (J 16), jV (J 17), jV (J 18), jV (J 19), jV (J 20), jV (J 21), jV (J 22), jV (J 23), jV (J 24), jV (J 25), jV (J 26), jV (J 27), jV (J 28), jV (J 29), jV (J 30), jV (J 31), jV (J 32), jV (J 33), jV (J 34), jV (J 35), jV (J 36), jV (J 37), jV (J 38), jV (J 39)]) fun s' ↦ LInv.μ (I54 s c R) s' < LInv.μ (I54 s c R) s_1) ∧ True) ∧ (In (IntKind.wrap IntKind.i64 ((↑s_1.2 : Int) - (1 : Int))) (↑s_1.2 : Int) ∧ ((In (↑(Int.toNat (IntKind.wrap IntKind.i64 ((↑s_1.2 : Int) - (1 : Int)))) : Int) (↑s_1.2 : Int) ∧ Cut (Option.getD (some s_1.1) (0 : Int)) (Option.getD (some (IntKind.wrap IntKind.i64 (s_1.1 + (1 : Int)))) (↑(ByteArray.size s) : Int)) (↑(ByteArray.size s) : Int) ∧ Cat (ByteArray.size (strAt s_1.3 (Int.toNat (IntKind.wrap IntKind.i64 ((↑s_1.2 : Int) - (1 : Int)))))) (ByteArray.size (ByteArray.extract s (match some s_1.1 with | some l => Int.toNat l | none => (0 : Nat)) (match some (IntKind.wrap IntKind.i64 (s_1.1 + (1 : Int))) with | some h => Int.toNat h | none => ByteArray.size s))) ∧ In (IntKind.wrap IntKind.i64 ((↑s_1.2 : Int) - (1 : Int))) (↑s_1.2 : Int) ∧ In (↑(Int.toNat (IntKind.wrap IntKind.i64 ((↑s_1.2 : Int) - (1 : Int)))) : Int) (↑s_1.2 : Int) ∧ FitE (I54 s c R) [Blk.lst (nat_lit 9) (1 : Nat) s_1.2 fun j' ↦ bif Nat.beq j' (Int.toNat (IntKind.wrap IntKind.i64 ((↑s_1.2 : Int) - (1 : Int)))) then [SC.val (Value.string (strAt s_1.3 (Int.toNat (IntKind.wrap IntKind.i64 ((↑s_1.2 : Int) - (1 : Int)))) ++ ByteArray.extract s (match some s_1.1 with | some l => Int.toNat l | none => (0 : Nat)) (match some (IntKind.wrap IntKind.i64 (s_1.1 + (1 : Int))) with | some h => Int.toNat h | none => ByteArray.size s)))] else [SC.val (Value.string (strAt s_1.3 j'))]] (fun J ↦ [SX.v (SV.c (SC.val (Value.string s))), SX.v (SV.c (SC.val (Value.int IntKind.u8 c))), jV (J 2), jV (J 3), jV (J 4), SX.v (SV.c (SC.lst 0)), SX.v (SV.c (SC.val (Value.int IntKind.i64 (IntKind.wrap IntKind.i64 (s_1.1 + (1 : Int)))))), jV (J 7), jV (J 8), jV (J 9), jV (J 10), jV (J 11), jV (J 12), jV (J 13), jV (J 14), jV (J 15), jV (J 16), jV (J 17), jV (J 18), jV (J 19), jV (J 20), jV (J 21), jV (J 22), jV (J 23), jV (J 24), jV (J 25), jV (J 26), jV (J 27), jV (J 28), jV (J 29), jV (J 30), jV (J 31), jV (J 32), jV (J 33), jV (J 34), jV (J 35), jV (J 36), jV (J 37), jV (J 38), jV (J 39)]) fun s' ↦ LInv.μ (I54 s c R) s' < LInv.μ (I54 s c R) s_1) ∧ (Cut (Option.getD (some s_1.1) (0 : Int)) (Option.getD (some (IntKind.wrap IntKind.i64 (s_1.1 + (1 : Int)))) (↑(ByteArray.size s) : Int)) (↑(ByteArray.size s) : Int) ∧ In (↑(Int.toNat (IntKind.wrap IntKind.i64 ((↑s_1.2 : Int) - (1 : Int)))) : Int) (↑s_1.2 : Int) ∧ Cat (ByteArray.size (strAt s_1.3 (Int.toNat (IntKind.wrap IntKind.i64 ((↑s_1.2 : Int) - (1 : Int)))))) (ByteArray.size (ByteArray.extract s (match some s_1.1 with | some l => Int.toNat l | none => (0 : Nat)) (match some (IntKind.wrap IntKind.i64 (s_1.1 + (1 : Int))) with | some h => Int.toNat h | none => ByteArray.size s))) ∧ In (IntKind.wrap IntKind.i64 ((↑s_1.2 : Int) - (1 : Int))) (↑s_1.2 : Int) ∧ In (↑(Int.toNat (IntKind.wrap IntKind.i64 ((↑s_1.2 : Int) - (1 : Int)))) : Int) (↑s_1.2 : Int) ∧ FitE (I54 s c R) [Blk.lst (nat_lit 9) (1 : Nat) s_1.2 fun j' ↦ bif Nat.beq j' (Int.toNat (IntKind.wrap IntKind.i64 ((↑s_1.2 : Int) - (1 : Int)))) then [SC.val (Value.string (strAt s_1.3 (Int.toNat (IntKind.wrap IntKind.i64 ((↑s_1.2 : Int) - (1 : Int)))) ++ ByteArray.extract s (match some s_1.1 with | some l => Int.toNat l | none => (0 : Nat)) (match some (IntKind.wrap IntKind.i64 (s_1.1 + (1 : Int))) with | some h => Int.toNat h | none => ByteArray.size s)))] else [SC.val (Value.string (strAt s_1.3 j'))]] (fun J ↦ [SX.v (SV.c (SC.val (Value.string s))), SX.v (SV.c (SC.val (Value.int IntKind.u8 c))), jV (J 2), jV (J 3), jV (J 4), SX.v (SV.c (SC.lst 0)), SX.v (SV.c (SC.val (Value.int IntKind.i64 (IntKind.wrap IntKind.i64 (s_1.1 + (1 : Int)))))), jV (J 7), jV (J 8), jV (J 9), jV (J 10), jV (J 11), jV (J 12), jV (J 13), jV (J 14), jV (J 15), jV (J 16), jV (J 17), jV (J 18), jV (J 19), jV (J 20), jV (J 21), jV (J 22), jV (J 23), jV (J 24), jV (J 25), jV (J 26), jV (J 27), jV (J 28), jV (J 29), jV (J 30), jV (J 31), jV (J 32), jV (J 33), jV (J 34), jV (J 35), jV (J 36), jV (J 37), jV (J 38), jV (J 39)]) fun s' ↦ LInv.μ (I54 s c R) s' < LInv.μ (I54 s c R) s_1) ∧ True) ∧ (In (↑(Int.toNat (IntKind.wrap IntKind.i64 ((↑s_1.2 : Int) - (1 : Int)))) : Int) (↑s_1.2 : Int) ∧ (Cut (Option.getD (some s_1.1) (0 : Int)) (Option.getD (some (IntKind.wrap IntKind.i64 (s_1.1 + (1 : Int)))) (↑(ByteArray.size s) : Int)) (↑(ByteArray.size s) : Int) ∧ Cat (ByteArray.size (strAt s_1.3 (Int.toNat (IntKind.wrap IntKind.i64 ((↑s_1.2 : Int) - (1 : Int)))))) (ByteArray.size (ByteArray.extract s (match some s_1.1 with | some l => Int.toNat l | none => (0 : Nat)) (match some (IntKind.wrap IntKind.i64 (s_1.1 + (1 : Int))) with | some h => Int.toNat h | none => ByteArray.size s))) ∧ In (IntKind.wrap IntKind.i64 ((↑s_1.2 : Int) - (1 : Int))) (↑s_1.2 : Int) ∧ In (↑(Int.toNat (IntKind.wrap IntKind.i64 ((↑s_1.2 : Int) - (1 : Int)))) : Int) (↑s_1.2 : Int) ∧ FitE (I54 s c R) [Blk.lst (nat_lit 9) (1 : Nat) s_1.2 fun j' ↦ bif Nat.beq j' (Int.toNat (IntKind.wrap IntKind.i64 ((↑s_1.2 : Int) - (1 : Int)))) then [SC.val (Value.string (strAt s_1.3 (Int.toNat (IntKind.wrap IntKind.i64 ((↑s_1.2 : Int) - (1 : Int)))) ++ ByteArray.extract s (match some s_1.1 with | some l => Int.toNat l | none => (0 : Nat)) (match some (IntKind.wrap IntKind.i64 (s_1.1 + (1 : Int))) with | some h => Int.toNat h | none => ByteArray.size s)))] else [SC.val (Value.string (strAt s_1.3 j'))]] (fun J ↦ [SX.v (SV.c (SC.val (Value.string s))), SX.v (SV.c (SC.val (Value.int IntKind.u8 c))), jV (J 2), jV (J 3), jV (J 4), SX.v (SV.c (SC.lst 0)), SX.v (SV.c (SC.val (Value.int IntKind.i64 (IntKind.wrap IntKind.i64 (s_1.1 + (1 : Int)))))), jV (J 7), jV (J 8), jV (J 9), jV (J 10), jV (J 11), jV (J 12), jV (J 13), jV (J 14), jV (J 15), jV (J 16), jV (J 17), jV (J 18), jV (J 19), jV (J 20), jV (J 21), jV (J 22), jV (J 23), jV (J 24), jV (J 25), jV (J 26), jV (J 27), jV (J 28), jV (J 29), jV (J 30), jV (J 31), jV (J 32), jV (J 33), jV (J 34), jV (J 35), jV (J 36), jV (J 37), jV (J 38), jV (J 39)]) fun s' ↦ LInv.μ (I54 s c R) s' < LInv.μ (I54 s c R) s_1) ∧ (Cut (Option.getD (some s_1.1) (0 : Int)) (Option.getD (some (IntKind.wrap IntKind.i64 (s_1.1 + (1 : Int)))) (↑(ByteArray.size s) : Int)) (↑(ByteArray.size s) : Int) ∧ Cat (ByteArray.size (strAt s_1.3 (Int.toNat (IntKind.wrap IntKind.i64 ((↑s_1.2 : Int) - (1 : Int)))))) (ByteArray.size (ByteArray.extract s (match some s_1.1 with | some l => Int.toNat l | none => (0 : Nat)) (match some (IntKind.wrap IntKind.i64 (s_1.1 + (1 : Int))) with | some h => Int.toNat h | none => ByteArray.size s))) ∧ In (IntKind.wrap IntKind.i64 ((↑s_1.2 : Int) - (1 : Int))) (↑s_1.2 : Int) ∧ In (↑(Int.toNat (IntKind.wrap IntKind.i64 ((↑s_1.2 : Int) - (1 : Int)))) : Int) (↑s_1.2 : Int) ∧ FitE (I54 s c R) [Blk.lst (nat_lit 9) (1 : Nat) s_1.2 fun j' ↦ bif Nat.beq j' (Int.toNat (IntKind.wrap IntKind.i64 ((↑s_1.2 : Int) - (1 : Int)))) then [SC.val (Value.string (strAt s_1.3 (Int.toNat (IntKind.wrap IntKind.i64 ((↑s_1.2 : Int) - (1 : Int)))) ++ ByteArray.extract s (match some s_1.1 with | some l => Int.toNat l | none => (0 : Nat)) (match some (IntKind.wrap IntKind.i64 (s_1.1 + (1 : Int))) with | some h => Int.toNat h | none => ByteArray.size s)))] else [SC.val (Value.string (strAt s_1.3 j'))]] (fun J ↦ [SX.v (SV.c (SC.val (Value.string s))), SX.v (SV.c (SC.val (Value.int IntKind.u8 c))), jV (J 2), jV (J 3), jV (J 4), SX.v (SV.c (SC.lst 0)), SX.v (SV.c (SC.val (Value.int IntKind.i64 (IntKind.wrap IntKind.i64 (s_1.1 + (1 : Int)))))), jV (J 7), jV (J 8), jV (J 9), jV (J 10), jV (J 11), jV (J 12), jV (J 13), jV (J 14), jV (J 15), jV (J 16), jV (J 17), jV (J 18), jV (J 19), jV (J 20), jV (J 21), jV (J 22), jV (J 23), jV (J 24), jV (J 25), jV (J 26), jV (J 27), jV (J 28), jV (J 29), jV (J 30), jV (J 31), jV (J 32), jV (J 33), jV (J 34), jV (J 35), jV (J 36), jV (J 37), jV (J 38), jV (J 39)]) fun s' ↦ LInv.μ (I54 s c R) s' < LInv.μ (I54 s c R) s_1) ∧ True) ∧ (Cut (Option.getD (some s_1.1) (0 : Int)) (Option.getD (some (IntKind.wrap IntKind.i64 (s_1.1 + (1 : Int)))) (↑(ByteArray.size s) : Int)) (↑(ByteArray.size s) : Int) ∧ (In (↑(Int.toNat (IntKind.wrap IntKind.i64 ((↑s_1.2 : Int) - (1 : Int)))) : Int) (↑s_1.2 : Int) ∧ Cat (ByteArray.size (strAt s_1.3 (Int.toNat (IntKind.wrap IntKind.i64 ((↑s_1.2 : Int) - (1 : Int)))))) (ByteArray.size (ByteArray.extract s (match some s_1.1 with | some l => Int.toNat l | none => (0 : Nat)) (match some (IntKind.wrap IntKind.i64 (s_1.1 + (1 : Int))) with | some h => Int.toNat h | none => ByteArray.size s))) ∧ In (IntKind.wrap IntKind.i64 ((↑s_1.2 : Int) - (1 : Int))) (↑s_1.2 : Int) ∧ In (↑(Int.toNat (IntKind.wrap IntKind.i64 ((↑s_1.2 : Int) - (1 : Int)))) : Int) (↑s_1.2 : Int) ∧ FitE (I54 s c R) [Blk.lst (nat_lit 9) (1 : Nat) s_1.2 fun j' ↦ bif Nat.beq j' (Int.toNat (IntKind.wrap IntKind.i64 ((↑s_1.2 : Int) - (1 : Int)))) then [SC.val (Value.string (strAt s_1.3 (Int.toNat (IntKind.wrap IntKind.i64 ((↑s_1.2 : Int) - (1 : Int)))) ++ ByteArray.extract s (match some s_1.1 with | some l => Int.toNat l | none => (0 : Nat)) (match some (IntKind.wrap IntKind.i64 (s_1.1 + (1 : Int))) with | some h => Int.toNat h | none => ByteArray.size s)))] else [SC.val (Value.string (strAt s_1.3 j'))]] (fun J ↦ [SX.v (SV.c (SC.val (Value.string s))), SX.v (SV.c (SC.val (Value.int IntKind.u8 c))), jV (J 2), jV (J 3), jV (J 4), SX.v (SV.c (SC.lst 0)), SX.v (SV.c (SC.val (Value.int IntKind.i64 (IntKind.wrap IntKind.i64 (s_1.1 + (1 : Int)))))), jV (J 7), jV (J 8), jV (J 9), jV (J 10), jV (J 11), jV (J 12), jV (J 13), jV (J 14), jV (J 15), jV (J 16), jV (J 17), jV (J 18), jV (J 19), jV (J 20), jV (J 21), jV (J 22), jV (J 23), jV (J 24), jV (J 25), jV (J 26), jV (J 27), jV (J 28), jV (J 29), jV (J 30), jV (J 31), jV (J 32), jV (J 33), jV (J 34), jV (J 35), jV (J 36), jV (J 37), jV (J 38), jV (J 39)]) fun s' ↦ LInv.μ (I54 s c R) s' < LInv.μ (I54 s c R) s_1) ∧ (In (↑(Int.toNat (IntKind.wrap IntKind.i64 ((↑s_1.2 : Int) - (1 : Int)))) : Int) (↑s_1.2 : Int) ∧ Cat (ByteArray.size (strAt s_1.3 (Int.toNat (IntKind.wrap IntKind.i64 ((↑s_1.2 : Int) - (1 : Int)))))) (ByteArray.size (ByteArray.extract s (match some s_1.1 with | some l => Int.toNat l | none => (0 : Nat)) (match some (IntKind.wrap IntKind.i64 (s_1.1 + (1 : Int))) with | some h => Int.toNat h | none => ByteArray.size s))) ∧ In (IntKind.wrap IntKind.i64 ((↑s_1.2 : Int) - (1 : Int))) (↑s_1.2 : Int) ∧ In (↑(Int.toNat (IntKind.wrap IntKind.i64 ((↑s_1.2 : Int) - (1 : Int)))) : Int) (↑s_1.2 : Int) ∧ FitE (I54 s c R) [Blk.lst (nat_lit 9) (1 : Nat) s_1.2 fun j' ↦ bif Nat.beq j' (Int.toNat (IntKind.wrap IntKind.i64 ((↑s_1.2 : Int) - (1 : Int)))) then [SC.val (Value.string (strAt s_1.3 (Int.toNat (IntKind.wrap IntKind.i64 ((↑s_1.2 : Int) - (1 : Int)))) ++ ByteArray.extract s (match some s_1.1 with | some l => Int.toNat l | none => (0 : Nat)) (match some (IntKind.wrap IntKind.i64 (s_1.1 + (1 : Int))) with | some h => Int.toNat h | none => ByteArray.size s)))] else [SC.val (Value.string (strAt s_1.3 j'))]] (fun J ↦ [SX.v (SV.c (SC.val (Value.string s))), SX.v (SV.c (SC.val (Value.int IntKind.u8 c))), jV (J 2), jV (J 3), jV (J 4), SX.v (SV.c (SC.lst 0)), SX.v (SV.c (SC.val (Value.int IntKind.i64 (IntKind.wrap IntKind.i64 (s_1.1 + (1 : Int)))))), jV (J 7), jV (J 8), jV (J 9), jV (J 10), jV (J 11), jV (J 12), jV (J 13), jV (J 14), jV (J 15), jV (J 16), jV (J 17), jV (J 18), jV (J 19), jV (J 20), jV (J 21), jV (J 22), jV (J 23), jV (J 24), jV (J 25), jV (J 26), jV (J 27), jV (J 28), jV (J 29), jV (J 30), jV (J 31), jV (J 32), jV (J 33), jV (J 34), jV (J 35), jV (J 36), jV (J 37), jV (J 38), jV (J 39)]) fun s' ↦ LInv.μ (I54 s c R) s' < LInv.μ (I54 s c R) s_1) ∧ True) ∧ True) ∧ (Cut (Option.getD (some s_1.1) (0 : Int)) (Option.getD (some (IntKind.wrap IntKind.i64 (s_1.1 + (1 : Int)))) (↑(ByteArray.size s) : Int)) (↑(ByteArray.size s) : Int) ∧ (In (IntKind.wrap IntKind.i64 ((↑s_1.2 : Int) - (1 : Int))) (↑s_1.2 : Int) ∧ In (↑(Int.toNat (IntKind.wrap IntKind.i64 ((↑s_1.2 : Int) - (1 : Int)))) : Int) (↑s_1.2 : Int) ∧ Cat (ByteArray.size (strAt s_1.3 (Int.toNat (IntKind.wrap IntKind.i64 ((↑s_1.2 : Int) - (1 : Int)))))) (ByteArray.size (ByteArray.extract s (match some s_1.1 with | some l => Int.toNat l | none => (0 : Nat)) (match some (IntKind.wrap IntKind.i64 (s_1.1 + (1 : Int))) with | some h => Int.toNat h | none => ByteArray.size s))) ∧ In (IntKind.wrap IntKind.i64 ((↑s_1.2 : Int) - (1 : Int))) (↑s_1.2 : Int) ∧ In (↑(Int.toNat (IntKind.wrap IntKind.i64 ((↑s_1.2 : Int) - (1 : Int)))) : Int) (↑s_1.2 : Int) ∧ FitE (I54 s c R) [Blk.lst (nat_lit 9) (1 : Nat) s_1.2 fun j' ↦ bif Nat.beq j' (Int.toNat (IntKind.wrap IntKind.i64 ((↑s_1.2 : Int) - (1 : Int)))) then [SC.val (Value.string (strAt s_1.3 (Int.toNat (IntKind.wrap IntKind.i64 ((↑s_1.2 : Int) - (1 : Int)))) ++ ByteArray.extract s (match some s_1.1 with | some l => Int.toNat l | none => (0 : Nat)) (match some (IntKind.wrap IntKind.i64 (s_1.1 + (1 : Int))) with | some h => Int.toNat h | none => ByteArray.size s)))] else [SC.val (Value.string (strAt s_1.3 j'))]] (fun J ↦ [SX.v (SV.c (SC.val (Value.string s))), SX.v (SV.c (SC.val (Value.int IntKind.u8 c))), jV (J 2), jV (J 3), jV (J 4), SX.v (SV.c (SC.lst 0)), SX.v (SV.c (SC.val (Value.int IntKind.i64 (IntKind.wrap IntKind.i64 (s_1.1 + (1 : Int)))))), jV (J 7), jV (J 8), jV (J 9), jV (J 10), jV (J 11), jV (J 12), jV (J 13), jV (J 14), jV (J 15), jV (J 16), jV (J 17), jV (J 18), jV (J 19), jV (J 20), jV (J 21), jV (J 22), jV (J 23), jV (J 24), jV (J 25), jV (J 26), jV (J 27), jV (J 28), jV (J 29), jV (J 30), jV (J 31), jV (J 32), jV (J 33), jV (J 34), jV (J 35), jV (J 36), jV (J 37), jV (J 38), jV (J 39)]) fun s' ↦ LInv.μ (I54 s c R) s' < LInv.μ (I54 s c R) s_1) ∧ (In (IntKind.wrap IntKind.i64 ((↑s_1.2 : Int) - (1 : Int))) (↑s_1.2 : Int) ∧ (In (↑(Int.toNat (IntKind.wrap IntKind.i64 ((↑s_1.2 : Int) - (1 : Int)))) : Int) (↑s_1.2 : Int) ∧ Cat (ByteArray.size (strAt s_1.3 (Int.toNat (IntKind.wrap IntKind.i64 ((↑s_1.2 : Int) - (1 : Int)))))) (ByteArray.size (ByteArray.extract s (match some s_1.1 with | some l => Int.toNat l | none => (0 : Nat)) (match some (IntKind.wrap IntKind.i64 (s_1.1 + (1 : Int))) with | some h => Int.toNat h | none => ByteArray.size s))) ∧ In (IntKind.wrap IntKind.i64 ((↑s_1.2 : Int) - (1 : Int))) (↑s_1.2 : Int) ∧ In (↑(Int.toNat (IntKind.wrap IntKind.i64 ((↑s_1.2 : Int) - (1 : Int)))) : Int) (↑s_1.2 : Int) ∧ FitE (I54 s c R) [Blk.lst (nat_lit 9) (1 : Nat) s_1.2 fun j' ↦ bif Nat.beq j' (Int.toNat (IntKind.wrap IntKind.i64 ((↑s_1.2 : Int) - (1 : Int)))) then [SC.val (Value.string (strAt s_1.3 (Int.toNat (IntKind.wrap IntKind.i64 ((↑s_1.2 : Int) - (1 : Int)))) ++ ByteArray.extract s (match some s_1.1 with | some l => Int.toNat l | none => (0 : Nat)) (match some (IntKind.wrap IntKind.i64 (s_1.1 + (1 : Int))) with | some h => Int.toNat h | none => ByteArray.size s)))] else [SC.val (Value.string (strAt s_1.3 j'))]] (fun J ↦ [SX.v (SV.c (SC.val (Value.string s))), SX.v (SV.c (SC.val (Value.int IntKind.u8 c))), jV (J 2), jV (J 3), jV (J 4), SX.v (SV.c (SC.lst 0)), SX.v (SV.c (SC.val (Value.int IntKind.i64 (IntKind.wrap IntKind.i64 (s_1.1 + (1 : Int)))))), jV (J 7), jV (J 8), jV (J 9), jV (J 10), jV (J 11), jV (J 12), jV (J 13), jV (J 14), jV (J 15), jV (J 16), jV (J 17), jV (J 18), jV (J 19), jV (J 20), jV (J 21), jV (J 22), jV (J 23), jV (J 24), jV (J 25), jV (J 26), jV (J 27), jV (J 28), jV (J 29), jV (J 30), jV (J 31), jV (J 32), jV (J 33), jV (J 34), jV (J 35), jV (J 36), jV (J 37), jV (J 38), jV (J 39)]) fun s' ↦ LInv.μ (I54 s c R) s' < LInv.μ (I54 s c R) s_1) ∧ (In (↑(Int.toNat (IntKind.wrap IntKind.i64 ((↑s_1.2 : Int) - (1 : Int)))) : Int) (↑s_1.2 : Int) ∧ Cat (ByteArray.size (strAt s_1.3 (Int.toNat (IntKind.wrap IntKind.i64 ((↑s_1.2 : Int) - (1 : Int)))))) (ByteArray.size (ByteArray.extract s (match some s_1.1 with | some l => Int.toNat l | none => (0 : Nat)) (match some (IntKind.wrap IntKind.i64 (s_1.1 + (1 : Int))) with | some h => Int.toNat h | none => ByteArray.size s))) ∧ In (IntKind.wrap IntKind.i64 ((↑s_1.2 : Int) - (1 : Int))) (↑s_1.2 : Int) ∧ In (↑(Int.toNat (IntKind.wrap IntKind.i64 ((↑s_1.2 : Int) - (1 : Int)))) : Int) (↑s_1.2 : Int) ∧ FitE (I54 s c R) [Blk.lst (nat_lit 9) (1 : Nat) s_1.2 fun j' ↦ bif Nat.beq j' (Int.toNat (IntKind.wrap IntKind.i64 ((↑s_1.2 : Int) - (1 : Int)))) then [SC.val (Value.string (strAt s_1.3 (Int.toNat (IntKind.wrap IntKind.i64 ((↑s_1.2 : Int) - (1 : Int)))) ++ ByteArray.extract s (match some s_1.1 with | some l => Int.toNat l | none => (0 : Nat)) (match some (IntKind.wrap IntKind.i64 (s_1.1 + (1 : Int))) with | some h => Int.toNat h | none => ByteArray.size s)))] else [SC.val (Value.string (strAt s_1.3 j'))]] (fun J ↦ [SX.v (SV.c (SC.val (Value.string s))), SX.v (SV.c (SC.val (Value.int IntKind.u8 c))), jV (J 2), jV (J 3), jV (J 4), SX.v (SV.c (SC.lst 0)), SX.v (SV.c (SC.val (Value.int IntKind.i64 (IntKind.wrap IntKind.i64 (s_1.1 + (1 : Int)))))), jV (J 7), jV (J 8), jV (J 9), jV (J 10), jV (J 11), jV (J 12), jV (J 13), jV (J 14), jV (J 15), jV (J 16), jV (J 17), jV (J 18), jV (J 19), jV (J 20), jV (J 21), jV (J 22), jV (J 23), jV (J 24), jV (J 25), jV (J 26), jV (J 27), jV (J 28), jV (J 29), jV (J 30), jV (J 31), jV (J 32), jV (J 33), jV (J 34), jV (J 35), jV (J 36), jV (J 37), jV (J 38), jV (J 39)]) fun s' ↦ LInv.μ (I54 s c R) s' < LInv.μ (I54 s c R) s_1) ∧ True) ∧ True) ∧ True else K (SX.v (SV.c (SC.lst 0))) [Blk.lst (nat_lit 9) (1 : Nat) s_1.2 (strC s_1.3)]) : evFn Tryz.prog O w0 (Γz O w0) (Λof 54 (I54 s c R)) 100 5 54 [sV_ s, u8V c] [] (fun y M => K y M) := vc_of h_ (by kernel_rfl)
set_option maxHeartbeats 4000000 in
set_option maxRecDepth 100000 in
theorem f26 (O : Nat → Prop) (w0 : World) (s : ByteArray) (xs : List ByteArray) (R : Int → Prop) (Q : Int → Int → Prop) (K : SX → List Blk → Prop) (h_ : bif ByteArray.toList s == ByteArray.toList (ByteArray.mk #[]) then K (SX.tup [SV.c (SC.val (Value.slice none (0 : Nat) (0 : Nat))), SV.c (SC.val (Value.int IntKind.i64 0))]) [] else GlT O w0 ∧ SzT s ∧ SplIs (32 : Int) s xs ∧ (∀ (s : PS1), LInv.pre (I26 xs R) s → Nat.le (0 : Nat) (List.length (LInv.mem (I26 xs R) s))) ∧ (FitE (I26 xs R) [Blk.lst (nat_lit 9) (1 : Nat) (List.length xs) (strsAt xs)] (fun J ↦ [jV (J 0), jV (J 1), jV (J 2), jV (J 3), SX.v (SV.c (SC.lst 0)), jV (J 5), jV (J 6), jV (J 7), jV (J 8), jV (J 9), jV (J 10), jV (J 11), SX.v (SV.c (SC.lst 0)), SX.v (SV.c (SC.val (Value.int IntKind.i64 (↑(List.length xs) : Int)))), SX.v (SV.c (SC.val (Value.int IntKind.i64 0))), jV (J 15), jV (J 16), jV (J 17), jV (J 18), jV (J 19), jV (J 20), jV (J 21), jV (J 22), jV (J 23), jV (J 24), jV (J 25), jV (J 26), jV (J 27), jV (J 28), jV (J 29), jV (J 30), jV (J 31), jV (J 32), jV (J 33), jV (J 34), jV (J 35), jV (J 36), jV (J 37)]) fun x ↦ True) ∧ ∀ (s : PS1) (J : Nat → Value), LInv.pre (I26 xs R) s → bif decide (s.1 < (↑(List.length xs) : Int)) then In s.1 (↑(List.length xs) : Int) ∧ In (↑(Int.toNat s.1) : Int) (↑(List.length xs) : Int) ∧ bif ByteArray.toList (List.getD xs (Int.toNat s.1) (ByteArray.mk #[(63 : UInt8)])) == ByteArray.toList (ByteArray.mk #[]) then K (SX.tup [SV.c (SC.val (Value.slice none (0 : Nat) (0 : Nat))), SV.c (SC.val (Value.int IntKind.i64 3))]) [Blk.lst (nat_lit 9) (1 : Nat) (List.length xs) (strsAt xs)] else (∀ (s_1 : PS1), LInv.pre ((fun l ↦ match l with | [t] => I26i xs t (Q t) | x => I26 xs R) [s.1]) s_1 → Nat.le (0 : Nat) (List.length (LInv.mem ((fun l ↦ match l with | [t] => I26i xs t (Q t) | x => I26 xs R) [s.1]) s_1))) ∧ (FitE ((fun l ↦ match l with | [t] => I26i xs t (Q t) | x => I26 xs R) [s.1]) [Blk.lst (nat_lit 9) (1 : Nat) (List.length xs) (strsAt xs)] (fun J ↦ [jV (J 0), jV (J 1), jV (J 2), jV (J 3), SX.v (SV.c (SC.lst 0)), jV (J 5), SX.v (SV.c (SC.val (Value.string (List.getD xs (Int.toNat s.1) (ByteArray.mk #[(63 : UInt8)]))))), SX.v (SV.c (SC.val (Value.int IntKind.i64 0))), jV (J 8), jV (J 9), jV (J 10), jV (J 11), SX.v (SV.c (SC.lst 0)), SX.v (SV.c (SC.val (Value.int IntKind.i64 (↑(List.length xs) : Int)))), SX.v (SV.c (SC.val (Value.int IntKind.i64 s.1))), jV (J 15), jV (J 16), jV (J 17), jV (J 18), jV (J 19), jV (J 20), jV (J 21), jV (J 22), jV (J 23), jV (J 24), jV (J 25), jV (J 26), jV (J 27), jV (J 28), jV (J 29), jV (J 30), jV (J 31), jV (J 32), jV (J 33), jV (J 34), jV (J 35), jV (J 36), jV (J 37)]) fun x ↦ True) ∧ ∀ (s_1 : PS1) (J : Nat → Value), LInv.pre ((fun l ↦ match l with | [t] => I26i xs t (Q t) | x => I26 xs R) [s.1]) s_1 → bif decide (s_1.1 < (↑(ByteArray.size (List.getD xs (Int.toNat s.1) (ByteArray.mk #[(63 : UInt8)]))) : Int)) then In s_1.1 (↑(ByteArray.size (List.getD xs (Int.toNat s.1) (ByteArray.mk #[(63 : UInt8)]))) : Int) ∧ bif decide (bAt (List.getD xs (Int.toNat s.1) (ByteArray.mk #[(63 : UInt8)])) s_1.1 < (33 : Int)) then K (SX.tup [SV.c (SC.val (Value.slice none (0 : Nat) (0 : Nat))), SV.c (SC.val (Value.int IntKind.i64 3))]) [Blk.lst (nat_lit 9) (1 : Nat) (List.length xs) (strsAt xs)] else In s_1.1 (↑(ByteArray.size (List.getD xs (Int.toNat s.1) (ByteArray.mk #[(63 : UInt8)]))) : Int) ∧ bif decide (bAt (List.getD xs (Int.toNat s.1) (ByteArray.mk #[(63 : UInt8)])) s_1.1 > (126 : Int)) then K (SX.tup [SV.c (SC.val (Value.slice none (0 : Nat) (0 : Nat))), SV.c (SC.val (Value.int IntKind.i64 3))]) [Blk.lst (nat_lit 9) (1 : Nat) (List.length xs) (strsAt xs)] else FitE ((fun l ↦ match l with | [t] => I26i xs t (Q t) | x => I26 xs R) [s.1]) [Blk.lst (nat_lit 9) (1 : Nat) (List.length xs) (strsAt xs)] (fun J ↦ [jV (J 0), jV (J 1), jV (J 2), jV (J 3), SX.v (SV.c (SC.lst 0)), jV (J 5), SX.v (SV.c (SC.val (Value.string (List.getD xs (Int.toNat s.1) (ByteArray.mk #[(63 : UInt8)]))))), SX.v (SV.c (SC.val (Value.int IntKind.i64 (IntKind.wrap IntKind.i64 (s_1.1 + (1 : Int)))))), jV (J 8), jV (J 9), jV (J 10), jV (J 11), SX.v (SV.c (SC.lst 0)), SX.v (SV.c (SC.val (Value.int IntKind.i64 (↑(List.length xs) : Int)))), SX.v (SV.c (SC.val (Value.int IntKind.i64 s.1))), jV (J 15), jV (J 16), jV (J 17), jV (J 18), jV (J 19), jV (J 20), jV (J 21), jV (J 22), jV (J 23), jV (J 24), jV (J 25), jV (J 26), jV (J 27), jV (J 28), jV (J 29), jV (J 30), jV (J 31), jV (J 32), jV (J 33), jV (J 34), jV (J 35), jV (J 36), jV (J 37)]) fun s' ↦ LInv.μ ((fun l ↦ match l with | [t] => I26i xs t (Q t) | x => I26 xs R) [s.1]) s' < LInv.μ ((fun l ↦ match l with | [t] => I26i xs t (Q t) | x => I26 xs R) [s.1]) s_1 else FitE (I26 xs R) [Blk.lst (nat_lit 9) (1 : Nat) (List.length xs) (strsAt xs)] (fun J ↦ [jV (J 0), jV (J 1), jV (J 2), jV (J 3), SX.v (SV.c (SC.lst 0)), jV (J 5), jV (J 6), jV (J 7), jV (J 8), jV (J 9), jV (J 10), jV (J 11), SX.v (SV.c (SC.lst 0)), SX.v (SV.c (SC.val (Value.int IntKind.i64 (↑(List.length xs) : Int)))), SX.v (SV.c (SC.val (Value.int IntKind.i64 (IntKind.wrap IntKind.i64 (s.1 + (1 : Int)))))), jV (J 15), jV (J 16), jV (J 17), jV (J 18), jV (J 19), jV (J 20), jV (J 21), jV (J 22), jV (J 23), jV (J 24), jV (J 25), jV (J 26), jV (J 27), jV (J 28), jV (J 29), jV (J 30), jV (J 31), jV (J 32), jV (J 33), jV (J 34), jV (J 35), jV (J 36), jV (J 37)]) fun s' ↦ LInv.μ (I26 xs R) s' < LInv.μ (I26 xs R) s else K (SX.tup [SV.c (SC.lst 0), SV.c (SC.val (Value.int IntKind.i64 0))]) [Blk.lst (nat_lit 9) (1 : Nat) (List.length xs) (strsAt xs)]) : evFn Tryz.prog O w0 (ΓS xs O w0) (Λ26 xs R Q) 100 5 26 [sV_ s] [] (fun y M => K y M) := vc_of h_ (by kernel_rfl)
set_option maxHeartbeats 4000000 in
set_option maxRecDepth 100000 in
theorem f28 (O : Nat → Prop) (w0 : World) (s : ByteArray) (xs : List ByteArray) (R : Int → Prop) (Q : Int → Int → Prop) (K : SX → List Blk → Prop) (h_ : bif ByteArray.toList s == ByteArray.toList (ByteArray.mk #[]) then K (SX.tup [SV.c (SC.val (Value.slice none (0 : Nat) (0 : Nat))), SV.c (SC.val (Value.int IntKind.i64 0))]) [] else SzM s ∧ SplIs (32 : Int) s xs ∧ (∀ (s : PS1), LInv.pre (I28 xs R) s → Nat.le (0 : Nat) (List.length (LInv.mem (I28 xs R) s))) ∧ (FitE (I28 xs R) [Blk.lst (nat_lit 9) (1 : Nat) (List.length xs) (strsAt xs)] (fun J ↦ [jV (J 0), jV (J 1), jV (J 2), jV (J 3), SX.v (SV.c (SC.lst 0)), SX.v (SV.c (SC.val (Value.int IntKind.i64 0))), jV (J 6), jV (J 7), jV (J 8), jV (J 9), jV (J 10), jV (J 11), jV (J 12), jV (J 13), jV (J 14), jV (J 15), jV (J 16), jV (J 17), jV (J 18), jV (J 19), jV (J 20), jV (J 21), jV (J 22), jV (J 23), jV (J 24), jV (J 25), jV (J 26), jV (J 27), jV (J 28), jV (J 29), jV (J 30), jV (J 31), jV (J 32), jV (J 33), jV (J 34), jV (J 35), jV (J 36), jV (J 37), jV (J 38), jV (J 39), jV (J 40), jV (J 41), jV (J 42), jV (J 43), jV (J 44), jV (J 45), jV (J 46), jV (J 47)]) fun x ↦ True) ∧ ∀ (s : PS1) (J : Nat → Value), LInv.pre (I28 xs R) s → bif decide (s.1 < (↑(List.length xs) : Int)) then In s.1 (↑(List.length xs) : Int) ∧ In (↑(Int.toNat s.1) : Int) (↑(List.length xs) : Int) ∧ bif ByteArray.toList (List.getD xs (Int.toNat s.1) (ByteArray.mk #[(63 : UInt8)])) == ByteArray.toList (ByteArray.mk #[]) then K (SX.tup [SV.c (SC.val (Value.slice none (0 : Nat) (0 : Nat))), SV.c (SC.val (Value.int IntKind.i64 3))]) [Blk.lst (nat_lit 9) (1 : Nat) (List.length xs) (strsAt xs)] else (∀ (s_1 : PS1), LInv.pre ((fun l ↦ match l with | [t] => I28i xs t (Q t) | x => I28 xs R) [s.1]) s_1 → Nat.le (0 : Nat) (List.length (LInv.mem ((fun l ↦ match l with | [t] => I28i xs t (Q t) | x => I28 xs R) [s.1]) s_1))) ∧ (FitE ((fun l ↦ match l with | [t] => I28i xs t (Q t) | x => I28 xs R) [s.1]) [Blk.lst (nat_lit 9) (1 : Nat) (List.length xs) (strsAt xs)] (fun J ↦ [jV (J 0), jV (J 1), jV (J 2), jV (J 3), SX.v (SV.c (SC.lst 0)), SX.v (SV.c (SC.val (Value.int IntKind.i64 s.1))), SX.v (SV.c (SC.val (Value.int IntKind.i64 0))), jV (J 7), jV (J 8), jV (J 9), jV (J 10), jV (J 11), jV (J 12), jV (J 13), jV (J 14), jV (J 15), jV (J 16), jV (J 17), jV (J 18), jV (J 19), jV (J 20), jV (J 21), jV (J 22), jV (J 23), jV (J 24), jV (J 25), jV (J 26), jV (J 27), jV (J 28), jV (J 29), jV (J 30), jV (J 31), jV (J 32), jV (J 33), jV (J 34), jV (J 35), jV (J 36), jV (J 37), jV (J 38), jV (J 39), jV (J 40), jV (J 41), jV (J 42), jV (J 43), jV (J 44), jV (J 45), jV (J 46), jV (J 47)]) fun x ↦ True) ∧ ∀ (s_1 : PS1) (J : Nat → Value), LInv.pre ((fun l ↦ match l with | [t] => I28i xs t (Q t) | x => I28 xs R) [s.1]) s_1 → In s.1 (↑(List.length xs) : Int) ∧ In (↑(Int.toNat s.1) : Int) (↑(List.length xs) : Int) ∧ bif decide (s_1.1 < (↑(ByteArray.size (List.getD xs (Int.toNat s.1) (ByteArray.mk #[(63 : UInt8)]))) : Int)) then In s.1 (↑(List.length xs) : Int) ∧ In (↑(Int.toNat s.1) : Int) (↑(List.length xs) : Int) ∧ In s_1.1 (↑(ByteArray.size (List.getD xs (Int.toNat s.1) (ByteArray.mk #[(63 : UInt8)]))) : Int) ∧ bif decide (bAt (List.getD xs (Int.toNat s.1) (ByteArray.mk #[(63 : UInt8)])) s_1.1 < (33 : Int)) then K (SX.tup [SV.c (SC.val (Value.slice none (0 : Nat) (0 : Nat))), SV.c (SC.val (Value.int IntKind.i64 3))]) [Blk.lst (nat_lit 9) (1 : Nat) (List.length xs) (strsAt xs)] else In s.1 (↑(List.length xs) : Int) ∧ In (↑(Int.toNat s.1) : Int) (↑(List.length xs) : Int) ∧ In s_1.1 (↑(ByteArray.size (List.getD xs (Int.toNat s.1) (ByteArray.mk #[(63 : UInt8)]))) : Int) ∧ bif decide (bAt (List.getD xs (Int.toNat s.1) (ByteArray.mk #[(63 : UInt8)])) s_1.1 > (126 : Int)) then K (SX.tup [SV.c (SC.val (Value.slice none (0 : Nat) (0 : Nat))), SV.c (SC.val (Value.int IntKind.i64 3))]) [Blk.lst (nat_lit 9) (1 : Nat) (List.length xs) (strsAt xs)] else FitE ((fun l ↦ match l with | [t] => I28i xs t (Q t) | x => I28 xs R) [s.1]) [Blk.lst (nat_lit 9) (1 : Nat) (List.length xs) (strsAt xs)] (fun J ↦ [jV (J 0), jV (J 1), jV (J 2), jV (J 3), SX.v (SV.c (SC.lst 0)), SX.v (SV.c (SC.val (Value.int IntKind.i64 s.1))), SX.v (SV.c (SC.val (Value.int IntKind.i64 (IntKind.wrap IntKind.i64 (s_1.1 + (1 : Int)))))), jV (J 7), jV (J 8), jV (J 9), jV (J 10), jV (J 11), jV (J 12), jV (J 13), jV (J 14), jV (J 15), jV (J 16), jV (J 17), jV (J 18), jV (J 19), jV (J 20), jV (J 21), jV (J 22), jV (J 23), jV (J 24), jV (J 25), jV (J 26), jV (J 27), jV (J 28), jV (J 29), jV (J 30), jV (J 31), jV (J 32), jV (J 33), jV (J 34), jV (J 35), jV (J 36), jV (J 37), jV (J 38), jV (J 39), jV (J 40), jV (J 41), jV (J 42), jV (J 43), jV (J 44), jV (J 45), jV (J 46), jV (J 47)]) fun s' ↦ LInv.μ ((fun l ↦ match l with | [t] => I28i xs t (Q t) | x => I28 xs R) [s.1]) s' < LInv.μ ((fun l ↦ match l with | [t] => I28i xs t (Q t) | x => I28 xs R) [s.1]) s_1 else FitE (I28 xs R) [Blk.lst (nat_lit 9) (1 : Nat) (List.length xs) (strsAt xs)] (fun J ↦ [jV (J 0), jV (J 1), jV (J 2), jV (J 3), SX.v (SV.c (SC.lst 0)), SX.v (SV.c (SC.val (Value.int IntKind.i64 (IntKind.wrap IntKind.i64 (s.1 + (1 : Int)))))), jV (J 6), jV (J 7), jV (J 8), jV (J 9), jV (J 10), jV (J 11), jV (J 12), jV (J 13), jV (J 14), jV (J 15), jV (J 16), jV (J 17), jV (J 18), jV (J 19), jV (J 20), jV (J 21), jV (J 22), jV (J 23), jV (J 24), jV (J 25), jV (J 26), jV (J 27), jV (J 28), jV (J 29), jV (J 30), jV (J 31), jV (J 32), jV (J 33), jV (J 34), jV (J 35), jV (J 36), jV (J 37), jV (J 38), jV (J 39), jV (J 40), jV (J 41), jV (J 42), jV (J 43), jV (J 44), jV (J 45), jV (J 46), jV (J 47)]) fun s' ↦ LInv.μ (I28 xs R) s' < LInv.μ (I28 xs R) s else K (SX.tup [SV.c (SC.lst 0), SV.c (SC.val (Value.int IntKind.i64 0))]) [Blk.lst (nat_lit 9) (1 : Nat) (List.length xs) (strsAt xs)]) : evFn Tryz.prog O w0 (ΓS xs O w0) (Λ28 xs R Q) 100 5 28 [sV_ s] [] (fun y M => K y M) := vc_of h_ (by kernel_rfl)
--HIDE
def pos (c : UInt8) : List UInt8 → Nat
  | [] => 0
  | b :: l => if b = c then 0 else pos c l + 1
theorem index_pos (c : UInt8) (l : List UInt8) : Lib.index l [c] = if pos c l < l.length then (pos c l : Int) else -1 := by
  induction l with
  | nil => rfl
  | cons b l ih =>
    unfold Lib.index pos
    have hp : List.isPrefixOf [c] (b :: l) = (c == b) := by simp [List.isPrefixOf]
    rw [hp]
    by_cases h : b = c
    · subst h; simp
    · rw [beq_eq_false_iff_ne.mpr (fun e => h e.symm), if_neg (by decide), if_neg h, ih]
      by_cases hl : pos c l < l.length
      · rw [if_pos hl, beq_eq_false_iff_ne.mpr (show ((pos c l : Nat) : Int) ≠ -1 by omega), if_neg (by decide), if_pos (by rw [List.length_cons]; omega)]
        omega
      · rw [if_neg hl, if_pos (by decide), if_neg (by rw [List.length_cons]; omega)]
theorem spl_pos (c : UInt8) (l : List UInt8) : ∀ cur, spl c cur l = if pos c l < l.length then (cur ++ l.take (pos c l)) :: spl c [] (l.drop (pos c l + 1)) else [cur ++ l] := by
  induction l with
  | nil => intro cur; simp [spl]
  | cons b l ih =>
    intro cur
    by_cases h : b = c
    · subst h
      have e : pos b (b :: l) = 0 := by simp [pos]
      rw [e]
      simp [spl]
    · have e : pos c (b :: l) = pos c l + 1 := by simp [pos, h]
      rw [e, List.length_cons]
      simp only [spl]
      rw [if_neg h, ih]
      by_cases hp : pos c l < l.length
      · rw [if_pos hp, if_pos (Nat.succ_lt_succ hp)]
        simp
      · rw [if_neg hp, if_neg (fun q => hp (Nat.lt_of_succ_lt_succ q))]
        simp
theorem spl_len (c : UInt8) (l : List UInt8) : ∀ cur, (spl c cur l).length ≤ l.length + 1 := by
  induction l with
  | nil => intro cur; simp [spl]
  | cons b l ih =>
    intro cur
    simp only [spl]
    split
    · have := ih []
      simp only [List.length_cons]; omega
    · have := ih (cur ++ [b])
      simp only [List.length_cons]; omega
theorem splitB_spl (c : UInt8) : ∀ (k : Nat) (s : ByteArray), Lib.countB s (⟨#[c]⟩ : ByteArray) = k → Lib.splitB (⟨#[c]⟩ : ByteArray) 0 k s = (spl c [] s.data.toList).map mkB := by
  have hix : ∀ s : ByteArray, Lib.indexB s (⟨#[c]⟩ : ByteArray) = if pos c s.data.toList < s.data.toList.length then (pos c s.data.toList : Int) else -1 := fun s => index_pos c s.data.toList
  intro k
  induction k with
  | zero =>
    intro s h
    rw [Lib.splitB_zero, spl_pos]
    by_cases hp : pos c s.data.toList < s.data.toList.length
    · have := Lib.countB_hit s (⟨#[c]⟩ : ByteArray) (pos c s.data.toList) (Nat.le_refl 1) (by rw [hix, if_pos hp])
      omega
    · rw [if_neg hp, List.map_singleton, List.nil_append]
      unfold mkB
      rfl
  | succ k ih =>
    intro s h
    by_cases hp : pos c s.data.toList < s.data.toList.length
    · have hi : Lib.indexB s (⟨#[c]⟩ : ByteArray) = ((pos c s.data.toList : Nat) : Int) := by rw [hix, if_pos hp]
      have hc := Lib.countB_hit s (⟨#[c]⟩ : ByteArray) (pos c s.data.toList) (Nat.le_refl 1) hi
      rw [Lib.splitB_hit _ _ _ _ _ hi, ih _ (by omega), spl_pos c s.data.toList, if_pos hp, List.map_cons, List.nil_append]
      rw [show (⟨#[c]⟩ : ByteArray).size = 1 from rfl, Lib.extract_to_end]
      congr 1
      apply byt_inj; show (_ : ByteArray).data.toList = _
      rw [Lib.extract_from_zero]
      rfl
    · have := Lib.countB_miss s (⟨#[c]⟩ : ByteArray) (by rw [hix, if_neg hp])
      omega

theorem LsX.strC {n : Nat} {G : Nat → List SC} {xs : List ByteArray} (h : LsX encS ⟨#[]⟩ n G xs) : ∀ j, j < n → G j = Tr.strC G j := fun j hj => by
  have := h.at_ j hj
  unfold Tr.strC strAt
  rw [this]; rfl
theorem LsX.toC {n : Nat} {G : Nat → List SC} {xs : List ByteArray} (h : LsX encS ⟨#[]⟩ n G xs) : LsX encS ⟨#[]⟩ n (Tr.strC G) xs := ⟨h.len, fun j hj => by rw [← h.strC j hj]; exact h.at_ j hj⟩
theorem ls_strs {xs : List ByteArray} {n : Nat} {G : Nat → List SC} (h : LsX encS ⟨#[]⟩ n G xs) : ∀ j, j < xs.length → G j = strsAt xs j := fun j hj => by
  rw [h.at_ j (by rw [h.len]; exact hj)]
  unfold strsAt encS
  rw [List.getD_eq_getElem?_getD, List.getD_eq_getElem?_getD, List.getElem?_eq_getElem hj]; rfl
theorem byt_size (s : ByteArray) : (byt s).length = s.size := rfl
theorem bAt_byt {s : ByteArray} {i : Int} (h0 : 0 ≤ i) (h1 : i < s.size) : bAt s i = (((byt s)[i.toNat]'(by rw [byt_size]; omega)).toNat : Int) := by
  unfold bAt
  rw [List.getD_eq_getElem?_getD, List.getElem?_eq_getElem (show i.toNat < s.data.toList.length by have : s.data.toList.length = s.size := rfl; omega)]; rfl
theorem u8_inj {a b : UInt8} (h : (a.toNat : Int) = (b.toNat : Int)) : a = b := UInt8.toNat_inj.1 (by omega)
structure S54 (b : UInt8) (s : ByteArray) (i : Int) (xs : List ByteArray) (done : List (List UInt8)) (cur : List UInt8) : Prop where
  xs : xs = (done ++ [cur]).map mkB
  eq : spl b [] (byt s) = done ++ spl b cur ((byt s).drop i.toNat)
  c : cur.length ≤ i
  d : done.length ≤ i
def R54 (b : UInt8) (s : ByteArray) : SpS → Prop := fun ⟨i, n, F⟩ => 0 ≤ i ∧ i ≤ s.size ∧ ∃ xs done cur, LsX encS ⟨#[]⟩ n (strC F) xs ∧ S54 b s i xs done cur
theorem drop_cons {α : Type} {l : List α} {i : Nat} (h : i < l.length) : l.drop i = l[i] :: l.drop (i + 1) := (List.drop_eq_getElem_cons h)
theorem spl_step (b : UInt8) (cur : List UInt8) (x : UInt8) (l : List UInt8) : spl b cur (x :: l) = if x = b then cur :: spl b [] l else spl b (cur ++ [x]) l := rfl
theorem S54.hit {b : UInt8} {s : ByteArray} {i : Int} {xs done cur} (h : S54 b s i xs done cur) (h0 : 0 ≤ i) (h1 : i < s.size) (hb : (byt s)[i.toNat]'(by rw [byt_size]; omega) = b) : S54 b s (i + 1) (xs ++ [⟨#[]⟩]) (done ++ [cur]) [] := by
  refine ⟨by rw [h.xs]; simp [mkB], ?_, by simp; omega, by simp; have := h.d; omega⟩
  rw [h.eq, drop_cons (show i.toNat < (byt s).length by rw [byt_size]; omega)]
  rw [spl_step, if_pos hb, show (i + 1).toNat = i.toNat + 1 by omega]
  simp
theorem S54.miss {b : UInt8} {s : ByteArray} {i : Int} {xs done cur} (h : S54 b s i xs done cur) (h0 : 0 ≤ i) (h1 : i < s.size) (hb : (byt s)[i.toNat]'(by rw [byt_size]; omega) ≠ b) : S54 b s (i + 1) ((done ++ [cur ++ [(byt s)[i.toNat]'(by rw [byt_size]; omega)]]).map mkB) done (cur ++ [(byt s)[i.toNat]'(by rw [byt_size]; omega)]) := by
  refine ⟨rfl, ?_, by simp; have := h.c; omega, by have := h.d; omega⟩
  rw [h.eq, drop_cons (show i.toNat < (byt s).length by rw [byt_size]; omega)]
  rw [spl_step, if_neg hb, show (i + 1).toNat = i.toNat + 1 by omega]
theorem mkB_app (x : List UInt8) (c : UInt8) : mkB x ++ mkB [c] = mkB (x ++ [c]) := byt_inj (by rw [byt_app]; simp [byt, mkB])
theorem ext_one {s : ByteArray} {i : Int} (h0 : 0 ≤ i) (h1 : i < s.size) : s.extract i.toNat (i + 1).toNat = mkB [(byt s)[i.toNat]'(by rw [byt_size]; omega)] := byt_inj (by
  show (s.extract i.toNat (i + 1).toNat).data.toList = [(byt s)[i.toNat]'(by rw [byt_size]; omega)]
  rw [Lib.extract_data, show (i + 1).toNat = i.toNat + 1 by omega]
  first
  | rw [show i.toNat + 1 - i.toNat = 1 by omega]
    show ((byt s).drop i.toNat).take 1 = _
    rw [drop_cons (show i.toNat < (byt s).length by rw [byt_size]; omega)]; rfl
  | (show ((byt s).take (i.toNat + 1)).drop i.toNat = _
     rw [List.drop_take, show i.toNat + 1 - i.toNat = 1 by omega, drop_cons (show i.toNat < (byt s).length by rw [byt_size]; omega)]; rfl))
set_option maxRecDepth 100000 in
theorem e54 (xs : List ByteArray) (O : Nat → Prop) (w0 : World) : Entry Tryz.prog O w0 54 (gSplR xs O w0) :=
  Entry.madeQ Γz_ok 100 5 (g := gSplR xs) (fun O w0 args M k hg β w hI => by
    unfold gSplR at hg
    split at hg
    case h_2 => exact hg.elim
    rename_i s c
    obtain ⟨⟨hle⟩, ⟨b, rfl, rfl⟩, hk⟩ := hg
    refine ⟨_, _, rfl, f54 _ w s (b.toNat : Nat) (R54 b s) _ ⟨fun _ _ => Nat.zero_le _, ⟨⟨⟨0, 1, fun _ => [.val (.string ⟨#[]⟩)]⟩, ⟨Int.le_refl _, by omega, [⟨#[]⟩], [], [], ⟨rfl, fun j hj => by cases Nat.lt_one_iff.1 hj; rfl⟩, ⟨rfl, by simp, by simp, by simp⟩⟩, ⟨⟨_, rfl, fun j hj => by cases Nat.lt_one_iff.1 hj; rfl⟩, trivial⟩, fun _ => rfl, trivial⟩⟩, ?_⟩⟩
    rintro ⟨i, n, F⟩ J ⟨i0, i1, xs, done, cur, hL, hS⟩
    dsimp only
    have hn := hL.len
    have hxl : xs.length = done.length + 1 := by rw [hS.xs]; simp
    have hd := hS.d
    have hc := hS.c
    refine cond_of (fun hi => ?_) (fun hi => ?_)
    · have hi : i < (s.size : Int) := of_decide_eq_true hi
      have hb := bAt_byt i0 hi
      have hw : IntKind.i64.wrap (i + 1) = i + 1 := wrap_in (by omega) (by omega)
      have hw2 : IntKind.i64.wrap ((n : Int) - 1) = (n : Int) - 1 := wrap_in (by omega) (by omega)
      rw [hw, hw2]
      refine ⟨⟨i0, hi⟩, cond_of (fun e => ?_) (fun e => ?_)⟩
      · have e : bAt s i = (b.toNat : Int) := by simpa using e
        have e2 := u8_inj (hb.symm.trans e)
        have hL2 : LsX encS ⟨#[]⟩ (n + 1) (fun j => bif Nat.blt j n then [SC.val (.string (strAt F j))] else [SC.val (.string ⟨#[]⟩)]) (xs ++ [⟨#[]⟩]) := hL.app1 ⟨fun j hj => rfl⟩
        refine ⟨⟨by omega⟩, ⟨⟨⟨i + 1, n + 1, _⟩, ⟨by omega, by omega, _, _, _, hL2.toC, hS.hit i0 hi e2⟩, ⟨⟨_, rfl, hL2.strC⟩, trivial⟩, fun _ => rfl, by show (_ : Int).toNat < (_ : Int).toNat; omega⟩⟩⟩
      · have e : bAt s i ≠ (b.toNat : Int) := by simpa using e
        have e2 : (byt s)[i.toNat]'(by rw [byt_size]; omega) ≠ b := fun h => e (by rw [hb, h])
        have hS2 := hS.miss i0 hi e2
        have hlast : strAt F ((n : Int) - 1).toNat = mkB cur := by
          have h1 := hL.at_ ((n : Int) - 1).toNat (by omega)
          rw [hS.xs, List.getD_eq_getElem?_getD, List.getElem?_map, List.getElem?_append_right (by omega), show ((n : Int) - 1).toNat - done.length = 0 by omega] at h1
          have h1 : [SC.val (.string (strAt F ((n : Int) - 1).toNat))] = [SC.val (.string (mkB cur))] := h1
          simpa using h1
        have hx := ext_one i0 hi
        have hL2 : LsX encS ⟨#[]⟩ n (fun j' => bif Nat.beq j' ((n : Int) - 1).toNat then [SC.val (.string (strAt F ((n : Int) - 1).toNat ++ s.extract i.toNat (i + 1).toNat))] else [SC.val (.string (strAt F j'))]) ((done ++ [cur ++ [(byt s)[i.toNat]'(by rw [byt_size]; omega)]]).map mkB) := by
          refine ⟨by simp; omega, fun j hj => ?_⟩
          rw [hlast, hx, mkB_app]
          by_cases hjl : j = ((n : Int) - 1).toNat
          · subst hjl
            rw [Nat.beq_refl, cond_true, List.getD_eq_getElem?_getD, List.getElem?_map, List.getElem?_append_right (by omega), show ((n : Int) - 1).toNat - done.length = 0 by omega]; rfl
          · have hne : Nat.beq j ((n : Int) - 1).toNat = false := by
              cases hq : Nat.beq j ((n : Int) - 1).toNat with
              | false => rfl
              | true => exact absurd (Nat.eq_of_beq_eq_true hq) hjl
            have h1 := hL.at_ j hj
            rw [hS.xs, List.getD_eq_getElem?_getD, List.getElem?_map, List.getElem?_append_left (by omega)] at h1
            have h1 : [SC.val (.string (strAt F j))] = _ := h1
            rw [hne, cond_false, h1, List.getD_eq_getElem?_getD, List.getElem?_map, List.getElem?_append_left (by omega)]
        have q1 : In ((n : Int) - 1) (n : Int) := ⟨by omega, by omega⟩
        have q2 : In (((((n : Int) - 1).toNat : Nat)) : Int) (n : Int) := ⟨by omega, by omega⟩
        have q3 : Cut i (i + 1) (s.size : Int) := ⟨i0, by omega, by omega⟩
        have q4 : Cat (strAt F ((n : Int) - 1).toNat).size (s.extract i.toNat (i + 1).toNat).size := ⟨by rw [hlast, hx, show (mkB cur).size = cur.length from rfl, show ∀ c, (mkB [c]).size = 1 from fun _ => rfl]; omega⟩
        have q5 : FitE (I54 s (b.toNat : Nat) (R54 b s)) [Blk.lst 9 1 n (fun j' => bif Nat.beq j' ((n : Int) - 1).toNat then [SC.val (.string (strAt F ((n : Int) - 1).toNat ++ s.extract i.toNat (i + 1).toNat))] else [SC.val (.string (strAt F j'))])] (fun J => (I54 s (b.toNat : Nat) (R54 b s)).tmp ⟨i + 1, 0, fun _ => []⟩ J) (fun s' => LInv.μ (I54 s (b.toNat : Nat) (R54 b s)) s' < LInv.μ (I54 s (b.toNat : Nat) (R54 b s)) ⟨i, n, F⟩) :=
          ⟨⟨⟨i + 1, n, _⟩, ⟨by omega, by omega, _, _, _, hL2.toC, hS2⟩, ⟨⟨_, rfl, hL2.strC⟩, trivial⟩, fun _ => rfl, by show (_ : Int).toNat < (_ : Int).toNat; omega⟩⟩
        repeat' (first | exact q1 | exact q2 | exact q3 | exact q4 | exact q5 | exact trivial | apply And.intro)
    · have hi : ¬ i < (s.size : Int) := of_decide_eq_false hi
      have he : xs = splS b s := by
        have h1 := hS.eq
        rw [List.drop_eq_nil_of_le (by rw [byt_size]; omega)] at h1
        unfold splS
        rw [h1, hS.xs]; rfl
      rw [← he] at hk
      exact ⟨[], .lst 0, 9, 1, xs.length, strsAt xs, rfl, rfl, .lst 0 (strC F) (by rw [← hn]; rfl) (fun j hj => ls_strs hL j hj), hk⟩) O w0
theorem GlT.lib_at {O : Nat → Prop} {w0 w : World} (h : GlT O w0) (hw : Fr O w0 w) : ∃ m, w.cell? ⟨3, 0, none⟩ = some (.int .i64 m) := (h.lib w hw).maxLen
theorem splB (b : UInt8) (s : ByteArray) : Lib.splitB (⟨#[b]⟩ : ByteArray) 0 (Lib.countB s (⟨#[b]⟩ : ByteArray)) s = splS b s := splitB_spl b _ s rfl
theorem splS_len (b : UInt8) (s : ByteArray) : (splS b s).length = Lib.countB s (⟨#[b]⟩ : ByteArray) + 1 := by
  rw [← splB]; exact Lib.splitB_all (⟨#[b]⟩ : ByteArray) (Nat.le_refl 1) 0 _ s rfl
theorem splS_le (b : UInt8) (s : ByteArray) : (splS b s).length ≤ s.size + 1 := by
  unfold splS
  rw [List.length_map]
  exact spl_len b (byt s) []
theorem spl_mem (c : UInt8) : ∀ (l cur : List UInt8), ∀ x ∈ spl c cur l, x.length ≤ cur.length + l.length
  | [], cur, x, hx => by
    rw [List.mem_singleton.1 hx]; simp
  | b :: l, cur, x, hx => by
    rw [spl_step] at hx
    split at hx
    · rcases List.mem_cons.1 hx with rfl | hx
      · simp
      · have := spl_mem c l [] x hx
        simp at this ⊢; omega
    · have := spl_mem c l _ x hx
      simp at this ⊢; omega
theorem splS_mem {c : UInt8} {s x : ByteArray} (h : x ∈ splS c s) : x.size ≤ s.size := by
  obtain ⟨y, hy, rfl⟩ := List.mem_map.1 h
  have := spl_mem c _ _ y hy
  have e : (mkB y).size = y.length := rfl
  have e2 := byt_size s
  simp at this
  omega
theorem getD_mem {xs : List ByteArray} {j : Nat} {d : ByteArray} (h : j < xs.length) : xs.getD j d ∈ xs := by
  rw [List.getD_eq_getElem?_getD, List.getElem?_eq_getElem h]; exact List.getElem_mem h
theorem e53 (xs : List ByteArray) (O : Nat → Prop) (w0 : World) : Entry Tryz.prog O w0 53 (gSpl xs O w0) :=
  Entry.row (g := gSpl xs) (fun O w0 args M k hg β w hI => by
    unfold gSpl at hg
    split at hg
    case h_2 => exact hg.elim
    rename_i s c
    obtain ⟨hG, ⟨hle⟩, ⟨b, hb, rfl⟩, hk⟩ := hg
    have hb : c = b := u8_inj hb
    subst hb
    obtain ⟨m, hm⟩ := hG.lib_at hI.fr
    have hl := splS_len c s
    have hl2 := splS_le c s
    refine ⟨9, 1, (splS c s).length, strsAt (splS c s), hk, ?_⟩
    refine (Tryz.strings_Split s ⟨#[c]⟩ m w (by omega) hm (Nat.le_refl 1)).mono ?_
    rintro e w' ⟨rfl, rfl⟩
    refine ⟨_, (splS c s).map Value.string, rfl, ?_, fun j hj => ?_, ?_⟩
    · rw [← hl, splB]
      refine ⟨by simp, .inr ⟨w.heap.size, (splS c s).length, ((splS c s).map Value.string).toArray, rfl, Nat.le_refl _, (by show (w.heap.push _)[w.heap.size]? = some _; exact Array.getElem?_push_size), Nat.le_refl _, Nat.le_trans (show _ ≤ 4294967001 by omega) (by decide), by simp, ?_⟩⟩
      show ((splS c s).map Value.string).take ((splS c s).length * 1) = _
      rw [List.take_of_length_le (by simp)]
    · have hj2 : j < (splS c s).length := hj
      refine ⟨rfl, rfl, rfl, fun q d hq => ?_⟩
      have hq0 : q = 0 := by
        cases q with
        | zero => rfl
        | succ q => simp [strsAt] at hq
      subst hq0
      cases hq
      rw [Nat.mul_one, Nat.add_zero, List.getElem?_map, List.getD_eq_getElem?_getD, List.getElem?_eq_getElem hj2]; rfl
    · exact (Below.refl _ _).alloc (Nat.le_refl _) _) O w0
theorem ΓS_ok (xs : List ByteArray) : TSF Tryz.prog (ΓS xs) := (Γz_ok.add (e53 xs)).add (e54 xs)
theorem fldB_no {x : ByteArray} {i : Int} (h0 : 0 ≤ i) (h1 : i < x.size) (h : bAt x i < 33 ∨ bAt x i > 126) : fldB x = false := by
  cases hd : fldB x with
  | false => rfl
  | true =>
    unfold fldB at hd
    simp only [Bool.and_eq_true, List.all_eq_true, List.mem_range, decide_eq_true_eq] at hd
    have := hd.2 i.toNat (by omega)
    rw [show ((i.toNat : Nat) : Int) = i by omega] at this
    omega
/-- The bytes up to a place are what a field may hold. -/
structure FdTo (x : ByteArray) (i : Int) : Prop where
  lo : 0 ≤ i
  hi : i ≤ x.size
  at_ : ∀ j : Nat, (j : Int) < i → 33 ≤ bAt x j ∧ bAt x j ≤ 126
theorem FdTo.snoc {x : ByteArray} {i : Int} (h : FdTo x i) (h1 : i < x.size) (ha : ¬ bAt x i < 33) (hb : ¬ bAt x i > 126) : FdTo x (i + 1) := ⟨by have := h.lo; omega, by omega, fun j hj => by
  by_cases e : (j : Int) = i
  · rw [e]; omega
  · exact h.at_ j (by omega)⟩
theorem FdTo.end_ {x : ByteArray} {i : Int} (h : FdTo x i) (h1 : ¬ i < x.size) (h2 : x.size ≠ 0) : fldB x = true := by
  unfold fldB
  simp only [Bool.and_eq_true, List.all_eq_true, List.mem_range, decide_eq_true_eq]
  exact ⟨by omega, fun j hj => h.at_ j (by omega)⟩
/-- The fields up to a place are sound. -/
structure FsTo (xs : List ByteArray) (j : Int) : Prop where
  lo : 0 ≤ j
  hi : j ≤ xs.length
  at_ : ∀ x ∈ xs.take j.toNat, fldB x = true
theorem FsTo.snoc {xs : List ByteArray} {j : Int} (h : FsTo xs j) (h1 : j < xs.length) (hb : fldB (xs.getD j.toNat ⟨#[63]⟩) = true) : FsTo xs (j + 1) := ⟨by have := h.lo; omega, by omega, fun x hx => by
  have h0 := h.lo
  rw [show (j + 1).toNat = j.toNat + 1 by omega, List.take_succ_eq_append_getElem (show j.toNat < xs.length by omega)] at hx
  rcases List.mem_append.1 hx with h2 | h2
  · exact h.at_ x h2
  · rw [List.mem_singleton.1 h2]
    rw [List.getD_eq_getElem?_getD, List.getElem?_eq_getElem (show j.toNat < xs.length by omega)] at hb
    exact hb⟩
theorem FsTo.end_ {xs : List ByteArray} {j : Int} (h : FsTo xs j) (h1 : ¬ j < xs.length) : xs.all fldB = true := by
  rw [List.all_eq_true]
  intro x hx
  exact h.at_ x (by rw [List.take_of_length_le (by omega)]; exact hx)
theorem fld_bad {xs : List ByteArray} {j : Int} (h0 : 0 ≤ j) (h1 : j < xs.length) (hb : fldB (xs.getD j.toNat ⟨#[63]⟩) = false) : ¬ xs.all fldB = true := fun h => by
  rw [List.getD_eq_getElem?_getD, List.getElem?_eq_getElem (show j.toNat < xs.length by omega)] at hb
  have := List.all_eq_true.1 h _ (List.getElem_mem (show j.toNat < xs.length by omega))
  have hb : fldB (xs[j.toNat]'(by omega)) = false := hb
  rw [hb] at this; cases this
theorem fldB_empty {x : ByteArray} (h : x.size = 0) : fldB x = false := by unfold fldB; rw [decide_eq_false (by omega)]; rfl
abbrev Res26 (k : SX → List Blk → Prop) (M : List Blk) : SX → List Blk → Prop := fun y M' => ∃ r x e sz n F, y = wrapX r x ∧ r.all (·.lt 0) = true ∧ ResL M' e sz n F x ∧ ∀ A c, k (wrapX r (.rsl A sz F 0 n c)) (M ++ [.fz (RowsF A sz n F)])
theorem res_err {k : SX → List Blk → Prop} {M M' : List Blk} {e : Int} (hk : ∀ A c, k (.tup [.c (.rsl A 1 (strsAt []) 0 ([] : List ByteArray).length c), .c (.val (.int .i64 e))]) (M ++ [.fz (RowsF A 1 ([] : List ByteArray).length (strsAt []))])) : Res26 k M (.tup [.c (.val (.slice none 0 0)), .c (.val (.int .i64 e))]) M' :=
  ⟨[.val (.int .i64 e)], .val (.slice none 0 0), 9, 1, 0, strsAt [], rfl, rfl, .nil rfl, hk⟩
set_option maxRecDepth 100000 in
theorem e26 (O : Nat → Prop) (w0 : World) : Entry Tryz.prog O w0 26 (gFld O w0) := fun hf args M k hg hm β w hI => by
  have hs : ∃ s, args = [tV s] := by
    unfold gFld at hg
    split at hg
    · exact ⟨_, rfl⟩
    · exact hg.elim
  obtain ⟨s, rfl⟩ := hs
  refine Entry.madeF (ΓS_ok (splS 32 s)) 100 5 (f := 26) (g := fun O w0 args M k => args = [tV s] ∧ gFld O w0 args M k) (fun O w0 args M k hg β w hI => ?_) O w0 hf _ M k ⟨rfl, hg⟩ hm β w hI
  obtain ⟨rfl, hG, ⟨hle⟩, hk⟩ := hg
  have hk := hk _ _ ⟨rfl, rfl⟩
  have hlen := splS_le 32 s
  unfold fldS at hk
  refine ⟨[tV s], _, rfl, f26 _ w s (splS 32 s) (FsTo (splS 32 s)) (fun j i => 0 ≤ j ∧ j < (splS 32 s).length ∧ FsTo (splS 32 s) j ∧ FdTo ((splS 32 s).getD j.toNat ⟨#[63]⟩) i) (Res26 k M) ?_⟩
  rw [emptyB]
  refine cond_of (fun h0 => ?_) (fun h0 => ?_)
  · rw [if_pos (of_decide_eq_true h0)] at hk
    exact res_err hk
  rw [if_neg (of_decide_eq_false h0)] at hk
  refine ⟨hG.at hI.fr, ⟨by omega⟩, ⟨32, rfl, rfl⟩, fun _ _ => Nat.zero_le _, ⟨⟨⟨0⟩, ⟨Int.le_refl _, by omega, fun x hx => by cases hx⟩, ⟨⟨_, rfl, fun _ _ => rfl⟩, trivial⟩, fun _ => rfl, trivial⟩⟩, ?_⟩
  have hsz : ∀ x ∈ splS 32 s, x.size ≤ 1000000 := fun x hx => Nat.le_trans (splS_mem hx) hle
  generalize splS 32 s = xs at *
  rintro ⟨j⟩ J hF
  have hF : FsTo xs j := hF
  have j0 := hF.lo
  have j1 := hF.hi
  dsimp only
  have bad : ∀ M', fldB (xs.getD j.toNat ⟨#[63]⟩) = false → j < (xs.length : Int) → Res26 k M (.tup [.c (.val (.slice none 0 0)), .c (.val (.int .i64 3))]) M' := fun M' hb hj => by
    rw [if_neg (fld_bad j0 hj hb)] at hk
    exact res_err hk
  refine cond_of (fun hj => ?_) (fun hj => ?_)
  · have hj : j < (xs.length : Int) := of_decide_eq_true hj
    have i1 : In j (xs.length : Int) := ⟨j0, hj⟩
    have i2 : In ((j.toNat : Nat) : Int) (xs.length : Int) := ⟨by omega, by omega⟩
    rw [wrap_in (n := j + 1) (by omega) (by omega)]
    refine ⟨i1, i2, ?_⟩
    rw [emptyB]
    refine cond_of (fun hz => bad _ (fldB_empty (of_decide_eq_true hz)) hj) (fun hz => ?_)
    have hz := of_decide_eq_false hz
    refine ⟨fun _ _ => Nat.zero_le _, ⟨⟨⟨0⟩, ⟨j0, hj, hF, ⟨Int.le_refl _, by omega, fun q hq => by omega⟩⟩, ⟨⟨_, rfl, fun _ _ => rfl⟩, trivial⟩, fun _ => rfl, trivial⟩⟩, ?_⟩
    rintro ⟨i⟩ J2 ⟨_, _, _, hD⟩
    dsimp only
    have d0 := hD.lo
    have d1 := hD.hi
    have hxs := hsz _ (getD_mem (d := ⟨#[63]⟩) (show j.toNat < xs.length by omega))
    refine cond_of (fun hi => ?_) (fun hi => ?_)
    · have hi := of_decide_eq_true hi
      refine ⟨⟨d0, hi⟩, cond_of (fun a => bad _ (fldB_no d0 hi (.inl (of_decide_eq_true a))) hj) (fun a => ⟨⟨d0, hi⟩, cond_of (fun b => bad _ (fldB_no d0 hi (.inr (of_decide_eq_true b))) hj) (fun b => ?_)⟩)⟩
      rw [wrap_in (n := i + 1) (by omega) (by omega)]
      exact ⟨⟨⟨i + 1⟩, ⟨j0, hj, hF, hD.snoc hi (of_decide_eq_false a) (of_decide_eq_false b)⟩, ⟨⟨_, rfl, fun _ _ => rfl⟩, trivial⟩, fun _ => rfl, by show (_ : Int).toNat < (_ : Int).toNat; omega⟩⟩
    · have hi := of_decide_eq_false hi
      exact ⟨⟨⟨j + 1⟩, hF.snoc hj (hD.end_ hi hz), ⟨⟨_, rfl, fun _ _ => rfl⟩, trivial⟩, fun _ => rfl, by show (_ : Int).toNat < (_ : Int).toNat; omega⟩⟩
  · have hj : ¬ j < (xs.length : Int) := of_decide_eq_false hj
    rw [if_pos (hF.end_ hj)] at hk
    exact ⟨[.val (.int .i64 0)], .lst 0, 9, 1, xs.length, strsAt xs, rfl, rfl, .lst 0 _ rfl (fun _ _ => rfl), hk⟩
set_option maxRecDepth 100000 in
theorem e28 (O : Nat → Prop) (w0 : World) : Entry Tryz.prog O w0 28 (gFld O w0) := fun hf args M k hg hm β w hI => by
  have hs : ∃ s, args = [tV s] := by
    unfold gFld at hg
    split at hg
    · exact ⟨_, rfl⟩
    · exact hg.elim
  obtain ⟨s, rfl⟩ := hs
  refine Entry.madeF (ΓS_ok (splS 32 s)) 100 5 (f := 28) (g := fun O w0 args M k => args = [tV s] ∧ gFld O w0 args M k) (fun O w0 args M k hg β w hI => ?_) O w0 hf _ M k ⟨rfl, hg⟩ hm β w hI
  obtain ⟨rfl, hG, ⟨hle⟩, hk⟩ := hg
  have hk := hk _ _ ⟨rfl, rfl⟩
  have hlen := splS_le 32 s
  unfold fldS at hk
  refine ⟨[tV s], _, rfl, f28 _ w s (splS 32 s) (FsTo (splS 32 s)) (fun j i => 0 ≤ j ∧ j < (splS 32 s).length ∧ FsTo (splS 32 s) j ∧ FdTo ((splS 32 s).getD j.toNat ⟨#[63]⟩) i) (Res26 k M) ?_⟩
  rw [emptyB]
  refine cond_of (fun h0 => ?_) (fun h0 => ?_)
  · rw [if_pos (of_decide_eq_true h0)] at hk
    exact res_err hk
  rw [if_neg (of_decide_eq_false h0)] at hk
  refine ⟨⟨hle⟩, ⟨32, rfl, rfl⟩, fun _ _ => Nat.zero_le _, ⟨⟨⟨0⟩, ⟨Int.le_refl _, by omega, fun x hx => by cases hx⟩, ⟨⟨_, rfl, fun _ _ => rfl⟩, trivial⟩, fun _ => rfl, trivial⟩⟩, ?_⟩
  have hsz : ∀ x ∈ splS 32 s, x.size ≤ 1000000 := fun x hx => Nat.le_trans (splS_mem hx) hle
  generalize splS 32 s = xs at *
  rintro ⟨j⟩ J hF
  have hF : FsTo xs j := hF
  have j0 := hF.lo
  have j1 := hF.hi
  dsimp only
  have bad : ∀ M', fldB (xs.getD j.toNat ⟨#[63]⟩) = false → j < (xs.length : Int) → Res26 k M (.tup [.c (.val (.slice none 0 0)), .c (.val (.int .i64 3))]) M' := fun M' hb hj => by
    rw [if_neg (fld_bad j0 hj hb)] at hk
    exact res_err hk
  refine cond_of (fun hj => ?_) (fun hj => ?_)
  · have hj : j < (xs.length : Int) := of_decide_eq_true hj
    have i1 : In j (xs.length : Int) := ⟨j0, hj⟩
    have i2 : In ((j.toNat : Nat) : Int) (xs.length : Int) := ⟨by omega, by omega⟩
    rw [wrap_in (n := j + 1) (by omega) (by omega)]
    refine ⟨i1, i2, ?_⟩
    rw [emptyB]
    refine cond_of (fun hz => bad _ (fldB_empty (of_decide_eq_true hz)) hj) (fun hz => ?_)
    have hz := of_decide_eq_false hz
    refine ⟨fun _ _ => Nat.zero_le _, ⟨⟨⟨0⟩, ⟨j0, hj, hF, ⟨Int.le_refl _, by omega, fun q hq => by omega⟩⟩, ⟨⟨_, rfl, fun _ _ => rfl⟩, trivial⟩, fun _ => rfl, trivial⟩⟩, ?_⟩
    rintro ⟨i⟩ J2 ⟨_, _, _, hD⟩
    dsimp only
    refine ⟨i1, i2, ?_⟩
    have d0 := hD.lo
    have d1 := hD.hi
    have hxs := hsz _ (getD_mem (d := ⟨#[63]⟩) (show j.toNat < xs.length by omega))
    refine cond_of (fun hi => ?_) (fun hi => ?_)
    · have hi := of_decide_eq_true hi
      refine ⟨i1, i2, ⟨d0, hi⟩, cond_of (fun a => bad _ (fldB_no d0 hi (.inl (of_decide_eq_true a))) hj) (fun a => ⟨i1, i2, ⟨d0, hi⟩, cond_of (fun b => bad _ (fldB_no d0 hi (.inr (of_decide_eq_true b))) hj) (fun b => ?_)⟩)⟩
      rw [wrap_in (n := i + 1) (by omega) (by omega)]
      exact ⟨⟨⟨i + 1⟩, ⟨j0, hj, hF, hD.snoc hi (of_decide_eq_false a) (of_decide_eq_false b)⟩, ⟨⟨_, rfl, fun _ _ => rfl⟩, trivial⟩, fun _ => rfl, by show (_ : Int).toNat < (_ : Int).toNat; omega⟩⟩
    · have hi := of_decide_eq_false hi
      exact ⟨⟨⟨j + 1⟩, hF.snoc hj (hD.end_ hi hz), ⟨⟨_, rfl, fun _ _ => rfl⟩, trivial⟩, fun _ => rfl, by show (_ : Int).toNat < (_ : Int).toNat; omega⟩⟩
  · have hj : ¬ j < (xs.length : Int) := of_decide_eq_false hj
    rw [if_pos (hF.end_ hj)] at hk
    exact ⟨[.val (.int .i64 0)], .lst 0, 9, 1, xs.length, strsAt xs, rfl, rfl, .lst 0 _ rfl (fun _ _ => rfl), hk⟩
abbrev ResL26 (k : SX → List Blk → Prop) (M : List Blk) : SX → List Blk → Prop := fun y M' => ∃ r x e sz n F, y = wrapX r x ∧ r.all (·.lt 0) = true ∧ ResL M' e sz n F x ∧ k (wrapX r (.lst M.length)) (M ++ [.lst e sz n F])
theorem res_errL {k : SX → List Blk → Prop} {M M' : List Blk} {e : Int} (hk : k (.tup [.c (.lst M.length), .c (.val (.int .i64 e))]) (M ++ [listOf []])) : ResL26 k M (.tup [.c (.val (.slice none 0 0)), .c (.val (.int .i64 e))]) M' :=
  ⟨[.val (.int .i64 e)], .val (.slice none 0 0), 9, 1, 0, strsAt [], rfl, rfl, .nil rfl, hk⟩
set_option maxRecDepth 100000 in
theorem e26L (O : Nat → Prop) (w0 : World) : Entry Tryz.prog O w0 26 (gFldL O w0) := fun hf args M k hg hm β w hI => by
  have hs : ∃ s, args = [tV s] := by
    unfold gFldL at hg
    split at hg
    · exact ⟨_, rfl⟩
    · exact hg.elim
  obtain ⟨s, rfl⟩ := hs
  refine Entry.madeQ (ΓS_ok (splS 32 s)) 100 5 (f := 26) (g := fun O w0 args M k => args = [tV s] ∧ gFldL O w0 args M k) (fun O w0 args M k hg β w hI => ?_) O w0 hf _ M k ⟨rfl, hg⟩ hm β w hI
  obtain ⟨rfl, hG, ⟨hle⟩, hk⟩ := hg
  have hk := hk _ _ ⟨rfl, rfl⟩
  have hlen := splS_le 32 s
  unfold fldS at hk
  refine ⟨[tV s], _, rfl, f26 _ w s (splS 32 s) (FsTo (splS 32 s)) (fun j i => 0 ≤ j ∧ j < (splS 32 s).length ∧ FsTo (splS 32 s) j ∧ FdTo ((splS 32 s).getD j.toNat ⟨#[63]⟩) i) (ResL26 k M) ?_⟩
  rw [emptyB]
  refine cond_of (fun h0 => ?_) (fun h0 => ?_)
  · rw [if_pos (of_decide_eq_true h0)] at hk
    exact res_errL hk
  rw [if_neg (of_decide_eq_false h0)] at hk
  refine ⟨hG.at hI.fr, ⟨by omega⟩, ⟨32, rfl, rfl⟩, fun _ _ => Nat.zero_le _, ⟨⟨⟨0⟩, ⟨Int.le_refl _, by omega, fun x hx => by cases hx⟩, ⟨⟨_, rfl, fun _ _ => rfl⟩, trivial⟩, fun _ => rfl, trivial⟩⟩, ?_⟩
  have hsz : ∀ x ∈ splS 32 s, x.size ≤ 1000000 := fun x hx => Nat.le_trans (splS_mem hx) hle
  generalize splS 32 s = xs at *
  rintro ⟨j⟩ J hF
  have hF : FsTo xs j := hF
  have j0 := hF.lo
  have j1 := hF.hi
  dsimp only
  have bad : ∀ M', fldB (xs.getD j.toNat ⟨#[63]⟩) = false → j < (xs.length : Int) → ResL26 k M (.tup [.c (.val (.slice none 0 0)), .c (.val (.int .i64 3))]) M' := fun M' hb hj => by
    rw [if_neg (fld_bad j0 hj hb)] at hk
    exact res_errL hk
  refine cond_of (fun hj => ?_) (fun hj => ?_)
  · have hj : j < (xs.length : Int) := of_decide_eq_true hj
    have i1 : In j (xs.length : Int) := ⟨j0, hj⟩
    have i2 : In ((j.toNat : Nat) : Int) (xs.length : Int) := ⟨by omega, by omega⟩
    rw [wrap_in (n := j + 1) (by omega) (by omega)]
    refine ⟨i1, i2, ?_⟩
    rw [emptyB]
    refine cond_of (fun hz => bad _ (fldB_empty (of_decide_eq_true hz)) hj) (fun hz => ?_)
    have hz := of_decide_eq_false hz
    refine ⟨fun _ _ => Nat.zero_le _, ⟨⟨⟨0⟩, ⟨j0, hj, hF, ⟨Int.le_refl _, by omega, fun q hq => by omega⟩⟩, ⟨⟨_, rfl, fun _ _ => rfl⟩, trivial⟩, fun _ => rfl, trivial⟩⟩, ?_⟩
    rintro ⟨i⟩ J2 ⟨_, _, _, hD⟩
    dsimp only
    have d0 := hD.lo
    have d1 := hD.hi
    have hxs := hsz _ (getD_mem (d := ⟨#[63]⟩) (show j.toNat < xs.length by omega))
    refine cond_of (fun hi => ?_) (fun hi => ?_)
    · have hi := of_decide_eq_true hi
      refine ⟨⟨d0, hi⟩, cond_of (fun a => bad _ (fldB_no d0 hi (.inl (of_decide_eq_true a))) hj) (fun a => ⟨⟨d0, hi⟩, cond_of (fun b => bad _ (fldB_no d0 hi (.inr (of_decide_eq_true b))) hj) (fun b => ?_)⟩)⟩
      rw [wrap_in (n := i + 1) (by omega) (by omega)]
      exact ⟨⟨⟨i + 1⟩, ⟨j0, hj, hF, hD.snoc hi (of_decide_eq_false a) (of_decide_eq_false b)⟩, ⟨⟨_, rfl, fun _ _ => rfl⟩, trivial⟩, fun _ => rfl, by show (_ : Int).toNat < (_ : Int).toNat; omega⟩⟩
    · have hi := of_decide_eq_false hi
      exact ⟨⟨⟨j + 1⟩, hF.snoc hj (hD.end_ hi hz), ⟨⟨_, rfl, fun _ _ => rfl⟩, trivial⟩, fun _ => rfl, by show (_ : Int).toNat < (_ : Int).toNat; omega⟩⟩
  · have hj : ¬ j < (xs.length : Int) := of_decide_eq_false hj
    rw [if_pos (hF.end_ hj)] at hk
    exact ⟨[.val (.int .i64 0)], .lst 0, 9, 1, xs.length, strsAt xs, rfl, rfl, .lst 0 _ rfl (fun _ _ => rfl), hk⟩
set_option maxRecDepth 100000 in
theorem e28L (O : Nat → Prop) (w0 : World) : Entry Tryz.prog O w0 28 (gFldL O w0) := fun hf args M k hg hm β w hI => by
  have hs : ∃ s, args = [tV s] := by
    unfold gFldL at hg
    split at hg
    · exact ⟨_, rfl⟩
    · exact hg.elim
  obtain ⟨s, rfl⟩ := hs
  refine Entry.madeQ (ΓS_ok (splS 32 s)) 100 5 (f := 28) (g := fun O w0 args M k => args = [tV s] ∧ gFldL O w0 args M k) (fun O w0 args M k hg β w hI => ?_) O w0 hf _ M k ⟨rfl, hg⟩ hm β w hI
  obtain ⟨rfl, hG, ⟨hle⟩, hk⟩ := hg
  have hk := hk _ _ ⟨rfl, rfl⟩
  have hlen := splS_le 32 s
  unfold fldS at hk
  refine ⟨[tV s], _, rfl, f28 _ w s (splS 32 s) (FsTo (splS 32 s)) (fun j i => 0 ≤ j ∧ j < (splS 32 s).length ∧ FsTo (splS 32 s) j ∧ FdTo ((splS 32 s).getD j.toNat ⟨#[63]⟩) i) (ResL26 k M) ?_⟩
  rw [emptyB]
  refine cond_of (fun h0 => ?_) (fun h0 => ?_)
  · rw [if_pos (of_decide_eq_true h0)] at hk
    exact res_errL hk
  rw [if_neg (of_decide_eq_false h0)] at hk
  refine ⟨⟨hle⟩, ⟨32, rfl, rfl⟩, fun _ _ => Nat.zero_le _, ⟨⟨⟨0⟩, ⟨Int.le_refl _, by omega, fun x hx => by cases hx⟩, ⟨⟨_, rfl, fun _ _ => rfl⟩, trivial⟩, fun _ => rfl, trivial⟩⟩, ?_⟩
  have hsz : ∀ x ∈ splS 32 s, x.size ≤ 1000000 := fun x hx => Nat.le_trans (splS_mem hx) hle
  generalize splS 32 s = xs at *
  rintro ⟨j⟩ J hF
  have hF : FsTo xs j := hF
  have j0 := hF.lo
  have j1 := hF.hi
  dsimp only
  have bad : ∀ M', fldB (xs.getD j.toNat ⟨#[63]⟩) = false → j < (xs.length : Int) → ResL26 k M (.tup [.c (.val (.slice none 0 0)), .c (.val (.int .i64 3))]) M' := fun M' hb hj => by
    rw [if_neg (fld_bad j0 hj hb)] at hk
    exact res_errL hk
  refine cond_of (fun hj => ?_) (fun hj => ?_)
  · have hj : j < (xs.length : Int) := of_decide_eq_true hj
    have i1 : In j (xs.length : Int) := ⟨j0, hj⟩
    have i2 : In ((j.toNat : Nat) : Int) (xs.length : Int) := ⟨by omega, by omega⟩
    rw [wrap_in (n := j + 1) (by omega) (by omega)]
    refine ⟨i1, i2, ?_⟩
    rw [emptyB]
    refine cond_of (fun hz => bad _ (fldB_empty (of_decide_eq_true hz)) hj) (fun hz => ?_)
    have hz := of_decide_eq_false hz
    refine ⟨fun _ _ => Nat.zero_le _, ⟨⟨⟨0⟩, ⟨j0, hj, hF, ⟨Int.le_refl _, by omega, fun q hq => by omega⟩⟩, ⟨⟨_, rfl, fun _ _ => rfl⟩, trivial⟩, fun _ => rfl, trivial⟩⟩, ?_⟩
    rintro ⟨i⟩ J2 ⟨_, _, _, hD⟩
    dsimp only
    refine ⟨i1, i2, ?_⟩
    have d0 := hD.lo
    have d1 := hD.hi
    have hxs := hsz _ (getD_mem (d := ⟨#[63]⟩) (show j.toNat < xs.length by omega))
    refine cond_of (fun hi => ?_) (fun hi => ?_)
    · have hi := of_decide_eq_true hi
      refine ⟨i1, i2, ⟨d0, hi⟩, cond_of (fun a => bad _ (fldB_no d0 hi (.inl (of_decide_eq_true a))) hj) (fun a => ⟨i1, i2, ⟨d0, hi⟩, cond_of (fun b => bad _ (fldB_no d0 hi (.inr (of_decide_eq_true b))) hj) (fun b => ?_)⟩)⟩
      rw [wrap_in (n := i + 1) (by omega) (by omega)]
      exact ⟨⟨⟨i + 1⟩, ⟨j0, hj, hF, hD.snoc hi (of_decide_eq_false a) (of_decide_eq_false b)⟩, ⟨⟨_, rfl, fun _ _ => rfl⟩, trivial⟩, fun _ => rfl, by show (_ : Int).toNat < (_ : Int).toNat; omega⟩⟩
    · have hi := of_decide_eq_false hi
      exact ⟨⟨⟨j + 1⟩, hF.snoc hj (hD.end_ hi hz), ⟨⟨_, rfl, fun _ _ => rfl⟩, trivial⟩, fun _ => rfl, by show (_ : Int).toNat < (_ : Int).toNat; omega⟩⟩
  · have hj : ¬ j < (xs.length : Int) := of_decide_eq_false hj
    rw [if_pos (hF.end_ hj)] at hk
    exact ⟨[.val (.int .i64 0)], .lst 0, 9, 1, xs.length, strsAt xs, rfl, rfl, .lst 0 _ rfl (fun _ _ => rfl), hk⟩
--SHOW
end Go.Proofs.YtfhckpfiegenaaaGreatDoor.Tr
