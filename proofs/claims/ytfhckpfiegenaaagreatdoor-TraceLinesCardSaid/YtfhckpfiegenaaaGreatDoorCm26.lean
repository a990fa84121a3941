/- ParseLine of the package: the kind with a list of values. -/
import Derived.Test.YtfhckpfiegenaaaGreatDoorCm25
namespace Go.Proofs.YtfhckpfiegenaaaGreatDoor.Tr
open Go Go.RowKit Go.Proofs.YtfhckpfiegenaaaGreatDoor.Eng Go.Proofs.YtfhckpfiegenaaaGreatDoor.Cm
set_option linter.unusedVariables false
set_option linter.unusedSimpArgs false
set_option maxRecDepth 8000
--ABBR SC.val (Value.int IntKind.i64 0) => zI
structure VlS where
  i : Int
  m : Nat
  F : Nat → List SC
  a : Int
  s : Bool
  w : Bool
def intAt (f : Nat → List SC) (j : Nat) : Int := match f j with
  | [.val (.int _ v)] => v
  | _ => 0
def intC (f : Nat → List SC) : Nat → List SC := fun j => [.val (.int .i64 (intAt f j))]
def valK (M : List Blk) : KE := match M with
  | _ :: _ :: Blk.mk _ cs :: _ => (match cs.getD 20 (.val undef) with
    | SC.lst k => KE.at_ k
    | _ => KE.nil 0 0 0)
  | _ => KE.nil 0 0 0
def c6 (v : Int) : S33 := { z33 with f0 := 6, f3 := v }
def I21r (nm : ByteArray) (xs : List ByteArray) (v : Int) (R : VlS → Prop) : LInv where
  σ := VlS
  pre := fun ⟨i, m, F, a, s, w⟩ => R ⟨i, m, F, a, s, w⟩
  mem := fun ⟨i, m, F, a, s, w⟩ => [.mk 33 (cells33 z33 (.val (.slice none 0 0))), .lst 9 1 (xs.length + 1) (strsAt (nm :: xs)), .mk 33 (cells33 (c6 v) (.lst 4)), rdB 1 (xs.length + 1 - 1) a s w, .lst 3 1 m (intC F)]
  tmp := fun ⟨i, m, F, a, s, w⟩ J => [.v (.c (.ptr 3 0)), .v (.c (.ptr 2 0)), jV (J 2), jV (J 3), jV (J 4), jV (J 5), jV (J 6), jV (J 7), jV (J 8), jV (J 9), jV (J 10), jV (J 11), jV (J 12), jV (J 13), jV (J 14), jV (J 15), jV (J 16), jV (J 17), jV (J 18), jV (J 19), jV (J 20), jV (J 21), jV (J 22), jV (J 23), jV (J 24), jV (J 25), jV (J 26), jV (J 27), jV (J 28), jV (J 29), jV (J 30), jV (J 31), jV (J 32), jV (J 33), jV (J 34), jV (J 35), jV (J 36), jV (J 37), jV (J 38), jV (J 39), jV (J 40), jV (J 41), jV (J 42), jV (J 43), jV (J 44), jV (J 45), jV (J 46), jV (J 47), jV (J 48), jV (J 49), jV (J 50), jV (J 51), jV (J 52), jV (J 53), jV (J 54), jV (J 55), jV (J 56), jV (J 57), jV (J 58), jV (J 59), jV (J 60), jV (J 61), jV (J 62), jV (J 63), jV (J 64), jV (J 65), jV (J 66), jV (J 67), jV (J 68), jV (J 69), jV (J 70), jV (J 71), jV (J 72), jV (J 73), jV (J 74), jV (J 75), jV (J 76), jV (J 77), jV (J 78), jV (J 79), jV (J 80), jV (J 81), jV (J 82), jV (J 83), jV (J 84), jV (J 85), jV (J 86), jV (J 87), jV (J 88), jV (J 89), jV (J 90), jV (J 91), jV (J 92), jV (J 93), jV (J 94), jV (J 95), jV (J 96), jV (J 97), jV (J 98), jV (J 99), jV (J 100), jV (J 101), jV (J 102), jV (J 103), jV (J 104), jV (J 105), jV (J 106), jV (J 107), jV (J 108), jV (J 109), jV (J 110), jV (J 111), jV (J 112), jV (J 113), jV (J 114), jV (J 115), jV (J 116), jV (J 117), jV (J 118), jV (J 119), jV (J 120), jV (J 121), jV (J 122), jV (J 123), jV (J 124), jV (J 125), jV (J 126), jV (J 127), jV (J 128), iV m, iV i, jV (J 131), jV (J 132), jV (J 133), jV (J 134), jV (J 135), jV (J 136), jV (J 137), jV (J 138), jV (J 139), jV (J 140), jV (J 141), jV (J 142), jV (J 143), jV (J 144), jV (J 145), jV (J 146), jV (J 147), jV (J 148), jV (J 149), jV (J 150), jV (J 151), jV (J 152), jV (J 153), jV (J 154), jV (J 155), jV (J 156), jV (J 157), jV (J 158), jV (J 159), jV (J 160), jV (J 161), jV (J 162), jV (J 163), jV (J 164), jV (J 165), jV (J 166), jV (J 167), jV (J 168), jV (J 169), jV (J 170), jV (J 171), jV (J 172), jV (J 173), jV (J 174), jV (J 175), jV (J 176), jV (J 177), jV (J 178), jV (J 179), jV (J 180), jV (J 181), jV (J 182), jV (J 183), jV (J 184), jV (J 185), jV (J 186), jV (J 187), jV (J 188), jV (J 189), jV (J 190), jV (J 191), jV (J 192), jV (J 193), jV (J 194), jV (J 195), jV (J 196)]
  read := fun M ts => ⟨0, 0, fun _ => [], 0, false, false⟩
  junk := [2, 3, 4, 5, 6, 7, 8, 9, 10, 11, 12, 13, 14, 15, 16, 17, 18, 19, 20, 21, 22, 23, 24, 25, 26, 27, 28, 29, 30, 31, 32, 33, 34, 35, 36, 37, 38, 39, 40, 41, 42, 43, 44, 45, 46, 47, 48, 49, 50, 51, 52, 53, 54, 55, 56, 57, 58, 59, 60, 61, 62, 63, 64, 65, 66, 67, 68, 69, 70, 71, 72, 73, 74, 75, 76, 77, 78, 79, 80, 81, 82, 83, 84, 85, 86, 87, 88, 89, 90, 91, 92, 93, 94, 95, 96, 97, 98, 99, 100, 101, 102, 103, 104, 105, 106, 107, 108, 109, 110, 111, 112, 113, 114, 115, 116, 117, 118, 119, 120, 121, 122, 123, 124, 125, 126, 127, 128, 131, 132, 133, 134, 135, 136, 137, 138, 139, 140, 141, 142, 143, 144, 145, 146, 147, 148, 149, 150, 151, 152, 153, 154, 155, 156, 157, 158, 159, 160, 161, 162, 163, 164, 165, 166, 167, 168, 169, 170, 171, 172, 173, 174, 175, 176, 177, 178, 179, 180, 181, 182, 183, 184, 185, 186, 187, 188, 189, 190, 191, 192, 193, 194, 195, 196]
  μ := fun ⟨i, m, F, a, s, w⟩ => (m - i).toNat
  keep := some fun M ts => [.at_ 0, .at_ 1, .at_ 2, .at_ 3, valK M]
  ex := true
def Λ6 (I : LInv) : LT := fun g j => bif Nat.beq g 21 then some I else Λ10 g j
set_option maxHeartbeats 4000000 in
set_option maxRecDepth 100000 in
theorem f10_6 (O : Nat → Prop) (w0 : World) (s nm : ByteArray) (xs : List ByteArray) (R : VlS → Prop) (K : SX → List Blk → Prop) (h_ : GlT O w0 ∧ SzM s ∧ FldIs s (nm :: xs) (0 : Int) ∧ In (0 : Int) (↑(List.length xs + (1 : Nat)) : Int) ∧ In (0 : Int) (↑(List.length xs + (1 : Nat)) : Int) ∧ GlT O w0 ∧ KdIs (List.getD (nm :: xs) (Int.toNat 0) (ByteArray.mk #[(63 : UInt8)])) (6 : Int) ∧ In (0 : Int) (↑(List.length xs + (1 : Nat)) : Int) ∧ In (0 : Int) (↑(List.length xs + (1 : Nat)) : Int) ∧ GlT O w0 ∧ KdIs (List.getD (nm :: xs) (Int.toNat 0) (ByteArray.mk #[(63 : UInt8)])) (6 : Int) ∧ Cut (1 : Int) (Option.getD none (↑(List.length xs + (1 : Nat)) : Int)) (↑(List.length xs + (1 : Nat)) : Int) ∧ strsAt (nm :: xs) = strsAt (nm :: xs) ∧ NxOk (nm :: xs) (List.length xs + (1 : Nat) - Int.toNat 1) (List.length xs + (1 : Nat)) (0 : Int) ∧ ∀ (t : ByteArray) (a' : Int) (s' : Bool), NxIs (List.tail (nm :: xs)) (0 : Int) false t a' s' → SzS t ∧ ∀ (v e : Int), IntIs t v e → (e == (6 : Int)) = (false || e == (6 : Int)) ∧ ∀ (J : Nat → Value), (bif s' then true = (s' || e != (0 : Int) && e != (6 : Int)) else bif e != (0 : Int) then (e != (6 : Int)) = (s' || e != (0 : Int) && e != (6 : Int)) else false = (s' || e != (0 : Int) && e != (6 : Int))) ∧ ∀ (J : Nat → Value), In ((↑(1 : Nat) : Int) + (↑(List.length xs + (1 : Nat) - Int.toNat 1) : Int)) ((↑(List.length xs + (1 : Nat)) : Int) + (1 : Int)) ∧ MakeN (if IntKind.wrap IntKind.i64 ((↑(List.length xs + (1 : Nat) - Int.toNat 1) : Int) - a') > (1 : Int) then IntKind.wrap IntKind.i64 ((↑(List.length xs + (1 : Nat) - Int.toNat 1) : Int) - a') else (1 : Int)) (if IntKind.wrap IntKind.i64 ((↑(List.length xs + (1 : Nat) - Int.toNat 1) : Int) - a') > (1 : Int) then IntKind.wrap IntKind.i64 ((↑(List.length xs + (1 : Nat) - Int.toNat 1) : Int) - a') else (1 : Int)) (8 : Nat) ∧ (∀ (s : VlS), LInv.pre (I21r nm xs (vlN xs st0) R) s → Nat.le (4 : Nat) (List.length (LInv.mem (I21r nm xs (vlN xs st0) R) s))) ∧ (FitE (I21r nm xs (vlN xs st0) R) [Blk.mk 33 [zI, zI, zI, zI, zI, zI, zI, zI, zI, zI, zI, zI, zI, zI, zI, zI, zI, zI, zI, zI, SC.val (Value.slice none (0 : Nat) (0 : Nat)), zI, zI, zI, zI, zI, zI, SC.val (Value.bool false)], Blk.lst (nat_lit 9) (1 : Nat) (List.length xs + (1 : Nat)) (strsAt (nm :: xs)), Blk.mk 33 [SC.val (Value.int IntKind.i64 6), zI, zI, SC.val (Value.int IntKind.i64 v), zI, zI, zI, zI, zI, zI, zI, zI, zI, zI, zI, zI, zI, zI, zI, zI, SC.lst 4, zI, zI, zI, zI, zI, zI, SC.val (Value.bool false)], Blk.mk (nat_lit 61) [SC.val (Value.bool true), SC.lsub 1 1 1 (List.length xs + (1 : Nat) - Int.toNat 1), SC.val (Value.int IntKind.i64 a'), SC.val (Value.bool (s' || e != (0 : Int) && e != (6 : Int))), SC.val (Value.bool (false || e == (6 : Int)))], Blk.lst 3 1 (Int.toNat (if IntKind.wrap IntKind.i64 ((↑(List.length xs + (1 : Nat) - Int.toNat 1) : Int) - a') > (1 : Int) then IntKind.wrap IntKind.i64 ((↑(List.length xs + (1 : Nat) - Int.toNat 1) : Int) - a') else (1 : Int))) fun x ↦ [zI]] (fun J ↦ [SX.v (SV.c (SC.ptr 3 0)), SX.v (SV.c (SC.ptr 2 0)), jV (J 2), jV (J 3), jV (J 4), jV (J 5), jV (J 6), jV (J 7), jV (J 8), jV (J 9), jV (J 10), jV (J 11), jV (J 12), jV (J 13), jV (J 14), jV (J 15), jV (J 16), jV (J 17), jV (J 18), jV (J 19), jV (J 20), jV (J 21), jV (J 22), jV (J 23), jV (J 24), jV (J 25), jV (J 26), jV (J 27), jV (J 28), jV (J 29), jV (J 30), jV (J 31), jV (J 32), jV (J 33), jV (J 34), jV (J 35), jV (J 36), jV (J 37), jV (J 38), jV (J 39), jV (J 40), jV (J 41), jV (J 42), jV (J 43), jV (J 44), jV (J 45), jV (J 46), jV (J 47), jV (J 48), jV (J 49), jV (J 50), jV (J 51), jV (J 52), jV (J 53), jV (J 54), jV (J 55), jV (J 56), jV (J 57), jV (J 58), jV (J 59), jV (J 60), jV (J 61), jV (J 62), jV (J 63), jV (J 64), jV (J 65), jV (J 66), jV (J 67), jV (J 68), jV (J 69), jV (J 70), jV (J 71), jV (J 72), jV (J 73), jV (J 74), jV (J 75), jV (J 76), jV (J 77), jV (J 78), jV (J 79), jV (J 80), jV (J 81), jV (J 82), jV (J 83), jV (J 84), jV (J 85), jV (J 86), jV (J 87), jV (J 88), jV (J 89), jV (J 90), jV (J 91), jV (J 92), jV (J 93), jV (J 94), jV (J 95), jV (J 96), jV (J 97), jV (J 98), jV (J 99), jV (J 100), jV (J 101), jV (J 102), jV (J 103), jV (J 104), jV (J 105), jV (J 106), jV (J 107), jV (J 108), jV (J 109), jV (J 110), jV (J 111), jV (J 112), jV (J 113), jV (J 114), jV (J 115), jV (J 116), jV (J 117), jV (J 118), jV (J 119), jV (J 120), jV (J 121), jV (J 122), jV (J 123), jV (J 124), jV (J 125), jV (J 126), jV (J 127), jV (J 128), SX.v (SV.c (SC.val (Value.int IntKind.i64 (↑(Int.toNat (if IntKind.wrap IntKind.i64 ((↑(List.length xs + (1 : Nat) - Int.toNat 1) : Int) - a') > (1 : Int) then IntKind.wrap IntKind.i64 ((↑(List.length xs + (1 : Nat) - Int.toNat 1) : Int) - a') else (1 : Int))) : Int)))), SX.v (SV.c (zI)), jV (J 131), jV (J 132), jV (J 133), jV (J 134), jV (J 135), jV (J 136), jV (J 137), jV (J 138), jV (J 139), jV (J 140), jV (J 141), jV (J 142), jV (J 143), jV (J 144), jV (J 145), jV (J 146), jV (J 147), jV (J 148), jV (J 149), jV (J 150), jV (J 151), jV (J 152), jV (J 153), jV (J 154), jV (J 155), jV (J 156), jV (J 157), jV (J 158), jV (J 159), jV (J 160), jV (J 161), jV (J 162), jV (J 163), jV (J 164), jV (J 165), jV (J 166), jV (J 167), jV (J 168), jV (J 169), jV (J 170), jV (J 171), jV (J 172), jV (J 173), jV (J 174), jV (J 175), jV (J 176), jV (J 177), jV (J 178), jV (J 179), jV (J 180), jV (J 181), jV (J 182), jV (J 183), jV (J 184), jV (J 185), jV (J 186), jV (J 187), jV (J 188), jV (J 189), jV (J 190), jV (J 191), jV (J 192), jV (J 193), jV (J 194), jV (J 195), jV (J 196)]) fun x ↦ True) ∧ ∀ (s : VlS) (J : Nat → Value), LInv.pre (I21r nm xs (vlN xs st0) R) s → bif decide (s.1 < (↑s.2 : Int)) then In s.1 (↑s.2 : Int) ∧ strsAt (nm :: xs) = strsAt (nm :: xs) ∧ NxOk (nm :: xs) (List.length xs + (1 : Nat) - (1 : Nat)) (List.length xs + (1 : Nat)) s.4 ∧ ∀ (t : ByteArray) (a' : Int) (s' : Bool), NxIs (List.tail (nm :: xs)) s.4 s.5 t a' s' → SzS t ∧ ∀ (v e : Int), IntIs t v e → (bif s.6 then true = (s.6 || e == (6 : Int)) else (e == (6 : Int)) = (s.6 || e == (6 : Int))) ∧ ∀ (J : Nat → Value), (bif s' then true = (s' || e != (0 : Int) && e != (6 : Int)) else bif e != (0 : Int) then (e != (6 : Int)) = (s' || e != (0 : Int) && e != (6 : Int)) else false = (s' || e != (0 : Int) && e != (6 : Int))) ∧ ∀ (J : Nat → Value), In (↑(Int.toNat s.1) : Int) (↑s.2 : Int) ∧ FitE (I21r nm xs (vlN xs st0) R) [Blk.mk (nat_lit 33) [zI, zI, zI, zI, zI, zI, zI, zI, zI, zI, zI, zI, zI, zI, zI, zI, zI, zI, zI, zI, SC.val (Value.slice none (0 : Nat) (0 : Nat)), zI, zI, zI, zI, zI, zI, SC.val (Value.bool false)], Blk.lst (nat_lit 9) (1 : Nat) (List.length xs + (1 : Nat)) (strsAt (nm :: xs)), Blk.mk (nat_lit 33) [SC.val (Value.int IntKind.i64 6), zI, zI, SC.val (Value.int IntKind.i64 (S33.f3 (c6 (vlN xs st0)))), zI, zI, zI, zI, zI, zI, zI, zI, zI, zI, zI, zI, zI, zI, zI, zI, SC.lst 4, zI, zI, zI, zI, zI, zI, SC.val (Value.bool false)], Blk.mk (nat_lit 61) [SC.val (Value.bool true), SC.lsub 1 1 1 (List.length xs + (1 : Nat) - (1 : Nat)), SC.val (Value.int IntKind.i64 a'), SC.val (Value.bool (s' || e != (0 : Int) && e != (6 : Int))), SC.val (Value.bool (s.6 || e == (6 : Int)))], Blk.lst (nat_lit 3) (1 : Nat) s.2 fun j' ↦ bif Nat.beq j' (Int.toNat s.1) then [SC.val (Value.int IntKind.i64 v)] else [SC.val (Value.int IntKind.i64 (intAt s.3 j'))]] (fun J ↦ [SX.v (SV.c (SC.ptr 3 0)), SX.v (SV.c (SC.ptr 2 0)), jV (J 2), jV (J 3), jV (J 4), jV (J 5), jV (J 6), jV (J 7), jV (J 8), jV (J 9), jV (J 10), jV (J 11), jV (J 12), jV (J 13), jV (J 14), jV (J 15), jV (J 16), jV (J 17), jV (J 18), jV (J 19), jV (J 20), jV (J 21), jV (J 22), jV (J 23), jV (J 24), jV (J 25), jV (J 26), jV (J 27), jV (J 28), jV (J 29), jV (J 30), jV (J 31), jV (J 32), jV (J 33), jV (J 34), jV (J 35), jV (J 36), jV (J 37), jV (J 38), jV (J 39), jV (J 40), jV (J 41), jV (J 42), jV (J 43), jV (J 44), jV (J 45), jV (J 46), jV (J 47), jV (J 48), jV (J 49), jV (J 50), jV (J 51), jV (J 52), jV (J 53), jV (J 54), jV (J 55), jV (J 56), jV (J 57), jV (J 58), jV (J 59), jV (J 60), jV (J 61), jV (J 62), jV (J 63), jV (J 64), jV (J 65), jV (J 66), jV (J 67), jV (J 68), jV (J 69), jV (J 70), jV (J 71), jV (J 72), jV (J 73), jV (J 74), jV (J 75), jV (J 76), jV (J 77), jV (J 78), jV (J 79), jV (J 80), jV (J 81), jV (J 82), jV (J 83), jV (J 84), jV (J 85), jV (J 86), jV (J 87), jV (J 88), jV (J 89), jV (J 90), jV (J 91), jV (J 92), jV (J 93), jV (J 94), jV (J 95), jV (J 96), jV (J 97), jV (J 98), jV (J 99), jV (J 100), jV (J 101), jV (J 102), jV (J 103), jV (J 104), jV (J 105), jV (J 106), jV (J 107), jV (J 108), jV (J 109), jV (J 110), jV (J 111), jV (J 112), jV (J 113), jV (J 114), jV (J 115), jV (J 116), jV (J 117), jV (J 118), jV (J 119), jV (J 120), jV (J 121), jV (J 122), jV (J 123), jV (J 124), jV (J 125), jV (J 126), jV (J 127), jV (J 128), SX.v (SV.c (SC.val (Value.int IntKind.i64 (↑s.2 : Int)))), SX.v (SV.c (SC.val (Value.int IntKind.i64 (IntKind.wrap IntKind.i64 (s.1 + (1 : Int)))))), jV (J 131), jV (J 132), jV (J 133), jV (J 134), jV (J 135), jV (J 136), jV (J 137), jV (J 138), jV (J 139), jV (J 140), jV (J 141), jV (J 142), jV (J 143), jV (J 144), jV (J 145), jV (J 146), jV (J 147), jV (J 148), jV (J 149), jV (J 150), jV (J 151), jV (J 152), jV (J 153), jV (J 154), jV (J 155), jV (J 156), jV (J 157), jV (J 158), jV (J 159), jV (J 160), jV (J 161), jV (J 162), jV (J 163), jV (J 164), jV (J 165), jV (J 166), jV (J 167), jV (J 168), jV (J 169), jV (J 170), jV (J 171), jV (J 172), jV (J 173), jV (J 174), jV (J 175), jV (J 176), jV (J 177), jV (J 178), jV (J 179), jV (J 180), jV (J 181), jV (J 182), jV (J 183), jV (J 184), jV (J 185), jV (J 186), jV (J 187), jV (J 188), jV (J 189), jV (J 190), jV (J 191), jV (J 192), jV (J 193), jV (J 194), jV (J 195), jV (J 196)]) fun s' ↦ LInv.μ (I21r nm xs (vlN xs st0) R) s' < LInv.μ (I21r nm xs (vlN xs st0) R) s else bif s.5 then K (SX.tup [SV.agg [zI, zI, zI, zI, zI, zI, zI, zI, zI, zI, zI, zI, zI, zI, zI, zI, zI, zI, zI, zI, SC.val (Value.slice none (0 : Nat) (0 : Nat)), zI, zI, zI, zI, zI, zI, SC.val (Value.bool false)], SV.c (SC.val (Value.int IntKind.i64 3))]) [Blk.mk (nat_lit 33) [zI, zI, zI, zI, zI, zI, zI, zI, zI, zI, zI, zI, zI, zI, zI, zI, zI, zI, zI, zI, SC.val (Value.slice none (0 : Nat) (0 : Nat)), zI, zI, zI, zI, zI, zI, SC.val (Value.bool false)], Blk.lst (nat_lit 9) (1 : Nat) (List.length xs + (1 : Nat)) (strsAt (nm :: xs)), Blk.mk (nat_lit 33) [SC.val (Value.int IntKind.i64 6), zI, zI, SC.val (Value.int IntKind.i64 (S33.f3 (c6 (vlN xs st0)))), zI, zI, zI, zI, zI, zI, zI, zI, zI, zI, zI, zI, zI, zI, zI, zI, SC.lst 4, zI, zI, zI, zI, zI, zI, SC.val (Value.bool false)], Blk.mk (nat_lit 61) [SC.val (Value.bool true), SC.lsub 1 1 1 (List.length xs + (1 : Nat) - (1 : Nat)), SC.val (Value.int IntKind.i64 s.4), SC.val (Value.bool s.5), SC.val (Value.bool s.6)], Blk.lst (nat_lit 3) (1 : Nat) s.2 (intC s.3)] else In ((↑(1 : Nat) : Int) + (↑(List.length xs + (1 : Nat) - (1 : Nat)) : Int)) ((↑(List.length xs + (1 : Nat)) : Int) + (1 : Int)) ∧ bif decide (s.4 < (↑(List.length xs + (1 : Nat) - (1 : Nat)) : Int)) then K (SX.tup [SV.agg [zI, zI, zI, zI, zI, zI, zI, zI, zI, zI, zI, zI, zI, zI, zI, zI, zI, zI, zI, zI, SC.val (Value.slice none (0 : Nat) (0 : Nat)), zI, zI, zI, zI, zI, zI, SC.val (Value.bool false)], SV.c (SC.val (Value.int IntKind.i64 3))]) [Blk.mk (nat_lit 33) [zI, zI, zI, zI, zI, zI, zI, zI, zI, zI, zI, zI, zI, zI, zI, zI, zI, zI, zI, zI, SC.val (Value.slice none (0 : Nat) (0 : Nat)), zI, zI, zI, zI, zI, zI, SC.val (Value.bool false)], Blk.lst (nat_lit 9) (1 : Nat) (List.length xs + (1 : Nat)) (strsAt (nm :: xs)), Blk.mk (nat_lit 33) [SC.val (Value.int IntKind.i64 6), zI, zI, SC.val (Value.int IntKind.i64 (S33.f3 (c6 (vlN xs st0)))), zI, zI, zI, zI, zI, zI, zI, zI, zI, zI, zI, zI, zI, zI, zI, zI, SC.lst 4, zI, zI, zI, zI, zI, zI, SC.val (Value.bool false)], Blk.mk (nat_lit 61) [SC.val (Value.bool true), SC.lsub 1 1 1 (List.length xs + (1 : Nat) - (1 : Nat)), SC.val (Value.int IntKind.i64 s.4), SC.val (Value.bool s.5), SC.val (Value.bool s.6)], Blk.lst (nat_lit 3) (1 : Nat) s.2 (intC s.3)] else bif s.6 then K (SX.tup [SV.agg [zI, zI, zI, zI, zI, zI, zI, zI, zI, zI, zI, zI, zI, zI, zI, zI, zI, zI, zI, zI, SC.val (Value.slice none (0 : Nat) (0 : Nat)), zI, zI, zI, zI, zI, zI, SC.val (Value.bool false)], SV.c (SC.val (Value.int IntKind.i64 6))]) [Blk.mk (nat_lit 33) [zI, zI, zI, zI, zI, zI, zI, zI, zI, zI, zI, zI, zI, zI, zI, zI, zI, zI, zI, zI, SC.val (Value.slice none (0 : Nat) (0 : Nat)), zI, zI, zI, zI, zI, zI, SC.val (Value.bool false)], Blk.lst (nat_lit 9) (1 : Nat) (List.length xs + (1 : Nat)) (strsAt (nm :: xs)), Blk.mk (nat_lit 33) [SC.val (Value.int IntKind.i64 6), zI, zI, SC.val (Value.int IntKind.i64 (S33.f3 (c6 (vlN xs st0)))), zI, zI, zI, zI, zI, zI, zI, zI, zI, zI, zI, zI, zI, zI, zI, zI, SC.lst 4, zI, zI, zI, zI, zI, zI, SC.val (Value.bool false)], Blk.mk (nat_lit 61) [SC.val (Value.bool true), SC.lsub 1 1 1 (List.length xs + (1 : Nat) - (1 : Nat)), SC.val (Value.int IntKind.i64 s.4), SC.val (Value.bool s.5), SC.val (Value.bool s.6)], Blk.lst (nat_lit 3) (1 : Nat) s.2 (intC s.3)] else Gl0 O w0 ∧ ∃ c, CmdM O w0 [Blk.mk (nat_lit 33) [zI, zI, zI, zI, zI, zI, zI, zI, zI, zI, zI, zI, zI, zI, zI, zI, zI, zI, zI, zI, SC.val (Value.slice none (0 : Nat) (0 : Nat)), zI, zI, zI, zI, zI, zI, SC.val (Value.bool false)], Blk.lst (nat_lit 9) (1 : Nat) (List.length xs + (1 : Nat)) (strsAt (nm :: xs)), Blk.mk (nat_lit 33) [SC.val (Value.int IntKind.i64 6), zI, zI, SC.val (Value.int IntKind.i64 (S33.f3 (c6 (vlN xs st0)))), zI, zI, zI, zI, zI, zI, zI, zI, zI, zI, zI, zI, zI, zI, zI, zI, SC.lst 4, zI, zI, zI, zI, zI, zI, SC.val (Value.bool false)], Blk.mk (nat_lit 61) [SC.val (Value.bool true), SC.lsub 1 1 1 (List.length xs + (1 : Nat) - (1 : Nat)), SC.val (Value.int IntKind.i64 s.4), SC.val (Value.bool s.5), SC.val (Value.bool s.6)], Blk.lst (nat_lit 3) (1 : Nat) s.2 (intC s.3)] (SX.v (SV.agg [SC.val (Value.int IntKind.i64 6), zI, zI, SC.val (Value.int IntKind.i64 (S33.f3 (c6 (vlN xs st0)))), zI, zI, zI, zI, zI, zI, zI, zI, zI, zI, zI, zI, zI, zI, zI, zI, SC.lst 4, zI, zI, zI, zI, zI, zI, SC.val (Value.bool false)])) c ∧ ∀ (e : Int), e = chk c → bif e != (0 : Int) then K (SX.tup [SV.agg [zI, zI, zI, zI, zI, zI, zI, zI, zI, zI, zI, zI, zI, zI, zI, zI, zI, zI, zI, zI, SC.val (Value.slice none (0 : Nat) (0 : Nat)), zI, zI, zI, zI, zI, zI, SC.val (Value.bool false)], SV.c (SC.val (Value.int IntKind.i64 e))]) [Blk.mk (nat_lit 33) [zI, zI, zI, zI, zI, zI, zI, zI, zI, zI, zI, zI, zI, zI, zI, zI, zI, zI, zI, zI, SC.val (Value.slice none (0 : Nat) (0 : Nat)), zI, zI, zI, zI, zI, zI, SC.val (Value.bool false)], Blk.lst (nat_lit 9) (1 : Nat) (List.length xs + (1 : Nat)) (strsAt (nm :: xs)), Blk.mk (nat_lit 33) [SC.val (Value.int IntKind.i64 6), zI, zI, SC.val (Value.int IntKind.i64 (S33.f3 (c6 (vlN xs st0)))), zI, zI, zI, zI, zI, zI, zI, zI, zI, zI, zI, zI, zI, zI, zI, zI, SC.lst 4, zI, zI, zI, zI, zI, zI, SC.val (Value.bool false)], Blk.mk (nat_lit 61) [SC.val (Value.bool true), SC.lsub 1 1 1 (List.length xs + (1 : Nat) - (1 : Nat)), SC.val (Value.int IntKind.i64 s.4), SC.val (Value.bool s.5), SC.val (Value.bool s.6)], Blk.lst (nat_lit 3) (1 : Nat) s.2 (intC s.3)] else K (SX.tup [SV.agg [SC.val (Value.int IntKind.i64 6), zI, zI, SC.val (Value.int IntKind.i64 (S33.f3 (c6 (vlN xs st0)))), zI, zI, zI, zI, zI, zI, zI, zI, zI, zI, zI, zI, zI, zI, zI, zI, SC.lst 4, zI, zI, zI, zI, zI, zI, SC.val (Value.bool false)], SV.c (zI)]) [Blk.mk (nat_lit 33) [SC.val (Value.int IntKind.i64 6), zI, zI, SC.val (Value.int IntKind.i64 (S33.f3 (c6 (vlN xs st0)))), zI, zI, zI, zI, zI, zI, zI, zI, zI, zI, zI, zI, zI, zI, zI, zI, SC.lst 4, zI, zI, zI, zI, zI, zI, SC.val (Value.bool false)], Blk.lst (nat_lit 9) (1 : Nat) (List.length xs + (1 : Nat)) (strsAt (nm :: xs)), Blk.mk (nat_lit 33) [SC.val (Value.int IntKind.i64 6), zI, zI, SC.val (Value.int IntKind.i64 (S33.f3 (c6 (vlN xs st0)))), zI, zI, zI, zI, zI, zI, zI, zI, zI, zI, zI, zI, zI, zI, zI, zI, SC.lst 4, zI, zI, zI, zI, zI, zI, SC.val (Value.bool false)], Blk.mk (nat_lit 61) [SC.val (Value.bool true), SC.lsub 1 1 1 (List.length xs + (1 : Nat) - (1 : Nat)), SC.val (Value.int IntKind.i64 s.4), SC.val (Value.bool s.5), SC.val (Value.bool s.6)], Blk.lst (nat_lit 3) (1 : Nat) s.2 (intC s.3)]) : evFn Tryz.prog O w0 (ΓR2 nm xs 6 O w0) (Λ6 (I21r nm xs (vlN xs st0) R)) 100 8 10 [tV s] [] (fun y M => K y M) := vc_of h_ (by kernel_rfl)
--HIDE
/-- What ParseLine leaves. -/
structure PlOut (p : S33 × Int) (y : SX) (M : List Blk) : Prop where
  out : ∃ s, y = .tup [.agg (cells33 p.1 s), .c (.val (.int .i64 p.2))] ∧ ResL M 3 1 p.1.f9.length (ints p.1.f9) s
theorem stNs_succ (xs : List ByteArray) : ∀ (i : Nat) (S : St), stNs xs (i + 1) S = stN xs (stNs xs i S)
  | 0, _ => rfl
  | i + 1, S => stNs_succ xs i (stN xs S)
theorem vlNs_succ (xs : List ByteArray) : ∀ (i : Nat) (S : St), vlNs xs (i + 1) S = vlNs xs i S ++ [vlN xs (stNs xs i S)]
  | 0, _ => rfl
  | i + 1, S => by
    show vlN xs S :: vlNs xs (i + 1) (stN xs S) = (vlN xs S :: vlNs xs i (stN xs S)) ++ [vlN xs (stNs xs i (stN xs S))]
    rw [vlNs_succ xs i (stN xs S)]; rfl
theorem vlNs_len (xs : List ByteArray) : ∀ (i : Nat) (S : St), (vlNs xs i S).length = i
  | 0, _ => rfl
  | i + 1, S => by show (vlNs xs i (stN xs S)).length + 1 = i + 1; rw [vlNs_len xs i]
theorem stNs_ok {xs : List ByteArray} {S : St} (h : StOk xs S) : ∀ i, StOk xs (stNs xs i S)
  | 0 => h
  | i + 1 => by rw [stNs_succ]; exact stN_ok (stNs_ok h i)
theorem intC_of {G : Nat → List SC} {v : Int} {j : Nat} (h : G j = [.val (.int .i64 v)]) : intC G j = G j := by
  unfold intC intAt
  rw [h]
theorem ints_snoc {l : List Int} {v : Int} {i j : Nat} (hl : l.length = i) (F : Nat → List SC) (h : F j = ints l j) : (bif Nat.beq j i then [SC.val (.int .i64 v)] else F j) = ints (l ++ [v]) j := by
  unfold ints
  by_cases e : j = i
  · subst e
    rw [Nat.beq_refl, cond_true, List.getD_eq_getElem?_getD, List.getElem?_append_right (by omega), hl, Nat.sub_self]; rfl
  · have hb : Nat.beq j i = false := by
      cases hb : Nat.beq j i with
      | false => rfl
      | true => exact absurd (Nat.eq_of_beq_eq_true hb) e
    rw [hb, cond_false, h]
    unfold ints
    rw [List.getD_eq_getElem?_getD, List.getD_eq_getElem?_getD]
    by_cases h2 : j < l.length
    · rw [List.getElem?_append_left h2]
    · rw [List.getElem?_append_right (by omega), List.getElem?_eq_none (by omega), List.getElem?_eq_none (by simp; omega)]
/-- One value more. -/
def G6 (xs : List ByteArray) (i : Nat) (F : Nat → List SC) : Nat → List SC := fun j => bif Nat.beq j i then [SC.val (.int .i64 (vlN xs (stNs xs i (stN xs st0))))] else intC F j
theorem G6_at {xs : List ByteArray} {i : Nat} {F : Nat → List SC} {j : Nat} (h : intC F j = ints (vlNs xs i (stN xs st0)) j) : G6 xs i F j = ints (vlNs xs (i + 1) (stN xs st0)) j := by
  rw [vlNs_succ]
  exact ints_snoc (vlNs_len xs _ _) (intC F) h
theorem G6_C {xs : List ByteArray} {i : Nat} {F : Nat → List SC} {j : Nat} (h : intC F j = ints (vlNs xs i (stN xs st0)) j) : intC (G6 xs i F) j = G6 xs i F j := intC_of (v := (vlNs xs (i + 1) (stN xs st0)).getD j 0) (G6_at h)
theorem tail6 {K : SX → List Blk → Prop} {O : Nat → Prop} {w0 : World} {M1 M2 : List Blk} {S : St} {c : S33} {sc : SC} {n : Nat} {a q x y : Int} {s w : Bool} (hG : Gl0 O w0) (ha : a = S.a) (hs : s = S.s) (hw : w = S.w) (hq : q = (n : Int)) (hin : In x y)
    (hC : CmdM O w0 M1 (.v (.agg (cells33 c sc))) c) (hR : ResL M2 3 1 c.f9.length (ints c.f9) sc) (hK : ∀ y M, PlOut (outP c S n) y M → K y M) :
    bif s then K (tupC (z33, 3)) M1 else In x y ∧ bif decide (a < q) then K (tupC (z33, 3)) M1 else bif w then K (tupC (z33, 6)) M1 else
      Gl0 O w0 ∧ ∃ c', CmdM O w0 M1 (.v (.agg (cells33 c sc))) c' ∧ ∀ e, e = chk c' → bif e != 0 then K (tupC (z33, e)) M1 else K (.tup [.agg (cells33 c sc), .c (.val (.int .i64 0))]) M2 := by
  subst ha hs hw hq
  have herr : ∀ (e : Int) M, outP c S n = (z33, e) → K (tupC (z33, e)) M := fun e M he => hK _ M (by rw [he]; exact ⟨_, rfl, .nil rfl⟩)
  unfold outP at herr hK
  refine cond_of (fun h => herr 3 _ (by rw [if_pos (.inl h)])) (fun h => ⟨hin, cond_of (fun h2 => herr 3 _ (by rw [if_pos (.inr (of_decide_eq_true h2))])) (fun h2 => ?_)⟩)
  have hno : ¬ (S.s = true ∨ S.a < n) := by
    rintro (h4 | h4)
    · rw [h] at h4; cases h4
    · exact of_decide_eq_false h2 h4
  refine cond_of (fun h3 => herr 6 _ (by rw [if_neg hno, if_pos h3])) (fun h3 => ⟨hG, c, hC, fun e he => ?_⟩)
  subst he
  have hno2 : ¬ S.w = true := by rw [h3]; decide
  refine cond_of (fun h5 => herr _ _ (by rw [if_neg hno, if_neg hno2, if_pos (by simpa using h5)])) (fun h5 => hK _ _ ?_)
  rw [if_neg hno, if_neg hno2, if_neg (by simpa using h5)]
  exact ⟨sc, rfl, hR⟩
def R6 (xs : List ByteArray) : VlS → Prop := fun ⟨i, m, F, a, s, w⟩ => 0 ≤ i ∧ i ≤ m ∧ m = uniN xs ∧ a = (stNs xs i.toNat (stN xs st0)).a ∧ s = (stNs xs i.toNat (stN xs st0)).s ∧ w = (stNs xs i.toNat (stN xs st0)).w ∧ ∀ j, j < m → intC F j = ints (vlNs xs i.toNat (stN xs st0)) j
theorem uni_eq {xs : List ByteArray} (hz : xs.length ≤ 1000001) : (if IntKind.i64.wrap (((xs.length + 1 - Int.toNat 1 : Nat) : Int) - (stN xs st0).a) > 1 then IntKind.i64.wrap (((xs.length + 1 - Int.toNat 1 : Nat) : Int) - (stN xs st0).a) else 1) = (uniN xs : Int) := by
  have ha : (stN xs st0).a = if (0 : Int) < xs.length then 1 else 0 := rfl
  rw [ha, show ((xs.length + 1 - Int.toNat 1 : Nat) : Int) = xs.length by show ((xs.length + 1 - 1 : Nat) : Int) = _; omega]
  unfold uniN
  split
  · rename_i h
    rw [wrap_in (by omega) (by omega)]
    split <;> omega
  · rename_i h
    rw [wrap_in (by omega) (by omega)]
    split <;> omega
theorem rdC_6 (xs : List ByteArray) : rdC 6 xs = (({ z33 with f0 := 6, f3 := vlN xs st0, f9 := vlNs xs (uniN xs) (stN xs st0) } : S33), stNs xs (uniN xs) (stN xs st0)) := rfl
set_option maxHeartbeats 2000000 in
set_option maxRecDepth 100000 in
theorem pl_6 {O : Nat → Prop} {w0 : World} {s nm : ByteArray} {xs : List ByteArray} {K : SX → List Blk → Prop} (hG : GlT O w0) (hs : SzM s) (hf : FldIs s (nm :: xs) 0) (hk : KdIs nm 6) (hz : SzX xs) (hK : ∀ y M, PlOut (outP (rdC 6 xs).1 (rdC 6 xs).2 xs.length) y M → K y M) : evFn Tryz.prog O w0 (ΓR2 nm xs 6 O w0) (Λ6 (I21r nm xs (vlN xs st0) (R6 xs))) 100 8 10 [tV s] [] (fun y M => K y M) := by
  have i0 : In 0 ((xs.length + 1 : Nat) : Int) := ⟨by omega, by omega⟩
  have hin : In (((Int.toNat 1 : Nat) : Int) + ((xs.length + 1 - Int.toNat 1 : Nat) : Int)) (((xs.length + 1 : Nat) : Int) + 1) := ⟨by omega, by omega⟩
  have hl := hz.len
  refine @f10_6 O w0 s nm xs (R6 xs) K ⟨hG, hs, hf, i0, i0, hG, hk, i0, i0, hG, hk, ⟨by omega, by show (1 : Int) ≤ ((xs.length + 1 : Nat) : Int); omega, Int.le_refl _⟩, ?_⟩
  refine ⟨rfl, nxok hz st0_ok (rfl : (0 : Int) = st0.a), fun t0 a0 s0 n0 => ⟨nxsz hz n0, fun v0 e0 q0 => ?_⟩⟩
  obtain ⟨hv0, ha0, hs0, hw0⟩ := nx_num (xs := xs) (S := st0) (rfl : (0 : Int) = st0.a) (rfl : false = st0.s) (rfl : false = st0.w) n0 q0
  subst hv0
  refine ⟨by first | exact jn6 _ _ | exact rfl, fun J0 => ⟨by first | exact jn7 _ _ | exact rfl, fun L0 => ?_⟩⟩
  subst ha0
  have hu := uni_eq hl
  have hub : uniN xs ≤ 1000001 := by unfold uniN; omega
  rw [hu, hs0, hw0]
  refine ⟨hin, ⟨by omega, Int.le_refl _, by omega⟩, fun _ _ => Nat.le_succ 4, ⟨⟨⟨0, uniN xs, fun _ => [.val (.int .i64 0)], (stN xs st0).a, (stN xs st0).s, (stN xs st0).w⟩, ⟨Int.le_refl _, by omega, rfl, rfl, rfl, rfl, fun j hj => rfl⟩, ⟨rfl, ⟨_, rfl, fun _ _ => rfl⟩, rfl, rfl, ⟨fun _ => [.val (.int .i64 0)], by rw [Int.toNat_natCast]; rfl, fun _ _ => rfl⟩, trivial⟩, fun _ => by rw [Int.toNat_natCast]; rfl, trivial⟩⟩, ?_⟩
  rintro ⟨i, m, F, a, s1, w1⟩ J ⟨h0, h1, rfl, ha, hs1, hw1, hF⟩
  dsimp only
  have hok := stNs_ok (stN_ok (xs := xs) st0_ok) i.toNat
  refine cond_of (fun hi => ?_) (fun hi => ?_)
  · have hi : i < ((uniN xs : Nat) : Int) := of_decide_eq_true hi
    have ii : In i ((uniN xs : Nat) : Int) := ⟨h0, hi⟩
    refine ⟨ii, rfl, nxok hz hok ha, fun t1 a1 s2 n1 => ⟨nxsz hz n1, fun v1 e1 q1 => ?_⟩⟩
    obtain ⟨hv1, ha1, hs2, hw2⟩ := nx_num (xs := xs) (S := stNs xs i.toNat (stN xs st0)) ha hs1 hw1 n1 q1
    subst hv1
    refine ⟨by first | exact jn6 _ _ | exact rfl, fun J1 => ⟨by first | exact jn7 _ _ | exact rfl, fun L1 => ?_⟩⟩
    rw [hs2, hw2, ha1, wrap_in (n := i + 1) (by omega) (by omega)]
    have hi1 : (i + 1).toNat = i.toNat + 1 := by omega
    refine ⟨⟨by omega, by omega⟩, ⟨⟨⟨i + 1, uniN xs, G6 xs i.toNat F, _, _, _⟩, ⟨by omega, by omega, rfl, by rw [hi1, stNs_succ], by rw [hi1, stNs_succ], by rw [hi1, stNs_succ], fun j hj => ?_⟩, ⟨rfl, ⟨_, rfl, fun _ _ => rfl⟩, rfl, rfl, ⟨_, rfl, fun j hj => (G6_C (hF j hj)).symm⟩, trivial⟩, fun _ => rfl, by show (_ : Int).toNat < (_ : Int).toNat; omega⟩⟩⟩
    rw [hi1, G6_C (hF j hj)]
    exact G6_at (hF j hj)
  · have hi : ¬ i < ((uniN xs : Nat) : Int) := of_decide_eq_false hi
    have hiu : i.toNat = uniN xs := by omega
    rw [hiu] at ha hs1 hw1 hF
    rw [rdC_6] at hK
    have hlen := vlNs_len xs (uniN xs) (stN xs st0)
    exact tail6 (S := stNs xs (uniN xs) (stN xs st0)) (c := { z33 with f0 := 6, f3 := vlN xs st0, f9 := vlNs xs (uniN xs) (stN xs st0) }) (sc := .lst 4) (n := xs.length) hG.nm ha hs1 hw1 (by omega) ⟨by omega, by omega⟩
      ⟨by show (vlNs xs (uniN xs) (stN xs st0)).length ≤ _; omega, .inr (.inl ⟨4, rfl, intC F, by show some (Blk.lst 3 1 (uniN xs) (intC F)) = some (.lst 3 1 (vlNs xs (uniN xs) (stN xs st0)).length (intC F)); rw [hlen], fun j hj => hF j (by rw [← hlen]; exact hj)⟩)⟩
      (by show ResL _ 3 1 (vlNs xs (uniN xs) (stN xs st0)).length _ _; rw [hlen]; exact .lst 4 _ rfl hF) hK
--SHOW
end Go.Proofs.YtfhckpfiegenaaaGreatDoor.Tr
