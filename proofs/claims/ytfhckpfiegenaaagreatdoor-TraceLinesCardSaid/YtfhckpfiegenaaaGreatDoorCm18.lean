/- The reference's fields of a valid command, kind by kind; their contract. -/
import Derived.Test.YtfhckpfiegenaaaGreatDoorCm17
import Derived.Test.YtfhckpfiegenaaaGreatDoorCm21
namespace Go.Proofs.YtfhckpfiegenaaaGreatDoor.Tr
open Go Go.RowKit Go.Proofs.YtfhckpfiegenaaaGreatDoor.Eng Go.Proofs.YtfhckpfiegenaaaGreatDoor.Cm
set_option linter.unusedVariables false
set_option linter.unusedSimpArgs false
set_option maxRecDepth 8000
set_option maxHeartbeats 4000000 in
set_option maxRecDepth 100000 in
theorem f51 (O : Nat → Prop) (w0 : World) (n : Int) (K : SX → Prop) (h_ : bif decide (n < (1 : Int)) then K (SX.v (SV.c (SC.val (Value.string (ByteArray.mk #[(63 : UInt8)]))))) else bif decide (n > (4 : Int)) then K (SX.v (SV.c (SC.val (Value.string (ByteArray.mk #[(63 : UInt8)]))))) else bif decide (IntKind.wrap IntKind.i64 (n - (1 : Int)) = (↑(0 : Nat) : Int)) then K (SX.v (SV.c (SC.val (Value.string (ByteArray.mk #[(110 : UInt8), (111 : UInt8), (110 : UInt8), (101 : UInt8)]))))) else bif decide (IntKind.wrap IntKind.i64 (n - (1 : Int)) = (↑((0 : Nat) + (1 : Nat)) : Int)) then K (SX.v (SV.c (SC.val (Value.string (ByteArray.mk #[(105 : UInt8), (110 : UInt8), (100 : UInt8), (101 : UInt8), (120 : UInt8), (56 : UInt8)]))))) else bif decide (IntKind.wrap IntKind.i64 (n - (1 : Int)) = (↑((0 : Nat) + (1 : Nat) + (1 : Nat)) : Int)) then K (SX.v (SV.c (SC.val (Value.string (ByteArray.mk #[(105 : UInt8), (110 : UInt8), (100 : UInt8), (101 : UInt8), (120 : UInt8), (49 : UInt8), (54 : UInt8)]))))) else bif decide (IntKind.wrap IntKind.i64 (n - (1 : Int)) = (↑((0 : Nat) + (1 : Nat) + (1 : Nat) + (1 : Nat)) : Int)) then K (SX.v (SV.c (SC.val (Value.string (ByteArray.mk #[(105 : UInt8), (110 : UInt8), (100 : UInt8), (101 : UInt8), (120 : UInt8), (51 : UInt8), (50 : UInt8)]))))) else False) : evFn Tryz.prog O w0 ((fun _ _ _ => none : TabF) O w0) Λn 100 5 51 [iV n] [] (fun y _ => K y) := vc_of h_ (by kernel_rfl)
set_option maxHeartbeats 4000000 in
set_option maxRecDepth 100000 in
theorem f52 (O : Nat → Prop) (w0 : World) (n : Int) (K : SX → Prop) (h_ : bif decide (n < (1 : Int)) then K (SX.v (SV.c (SC.val (Value.string (ByteArray.mk #[(63 : UInt8)]))))) else bif decide (n > (5 : Int)) then K (SX.v (SV.c (SC.val (Value.string (ByteArray.mk #[(63 : UInt8)]))))) else bif decide (IntKind.wrap IntKind.i64 (n - (1 : Int)) = (↑(0 : Nat) : Int)) then K (SX.v (SV.c (SC.val (Value.string (ByteArray.mk #[(117 : UInt8), (110 : UInt8), (100 : UInt8), (101 : UInt8), (102 : UInt8), (105 : UInt8), (110 : UInt8), (101 : UInt8), (100 : UInt8)]))))) else bif decide (IntKind.wrap IntKind.i64 (n - (1 : Int)) = (↑((0 : Nat) + (1 : Nat)) : Int)) then K (SX.v (SV.c (SC.val (Value.string (ByteArray.mk #[(114 : UInt8), (101 : UInt8), (97 : UInt8), (100 : UInt8)]))))) else bif decide (IntKind.wrap IntKind.i64 (n - (1 : Int)) = (↑((0 : Nat) + (1 : Nat) + (1 : Nat)) : Int)) then K (SX.v (SV.c (SC.val (Value.string (ByteArray.mk #[(116 : UInt8), (97 : UInt8), (114 : UInt8), (103 : UInt8), (101 : UInt8), (116 : UInt8)]))))) else bif decide (IntKind.wrap IntKind.i64 (n - (1 : Int)) = (↑((0 : Nat) + (1 : Nat) + (1 : Nat) + (1 : Nat)) : Int)) then K (SX.v (SV.c (SC.val (Value.string (ByteArray.mk #[(115 : UInt8), (111 : UInt8), (117 : UInt8), (114 : UInt8), (99 : UInt8), (101 : UInt8)]))))) else bif decide (IntKind.wrap IntKind.i64 (n - (1 : Int)) = (↑((0 : Nat) + (1 : Nat) + (1 : Nat) + (1 : Nat) + (1 : Nat)) : Int)) then K (SX.v (SV.c (SC.val (Value.string (ByteArray.mk #[(99 : UInt8), (111 : UInt8), (112 : UInt8), (121 : UInt8)]))))) else False) : evFn Tryz.prog O w0 ((fun _ _ _ => none : TabF) O w0) Λn 100 5 52 [iV n] [] (fun y _ => K y) := vc_of h_ (by kernel_rfl)
def gWr (l : List ByteArray) : EntF := fun _ _ args M k => match args with
  | [.v (.c (.val (.int .i64 n)))] => I64 n ∧ ∀ r, r = wOf l n → k (tV r) M
  | _ => False
def ΓU : TabF := addF (addF (addF ΓT 50 gDec) 51 (gWr ixTab)) 52 (gWr stTab)
set_option maxHeartbeats 4000000 in
set_option maxRecDepth 100000 in
theorem f25_1 (O : Nat → Prop) (w0 : World) (x : S33) (A : Option Addr) (c : Nat) (K : SX → List Blk → Prop) (h_ : GlT O w0 ∧ I64 (S33.f2 x) ∧ K (SX.v (SV.c (SC.sl 1 0 1 1))) [Blk.mk 33 [SC.val (Value.int IntKind.i64 1), SC.val (Value.int IntKind.i64 (S33.f1 x)), SC.val (Value.int IntKind.i64 (S33.f2 x)), SC.val (Value.int IntKind.i64 (S33.f3 x)), SC.val (Value.int IntKind.i64 (S33.f4 x)), SC.val (Value.int IntKind.i64 (S33.f5 x)), SC.val (Value.int IntKind.i64 (S33.f6 x)), SC.val (Value.int IntKind.i64 (S33.f7 x)), SC.val (Value.int IntKind.i64 (S30.f0 (S33.f8 x))), SC.val (Value.int IntKind.i64 (S30.f1 (S33.f8 x))), SC.val (Value.int IntKind.i64 (S30.f2 (S33.f8 x))), SC.val (Value.int IntKind.i64 (S30.f3 (S33.f8 x))), SC.val (Value.int IntKind.i64 (S30.f4 (S33.f8 x))), SC.val (Value.int IntKind.i64 (S28.f0 (S30.f5 (S33.f8 x)))), SC.val (Value.int IntKind.i64 (S28.f1 (S30.f5 (S33.f8 x)))), SC.val (Value.int IntKind.i64 (S28.f2 (S30.f5 (S33.f8 x)))), SC.val (Value.int IntKind.i64 (S28.f3 (S30.f5 (S33.f8 x)))), SC.val (Value.int IntKind.i64 (S30.f6 (S33.f8 x))), SC.val (Value.int IntKind.i64 (S30.f7 (S33.f8 x))), SC.val (Value.int IntKind.i64 (S30.f8 (S33.f8 x))), SC.rsl A (1 : Nat) (ints (S33.f9 x)) (0 : Nat) (List.length (S33.f9 x)) c, SC.val (Value.int IntKind.i64 (S28.f0 (S33.f10 x))), SC.val (Value.int IntKind.i64 (S28.f1 (S33.f10 x))), SC.val (Value.int IntKind.i64 (S28.f2 (S33.f10 x))), SC.val (Value.int IntKind.i64 (S28.f3 (S33.f10 x))), SC.val (Value.int IntKind.i64 (S33.f11 x)), SC.val (Value.int IntKind.i64 (S33.f12 x)), SC.val (Value.bool (S33.f13 x))], Blk.mk 9 [SC.val (Value.string (fiS (S33.f2 x)))]]) : evFn Tryz.prog O w0 (ΓU O w0) Λn 100 5 25 [cmdK 1 x A c] [] (fun y M => K y M) := vc_of h_ (by kernel_rfl)
set_option maxHeartbeats 4000000 in
set_option maxRecDepth 100000 in
theorem f25_2 (O : Nat → Prop) (w0 : World) (x : S33) (A : Option Addr) (c : Nat) (K : SX → List Blk → Prop) (h_ : GlT O w0 ∧ I64 (S33.f2 x) ∧ GlT O w0 ∧ ∃ l, NumsM O w0 [Blk.mk 33 [SC.val (Value.int IntKind.i64 2), SC.val (Value.int IntKind.i64 (S33.f1 x)), SC.val (Value.int IntKind.i64 (S33.f2 x)), SC.val (Value.int IntKind.i64 (S33.f3 x)), SC.val (Value.int IntKind.i64 (S33.f4 x)), SC.val (Value.int IntKind.i64 (S33.f5 x)), SC.val (Value.int IntKind.i64 (S33.f6 x)), SC.val (Value.int IntKind.i64 (S33.f7 x)), SC.val (Value.int IntKind.i64 (S30.f0 (S33.f8 x))), SC.val (Value.int IntKind.i64 (S30.f1 (S33.f8 x))), SC.val (Value.int IntKind.i64 (S30.f2 (S33.f8 x))), SC.val (Value.int IntKind.i64 (S30.f3 (S33.f8 x))), SC.val (Value.int IntKind.i64 (S30.f4 (S33.f8 x))), SC.val (Value.int IntKind.i64 (S28.f0 (S30.f5 (S33.f8 x)))), SC.val (Value.int IntKind.i64 (S28.f1 (S30.f5 (S33.f8 x)))), SC.val (Value.int IntKind.i64 (S28.f2 (S30.f5 (S33.f8 x)))), SC.val (Value.int IntKind.i64 (S28.f3 (S30.f5 (S33.f8 x)))), SC.val (Value.int IntKind.i64 (S30.f6 (S33.f8 x))), SC.val (Value.int IntKind.i64 (S30.f7 (S33.f8 x))), SC.val (Value.int IntKind.i64 (S30.f8 (S33.f8 x))), SC.rsl A (1 : Nat) (ints (S33.f9 x)) (0 : Nat) (List.length (S33.f9 x)) c, SC.val (Value.int IntKind.i64 (S28.f0 (S33.f10 x))), SC.val (Value.int IntKind.i64 (S28.f1 (S33.f10 x))), SC.val (Value.int IntKind.i64 (S28.f2 (S33.f10 x))), SC.val (Value.int IntKind.i64 (S28.f3 (S33.f10 x))), SC.val (Value.int IntKind.i64 (S33.f11 x)), SC.val (Value.int IntKind.i64 (S33.f12 x)), SC.val (Value.bool (S33.f13 x))], Blk.mk 3 [SC.val (Value.int IntKind.i64 (S33.f1 x)), SC.val (Value.int IntKind.i64 (S33.f2 x))]] (SX.v (SV.c (SC.sl 1 0 2 2))) l ∧ AllI l ∧ ∀ (F : Nat → List SC), LsX encS (ByteArray.mk #[]) (List.length l) F (List.map fiS l) → K (SX.v (SV.c (SC.lst 2))) [Blk.mk 33 [SC.val (Value.int IntKind.i64 2), SC.val (Value.int IntKind.i64 (S33.f1 x)), SC.val (Value.int IntKind.i64 (S33.f2 x)), SC.val (Value.int IntKind.i64 (S33.f3 x)), SC.val (Value.int IntKind.i64 (S33.f4 x)), SC.val (Value.int IntKind.i64 (S33.f5 x)), SC.val (Value.int IntKind.i64 (S33.f6 x)), SC.val (Value.int IntKind.i64 (S33.f7 x)), SC.val (Value.int IntKind.i64 (S30.f0 (S33.f8 x))), SC.val (Value.int IntKind.i64 (S30.f1 (S33.f8 x))), SC.val (Value.int IntKind.i64 (S30.f2 (S33.f8 x))), SC.val (Value.int IntKind.i64 (S30.f3 (S33.f8 x))), SC.val (Value.int IntKind.i64 (S30.f4 (S33.f8 x))), SC.val (Value.int IntKind.i64 (S28.f0 (S30.f5 (S33.f8 x)))), SC.val (Value.int IntKind.i64 (S28.f1 (S30.f5 (S33.f8 x)))), SC.val (Value.int IntKind.i64 (S28.f2 (S30.f5 (S33.f8 x)))), SC.val (Value.int IntKind.i64 (S28.f3 (S30.f5 (S33.f8 x)))), SC.val (Value.int IntKind.i64 (S30.f6 (S33.f8 x))), SC.val (Value.int IntKind.i64 (S30.f7 (S33.f8 x))), SC.val (Value.int IntKind.i64 (S30.f8 (S33.f8 x))), SC.rsl A (1 : Nat) (ints (S33.f9 x)) (0 : Nat) (List.length (S33.f9 x)) c, SC.val (Value.int IntKind.i64 (S28.f0 (S33.f10 x))), SC.val (Value.int IntKind.i64 (S28.f1 (S33.f10 x))), SC.val (Value.int IntKind.i64 (S28.f2 (S33.f10 x))), SC.val (Value.int IntKind.i64 (S28.f3 (S33.f10 x))), SC.val (Value.int IntKind.i64 (S33.f11 x)), SC.val (Value.int IntKind.i64 (S33.f12 x)), SC.val (Value.bool (S33.f13 x))], Blk.mk 3 [SC.val (Value.int IntKind.i64 (S33.f1 x)), SC.val (Value.int IntKind.i64 (S33.f2 x))], Blk.lst (nat_lit 9) (1 : Nat) (List.length l) F]) : evFn Tryz.prog O w0 (ΓU O w0) Λn 100 5 25 [cmdK 2 x A c] [] (fun y M => K y M) := vc_of h_ (by kernel_rfl)
set_option maxHeartbeats 4000000 in
set_option maxRecDepth 100000 in
theorem f25_3 (O : Nat → Prop) (w0 : World) (x : S33) (A : Option Addr) (c : Nat) (K : SX → List Blk → Prop) (h_ : GlT O w0 ∧ I64 (S33.f2 x) ∧ I64 (S33.f5 x) ∧ ∀ (r : ByteArray), r = wOf ixTab (S33.f5 x) → K (SX.v (SV.c (SC.sl 1 0 2 2))) [Blk.mk 33 [SC.val (Value.int IntKind.i64 3), SC.val (Value.int IntKind.i64 (S33.f1 x)), SC.val (Value.int IntKind.i64 (S33.f2 x)), SC.val (Value.int IntKind.i64 (S33.f3 x)), SC.val (Value.int IntKind.i64 (S33.f4 x)), SC.val (Value.int IntKind.i64 (S33.f5 x)), SC.val (Value.int IntKind.i64 (S33.f6 x)), SC.val (Value.int IntKind.i64 (S33.f7 x)), SC.val (Value.int IntKind.i64 (S30.f0 (S33.f8 x))), SC.val (Value.int IntKind.i64 (S30.f1 (S33.f8 x))), SC.val (Value.int IntKind.i64 (S30.f2 (S33.f8 x))), SC.val (Value.int IntKind.i64 (S30.f3 (S33.f8 x))), SC.val (Value.int IntKind.i64 (S30.f4 (S33.f8 x))), SC.val (Value.int IntKind.i64 (S28.f0 (S30.f5 (S33.f8 x)))), SC.val (Value.int IntKind.i64 (S28.f1 (S30.f5 (S33.f8 x)))), SC.val (Value.int IntKind.i64 (S28.f2 (S30.f5 (S33.f8 x)))), SC.val (Value.int IntKind.i64 (S28.f3 (S30.f5 (S33.f8 x)))), SC.val (Value.int IntKind.i64 (S30.f6 (S33.f8 x))), SC.val (Value.int IntKind.i64 (S30.f7 (S33.f8 x))), SC.val (Value.int IntKind.i64 (S30.f8 (S33.f8 x))), SC.rsl A (1 : Nat) (ints (S33.f9 x)) (0 : Nat) (List.length (S33.f9 x)) c, SC.val (Value.int IntKind.i64 (S28.f0 (S33.f10 x))), SC.val (Value.int IntKind.i64 (S28.f1 (S33.f10 x))), SC.val (Value.int IntKind.i64 (S28.f2 (S33.f10 x))), SC.val (Value.int IntKind.i64 (S28.f3 (S33.f10 x))), SC.val (Value.int IntKind.i64 (S33.f11 x)), SC.val (Value.int IntKind.i64 (S33.f12 x)), SC.val (Value.bool (S33.f13 x))], Blk.mk 9 [SC.val (Value.string (fiS (S33.f2 x))), SC.val (Value.string r)]]) : evFn Tryz.prog O w0 (ΓU O w0) Λn 100 5 25 [cmdK 3 x A c] [] (fun y M => K y M) := vc_of h_ (by kernel_rfl)
set_option maxHeartbeats 4000000 in
set_option maxRecDepth 100000 in
theorem f25_4 (O : Nat → Prop) (w0 : World) (x : S33) (A : Option Addr) (c : Nat) (K : SX → List Blk → Prop) (h_ : GlT O w0 ∧ I64 (S33.f2 x) ∧ GlT O w0 ∧ ∃ l, NumsM O w0 [Blk.mk 33 [SC.val (Value.int IntKind.i64 4), SC.val (Value.int IntKind.i64 (S33.f1 x)), SC.val (Value.int IntKind.i64 (S33.f2 x)), SC.val (Value.int IntKind.i64 (S33.f3 x)), SC.val (Value.int IntKind.i64 (S33.f4 x)), SC.val (Value.int IntKind.i64 (S33.f5 x)), SC.val (Value.int IntKind.i64 (S33.f6 x)), SC.val (Value.int IntKind.i64 (S33.f7 x)), SC.val (Value.int IntKind.i64 (S30.f0 (S33.f8 x))), SC.val (Value.int IntKind.i64 (S30.f1 (S33.f8 x))), SC.val (Value.int IntKind.i64 (S30.f2 (S33.f8 x))), SC.val (Value.int IntKind.i64 (S30.f3 (S33.f8 x))), SC.val (Value.int IntKind.i64 (S30.f4 (S33.f8 x))), SC.val (Value.int IntKind.i64 (S28.f0 (S30.f5 (S33.f8 x)))), SC.val (Value.int IntKind.i64 (S28.f1 (S30.f5 (S33.f8 x)))), SC.val (Value.int IntKind.i64 (S28.f2 (S30.f5 (S33.f8 x)))), SC.val (Value.int IntKind.i64 (S28.f3 (S30.f5 (S33.f8 x)))), SC.val (Value.int IntKind.i64 (S30.f6 (S33.f8 x))), SC.val (Value.int IntKind.i64 (S30.f7 (S33.f8 x))), SC.val (Value.int IntKind.i64 (S30.f8 (S33.f8 x))), SC.rsl A (1 : Nat) (ints (S33.f9 x)) (0 : Nat) (List.length (S33.f9 x)) c, SC.val (Value.int IntKind.i64 (S28.f0 (S33.f10 x))), SC.val (Value.int IntKind.i64 (S28.f1 (S33.f10 x))), SC.val (Value.int IntKind.i64 (S28.f2 (S33.f10 x))), SC.val (Value.int IntKind.i64 (S28.f3 (S33.f10 x))), SC.val (Value.int IntKind.i64 (S33.f11 x)), SC.val (Value.int IntKind.i64 (S33.f12 x)), SC.val (Value.bool (S33.f13 x))], Blk.mk 30 [SC.val (Value.int IntKind.i64 (S30.f0 (S33.f8 x))), SC.val (Value.int IntKind.i64 (S30.f1 (S33.f8 x))), SC.val (Value.int IntKind.i64 (S30.f2 (S33.f8 x))), SC.val (Value.int IntKind.i64 (S30.f3 (S33.f8 x))), SC.val (Value.int IntKind.i64 (S30.f4 (S33.f8 x))), SC.val (Value.int IntKind.i64 (S28.f0 (S30.f5 (S33.f8 x)))), SC.val (Value.int IntKind.i64 (S28.f1 (S30.f5 (S33.f8 x)))), SC.val (Value.int IntKind.i64 (S28.f2 (S30.f5 (S33.f8 x)))), SC.val (Value.int IntKind.i64 (S28.f3 (S30.f5 (S33.f8 x)))), SC.val (Value.int IntKind.i64 (S30.f6 (S33.f8 x))), SC.val (Value.int IntKind.i64 (S30.f7 (S33.f8 x))), SC.val (Value.int IntKind.i64 (S30.f8 (S33.f8 x)))], Blk.mk 3 [SC.val (Value.int IntKind.i64 (S33.f1 x)), SC.val (Value.int IntKind.i64 (S33.f2 x)), SC.val (Value.int IntKind.i64 (S30.f0 (S33.f8 x))), SC.val (Value.int IntKind.i64 (S30.f1 (S33.f8 x))), SC.val (Value.int IntKind.i64 (S30.f2 (S33.f8 x))), SC.val (Value.int IntKind.i64 (S30.f3 (S33.f8 x))), SC.val (Value.int IntKind.i64 (S30.f4 (S33.f8 x))), SC.val (Value.int IntKind.i64 (S28.f0 (S30.f5 (S33.f8 x)))), SC.val (Value.int IntKind.i64 (S28.f1 (S30.f5 (S33.f8 x)))), SC.val (Value.int IntKind.i64 (S28.f2 (S30.f5 (S33.f8 x)))), SC.val (Value.int IntKind.i64 (S28.f3 (S30.f5 (S33.f8 x)))), SC.val (Value.int IntKind.i64 (S30.f6 (S33.f8 x))), SC.val (Value.int IntKind.i64 (S30.f7 (S33.f8 x))), SC.val (Value.int IntKind.i64 (S30.f8 (S33.f8 x)))]] (SX.v (SV.c (SC.sl 2 0 14 14))) l ∧ AllI l ∧ ∀ (F : Nat → List SC), LsX encS (ByteArray.mk #[]) (List.length l) F (List.map fiS l) → K (SX.v (SV.c (SC.lst 3))) [Blk.mk 33 [SC.val (Value.int IntKind.i64 4), SC.val (Value.int IntKind.i64 (S33.f1 x)), SC.val (Value.int IntKind.i64 (S33.f2 x)), SC.val (Value.int IntKind.i64 (S33.f3 x)), SC.val (Value.int IntKind.i64 (S33.f4 x)), SC.val (Value.int IntKind.i64 (S33.f5 x)), SC.val (Value.int IntKind.i64 (S33.f6 x)), SC.val (Value.int IntKind.i64 (S33.f7 x)), SC.val (Value.int IntKind.i64 (S30.f0 (S33.f8 x))), SC.val (Value.int IntKind.i64 (S30.f1 (S33.f8 x))), SC.val (Value.int IntKind.i64 (S30.f2 (S33.f8 x))), SC.val (Value.int IntKind.i64 (S30.f3 (S33.f8 x))), SC.val (Value.int IntKind.i64 (S30.f4 (S33.f8 x))), SC.val (Value.int IntKind.i64 (S28.f0 (S30.f5 (S33.f8 x)))), SC.val (Value.int IntKind.i64 (S28.f1 (S30.f5 (S33.f8 x)))), SC.val (Value.int IntKind.i64 (S28.f2 (S30.f5 (S33.f8 x)))), SC.val (Value.int IntKind.i64 (S28.f3 (S30.f5 (S33.f8 x)))), SC.val (Value.int IntKind.i64 (S30.f6 (S33.f8 x))), SC.val (Value.int IntKind.i64 (S30.f7 (S33.f8 x))), SC.val (Value.int IntKind.i64 (S30.f8 (S33.f8 x))), SC.rsl A (1 : Nat) (ints (S33.f9 x)) (0 : Nat) (List.length (S33.f9 x)) c, SC.val (Value.int IntKind.i64 (S28.f0 (S33.f10 x))), SC.val (Value.int IntKind.i64 (S28.f1 (S33.f10 x))), SC.val (Value.int IntKind.i64 (S28.f2 (S33.f10 x))), SC.val (Value.int IntKind.i64 (S28.f3 (S33.f10 x))), SC.val (Value.int IntKind.i64 (S33.f11 x)), SC.val (Value.int IntKind.i64 (S33.f12 x)), SC.val (Value.bool (S33.f13 x))], Blk.mk 30 [SC.val (Value.int IntKind.i64 (S30.f0 (S33.f8 x))), SC.val (Value.int IntKind.i64 (S30.f1 (S33.f8 x))), SC.val (Value.int IntKind.i64 (S30.f2 (S33.f8 x))), SC.val (Value.int IntKind.i64 (S30.f3 (S33.f8 x))), SC.val (Value.int IntKind.i64 (S30.f4 (S33.f8 x))), SC.val (Value.int IntKind.i64 (S28.f0 (S30.f5 (S33.f8 x)))), SC.val (Value.int IntKind.i64 (S28.f1 (S30.f5 (S33.f8 x)))), SC.val (Value.int IntKind.i64 (S28.f2 (S30.f5 (S33.f8 x)))), SC.val (Value.int IntKind.i64 (S28.f3 (S30.f5 (S33.f8 x)))), SC.val (Value.int IntKind.i64 (S30.f6 (S33.f8 x))), SC.val (Value.int IntKind.i64 (S30.f7 (S33.f8 x))), SC.val (Value.int IntKind.i64 (S30.f8 (S33.f8 x)))], Blk.mk 3 [SC.val (Value.int IntKind.i64 (S33.f1 x)), SC.val (Value.int IntKind.i64 (S33.f2 x)), SC.val (Value.int IntKind.i64 (S30.f0 (S33.f8 x))), SC.val (Value.int IntKind.i64 (S30.f1 (S33.f8 x))), SC.val (Value.int IntKind.i64 (S30.f2 (S33.f8 x))), SC.val (Value.int IntKind.i64 (S30.f3 (S33.f8 x))), SC.val (Value.int IntKind.i64 (S30.f4 (S33.f8 x))), SC.val (Value.int IntKind.i64 (S28.f0 (S30.f5 (S33.f8 x)))), SC.val (Value.int IntKind.i64 (S28.f1 (S30.f5 (S33.f8 x)))), SC.val (Value.int IntKind.i64 (S28.f2 (S30.f5 (S33.f8 x)))), SC.val (Value.int IntKind.i64 (S28.f3 (S30.f5 (S33.f8 x)))), SC.val (Value.int IntKind.i64 (S30.f6 (S33.f8 x))), SC.val (Value.int IntKind.i64 (S30.f7 (S33.f8 x))), SC.val (Value.int IntKind.i64 (S30.f8 (S33.f8 x)))], Blk.lst (nat_lit 9) (1 : Nat) (List.length l) F]) : evFn Tryz.prog O w0 (ΓU O w0) Λn 100 5 25 [cmdK 4 x A c] [] (fun y M => K y M) := vc_of h_ (by kernel_rfl)
set_option maxHeartbeats 4000000 in
set_option maxRecDepth 100000 in
theorem f25_5 (O : Nat → Prop) (w0 : World) (x : S33) (A : Option Addr) (c : Nat) (K : SX → List Blk → Prop) (h_ : GlT O w0 ∧ I64 (S33.f2 x) ∧ GlT O w0 ∧ ∃ l, NumsM O w0 [Blk.mk 33 [SC.val (Value.int IntKind.i64 5), SC.val (Value.int IntKind.i64 (S33.f1 x)), SC.val (Value.int IntKind.i64 (S33.f2 x)), SC.val (Value.int IntKind.i64 (S33.f3 x)), SC.val (Value.int IntKind.i64 (S33.f4 x)), SC.val (Value.int IntKind.i64 (S33.f5 x)), SC.val (Value.int IntKind.i64 (S33.f6 x)), SC.val (Value.int IntKind.i64 (S33.f7 x)), SC.val (Value.int IntKind.i64 (S30.f0 (S33.f8 x))), SC.val (Value.int IntKind.i64 (S30.f1 (S33.f8 x))), SC.val (Value.int IntKind.i64 (S30.f2 (S33.f8 x))), SC.val (Value.int IntKind.i64 (S30.f3 (S33.f8 x))), SC.val (Value.int IntKind.i64 (S30.f4 (S33.f8 x))), SC.val (Value.int IntKind.i64 (S28.f0 (S30.f5 (S33.f8 x)))), SC.val (Value.int IntKind.i64 (S28.f1 (S30.f5 (S33.f8 x)))), SC.val (Value.int IntKind.i64 (S28.f2 (S30.f5 (S33.f8 x)))), SC.val (Value.int IntKind.i64 (S28.f3 (S30.f5 (S33.f8 x)))), SC.val (Value.int IntKind.i64 (S30.f6 (S33.f8 x))), SC.val (Value.int IntKind.i64 (S30.f7 (S33.f8 x))), SC.val (Value.int IntKind.i64 (S30.f8 (S33.f8 x))), SC.rsl A (1 : Nat) (ints (S33.f9 x)) (0 : Nat) (List.length (S33.f9 x)) c, SC.val (Value.int IntKind.i64 (S28.f0 (S33.f10 x))), SC.val (Value.int IntKind.i64 (S28.f1 (S33.f10 x))), SC.val (Value.int IntKind.i64 (S28.f2 (S33.f10 x))), SC.val (Value.int IntKind.i64 (S28.f3 (S33.f10 x))), SC.val (Value.int IntKind.i64 (S33.f11 x)), SC.val (Value.int IntKind.i64 (S33.f12 x)), SC.val (Value.bool (S33.f13 x))], Blk.mk 3 [SC.val (Value.int IntKind.i64 (S33.f1 x)), SC.val (Value.int IntKind.i64 (S33.f2 x))]] (SX.v (SV.c (SC.sl 1 0 2 2))) l ∧ AllI l ∧ ∀ (F : Nat → List SC), LsX encS (ByteArray.mk #[]) (List.length l) F (List.map fiS l) → K (SX.v (SV.c (SC.lst 2))) [Blk.mk 33 [SC.val (Value.int IntKind.i64 5), SC.val (Value.int IntKind.i64 (S33.f1 x)), SC.val (Value.int IntKind.i64 (S33.f2 x)), SC.val (Value.int IntKind.i64 (S33.f3 x)), SC.val (Value.int IntKind.i64 (S33.f4 x)), SC.val (Value.int IntKind.i64 (S33.f5 x)), SC.val (Value.int IntKind.i64 (S33.f6 x)), SC.val (Value.int IntKind.i64 (S33.f7 x)), SC.val (Value.int IntKind.i64 (S30.f0 (S33.f8 x))), SC.val (Value.int IntKind.i64 (S30.f1 (S33.f8 x))), SC.val (Value.int IntKind.i64 (S30.f2 (S33.f8 x))), SC.val (Value.int IntKind.i64 (S30.f3 (S33.f8 x))), SC.val (Value.int IntKind.i64 (S30.f4 (S33.f8 x))), SC.val (Value.int IntKind.i64 (S28.f0 (S30.f5 (S33.f8 x)))), SC.val (Value.int IntKind.i64 (S28.f1 (S30.f5 (S33.f8 x)))), SC.val (Value.int IntKind.i64 (S28.f2 (S30.f5 (S33.f8 x)))), SC.val (Value.int IntKind.i64 (S28.f3 (S30.f5 (S33.f8 x)))), SC.val (Value.int IntKind.i64 (S30.f6 (S33.f8 x))), SC.val (Value.int IntKind.i64 (S30.f7 (S33.f8 x))), SC.val (Value.int IntKind.i64 (S30.f8 (S33.f8 x))), SC.rsl A (1 : Nat) (ints (S33.f9 x)) (0 : Nat) (List.length (S33.f9 x)) c, SC.val (Value.int IntKind.i64 (S28.f0 (S33.f10 x))), SC.val (Value.int IntKind.i64 (S28.f1 (S33.f10 x))), SC.val (Value.int IntKind.i64 (S28.f2 (S33.f10 x))), SC.val (Value.int IntKind.i64 (S28.f3 (S33.f10 x))), SC.val (Value.int IntKind.i64 (S33.f11 x)), SC.val (Value.int IntKind.i64 (S33.f12 x)), SC.val (Value.bool (S33.f13 x))], Blk.mk 3 [SC.val (Value.int IntKind.i64 (S33.f1 x)), SC.val (Value.int IntKind.i64 (S33.f2 x))], Blk.lst (nat_lit 9) (1 : Nat) (List.length l) F]) : evFn Tryz.prog O w0 (ΓU O w0) Λn 100 5 25 [cmdK 5 x A c] [] (fun y M => K y M) := vc_of h_ (by kernel_rfl)
set_option maxHeartbeats 4000000 in
set_option maxRecDepth 100000 in
theorem f25_6 (O : Nat → Prop) (w0 : World) (x : S33) (A : Option Addr) (c : Nat) (K : SX → List Blk → Prop) (h_ : GlT O w0 ∧ I64 (S33.f2 x) ∧ RowsOk O w0 A (1 : Nat) (ints (S33.f9 x)) (0 : Nat) (List.length (S33.f9 x)) ∧ Room ((1 : Nat) + List.length (S33.f9 x)) (8 : Nat) ∧ GlT O w0 ∧ ∃ l, NumsM O w0 [Blk.mk 33 [SC.val (Value.int IntKind.i64 6), SC.val (Value.int IntKind.i64 (S33.f1 x)), SC.val (Value.int IntKind.i64 (S33.f2 x)), SC.val (Value.int IntKind.i64 (S33.f3 x)), SC.val (Value.int IntKind.i64 (S33.f4 x)), SC.val (Value.int IntKind.i64 (S33.f5 x)), SC.val (Value.int IntKind.i64 (S33.f6 x)), SC.val (Value.int IntKind.i64 (S33.f7 x)), SC.val (Value.int IntKind.i64 (S30.f0 (S33.f8 x))), SC.val (Value.int IntKind.i64 (S30.f1 (S33.f8 x))), SC.val (Value.int IntKind.i64 (S30.f2 (S33.f8 x))), SC.val (Value.int IntKind.i64 (S30.f3 (S33.f8 x))), SC.val (Value.int IntKind.i64 (S30.f4 (S33.f8 x))), SC.val (Value.int IntKind.i64 (S28.f0 (S30.f5 (S33.f8 x)))), SC.val (Value.int IntKind.i64 (S28.f1 (S30.f5 (S33.f8 x)))), SC.val (Value.int IntKind.i64 (S28.f2 (S30.f5 (S33.f8 x)))), SC.val (Value.int IntKind.i64 (S28.f3 (S30.f5 (S33.f8 x)))), SC.val (Value.int IntKind.i64 (S30.f6 (S33.f8 x))), SC.val (Value.int IntKind.i64 (S30.f7 (S33.f8 x))), SC.val (Value.int IntKind.i64 (S30.f8 (S33.f8 x))), SC.rsl A (1 : Nat) (ints (S33.f9 x)) (0 : Nat) (List.length (S33.f9 x)) c, SC.val (Value.int IntKind.i64 (S28.f0 (S33.f10 x))), SC.val (Value.int IntKind.i64 (S28.f1 (S33.f10 x))), SC.val (Value.int IntKind.i64 (S28.f2 (S33.f10 x))), SC.val (Value.int IntKind.i64 (S28.f3 (S33.f10 x))), SC.val (Value.int IntKind.i64 (S33.f11 x)), SC.val (Value.int IntKind.i64 (S33.f12 x)), SC.val (Value.bool (S33.f13 x))], Blk.dead, Blk.lst 3 1 ((1 : Nat) + List.length (S33.f9 x)) fun j ↦ bif Nat.blt j (1 : Nat) then Option.rec ((fun _ ↦ []) ()) (fun val ↦ (fun val ↦ (fun x ↦ x) val) val) (chunks (TypeInfo.size (Tables.types (Program.toTables Tryz.prog))[(3 : Nat)]) (1 : Nat) [SC.val (Value.int IntKind.i64 (S33.f3 x))])[j]? else [SC.val (Value.int IntKind.i64 (List.getD (S33.f9 x) ((0 : Nat) + (j - (1 : Nat))) (0 : Int)))]] (SX.v (SV.c (SC.lst 2))) l ∧ AllI l ∧ ∀ (F : Nat → List SC), LsX encS (ByteArray.mk #[]) (List.length l) F (List.map fiS l) → K (SX.v (SV.c (SC.lst 3))) [Blk.mk 33 [SC.val (Value.int IntKind.i64 6), SC.val (Value.int IntKind.i64 (S33.f1 x)), SC.val (Value.int IntKind.i64 (S33.f2 x)), SC.val (Value.int IntKind.i64 (S33.f3 x)), SC.val (Value.int IntKind.i64 (S33.f4 x)), SC.val (Value.int IntKind.i64 (S33.f5 x)), SC.val (Value.int IntKind.i64 (S33.f6 x)), SC.val (Value.int IntKind.i64 (S33.f7 x)), SC.val (Value.int IntKind.i64 (S30.f0 (S33.f8 x))), SC.val (Value.int IntKind.i64 (S30.f1 (S33.f8 x))), SC.val (Value.int IntKind.i64 (S30.f2 (S33.f8 x))), SC.val (Value.int IntKind.i64 (S30.f3 (S33.f8 x))), SC.val (Value.int IntKind.i64 (S30.f4 (S33.f8 x))), SC.val (Value.int IntKind.i64 (S28.f0 (S30.f5 (S33.f8 x)))), SC.val (Value.int IntKind.i64 (S28.f1 (S30.f5 (S33.f8 x)))), SC.val (Value.int IntKind.i64 (S28.f2 (S30.f5 (S33.f8 x)))), SC.val (Value.int IntKind.i64 (S28.f3 (S30.f5 (S33.f8 x)))), SC.val (Value.int IntKind.i64 (S30.f6 (S33.f8 x))), SC.val (Value.int IntKind.i64 (S30.f7 (S33.f8 x))), SC.val (Value.int IntKind.i64 (S30.f8 (S33.f8 x))), SC.rsl A (1 : Nat) (ints (S33.f9 x)) (0 : Nat) (List.length (S33.f9 x)) c, SC.val (Value.int IntKind.i64 (S28.f0 (S33.f10 x))), SC.val (Value.int IntKind.i64 (S28.f1 (S33.f10 x))), SC.val (Value.int IntKind.i64 (S28.f2 (S33.f10 x))), SC.val (Value.int IntKind.i64 (S28.f3 (S33.f10 x))), SC.val (Value.int IntKind.i64 (S33.f11 x)), SC.val (Value.int IntKind.i64 (S33.f12 x)), SC.val (Value.bool (S33.f13 x))], Blk.dead, Blk.lst 3 1 ((1 : Nat) + List.length (S33.f9 x)) fun j ↦ bif Nat.blt j (1 : Nat) then Option.rec ((fun _ ↦ []) ()) (fun val ↦ (fun val ↦ (fun x ↦ x) val) val) (chunks (TypeInfo.size (Tables.types (Program.toTables Tryz.prog))[(3 : Nat)]) (1 : Nat) [SC.val (Value.int IntKind.i64 (S33.f3 x))])[j]? else [SC.val (Value.int IntKind.i64 (List.getD (S33.f9 x) ((0 : Nat) + (j - (1 : Nat))) (0 : Int)))], Blk.lst (nat_lit 9) (1 : Nat) (List.length l) F]) : evFn Tryz.prog O w0 (ΓU O w0) Λn 100 5 25 [cmdK 6 x A c] [] (fun y M => K y M) := vc_of h_ (by kernel_rfl)
set_option maxHeartbeats 4000000 in
set_option maxRecDepth 100000 in
theorem f25_7 (O : Nat → Prop) (w0 : World) (x : S33) (A : Option Addr) (c : Nat) (K : SX → List Blk → Prop) (h_ : GlT O w0 ∧ I64 (S33.f2 x) ∧ bif S33.f13 x then K (SX.v (SV.c (SC.sl 1 0 2 2))) [Blk.mk 33 [SC.val (Value.int IntKind.i64 7), SC.val (Value.int IntKind.i64 (S33.f1 x)), SC.val (Value.int IntKind.i64 (S33.f2 x)), SC.val (Value.int IntKind.i64 (S33.f3 x)), SC.val (Value.int IntKind.i64 (S33.f4 x)), SC.val (Value.int IntKind.i64 (S33.f5 x)), SC.val (Value.int IntKind.i64 (S33.f6 x)), SC.val (Value.int IntKind.i64 (S33.f7 x)), SC.val (Value.int IntKind.i64 (S30.f0 (S33.f8 x))), SC.val (Value.int IntKind.i64 (S30.f1 (S33.f8 x))), SC.val (Value.int IntKind.i64 (S30.f2 (S33.f8 x))), SC.val (Value.int IntKind.i64 (S30.f3 (S33.f8 x))), SC.val (Value.int IntKind.i64 (S30.f4 (S33.f8 x))), SC.val (Value.int IntKind.i64 (S28.f0 (S30.f5 (S33.f8 x)))), SC.val (Value.int IntKind.i64 (S28.f1 (S30.f5 (S33.f8 x)))), SC.val (Value.int IntKind.i64 (S28.f2 (S30.f5 (S33.f8 x)))), SC.val (Value.int IntKind.i64 (S28.f3 (S30.f5 (S33.f8 x)))), SC.val (Value.int IntKind.i64 (S30.f6 (S33.f8 x))), SC.val (Value.int IntKind.i64 (S30.f7 (S33.f8 x))), SC.val (Value.int IntKind.i64 (S30.f8 (S33.f8 x))), SC.rsl A (1 : Nat) (ints (S33.f9 x)) (0 : Nat) (List.length (S33.f9 x)) c, SC.val (Value.int IntKind.i64 (S28.f0 (S33.f10 x))), SC.val (Value.int IntKind.i64 (S28.f1 (S33.f10 x))), SC.val (Value.int IntKind.i64 (S28.f2 (S33.f10 x))), SC.val (Value.int IntKind.i64 (S28.f3 (S33.f10 x))), SC.val (Value.int IntKind.i64 (S33.f11 x)), SC.val (Value.int IntKind.i64 (S33.f12 x)), SC.val (Value.bool (S33.f13 x))], Blk.mk 9 [SC.val (Value.string (fiS (S33.f2 x))), SC.val (Value.string (ByteArray.mk #[(108 : UInt8), (111 : UInt8), (97 : UInt8), (100 : UInt8)]))]] else GlT O w0 ∧ ∃ l, NumsM O w0 [Blk.mk 33 [SC.val (Value.int IntKind.i64 7), SC.val (Value.int IntKind.i64 (S33.f1 x)), SC.val (Value.int IntKind.i64 (S33.f2 x)), SC.val (Value.int IntKind.i64 (S33.f3 x)), SC.val (Value.int IntKind.i64 (S33.f4 x)), SC.val (Value.int IntKind.i64 (S33.f5 x)), SC.val (Value.int IntKind.i64 (S33.f6 x)), SC.val (Value.int IntKind.i64 (S33.f7 x)), SC.val (Value.int IntKind.i64 (S30.f0 (S33.f8 x))), SC.val (Value.int IntKind.i64 (S30.f1 (S33.f8 x))), SC.val (Value.int IntKind.i64 (S30.f2 (S33.f8 x))), SC.val (Value.int IntKind.i64 (S30.f3 (S33.f8 x))), SC.val (Value.int IntKind.i64 (S30.f4 (S33.f8 x))), SC.val (Value.int IntKind.i64 (S28.f0 (S30.f5 (S33.f8 x)))), SC.val (Value.int IntKind.i64 (S28.f1 (S30.f5 (S33.f8 x)))), SC.val (Value.int IntKind.i64 (S28.f2 (S30.f5 (S33.f8 x)))), SC.val (Value.int IntKind.i64 (S28.f3 (S30.f5 (S33.f8 x)))), SC.val (Value.int IntKind.i64 (S30.f6 (S33.f8 x))), SC.val (Value.int IntKind.i64 (S30.f7 (S33.f8 x))), SC.val (Value.int IntKind.i64 (S30.f8 (S33.f8 x))), SC.rsl A (1 : Nat) (ints (S33.f9 x)) (0 : Nat) (List.length (S33.f9 x)) c, SC.val (Value.int IntKind.i64 (S28.f0 (S33.f10 x))), SC.val (Value.int IntKind.i64 (S28.f1 (S33.f10 x))), SC.val (Value.int IntKind.i64 (S28.f2 (S33.f10 x))), SC.val (Value.int IntKind.i64 (S28.f3 (S33.f10 x))), SC.val (Value.int IntKind.i64 (S33.f11 x)), SC.val (Value.int IntKind.i64 (S33.f12 x)), SC.val (Value.bool (S33.f13 x))], Blk.mk 9 [SC.val (Value.string (fiS (S33.f2 x))), SC.val (Value.string (ByteArray.mk #[(99 : UInt8), (108 : UInt8), (101 : UInt8), (97 : UInt8), (114 : UInt8)]))], Blk.mk 3 [SC.val (Value.int IntKind.i64 (S28.f0 (S33.f10 x))), SC.val (Value.int IntKind.i64 (S28.f1 (S33.f10 x))), SC.val (Value.int IntKind.i64 (S28.f2 (S33.f10 x))), SC.val (Value.int IntKind.i64 (S28.f3 (S33.f10 x))), SC.val (Value.int IntKind.i64 (S33.f11 x)), SC.val (Value.int IntKind.i64 (S33.f12 x))]] (SX.v (SV.c (SC.sl 2 0 6 6))) l ∧ AllI l ∧ ∀ (F : Nat → List SC), LsX encS (ByteArray.mk #[]) (List.length l) F (List.map fiS l) → Room ((2 : Nat) + List.length l) (16 : Nat) ∧ K (SX.v (SV.c (SC.lst 4))) [Blk.mk 33 [SC.val (Value.int IntKind.i64 7), SC.val (Value.int IntKind.i64 (S33.f1 x)), SC.val (Value.int IntKind.i64 (S33.f2 x)), SC.val (Value.int IntKind.i64 (S33.f3 x)), SC.val (Value.int IntKind.i64 (S33.f4 x)), SC.val (Value.int IntKind.i64 (S33.f5 x)), SC.val (Value.int IntKind.i64 (S33.f6 x)), SC.val (Value.int IntKind.i64 (S33.f7 x)), SC.val (Value.int IntKind.i64 (S30.f0 (S33.f8 x))), SC.val (Value.int IntKind.i64 (S30.f1 (S33.f8 x))), SC.val (Value.int IntKind.i64 (S30.f2 (S33.f8 x))), SC.val (Value.int IntKind.i64 (S30.f3 (S33.f8 x))), SC.val (Value.int IntKind.i64 (S30.f4 (S33.f8 x))), SC.val (Value.int IntKind.i64 (S28.f0 (S30.f5 (S33.f8 x)))), SC.val (Value.int IntKind.i64 (S28.f1 (S30.f5 (S33.f8 x)))), SC.val (Value.int IntKind.i64 (S28.f2 (S30.f5 (S33.f8 x)))), SC.val (Value.int IntKind.i64 (S28.f3 (S30.f5 (S33.f8 x)))), SC.val (Value.int IntKind.i64 (S30.f6 (S33.f8 x))), SC.val (Value.int IntKind.i64 (S30.f7 (S33.f8 x))), SC.val (Value.int IntKind.i64 (S30.f8 (S33.f8 x))), SC.rsl A (1 : Nat) (ints (S33.f9 x)) (0 : Nat) (List.length (S33.f9 x)) c, SC.val (Value.int IntKind.i64 (S28.f0 (S33.f10 x))), SC.val (Value.int IntKind.i64 (S28.f1 (S33.f10 x))), SC.val (Value.int IntKind.i64 (S28.f2 (S33.f10 x))), SC.val (Value.int IntKind.i64 (S28.f3 (S33.f10 x))), SC.val (Value.int IntKind.i64 (S33.f11 x)), SC.val (Value.int IntKind.i64 (S33.f12 x)), SC.val (Value.bool (S33.f13 x))], Blk.dead, Blk.mk 3 [SC.val (Value.int IntKind.i64 (S28.f0 (S33.f10 x))), SC.val (Value.int IntKind.i64 (S28.f1 (S33.f10 x))), SC.val (Value.int IntKind.i64 (S28.f2 (S33.f10 x))), SC.val (Value.int IntKind.i64 (S28.f3 (S33.f10 x))), SC.val (Value.int IntKind.i64 (S33.f11 x)), SC.val (Value.int IntKind.i64 (S33.f12 x))], Blk.lst (nat_lit 9) (1 : Nat) (List.length l) F, Blk.lst 9 1 ((2 : Nat) + List.length l) fun j ↦ bif Nat.blt j (2 : Nat) then Option.rec ((fun _ ↦ []) ()) (fun val ↦ (fun val ↦ (fun x ↦ x) val) val) (chunks (TypeInfo.size (Tables.types (Program.toTables Tryz.prog))[(9 : Nat)]) (2 : Nat) [SC.val (Value.string (fiS (S33.f2 x))), SC.val (Value.string (ByteArray.mk #[(99 : UInt8), (108 : UInt8), (101 : UInt8), (97 : UInt8), (114 : UInt8)]))])[j]? else F (j - (2 : Nat))]) : evFn Tryz.prog O w0 (ΓU O w0) Λn 100 5 25 [cmdK 7 x A c] [] (fun y M => K y M) := vc_of h_ (by kernel_rfl)
set_option maxHeartbeats 4000000 in
set_option maxRecDepth 100000 in
theorem f25_8 (O : Nat → Prop) (w0 : World) (x : S33) (A : Option Addr) (c : Nat) (K : SX → List Blk → Prop) (h_ : GlT O w0 ∧ I64 (S33.f2 x) ∧ K (SX.v (SV.c (SC.val (Value.slice none (0 : Nat) (0 : Nat))))) [Blk.mk 33 [SC.val (Value.int IntKind.i64 8), SC.val (Value.int IntKind.i64 (S33.f1 x)), SC.val (Value.int IntKind.i64 (S33.f2 x)), SC.val (Value.int IntKind.i64 (S33.f3 x)), SC.val (Value.int IntKind.i64 (S33.f4 x)), SC.val (Value.int IntKind.i64 (S33.f5 x)), SC.val (Value.int IntKind.i64 (S33.f6 x)), SC.val (Value.int IntKind.i64 (S33.f7 x)), SC.val (Value.int IntKind.i64 (S30.f0 (S33.f8 x))), SC.val (Value.int IntKind.i64 (S30.f1 (S33.f8 x))), SC.val (Value.int IntKind.i64 (S30.f2 (S33.f8 x))), SC.val (Value.int IntKind.i64 (S30.f3 (S33.f8 x))), SC.val (Value.int IntKind.i64 (S30.f4 (S33.f8 x))), SC.val (Value.int IntKind.i64 (S28.f0 (S30.f5 (S33.f8 x)))), SC.val (Value.int IntKind.i64 (S28.f1 (S30.f5 (S33.f8 x)))), SC.val (Value.int IntKind.i64 (S28.f2 (S30.f5 (S33.f8 x)))), SC.val (Value.int IntKind.i64 (S28.f3 (S30.f5 (S33.f8 x)))), SC.val (Value.int IntKind.i64 (S30.f6 (S33.f8 x))), SC.val (Value.int IntKind.i64 (S30.f7 (S33.f8 x))), SC.val (Value.int IntKind.i64 (S30.f8 (S33.f8 x))), SC.rsl A (1 : Nat) (ints (S33.f9 x)) (0 : Nat) (List.length (S33.f9 x)) c, SC.val (Value.int IntKind.i64 (S28.f0 (S33.f10 x))), SC.val (Value.int IntKind.i64 (S28.f1 (S33.f10 x))), SC.val (Value.int IntKind.i64 (S28.f2 (S33.f10 x))), SC.val (Value.int IntKind.i64 (S28.f3 (S33.f10 x))), SC.val (Value.int IntKind.i64 (S33.f11 x)), SC.val (Value.int IntKind.i64 (S33.f12 x)), SC.val (Value.bool (S33.f13 x))]]) : evFn Tryz.prog O w0 (ΓU O w0) Λn 100 5 25 [cmdK 8 x A c] [] (fun y M => K y M) := vc_of h_ (by kernel_rfl)
set_option maxHeartbeats 4000000 in
set_option maxRecDepth 100000 in
theorem f25_9 (O : Nat → Prop) (w0 : World) (x : S33) (A : Option Addr) (c : Nat) (K : SX → List Blk → Prop) (h_ : GlT O w0 ∧ I64 (S33.f2 x) ∧ GlT O w0 ∧ ∃ l, NumsM O w0 [Blk.mk 33 [SC.val (Value.int IntKind.i64 9), SC.val (Value.int IntKind.i64 (S33.f1 x)), SC.val (Value.int IntKind.i64 (S33.f2 x)), SC.val (Value.int IntKind.i64 (S33.f3 x)), SC.val (Value.int IntKind.i64 (S33.f4 x)), SC.val (Value.int IntKind.i64 (S33.f5 x)), SC.val (Value.int IntKind.i64 (S33.f6 x)), SC.val (Value.int IntKind.i64 (S33.f7 x)), SC.val (Value.int IntKind.i64 (S30.f0 (S33.f8 x))), SC.val (Value.int IntKind.i64 (S30.f1 (S33.f8 x))), SC.val (Value.int IntKind.i64 (S30.f2 (S33.f8 x))), SC.val (Value.int IntKind.i64 (S30.f3 (S33.f8 x))), SC.val (Value.int IntKind.i64 (S30.f4 (S33.f8 x))), SC.val (Value.int IntKind.i64 (S28.f0 (S30.f5 (S33.f8 x)))), SC.val (Value.int IntKind.i64 (S28.f1 (S30.f5 (S33.f8 x)))), SC.val (Value.int IntKind.i64 (S28.f2 (S30.f5 (S33.f8 x)))), SC.val (Value.int IntKind.i64 (S28.f3 (S30.f5 (S33.f8 x)))), SC.val (Value.int IntKind.i64 (S30.f6 (S33.f8 x))), SC.val (Value.int IntKind.i64 (S30.f7 (S33.f8 x))), SC.val (Value.int IntKind.i64 (S30.f8 (S33.f8 x))), SC.rsl A (1 : Nat) (ints (S33.f9 x)) (0 : Nat) (List.length (S33.f9 x)) c, SC.val (Value.int IntKind.i64 (S28.f0 (S33.f10 x))), SC.val (Value.int IntKind.i64 (S28.f1 (S33.f10 x))), SC.val (Value.int IntKind.i64 (S28.f2 (S33.f10 x))), SC.val (Value.int IntKind.i64 (S28.f3 (S33.f10 x))), SC.val (Value.int IntKind.i64 (S33.f11 x)), SC.val (Value.int IntKind.i64 (S33.f12 x)), SC.val (Value.bool (S33.f13 x))], Blk.mk 3 [SC.val (Value.int IntKind.i64 (S33.f3 x)), SC.val (Value.int IntKind.i64 (S33.f4 x))]] (SX.v (SV.c (SC.sl 1 0 2 2))) l ∧ AllI l ∧ ∀ (F : Nat → List SC), LsX encS (ByteArray.mk #[]) (List.length l) F (List.map fiS l) → K (SX.v (SV.c (SC.lst 2))) [Blk.mk 33 [SC.val (Value.int IntKind.i64 9), SC.val (Value.int IntKind.i64 (S33.f1 x)), SC.val (Value.int IntKind.i64 (S33.f2 x)), SC.val (Value.int IntKind.i64 (S33.f3 x)), SC.val (Value.int IntKind.i64 (S33.f4 x)), SC.val (Value.int IntKind.i64 (S33.f5 x)), SC.val (Value.int IntKind.i64 (S33.f6 x)), SC.val (Value.int IntKind.i64 (S33.f7 x)), SC.val (Value.int IntKind.i64 (S30.f0 (S33.f8 x))), SC.val (Value.int IntKind.i64 (S30.f1 (S33.f8 x))), SC.val (Value.int IntKind.i64 (S30.f2 (S33.f8 x))), SC.val (Value.int IntKind.i64 (S30.f3 (S33.f8 x))), SC.val (Value.int IntKind.i64 (S30.f4 (S33.f8 x))), SC.val (Value.int IntKind.i64 (S28.f0 (S30.f5 (S33.f8 x)))), SC.val (Value.int IntKind.i64 (S28.f1 (S30.f5 (S33.f8 x)))), SC.val (Value.int IntKind.i64 (S28.f2 (S30.f5 (S33.f8 x)))), SC.val (Value.int IntKind.i64 (S28.f3 (S30.f5 (S33.f8 x)))), SC.val (Value.int IntKind.i64 (S30.f6 (S33.f8 x))), SC.val (Value.int IntKind.i64 (S30.f7 (S33.f8 x))), SC.val (Value.int IntKind.i64 (S30.f8 (S33.f8 x))), SC.rsl A (1 : Nat) (ints (S33.f9 x)) (0 : Nat) (List.length (S33.f9 x)) c, SC.val (Value.int IntKind.i64 (S28.f0 (S33.f10 x))), SC.val (Value.int IntKind.i64 (S28.f1 (S33.f10 x))), SC.val (Value.int IntKind.i64 (S28.f2 (S33.f10 x))), SC.val (Value.int IntKind.i64 (S28.f3 (S33.f10 x))), SC.val (Value.int IntKind.i64 (S33.f11 x)), SC.val (Value.int IntKind.i64 (S33.f12 x)), SC.val (Value.bool (S33.f13 x))], Blk.mk 3 [SC.val (Value.int IntKind.i64 (S33.f3 x)), SC.val (Value.int IntKind.i64 (S33.f4 x))], Blk.lst (nat_lit 9) (1 : Nat) (List.length l) F]) : evFn Tryz.prog O w0 (ΓU O w0) Λn 100 5 25 [cmdK 9 x A c] [] (fun y M => K y M) := vc_of h_ (by kernel_rfl)
set_option maxHeartbeats 4000000 in
set_option maxRecDepth 100000 in
theorem f25_10 (O : Nat → Prop) (w0 : World) (x : S33) (A : Option Addr) (c : Nat) (K : SX → List Blk → Prop) (h_ : GlT O w0 ∧ I64 (S33.f2 x) ∧ I64 (S33.f6 x) ∧ ∀ (r : ByteArray), r = wOf stTab (S33.f6 x) → I64 (S33.f7 x) ∧ ∀ (r_1 : ByteArray), r_1 = wOf stTab (S33.f7 x) → K (SX.v (SV.c (SC.sl 1 0 3 3))) [Blk.mk 33 [SC.val (Value.int IntKind.i64 10), SC.val (Value.int IntKind.i64 (S33.f1 x)), SC.val (Value.int IntKind.i64 (S33.f2 x)), SC.val (Value.int IntKind.i64 (S33.f3 x)), SC.val (Value.int IntKind.i64 (S33.f4 x)), SC.val (Value.int IntKind.i64 (S33.f5 x)), SC.val (Value.int IntKind.i64 (S33.f6 x)), SC.val (Value.int IntKind.i64 (S33.f7 x)), SC.val (Value.int IntKind.i64 (S30.f0 (S33.f8 x))), SC.val (Value.int IntKind.i64 (S30.f1 (S33.f8 x))), SC.val (Value.int IntKind.i64 (S30.f2 (S33.f8 x))), SC.val (Value.int IntKind.i64 (S30.f3 (S33.f8 x))), SC.val (Value.int IntKind.i64 (S30.f4 (S33.f8 x))), SC.val (Value.int IntKind.i64 (S28.f0 (S30.f5 (S33.f8 x)))), SC.val (Value.int IntKind.i64 (S28.f1 (S30.f5 (S33.f8 x)))), SC.val (Value.int IntKind.i64 (S28.f2 (S30.f5 (S33.f8 x)))), SC.val (Value.int IntKind.i64 (S28.f3 (S30.f5 (S33.f8 x)))), SC.val (Value.int IntKind.i64 (S30.f6 (S33.f8 x))), SC.val (Value.int IntKind.i64 (S30.f7 (S33.f8 x))), SC.val (Value.int IntKind.i64 (S30.f8 (S33.f8 x))), SC.rsl A (1 : Nat) (ints (S33.f9 x)) (0 : Nat) (List.length (S33.f9 x)) c, SC.val (Value.int IntKind.i64 (S28.f0 (S33.f10 x))), SC.val (Value.int IntKind.i64 (S28.f1 (S33.f10 x))), SC.val (Value.int IntKind.i64 (S28.f2 (S33.f10 x))), SC.val (Value.int IntKind.i64 (S28.f3 (S33.f10 x))), SC.val (Value.int IntKind.i64 (S33.f11 x)), SC.val (Value.int IntKind.i64 (S33.f12 x)), SC.val (Value.bool (S33.f13 x))], Blk.mk 9 [SC.val (Value.string (fiS (S33.f2 x))), SC.val (Value.string r), SC.val (Value.string r_1)]]) : evFn Tryz.prog O w0 (ΓU O w0) Λn 100 5 25 [cmdK 10 x A c] [] (fun y M => K y M) := vc_of h_ (by kernel_rfl)
set_option maxHeartbeats 4000000 in
set_option maxRecDepth 100000 in
theorem f25_11 (O : Nat → Prop) (w0 : World) (x : S33) (A : Option Addr) (c : Nat) (K : SX → List Blk → Prop) (h_ : GlT O w0 ∧ I64 (S33.f2 x) ∧ K (SX.v (SV.c (SC.sl 1 0 1 1))) [Blk.mk 33 [SC.val (Value.int IntKind.i64 11), SC.val (Value.int IntKind.i64 (S33.f1 x)), SC.val (Value.int IntKind.i64 (S33.f2 x)), SC.val (Value.int IntKind.i64 (S33.f3 x)), SC.val (Value.int IntKind.i64 (S33.f4 x)), SC.val (Value.int IntKind.i64 (S33.f5 x)), SC.val (Value.int IntKind.i64 (S33.f6 x)), SC.val (Value.int IntKind.i64 (S33.f7 x)), SC.val (Value.int IntKind.i64 (S30.f0 (S33.f8 x))), SC.val (Value.int IntKind.i64 (S30.f1 (S33.f8 x))), SC.val (Value.int IntKind.i64 (S30.f2 (S33.f8 x))), SC.val (Value.int IntKind.i64 (S30.f3 (S33.f8 x))), SC.val (Value.int IntKind.i64 (S30.f4 (S33.f8 x))), SC.val (Value.int IntKind.i64 (S28.f0 (S30.f5 (S33.f8 x)))), SC.val (Value.int IntKind.i64 (S28.f1 (S30.f5 (S33.f8 x)))), SC.val (Value.int IntKind.i64 (S28.f2 (S30.f5 (S33.f8 x)))), SC.val (Value.int IntKind.i64 (S28.f3 (S30.f5 (S33.f8 x)))), SC.val (Value.int IntKind.i64 (S30.f6 (S33.f8 x))), SC.val (Value.int IntKind.i64 (S30.f7 (S33.f8 x))), SC.val (Value.int IntKind.i64 (S30.f8 (S33.f8 x))), SC.rsl A (1 : Nat) (ints (S33.f9 x)) (0 : Nat) (List.length (S33.f9 x)) c, SC.val (Value.int IntKind.i64 (S28.f0 (S33.f10 x))), SC.val (Value.int IntKind.i64 (S28.f1 (S33.f10 x))), SC.val (Value.int IntKind.i64 (S28.f2 (S33.f10 x))), SC.val (Value.int IntKind.i64 (S28.f3 (S33.f10 x))), SC.val (Value.int IntKind.i64 (S33.f11 x)), SC.val (Value.int IntKind.i64 (S33.f12 x)), SC.val (Value.bool (S33.f13 x))], Blk.mk 9 [SC.val (Value.string (fiS (S33.f2 x)))]]) : evFn Tryz.prog O w0 (ΓU O w0) Λn 100 5 25 [cmdK 11 x A c] [] (fun y M => K y M) := vc_of h_ (by kernel_rfl)
set_option maxHeartbeats 4000000 in
set_option maxRecDepth 100000 in
theorem f25_12 (O : Nat → Prop) (w0 : World) (x : S33) (A : Option Addr) (c : Nat) (K : SX → List Blk → Prop) (h_ : GlT O w0 ∧ I64 (S33.f2 x) ∧ K (SX.v (SV.c (SC.sl 1 0 1 1))) [Blk.mk 33 [SC.val (Value.int IntKind.i64 12), SC.val (Value.int IntKind.i64 (S33.f1 x)), SC.val (Value.int IntKind.i64 (S33.f2 x)), SC.val (Value.int IntKind.i64 (S33.f3 x)), SC.val (Value.int IntKind.i64 (S33.f4 x)), SC.val (Value.int IntKind.i64 (S33.f5 x)), SC.val (Value.int IntKind.i64 (S33.f6 x)), SC.val (Value.int IntKind.i64 (S33.f7 x)), SC.val (Value.int IntKind.i64 (S30.f0 (S33.f8 x))), SC.val (Value.int IntKind.i64 (S30.f1 (S33.f8 x))), SC.val (Value.int IntKind.i64 (S30.f2 (S33.f8 x))), SC.val (Value.int IntKind.i64 (S30.f3 (S33.f8 x))), SC.val (Value.int IntKind.i64 (S30.f4 (S33.f8 x))), SC.val (Value.int IntKind.i64 (S28.f0 (S30.f5 (S33.f8 x)))), SC.val (Value.int IntKind.i64 (S28.f1 (S30.f5 (S33.f8 x)))), SC.val (Value.int IntKind.i64 (S28.f2 (S30.f5 (S33.f8 x)))), SC.val (Value.int IntKind.i64 (S28.f3 (S30.f5 (S33.f8 x)))), SC.val (Value.int IntKind.i64 (S30.f6 (S33.f8 x))), SC.val (Value.int IntKind.i64 (S30.f7 (S33.f8 x))), SC.val (Value.int IntKind.i64 (S30.f8 (S33.f8 x))), SC.rsl A (1 : Nat) (ints (S33.f9 x)) (0 : Nat) (List.length (S33.f9 x)) c, SC.val (Value.int IntKind.i64 (S28.f0 (S33.f10 x))), SC.val (Value.int IntKind.i64 (S28.f1 (S33.f10 x))), SC.val (Value.int IntKind.i64 (S28.f2 (S33.f10 x))), SC.val (Value.int IntKind.i64 (S28.f3 (S33.f10 x))), SC.val (Value.int IntKind.i64 (S33.f11 x)), SC.val (Value.int IntKind.i64 (S33.f12 x)), SC.val (Value.bool (S33.f13 x))], Blk.mk 9 [SC.val (Value.string (fiS (S33.f2 x)))]]) : evFn Tryz.prog O w0 (ΓU O w0) Λn 100 5 25 [cmdK 12 x A c] [] (fun y M => K y M) := vc_of h_ (by kernel_rfl)
set_option maxHeartbeats 4000000 in
set_option maxRecDepth 100000 in
theorem f25_13 (O : Nat → Prop) (w0 : World) (x : S33) (A : Option Addr) (c : Nat) (K : SX → List Blk → Prop) (h_ : GlT O w0 ∧ I64 (S33.f2 x) ∧ GlT O w0 ∧ ∃ l, NumsM O w0 [Blk.mk 33 [SC.val (Value.int IntKind.i64 13), SC.val (Value.int IntKind.i64 (S33.f1 x)), SC.val (Value.int IntKind.i64 (S33.f2 x)), SC.val (Value.int IntKind.i64 (S33.f3 x)), SC.val (Value.int IntKind.i64 (S33.f4 x)), SC.val (Value.int IntKind.i64 (S33.f5 x)), SC.val (Value.int IntKind.i64 (S33.f6 x)), SC.val (Value.int IntKind.i64 (S33.f7 x)), SC.val (Value.int IntKind.i64 (S30.f0 (S33.f8 x))), SC.val (Value.int IntKind.i64 (S30.f1 (S33.f8 x))), SC.val (Value.int IntKind.i64 (S30.f2 (S33.f8 x))), SC.val (Value.int IntKind.i64 (S30.f3 (S33.f8 x))), SC.val (Value.int IntKind.i64 (S30.f4 (S33.f8 x))), SC.val (Value.int IntKind.i64 (S28.f0 (S30.f5 (S33.f8 x)))), SC.val (Value.int IntKind.i64 (S28.f1 (S30.f5 (S33.f8 x)))), SC.val (Value.int IntKind.i64 (S28.f2 (S30.f5 (S33.f8 x)))), SC.val (Value.int IntKind.i64 (S28.f3 (S30.f5 (S33.f8 x)))), SC.val (Value.int IntKind.i64 (S30.f6 (S33.f8 x))), SC.val (Value.int IntKind.i64 (S30.f7 (S33.f8 x))), SC.val (Value.int IntKind.i64 (S30.f8 (S33.f8 x))), SC.rsl A (1 : Nat) (ints (S33.f9 x)) (0 : Nat) (List.length (S33.f9 x)) c, SC.val (Value.int IntKind.i64 (S28.f0 (S33.f10 x))), SC.val (Value.int IntKind.i64 (S28.f1 (S33.f10 x))), SC.val (Value.int IntKind.i64 (S28.f2 (S33.f10 x))), SC.val (Value.int IntKind.i64 (S28.f3 (S33.f10 x))), SC.val (Value.int IntKind.i64 (S33.f11 x)), SC.val (Value.int IntKind.i64 (S33.f12 x)), SC.val (Value.bool (S33.f13 x))], Blk.mk 3 [SC.val (Value.int IntKind.i64 (S33.f2 x)), SC.val (Value.int IntKind.i64 (S33.f1 x))]] (SX.v (SV.c (SC.sl 1 0 2 2))) l ∧ AllI l ∧ ∀ (F : Nat → List SC), LsX encS (ByteArray.mk #[]) (List.length l) F (List.map fiS l) → K (SX.v (SV.c (SC.lst 2))) [Blk.mk 33 [SC.val (Value.int IntKind.i64 13), SC.val (Value.int IntKind.i64 (S33.f1 x)), SC.val (Value.int IntKind.i64 (S33.f2 x)), SC.val (Value.int IntKind.i64 (S33.f3 x)), SC.val (Value.int IntKind.i64 (S33.f4 x)), SC.val (Value.int IntKind.i64 (S33.f5 x)), SC.val (Value.int IntKind.i64 (S33.f6 x)), SC.val (Value.int IntKind.i64 (S33.f7 x)), SC.val (Value.int IntKind.i64 (S30.f0 (S33.f8 x))), SC.val (Value.int IntKind.i64 (S30.f1 (S33.f8 x))), SC.val (Value.int IntKind.i64 (S30.f2 (S33.f8 x))), SC.val (Value.int IntKind.i64 (S30.f3 (S33.f8 x))), SC.val (Value.int IntKind.i64 (S30.f4 (S33.f8 x))), SC.val (Value.int IntKind.i64 (S28.f0 (S30.f5 (S33.f8 x)))), SC.val (Value.int IntKind.i64 (S28.f1 (S30.f5 (S33.f8 x)))), SC.val (Value.int IntKind.i64 (S28.f2 (S30.f5 (S33.f8 x)))), SC.val (Value.int IntKind.i64 (S28.f3 (S30.f5 (S33.f8 x)))), SC.val (Value.int IntKind.i64 (S30.f6 (S33.f8 x))), SC.val (Value.int IntKind.i64 (S30.f7 (S33.f8 x))), SC.val (Value.int IntKind.i64 (S30.f8 (S33.f8 x))), SC.rsl A (1 : Nat) (ints (S33.f9 x)) (0 : Nat) (List.length (S33.f9 x)) c, SC.val (Value.int IntKind.i64 (S28.f0 (S33.f10 x))), SC.val (Value.int IntKind.i64 (S28.f1 (S33.f10 x))), SC.val (Value.int IntKind.i64 (S28.f2 (S33.f10 x))), SC.val (Value.int IntKind.i64 (S28.f3 (S33.f10 x))), SC.val (Value.int IntKind.i64 (S33.f11 x)), SC.val (Value.int IntKind.i64 (S33.f12 x)), SC.val (Value.bool (S33.f13 x))], Blk.mk 3 [SC.val (Value.int IntKind.i64 (S33.f2 x)), SC.val (Value.int IntKind.i64 (S33.f1 x))], Blk.lst (nat_lit 9) (1 : Nat) (List.length l) F]) : evFn Tryz.prog O w0 (ΓU O w0) Λn 100 5 25 [cmdK 13 x A c] [] (fun y M => K y M) := vc_of h_ (by kernel_rfl)
set_option maxHeartbeats 4000000 in
set_option maxRecDepth 100000 in
theorem f25_14 (O : Nat → Prop) (w0 : World) (x : S33) (A : Option Addr) (c : Nat) (K : SX → List Blk → Prop) (h_ : GlT O w0 ∧ I64 (S33.f2 x) ∧ GlT O w0 ∧ ∃ l, NumsM O w0 [Blk.mk 33 [SC.val (Value.int IntKind.i64 14), SC.val (Value.int IntKind.i64 (S33.f1 x)), SC.val (Value.int IntKind.i64 (S33.f2 x)), SC.val (Value.int IntKind.i64 (S33.f3 x)), SC.val (Value.int IntKind.i64 (S33.f4 x)), SC.val (Value.int IntKind.i64 (S33.f5 x)), SC.val (Value.int IntKind.i64 (S33.f6 x)), SC.val (Value.int IntKind.i64 (S33.f7 x)), SC.val (Value.int IntKind.i64 (S30.f0 (S33.f8 x))), SC.val (Value.int IntKind.i64 (S30.f1 (S33.f8 x))), SC.val (Value.int IntKind.i64 (S30.f2 (S33.f8 x))), SC.val (Value.int IntKind.i64 (S30.f3 (S33.f8 x))), SC.val (Value.int IntKind.i64 (S30.f4 (S33.f8 x))), SC.val (Value.int IntKind.i64 (S28.f0 (S30.f5 (S33.f8 x)))), SC.val (Value.int IntKind.i64 (S28.f1 (S30.f5 (S33.f8 x)))), SC.val (Value.int IntKind.i64 (S28.f2 (S30.f5 (S33.f8 x)))), SC.val (Value.int IntKind.i64 (S28.f3 (S30.f5 (S33.f8 x)))), SC.val (Value.int IntKind.i64 (S30.f6 (S33.f8 x))), SC.val (Value.int IntKind.i64 (S30.f7 (S33.f8 x))), SC.val (Value.int IntKind.i64 (S30.f8 (S33.f8 x))), SC.rsl A (1 : Nat) (ints (S33.f9 x)) (0 : Nat) (List.length (S33.f9 x)) c, SC.val (Value.int IntKind.i64 (S28.f0 (S33.f10 x))), SC.val (Value.int IntKind.i64 (S28.f1 (S33.f10 x))), SC.val (Value.int IntKind.i64 (S28.f2 (S33.f10 x))), SC.val (Value.int IntKind.i64 (S28.f3 (S33.f10 x))), SC.val (Value.int IntKind.i64 (S33.f11 x)), SC.val (Value.int IntKind.i64 (S33.f12 x)), SC.val (Value.bool (S33.f13 x))], Blk.mk 3 [SC.val (Value.int IntKind.i64 (S33.f2 x)), SC.val (Value.int IntKind.i64 (S33.f1 x))]] (SX.v (SV.c (SC.sl 1 0 2 2))) l ∧ AllI l ∧ ∀ (F : Nat → List SC), LsX encS (ByteArray.mk #[]) (List.length l) F (List.map fiS l) → K (SX.v (SV.c (SC.lst 2))) [Blk.mk 33 [SC.val (Value.int IntKind.i64 14), SC.val (Value.int IntKind.i64 (S33.f1 x)), SC.val (Value.int IntKind.i64 (S33.f2 x)), SC.val (Value.int IntKind.i64 (S33.f3 x)), SC.val (Value.int IntKind.i64 (S33.f4 x)), SC.val (Value.int IntKind.i64 (S33.f5 x)), SC.val (Value.int IntKind.i64 (S33.f6 x)), SC.val (Value.int IntKind.i64 (S33.f7 x)), SC.val (Value.int IntKind.i64 (S30.f0 (S33.f8 x))), SC.val (Value.int IntKind.i64 (S30.f1 (S33.f8 x))), SC.val (Value.int IntKind.i64 (S30.f2 (S33.f8 x))), SC.val (Value.int IntKind.i64 (S30.f3 (S33.f8 x))), SC.val (Value.int IntKind.i64 (S30.f4 (S33.f8 x))), SC.val (Value.int IntKind.i64 (S28.f0 (S30.f5 (S33.f8 x)))), SC.val (Value.int IntKind.i64 (S28.f1 (S30.f5 (S33.f8 x)))), SC.val (Value.int IntKind.i64 (S28.f2 (S30.f5 (S33.f8 x)))), SC.val (Value.int IntKind.i64 (S28.f3 (S30.f5 (S33.f8 x)))), SC.val (Value.int IntKind.i64 (S30.f6 (S33.f8 x))), SC.val (Value.int IntKind.i64 (S30.f7 (S33.f8 x))), SC.val (Value.int IntKind.i64 (S30.f8 (S33.f8 x))), SC.rsl A (1 : Nat) (ints (S33.f9 x)) (0 : Nat) (List.length (S33.f9 x)) c, SC.val (Value.int IntKind.i64 (S28.f0 (S33.f10 x))), SC.val (Value.int IntKind.i64 (S28.f1 (S33.f10 x))), SC.val (Value.int IntKind.i64 (S28.f2 (S33.f10 x))), SC.val (Value.int IntKind.i64 (S28.f3 (S33.f10 x))), SC.val (Value.int IntKind.i64 (S33.f11 x)), SC.val (Value.int IntKind.i64 (S33.f12 x)), SC.val (Value.bool (S33.f13 x))], Blk.mk 3 [SC.val (Value.int IntKind.i64 (S33.f2 x)), SC.val (Value.int IntKind.i64 (S33.f1 x))], Blk.lst (nat_lit 9) (1 : Nat) (List.length l) F]) : evFn Tryz.prog O w0 (ΓU O w0) Λn 100 5 25 [cmdK 14 x A c] [] (fun y M => K y M) := vc_of h_ (by kernel_rfl)
--HIDE
theorem e51 (O : Nat → Prop) (w0 : World) : Entry Tryz.prog O w0 51 (gWr ixTab O w0) :=
  Entry.pure (Γ := fun _ _ _ => none) (TSF.none _) 100 5 (g := gWr ixTab) (fun O w0 args M k hg => by
    unfold gWr at hg
    split at hg
    case h_2 => exact hg.elim
    rename_i n
    obtain ⟨⟨i0, i1⟩, hk⟩ := hg
    refine ⟨_, _, rfl, hk _ rfl, fun _ => rfl, fun w hw => ⟨Λn, f51 _ w n _ ?_⟩⟩
    unfold wOf
    refine cond_of (fun h => by rw [if_pos (.inl (of_decide_eq_true h))]) (fun h => cond_of (fun h2 => by rw [if_pos (.inr (of_decide_eq_true h2))]) (fun h2 => ?_))
    have h := of_decide_eq_false h
    have h2 := of_decide_eq_false h2
    rw [if_neg (by show ¬ (n < 1 ∨ n > ((4 : Nat) : Int)); omega), wrap_in (show -9223372036854775808 ≤ n - 1 by omega) (by omega)]
    rcases (show n = 1 ∨ n = 2 ∨ n = 3 ∨ n = 4 by omega) with rfl | rfl | rfl | rfl <;> rfl) O w0
theorem e52 (O : Nat → Prop) (w0 : World) : Entry Tryz.prog O w0 52 (gWr stTab O w0) :=
  Entry.pure (Γ := fun _ _ _ => none) (TSF.none _) 100 5 (g := gWr stTab) (fun O w0 args M k hg => by
    unfold gWr at hg
    split at hg
    case h_2 => exact hg.elim
    rename_i n
    obtain ⟨⟨i0, i1⟩, hk⟩ := hg
    refine ⟨_, _, rfl, hk _ rfl, fun _ => rfl, fun w hw => ⟨Λn, f52 _ w n _ ?_⟩⟩
    unfold wOf
    refine cond_of (fun h => by rw [if_pos (.inl (of_decide_eq_true h))]) (fun h => cond_of (fun h2 => by rw [if_pos (.inr (of_decide_eq_true h2))]) (fun h2 => ?_))
    have h := of_decide_eq_false h
    have h2 := of_decide_eq_false h2
    rw [if_neg (by show ¬ (n < 1 ∨ n > ((5 : Nat) : Int)); omega), wrap_in (show -9223372036854775808 ≤ n - 1 by omega) (by omega)]
    rcases (show n = 1 ∨ n = 2 ∨ n = 3 ∨ n = 4 ∨ n = 5 by omega) with rfl | rfl | rfl | rfl | rfl <;> rfl) O w0
theorem ΓU_ok : TSF Tryz.prog ΓU := ((Γ6_ok2.add e50).add e51).add e52
theorem ResL.strs {M : List Blk} {b : Nat} {xs : List ByteArray} (hb : M[b]? = some (.mk 9 (xs.map fun s => SC.val (.string s)))) (hn : xs.length ≤ 1000) : ResL M 9 1 xs.length (strsAt xs) (.sl b 0 xs.length xs.length) := by
  refine .sl b _ hb (by omega) ?_ (by simp) fun j hj => ⟨rfl, rfl, rfl, fun m c hc => ?_⟩
  · rw [List.all_map, List.all_eq_true]; intro s _; rfl
  · have hm : m = 0 := by
      cases m with
      | zero => rfl
      | succ m => simp [strsAt] at hc
    subst hm
    cases hc
    rw [Nat.mul_one, Nat.add_zero, List.getElem?_map, List.getD_eq_getElem?_getD, List.getElem?_eq_getElem hj]; rfl
theorem ResL.ofLs {M : List Blk} {b n : Nat} {G : Nat → List SC} {xs : List ByteArray} (hb : M[b]? = some (.lst 9 1 n G)) (h : LsX encS ⟨#[]⟩ n G xs) : ResL M 9 1 xs.length (strsAt xs) (.lst b) :=
  .lst b G (by rw [← h.len]; exact hb) (ls_strs h)
/-- What fields leaves. -/
structure Fl25 (x : S33) (y : SX) (M : List Blk) : Prop where
  out : ∃ s, y = .v (.c s) ∧ ResL M 9 1 (fieldsP x).length (strsAt (fieldsP x)) s
theorem Fl25.of {x : S33} {s : SC} {M : List Blk} {xs : List ByteArray} (h : ResL M 9 1 xs.length (strsAt xs) s) (e : fieldsP x = xs) : Fl25 x (.v (.c s)) M := ⟨s, rfl, by rw [e]; exact h⟩
theorem NumsM.sl {O : Nat → Prop} {w0 : World} {M : List Blk} {b e : Nat} {l : List Int} (hb : M[b]? = some (.mk e (l.map fun v => SC.val (.int .i64 v)))) : NumsM O w0 M (.v (.c (.sl b 0 l.length l.length))) l := ⟨.inr (.inr ⟨b, _, _, rfl, hb⟩)⟩
set_option maxRecDepth 100000 in
theorem fl_1 {O : Nat → Prop} {w0 : World} {x : S33} {A : Option Addr} {c : Nat} {K : SX → List Blk → Prop} (hK : ∀ y M', Fl25 x y M' → K y M') (hG : GlT O w0) (hC : ∀ j, j < x.f9.length → A.isSome = true ∧ RowAt O w0 A 1 (ints x.f9 j) j) (hk : x.f0 = 1) (hc : chk x = 0) : evFn Tryz.prog O w0 (ΓU O w0) Λn 100 5 25 [cmdV x A c] [] (fun y M => K y M) := by
  have e : cmdV x A c = cmdK 1 x A c := by
    show SX.v (.agg (cellsK x.f0 x (sC A x.f9 c))) = _
    rw [hk]
  rw [e]
  refine f25_1 O w0 x A c K ?_
  have hF := vals_len hc
  have hr := rng_of hc
  have hu := used_id hc
  rw [hk] at hr hu
  simp [usedK, z33] at hu
  unfold rangeK at hr
  simp [inB, smpB, filB, colB] at hr
  have vi : I64 x.f2 := ⟨by omega, by omega⟩
  exact ⟨hG, vi, hK _ _ <| Fl25.of (ResL.strs (xs := [fiS x.f2]) rfl (Nat.le_of_ble_eq_true rfl)) (by unfold fieldsP; rw [hk]; rfl)⟩
set_option maxRecDepth 100000 in
theorem fl_2 {O : Nat → Prop} {w0 : World} {x : S33} {A : Option Addr} {c : Nat} {K : SX → List Blk → Prop} (hK : ∀ y M', Fl25 x y M' → K y M') (hG : GlT O w0) (hC : ∀ j, j < x.f9.length → A.isSome = true ∧ RowAt O w0 A 1 (ints x.f9 j) j) (hk : x.f0 = 2) (hc : chk x = 0) : evFn Tryz.prog O w0 (ΓU O w0) Λn 100 5 25 [cmdV x A c] [] (fun y M => K y M) := by
  have e : cmdV x A c = cmdK 2 x A c := by
    show SX.v (.agg (cellsK x.f0 x (sC A x.f9 c))) = _
    rw [hk]
  rw [e]
  refine f25_2 O w0 x A c K ?_
  have hF := vals_len hc
  have hr := rng_of hc
  have hu := used_id hc
  rw [hk] at hr hu
  simp [usedK, z33] at hu
  unfold rangeK at hr
  simp [inB, smpB, filB, colB] at hr
  have vi : I64 x.f2 := ⟨by omega, by omega⟩
  have hA : AllI [x.f1, x.f2] := ⟨fun v hv => by
    simp only [List.mem_cons, List.not_mem_nil, or_false] at hv
    exact ⟨by omega, by omega⟩, Nat.le_of_ble_eq_true rfl⟩
  exact ⟨hG, vi, hG, [x.f1, x.f2], ⟨.inr (.inr ⟨_, _, _, rfl, rfl⟩)⟩, hA, fun F hL => hK _ _ <| Fl25.of (ResL.ofLs rfl hL) (by unfold fieldsP; rw [hk]; rfl)⟩
set_option maxRecDepth 100000 in
theorem fl_3 {O : Nat → Prop} {w0 : World} {x : S33} {A : Option Addr} {c : Nat} {K : SX → List Blk → Prop} (hK : ∀ y M', Fl25 x y M' → K y M') (hG : GlT O w0) (hC : ∀ j, j < x.f9.length → A.isSome = true ∧ RowAt O w0 A 1 (ints x.f9 j) j) (hk : x.f0 = 3) (hc : chk x = 0) : evFn Tryz.prog O w0 (ΓU O w0) Λn 100 5 25 [cmdV x A c] [] (fun y M => K y M) := by
  have e : cmdV x A c = cmdK 3 x A c := by
    show SX.v (.agg (cellsK x.f0 x (sC A x.f9 c))) = _
    rw [hk]
  rw [e]
  refine f25_3 O w0 x A c K ?_
  have hF := vals_len hc
  have hr := rng_of hc
  have hu := used_id hc
  rw [hk] at hr hu
  simp [usedK, z33] at hu
  unfold rangeK at hr
  simp [inB, smpB, filB, colB] at hr
  have vi : I64 x.f2 := ⟨by omega, by omega⟩
  exact ⟨hG, vi, ⟨by omega, by omega⟩, fun r hr => by subst hr; exact hK _ _ <| Fl25.of (ResL.strs (xs := [fiS x.f2, wOf ixTab x.f5]) rfl (Nat.le_of_ble_eq_true rfl)) (by unfold fieldsP; rw [hk]; rfl)⟩
set_option maxRecDepth 100000 in
theorem fl_4 {O : Nat → Prop} {w0 : World} {x : S33} {A : Option Addr} {c : Nat} {K : SX → List Blk → Prop} (hK : ∀ y M', Fl25 x y M' → K y M') (hG : GlT O w0) (hC : ∀ j, j < x.f9.length → A.isSome = true ∧ RowAt O w0 A 1 (ints x.f9 j) j) (hk : x.f0 = 4) (hc : chk x = 0) : evFn Tryz.prog O w0 (ΓU O w0) Λn 100 5 25 [cmdV x A c] [] (fun y M => K y M) := by
  have e : cmdV x A c = cmdK 4 x A c := by
    show SX.v (.agg (cellsK x.f0 x (sC A x.f9 c))) = _
    rw [hk]
  rw [e]
  refine f25_4 O w0 x A c K ?_
  have hF := vals_len hc
  have hr := rng_of hc
  have hu := used_id hc
  rw [hk] at hr hu
  simp [usedK, z33] at hu
  unfold rangeK at hr
  simp [inB, smpB, filB, colB] at hr
  have vi : I64 x.f2 := ⟨by omega, by omega⟩
  have hA : AllI [x.f1, x.f2, x.f8.f0, x.f8.f1, x.f8.f2, x.f8.f3, x.f8.f4, x.f8.f5.f0, x.f8.f5.f1, x.f8.f5.f2, x.f8.f5.f3, x.f8.f6, x.f8.f7, x.f8.f8] := ⟨fun v hv => by
    simp only [List.mem_cons, List.not_mem_nil, or_false] at hv
    exact ⟨by omega, by omega⟩, Nat.le_of_ble_eq_true rfl⟩
  exact ⟨hG, vi, hG, [x.f1, x.f2, x.f8.f0, x.f8.f1, x.f8.f2, x.f8.f3, x.f8.f4, x.f8.f5.f0, x.f8.f5.f1, x.f8.f5.f2, x.f8.f5.f3, x.f8.f6, x.f8.f7, x.f8.f8], ⟨.inr (.inr ⟨_, _, _, rfl, rfl⟩)⟩, hA, fun F hL => hK _ _ <| Fl25.of (ResL.ofLs rfl hL) (by unfold fieldsP; rw [hk]; rfl)⟩
set_option maxRecDepth 100000 in
theorem fl_5 {O : Nat → Prop} {w0 : World} {x : S33} {A : Option Addr} {c : Nat} {K : SX → List Blk → Prop} (hK : ∀ y M', Fl25 x y M' → K y M') (hG : GlT O w0) (hC : ∀ j, j < x.f9.length → A.isSome = true ∧ RowAt O w0 A 1 (ints x.f9 j) j) (hk : x.f0 = 5) (hc : chk x = 0) : evFn Tryz.prog O w0 (ΓU O w0) Λn 100 5 25 [cmdV x A c] [] (fun y M => K y M) := by
  have e : cmdV x A c = cmdK 5 x A c := by
    show SX.v (.agg (cellsK x.f0 x (sC A x.f9 c))) = _
    rw [hk]
  rw [e]
  refine f25_5 O w0 x A c K ?_
  have hF := vals_len hc
  have hr := rng_of hc
  have hu := used_id hc
  rw [hk] at hr hu
  simp [usedK, z33] at hu
  unfold rangeK at hr
  simp [inB, smpB, filB, colB] at hr
  have vi : I64 x.f2 := ⟨by omega, by omega⟩
  have hA : AllI [x.f1, x.f2] := ⟨fun v hv => by
    simp only [List.mem_cons, List.not_mem_nil, or_false] at hv
    exact ⟨by omega, by omega⟩, Nat.le_of_ble_eq_true rfl⟩
  exact ⟨hG, vi, hG, [x.f1, x.f2], ⟨.inr (.inr ⟨_, _, _, rfl, rfl⟩)⟩, hA, fun F hL => hK _ _ <| Fl25.of (ResL.ofLs rfl hL) (by unfold fieldsP; rw [hk]; rfl)⟩
set_option maxRecDepth 100000 in
theorem fl_6 {O : Nat → Prop} {w0 : World} {x : S33} {A : Option Addr} {c : Nat} {K : SX → List Blk → Prop} (hK : ∀ y M', Fl25 x y M' → K y M') (hG : GlT O w0) (hC : ∀ j, j < x.f9.length → A.isSome = true ∧ RowAt O w0 A 1 (ints x.f9 j) j) (hk : x.f0 = 6) (hc : chk x = 0) : evFn Tryz.prog O w0 (ΓU O w0) Λn 100 5 25 [cmdV x A c] [] (fun y M => K y M) := by
  have e : cmdV x A c = cmdK 6 x A c := by
    show SX.v (.agg (cellsK x.f0 x (sC A x.f9 c))) = _
    rw [hk]
  rw [e]
  refine f25_6 O w0 x A c K ?_
  have hF := vals_len hc
  have hr := rng_of hc
  have hu := used_id hc
  rw [hk] at hr hu
  simp [usedK, z33] at hu
  have hr : uniM x = true := hr
  unfold uniM at hr
  simp only [Bool.and_eq_true, decide_eq_true_eq, Bool.not_eq_true'] at hr
  obtain ⟨r1, r2, r3, r4, r5⟩ := hr
  have vi : I64 x.f2 := ⟨by omega, by omega⟩
  have hA : AllI (x.f3 :: x.f9) := ⟨fun v hv => by
    rcases List.mem_cons.1 hv with rfl | hv
    · exact ⟨by omega, by omega⟩
    · have := List.any_eq_false.1 r5 v hv
      unfold wide at this
      simp at this
      exact ⟨by omega, by omega⟩, by simp; omega⟩
  refine ⟨hG, vi, ⟨fun j hj => ⟨(hC j hj).1, by rw [Nat.zero_add]; exact (hC j hj).2, rfl, rfl⟩⟩, ⟨by omega⟩, hG, x.f3 :: x.f9, ⟨.inr (.inl ⟨2, 3, _, rfl, by rw [List.length_cons, Nat.add_comm]; rfl, fun j hj => ?_⟩)⟩, hA, fun F hL => hK _ _ <| Fl25.of (ResL.ofLs (xs := (x.f3 :: x.f9).map fiS) rfl hL) (by unfold fieldsP; rw [hk]; rfl)⟩
  cases j with
  | zero => rfl
  | succ j => show [SC.val (.int .i64 (x.f9.getD (0 + (j + 1 - 1)) 0))] = _; rw [Nat.zero_add]; rfl
set_option maxRecDepth 100000 in
theorem fl_7 {O : Nat → Prop} {w0 : World} {x : S33} {A : Option Addr} {c : Nat} {K : SX → List Blk → Prop} (hK : ∀ y M', Fl25 x y M' → K y M') (hG : GlT O w0) (hC : ∀ j, j < x.f9.length → A.isSome = true ∧ RowAt O w0 A 1 (ints x.f9 j) j) (hk : x.f0 = 7) (hc : chk x = 0) : evFn Tryz.prog O w0 (ΓU O w0) Λn 100 5 25 [cmdV x A c] [] (fun y M => K y M) := by
  have e : cmdV x A c = cmdK 7 x A c := by
    show SX.v (.agg (cellsK x.f0 x (sC A x.f9 c))) = _
    rw [hk]
  rw [e]
  refine f25_7 O w0 x A c K ?_
  have hF := vals_len hc
  have hr := rng_of hc
  have hu := used_id hc
  rw [hk] at hr hu
  simp [usedK, z33] at hu
  unfold rangeK at hr
  simp [inB, smpB, filB, colB] at hr
  have vi : I64 x.f2 := ⟨by omega, by omega⟩
  refine ⟨hG, vi, cond_of (fun h13 => ?_) (fun h13 => ?_)⟩
  · exact hK _ _ <| Fl25.of (ResL.strs (xs := [fiS x.f2, ⟨#[108, 111, 97, 100]⟩]) rfl (Nat.le_of_ble_eq_true rfl)) (by unfold fieldsP; rw [hk, h13]; rfl)
  · rw [h13] at hr
    simp at hr
    have hA : AllI [x.f10.f0, x.f10.f1, x.f10.f2, x.f10.f3, x.f11, x.f12] := ⟨fun v hv => by
      simp only [List.mem_cons, List.not_mem_nil, or_false] at hv
      exact ⟨by omega, by omega⟩, Nat.le_of_ble_eq_true rfl⟩
    refine ⟨hG, [x.f10.f0, x.f10.f1, x.f10.f2, x.f10.f3, x.f11, x.f12], ⟨.inr (.inr ⟨_, _, _, rfl, rfl⟩)⟩, hA, fun F hL => ⟨⟨by simp⟩, hK _ _ <| Fl25.of (ResL.ofLs (xs := [fiS x.f2, ⟨#[99, 108, 101, 97, 114]⟩] ++ [x.f10.f0, x.f10.f1, x.f10.f2, x.f10.f3, x.f11, x.f12].map fiS) rfl ⟨rfl, fun j hj => ?_⟩) (by unfold fieldsP; rw [hk, h13]; rfl)⟩⟩
    rcases (show j = 0 ∨ j = 1 ∨ ∃ i, j = i + 2 ∧ i < 6 from by
      have hj : j < 8 := hj
      rcases Nat.lt_or_ge j 2 with h | h
      · omega
      · exact .inr (.inr ⟨j - 2, by omega, by omega⟩)) with rfl | rfl | ⟨i, rfl, hi⟩
    · rfl
    · rfl
    · exact hL.at_ i hi
set_option maxRecDepth 100000 in
theorem fl_8 {O : Nat → Prop} {w0 : World} {x : S33} {A : Option Addr} {c : Nat} {K : SX → List Blk → Prop} (hK : ∀ y M', Fl25 x y M' → K y M') (hG : GlT O w0) (hC : ∀ j, j < x.f9.length → A.isSome = true ∧ RowAt O w0 A 1 (ints x.f9 j) j) (hk : x.f0 = 8) (hc : chk x = 0) : evFn Tryz.prog O w0 (ΓU O w0) Λn 100 5 25 [cmdV x A c] [] (fun y M => K y M) := by
  have e : cmdV x A c = cmdK 8 x A c := by
    show SX.v (.agg (cellsK x.f0 x (sC A x.f9 c))) = _
    rw [hk]
  rw [e]
  refine f25_8 O w0 x A c K ?_
  have hF := vals_len hc
  have hr := rng_of hc
  have hu := used_id hc
  rw [hk] at hr hu
  simp [usedK, z33] at hu
  unfold rangeK at hr
  simp [inB, smpB, filB, colB] at hr
  have vi : I64 x.f2 := ⟨by omega, by omega⟩
  exact ⟨hG, vi, hK _ _ <| Fl25.of (xs := []) (.nil rfl) (by unfold fieldsP; rw [hk]; rfl)⟩
set_option maxRecDepth 100000 in
theorem fl_9 {O : Nat → Prop} {w0 : World} {x : S33} {A : Option Addr} {c : Nat} {K : SX → List Blk → Prop} (hK : ∀ y M', Fl25 x y M' → K y M') (hG : GlT O w0) (hC : ∀ j, j < x.f9.length → A.isSome = true ∧ RowAt O w0 A 1 (ints x.f9 j) j) (hk : x.f0 = 9) (hc : chk x = 0) : evFn Tryz.prog O w0 (ΓU O w0) Λn 100 5 25 [cmdV x A c] [] (fun y M => K y M) := by
  have e : cmdV x A c = cmdK 9 x A c := by
    show SX.v (.agg (cellsK x.f0 x (sC A x.f9 c))) = _
    rw [hk]
  rw [e]
  refine f25_9 O w0 x A c K ?_
  have hF := vals_len hc
  have hr := rng_of hc
  have hu := used_id hc
  rw [hk] at hr hu
  simp [usedK, z33] at hu
  unfold rangeK at hr
  simp [inB, smpB, filB, colB] at hr
  have vi : I64 x.f2 := ⟨by omega, by omega⟩
  have hA : AllI [x.f3, x.f4] := ⟨fun v hv => by
    simp only [List.mem_cons, List.not_mem_nil, or_false] at hv
    exact ⟨by omega, by omega⟩, Nat.le_of_ble_eq_true rfl⟩
  exact ⟨hG, vi, hG, [x.f3, x.f4], ⟨.inr (.inr ⟨_, _, _, rfl, rfl⟩)⟩, hA, fun F hL => hK _ _ <| Fl25.of (ResL.ofLs rfl hL) (by unfold fieldsP; rw [hk]; rfl)⟩
set_option maxRecDepth 100000 in
theorem fl_10 {O : Nat → Prop} {w0 : World} {x : S33} {A : Option Addr} {c : Nat} {K : SX → List Blk → Prop} (hK : ∀ y M', Fl25 x y M' → K y M') (hG : GlT O w0) (hC : ∀ j, j < x.f9.length → A.isSome = true ∧ RowAt O w0 A 1 (ints x.f9 j) j) (hk : x.f0 = 10) (hc : chk x = 0) : evFn Tryz.prog O w0 (ΓU O w0) Λn 100 5 25 [cmdV x A c] [] (fun y M => K y M) := by
  have e : cmdV x A c = cmdK 10 x A c := by
    show SX.v (.agg (cellsK x.f0 x (sC A x.f9 c))) = _
    rw [hk]
  rw [e]
  refine f25_10 O w0 x A c K ?_
  have hF := vals_len hc
  have hr := rng_of hc
  have hu := used_id hc
  rw [hk] at hr hu
  simp [usedK, z33] at hu
  unfold rangeK at hr
  simp [inB, smpB, filB, colB] at hr
  have vi : I64 x.f2 := ⟨by omega, by omega⟩
  exact ⟨hG, vi, ⟨by omega, by omega⟩, fun r hr => by subst hr; exact ⟨⟨by omega, by omega⟩, fun r hr => by subst hr; exact hK _ _ <| Fl25.of (ResL.strs (xs := [fiS x.f2, wOf stTab x.f6, wOf stTab x.f7]) rfl (Nat.le_of_ble_eq_true rfl)) (by unfold fieldsP; rw [hk]; rfl)⟩⟩
set_option maxRecDepth 100000 in
theorem fl_11 {O : Nat → Prop} {w0 : World} {x : S33} {A : Option Addr} {c : Nat} {K : SX → List Blk → Prop} (hK : ∀ y M', Fl25 x y M' → K y M') (hG : GlT O w0) (hC : ∀ j, j < x.f9.length → A.isSome = true ∧ RowAt O w0 A 1 (ints x.f9 j) j) (hk : x.f0 = 11) (hc : chk x = 0) : evFn Tryz.prog O w0 (ΓU O w0) Λn 100 5 25 [cmdV x A c] [] (fun y M => K y M) := by
  have e : cmdV x A c = cmdK 11 x A c := by
    show SX.v (.agg (cellsK x.f0 x (sC A x.f9 c))) = _
    rw [hk]
  rw [e]
  refine f25_11 O w0 x A c K ?_
  have hF := vals_len hc
  have hr := rng_of hc
  have hu := used_id hc
  rw [hk] at hr hu
  simp [usedK, z33] at hu
  unfold rangeK at hr
  simp [inB, smpB, filB, colB] at hr
  have vi : I64 x.f2 := ⟨by omega, by omega⟩
  exact ⟨hG, vi, hK _ _ <| Fl25.of (ResL.strs (xs := [fiS x.f2]) rfl (Nat.le_of_ble_eq_true rfl)) (by unfold fieldsP; rw [hk]; rfl)⟩
set_option maxRecDepth 100000 in
theorem fl_12 {O : Nat → Prop} {w0 : World} {x : S33} {A : Option Addr} {c : Nat} {K : SX → List Blk → Prop} (hK : ∀ y M', Fl25 x y M' → K y M') (hG : GlT O w0) (hC : ∀ j, j < x.f9.length → A.isSome = true ∧ RowAt O w0 A 1 (ints x.f9 j) j) (hk : x.f0 = 12) (hc : chk x = 0) : evFn Tryz.prog O w0 (ΓU O w0) Λn 100 5 25 [cmdV x A c] [] (fun y M => K y M) := by
  have e : cmdV x A c = cmdK 12 x A c := by
    show SX.v (.agg (cellsK x.f0 x (sC A x.f9 c))) = _
    rw [hk]
  rw [e]
  refine f25_12 O w0 x A c K ?_
  have hF := vals_len hc
  have hr := rng_of hc
  have hu := used_id hc
  rw [hk] at hr hu
  simp [usedK, z33] at hu
  unfold rangeK at hr
  simp [inB, smpB, filB, colB] at hr
  have vi : I64 x.f2 := ⟨by omega, by omega⟩
  exact ⟨hG, vi, hK _ _ <| Fl25.of (ResL.strs (xs := [fiS x.f2]) rfl (Nat.le_of_ble_eq_true rfl)) (by unfold fieldsP; rw [hk]; rfl)⟩
set_option maxRecDepth 100000 in
theorem fl_13 {O : Nat → Prop} {w0 : World} {x : S33} {A : Option Addr} {c : Nat} {K : SX → List Blk → Prop} (hK : ∀ y M', Fl25 x y M' → K y M') (hG : GlT O w0) (hC : ∀ j, j < x.f9.length → A.isSome = true ∧ RowAt O w0 A 1 (ints x.f9 j) j) (hk : x.f0 = 13) (hc : chk x = 0) : evFn Tryz.prog O w0 (ΓU O w0) Λn 100 5 25 [cmdV x A c] [] (fun y M => K y M) := by
  have e : cmdV x A c = cmdK 13 x A c := by
    show SX.v (.agg (cellsK x.f0 x (sC A x.f9 c))) = _
    rw [hk]
  rw [e]
  refine f25_13 O w0 x A c K ?_
  have hF := vals_len hc
  have hr := rng_of hc
  have hu := used_id hc
  rw [hk] at hr hu
  simp [usedK, z33] at hu
  unfold rangeK at hr
  simp [inB, smpB, filB, colB] at hr
  have vi : I64 x.f2 := ⟨by omega, by omega⟩
  have hA : AllI [x.f2, x.f1] := ⟨fun v hv => by
    simp only [List.mem_cons, List.not_mem_nil, or_false] at hv
    exact ⟨by omega, by omega⟩, Nat.le_of_ble_eq_true rfl⟩
  exact ⟨hG, vi, hG, [x.f2, x.f1], ⟨.inr (.inr ⟨_, _, _, rfl, rfl⟩)⟩, hA, fun F hL => hK _ _ <| Fl25.of (ResL.ofLs rfl hL) (by unfold fieldsP; rw [hk]; rfl)⟩
set_option maxRecDepth 100000 in
theorem fl_14 {O : Nat → Prop} {w0 : World} {x : S33} {A : Option Addr} {c : Nat} {K : SX → List Blk → Prop} (hK : ∀ y M', Fl25 x y M' → K y M') (hG : GlT O w0) (hC : ∀ j, j < x.f9.length → A.isSome = true ∧ RowAt O w0 A 1 (ints x.f9 j) j) (hk : x.f0 = 14) (hc : chk x = 0) : evFn Tryz.prog O w0 (ΓU O w0) Λn 100 5 25 [cmdV x A c] [] (fun y M => K y M) := by
  have e : cmdV x A c = cmdK 14 x A c := by
    show SX.v (.agg (cellsK x.f0 x (sC A x.f9 c))) = _
    rw [hk]
  rw [e]
  refine f25_14 O w0 x A c K ?_
  have hF := vals_len hc
  have hr := rng_of hc
  have hu := used_id hc
  rw [hk] at hr hu
  simp [usedK, z33] at hu
  unfold rangeK at hr
  simp [inB, smpB, filB, colB] at hr
  have vi : I64 x.f2 := ⟨by omega, by omega⟩
  have hA : AllI [x.f2, x.f1] := ⟨fun v hv => by
    simp only [List.mem_cons, List.not_mem_nil, or_false] at hv
    exact ⟨by omega, by omega⟩, Nat.le_of_ble_eq_true rfl⟩
  exact ⟨hG, vi, hG, [x.f2, x.f1], ⟨.inr (.inr ⟨_, _, _, rfl, rfl⟩)⟩, hA, fun F hL => hK _ _ <| Fl25.of (ResL.ofLs rfl hL) (by unfold fieldsP; rw [hk]; rfl)⟩
theorem fl_all {O : Nat → Prop} {w0 : World} {x : S33} {A : Option Addr} {c : Nat} {K : SX → List Blk → Prop} (hK : ∀ y M', Fl25 x y M' → K y M') (hG : GlT O w0) (hC : ∀ j, j < x.f9.length → A.isSome = true ∧ RowAt O w0 A 1 (ints x.f9 j) j) (hc : chk x = 0) : evFn Tryz.prog O w0 (ΓU O w0) Λn 100 5 25 [cmdV x A c] [] (fun y M => K y M) := by
  have h : ¬ (x.f0 < 1 ∨ x.f0 > 14) := fun h => by unfold chk at hc; rw [if_pos h] at hc; cases hc
  rcases kinds2 h with hk | hk | hk | hk | hk | hk | hk | hk | hk | hk | hk | hk | hk | hk
  · exact fl_1 hK hG hC hk hc
  · exact fl_2 hK hG hC hk hc
  · exact fl_3 hK hG hC hk hc
  · exact fl_4 hK hG hC hk hc
  · exact fl_5 hK hG hC hk hc
  · exact fl_6 hK hG hC hk hc
  · exact fl_7 hK hG hC hk hc
  · exact fl_8 hK hG hC hk hc
  · exact fl_9 hK hG hC hk hc
  · exact fl_10 hK hG hC hk hc
  · exact fl_11 hK hG hC hk hc
  · exact fl_12 hK hG hC hk hc
  · exact fl_13 hK hG hC hk hc
  · exact fl_14 hK hG hC hk hc
structure FlIs (x : S33) (xs : List ByteArray) : Prop where
  eq : xs = fieldsP x
def gFl : EntF := fun O w0 args M k => match args with
  | [a] => GlT O w0 ∧ ∃ x, CmdX O w0 a x ∧ chk x = 0 ∧ ∀ xs, FlIs x xs → k (.v (.c (.lst M.length))) (M ++ [listOf xs])
  | _ => False
theorem e25 (O : Nat → Prop) (w0 : World) : Entry Tryz.prog O w0 25 (gFl O w0) :=
  Entry.madeQ ΓU_ok 100 5 (g := gFl) (fun O w0 args M k hg β w hI => by
    unfold gFl at hg
    split at hg
    case h_2 => exact hg.elim
    rename_i a
    obtain ⟨hG, x, ⟨hx, A, c, ha, hA⟩, hc, hk⟩ := hg
    refine ⟨[cmdV x A c], Λn, by unfold fr; simp only [List.map_cons, ha β, List.map_nil], fl_all ?_ (hG.at hI.fr) (rowsAt hA hI.fr) hc⟩
    rintro y M' ⟨s, rfl, hR⟩
    exact ⟨[], s, 9, 1, _, _, rfl, rfl, hR, hk _ ⟨rfl⟩⟩) O w0
--SHOW
end Go.Proofs.YtfhckpfiegenaaaGreatDoor.Tr
