/- Line, of the package: its text, kind by kind (the kinds that write numbers alone). -/
import Derived.Test.YtfhckpfiegenaaaGreatDoorCm11
namespace Go.Proofs.YtfhckpfiegenaaaGreatDoor.Tr
open Go Go.RowKit Go.Proofs.YtfhckpfiegenaaaGreatDoor.Eng Go.Proofs.YtfhckpfiegenaaaGreatDoor.Cm
set_option linter.unusedVariables false
set_option linter.unusedSimpArgs false
set_option maxRecDepth 8000
def gGw (g : Nat) (l : List ByteArray) : EntF := fun O w0 args M k => ∃ A cap, RowAt O w0 (some ⟨g, 0, none⟩) 1 (tabRow l A cap) 0 ∧ k (.v (.c (.row (some ⟨g, 0, none⟩) 1 (fun _ => tabRow l A cap) 0 0))) M
def ΓN : TabF := addF (addF (addW ΓL 39 gNumW) (GK + 1) (gGw 1 ixTab)) (GK + 2) (gGw 2 stTab)
set_option maxHeartbeats 4000000 in
set_option maxRecDepth 100000 in
theorem f7_1 (O : Nat → Prop) (w0 : World) (x : S33) (A : Option Addr) (c : Nat) (K : SX → Prop) (h_ : Gl0 O w0 ∧ ∃ c_1, CmdX O w0 (SX.v (SV.agg [SC.val (Value.int IntKind.i64 1), SC.val (Value.int IntKind.i64 (S33.f1 x)), SC.val (Value.int IntKind.i64 (S33.f2 x)), SC.val (Value.int IntKind.i64 (S33.f3 x)), SC.val (Value.int IntKind.i64 (S33.f4 x)), SC.val (Value.int IntKind.i64 (S33.f5 x)), SC.val (Value.int IntKind.i64 (S33.f6 x)), SC.val (Value.int IntKind.i64 (S33.f7 x)), SC.val (Value.int IntKind.i64 (S30.f0 (S33.f8 x))), SC.val (Value.int IntKind.i64 (S30.f1 (S33.f8 x))), SC.val (Value.int IntKind.i64 (S30.f2 (S33.f8 x))), SC.val (Value.int IntKind.i64 (S30.f3 (S33.f8 x))), SC.val (Value.int IntKind.i64 (S30.f4 (S33.f8 x))), SC.val (Value.int IntKind.i64 (S28.f0 (S30.f5 (S33.f8 x)))), SC.val (Value.int IntKind.i64 (S28.f1 (S30.f5 (S33.f8 x)))), SC.val (Value.int IntKind.i64 (S28.f2 (S30.f5 (S33.f8 x)))), SC.val (Value.int IntKind.i64 (S28.f3 (S30.f5 (S33.f8 x)))), SC.val (Value.int IntKind.i64 (S30.f6 (S33.f8 x))), SC.val (Value.int IntKind.i64 (S30.f7 (S33.f8 x))), SC.val (Value.int IntKind.i64 (S30.f8 (S33.f8 x))), SC.rsl A (1 : Nat) (ints (S33.f9 x)) (0 : Nat) (List.length (S33.f9 x)) c, SC.val (Value.int IntKind.i64 (S28.f0 (S33.f10 x))), SC.val (Value.int IntKind.i64 (S28.f1 (S33.f10 x))), SC.val (Value.int IntKind.i64 (S28.f2 (S33.f10 x))), SC.val (Value.int IntKind.i64 (S28.f3 (S33.f10 x))), SC.val (Value.int IntKind.i64 (S33.f11 x)), SC.val (Value.int IntKind.i64 (S33.f12 x)), SC.val (Value.bool (S33.f13 x))])) c_1 ∧ bif chk c_1 != (0 : Int) then K (SX.tup [SV.c (SC.val (Value.string (ByteArray.mk #[]))), SV.c (SC.val (Value.int IntKind.i64 (chk c_1)))]) else Gl0 O w0 ∧ true = true ∧ ∃ x_1, CmdX O w0 (SX.v (SV.agg [SC.val (Value.int IntKind.i64 1), SC.val (Value.int IntKind.i64 (S33.f1 x)), SC.val (Value.int IntKind.i64 (S33.f2 x)), SC.val (Value.int IntKind.i64 (S33.f3 x)), SC.val (Value.int IntKind.i64 (S33.f4 x)), SC.val (Value.int IntKind.i64 (S33.f5 x)), SC.val (Value.int IntKind.i64 (S33.f6 x)), SC.val (Value.int IntKind.i64 (S33.f7 x)), SC.val (Value.int IntKind.i64 (S30.f0 (S33.f8 x))), SC.val (Value.int IntKind.i64 (S30.f1 (S33.f8 x))), SC.val (Value.int IntKind.i64 (S30.f2 (S33.f8 x))), SC.val (Value.int IntKind.i64 (S30.f3 (S33.f8 x))), SC.val (Value.int IntKind.i64 (S30.f4 (S33.f8 x))), SC.val (Value.int IntKind.i64 (S28.f0 (S30.f5 (S33.f8 x)))), SC.val (Value.int IntKind.i64 (S28.f1 (S30.f5 (S33.f8 x)))), SC.val (Value.int IntKind.i64 (S28.f2 (S30.f5 (S33.f8 x)))), SC.val (Value.int IntKind.i64 (S28.f3 (S30.f5 (S33.f8 x)))), SC.val (Value.int IntKind.i64 (S30.f6 (S33.f8 x))), SC.val (Value.int IntKind.i64 (S30.f7 (S33.f8 x))), SC.val (Value.int IntKind.i64 (S30.f8 (S33.f8 x))), SC.rsl A (1 : Nat) (ints (S33.f9 x)) (0 : Nat) (List.length (S33.f9 x)) c, SC.val (Value.int IntKind.i64 (S28.f0 (S33.f10 x))), SC.val (Value.int IntKind.i64 (S28.f1 (S33.f10 x))), SC.val (Value.int IntKind.i64 (S28.f2 (S33.f10 x))), SC.val (Value.int IntKind.i64 (S28.f3 (S33.f10 x))), SC.val (Value.int IntKind.i64 (S33.f11 x)), SC.val (Value.int IntKind.i64 (S33.f12 x)), SC.val (Value.bool (S33.f13 x))])) x_1 ∧ Room (List.length (S33.f9 x_1)) (8 : Nat) ∧ NumC O w0 (1 : Nat) [S33.f2 x] ∧ True ∧ ∀ (F : Nat → List SC), AppF F (1 : Nat) (fun x ↦ [SC.val (Value.string (nmS (1 : Int)))]) [S33.f2 x] → ∃ xs, LsX encS (ByteArray.mk #[]) (2 : Nat) F xs ∧ JoinOk xs (ByteArray.mk #[(32 : UInt8)]) ∧ ∀ (r : ByteArray), JoinIs xs r → K (SX.tup [SV.c (SC.val (Value.string r)), SV.c (SC.val (Value.int IntKind.i64 0))])) : evFn Tryz.prog O w0 (ΓN O w0) Λn 100 5 7 [cmdK 1 x A c] [] (fun y _ => K y) := vc_of h_ (by kernel_rfl)
set_option maxHeartbeats 4000000 in
set_option maxRecDepth 100000 in
theorem f7_2 (O : Nat → Prop) (w0 : World) (x : S33) (A : Option Addr) (c : Nat) (K : SX → Prop) (h_ : Gl0 O w0 ∧ ∃ c_1, CmdX O w0 (SX.v (SV.agg [SC.val (Value.int IntKind.i64 2), SC.val (Value.int IntKind.i64 (S33.f1 x)), SC.val (Value.int IntKind.i64 (S33.f2 x)), SC.val (Value.int IntKind.i64 (S33.f3 x)), SC.val (Value.int IntKind.i64 (S33.f4 x)), SC.val (Value.int IntKind.i64 (S33.f5 x)), SC.val (Value.int IntKind.i64 (S33.f6 x)), SC.val (Value.int IntKind.i64 (S33.f7 x)), SC.val (Value.int IntKind.i64 (S30.f0 (S33.f8 x))), SC.val (Value.int IntKind.i64 (S30.f1 (S33.f8 x))), SC.val (Value.int IntKind.i64 (S30.f2 (S33.f8 x))), SC.val (Value.int IntKind.i64 (S30.f3 (S33.f8 x))), SC.val (Value.int IntKind.i64 (S30.f4 (S33.f8 x))), SC.val (Value.int IntKind.i64 (S28.f0 (S30.f5 (S33.f8 x)))), SC.val (Value.int IntKind.i64 (S28.f1 (S30.f5 (S33.f8 x)))), SC.val (Value.int IntKind.i64 (S28.f2 (S30.f5 (S33.f8 x)))), SC.val (Value.int IntKind.i64 (S28.f3 (S30.f5 (S33.f8 x)))), SC.val (Value.int IntKind.i64 (S30.f6 (S33.f8 x))), SC.val (Value.int IntKind.i64 (S30.f7 (S33.f8 x))), SC.val (Value.int IntKind.i64 (S30.f8 (S33.f8 x))), SC.rsl A (1 : Nat) (ints (S33.f9 x)) (0 : Nat) (List.length (S33.f9 x)) c, SC.val (Value.int IntKind.i64 (S28.f0 (S33.f10 x))), SC.val (Value.int IntKind.i64 (S28.f1 (S33.f10 x))), SC.val (Value.int IntKind.i64 (S28.f2 (S33.f10 x))), SC.val (Value.int IntKind.i64 (S28.f3 (S33.f10 x))), SC.val (Value.int IntKind.i64 (S33.f11 x)), SC.val (Value.int IntKind.i64 (S33.f12 x)), SC.val (Value.bool (S33.f13 x))])) c_1 ∧ bif chk c_1 != (0 : Int) then K (SX.tup [SV.c (SC.val (Value.string (ByteArray.mk #[]))), SV.c (SC.val (Value.int IntKind.i64 (chk c_1)))]) else Gl0 O w0 ∧ true = true ∧ ∃ x_1, CmdX O w0 (SX.v (SV.agg [SC.val (Value.int IntKind.i64 2), SC.val (Value.int IntKind.i64 (S33.f1 x)), SC.val (Value.int IntKind.i64 (S33.f2 x)), SC.val (Value.int IntKind.i64 (S33.f3 x)), SC.val (Value.int IntKind.i64 (S33.f4 x)), SC.val (Value.int IntKind.i64 (S33.f5 x)), SC.val (Value.int IntKind.i64 (S33.f6 x)), SC.val (Value.int IntKind.i64 (S33.f7 x)), SC.val (Value.int IntKind.i64 (S30.f0 (S33.f8 x))), SC.val (Value.int IntKind.i64 (S30.f1 (S33.f8 x))), SC.val (Value.int IntKind.i64 (S30.f2 (S33.f8 x))), SC.val (Value.int IntKind.i64 (S30.f3 (S33.f8 x))), SC.val (Value.int IntKind.i64 (S30.f4 (S33.f8 x))), SC.val (Value.int IntKind.i64 (S28.f0 (S30.f5 (S33.f8 x)))), SC.val (Value.int IntKind.i64 (S28.f1 (S30.f5 (S33.f8 x)))), SC.val (Value.int IntKind.i64 (S28.f2 (S30.f5 (S33.f8 x)))), SC.val (Value.int IntKind.i64 (S28.f3 (S30.f5 (S33.f8 x)))), SC.val (Value.int IntKind.i64 (S30.f6 (S33.f8 x))), SC.val (Value.int IntKind.i64 (S30.f7 (S33.f8 x))), SC.val (Value.int IntKind.i64 (S30.f8 (S33.f8 x))), SC.rsl A (1 : Nat) (ints (S33.f9 x)) (0 : Nat) (List.length (S33.f9 x)) c, SC.val (Value.int IntKind.i64 (S28.f0 (S33.f10 x))), SC.val (Value.int IntKind.i64 (S28.f1 (S33.f10 x))), SC.val (Value.int IntKind.i64 (S28.f2 (S33.f10 x))), SC.val (Value.int IntKind.i64 (S28.f3 (S33.f10 x))), SC.val (Value.int IntKind.i64 (S33.f11 x)), SC.val (Value.int IntKind.i64 (S33.f12 x)), SC.val (Value.bool (S33.f13 x))])) x_1 ∧ Room (List.length (S33.f9 x_1)) (8 : Nat) ∧ NumC O w0 (1 : Nat) [S33.f1 x, S33.f2 x] ∧ True ∧ ∀ (F : Nat → List SC), AppF F (1 : Nat) (fun x ↦ [SC.val (Value.string (nmS (2 : Int)))]) [S33.f1 x, S33.f2 x] → ∃ xs, LsX encS (ByteArray.mk #[]) (3 : Nat) F xs ∧ JoinOk xs (ByteArray.mk #[(32 : UInt8)]) ∧ ∀ (r : ByteArray), JoinIs xs r → K (SX.tup [SV.c (SC.val (Value.string r)), SV.c (SC.val (Value.int IntKind.i64 0))])) : evFn Tryz.prog O w0 (ΓN O w0) Λn 100 5 7 [cmdK 2 x A c] [] (fun y _ => K y) := vc_of h_ (by kernel_rfl)
set_option maxHeartbeats 4000000 in
set_option maxRecDepth 100000 in
theorem f7_4 (O : Nat → Prop) (w0 : World) (x : S33) (A : Option Addr) (c : Nat) (K : SX → Prop) (h_ : Gl0 O w0 ∧ ∃ c_1, CmdX O w0 (SX.v (SV.agg [SC.val (Value.int IntKind.i64 4), SC.val (Value.int IntKind.i64 (S33.f1 x)), SC.val (Value.int IntKind.i64 (S33.f2 x)), SC.val (Value.int IntKind.i64 (S33.f3 x)), SC.val (Value.int IntKind.i64 (S33.f4 x)), SC.val (Value.int IntKind.i64 (S33.f5 x)), SC.val (Value.int IntKind.i64 (S33.f6 x)), SC.val (Value.int IntKind.i64 (S33.f7 x)), SC.val (Value.int IntKind.i64 (S30.f0 (S33.f8 x))), SC.val (Value.int IntKind.i64 (S30.f1 (S33.f8 x))), SC.val (Value.int IntKind.i64 (S30.f2 (S33.f8 x))), SC.val (Value.int IntKind.i64 (S30.f3 (S33.f8 x))), SC.val (Value.int IntKind.i64 (S30.f4 (S33.f8 x))), SC.val (Value.int IntKind.i64 (S28.f0 (S30.f5 (S33.f8 x)))), SC.val (Value.int IntKind.i64 (S28.f1 (S30.f5 (S33.f8 x)))), SC.val (Value.int IntKind.i64 (S28.f2 (S30.f5 (S33.f8 x)))), SC.val (Value.int IntKind.i64 (S28.f3 (S30.f5 (S33.f8 x)))), SC.val (Value.int IntKind.i64 (S30.f6 (S33.f8 x))), SC.val (Value.int IntKind.i64 (S30.f7 (S33.f8 x))), SC.val (Value.int IntKind.i64 (S30.f8 (S33.f8 x))), SC.rsl A (1 : Nat) (ints (S33.f9 x)) (0 : Nat) (List.length (S33.f9 x)) c, SC.val (Value.int IntKind.i64 (S28.f0 (S33.f10 x))), SC.val (Value.int IntKind.i64 (S28.f1 (S33.f10 x))), SC.val (Value.int IntKind.i64 (S28.f2 (S33.f10 x))), SC.val (Value.int IntKind.i64 (S28.f3 (S33.f10 x))), SC.val (Value.int IntKind.i64 (S33.f11 x)), SC.val (Value.int IntKind.i64 (S33.f12 x)), SC.val (Value.bool (S33.f13 x))])) c_1 ∧ bif chk c_1 != (0 : Int) then K (SX.tup [SV.c (SC.val (Value.string (ByteArray.mk #[]))), SV.c (SC.val (Value.int IntKind.i64 (chk c_1)))]) else Gl0 O w0 ∧ true = true ∧ ∃ x_1, CmdX O w0 (SX.v (SV.agg [SC.val (Value.int IntKind.i64 4), SC.val (Value.int IntKind.i64 (S33.f1 x)), SC.val (Value.int IntKind.i64 (S33.f2 x)), SC.val (Value.int IntKind.i64 (S33.f3 x)), SC.val (Value.int IntKind.i64 (S33.f4 x)), SC.val (Value.int IntKind.i64 (S33.f5 x)), SC.val (Value.int IntKind.i64 (S33.f6 x)), SC.val (Value.int IntKind.i64 (S33.f7 x)), SC.val (Value.int IntKind.i64 (S30.f0 (S33.f8 x))), SC.val (Value.int IntKind.i64 (S30.f1 (S33.f8 x))), SC.val (Value.int IntKind.i64 (S30.f2 (S33.f8 x))), SC.val (Value.int IntKind.i64 (S30.f3 (S33.f8 x))), SC.val (Value.int IntKind.i64 (S30.f4 (S33.f8 x))), SC.val (Value.int IntKind.i64 (S28.f0 (S30.f5 (S33.f8 x)))), SC.val (Value.int IntKind.i64 (S28.f1 (S30.f5 (S33.f8 x)))), SC.val (Value.int IntKind.i64 (S28.f2 (S30.f5 (S33.f8 x)))), SC.val (Value.int IntKind.i64 (S28.f3 (S30.f5 (S33.f8 x)))), SC.val (Value.int IntKind.i64 (S30.f6 (S33.f8 x))), SC.val (Value.int IntKind.i64 (S30.f7 (S33.f8 x))), SC.val (Value.int IntKind.i64 (S30.f8 (S33.f8 x))), SC.rsl A (1 : Nat) (ints (S33.f9 x)) (0 : Nat) (List.length (S33.f9 x)) c, SC.val (Value.int IntKind.i64 (S28.f0 (S33.f10 x))), SC.val (Value.int IntKind.i64 (S28.f1 (S33.f10 x))), SC.val (Value.int IntKind.i64 (S28.f2 (S33.f10 x))), SC.val (Value.int IntKind.i64 (S28.f3 (S33.f10 x))), SC.val (Value.int IntKind.i64 (S33.f11 x)), SC.val (Value.int IntKind.i64 (S33.f12 x)), SC.val (Value.bool (S33.f13 x))])) x_1 ∧ Room (List.length (S33.f9 x_1)) (8 : Nat) ∧ NumC O w0 (1 : Nat) [S33.f1 x, S33.f2 x] ∧ True ∧ ∀ (F : Nat → List SC), AppF F (1 : Nat) (fun x ↦ [SC.val (Value.string (nmS (4 : Int)))]) [S33.f1 x, S33.f2 x] → NumC O w0 (3 : Nat) [S30.f0 (S33.f8 x)] ∧ True ∧ ∀ (F_1 : Nat → List SC), AppF F_1 ((1 : Nat) + List.length [S33.f1 x, S33.f2 x]) F [S30.f0 (S33.f8 x)] → NumC O w0 (4 : Nat) [S30.f1 (S33.f8 x)] ∧ True ∧ ∀ (F : Nat → List SC), AppF F ((1 : Nat) + List.length [S33.f1 x, S33.f2 x] + List.length [S30.f0 (S33.f8 x)]) F_1 [S30.f1 (S33.f8 x)] → NumC O w0 (5 : Nat) [S30.f2 (S33.f8 x)] ∧ True ∧ ∀ (F_2 : Nat → List SC), AppF F_2 ((1 : Nat) + List.length [S33.f1 x, S33.f2 x] + List.length [S30.f0 (S33.f8 x)] + List.length [S30.f1 (S33.f8 x)]) F [S30.f2 (S33.f8 x)] → NumC O w0 (6 : Nat) [S30.f3 (S33.f8 x)] ∧ True ∧ ∀ (F : Nat → List SC), AppF F ((1 : Nat) + List.length [S33.f1 x, S33.f2 x] + List.length [S30.f0 (S33.f8 x)] + List.length [S30.f1 (S33.f8 x)] + List.length [S30.f2 (S33.f8 x)]) F_2 [S30.f3 (S33.f8 x)] → NumC O w0 (7 : Nat) [S30.f4 (S33.f8 x)] ∧ True ∧ ∀ (F_3 : Nat → List SC), AppF F_3 ((1 : Nat) + List.length [S33.f1 x, S33.f2 x] + List.length [S30.f0 (S33.f8 x)] + List.length [S30.f1 (S33.f8 x)] + List.length [S30.f2 (S33.f8 x)] + List.length [S30.f3 (S33.f8 x)]) F [S30.f4 (S33.f8 x)] → NumC O w0 (8 : Nat) [S28.f0 (S30.f5 (S33.f8 x)), S28.f1 (S30.f5 (S33.f8 x)), S28.f2 (S30.f5 (S33.f8 x)), S28.f3 (S30.f5 (S33.f8 x))] ∧ True ∧ ∀ (F : Nat → List SC), AppF F ((1 : Nat) + List.length [S33.f1 x, S33.f2 x] + List.length [S30.f0 (S33.f8 x)] + List.length [S30.f1 (S33.f8 x)] + List.length [S30.f2 (S33.f8 x)] + List.length [S30.f3 (S33.f8 x)] + List.length [S30.f4 (S33.f8 x)]) F_3 [S28.f0 (S30.f5 (S33.f8 x)), S28.f1 (S30.f5 (S33.f8 x)), S28.f2 (S30.f5 (S33.f8 x)), S28.f3 (S30.f5 (S33.f8 x))] → NumC O w0 (12 : Nat) [S30.f6 (S33.f8 x), S30.f7 (S33.f8 x), S30.f8 (S33.f8 x)] ∧ True ∧ ∀ (F_4 : Nat → List SC), AppF F_4 ((1 : Nat) + List.length [S33.f1 x, S33.f2 x] + List.length [S30.f0 (S33.f8 x)] + List.length [S30.f1 (S33.f8 x)] + List.length [S30.f2 (S33.f8 x)] + List.length [S30.f3 (S33.f8 x)] + List.length [S30.f4 (S33.f8 x)] + List.length [S28.f0 (S30.f5 (S33.f8 x)), S28.f1 (S30.f5 (S33.f8 x)), S28.f2 (S30.f5 (S33.f8 x)), S28.f3 (S30.f5 (S33.f8 x))]) F [S30.f6 (S33.f8 x), S30.f7 (S33.f8 x), S30.f8 (S33.f8 x)] → ∃ xs, LsX encS (ByteArray.mk #[]) (15 : Nat) F_4 xs ∧ JoinOk xs (ByteArray.mk #[(32 : UInt8)]) ∧ ∀ (r : ByteArray), JoinIs xs r → K (SX.tup [SV.c (SC.val (Value.string r)), SV.c (SC.val (Value.int IntKind.i64 0))])) : evFn Tryz.prog O w0 (ΓN O w0) Λn 100 5 7 [cmdK 4 x A c] [] (fun y _ => K y) := vc_of h_ (by kernel_rfl)
set_option maxHeartbeats 4000000 in
set_option maxRecDepth 100000 in
theorem f7_5 (O : Nat → Prop) (w0 : World) (x : S33) (A : Option Addr) (c : Nat) (K : SX → Prop) (h_ : Gl0 O w0 ∧ ∃ c_1, CmdX O w0 (SX.v (SV.agg [SC.val (Value.int IntKind.i64 5), SC.val (Value.int IntKind.i64 (S33.f1 x)), SC.val (Value.int IntKind.i64 (S33.f2 x)), SC.val (Value.int IntKind.i64 (S33.f3 x)), SC.val (Value.int IntKind.i64 (S33.f4 x)), SC.val (Value.int IntKind.i64 (S33.f5 x)), SC.val (Value.int IntKind.i64 (S33.f6 x)), SC.val (Value.int IntKind.i64 (S33.f7 x)), SC.val (Value.int IntKind.i64 (S30.f0 (S33.f8 x))), SC.val (Value.int IntKind.i64 (S30.f1 (S33.f8 x))), SC.val (Value.int IntKind.i64 (S30.f2 (S33.f8 x))), SC.val (Value.int IntKind.i64 (S30.f3 (S33.f8 x))), SC.val (Value.int IntKind.i64 (S30.f4 (S33.f8 x))), SC.val (Value.int IntKind.i64 (S28.f0 (S30.f5 (S33.f8 x)))), SC.val (Value.int IntKind.i64 (S28.f1 (S30.f5 (S33.f8 x)))), SC.val (Value.int IntKind.i64 (S28.f2 (S30.f5 (S33.f8 x)))), SC.val (Value.int IntKind.i64 (S28.f3 (S30.f5 (S33.f8 x)))), SC.val (Value.int IntKind.i64 (S30.f6 (S33.f8 x))), SC.val (Value.int IntKind.i64 (S30.f7 (S33.f8 x))), SC.val (Value.int IntKind.i64 (S30.f8 (S33.f8 x))), SC.rsl A (1 : Nat) (ints (S33.f9 x)) (0 : Nat) (List.length (S33.f9 x)) c, SC.val (Value.int IntKind.i64 (S28.f0 (S33.f10 x))), SC.val (Value.int IntKind.i64 (S28.f1 (S33.f10 x))), SC.val (Value.int IntKind.i64 (S28.f2 (S33.f10 x))), SC.val (Value.int IntKind.i64 (S28.f3 (S33.f10 x))), SC.val (Value.int IntKind.i64 (S33.f11 x)), SC.val (Value.int IntKind.i64 (S33.f12 x)), SC.val (Value.bool (S33.f13 x))])) c_1 ∧ bif chk c_1 != (0 : Int) then K (SX.tup [SV.c (SC.val (Value.string (ByteArray.mk #[]))), SV.c (SC.val (Value.int IntKind.i64 (chk c_1)))]) else Gl0 O w0 ∧ true = true ∧ ∃ x_1, CmdX O w0 (SX.v (SV.agg [SC.val (Value.int IntKind.i64 5), SC.val (Value.int IntKind.i64 (S33.f1 x)), SC.val (Value.int IntKind.i64 (S33.f2 x)), SC.val (Value.int IntKind.i64 (S33.f3 x)), SC.val (Value.int IntKind.i64 (S33.f4 x)), SC.val (Value.int IntKind.i64 (S33.f5 x)), SC.val (Value.int IntKind.i64 (S33.f6 x)), SC.val (Value.int IntKind.i64 (S33.f7 x)), SC.val (Value.int IntKind.i64 (S30.f0 (S33.f8 x))), SC.val (Value.int IntKind.i64 (S30.f1 (S33.f8 x))), SC.val (Value.int IntKind.i64 (S30.f2 (S33.f8 x))), SC.val (Value.int IntKind.i64 (S30.f3 (S33.f8 x))), SC.val (Value.int IntKind.i64 (S30.f4 (S33.f8 x))), SC.val (Value.int IntKind.i64 (S28.f0 (S30.f5 (S33.f8 x)))), SC.val (Value.int IntKind.i64 (S28.f1 (S30.f5 (S33.f8 x)))), SC.val (Value.int IntKind.i64 (S28.f2 (S30.f5 (S33.f8 x)))), SC.val (Value.int IntKind.i64 (S28.f3 (S30.f5 (S33.f8 x)))), SC.val (Value.int IntKind.i64 (S30.f6 (S33.f8 x))), SC.val (Value.int IntKind.i64 (S30.f7 (S33.f8 x))), SC.val (Value.int IntKind.i64 (S30.f8 (S33.f8 x))), SC.rsl A (1 : Nat) (ints (S33.f9 x)) (0 : Nat) (List.length (S33.f9 x)) c, SC.val (Value.int IntKind.i64 (S28.f0 (S33.f10 x))), SC.val (Value.int IntKind.i64 (S28.f1 (S33.f10 x))), SC.val (Value.int IntKind.i64 (S28.f2 (S33.f10 x))), SC.val (Value.int IntKind.i64 (S28.f3 (S33.f10 x))), SC.val (Value.int IntKind.i64 (S33.f11 x)), SC.val (Value.int IntKind.i64 (S33.f12 x)), SC.val (Value.bool (S33.f13 x))])) x_1 ∧ Room (List.length (S33.f9 x_1)) (8 : Nat) ∧ NumC O w0 (1 : Nat) [S33.f1 x, S33.f2 x] ∧ True ∧ ∀ (F : Nat → List SC), AppF F (1 : Nat) (fun x ↦ [SC.val (Value.string (nmS (5 : Int)))]) [S33.f1 x, S33.f2 x] → ∃ xs, LsX encS (ByteArray.mk #[]) (3 : Nat) F xs ∧ JoinOk xs (ByteArray.mk #[(32 : UInt8)]) ∧ ∀ (r : ByteArray), JoinIs xs r → K (SX.tup [SV.c (SC.val (Value.string r)), SV.c (SC.val (Value.int IntKind.i64 0))])) : evFn Tryz.prog O w0 (ΓN O w0) Λn 100 5 7 [cmdK 5 x A c] [] (fun y _ => K y) := vc_of h_ (by kernel_rfl)
set_option maxHeartbeats 4000000 in
set_option maxRecDepth 100000 in
theorem f7_8 (O : Nat → Prop) (w0 : World) (x : S33) (A : Option Addr) (c : Nat) (K : SX → Prop) (h_ : Gl0 O w0 ∧ ∃ c_1, CmdX O w0 (SX.v (SV.agg [SC.val (Value.int IntKind.i64 8), SC.val (Value.int IntKind.i64 (S33.f1 x)), SC.val (Value.int IntKind.i64 (S33.f2 x)), SC.val (Value.int IntKind.i64 (S33.f3 x)), SC.val (Value.int IntKind.i64 (S33.f4 x)), SC.val (Value.int IntKind.i64 (S33.f5 x)), SC.val (Value.int IntKind.i64 (S33.f6 x)), SC.val (Value.int IntKind.i64 (S33.f7 x)), SC.val (Value.int IntKind.i64 (S30.f0 (S33.f8 x))), SC.val (Value.int IntKind.i64 (S30.f1 (S33.f8 x))), SC.val (Value.int IntKind.i64 (S30.f2 (S33.f8 x))), SC.val (Value.int IntKind.i64 (S30.f3 (S33.f8 x))), SC.val (Value.int IntKind.i64 (S30.f4 (S33.f8 x))), SC.val (Value.int IntKind.i64 (S28.f0 (S30.f5 (S33.f8 x)))), SC.val (Value.int IntKind.i64 (S28.f1 (S30.f5 (S33.f8 x)))), SC.val (Value.int IntKind.i64 (S28.f2 (S30.f5 (S33.f8 x)))), SC.val (Value.int IntKind.i64 (S28.f3 (S30.f5 (S33.f8 x)))), SC.val (Value.int IntKind.i64 (S30.f6 (S33.f8 x))), SC.val (Value.int IntKind.i64 (S30.f7 (S33.f8 x))), SC.val (Value.int IntKind.i64 (S30.f8 (S33.f8 x))), SC.rsl A (1 : Nat) (ints (S33.f9 x)) (0 : Nat) (List.length (S33.f9 x)) c, SC.val (Value.int IntKind.i64 (S28.f0 (S33.f10 x))), SC.val (Value.int IntKind.i64 (S28.f1 (S33.f10 x))), SC.val (Value.int IntKind.i64 (S28.f2 (S33.f10 x))), SC.val (Value.int IntKind.i64 (S28.f3 (S33.f10 x))), SC.val (Value.int IntKind.i64 (S33.f11 x)), SC.val (Value.int IntKind.i64 (S33.f12 x)), SC.val (Value.bool (S33.f13 x))])) c_1 ∧ bif chk c_1 != (0 : Int) then K (SX.tup [SV.c (SC.val (Value.string (ByteArray.mk #[]))), SV.c (SC.val (Value.int IntKind.i64 (chk c_1)))]) else Gl0 O w0 ∧ true = true ∧ ∃ x_1, CmdX O w0 (SX.v (SV.agg [SC.val (Value.int IntKind.i64 8), SC.val (Value.int IntKind.i64 (S33.f1 x)), SC.val (Value.int IntKind.i64 (S33.f2 x)), SC.val (Value.int IntKind.i64 (S33.f3 x)), SC.val (Value.int IntKind.i64 (S33.f4 x)), SC.val (Value.int IntKind.i64 (S33.f5 x)), SC.val (Value.int IntKind.i64 (S33.f6 x)), SC.val (Value.int IntKind.i64 (S33.f7 x)), SC.val (Value.int IntKind.i64 (S30.f0 (S33.f8 x))), SC.val (Value.int IntKind.i64 (S30.f1 (S33.f8 x))), SC.val (Value.int IntKind.i64 (S30.f2 (S33.f8 x))), SC.val (Value.int IntKind.i64 (S30.f3 (S33.f8 x))), SC.val (Value.int IntKind.i64 (S30.f4 (S33.f8 x))), SC.val (Value.int IntKind.i64 (S28.f0 (S30.f5 (S33.f8 x)))), SC.val (Value.int IntKind.i64 (S28.f1 (S30.f5 (S33.f8 x)))), SC.val (Value.int IntKind.i64 (S28.f2 (S30.f5 (S33.f8 x)))), SC.val (Value.int IntKind.i64 (S28.f3 (S30.f5 (S33.f8 x)))), SC.val (Value.int IntKind.i64 (S30.f6 (S33.f8 x))), SC.val (Value.int IntKind.i64 (S30.f7 (S33.f8 x))), SC.val (Value.int IntKind.i64 (S30.f8 (S33.f8 x))), SC.rsl A (1 : Nat) (ints (S33.f9 x)) (0 : Nat) (List.length (S33.f9 x)) c, SC.val (Value.int IntKind.i64 (S28.f0 (S33.f10 x))), SC.val (Value.int IntKind.i64 (S28.f1 (S33.f10 x))), SC.val (Value.int IntKind.i64 (S28.f2 (S33.f10 x))), SC.val (Value.int IntKind.i64 (S28.f3 (S33.f10 x))), SC.val (Value.int IntKind.i64 (S33.f11 x)), SC.val (Value.int IntKind.i64 (S33.f12 x)), SC.val (Value.bool (S33.f13 x))])) x_1 ∧ Room (List.length (S33.f9 x_1)) (8 : Nat) ∧ JoinOk [nmS (8 : Int)] (ByteArray.mk #[(32 : UInt8)]) ∧ ∀ (r : ByteArray), JoinIs [nmS (8 : Int)] r → K (SX.tup [SV.c (SC.val (Value.string r)), SV.c (SC.val (Value.int IntKind.i64 0))])) : evFn Tryz.prog O w0 (ΓN O w0) Λn 100 5 7 [cmdK 8 x A c] [] (fun y _ => K y) := vc_of h_ (by kernel_rfl)
set_option maxHeartbeats 4000000 in
set_option maxRecDepth 100000 in
theorem f7_9 (O : Nat → Prop) (w0 : World) (x : S33) (A : Option Addr) (c : Nat) (K : SX → Prop) (h_ : Gl0 O w0 ∧ ∃ c_1, CmdX O w0 (SX.v (SV.agg [SC.val (Value.int IntKind.i64 9), SC.val (Value.int IntKind.i64 (S33.f1 x)), SC.val (Value.int IntKind.i64 (S33.f2 x)), SC.val (Value.int IntKind.i64 (S33.f3 x)), SC.val (Value.int IntKind.i64 (S33.f4 x)), SC.val (Value.int IntKind.i64 (S33.f5 x)), SC.val (Value.int IntKind.i64 (S33.f6 x)), SC.val (Value.int IntKind.i64 (S33.f7 x)), SC.val (Value.int IntKind.i64 (S30.f0 (S33.f8 x))), SC.val (Value.int IntKind.i64 (S30.f1 (S33.f8 x))), SC.val (Value.int IntKind.i64 (S30.f2 (S33.f8 x))), SC.val (Value.int IntKind.i64 (S30.f3 (S33.f8 x))), SC.val (Value.int IntKind.i64 (S30.f4 (S33.f8 x))), SC.val (Value.int IntKind.i64 (S28.f0 (S30.f5 (S33.f8 x)))), SC.val (Value.int IntKind.i64 (S28.f1 (S30.f5 (S33.f8 x)))), SC.val (Value.int IntKind.i64 (S28.f2 (S30.f5 (S33.f8 x)))), SC.val (Value.int IntKind.i64 (S28.f3 (S30.f5 (S33.f8 x)))), SC.val (Value.int IntKind.i64 (S30.f6 (S33.f8 x))), SC.val (Value.int IntKind.i64 (S30.f7 (S33.f8 x))), SC.val (Value.int IntKind.i64 (S30.f8 (S33.f8 x))), SC.rsl A (1 : Nat) (ints (S33.f9 x)) (0 : Nat) (List.length (S33.f9 x)) c, SC.val (Value.int IntKind.i64 (S28.f0 (S33.f10 x))), SC.val (Value.int IntKind.i64 (S28.f1 (S33.f10 x))), SC.val (Value.int IntKind.i64 (S28.f2 (S33.f10 x))), SC.val (Value.int IntKind.i64 (S28.f3 (S33.f10 x))), SC.val (Value.int IntKind.i64 (S33.f11 x)), SC.val (Value.int IntKind.i64 (S33.f12 x)), SC.val (Value.bool (S33.f13 x))])) c_1 ∧ bif chk c_1 != (0 : Int) then K (SX.tup [SV.c (SC.val (Value.string (ByteArray.mk #[]))), SV.c (SC.val (Value.int IntKind.i64 (chk c_1)))]) else Gl0 O w0 ∧ true = true ∧ ∃ x_1, CmdX O w0 (SX.v (SV.agg [SC.val (Value.int IntKind.i64 9), SC.val (Value.int IntKind.i64 (S33.f1 x)), SC.val (Value.int IntKind.i64 (S33.f2 x)), SC.val (Value.int IntKind.i64 (S33.f3 x)), SC.val (Value.int IntKind.i64 (S33.f4 x)), SC.val (Value.int IntKind.i64 (S33.f5 x)), SC.val (Value.int IntKind.i64 (S33.f6 x)), SC.val (Value.int IntKind.i64 (S33.f7 x)), SC.val (Value.int IntKind.i64 (S30.f0 (S33.f8 x))), SC.val (Value.int IntKind.i64 (S30.f1 (S33.f8 x))), SC.val (Value.int IntKind.i64 (S30.f2 (S33.f8 x))), SC.val (Value.int IntKind.i64 (S30.f3 (S33.f8 x))), SC.val (Value.int IntKind.i64 (S30.f4 (S33.f8 x))), SC.val (Value.int IntKind.i64 (S28.f0 (S30.f5 (S33.f8 x)))), SC.val (Value.int IntKind.i64 (S28.f1 (S30.f5 (S33.f8 x)))), SC.val (Value.int IntKind.i64 (S28.f2 (S30.f5 (S33.f8 x)))), SC.val (Value.int IntKind.i64 (S28.f3 (S30.f5 (S33.f8 x)))), SC.val (Value.int IntKind.i64 (S30.f6 (S33.f8 x))), SC.val (Value.int IntKind.i64 (S30.f7 (S33.f8 x))), SC.val (Value.int IntKind.i64 (S30.f8 (S33.f8 x))), SC.rsl A (1 : Nat) (ints (S33.f9 x)) (0 : Nat) (List.length (S33.f9 x)) c, SC.val (Value.int IntKind.i64 (S28.f0 (S33.f10 x))), SC.val (Value.int IntKind.i64 (S28.f1 (S33.f10 x))), SC.val (Value.int IntKind.i64 (S28.f2 (S33.f10 x))), SC.val (Value.int IntKind.i64 (S28.f3 (S33.f10 x))), SC.val (Value.int IntKind.i64 (S33.f11 x)), SC.val (Value.int IntKind.i64 (S33.f12 x)), SC.val (Value.bool (S33.f13 x))])) x_1 ∧ Room (List.length (S33.f9 x_1)) (8 : Nat) ∧ NumC O w0 (1 : Nat) [S33.f3 x, S33.f4 x] ∧ True ∧ ∀ (F : Nat → List SC), AppF F (1 : Nat) (fun x ↦ [SC.val (Value.string (nmS (9 : Int)))]) [S33.f3 x, S33.f4 x] → ∃ xs, LsX encS (ByteArray.mk #[]) (3 : Nat) F xs ∧ JoinOk xs (ByteArray.mk #[(32 : UInt8)]) ∧ ∀ (r : ByteArray), JoinIs xs r → K (SX.tup [SV.c (SC.val (Value.string r)), SV.c (SC.val (Value.int IntKind.i64 0))])) : evFn Tryz.prog O w0 (ΓN O w0) Λn 100 5 7 [cmdK 9 x A c] [] (fun y _ => K y) := vc_of h_ (by kernel_rfl)
set_option maxHeartbeats 4000000 in
set_option maxRecDepth 100000 in
theorem f7_11 (O : Nat → Prop) (w0 : World) (x : S33) (A : Option Addr) (c : Nat) (K : SX → Prop) (h_ : Gl0 O w0 ∧ ∃ c_1, CmdX O w0 (SX.v (SV.agg [SC.val (Value.int IntKind.i64 11), SC.val (Value.int IntKind.i64 (S33.f1 x)), SC.val (Value.int IntKind.i64 (S33.f2 x)), SC.val (Value.int IntKind.i64 (S33.f3 x)), SC.val (Value.int IntKind.i64 (S33.f4 x)), SC.val (Value.int IntKind.i64 (S33.f5 x)), SC.val (Value.int IntKind.i64 (S33.f6 x)), SC.val (Value.int IntKind.i64 (S33.f7 x)), SC.val (Value.int IntKind.i64 (S30.f0 (S33.f8 x))), SC.val (Value.int IntKind.i64 (S30.f1 (S33.f8 x))), SC.val (Value.int IntKind.i64 (S30.f2 (S33.f8 x))), SC.val (Value.int IntKind.i64 (S30.f3 (S33.f8 x))), SC.val (Value.int IntKind.i64 (S30.f4 (S33.f8 x))), SC.val (Value.int IntKind.i64 (S28.f0 (S30.f5 (S33.f8 x)))), SC.val (Value.int IntKind.i64 (S28.f1 (S30.f5 (S33.f8 x)))), SC.val (Value.int IntKind.i64 (S28.f2 (S30.f5 (S33.f8 x)))), SC.val (Value.int IntKind.i64 (S28.f3 (S30.f5 (S33.f8 x)))), SC.val (Value.int IntKind.i64 (S30.f6 (S33.f8 x))), SC.val (Value.int IntKind.i64 (S30.f7 (S33.f8 x))), SC.val (Value.int IntKind.i64 (S30.f8 (S33.f8 x))), SC.rsl A (1 : Nat) (ints (S33.f9 x)) (0 : Nat) (List.length (S33.f9 x)) c, SC.val (Value.int IntKind.i64 (S28.f0 (S33.f10 x))), SC.val (Value.int IntKind.i64 (S28.f1 (S33.f10 x))), SC.val (Value.int IntKind.i64 (S28.f2 (S33.f10 x))), SC.val (Value.int IntKind.i64 (S28.f3 (S33.f10 x))), SC.val (Value.int IntKind.i64 (S33.f11 x)), SC.val (Value.int IntKind.i64 (S33.f12 x)), SC.val (Value.bool (S33.f13 x))])) c_1 ∧ bif chk c_1 != (0 : Int) then K (SX.tup [SV.c (SC.val (Value.string (ByteArray.mk #[]))), SV.c (SC.val (Value.int IntKind.i64 (chk c_1)))]) else Gl0 O w0 ∧ true = true ∧ ∃ x_1, CmdX O w0 (SX.v (SV.agg [SC.val (Value.int IntKind.i64 11), SC.val (Value.int IntKind.i64 (S33.f1 x)), SC.val (Value.int IntKind.i64 (S33.f2 x)), SC.val (Value.int IntKind.i64 (S33.f3 x)), SC.val (Value.int IntKind.i64 (S33.f4 x)), SC.val (Value.int IntKind.i64 (S33.f5 x)), SC.val (Value.int IntKind.i64 (S33.f6 x)), SC.val (Value.int IntKind.i64 (S33.f7 x)), SC.val (Value.int IntKind.i64 (S30.f0 (S33.f8 x))), SC.val (Value.int IntKind.i64 (S30.f1 (S33.f8 x))), SC.val (Value.int IntKind.i64 (S30.f2 (S33.f8 x))), SC.val (Value.int IntKind.i64 (S30.f3 (S33.f8 x))), SC.val (Value.int IntKind.i64 (S30.f4 (S33.f8 x))), SC.val (Value.int IntKind.i64 (S28.f0 (S30.f5 (S33.f8 x)))), SC.val (Value.int IntKind.i64 (S28.f1 (S30.f5 (S33.f8 x)))), SC.val (Value.int IntKind.i64 (S28.f2 (S30.f5 (S33.f8 x)))), SC.val (Value.int IntKind.i64 (S28.f3 (S30.f5 (S33.f8 x)))), SC.val (Value.int IntKind.i64 (S30.f6 (S33.f8 x))), SC.val (Value.int IntKind.i64 (S30.f7 (S33.f8 x))), SC.val (Value.int IntKind.i64 (S30.f8 (S33.f8 x))), SC.rsl A (1 : Nat) (ints (S33.f9 x)) (0 : Nat) (List.length (S33.f9 x)) c, SC.val (Value.int IntKind.i64 (S28.f0 (S33.f10 x))), SC.val (Value.int IntKind.i64 (S28.f1 (S33.f10 x))), SC.val (Value.int IntKind.i64 (S28.f2 (S33.f10 x))), SC.val (Value.int IntKind.i64 (S28.f3 (S33.f10 x))), SC.val (Value.int IntKind.i64 (S33.f11 x)), SC.val (Value.int IntKind.i64 (S33.f12 x)), SC.val (Value.bool (S33.f13 x))])) x_1 ∧ Room (List.length (S33.f9 x_1)) (8 : Nat) ∧ NumC O w0 (1 : Nat) [S33.f2 x] ∧ True ∧ ∀ (F : Nat → List SC), AppF F (1 : Nat) (fun x ↦ [SC.val (Value.string (nmS (11 : Int)))]) [S33.f2 x] → ∃ xs, LsX encS (ByteArray.mk #[]) (2 : Nat) F xs ∧ JoinOk xs (ByteArray.mk #[(32 : UInt8)]) ∧ ∀ (r : ByteArray), JoinIs xs r → K (SX.tup [SV.c (SC.val (Value.string r)), SV.c (SC.val (Value.int IntKind.i64 0))])) : evFn Tryz.prog O w0 (ΓN O w0) Λn 100 5 7 [cmdK 11 x A c] [] (fun y _ => K y) := vc_of h_ (by kernel_rfl)
set_option maxHeartbeats 4000000 in
set_option maxRecDepth 100000 in
theorem f7_12 (O : Nat → Prop) (w0 : World) (x : S33) (A : Option Addr) (c : Nat) (K : SX → Prop) (h_ : Gl0 O w0 ∧ ∃ c_1, CmdX O w0 (SX.v (SV.agg [SC.val (Value.int IntKind.i64 12), SC.val (Value.int IntKind.i64 (S33.f1 x)), SC.val (Value.int IntKind.i64 (S33.f2 x)), SC.val (Value.int IntKind.i64 (S33.f3 x)), SC.val (Value.int IntKind.i64 (S33.f4 x)), SC.val (Value.int IntKind.i64 (S33.f5 x)), SC.val (Value.int IntKind.i64 (S33.f6 x)), SC.val (Value.int IntKind.i64 (S33.f7 x)), SC.val (Value.int IntKind.i64 (S30.f0 (S33.f8 x))), SC.val (Value.int IntKind.i64 (S30.f1 (S33.f8 x))), SC.val (Value.int IntKind.i64 (S30.f2 (S33.f8 x))), SC.val (Value.int IntKind.i64 (S30.f3 (S33.f8 x))), SC.val (Value.int IntKind.i64 (S30.f4 (S33.f8 x))), SC.val (Value.int IntKind.i64 (S28.f0 (S30.f5 (S33.f8 x)))), SC.val (Value.int IntKind.i64 (S28.f1 (S30.f5 (S33.f8 x)))), SC.val (Value.int IntKind.i64 (S28.f2 (S30.f5 (S33.f8 x)))), SC.val (Value.int IntKind.i64 (S28.f3 (S30.f5 (S33.f8 x)))), SC.val (Value.int IntKind.i64 (S30.f6 (S33.f8 x))), SC.val (Value.int IntKind.i64 (S30.f7 (S33.f8 x))), SC.val (Value.int IntKind.i64 (S30.f8 (S33.f8 x))), SC.rsl A (1 : Nat) (ints (S33.f9 x)) (0 : Nat) (List.length (S33.f9 x)) c, SC.val (Value.int IntKind.i64 (S28.f0 (S33.f10 x))), SC.val (Value.int IntKind.i64 (S28.f1 (S33.f10 x))), SC.val (Value.int IntKind.i64 (S28.f2 (S33.f10 x))), SC.val (Value.int IntKind.i64 (S28.f3 (S33.f10 x))), SC.val (Value.int IntKind.i64 (S33.f11 x)), SC.val (Value.int IntKind.i64 (S33.f12 x)), SC.val (Value.bool (S33.f13 x))])) c_1 ∧ bif chk c_1 != (0 : Int) then K (SX.tup [SV.c (SC.val (Value.string (ByteArray.mk #[]))), SV.c (SC.val (Value.int IntKind.i64 (chk c_1)))]) else Gl0 O w0 ∧ true = true ∧ ∃ x_1, CmdX O w0 (SX.v (SV.agg [SC.val (Value.int IntKind.i64 12), SC.val (Value.int IntKind.i64 (S33.f1 x)), SC.val (Value.int IntKind.i64 (S33.f2 x)), SC.val (Value.int IntKind.i64 (S33.f3 x)), SC.val (Value.int IntKind.i64 (S33.f4 x)), SC.val (Value.int IntKind.i64 (S33.f5 x)), SC.val (Value.int IntKind.i64 (S33.f6 x)), SC.val (Value.int IntKind.i64 (S33.f7 x)), SC.val (Value.int IntKind.i64 (S30.f0 (S33.f8 x))), SC.val (Value.int IntKind.i64 (S30.f1 (S33.f8 x))), SC.val (Value.int IntKind.i64 (S30.f2 (S33.f8 x))), SC.val (Value.int IntKind.i64 (S30.f3 (S33.f8 x))), SC.val (Value.int IntKind.i64 (S30.f4 (S33.f8 x))), SC.val (Value.int IntKind.i64 (S28.f0 (S30.f5 (S33.f8 x)))), SC.val (Value.int IntKind.i64 (S28.f1 (S30.f5 (S33.f8 x)))), SC.val (Value.int IntKind.i64 (S28.f2 (S30.f5 (S33.f8 x)))), SC.val (Value.int IntKind.i64 (S28.f3 (S30.f5 (S33.f8 x)))), SC.val (Value.int IntKind.i64 (S30.f6 (S33.f8 x))), SC.val (Value.int IntKind.i64 (S30.f7 (S33.f8 x))), SC.val (Value.int IntKind.i64 (S30.f8 (S33.f8 x))), SC.rsl A (1 : Nat) (ints (S33.f9 x)) (0 : Nat) (List.length (S33.f9 x)) c, SC.val (Value.int IntKind.i64 (S28.f0 (S33.f10 x))), SC.val (Value.int IntKind.i64 (S28.f1 (S33.f10 x))), SC.val (Value.int IntKind.i64 (S28.f2 (S33.f10 x))), SC.val (Value.int IntKind.i64 (S28.f3 (S33.f10 x))), SC.val (Value.int IntKind.i64 (S33.f11 x)), SC.val (Value.int IntKind.i64 (S33.f12 x)), SC.val (Value.bool (S33.f13 x))])) x_1 ∧ Room (List.length (S33.f9 x_1)) (8 : Nat) ∧ NumC O w0 (1 : Nat) [S33.f2 x] ∧ True ∧ ∀ (F : Nat → List SC), AppF F (1 : Nat) (fun x ↦ [SC.val (Value.string (nmS (12 : Int)))]) [S33.f2 x] → ∃ xs, LsX encS (ByteArray.mk #[]) (2 : Nat) F xs ∧ JoinOk xs (ByteArray.mk #[(32 : UInt8)]) ∧ ∀ (r : ByteArray), JoinIs xs r → K (SX.tup [SV.c (SC.val (Value.string r)), SV.c (SC.val (Value.int IntKind.i64 0))])) : evFn Tryz.prog O w0 (ΓN O w0) Λn 100 5 7 [cmdK 12 x A c] [] (fun y _ => K y) := vc_of h_ (by kernel_rfl)
set_option maxHeartbeats 4000000 in
set_option maxRecDepth 100000 in
theorem f7_13 (O : Nat → Prop) (w0 : World) (x : S33) (A : Option Addr) (c : Nat) (K : SX → Prop) (h_ : Gl0 O w0 ∧ ∃ c_1, CmdX O w0 (SX.v (SV.agg [SC.val (Value.int IntKind.i64 13), SC.val (Value.int IntKind.i64 (S33.f1 x)), SC.val (Value.int IntKind.i64 (S33.f2 x)), SC.val (Value.int IntKind.i64 (S33.f3 x)), SC.val (Value.int IntKind.i64 (S33.f4 x)), SC.val (Value.int IntKind.i64 (S33.f5 x)), SC.val (Value.int IntKind.i64 (S33.f6 x)), SC.val (Value.int IntKind.i64 (S33.f7 x)), SC.val (Value.int IntKind.i64 (S30.f0 (S33.f8 x))), SC.val (Value.int IntKind.i64 (S30.f1 (S33.f8 x))), SC.val (Value.int IntKind.i64 (S30.f2 (S33.f8 x))), SC.val (Value.int IntKind.i64 (S30.f3 (S33.f8 x))), SC.val (Value.int IntKind.i64 (S30.f4 (S33.f8 x))), SC.val (Value.int IntKind.i64 (S28.f0 (S30.f5 (S33.f8 x)))), SC.val (Value.int IntKind.i64 (S28.f1 (S30.f5 (S33.f8 x)))), SC.val (Value.int IntKind.i64 (S28.f2 (S30.f5 (S33.f8 x)))), SC.val (Value.int IntKind.i64 (S28.f3 (S30.f5 (S33.f8 x)))), SC.val (Value.int IntKind.i64 (S30.f6 (S33.f8 x))), SC.val (Value.int IntKind.i64 (S30.f7 (S33.f8 x))), SC.val (Value.int IntKind.i64 (S30.f8 (S33.f8 x))), SC.rsl A (1 : Nat) (ints (S33.f9 x)) (0 : Nat) (List.length (S33.f9 x)) c, SC.val (Value.int IntKind.i64 (S28.f0 (S33.f10 x))), SC.val (Value.int IntKind.i64 (S28.f1 (S33.f10 x))), SC.val (Value.int IntKind.i64 (S28.f2 (S33.f10 x))), SC.val (Value.int IntKind.i64 (S28.f3 (S33.f10 x))), SC.val (Value.int IntKind.i64 (S33.f11 x)), SC.val (Value.int IntKind.i64 (S33.f12 x)), SC.val (Value.bool (S33.f13 x))])) c_1 ∧ bif chk c_1 != (0 : Int) then K (SX.tup [SV.c (SC.val (Value.string (ByteArray.mk #[]))), SV.c (SC.val (Value.int IntKind.i64 (chk c_1)))]) else Gl0 O w0 ∧ true = true ∧ ∃ x_1, CmdX O w0 (SX.v (SV.agg [SC.val (Value.int IntKind.i64 13), SC.val (Value.int IntKind.i64 (S33.f1 x)), SC.val (Value.int IntKind.i64 (S33.f2 x)), SC.val (Value.int IntKind.i64 (S33.f3 x)), SC.val (Value.int IntKind.i64 (S33.f4 x)), SC.val (Value.int IntKind.i64 (S33.f5 x)), SC.val (Value.int IntKind.i64 (S33.f6 x)), SC.val (Value.int IntKind.i64 (S33.f7 x)), SC.val (Value.int IntKind.i64 (S30.f0 (S33.f8 x))), SC.val (Value.int IntKind.i64 (S30.f1 (S33.f8 x))), SC.val (Value.int IntKind.i64 (S30.f2 (S33.f8 x))), SC.val (Value.int IntKind.i64 (S30.f3 (S33.f8 x))), SC.val (Value.int IntKind.i64 (S30.f4 (S33.f8 x))), SC.val (Value.int IntKind.i64 (S28.f0 (S30.f5 (S33.f8 x)))), SC.val (Value.int IntKind.i64 (S28.f1 (S30.f5 (S33.f8 x)))), SC.val (Value.int IntKind.i64 (S28.f2 (S30.f5 (S33.f8 x)))), SC.val (Value.int IntKind.i64 (S28.f3 (S30.f5 (S33.f8 x)))), SC.val (Value.int IntKind.i64 (S30.f6 (S33.f8 x))), SC.val (Value.int IntKind.i64 (S30.f7 (S33.f8 x))), SC.val (Value.int IntKind.i64 (S30.f8 (S33.f8 x))), SC.rsl A (1 : Nat) (ints (S33.f9 x)) (0 : Nat) (List.length (S33.f9 x)) c, SC.val (Value.int IntKind.i64 (S28.f0 (S33.f10 x))), SC.val (Value.int IntKind.i64 (S28.f1 (S33.f10 x))), SC.val (Value.int IntKind.i64 (S28.f2 (S33.f10 x))), SC.val (Value.int IntKind.i64 (S28.f3 (S33.f10 x))), SC.val (Value.int IntKind.i64 (S33.f11 x)), SC.val (Value.int IntKind.i64 (S33.f12 x)), SC.val (Value.bool (S33.f13 x))])) x_1 ∧ Room (List.length (S33.f9 x_1)) (8 : Nat) ∧ NumC O w0 (1 : Nat) [S33.f2 x, S33.f1 x] ∧ True ∧ ∀ (F : Nat → List SC), AppF F (1 : Nat) (fun x ↦ [SC.val (Value.string (nmS (13 : Int)))]) [S33.f2 x, S33.f1 x] → ∃ xs, LsX encS (ByteArray.mk #[]) (3 : Nat) F xs ∧ JoinOk xs (ByteArray.mk #[(32 : UInt8)]) ∧ ∀ (r : ByteArray), JoinIs xs r → K (SX.tup [SV.c (SC.val (Value.string r)), SV.c (SC.val (Value.int IntKind.i64 0))])) : evFn Tryz.prog O w0 (ΓN O w0) Λn 100 5 7 [cmdK 13 x A c] [] (fun y _ => K y) := vc_of h_ (by kernel_rfl)
set_option maxHeartbeats 4000000 in
set_option maxRecDepth 100000 in
theorem f7_14 (O : Nat → Prop) (w0 : World) (x : S33) (A : Option Addr) (c : Nat) (K : SX → Prop) (h_ : Gl0 O w0 ∧ ∃ c_1, CmdX O w0 (SX.v (SV.agg [SC.val (Value.int IntKind.i64 14), SC.val (Value.int IntKind.i64 (S33.f1 x)), SC.val (Value.int IntKind.i64 (S33.f2 x)), SC.val (Value.int IntKind.i64 (S33.f3 x)), SC.val (Value.int IntKind.i64 (S33.f4 x)), SC.val (Value.int IntKind.i64 (S33.f5 x)), SC.val (Value.int IntKind.i64 (S33.f6 x)), SC.val (Value.int IntKind.i64 (S33.f7 x)), SC.val (Value.int IntKind.i64 (S30.f0 (S33.f8 x))), SC.val (Value.int IntKind.i64 (S30.f1 (S33.f8 x))), SC.val (Value.int IntKind.i64 (S30.f2 (S33.f8 x))), SC.val (Value.int IntKind.i64 (S30.f3 (S33.f8 x))), SC.val (Value.int IntKind.i64 (S30.f4 (S33.f8 x))), SC.val (Value.int IntKind.i64 (S28.f0 (S30.f5 (S33.f8 x)))), SC.val (Value.int IntKind.i64 (S28.f1 (S30.f5 (S33.f8 x)))), SC.val (Value.int IntKind.i64 (S28.f2 (S30.f5 (S33.f8 x)))), SC.val (Value.int IntKind.i64 (S28.f3 (S30.f5 (S33.f8 x)))), SC.val (Value.int IntKind.i64 (S30.f6 (S33.f8 x))), SC.val (Value.int IntKind.i64 (S30.f7 (S33.f8 x))), SC.val (Value.int IntKind.i64 (S30.f8 (S33.f8 x))), SC.rsl A (1 : Nat) (ints (S33.f9 x)) (0 : Nat) (List.length (S33.f9 x)) c, SC.val (Value.int IntKind.i64 (S28.f0 (S33.f10 x))), SC.val (Value.int IntKind.i64 (S28.f1 (S33.f10 x))), SC.val (Value.int IntKind.i64 (S28.f2 (S33.f10 x))), SC.val (Value.int IntKind.i64 (S28.f3 (S33.f10 x))), SC.val (Value.int IntKind.i64 (S33.f11 x)), SC.val (Value.int IntKind.i64 (S33.f12 x)), SC.val (Value.bool (S33.f13 x))])) c_1 ∧ bif chk c_1 != (0 : Int) then K (SX.tup [SV.c (SC.val (Value.string (ByteArray.mk #[]))), SV.c (SC.val (Value.int IntKind.i64 (chk c_1)))]) else Gl0 O w0 ∧ true = true ∧ ∃ x_1, CmdX O w0 (SX.v (SV.agg [SC.val (Value.int IntKind.i64 14), SC.val (Value.int IntKind.i64 (S33.f1 x)), SC.val (Value.int IntKind.i64 (S33.f2 x)), SC.val (Value.int IntKind.i64 (S33.f3 x)), SC.val (Value.int IntKind.i64 (S33.f4 x)), SC.val (Value.int IntKind.i64 (S33.f5 x)), SC.val (Value.int IntKind.i64 (S33.f6 x)), SC.val (Value.int IntKind.i64 (S33.f7 x)), SC.val (Value.int IntKind.i64 (S30.f0 (S33.f8 x))), SC.val (Value.int IntKind.i64 (S30.f1 (S33.f8 x))), SC.val (Value.int IntKind.i64 (S30.f2 (S33.f8 x))), SC.val (Value.int IntKind.i64 (S30.f3 (S33.f8 x))), SC.val (Value.int IntKind.i64 (S30.f4 (S33.f8 x))), SC.val (Value.int IntKind.i64 (S28.f0 (S30.f5 (S33.f8 x)))), SC.val (Value.int IntKind.i64 (S28.f1 (S30.f5 (S33.f8 x)))), SC.val (Value.int IntKind.i64 (S28.f2 (S30.f5 (S33.f8 x)))), SC.val (Value.int IntKind.i64 (S28.f3 (S30.f5 (S33.f8 x)))), SC.val (Value.int IntKind.i64 (S30.f6 (S33.f8 x))), SC.val (Value.int IntKind.i64 (S30.f7 (S33.f8 x))), SC.val (Value.int IntKind.i64 (S30.f8 (S33.f8 x))), SC.rsl A (1 : Nat) (ints (S33.f9 x)) (0 : Nat) (List.length (S33.f9 x)) c, SC.val (Value.int IntKind.i64 (S28.f0 (S33.f10 x))), SC.val (Value.int IntKind.i64 (S28.f1 (S33.f10 x))), SC.val (Value.int IntKind.i64 (S28.f2 (S33.f10 x))), SC.val (Value.int IntKind.i64 (S28.f3 (S33.f10 x))), SC.val (Value.int IntKind.i64 (S33.f11 x)), SC.val (Value.int IntKind.i64 (S33.f12 x)), SC.val (Value.bool (S33.f13 x))])) x_1 ∧ Room (List.length (S33.f9 x_1)) (8 : Nat) ∧ NumC O w0 (1 : Nat) [S33.f2 x, S33.f1 x] ∧ True ∧ ∀ (F : Nat → List SC), AppF F (1 : Nat) (fun x ↦ [SC.val (Value.string (nmS (14 : Int)))]) [S33.f2 x, S33.f1 x] → ∃ xs, LsX encS (ByteArray.mk #[]) (3 : Nat) F xs ∧ JoinOk xs (ByteArray.mk #[(32 : UInt8)]) ∧ ∀ (r : ByteArray), JoinIs xs r → K (SX.tup [SV.c (SC.val (Value.string r)), SV.c (SC.val (Value.int IntKind.i64 0))])) : evFn Tryz.prog O w0 (ΓN O w0) Λn 100 5 7 [cmdK 14 x A c] [] (fun y _ => K y) := vc_of h_ (by kernel_rfl)
--HIDE
theorem rng_of {x : S33} (hc : chk x = 0) : rangeK x.f0 x = true := by
  unfold chk at hc
  split at hc
  · cases hc
  · cases hr : rangeK x.f0 x with
    | false => rw [hr] at hc; simp at hc
    | true => rfl
theorem vals_len {x : S33} (hc : chk x = 0) : x.f9.length ≤ 64 := by
  have hr := rng_of hc
  unfold chk at hc
  split at hc
  · cases hc
  rename_i hk
  rw [hr] at hc
  cases he : eqC (usedK x.f0 x) x with
  | false => rw [he] at hc; simp at hc
  | true =>
    have h9 : (usedK x.f0 x).f9 = x.f9 := by
      unfold eqC at he
      simp only [Bool.and_eq_true, beq_iff_eq] at he
      exact he.2.2.2.2.2.2.2.2.2.1
    by_cases h6 : x.f0 = 6
    · rw [h6] at hr
      unfold rangeK at hr
      simp [uniM] at hr
      omega
    · rw [← h9]
      unfold usedK
      repeat' (first | exact Nat.zero_le _ | split)
      all_goals first | exact Nat.zero_le _ | (rename_i h; exact absurd h h6)
structure SzOk (xs : List ByteArray) : Prop where
  at_ : ∀ s ∈ xs, s.size ≤ 40
theorem SzOk.nm (n : Int) : SzOk [nmS n] := ⟨fun s hs => by
  rw [List.mem_singleton.1 hs]; exact nmS_size n⟩
theorem SzOk.app {xs : List ByteArray} {vs : List Int} (h : SzOk xs) (hv : ∀ v ∈ vs, I64 v) : SzOk (xs ++ vs.map fiS) := ⟨fun s hs => by
  rcases List.mem_append.1 hs with h1 | h1
  · exact h.at_ s h1
  · exact fi_sizes hv s h1⟩
theorem SzOk.join {xs : List ByteArray} (h : SzOk xs) (hl : xs.length ≤ 1000) : JoinOk xs ⟨#[32]⟩ := JoinOk.of h.at_ hl
set_option maxRecDepth 100000 in
theorem ln_1 {O : Nat → Prop} {w0 : World} {x : S33} {A : Option Addr} {c : Nat} {K : SX → Prop} (hG : GlT O w0) (hC : CmdX O w0 (cmdV x A c) x) (hk : x.f0 = 1) (hK : ∀ r e, LnIs x r e → K (.tup [.c (.val (.string r)), .c (.val (.int .i64 e))])) : evFn Tryz.prog O w0 (ΓN O w0) Λn 100 5 7 [cmdV x A c] [] (fun y _ => K y) := by
  have e : cmdV x A c = cmdK 1 x A c := by
    show SX.v (.agg (cellsK x.f0 x (sC A x.f9 c))) = _
    rw [hk]
  rw [e] at hC ⊢
  refine f7_1 O w0 x A c K ⟨hG.nm, x, hC, cond_of (fun hc => ?_) (fun hc => ?_)⟩
  · exact hK _ _ ⟨rfl, by rw [if_neg (by simpa using hc)]⟩
  have hc : chk x = 0 := by simpa using hc
  have hF := vals_len hc
  have hr := rng_of hc
  rw [hk] at hr
  unfold rangeK at hr
  simp [inB, smpB, filB] at hr
  have v0 : ∀ v ∈ [x.f2], I64 v := fun v hv => by
    simp only [List.mem_cons, List.not_mem_nil, or_false] at hv
    exact ⟨by omega, by omega⟩
  refine ⟨hG.nm, rfl, x, hC, ⟨by omega⟩, NumC.of hG v0 (by show 1 + 1 ≤ 1000; decide), trivial, fun F0 h0 => ⟨_, (LsX.one (nmS 1)).app h0, ((SzOk.nm 1).app v0).join (by show 2 ≤ 1000; decide), fun r hj => hK _ _ ⟨hc.symm, ?_⟩⟩⟩
  rw [if_pos hc, hj.eq]
  unfold lineP fieldsP
  rw [hk]
  rfl
set_option maxRecDepth 100000 in
theorem ln_2 {O : Nat → Prop} {w0 : World} {x : S33} {A : Option Addr} {c : Nat} {K : SX → Prop} (hG : GlT O w0) (hC : CmdX O w0 (cmdV x A c) x) (hk : x.f0 = 2) (hK : ∀ r e, LnIs x r e → K (.tup [.c (.val (.string r)), .c (.val (.int .i64 e))])) : evFn Tryz.prog O w0 (ΓN O w0) Λn 100 5 7 [cmdV x A c] [] (fun y _ => K y) := by
  have e : cmdV x A c = cmdK 2 x A c := by
    show SX.v (.agg (cellsK x.f0 x (sC A x.f9 c))) = _
    rw [hk]
  rw [e] at hC ⊢
  refine f7_2 O w0 x A c K ⟨hG.nm, x, hC, cond_of (fun hc => ?_) (fun hc => ?_)⟩
  · exact hK _ _ ⟨rfl, by rw [if_neg (by simpa using hc)]⟩
  have hc : chk x = 0 := by simpa using hc
  have hF := vals_len hc
  have hr := rng_of hc
  rw [hk] at hr
  unfold rangeK at hr
  simp [inB, smpB, filB] at hr
  have v0 : ∀ v ∈ [x.f1, x.f2], I64 v := fun v hv => by
    simp only [List.mem_cons, List.not_mem_nil, or_false] at hv
    exact ⟨by omega, by omega⟩
  refine ⟨hG.nm, rfl, x, hC, ⟨by omega⟩, NumC.of hG v0 (by show 1 + 2 ≤ 1000; decide), trivial, fun F0 h0 => ⟨_, (LsX.one (nmS 2)).app h0, ((SzOk.nm 2).app v0).join (by show 3 ≤ 1000; decide), fun r hj => hK _ _ ⟨hc.symm, ?_⟩⟩⟩
  rw [if_pos hc, hj.eq]
  unfold lineP fieldsP
  rw [hk]
  rfl
set_option maxRecDepth 100000 in
theorem ln_4 {O : Nat → Prop} {w0 : World} {x : S33} {A : Option Addr} {c : Nat} {K : SX → Prop} (hG : GlT O w0) (hC : CmdX O w0 (cmdV x A c) x) (hk : x.f0 = 4) (hK : ∀ r e, LnIs x r e → K (.tup [.c (.val (.string r)), .c (.val (.int .i64 e))])) : evFn Tryz.prog O w0 (ΓN O w0) Λn 100 5 7 [cmdV x A c] [] (fun y _ => K y) := by
  have e : cmdV x A c = cmdK 4 x A c := by
    show SX.v (.agg (cellsK x.f0 x (sC A x.f9 c))) = _
    rw [hk]
  rw [e] at hC ⊢
  refine f7_4 O w0 x A c K ⟨hG.nm, x, hC, cond_of (fun hc => ?_) (fun hc => ?_)⟩
  · exact hK _ _ ⟨rfl, by rw [if_neg (by simpa using hc)]⟩
  have hc : chk x = 0 := by simpa using hc
  have hF := vals_len hc
  have hr := rng_of hc
  rw [hk] at hr
  unfold rangeK at hr
  simp [inB, smpB, filB] at hr
  have v0 : ∀ v ∈ [x.f1, x.f2], I64 v := fun v hv => by
    simp only [List.mem_cons, List.not_mem_nil, or_false] at hv
    exact ⟨by omega, by omega⟩
  have v1 : ∀ v ∈ [x.f8.f0], I64 v := fun v hv => by
    simp only [List.mem_cons, List.not_mem_nil, or_false] at hv
    exact ⟨by omega, by omega⟩
  have v2 : ∀ v ∈ [x.f8.f1], I64 v := fun v hv => by
    simp only [List.mem_cons, List.not_mem_nil, or_false] at hv
    exact ⟨by omega, by omega⟩
  have v3 : ∀ v ∈ [x.f8.f2], I64 v := fun v hv => by
    simp only [List.mem_cons, List.not_mem_nil, or_false] at hv
    exact ⟨by omega, by omega⟩
  have v4 : ∀ v ∈ [x.f8.f3], I64 v := fun v hv => by
    simp only [List.mem_cons, List.not_mem_nil, or_false] at hv
    exact ⟨by omega, by omega⟩
  have v5 : ∀ v ∈ [x.f8.f4], I64 v := fun v hv => by
    simp only [List.mem_cons, List.not_mem_nil, or_false] at hv
    exact ⟨by omega, by omega⟩
  have v6 : ∀ v ∈ [x.f8.f5.f0, x.f8.f5.f1, x.f8.f5.f2, x.f8.f5.f3], I64 v := fun v hv => by
    simp only [List.mem_cons, List.not_mem_nil, or_false] at hv
    exact ⟨by omega, by omega⟩
  have v7 : ∀ v ∈ [x.f8.f6, x.f8.f7, x.f8.f8], I64 v := fun v hv => by
    simp only [List.mem_cons, List.not_mem_nil, or_false] at hv
    exact ⟨by omega, by omega⟩
  refine ⟨hG.nm, rfl, x, hC, ⟨by omega⟩, NumC.of hG v0 (by show 1 + 2 ≤ 1000; decide), trivial, fun F0 h0 => ⟨NumC.of hG v1 (by show 3 + 1 ≤ 1000; decide), trivial, fun F1 h1 => ⟨NumC.of hG v2 (by show 4 + 1 ≤ 1000; decide), trivial, fun F2 h2 => ⟨NumC.of hG v3 (by show 5 + 1 ≤ 1000; decide), trivial, fun F3 h3 => ⟨NumC.of hG v4 (by show 6 + 1 ≤ 1000; decide), trivial, fun F4 h4 => ⟨NumC.of hG v5 (by show 7 + 1 ≤ 1000; decide), trivial, fun F5 h5 => ⟨NumC.of hG v6 (by show 8 + 4 ≤ 1000; decide), trivial, fun F6 h6 => ⟨NumC.of hG v7 (by show 12 + 3 ≤ 1000; decide), trivial, fun F7 h7 => ⟨_, ((((((((LsX.one (nmS 4)).app h0).app h1).app h2).app h3).app h4).app h5).app h6).app h7, (((((((((SzOk.nm 4).app v0).app v1).app v2).app v3).app v4).app v5).app v6).app v7).join (by show 15 ≤ 1000; decide), fun r hj => hK _ _ ⟨hc.symm, ?_⟩⟩⟩⟩⟩⟩⟩⟩⟩⟩
  rw [if_pos hc, hj.eq]
  unfold lineP fieldsP
  rw [hk]
  rfl
set_option maxRecDepth 100000 in
theorem ln_5 {O : Nat → Prop} {w0 : World} {x : S33} {A : Option Addr} {c : Nat} {K : SX → Prop} (hG : GlT O w0) (hC : CmdX O w0 (cmdV x A c) x) (hk : x.f0 = 5) (hK : ∀ r e, LnIs x r e → K (.tup [.c (.val (.string r)), .c (.val (.int .i64 e))])) : evFn Tryz.prog O w0 (ΓN O w0) Λn 100 5 7 [cmdV x A c] [] (fun y _ => K y) := by
  have e : cmdV x A c = cmdK 5 x A c := by
    show SX.v (.agg (cellsK x.f0 x (sC A x.f9 c))) = _
    rw [hk]
  rw [e] at hC ⊢
  refine f7_5 O w0 x A c K ⟨hG.nm, x, hC, cond_of (fun hc => ?_) (fun hc => ?_)⟩
  · exact hK _ _ ⟨rfl, by rw [if_neg (by simpa using hc)]⟩
  have hc : chk x = 0 := by simpa using hc
  have hF := vals_len hc
  have hr := rng_of hc
  rw [hk] at hr
  unfold rangeK at hr
  simp [inB, smpB, filB] at hr
  have v0 : ∀ v ∈ [x.f1, x.f2], I64 v := fun v hv => by
    simp only [List.mem_cons, List.not_mem_nil, or_false] at hv
    exact ⟨by omega, by omega⟩
  refine ⟨hG.nm, rfl, x, hC, ⟨by omega⟩, NumC.of hG v0 (by show 1 + 2 ≤ 1000; decide), trivial, fun F0 h0 => ⟨_, (LsX.one (nmS 5)).app h0, ((SzOk.nm 5).app v0).join (by show 3 ≤ 1000; decide), fun r hj => hK _ _ ⟨hc.symm, ?_⟩⟩⟩
  rw [if_pos hc, hj.eq]
  unfold lineP fieldsP
  rw [hk]
  rfl
set_option maxRecDepth 100000 in
theorem ln_8 {O : Nat → Prop} {w0 : World} {x : S33} {A : Option Addr} {c : Nat} {K : SX → Prop} (hG : GlT O w0) (hC : CmdX O w0 (cmdV x A c) x) (hk : x.f0 = 8) (hK : ∀ r e, LnIs x r e → K (.tup [.c (.val (.string r)), .c (.val (.int .i64 e))])) : evFn Tryz.prog O w0 (ΓN O w0) Λn 100 5 7 [cmdV x A c] [] (fun y _ => K y) := by
  have e : cmdV x A c = cmdK 8 x A c := by
    show SX.v (.agg (cellsK x.f0 x (sC A x.f9 c))) = _
    rw [hk]
  rw [e] at hC ⊢
  refine f7_8 O w0 x A c K ⟨hG.nm, x, hC, cond_of (fun hc => ?_) (fun hc => ?_)⟩
  · exact hK _ _ ⟨rfl, by rw [if_neg (by simpa using hc)]⟩
  have hc : chk x = 0 := by simpa using hc
  have hF := vals_len hc
  have hr := rng_of hc
  rw [hk] at hr
  unfold rangeK at hr
  simp [inB, smpB, filB] at hr
  refine ⟨hG.nm, rfl, x, hC, ⟨by omega⟩, (SzOk.nm 8).join (by show 1 ≤ 1000; decide), fun r hj => hK _ _ ⟨hc.symm, ?_⟩⟩
  rw [if_pos hc, hj.eq]
  unfold lineP fieldsP
  rw [hk]
  rfl
set_option maxRecDepth 100000 in
theorem ln_9 {O : Nat → Prop} {w0 : World} {x : S33} {A : Option Addr} {c : Nat} {K : SX → Prop} (hG : GlT O w0) (hC : CmdX O w0 (cmdV x A c) x) (hk : x.f0 = 9) (hK : ∀ r e, LnIs x r e → K (.tup [.c (.val (.string r)), .c (.val (.int .i64 e))])) : evFn Tryz.prog O w0 (ΓN O w0) Λn 100 5 7 [cmdV x A c] [] (fun y _ => K y) := by
  have e : cmdV x A c = cmdK 9 x A c := by
    show SX.v (.agg (cellsK x.f0 x (sC A x.f9 c))) = _
    rw [hk]
  rw [e] at hC ⊢
  refine f7_9 O w0 x A c K ⟨hG.nm, x, hC, cond_of (fun hc => ?_) (fun hc => ?_)⟩
  · exact hK _ _ ⟨rfl, by rw [if_neg (by simpa using hc)]⟩
  have hc : chk x = 0 := by simpa using hc
  have hF := vals_len hc
  have hr := rng_of hc
  rw [hk] at hr
  unfold rangeK at hr
  simp [inB, smpB, filB] at hr
  have v0 : ∀ v ∈ [x.f3, x.f4], I64 v := fun v hv => by
    simp only [List.mem_cons, List.not_mem_nil, or_false] at hv
    exact ⟨by omega, by omega⟩
  refine ⟨hG.nm, rfl, x, hC, ⟨by omega⟩, NumC.of hG v0 (by show 1 + 2 ≤ 1000; decide), trivial, fun F0 h0 => ⟨_, (LsX.one (nmS 9)).app h0, ((SzOk.nm 9).app v0).join (by show 3 ≤ 1000; decide), fun r hj => hK _ _ ⟨hc.symm, ?_⟩⟩⟩
  rw [if_pos hc, hj.eq]
  unfold lineP fieldsP
  rw [hk]
  rfl
set_option maxRecDepth 100000 in
theorem ln_11 {O : Nat → Prop} {w0 : World} {x : S33} {A : Option Addr} {c : Nat} {K : SX → Prop} (hG : GlT O w0) (hC : CmdX O w0 (cmdV x A c) x) (hk : x.f0 = 11) (hK : ∀ r e, LnIs x r e → K (.tup [.c (.val (.string r)), .c (.val (.int .i64 e))])) : evFn Tryz.prog O w0 (ΓN O w0) Λn 100 5 7 [cmdV x A c] [] (fun y _ => K y) := by
  have e : cmdV x A c = cmdK 11 x A c := by
    show SX.v (.agg (cellsK x.f0 x (sC A x.f9 c))) = _
    rw [hk]
  rw [e] at hC ⊢
  refine f7_11 O w0 x A c K ⟨hG.nm, x, hC, cond_of (fun hc => ?_) (fun hc => ?_)⟩
  · exact hK _ _ ⟨rfl, by rw [if_neg (by simpa using hc)]⟩
  have hc : chk x = 0 := by simpa using hc
  have hF := vals_len hc
  have hr := rng_of hc
  rw [hk] at hr
  unfold rangeK at hr
  simp [inB, smpB, filB] at hr
  have v0 : ∀ v ∈ [x.f2], I64 v := fun v hv => by
    simp only [List.mem_cons, List.not_mem_nil, or_false] at hv
    exact ⟨by omega, by omega⟩
  refine ⟨hG.nm, rfl, x, hC, ⟨by omega⟩, NumC.of hG v0 (by show 1 + 1 ≤ 1000; decide), trivial, fun F0 h0 => ⟨_, (LsX.one (nmS 11)).app h0, ((SzOk.nm 11).app v0).join (by show 2 ≤ 1000; decide), fun r hj => hK _ _ ⟨hc.symm, ?_⟩⟩⟩
  rw [if_pos hc, hj.eq]
  unfold lineP fieldsP
  rw [hk]
  rfl
set_option maxRecDepth 100000 in
theorem ln_12 {O : Nat → Prop} {w0 : World} {x : S33} {A : Option Addr} {c : Nat} {K : SX → Prop} (hG : GlT O w0) (hC : CmdX O w0 (cmdV x A c) x) (hk : x.f0 = 12) (hK : ∀ r e, LnIs x r e → K (.tup [.c (.val (.string r)), .c (.val (.int .i64 e))])) : evFn Tryz.prog O w0 (ΓN O w0) Λn 100 5 7 [cmdV x A c] [] (fun y _ => K y) := by
  have e : cmdV x A c = cmdK 12 x A c := by
    show SX.v (.agg (cellsK x.f0 x (sC A x.f9 c))) = _
    rw [hk]
  rw [e] at hC ⊢
  refine f7_12 O w0 x A c K ⟨hG.nm, x, hC, cond_of (fun hc => ?_) (fun hc => ?_)⟩
  · exact hK _ _ ⟨rfl, by rw [if_neg (by simpa using hc)]⟩
  have hc : chk x = 0 := by simpa using hc
  have hF := vals_len hc
  have hr := rng_of hc
  rw [hk] at hr
  unfold rangeK at hr
  simp [inB, smpB, filB] at hr
  have v0 : ∀ v ∈ [x.f2], I64 v := fun v hv => by
    simp only [List.mem_cons, List.not_mem_nil, or_false] at hv
    exact ⟨by omega, by omega⟩
  refine ⟨hG.nm, rfl, x, hC, ⟨by omega⟩, NumC.of hG v0 (by show 1 + 1 ≤ 1000; decide), trivial, fun F0 h0 => ⟨_, (LsX.one (nmS 12)).app h0, ((SzOk.nm 12).app v0).join (by show 2 ≤ 1000; decide), fun r hj => hK _ _ ⟨hc.symm, ?_⟩⟩⟩
  rw [if_pos hc, hj.eq]
  unfold lineP fieldsP
  rw [hk]
  rfl
set_option maxRecDepth 100000 in
theorem ln_13 {O : Nat → Prop} {w0 : World} {x : S33} {A : Option Addr} {c : Nat} {K : SX → Prop} (hG : GlT O w0) (hC : CmdX O w0 (cmdV x A c) x) (hk : x.f0 = 13) (hK : ∀ r e, LnIs x r e → K (.tup [.c (.val (.string r)), .c (.val (.int .i64 e))])) : evFn Tryz.prog O w0 (ΓN O w0) Λn 100 5 7 [cmdV x A c] [] (fun y _ => K y) := by
  have e : cmdV x A c = cmdK 13 x A c := by
    show SX.v (.agg (cellsK x.f0 x (sC A x.f9 c))) = _
    rw [hk]
  rw [e] at hC ⊢
  refine f7_13 O w0 x A c K ⟨hG.nm, x, hC, cond_of (fun hc => ?_) (fun hc => ?_)⟩
  · exact hK _ _ ⟨rfl, by rw [if_neg (by simpa using hc)]⟩
  have hc : chk x = 0 := by simpa using hc
  have hF := vals_len hc
  have hr := rng_of hc
  rw [hk] at hr
  unfold rangeK at hr
  simp [inB, smpB, filB] at hr
  have v0 : ∀ v ∈ [x.f2, x.f1], I64 v := fun v hv => by
    simp only [List.mem_cons, List.not_mem_nil, or_false] at hv
    exact ⟨by omega, by omega⟩
  refine ⟨hG.nm, rfl, x, hC, ⟨by omega⟩, NumC.of hG v0 (by show 1 + 2 ≤ 1000; decide), trivial, fun F0 h0 => ⟨_, (LsX.one (nmS 13)).app h0, ((SzOk.nm 13).app v0).join (by show 3 ≤ 1000; decide), fun r hj => hK _ _ ⟨hc.symm, ?_⟩⟩⟩
  rw [if_pos hc, hj.eq]
  unfold lineP fieldsP
  rw [hk]
  rfl
set_option maxRecDepth 100000 in
theorem ln_14 {O : Nat → Prop} {w0 : World} {x : S33} {A : Option Addr} {c : Nat} {K : SX → Prop} (hG : GlT O w0) (hC : CmdX O w0 (cmdV x A c) x) (hk : x.f0 = 14) (hK : ∀ r e, LnIs x r e → K (.tup [.c (.val (.string r)), .c (.val (.int .i64 e))])) : evFn Tryz.prog O w0 (ΓN O w0) Λn 100 5 7 [cmdV x A c] [] (fun y _ => K y) := by
  have e : cmdV x A c = cmdK 14 x A c := by
    show SX.v (.agg (cellsK x.f0 x (sC A x.f9 c))) = _
    rw [hk]
  rw [e] at hC ⊢
  refine f7_14 O w0 x A c K ⟨hG.nm, x, hC, cond_of (fun hc => ?_) (fun hc => ?_)⟩
  · exact hK _ _ ⟨rfl, by rw [if_neg (by simpa using hc)]⟩
  have hc : chk x = 0 := by simpa using hc
  have hF := vals_len hc
  have hr := rng_of hc
  rw [hk] at hr
  unfold rangeK at hr
  simp [inB, smpB, filB] at hr
  have v0 : ∀ v ∈ [x.f2, x.f1], I64 v := fun v hv => by
    simp only [List.mem_cons, List.not_mem_nil, or_false] at hv
    exact ⟨by omega, by omega⟩
  refine ⟨hG.nm, rfl, x, hC, ⟨by omega⟩, NumC.of hG v0 (by show 1 + 2 ≤ 1000; decide), trivial, fun F0 h0 => ⟨_, (LsX.one (nmS 14)).app h0, ((SzOk.nm 14).app v0).join (by show 3 ≤ 1000; decide), fun r hj => hK _ _ ⟨hc.symm, ?_⟩⟩⟩
  rw [if_pos hc, hj.eq]
  unfold lineP fieldsP
  rw [hk]
  rfl
--SHOW
end Go.Proofs.YtfhckpfiegenaaaGreatDoor.Tr
