/- Text and the reference's Text: conditions. -/
import Derived.Test.YtfijmdeanechfaaDoorLx30
namespace Go.Proofs.YtfijmdeanechfaaDoor.Lx
open Go Go.RowKit Go.Proofs.YtfijmdeanechfaaDoor.Eng
set_option linter.unusedVariables false
set_option linter.unusedSimpArgs false
structure LstN where
  i : Int
  n : Nat
  f : Nat → List SC
def I21 (A : Option Addr) (xs : Nat → Tok) (n c : Nat) (R : LstN → Prop) : LInv where
  σ := LstN
  pre := fun ⟨i, m, f⟩ => R ⟨i, m, f⟩
  mem := fun ⟨i, m, f⟩ => [.lst 9 1 m f]
  tmp := fun ⟨i, m, f⟩ J => [jV (J 0), jV (J 1), jV (J 2), .v (.c (.lst 0)), jV (J 4), jV (J 5), tkV A xs n c, iV n, iV i, jV (J 9), jV (J 10), jV (J 11), jV (J 12), jV (J 13), jV (J 14), jV (J 15), jV (J 16), jV (J 17), jV (J 18), jV (J 19), jV (J 20), jV (J 21), jV (J 22)]
  read := fun M ts => match ts.getD 8 undefX with
    | .v (.c (.val (.int _ i))) => ⟨i, (lstAt M (ts.getD 3 undefX)).1, (lstAt M (ts.getD 3 undefX)).2⟩
    | _ => ⟨0, 0, fun _ => []⟩
  junk := [0, 1, 2, 4, 5, 9, 10, 11, 12, 13, 14, 15, 16, 17, 18, 19, 20, 21, 22]
  μ := fun ⟨i, _, _⟩ => (n - i).toNat
  keep := some fun M ts => [K1 9 1 3 ts]
structure TxS where
  i : Int
  s : ByteArray
  b : Bool
def I22 (A : Option Addr) (xs : Nat → Tok) (n c : Nat) (R : TxS → Prop) : LInv where
  σ := TxS
  pre := fun ⟨i, s, b⟩ => R ⟨i, s, b⟩
  mem := fun _ => []
  tmp := fun ⟨i, s, b⟩ J => [tkV A xs n c, jV (J 1), jV (J 2), tV s, bV b, iV i, jV (J 6), jV (J 7), jV (J 8), jV (J 9), jV (J 10), jV (J 11), jV (J 12), jV (J 13), jV (J 14), jV (J 15), jV (J 16), jV (J 17), jV (J 18), jV (J 19), jV (J 20), jV (J 21), jV (J 22), jV (J 23), jV (J 24), jV (J 25), jV (J 26), jV (J 27), jV (J 28), jV (J 29)]
  read := fun _ ts => match ts.getD 5 undefX, ts.getD 3 undefX, ts.getD 4 undefX with
    | .v (.c (.val (.int _ i))), .v (.c (.val (.string s))), .v (.c (.val (.bool b))) => ⟨i, s, b⟩
    | _, _, _ => ⟨0, ⟨#[]⟩, false⟩
  junk := [1, 2, 6, 7, 8, 9, 10, 11, 12, 13, 14, 15, 16, 17, 18, 19, 20, 21, 22, 23, 24, 25, 26, 27, 28, 29]
  μ := fun ⟨i, _, _⟩ => (n - i).toNat
/-- Join of a list of our own. -/
def gJoin : EntF := fun _ _ args M k => match args with
  | [.v (.c (.lst p)), .v (.c (.val (.string sep)))] => (match M[p]? with
    | some (.lst 9 1 m f) => ∃ xs, LsX (fun x => [SC.val (.string x)]) ⟨#[]⟩ m f xs ∧ Cat ((Lib.join (xs.map (·.data.toList)) sep.data.toList).length) 9223231299366420479 ∧ Cat xs.length 9223231299366420479 ∧ k (tV ⟨(Lib.join (xs.map (·.data.toList)) sep.data.toList).toArray⟩) M
    | _ => False)
  | _ => False
def Γ22 : TabF := addF Γ21 35 gJoin
set_option maxHeartbeats 4000000 in
set_option maxRecDepth 100000 in
theorem f21 (O : Nat → Prop) (w0 : World) (A : Option Addr) (xs : Nat → Tok) (n c : Nat) (R : LstN → Prop) (K : SX → Prop) (h_ : (∀ (s : LstN), LInv.pre (I21 A xs n c R) s → Nat.le (0 : Nat) (List.length (LInv.mem (I21 A xs n c R) s))) ∧ Fits (I21 A xs n c R) (LstN.mk (0 : Int) (0 : Nat) fun x ↦ []) (LInv.mem (I21 A xs n c R) (LstN.mk (0 : Int) (0 : Nat) fun x ↦ [])) (LInv.tmp (I21 A xs n c R) (LstN.mk (0 : Int) (0 : Nat) fun x ↦ [])) ∧ ∀ (s : LstN) (J : Nat → Value), LInv.pre (I21 A xs n c R) s → bif decide (s.1 < (↑n : Int)) then In s.1 (↑n : Int) ∧ Option.isSome A = true ∧ RowAt O w0 A (4 : Nat) (tkR xs ((0 : Nat) + Int.toNat s.1)) ((0 : Nat) + Int.toNat s.1) ∧ bif Tok.kind (xs ((0 : Nat) + Int.toNat s.1)) != (5 : Int) then Room (s.2 + (1 : Nat)) (16 : Nat) ∧ Fits (I21 A xs n c R) (LstN.mk (IntKind.wrap IntKind.i64 (s.1 + (1 : Int))) (s.2 + (1 : Nat)) fun j ↦ bif Nat.blt j s.2 then s.3 j else [SC.val (Value.string (Tok.text (xs ((0 : Nat) + Int.toNat s.1))))]) (LInv.mem (I21 A xs n c R) (LstN.mk (IntKind.wrap IntKind.i64 (s.1 + (1 : Int))) (s.2 + (1 : Nat)) fun j ↦ bif Nat.blt j s.2 then s.3 j else [SC.val (Value.string (Tok.text (xs ((0 : Nat) + Int.toNat s.1))))])) (LInv.tmp (I21 A xs n c R) (LstN.mk (IntKind.wrap IntKind.i64 (s.1 + (1 : Int))) (s.2 + (1 : Nat)) fun j ↦ bif Nat.blt j s.2 then s.3 j else [SC.val (Value.string (Tok.text (xs ((0 : Nat) + Int.toNat s.1))))])) ∧ Dec (I21 A xs n c R) (LstN.mk (IntKind.wrap IntKind.i64 (s.1 + (1 : Int))) (s.2 + (1 : Nat)) fun j ↦ bif Nat.blt j s.2 then s.3 j else [SC.val (Value.string (Tok.text (xs ((0 : Nat) + Int.toNat s.1))))]) s else Fits (I21 A xs n c R) (LstN.mk (IntKind.wrap IntKind.i64 (s.1 + (1 : Int))) s.2 s.3) (LInv.mem (I21 A xs n c R) (LstN.mk (IntKind.wrap IntKind.i64 (s.1 + (1 : Int))) s.2 s.3)) (LInv.tmp (I21 A xs n c R) (LstN.mk (IntKind.wrap IntKind.i64 (s.1 + (1 : Int))) s.2 s.3)) ∧ Dec (I21 A xs n c R) (LstN.mk (IntKind.wrap IntKind.i64 (s.1 + (1 : Int))) s.2 s.3) s else ∃ xs, LsX (fun x ↦ [SC.val (Value.string x)]) (ByteArray.mk #[]) s.2 s.3 xs ∧ Cat (List.length (Lib.join (List.map (fun x ↦ Array.toList (ByteArray.data x)) xs) (Array.toList (ByteArray.data (ByteArray.mk #[(32 : UInt8)]))))) (9223231299366420479 : Nat) ∧ Cat (List.length xs) (9223231299366420479 : Nat) ∧ K (SX.v (SV.c (SC.val (Value.string (ByteArray.mk (List.toArray (Lib.join (List.map (fun x ↦ Array.toList (ByteArray.data x)) xs) (Array.toList (ByteArray.data (ByteArray.mk #[(32 : UInt8)]))))))))))) : evFn Tryd.prog O w0 (Γ22 O w0) (Λof 21 (I21 A xs n c R)) 100 5 21 [tkV A xs n c] [] (fun y _ => K y) := vc_of h_ (by kernel_rfl)
set_option maxHeartbeats 4000000 in
set_option maxRecDepth 100000 in
theorem f22 (O : Nat → Prop) (w0 : World) (A : Option Addr) (xs : Nat → Tok) (n c : Nat) (R : TxS → Prop) (K : SX → Prop) (h_ : (∀ (s : TxS), LInv.pre (I22 A xs n c R) s → Nat.le (0 : Nat) (List.length (LInv.mem (I22 A xs n c R) s))) ∧ Fits (I22 A xs n c R) (TxS.mk (0 : Int) (ByteArray.mk #[]) true) (LInv.mem (I22 A xs n c R) (TxS.mk (0 : Int) (ByteArray.mk #[]) true)) (LInv.tmp (I22 A xs n c R) (TxS.mk (0 : Int) (ByteArray.mk #[]) true)) ∧ ∀ (s : TxS) (J : Nat → Value), LInv.pre (I22 A xs n c R) s → bif decide (s.1 < (↑n : Int)) then In s.1 (↑n : Int) ∧ Option.isSome A = true ∧ Option.isSome A = true ∧ RowAt O w0 A (4 : Nat) (tkR xs ((0 : Nat) + Int.toNat s.1)) ((0 : Nat) + Int.toNat s.1) ∧ bif Tok.kind (xs ((0 : Nat) + Int.toNat s.1)) == (5 : Int) then Fits (I22 A xs n c R) (TxS.mk (IntKind.wrap IntKind.i64 (s.1 + (1 : Int))) s.2 s.3) (LInv.mem (I22 A xs n c R) (TxS.mk (IntKind.wrap IntKind.i64 (s.1 + (1 : Int))) s.2 s.3)) (LInv.tmp (I22 A xs n c R) (TxS.mk (IntKind.wrap IntKind.i64 (s.1 + (1 : Int))) s.2 s.3)) ∧ Dec (I22 A xs n c R) (TxS.mk (IntKind.wrap IntKind.i64 (s.1 + (1 : Int))) s.2 s.3) s else bif !s.3 then Cat (ByteArray.size s.2) (1 : Nat) ∧ In s.1 (↑n : Int) ∧ Option.isSome A = true ∧ Option.isSome A = true ∧ RowAt O w0 A (4 : Nat) (tkR xs ((0 : Nat) + Int.toNat s.1)) ((0 : Nat) + Int.toNat s.1) ∧ Cat (ByteArray.size (s.2 ++ ByteArray.mk #[(32 : UInt8)])) (ByteArray.size (Tok.text (xs ((0 : Nat) + Int.toNat s.1)))) ∧ Fits (I22 A xs n c R) (TxS.mk (IntKind.wrap IntKind.i64 (s.1 + (1 : Int))) (s.2 ++ ByteArray.mk #[(32 : UInt8)] ++ Tok.text (xs ((0 : Nat) + Int.toNat s.1))) false) (LInv.mem (I22 A xs n c R) (TxS.mk (IntKind.wrap IntKind.i64 (s.1 + (1 : Int))) (s.2 ++ ByteArray.mk #[(32 : UInt8)] ++ Tok.text (xs ((0 : Nat) + Int.toNat s.1))) false)) (LInv.tmp (I22 A xs n c R) (TxS.mk (IntKind.wrap IntKind.i64 (s.1 + (1 : Int))) (s.2 ++ ByteArray.mk #[(32 : UInt8)] ++ Tok.text (xs ((0 : Nat) + Int.toNat s.1))) false)) ∧ Dec (I22 A xs n c R) (TxS.mk (IntKind.wrap IntKind.i64 (s.1 + (1 : Int))) (s.2 ++ ByteArray.mk #[(32 : UInt8)] ++ Tok.text (xs ((0 : Nat) + Int.toNat s.1))) false) s else In s.1 (↑n : Int) ∧ Option.isSome A = true ∧ Option.isSome A = true ∧ RowAt O w0 A (4 : Nat) (tkR xs ((0 : Nat) + Int.toNat s.1)) ((0 : Nat) + Int.toNat s.1) ∧ Cat (ByteArray.size s.2) (ByteArray.size (Tok.text (xs ((0 : Nat) + Int.toNat s.1)))) ∧ Fits (I22 A xs n c R) (TxS.mk (IntKind.wrap IntKind.i64 (s.1 + (1 : Int))) (s.2 ++ Tok.text (xs ((0 : Nat) + Int.toNat s.1))) false) (LInv.mem (I22 A xs n c R) (TxS.mk (IntKind.wrap IntKind.i64 (s.1 + (1 : Int))) (s.2 ++ Tok.text (xs ((0 : Nat) + Int.toNat s.1))) false)) (LInv.tmp (I22 A xs n c R) (TxS.mk (IntKind.wrap IntKind.i64 (s.1 + (1 : Int))) (s.2 ++ Tok.text (xs ((0 : Nat) + Int.toNat s.1))) false)) ∧ Dec (I22 A xs n c R) (TxS.mk (IntKind.wrap IntKind.i64 (s.1 + (1 : Int))) (s.2 ++ Tok.text (xs ((0 : Nat) + Int.toNat s.1))) false) s else K (SX.v (SV.c (SC.val (Value.string s.2))))) : evFn Tryd.prog O w0 (Γ21 O w0) (Λof 22 (I22 A xs n c R)) 100 5 22 [tkV A xs n c] [] (fun y _ => K y) := vc_of h_ (by kernel_rfl)
end Go.Proofs.YtfijmdeanechfaaDoor.Lx
