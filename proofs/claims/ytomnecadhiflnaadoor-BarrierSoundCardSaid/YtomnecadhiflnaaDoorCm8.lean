/- (renumbered from the Command chapter) Contracts of the package command and its reference: lists of commands. -/
import Derived.Test.YtomnecadhiflnaaDoorCm7
namespace Go.Proofs.YtomnecadhiflnaaDoor.Cm
open Go Go.RowKit Go.Proofs.YtomnecadhiflnaaDoor.Eng
set_option linter.unusedVariables false
set_option linter.unusedSimpArgs false
def rowsC (l : Nat → S33) (As : Nat → Option Addr) (cs : Nat → Nat) : Nat → List SC := fun j => cells33 (l j) (sC (As j) (l j).f9 (cs j))
abbrev cmdsV (B : Option Addr) (l : Nat → S33) (As : Nat → Option Addr) (cs : Nat → Nat) (n c : Nat) : SX := .v (.c (.rsl B 28 (rowsC l As cs) 0 n c))
structure V13 where
  i : Int
  s : St
def u8 (a b c d e f g h : Bool) : Int → Bool := fun j => bif j == 0 then a else bif j == 1 then b else bif j == 2 then c else bif j == 3 then d else bif j == 4 then e else bif j == 5 then f else bif j == 6 then g else h
def rV (M : List Blk) (ts : List SX) : V13 := match ts.getD 13 undefX, M with
  | .v (.c (.val (.int _ n))), .mk _ [.val (.bool p), .val (.bool q), .val (.bool r), .val (.int _ z), .val (.bool a), .val (.bool b), .val (.bool c), .val (.bool d), .val (.bool e), .val (.bool f), .val (.bool g), .val (.bool h)] :: _ => ⟨n, ⟨p, q, r, z, u8 a b c d e f g h⟩⟩
  | _, _ => ⟨0, ⟨false, false, false, 0, fun _ => false⟩⟩
def I13 (B : Option Addr) (l : Nat → S33) (As : Nat → Option Addr) (cs : Nat → Nat) (n c : Nat) (R : Int → St → Prop) : LInv where
  σ := V13
  pre := fun ⟨i, s⟩ => R i s
  mem := fun ⟨i, s⟩ => [.mk 87 (cells57 s)]
  tmp := fun ⟨i, s⟩ J => [cmdsV B l As cs n c, undefX, iV 0, iV 0, .v (.c (.ptr 0 0)), jV (J 5), jV (J 6), jV (J 7), cmdsV B l As cs n c, iV n, bV (decide ((n : Int) > 256)), cmdsV B l As cs n c, iV n, iV i, jV (J 14), jV (J 15), jV (J 16), jV (J 17), jV (J 18), jV (J 19), jV (J 20), jV (J 21), jV (J 22), jV (J 23), jV (J 24), jV (J 25), jV (J 26), jV (J 27), jV (J 28), jV (J 29), jV (J 30), jV (J 31), jV (J 32), jV (J 33), jV (J 34)]
  read := rV
  junk := [5, 6, 7, 14, 15, 16, 17, 18, 19, 20, 21, 22, 23, 24, 25, 26, 27, 28, 29, 30, 31, 32, 33, 34]
  μ := fun ⟨i, s⟩ => (n - i).toNat
set_option maxHeartbeats 4000000 in
set_option maxRecDepth 100000 in
theorem f13 (O : Nat → Prop) (w0 : World) (B : Option Addr) (l : Nat → S33) (As : Nat → Option Addr) (cs : Nat → Nat) (n c : Nat) (R : Int → St → Prop) (K : SX → Prop) (h_ : bif decide ((↑n : Int) > (256 : Int)) then K (SX.tup [SV.c (SC.val (Value.int IntKind.i64 (0 : Int))), SV.c (SC.val (Value.int IntKind.i64 (5 : Int)))]) else (∀ (s : V13), LInv.pre (I13 B l As cs n c R) s → Nat.le (0 : Nat) (List.length (LInv.mem (I13 B l As cs n c R) s))) ∧ Fits (I13 B l As cs n c R) (V13.mk (0 : Int) (St.mk false false false (0 : Int) (u8 false false false false false false false false))) (LInv.mem (I13 B l As cs n c R) (V13.mk (0 : Int) (St.mk false false false (0 : Int) (u8 false false false false false false false false)))) (LInv.tmp (I13 B l As cs n c R) (V13.mk (0 : Int) (St.mk false false false (0 : Int) (u8 false false false false false false false false)))) ∧ ∀ (s : V13) (J : Nat → Value), LInv.pre (I13 B l As cs n c R) s → bif decide (s.1 < (↑n : Int)) then In s.1 (↑n : Int) ∧ Option.isSome B = true ∧ RowAt O w0 B (28 : Nat) (rowsC l As cs ((0 : Nat) + Int.toNat s.1)) ((0 : Nat) + Int.toNat s.1) ∧ Gl0 O w0 ∧ ∃ c_1, CmdX O w0 (SX.v (SV.agg [SC.val (Value.int IntKind.i64 (S33.f0 (l ((0 : Nat) + Int.toNat s.1)))), SC.val (Value.int IntKind.i64 (S33.f1 (l ((0 : Nat) + Int.toNat s.1)))), SC.val (Value.int IntKind.i64 (S33.f2 (l ((0 : Nat) + Int.toNat s.1)))), SC.val (Value.int IntKind.i64 (S33.f3 (l ((0 : Nat) + Int.toNat s.1)))), SC.val (Value.int IntKind.i64 (S33.f4 (l ((0 : Nat) + Int.toNat s.1)))), SC.val (Value.int IntKind.i64 (S33.f5 (l ((0 : Nat) + Int.toNat s.1)))), SC.val (Value.int IntKind.i64 (S33.f6 (l ((0 : Nat) + Int.toNat s.1)))), SC.val (Value.int IntKind.i64 (S33.f7 (l ((0 : Nat) + Int.toNat s.1)))), SC.val (Value.int IntKind.i64 (S30.f0 (S33.f8 (l ((0 : Nat) + Int.toNat s.1))))), SC.val (Value.int IntKind.i64 (S30.f1 (S33.f8 (l ((0 : Nat) + Int.toNat s.1))))), SC.val (Value.int IntKind.i64 (S30.f2 (S33.f8 (l ((0 : Nat) + Int.toNat s.1))))), SC.val (Value.int IntKind.i64 (S30.f3 (S33.f8 (l ((0 : Nat) + Int.toNat s.1))))), SC.val (Value.int IntKind.i64 (S30.f4 (S33.f8 (l ((0 : Nat) + Int.toNat s.1))))), SC.val (Value.int IntKind.i64 (S28.f0 (S30.f5 (S33.f8 (l ((0 : Nat) + Int.toNat s.1)))))), SC.val (Value.int IntKind.i64 (S28.f1 (S30.f5 (S33.f8 (l ((0 : Nat) + Int.toNat s.1)))))), SC.val (Value.int IntKind.i64 (S28.f2 (S30.f5 (S33.f8 (l ((0 : Nat) + Int.toNat s.1)))))), SC.val (Value.int IntKind.i64 (S28.f3 (S30.f5 (S33.f8 (l ((0 : Nat) + Int.toNat s.1)))))), SC.val (Value.int IntKind.i64 (S30.f6 (S33.f8 (l ((0 : Nat) + Int.toNat s.1))))), SC.val (Value.int IntKind.i64 (S30.f7 (S33.f8 (l ((0 : Nat) + Int.toNat s.1))))), SC.val (Value.int IntKind.i64 (S30.f8 (S33.f8 (l ((0 : Nat) + Int.toNat s.1))))), SC.rsl (As ((0 : Nat) + Int.toNat s.1)) (1 : Nat) (ints (S33.f9 (l ((0 : Nat) + Int.toNat s.1)))) (0 : Nat) (List.length (S33.f9 (l ((0 : Nat) + Int.toNat s.1)))) (cs ((0 : Nat) + Int.toNat s.1)), SC.val (Value.int IntKind.i64 (S28.f0 (S33.f10 (l ((0 : Nat) + Int.toNat s.1))))), SC.val (Value.int IntKind.i64 (S28.f1 (S33.f10 (l ((0 : Nat) + Int.toNat s.1))))), SC.val (Value.int IntKind.i64 (S28.f2 (S33.f10 (l ((0 : Nat) + Int.toNat s.1))))), SC.val (Value.int IntKind.i64 (S28.f3 (S33.f10 (l ((0 : Nat) + Int.toNat s.1))))), SC.val (Value.int IntKind.i64 (S33.f11 (l ((0 : Nat) + Int.toNat s.1)))), SC.val (Value.int IntKind.i64 (S33.f12 (l ((0 : Nat) + Int.toNat s.1)))), SC.val (Value.bool (S33.f13 (l ((0 : Nat) + Int.toNat s.1))))])) c_1 ∧ bif chk c_1 == (0 : Int) then ∃ s_1 x, some (Blk.mk (nat_lit 87) [SC.val (Value.bool (St.inPass s.2)), SC.val (Value.bool (St.bound s.2)), SC.val (Value.bool (St.active s.2)), SC.val (Value.int IntKind.i64 (St.query s.2)), SC.val (Value.bool (St.used s.2 (0 : Int))), SC.val (Value.bool (St.used s.2 (1 : Int))), SC.val (Value.bool (St.used s.2 (2 : Int))), SC.val (Value.bool (St.used s.2 (3 : Int))), SC.val (Value.bool (St.used s.2 (4 : Int))), SC.val (Value.bool (St.used s.2 (5 : Int))), SC.val (Value.bool (St.used s.2 (6 : Int))), SC.val (Value.bool (St.used s.2 (7 : Int)))]) = some (Blk.mk (nat_lit 87) [SC.val (Value.bool (St.inPass s_1)), SC.val (Value.bool (St.bound s_1)), SC.val (Value.bool (St.active s_1)), SC.val (Value.int IntKind.i64 (St.query s_1)), SC.val (Value.bool (St.used s_1 (0 : Int))), SC.val (Value.bool (St.used s_1 (1 : Int))), SC.val (Value.bool (St.used s_1 (2 : Int))), SC.val (Value.bool (St.used s_1 (3 : Int))), SC.val (Value.bool (St.used s_1 (4 : Int))), SC.val (Value.bool (St.used s_1 (5 : Int))), SC.val (Value.bool (St.used s_1 (6 : Int))), SC.val (Value.bool (St.used s_1 (7 : Int)))]) ∧ CmdX O w0 (SX.v (SV.agg [SC.val (Value.int IntKind.i64 (S33.f0 (l ((0 : Nat) + Int.toNat s.1)))), SC.val (Value.int IntKind.i64 (S33.f1 (l ((0 : Nat) + Int.toNat s.1)))), SC.val (Value.int IntKind.i64 (S33.f2 (l ((0 : Nat) + Int.toNat s.1)))), SC.val (Value.int IntKind.i64 (S33.f3 (l ((0 : Nat) + Int.toNat s.1)))), SC.val (Value.int IntKind.i64 (S33.f4 (l ((0 : Nat) + Int.toNat s.1)))), SC.val (Value.int IntKind.i64 (S33.f5 (l ((0 : Nat) + Int.toNat s.1)))), SC.val (Value.int IntKind.i64 (S33.f6 (l ((0 : Nat) + Int.toNat s.1)))), SC.val (Value.int IntKind.i64 (S33.f7 (l ((0 : Nat) + Int.toNat s.1)))), SC.val (Value.int IntKind.i64 (S30.f0 (S33.f8 (l ((0 : Nat) + Int.toNat s.1))))), SC.val (Value.int IntKind.i64 (S30.f1 (S33.f8 (l ((0 : Nat) + Int.toNat s.1))))), SC.val (Value.int IntKind.i64 (S30.f2 (S33.f8 (l ((0 : Nat) + Int.toNat s.1))))), SC.val (Value.int IntKind.i64 (S30.f3 (S33.f8 (l ((0 : Nat) + Int.toNat s.1))))), SC.val (Value.int IntKind.i64 (S30.f4 (S33.f8 (l ((0 : Nat) + Int.toNat s.1))))), SC.val (Value.int IntKind.i64 (S28.f0 (S30.f5 (S33.f8 (l ((0 : Nat) + Int.toNat s.1)))))), SC.val (Value.int IntKind.i64 (S28.f1 (S30.f5 (S33.f8 (l ((0 : Nat) + Int.toNat s.1)))))), SC.val (Value.int IntKind.i64 (S28.f2 (S30.f5 (S33.f8 (l ((0 : Nat) + Int.toNat s.1)))))), SC.val (Value.int IntKind.i64 (S28.f3 (S30.f5 (S33.f8 (l ((0 : Nat) + Int.toNat s.1)))))), SC.val (Value.int IntKind.i64 (S30.f6 (S33.f8 (l ((0 : Nat) + Int.toNat s.1))))), SC.val (Value.int IntKind.i64 (S30.f7 (S33.f8 (l ((0 : Nat) + Int.toNat s.1))))), SC.val (Value.int IntKind.i64 (S30.f8 (S33.f8 (l ((0 : Nat) + Int.toNat s.1))))), SC.rsl (As ((0 : Nat) + Int.toNat s.1)) (1 : Nat) (ints (S33.f9 (l ((0 : Nat) + Int.toNat s.1)))) (0 : Nat) (List.length (S33.f9 (l ((0 : Nat) + Int.toNat s.1)))) (cs ((0 : Nat) + Int.toNat s.1)), SC.val (Value.int IntKind.i64 (S28.f0 (S33.f10 (l ((0 : Nat) + Int.toNat s.1))))), SC.val (Value.int IntKind.i64 (S28.f1 (S33.f10 (l ((0 : Nat) + Int.toNat s.1))))), SC.val (Value.int IntKind.i64 (S28.f2 (S33.f10 (l ((0 : Nat) + Int.toNat s.1))))), SC.val (Value.int IntKind.i64 (S28.f3 (S33.f10 (l ((0 : Nat) + Int.toNat s.1))))), SC.val (Value.int IntKind.i64 (S33.f11 (l ((0 : Nat) + Int.toNat s.1)))), SC.val (Value.int IntKind.i64 (S33.f12 (l ((0 : Nat) + Int.toNat s.1)))), SC.val (Value.bool (S33.f13 (l ((0 : Nat) + Int.toNat s.1))))])) x ∧ In (S33.f0 x - (1 : Int)) (14 : Int) ∧ (S33.f0 x = (11 : Int) → In (S33.f2 x) (8 : Int)) ∧ ∀ (e : Int) (s' : St), (e, s') = nxtK (S33.f0 x) (S33.f2 x) s_1 → bif e != (0 : Int) then K (SX.tup [SV.c (SC.val (Value.int IntKind.i64 s.1)), SV.c (SC.val (Value.int IntKind.i64 e))]) else Fits (I13 B l As cs n c R) (V13.mk (IntKind.wrap IntKind.i64 (s.1 + (1 : Int))) (St.mk (St.inPass s') (St.bound s') (St.active s') (St.query s') (u8 (St.used s' (0 : Int)) (St.used s' (1 : Int)) (St.used s' (2 : Int)) (St.used s' (3 : Int)) (St.used s' (4 : Int)) (St.used s' (5 : Int)) (St.used s' (6 : Int)) (St.used s' (7 : Int))))) (LInv.mem (I13 B l As cs n c R) (V13.mk (IntKind.wrap IntKind.i64 (s.1 + (1 : Int))) (St.mk (St.inPass s') (St.bound s') (St.active s') (St.query s') (u8 (St.used s' (0 : Int)) (St.used s' (1 : Int)) (St.used s' (2 : Int)) (St.used s' (3 : Int)) (St.used s' (4 : Int)) (St.used s' (5 : Int)) (St.used s' (6 : Int)) (St.used s' (7 : Int)))))) (LInv.tmp (I13 B l As cs n c R) (V13.mk (IntKind.wrap IntKind.i64 (s.1 + (1 : Int))) (St.mk (St.inPass s') (St.bound s') (St.active s') (St.query s') (u8 (St.used s' (0 : Int)) (St.used s' (1 : Int)) (St.used s' (2 : Int)) (St.used s' (3 : Int)) (St.used s' (4 : Int)) (St.used s' (5 : Int)) (St.used s' (6 : Int)) (St.used s' (7 : Int)))))) ∧ Dec (I13 B l As cs n c R) (V13.mk (IntKind.wrap IntKind.i64 (s.1 + (1 : Int))) (St.mk (St.inPass s') (St.bound s') (St.active s') (St.query s') (u8 (St.used s' (0 : Int)) (St.used s' (1 : Int)) (St.used s' (2 : Int)) (St.used s' (3 : Int)) (St.used s' (4 : Int)) (St.used s' (5 : Int)) (St.used s' (6 : Int)) (St.used s' (7 : Int))))) s else bif chk c_1 != (0 : Int) then K (SX.tup [SV.c (SC.val (Value.int IntKind.i64 s.1)), SV.c (SC.val (Value.int IntKind.i64 (chk c_1)))]) else Fits (I13 B l As cs n c R) (V13.mk (IntKind.wrap IntKind.i64 (s.1 + (1 : Int))) (St.mk (St.inPass s.2) (St.bound s.2) (St.active s.2) (St.query s.2) (u8 (St.used s.2 (0 : Int)) (St.used s.2 (1 : Int)) (St.used s.2 (2 : Int)) (St.used s.2 (3 : Int)) (St.used s.2 (4 : Int)) (St.used s.2 (5 : Int)) (St.used s.2 (6 : Int)) (St.used s.2 (7 : Int))))) (LInv.mem (I13 B l As cs n c R) (V13.mk (IntKind.wrap IntKind.i64 (s.1 + (1 : Int))) (St.mk (St.inPass s.2) (St.bound s.2) (St.active s.2) (St.query s.2) (u8 (St.used s.2 (0 : Int)) (St.used s.2 (1 : Int)) (St.used s.2 (2 : Int)) (St.used s.2 (3 : Int)) (St.used s.2 (4 : Int)) (St.used s.2 (5 : Int)) (St.used s.2 (6 : Int)) (St.used s.2 (7 : Int)))))) (LInv.tmp (I13 B l As cs n c R) (V13.mk (IntKind.wrap IntKind.i64 (s.1 + (1 : Int))) (St.mk (St.inPass s.2) (St.bound s.2) (St.active s.2) (St.query s.2) (u8 (St.used s.2 (0 : Int)) (St.used s.2 (1 : Int)) (St.used s.2 (2 : Int)) (St.used s.2 (3 : Int)) (St.used s.2 (4 : Int)) (St.used s.2 (5 : Int)) (St.used s.2 (6 : Int)) (St.used s.2 (7 : Int)))))) ∧ Dec (I13 B l As cs n c R) (V13.mk (IntKind.wrap IntKind.i64 (s.1 + (1 : Int))) (St.mk (St.inPass s.2) (St.bound s.2) (St.active s.2) (St.query s.2) (u8 (St.used s.2 (0 : Int)) (St.used s.2 (1 : Int)) (St.used s.2 (2 : Int)) (St.used s.2 (3 : Int)) (St.used s.2 (4 : Int)) (St.used s.2 (5 : Int)) (St.used s.2 (6 : Int)) (St.used s.2 (7 : Int))))) s else bif St.inPass s.2 then K (SX.tup [SV.c (SC.val (Value.int IntKind.i64 (↑n : Int))), SV.c (SC.val (Value.int IntKind.i64 (16 : Int)))]) else K (SX.tup [SV.c (SC.val (Value.int IntKind.i64 (↑n : Int))), SV.c (SC.val (Value.int IntKind.i64 (0 : Int)))])) : evFn Tryd.prog O w0 (Γ8 O w0) (Λof 33 (I13 B l As cs n c R)) 100 5 33 [cmdsV B l As cs n c] [] (fun y _ => K y) := vc_of h_ (by kernel_rfl)
def norm (s : St) : St := { s with used := u8 (s.used 0) (s.used 1) (s.used 2) (s.used 3) (s.used 4) (s.used 5) (s.used 6) (s.used 7) }
def s0 : St := ⟨false, false, false, 0, u8 false false false false false false false false⟩
def valG (n : Int) : List S33 → Int → St → Int × Int
  | [], _, s => bif s.inPass then (n, 16) else (n, 0)
  | x :: t, i, s => bif chk x == 0 then (bif (nxtK x.f0 x.f2 s).1 != 0 then (i, (nxtK x.f0 x.f2 s).1) else valG n t (i + 1) (norm (nxtK x.f0 x.f2 s).2)) else (i, chk x)
def valid (l : List S33) : Int × Int := if l.length > 256 then (0, 5) else valG l.length l 0 s0
structure CmdsX (O : Nat → Prop) (w0 : World) (x : SX) (l : List S33) : Prop where
  le : l.length ≤ 9223372036854775807
  out : ∃ B c As cs, (∀ β, x.den β = (cmdsV B (fun j => l.getD j z33) As cs l.length c).den β) ∧ ∀ j, j < l.length → B.isSome = true ∧ RowAt O w0 B 28 (rowsC (fun j => l.getD j z33) As cs j) j ∧ (l.getD j z33).f9.length ≤ 9223372036854775807 ∧ ∀ i, i < (l.getD j z33).f9.length → (As j).isSome = true ∧ RowAt O w0 (As j) 1 (ints (l.getD j z33).f9 i) i
def gVal : EntF := fun O w0 args M k => match args with
  | [a] => Gl0 O w0 ∧ ∃ l, CmdsX O w0 a l ∧ ∀ i e, (i, e) = valid l → k (.tup [.c (.val (.int .i64 i)), .c (.val (.int .i64 e))]) M
  | _ => False
def Γ9 : TabF := addF Γ8 33 gVal
--HIDE
theorem v_of_cond {b : Bool} {P Q : Prop} (h1 : b = true → P) (h2 : b = false → Q) : bif b then P else Q := cond_of h1 h2
theorem drop_here {l : List S33} {i : Int} (h0 : 0 ≤ i) (h : i < l.length) : l.drop i.toNat = l.getD i.toNat z33 :: l.drop (i.toNat + 1) := by
  rw [List.drop_eq_getElem_cons (by omega : i.toNat < l.length), List.getD_eq_getElem?_getD, List.getElem?_eq_getElem (by omega)]
  rfl
set_option maxRecDepth 100000 in
set_option maxHeartbeats 8000000 in
theorem e13 (O : Nat → Prop) (w0 : World) : Entry Tryd.prog O w0 33 (gVal O w0) :=
  Entry.pure Γ8_ok 100 5 (g := gVal) (fun O w0 args M k hg => by
    unfold gVal at hg
    split at hg
    case h_2 => exact hg.elim
    rename_i a
    obtain ⟨hG, l, ⟨hl, B, c, As, cs, ha, hA⟩, hk⟩ := hg
    obtain ⟨vi, ve, hv0⟩ : ∃ vi ve, (vi, ve) = valid l := ⟨_, _, rfl⟩
    have hk := hk vi ve hv0
    refine ⟨_, [cmdsV B (fun j => l.getD j z33) As cs l.length c], rfl, hk, fun β => by unfold fr; simp only [List.map_cons, ha β, List.map_nil], fun w hw => ⟨_, f13 _ w B (fun j => l.getD j z33) As cs l.length c (fun i s => 0 ≤ i ∧ i ≤ l.length ∧ valG l.length (l.drop i.toNat) i s = (vi, ve)) _ ?_⟩⟩
    unfold valid at hv0
    refine cond_of (fun h => ?_) (fun h => ?_)
    · have h := of_decide_eq_true h
      rw [if_pos (by omega)] at hv0
      cases hv0; rfl
    · have h := of_decide_eq_false h
      rw [if_neg (by omega)] at hv0
      refine ⟨fun _ _ => Nat.zero_le _, ⟨⟨by omega, by omega, hv0.symm⟩, rfl, fun _ => rfl⟩, ?_⟩
      rintro ⟨i, s⟩ J ⟨h0, h1, hv⟩
      refine cond_of (fun h => ?_) (fun h => ?_)
      · have hlt : i < l.length := by simpa using h
        obtain ⟨hB, hR, hL, hI⟩ := hA i.toNat (by omega)
        simp only [Nat.zero_add]
        have hc : CmdX (fun _ => False) w (cmdV (l.getD i.toNat z33) (As i.toNat) (cs i.toNat)) (l.getD i.toNat z33) := ⟨hL, As i.toNat, cs i.toNat, fun _ => rfl, rowsAt hI hw⟩
        rw [drop_here h0 hlt] at hv
        unfold valG at hv
        refine ⟨⟨h0, hlt⟩, hB, hR.at hw, hG.at hw, l.getD i.toNat z33, hc, cond_of (fun hch => ?_) (fun hch => ?_)⟩
        · rw [hch] at hv
          obtain ⟨hin, hid⟩ := chk0 (by simpa using hch)
          refine ⟨s, l.getD i.toNat z33, rfl, hc, hin, hid, fun e s' he => cond_of (fun hne => ?_) (fun hne => ?_)⟩
          · rw [← he] at hv
            have hv : (bif e != 0 then (i, e) else valG l.length (l.drop (i.toNat + 1)) (i + 1) (norm s')) = (vi, ve) := hv
            rw [hne] at hv
            cases hv; rfl
          · rw [← he] at hv
            have hv : (bif e != 0 then (i, e) else valG l.length (l.drop (i.toNat + 1)) (i + 1) (norm s')) = (vi, ve) := hv
            rw [hne] at hv
            rw [wrap_in (by omega) (by omega)]
            refine ⟨⟨⟨by omega, by omega, ?_⟩, rfl, fun _ => rfl⟩, ⟨by show (_ : Int).toNat < (_ : Int).toNat; omega⟩⟩
            rw [show (i + 1).toNat = i.toNat + 1 by omega]
            exact hv
        · rw [hch] at hv
          have hv : (i, chk (l.getD i.toNat z33)) = (vi, ve) := hv
          refine cond_of (fun _ => by cases hv; rfl) (fun h3 => ?_)
          have e1 : (chk (l.getD i.toNat z33) != 0) = !(chk (l.getD i.toNat z33) == 0) := rfl
          rw [e1, hch] at h3
          exact absurd h3 (by decide)
      · have hge : ¬ i < l.length := by simpa using h
        rw [List.drop_eq_nil_of_le (by omega)] at hv
        unfold valG at hv
        exact cond_of (fun hp => by rw [hp] at hv; cases hv; rfl) (fun hp => by rw [hp] at hv; cases hv; rfl)) O w0
theorem Γ9_ok : TSF Tryd.prog Γ9 := Γ8_ok.add e13
--SHOW
end Go.Proofs.YtomnecadhiflnaaDoor.Cm
