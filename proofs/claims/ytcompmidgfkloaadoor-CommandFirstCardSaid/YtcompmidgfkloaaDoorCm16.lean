/- The laws CommandSequence and CommandFirst: what their texts come to. -/
import Derived.Test.YtcompmidgfkloaaDoorCm18
namespace Go.Proofs.YtcompmidgfkloaaDoor.Cm
open Go Go.RowKit Go.Proofs.YtcompmidgfkloaaDoor.Eng
set_option linter.unusedVariables false
set_option linter.unusedSimpArgs false
structure B2 where
  i : Int
  b : Bool
def rB2 (ts : List SX) (d e : Nat) : B2 := match ts.getD d undefX, ts.getD e undefX with
  | .v (.c (.val (.int _ n))), .v (.c (.val (.bool b))) => ⟨n, b⟩
  | _, _ => ⟨0, false⟩
structure N3 where
  i : Int
  a : Int
  b : Int
def rN3 (ts : List SX) (d e g : Nat) : N3 := match ts.getD d undefX, ts.getD e undefX, ts.getD g undefX with
  | .v (.c (.val (.int _ n))), .v (.c (.val (.int _ a))), .v (.c (.val (.int _ b))) => ⟨n, a, b⟩
  | _, _, _ => ⟨0, 0, 0⟩
def I5 (B : Option Addr) (l : Nat → S33) (As : Nat → Option Addr) (cs : Nat → Nat) (n c : Nat) (at_ : Int) (R : Int → Bool → Prop) : LInv where
  σ := B2
  pre := fun ⟨i, b⟩ => R i b
  mem := fun _ => []
  tmp := fun ⟨i, b⟩ J => [cmdsV B l As cs n c, iV at_, jV (J 2), jV (J 3), jV (J 4), jV (J 5), jV (J 6), bV b, jV (J 8), jV (J 9), jV (J 10), jV (J 11), jV (J 12), jV (J 13), jV (J 14), jV (J 15), jV (J 16), jV (J 17), jV (J 18), jV (J 19), jV (J 20), jV (J 21), jV (J 22), jV (J 23), jV (J 24), jV (J 25), jV (J 26), jV (J 27), jV (J 28), jV (J 29), jV (J 30), jV (J 31), jV (J 32), iV at_, iV i, jV (J 35), jV (J 36), jV (J 37), jV (J 38), jV (J 39), jV (J 40), jV (J 41), jV (J 42), jV (J 43), jV (J 44), jV (J 45), jV (J 46), jV (J 47), jV (J 48), jV (J 49), jV (J 50), jV (J 51), jV (J 52), jV (J 53), jV (J 54), jV (J 55), jV (J 56), jV (J 57), jV (J 58), jV (J 59), jV (J 60), jV (J 61), jV (J 62), jV (J 63), jV (J 64), jV (J 65), jV (J 66), jV (J 67), jV (J 68), jV (J 69), jV (J 70), jV (J 71), jV (J 72), jV (J 73), jV (J 74), jV (J 75), jV (J 76), jV (J 77)]
  read := fun _ ts => rB2 ts 34 7
  junk := [2, 3, 4, 5, 6, 8, 9, 10, 11, 12, 13, 14, 15, 16, 17, 18, 19, 20, 21, 22, 23, 24, 25, 26, 27, 28, 29, 30, 31, 32, 35, 36, 37, 38, 39, 40, 41, 42, 43, 44, 45, 46, 47, 48, 49, 50, 51, 52, 53, 54, 55, 56, 57, 58, 59, 60, 61, 62, 63, 64, 65, 66, 67, 68, 69, 70, 71, 72, 73, 74, 75, 76, 77]
  μ := fun ⟨i, b⟩ => (at_ - i).toNat
def I6 (B : Option Addr) (l : Nat → S33) (As : Nat → Option Addr) (cs : Nat → Nat) (n c : Nat) (R : Int → Int → Int → Prop) : LInv where
  σ := N3
  pre := fun ⟨i, v, e⟩ => R i v e
  mem := fun _ => []
  tmp := fun ⟨i, v, e⟩ J => [cmdsV B l As cs n c, jV (J 1), jV (J 2), iV v, iV e, jV (J 5), jV (J 6), jV (J 7), jV (J 8), jV (J 9), jV (J 10), jV (J 11), jV (J 12), jV (J 13), jV (J 14), jV (J 15), jV (J 16), jV (J 17), jV (J 18), jV (J 19), jV (J 20), jV (J 21), jV (J 22), jV (J 23), jV (J 24), jV (J 25), jV (J 26), jV (J 27), jV (J 28), jV (J 29), jV (J 30), jV (J 31), jV (J 32), jV (J 33), jV (J 34), jV (J 35), jV (J 36), jV (J 37), jV (J 38), jV (J 39), jV (J 40), jV (J 41), iV v, iV i, jV (J 44), jV (J 45), jV (J 46), jV (J 47), jV (J 48), jV (J 49), jV (J 50), jV (J 51), jV (J 52), jV (J 53), jV (J 54), jV (J 55), jV (J 56), jV (J 57), jV (J 58), jV (J 59), jV (J 60), jV (J 61), jV (J 62), jV (J 63), jV (J 64), jV (J 65), jV (J 66), jV (J 67), jV (J 68), jV (J 69), jV (J 70), jV (J 71), jV (J 72), jV (J 73), jV (J 74), jV (J 75), jV (J 76), jV (J 77), jV (J 78), jV (J 79), jV (J 80)]
  read := fun _ ts => rN3 ts 43 3 4
  junk := [1, 2, 5, 6, 7, 8, 9, 10, 11, 12, 13, 14, 15, 16, 17, 18, 19, 20, 21, 22, 23, 24, 25, 26, 27, 28, 29, 30, 31, 32, 33, 34, 35, 36, 37, 38, 39, 40, 41, 44, 45, 46, 47, 48, 49, 50, 51, 52, 53, 54, 55, 56, 57, 58, 59, 60, 61, 62, 63, 64, 65, 66, 67, 68, 69, 70, 71, 72, 73, 74, 75, 76, 77, 78, 79, 80]
  μ := fun ⟨i, v, e⟩ => (v - i).toNat
set_option maxHeartbeats 4000000 in
set_option maxRecDepth 100000 in
theorem f5 (O : Nat → Prop) (w0 : World) (B : Option Addr) (l : Nat → S33) (As : Nat → Option Addr) (cs : Nat → Nat) (n c : Nat) (at_ : Int) (R : Int → Bool → Prop) (K : SX → Prop) (h_ : Gl0 O w0 ∧ ∃ l_1, CmdsX O w0 (SX.v (SV.c (SC.rsl B (28 : Nat) (rowsC l As cs) (0 : Nat) n c))) l_1 ∧ ∀ (i e : Int), (i, e) = valid l_1 → bif e != (0 : Int) then Gl0 O w0 ∧ K (SX.v (SV.c (SC.val (Value.bool true)))) else bif decide (at_ < (0 : Int)) then Gl0 O w0 ∧ K (SX.v (SV.c (SC.val (Value.bool true)))) else bif decide (at_ > (↑n : Int)) then Gl0 O w0 ∧ K (SX.v (SV.c (SC.val (Value.bool true)))) else bif i != (↑n : Int) then K (SX.v (SV.c (SC.val (Value.bool false)))) else (∀ (s : B2), LInv.pre (I5 B l As cs n c at_ R) s → Nat.le (0 : Nat) (List.length (LInv.mem (I5 B l As cs n c at_ R) s))) ∧ Fits (I5 B l As cs n c at_ R) (B2.mk (0 : Int) false) (LInv.mem (I5 B l As cs n c at_ R) (B2.mk (0 : Int) false)) (LInv.tmp (I5 B l As cs n c at_ R) (B2.mk (0 : Int) false)) ∧ ∀ (s : B2) (J : Nat → Value), LInv.pre (I5 B l As cs n c at_ R) s → bif decide (s.1 < at_) then In s.1 (↑n : Int) ∧ Option.isSome B = true ∧ Option.isSome B = true ∧ RowAt O w0 B (28 : Nat) (rowsC l As cs ((0 : Nat) + Int.toNat s.1)) ((0 : Nat) + Int.toNat s.1) ∧ bif S33.f0 (l ((0 : Nat) + Int.toNat s.1)) == (7 : Int) then In s.1 (↑n : Int) ∧ Option.isSome B = true ∧ Option.isSome B = true ∧ RowAt O w0 B (28 : Nat) (rowsC l As cs ((0 : Nat) + Int.toNat s.1)) ((0 : Nat) + Int.toNat s.1) ∧ bif S33.f0 (l ((0 : Nat) + Int.toNat s.1)) == (8 : Int) then Fits (I5 B l As cs n c at_ R) (B2.mk (IntKind.wrap IntKind.i64 (s.1 + (1 : Int))) false) (LInv.mem (I5 B l As cs n c at_ R) (B2.mk (IntKind.wrap IntKind.i64 (s.1 + (1 : Int))) false)) (LInv.tmp (I5 B l As cs n c at_ R) (B2.mk (IntKind.wrap IntKind.i64 (s.1 + (1 : Int))) false)) ∧ Dec (I5 B l As cs n c at_ R) (B2.mk (IntKind.wrap IntKind.i64 (s.1 + (1 : Int))) false) s else Fits (I5 B l As cs n c at_ R) (B2.mk (IntKind.wrap IntKind.i64 (s.1 + (1 : Int))) true) (LInv.mem (I5 B l As cs n c at_ R) (B2.mk (IntKind.wrap IntKind.i64 (s.1 + (1 : Int))) true)) (LInv.tmp (I5 B l As cs n c at_ R) (B2.mk (IntKind.wrap IntKind.i64 (s.1 + (1 : Int))) true)) ∧ Dec (I5 B l As cs n c at_ R) (B2.mk (IntKind.wrap IntKind.i64 (s.1 + (1 : Int))) true) s else In s.1 (↑n : Int) ∧ Option.isSome B = true ∧ Option.isSome B = true ∧ RowAt O w0 B (28 : Nat) (rowsC l As cs ((0 : Nat) + Int.toNat s.1)) ((0 : Nat) + Int.toNat s.1) ∧ bif S33.f0 (l ((0 : Nat) + Int.toNat s.1)) == (8 : Int) then Fits (I5 B l As cs n c at_ R) (B2.mk (IntKind.wrap IntKind.i64 (s.1 + (1 : Int))) false) (LInv.mem (I5 B l As cs n c at_ R) (B2.mk (IntKind.wrap IntKind.i64 (s.1 + (1 : Int))) false)) (LInv.tmp (I5 B l As cs n c at_ R) (B2.mk (IntKind.wrap IntKind.i64 (s.1 + (1 : Int))) false)) ∧ Dec (I5 B l As cs n c at_ R) (B2.mk (IntKind.wrap IntKind.i64 (s.1 + (1 : Int))) false) s else Fits (I5 B l As cs n c at_ R) (B2.mk (IntKind.wrap IntKind.i64 (s.1 + (1 : Int))) s.2) (LInv.mem (I5 B l As cs n c at_ R) (B2.mk (IntKind.wrap IntKind.i64 (s.1 + (1 : Int))) s.2)) (LInv.tmp (I5 B l As cs n c at_ R) (B2.mk (IntKind.wrap IntKind.i64 (s.1 + (1 : Int))) s.2)) ∧ Dec (I5 B l As cs n c at_ R) (B2.mk (IntKind.wrap IntKind.i64 (s.1 + (1 : Int))) s.2) s else Cut (0 : Int) (Option.getD (some at_) (↑n : Int)) (↑c : Int) ∧ Cut (0 : Int) (↑n : Int) (↑c : Int) ∧ Gl0 O w0 ∧ ∃ l_2, CmdsX O w0 (SX.v (SV.c (SC.rsl B (28 : Nat) (rowsC l As cs) (0 : Nat) (match some at_ with | some h => Int.toNat h | none => n) c))) l_2 ∧ ∀ (i e : Int), (i, e) = valid l_2 → bif s.2 then bif i == at_ then bif e == (16 : Int) then Gl0 O w0 ∧ K (SX.v (SV.c (SC.val (Value.bool true)))) else K (SX.v (SV.c (SC.val (Value.bool false)))) else K (SX.v (SV.c (SC.val (Value.bool false)))) else bif i == at_ then bif e == (0 : Int) then Gl0 O w0 ∧ K (SX.v (SV.c (SC.val (Value.bool true)))) else K (SX.v (SV.c (SC.val (Value.bool false)))) else K (SX.v (SV.c (SC.val (Value.bool false))))) : evFn Tryd.prog O w0 (Γ12 O w0) (Λof 5 (I5 B l As cs n c at_ R)) 100 5 5 [cmdsV B l As cs n c, iV at_] [] (fun y _ => K y) := vc_of h_ (by kernel_rfl)
set_option maxHeartbeats 4000000 in
set_option maxRecDepth 100000 in
theorem f6 (O : Nat → Prop) (w0 : World) (B : Option Addr) (l : Nat → S33) (As : Nat → Option Addr) (cs : Nat → Nat) (n c : Nat) (R : Int → Int → Int → Prop) (K : SX → Prop) (h_ : Gl0 O w0 ∧ ∃ l_1, CmdsX O w0 (SX.v (SV.c (SC.rsl B (28 : Nat) (rowsC l As cs) (0 : Nat) n c))) l_1 ∧ ∀ (i e : Int), (i, e) = valid l_1 → bif e == (0 : Int) then bif i == (↑n : Int) then Gl0 O w0 ∧ K (SX.v (SV.c (SC.val (Value.bool true)))) else K (SX.v (SV.c (SC.val (Value.bool false)))) else bif decide ((↑n : Int) > (256 : Int)) then bif i == (0 : Int) then bif e == (5 : Int) then Gl0 O w0 ∧ K (SX.v (SV.c (SC.val (Value.bool true)))) else K (SX.v (SV.c (SC.val (Value.bool false)))) else K (SX.v (SV.c (SC.val (Value.bool false)))) else bif decide (i < (0 : Int)) then K (SX.v (SV.c (SC.val (Value.bool false)))) else bif decide (i > (↑n : Int)) then K (SX.v (SV.c (SC.val (Value.bool false)))) else (∀ (s : N3), LInv.pre (I6 B l As cs n c R) s → Nat.le (0 : Nat) (List.length (LInv.mem (I6 B l As cs n c R) s))) ∧ Fits (I6 B l As cs n c R) (N3.mk (0 : Int) i e) (LInv.mem (I6 B l As cs n c R) (N3.mk (0 : Int) i e)) (LInv.tmp (I6 B l As cs n c R) (N3.mk (0 : Int) i e)) ∧ ∀ (s : N3) (J : Nat → Value), LInv.pre (I6 B l As cs n c R) s → bif decide (s.1 < s.2) then In s.1 (↑n : Int) ∧ Option.isSome B = true ∧ RowAt O w0 B (28 : Nat) (rowsC l As cs ((0 : Nat) + Int.toNat s.1)) ((0 : Nat) + Int.toNat s.1) ∧ Gl0 O w0 ∧ ∃ c_1, CmdX O w0 (SX.v (SV.agg [SC.val (Value.int IntKind.i64 (S33.f0 (l ((0 : Nat) + Int.toNat s.1)))), SC.val (Value.int IntKind.i64 (S33.f1 (l ((0 : Nat) + Int.toNat s.1)))), SC.val (Value.int IntKind.i64 (S33.f2 (l ((0 : Nat) + Int.toNat s.1)))), SC.val (Value.int IntKind.i64 (S33.f3 (l ((0 : Nat) + Int.toNat s.1)))), SC.val (Value.int IntKind.i64 (S33.f4 (l ((0 : Nat) + Int.toNat s.1)))), SC.val (Value.int IntKind.i64 (S33.f5 (l ((0 : Nat) + Int.toNat s.1)))), SC.val (Value.int IntKind.i64 (S33.f6 (l ((0 : Nat) + Int.toNat s.1)))), SC.val (Value.int IntKind.i64 (S33.f7 (l ((0 : Nat) + Int.toNat s.1)))), SC.val (Value.int IntKind.i64 (S30.f0 (S33.f8 (l ((0 : Nat) + Int.toNat s.1))))), SC.val (Value.int IntKind.i64 (S30.f1 (S33.f8 (l ((0 : Nat) + Int.toNat s.1))))), SC.val (Value.int IntKind.i64 (S30.f2 (S33.f8 (l ((0 : Nat) + Int.toNat s.1))))), SC.val (Value.int IntKind.i64 (S30.f3 (S33.f8 (l ((0 : Nat) + Int.toNat s.1))))), SC.val (Value.int IntKind.i64 (S30.f4 (S33.f8 (l ((0 : Nat) + Int.toNat s.1))))), SC.val (Value.int IntKind.i64 (S28.f0 (S30.f5 (S33.f8 (l ((0 : Nat) + Int.toNat s.1)))))), SC.val (Value.int IntKind.i64 (S28.f1 (S30.f5 (S33.f8 (l ((0 : Nat) + Int.toNat s.1)))))), SC.val (Value.int IntKind.i64 (S28.f2 (S30.f5 (S33.f8 (l ((0 : Nat) + Int.toNat s.1)))))), SC.val (Value.int IntKind.i64 (S28.f3 (S30.f5 (S33.f8 (l ((0 : Nat) + Int.toNat s.1)))))), SC.val (Value.int IntKind.i64 (S30.f6 (S33.f8 (l ((0 : Nat) + Int.toNat s.1))))), SC.val (Value.int IntKind.i64 (S30.f7 (S33.f8 (l ((0 : Nat) + Int.toNat s.1))))), SC.val (Value.int IntKind.i64 (S30.f8 (S33.f8 (l ((0 : Nat) + Int.toNat s.1))))), SC.rsl (As ((0 : Nat) + Int.toNat s.1)) (1 : Nat) (ints (S33.f9 (l ((0 : Nat) + Int.toNat s.1)))) (0 : Nat) (List.length (S33.f9 (l ((0 : Nat) + Int.toNat s.1)))) (cs ((0 : Nat) + Int.toNat s.1)), SC.val (Value.int IntKind.i64 (S28.f0 (S33.f10 (l ((0 : Nat) + Int.toNat s.1))))), SC.val (Value.int IntKind.i64 (S28.f1 (S33.f10 (l ((0 : Nat) + Int.toNat s.1))))), SC.val (Value.int IntKind.i64 (S28.f2 (S33.f10 (l ((0 : Nat) + Int.toNat s.1))))), SC.val (Value.int IntKind.i64 (S28.f3 (S33.f10 (l ((0 : Nat) + Int.toNat s.1))))), SC.val (Value.int IntKind.i64 (S33.f11 (l ((0 : Nat) + Int.toNat s.1)))), SC.val (Value.int IntKind.i64 (S33.f12 (l ((0 : Nat) + Int.toNat s.1)))), SC.val (Value.bool (S33.f13 (l ((0 : Nat) + Int.toNat s.1))))])) c_1 ∧ bif chk c_1 != (0 : Int) then K (SX.v (SV.c (SC.val (Value.bool false)))) else Fits (I6 B l As cs n c R) (N3.mk (IntKind.wrap IntKind.i64 (s.1 + (1 : Int))) s.2 s.3) (LInv.mem (I6 B l As cs n c R) (N3.mk (IntKind.wrap IntKind.i64 (s.1 + (1 : Int))) s.2 s.3)) (LInv.tmp (I6 B l As cs n c R) (N3.mk (IntKind.wrap IntKind.i64 (s.1 + (1 : Int))) s.2 s.3)) ∧ Dec (I6 B l As cs n c R) (N3.mk (IntKind.wrap IntKind.i64 (s.1 + (1 : Int))) s.2 s.3) s else bif s.2 == (↑n : Int) then bif s.3 == (16 : Int) then Gl0 O w0 ∧ K (SX.v (SV.c (SC.val (Value.bool true)))) else K (SX.v (SV.c (SC.val (Value.bool false)))) else Cut (0 : Int) (Option.getD (some (IntKind.wrap IntKind.i64 (s.2 + (1 : Int)))) (↑n : Int)) (↑c : Int) ∧ Cut (0 : Int) (↑n : Int) (↑c : Int) ∧ Gl0 O w0 ∧ ∃ l_2, CmdsX O w0 (SX.v (SV.c (SC.rsl B (28 : Nat) (rowsC l As cs) (0 : Nat) (match some (IntKind.wrap IntKind.i64 (s.2 + (1 : Int))) with | some h => Int.toNat h | none => n) c))) l_2 ∧ ∀ (i e : Int), (i, e) = valid l_2 → bif i == s.2 then bif e == s.3 then Gl0 O w0 ∧ K (SX.v (SV.c (SC.val (Value.bool true)))) else K (SX.v (SV.c (SC.val (Value.bool false)))) else K (SX.v (SV.c (SC.val (Value.bool false))))) : evFn Tryd.prog O w0 (Γ12 O w0) (Λof 6 (I6 B l As cs n c R)) 100 5 6 [cmdsV B l As cs n c] [] (fun y _ => K y) := vc_of h_ (by kernel_rfl)
--HIDE
set_option maxRecDepth 100000 in
theorem law5 {W : World} (hG : Gl0 (fun _ => False) W) {v0 v1 : Value} (q : ArgL W v0) (r : ∃ n : Int, v1 = .int .i64 n ∧ -9223372036854775808 ≤ n ∧ n ≤ 9223372036854775807) : Calls Tryd.prog 5 #[v0, v1] W (fun e W' => e = .returned (.bool true) ∧ Below W.heap.size W W') := by
  obtain ⟨l, B, c, As, cs, rfl, _, hcap, hX, hrows⟩ := q
  obtain ⟨a, rfl, ha0, ha1⟩ := r
  refine law_of (Γ12_ok _ W) (f := 5) (args := [cmdsV B (fun j => l.getD j z33) As cs l.length c, iV a]) _ 100 5 (by decide) (f5 _ W B (fun j => l.getD j z33) As cs l.length c a (fun i b => 0 ≤ i ∧ i ≤ a ∧ b = ins false (l.take i.toNat)) _ ?_)
  refine ⟨hG, l, hX, fun i e hv => ?_⟩
  refine cond_of (fun _ => ⟨hG, rfl⟩) (fun he => cond_of (fun _ => ⟨hG, rfl⟩) (fun h0 => cond_of (fun _ => ⟨hG, rfl⟩) (fun h1 => ?_)))
  have he : e = 0 := by simpa using he
  have h0 : 0 ≤ a := by simpa using h0
  have h1 : a ≤ l.length := by simpa using h1
  subst he
  have hlen : ¬ l.length > 256 := fun hh => by
    unfold valid at hv
    rw [if_pos hh] at hv
    have := congrArg Prod.snd hv
    simp at this
  have hv2 : valG l.length l 0 s0 = (i, 0) := by
    unfold valid at hv
    rw [if_neg hlen] at hv
    exact hv.symm
  obtain ⟨hi, hp⟩ := val_pre _ l 0 s0 i hv2
  subst hi
  have hpre : ∀ k : Nat, k ≤ l.length → valid (l.take k) = ((k : Int), if ins false (l.take k) = true then 16 else 0) := fun k hk => by
    unfold valid
    rw [List.length_take, Nat.min_eq_left hk, if_neg (by omega)]
    exact hp k k hk
  refine cond_of (fun h => by simp at h) (fun _ => ?_)
  refine ⟨fun _ _ => Nat.zero_le _, ⟨⟨by omega, by omega, rfl⟩, rfl, fun _ => rfl⟩, ?_⟩
  rintro ⟨i, b⟩ J ⟨i0, i1, hb⟩
  refine cond_of (fun h => ?_) (fun h => ?_)
  · have hlt : i < a := by simpa using h
    obtain ⟨hB, hR, _, _⟩ := hrows i.toNat (by omega)
    simp only [Nat.zero_add]
    have hin : In i (l.length : Int) := ⟨i0, by omega⟩
    have hst : ∀ b', b' = insS b (l.getD i.toNat z33) → b' = ins false (l.take (i + 1).toNat) := fun b' e => by
      rw [show (i + 1).toNat = i.toNat + 1 by omega, take_snoc (by omega), ins_snoc, ← hb]; exact e
    rw [wrap_in (by omega) (by omega)]
    have hfin : ∀ b', b' = insS b (l.getD i.toNat z33) → Fits (I5 B (fun j => l.getD j z33) As cs l.length c a (fun i b => 0 ≤ i ∧ i ≤ a ∧ b = ins false (l.take i.toNat))) (B2.mk (i + 1) b') (LInv.mem (I5 B (fun j => l.getD j z33) As cs l.length c a (fun i b => 0 ≤ i ∧ i ≤ a ∧ b = ins false (l.take i.toNat))) (B2.mk (i + 1) b')) (LInv.tmp (I5 B (fun j => l.getD j z33) As cs l.length c a (fun i b => 0 ≤ i ∧ i ≤ a ∧ b = ins false (l.take i.toNat))) (B2.mk (i + 1) b')) ∧ Dec (I5 B (fun j => l.getD j z33) As cs l.length c a (fun i b => 0 ≤ i ∧ i ≤ a ∧ b = ins false (l.take i.toNat))) (B2.mk (i + 1) b') ⟨i, b⟩ := fun b' e =>
      ⟨⟨⟨by omega, by omega, hst b' e⟩, rfl, fun _ => rfl⟩, ⟨by show (_ : Int).toNat < (_ : Int).toNat; omega⟩⟩
    refine ⟨hin, hB, hB, hR, cond_of (fun h7 => ⟨hin, hB, hB, hR, cond_of (fun h8 => ?_) (fun h8 => hfin _ ?_)⟩) (fun h7 => ⟨hin, hB, hB, hR, cond_of (fun h8 => hfin _ ?_) (fun h8 => hfin _ ?_)⟩)⟩
    · simp at h7 h8; omega
    · unfold insS; rw [if_pos (by simpa using h7)]
    · unfold insS; rw [if_neg (by simpa using h7), if_pos (by simpa using h8)]
    · unfold insS; rw [if_neg (by simpa using h7), if_neg (by simpa using h8)]
  · have hge : i = a := by have : ¬ i < a := by simpa using h
                           omega
    subst hge
    have hp2 := hpre i.toNat (by omega)
    refine ⟨⟨by omega, by simpa using h0, by simp; omega⟩, ⟨by omega, by omega, by omega⟩, hG, l.take i.toNat, hX.take (k := i.toNat) (by omega), fun p e hv => ?_⟩
    rw [hp2] at hv
    have e1 : p = i := by have := congrArg Prod.fst hv; simp at this; omega
    have e2 : e = if ins false (l.take i.toNat) = true then 16 else 0 := congrArg Prod.snd hv
    rw [← hb] at e2
    subst e1
    cases b with
    | true =>
      have e2 : e = 16 := e2
      rw [e2, beq_self_eq_true]
      exact ⟨hG, rfl⟩
    | false =>
      have e2 : e = 0 := e2
      rw [e2, beq_self_eq_true]
      exact ⟨hG, rfl⟩
set_option maxRecDepth 100000 in
theorem law6 {W : World} (hG : Gl0 (fun _ => False) W) {v0 : Value} (q : ArgL W v0) : Calls Tryd.prog 6 #[v0] W (fun e W' => e = .returned (.bool true) ∧ Below W.heap.size W W') := by
  obtain ⟨l, B, c, As, cs, rfl, _, hcap, hX, hrows⟩ := q
  obtain ⟨p0, e0, hv0⟩ : ∃ p e, valid l = (p, e) := ⟨_, _, rfl⟩
  refine law_of (Γ12_ok _ W) (f := 6) (args := [cmdsV B (fun j => l.getD j z33) As cs l.length c]) _ 100 5 (by decide) (f6 _ W B (fun j => l.getD j z33) As cs l.length c (fun i p e => 0 ≤ i ∧ i ≤ p ∧ p = p0 ∧ e = e0) _ ?_)
  refine ⟨hG, l, hX, fun p e hv => ?_⟩
  rw [hv0] at hv
  cases hv
  refine cond_of (fun he => ?_) (fun he => ?_)
  · have he : e0 = 0 := by simpa using he
    subst he
    have hlen : ¬ l.length > 256 := fun hh => by
      unfold valid at hv0
      rw [if_pos hh] at hv0
      have := congrArg Prod.snd hv0
      simp at this
    unfold valid at hv0
    rw [if_neg hlen] at hv0
    obtain ⟨hi, _⟩ := val_pre _ l 0 s0 p0 hv0
    rw [hi, beq_self_eq_true]
    exact ⟨hG, rfl⟩
  · have he : e0 ≠ 0 := by simpa using he
    refine cond_of (fun h => ?_) (fun h => ?_)
    · have h : l.length > 256 := Int.ofNat_lt.1 (by simpa using h)
      unfold valid at hv0
      rw [if_pos h] at hv0
      cases hv0
      exact ⟨hG, rfl⟩
    · have h : ¬ l.length > 256 := Nat.not_lt.2 (Int.ofNat_le.1 (by simpa using h))
      unfold valid at hv0
      rw [if_neg h] at hv0
      have hcase := val_err _ l 0 s0 p0 e0 hv0 he (by omega)
      have hrange : 0 ≤ p0 ∧ p0 ≤ l.length := by rcases hcase with ⟨h1, _⟩ | ⟨h1, h2, _⟩ <;> omega
      have hchk : ∀ j : Nat, (j : Int) < p0 → chk (l.getD j z33) = 0 := fun j hj => by
        rcases hcase with ⟨h1, _, h3⟩ | ⟨_, _, h3, _⟩
        · exact h3 j (by omega)
        · exact h3 j (by omega)
      refine cond_of (fun hh => by simp at hh; omega) (fun _ => cond_of (fun hh => by simp at hh; omega) (fun _ => ?_))
      refine ⟨fun _ _ => Nat.zero_le _, ⟨⟨by omega, by omega, rfl, rfl⟩, rfl, fun _ => rfl⟩, ?_⟩
      rintro ⟨i, p, e⟩ J ⟨i0, i1, rfl, rfl⟩
      dsimp only
      refine cond_of (fun hh => ?_) (fun hh => ?_)
      · have hlt : i < p := by simpa using hh
        obtain ⟨hB, hR, hL, hI⟩ := hrows i.toNat (by omega)
        simp only [Nat.zero_add]
        refine ⟨⟨i0, by omega⟩, hB, hR, hG, l.getD i.toNat z33, ⟨hL, As i.toNat, cs i.toNat, fun _ => rfl, hI⟩, ?_⟩
        rw [hchk i.toNat (by omega), wrap_in (by omega) (by omega)]
        exact ⟨⟨⟨by omega, by omega, rfl, rfl⟩, rfl, fun _ => rfl⟩, ⟨by show (_ : Int).toNat < (_ : Int).toNat; omega⟩⟩
      · refine cond_of (fun hn => ?_) (fun hn => ?_)
        · have hn : p = l.length := by simpa using hn
          rcases hcase with ⟨_, h2, _⟩ | ⟨_, h2, _⟩
          · rw [h2]; exact ⟨hG, rfl⟩
          · omega
        · have hn : p ≠ l.length := by simpa using hn
          rcases hcase with ⟨h1, _⟩ | ⟨_, h2, _, h4⟩
          · omega
          · rw [wrap_in (by omega) (by omega)]
            have hk : (p + 1).toNat = p.toNat + 1 := by omega
            have hv1 : valid (l.take (p + 1).toNat) = (p, e) := by
              unfold valid
              rw [List.length_take, Nat.min_eq_left (by omega), if_neg (by omega), hk]
              have := h4 ((p.toNat + 1 : Nat) : Int)
              rwa [Int.sub_zero] at this
            refine ⟨⟨by omega, by simp; omega, by simp; omega⟩, ⟨by omega, by omega, by omega⟩, hG, l.take (p + 1).toNat, hX.take (k := (p + 1).toNat) (by omega), fun p' e' hv => ?_⟩
            rw [hv1] at hv
            cases hv
            rw [beq_self_eq_true, beq_self_eq_true]
            exact ⟨hG, rfl⟩
--SHOW
end Go.Proofs.YtcompmidgfkloaaDoor.Cm
