/- Line, of the reference: its contract. -/
import Derived.Test.YtfhckpfiegenaaaGreatDoorCm18
namespace Go.Proofs.YtfhckpfiegenaaaGreatDoor.Tr
open Go Go.RowKit Go.Proofs.YtfhckpfiegenaaaGreatDoor.Eng Go.Proofs.YtfhckpfiegenaaaGreatDoor.Cm
set_option linter.unusedVariables false
set_option linter.unusedSimpArgs false
set_option maxRecDepth 8000
structure LnS where
  i : Int
  s : ByteArray
def I8 (xs : List ByteArray) (R : LnS → Prop) : LInv where
  σ := LnS
  pre := fun ⟨i, s⟩ => R ⟨i, s⟩
  mem := fun _ => [listOf xs]
  tmp := fun ⟨i, s⟩ J => [jV (J 0), jV (J 1), jV (J 2), jV (J 3), jV (J 4), tV s, .v (.c (.lst 0)), iV i, jV (J 8), jV (J 9), jV (J 10), jV (J 11), jV (J 12), jV (J 13), jV (J 14), jV (J 15), jV (J 16), jV (J 17), jV (J 18), jV (J 19), jV (J 20), jV (J 21), jV (J 22), jV (J 23), jV (J 24), jV (J 25), jV (J 26), jV (J 27), jV (J 28), jV (J 29), jV (J 30), jV (J 31)]
  read := fun _ _ => ⟨0, ⟨#[]⟩⟩
  junk := [0, 1, 2, 3, 4, 8, 9, 10, 11, 12, 13, 14, 15, 16, 17, 18, 19, 20, 21, 22, 23, 24, 25, 26, 27, 28, 29, 30, 31]
  μ := fun ⟨i, s⟩ => (xs.length - i).toNat
  keep := some fun M ts => [Kl 9 1 6 ts]
  ex := true
def gFl1 (xs : List ByteArray) : EntF := fun O w0 args M k => match args with
  | [a] => GlT O w0 ∧ ∃ x, CmdX O w0 a x ∧ chk x = 0 ∧ FlIs x xs ∧ k (.v (.c (.lst M.length))) (M ++ [listOf xs])
  | _ => False
def gNmR : EntF := fun _ _ args M k => match args with
  | [.v (.c (.val (.int .i64 n)))] => I64 n ∧ ∀ r, r = nmS n → k (tV r) M
  | _ => False
set_option maxHeartbeats 4000000 in
set_option maxRecDepth 100000 in
theorem f24 (O : Nat → Prop) (w0 : World) (n : Int) (K : SX → Prop) (h_ : bif decide (n < (1 : Int)) then K (SX.v (SV.c (SC.val (Value.string (ByteArray.mk #[(63 : UInt8)]))))) else bif decide (n > (14 : Int)) then K (SX.v (SV.c (SC.val (Value.string (ByteArray.mk #[(63 : UInt8)]))))) else bif decide (IntKind.wrap IntKind.i64 (n - (1 : Int)) = (↑(0 : Nat) : Int)) then K (SX.v (SV.c (SC.val (Value.string (ByteArray.mk #[(98 : UInt8), (105 : UInt8), (110 : UInt8), (100 : UInt8), (45 : UInt8), (112 : UInt8), (105 : UInt8), (112 : UInt8), (101 : UInt8), (108 : UInt8), (105 : UInt8), (110 : UInt8), (101 : UInt8)]))))) else bif decide (IntKind.wrap IntKind.i64 (n - (1 : Int)) = (↑((0 : Nat) + (1 : Nat)) : Int)) then K (SX.v (SV.c (SC.val (Value.string (ByteArray.mk #[(98 : UInt8), (105 : UInt8), (110 : UInt8), (100 : UInt8), (45 : UInt8), (118 : UInt8), (101 : UInt8), (114 : UInt8), (116 : UInt8), (101 : UInt8), (120 : UInt8)]))))) else bif decide (IntKind.wrap IntKind.i64 (n - (1 : Int)) = (↑((0 : Nat) + (1 : Nat) + (1 : Nat)) : Int)) then K (SX.v (SV.c (SC.val (Value.string (ByteArray.mk #[(98 : UInt8), (105 : UInt8), (110 : UInt8), (100 : UInt8), (45 : UInt8), (105 : UInt8), (110 : UInt8), (100 : UInt8), (101 : UInt8), (120 : UInt8)]))))) else bif decide (IntKind.wrap IntKind.i64 (n - (1 : Int)) = (↑((0 : Nat) + (1 : Nat) + (1 : Nat) + (1 : Nat)) : Int)) then K (SX.v (SV.c (SC.val (Value.string (ByteArray.mk #[(98 : UInt8), (105 : UInt8), (110 : UInt8), (100 : UInt8), (45 : UInt8), (116 : UInt8), (101 : UInt8), (120 : UInt8), (116 : UInt8), (117 : UInt8), (114 : UInt8), (101 : UInt8)]))))) else bif decide (IntKind.wrap IntKind.i64 (n - (1 : Int)) = (↑((0 : Nat) + (1 : Nat) + (1 : Nat) + (1 : Nat) + (1 : Nat)) : Int)) then K (SX.v (SV.c (SC.val (Value.string (ByteArray.mk #[(98 : UInt8), (105 : UInt8), (110 : UInt8), (100 : UInt8), (45 : UInt8), (98 : UInt8), (117 : UInt8), (102 : UInt8), (102 : UInt8), (101 : UInt8), (114 : UInt8)]))))) else bif decide (IntKind.wrap IntKind.i64 (n - (1 : Int)) = (↑((0 : Nat) + (1 : Nat) + (1 : Nat) + (1 : Nat) + (1 : Nat) + (1 : Nat)) : Int)) then K (SX.v (SV.c (SC.val (Value.string (ByteArray.mk #[(115 : UInt8), (101 : UInt8), (116 : UInt8), (45 : UInt8), (117 : UInt8), (110 : UInt8), (105 : UInt8), (102 : UInt8), (111 : UInt8), (114 : UInt8), (109 : UInt8), (115 : UInt8)]))))) else bif decide (IntKind.wrap IntKind.i64 (n - (1 : Int)) = (↑((0 : Nat) + (1 : Nat) + (1 : Nat) + (1 : Nat) + (1 : Nat) + (1 : Nat) + (1 : Nat)) : Int)) then K (SX.v (SV.c (SC.val (Value.string (ByteArray.mk #[(98 : UInt8), (101 : UInt8), (103 : UInt8), (105 : UInt8), (110 : UInt8), (45 : UInt8), (112 : UInt8), (97 : UInt8), (115 : UInt8), (115 : UInt8)]))))) else bif decide (IntKind.wrap IntKind.i64 (n - (1 : Int)) = (↑((0 : Nat) + (1 : Nat) + (1 : Nat) + (1 : Nat) + (1 : Nat) + (1 : Nat) + (1 : Nat) + (1 : Nat)) : Int)) then K (SX.v (SV.c (SC.val (Value.string (ByteArray.mk #[(101 : UInt8), (110 : UInt8), (100 : UInt8), (45 : UInt8), (112 : UInt8), (97 : UInt8), (115 : UInt8), (115 : UInt8)]))))) else bif decide (IntKind.wrap IntKind.i64 (n - (1 : Int)) = (↑((0 : Nat) + (1 : Nat) + (1 : Nat) + (1 : Nat) + (1 : Nat) + (1 : Nat) + (1 : Nat) + (1 : Nat) + (1 : Nat)) : Int)) then K (SX.v (SV.c (SC.val (Value.string (ByteArray.mk #[(100 : UInt8), (114 : UInt8), (97 : UInt8), (119 : UInt8)]))))) else bif decide (IntKind.wrap IntKind.i64 (n - (1 : Int)) = (↑((0 : Nat) + (1 : Nat) + (1 : Nat) + (1 : Nat) + (1 : Nat) + (1 : Nat) + (1 : Nat) + (1 : Nat) + (1 : Nat) + (1 : Nat)) : Int)) then K (SX.v (SV.c (SC.val (Value.string (ByteArray.mk #[(98 : UInt8), (97 : UInt8), (114 : UInt8), (114 : UInt8), (105 : UInt8), (101 : UInt8), (114 : UInt8)]))))) else bif decide (IntKind.wrap IntKind.i64 (n - (1 : Int)) = (↑((0 : Nat) + (1 : Nat) + (1 : Nat) + (1 : Nat) + (1 : Nat) + (1 : Nat) + (1 : Nat) + (1 : Nat) + (1 : Nat) + (1 : Nat) + (1 : Nat)) : Int)) then K (SX.v (SV.c (SC.val (Value.string (ByteArray.mk #[(98 : UInt8), (101 : UInt8), (103 : UInt8), (105 : UInt8), (110 : UInt8), (45 : UInt8), (113 : UInt8), (117 : UInt8), (101 : UInt8), (114 : UInt8), (121 : UInt8)]))))) else bif decide (IntKind.wrap IntKind.i64 (n - (1 : Int)) = (↑((0 : Nat) + (1 : Nat) + (1 : Nat) + (1 : Nat) + (1 : Nat) + (1 : Nat) + (1 : Nat) + (1 : Nat) + (1 : Nat) + (1 : Nat) + (1 : Nat) + (1 : Nat)) : Int)) then K (SX.v (SV.c (SC.val (Value.string (ByteArray.mk #[(101 : UInt8), (110 : UInt8), (100 : UInt8), (45 : UInt8), (113 : UInt8), (117 : UInt8), (101 : UInt8), (114 : UInt8), (121 : UInt8)]))))) else bif decide (IntKind.wrap IntKind.i64 (n - (1 : Int)) = (↑((0 : Nat) + (1 : Nat) + (1 : Nat) + (1 : Nat) + (1 : Nat) + (1 : Nat) + (1 : Nat) + (1 : Nat) + (1 : Nat) + (1 : Nat) + (1 : Nat) + (1 : Nat) + (1 : Nat)) : Int)) then K (SX.v (SV.c (SC.val (Value.string (ByteArray.mk #[(99 : UInt8), (111 : UInt8), (112 : UInt8), (121 : UInt8), (45 : UInt8), (116 : UInt8), (111 : UInt8), (45 : UInt8), (105 : UInt8), (109 : UInt8), (97 : UInt8), (103 : UInt8), (101 : UInt8)]))))) else bif decide (IntKind.wrap IntKind.i64 (n - (1 : Int)) = (↑((0 : Nat) + (1 : Nat) + (1 : Nat) + (1 : Nat) + (1 : Nat) + (1 : Nat) + (1 : Nat) + (1 : Nat) + (1 : Nat) + (1 : Nat) + (1 : Nat) + (1 : Nat) + (1 : Nat) + (1 : Nat)) : Int)) then K (SX.v (SV.c (SC.val (Value.string (ByteArray.mk #[(114 : UInt8), (101 : UInt8), (115 : UInt8), (111 : UInt8), (108 : UInt8), (118 : UInt8), (101 : UInt8)]))))) else False) : evFn Tryz.prog O w0 ((fun _ _ _ => none : TabF) O w0) Λn 100 5 24 [iV n] [] (fun y _ => K y) := vc_of h_ (by kernel_rfl)
def Γ8 (xs : List ByteArray) : TabF := addF (addF Γ6 25 (gFl1 xs)) 24 gNmR
set_option maxHeartbeats 4000000 in
set_option maxRecDepth 100000 in
theorem f8 (O : Nat → Prop) (w0 : World) (x : S33) (A : Option Addr) (c : Nat) (xs : List ByteArray) (R : LnS → Prop) (K : SX → Prop) (h_ : ∃ c_1, CmdX O w0 (SX.v (SV.agg [SC.val (Value.int IntKind.i64 (S33.f0 x)), SC.val (Value.int IntKind.i64 (S33.f1 x)), SC.val (Value.int IntKind.i64 (S33.f2 x)), SC.val (Value.int IntKind.i64 (S33.f3 x)), SC.val (Value.int IntKind.i64 (S33.f4 x)), SC.val (Value.int IntKind.i64 (S33.f5 x)), SC.val (Value.int IntKind.i64 (S33.f6 x)), SC.val (Value.int IntKind.i64 (S33.f7 x)), SC.val (Value.int IntKind.i64 (S30.f0 (S33.f8 x))), SC.val (Value.int IntKind.i64 (S30.f1 (S33.f8 x))), SC.val (Value.int IntKind.i64 (S30.f2 (S33.f8 x))), SC.val (Value.int IntKind.i64 (S30.f3 (S33.f8 x))), SC.val (Value.int IntKind.i64 (S30.f4 (S33.f8 x))), SC.val (Value.int IntKind.i64 (S28.f0 (S30.f5 (S33.f8 x)))), SC.val (Value.int IntKind.i64 (S28.f1 (S30.f5 (S33.f8 x)))), SC.val (Value.int IntKind.i64 (S28.f2 (S30.f5 (S33.f8 x)))), SC.val (Value.int IntKind.i64 (S28.f3 (S30.f5 (S33.f8 x)))), SC.val (Value.int IntKind.i64 (S30.f6 (S33.f8 x))), SC.val (Value.int IntKind.i64 (S30.f7 (S33.f8 x))), SC.val (Value.int IntKind.i64 (S30.f8 (S33.f8 x))), SC.rsl A (1 : Nat) (ints (S33.f9 x)) (0 : Nat) (List.length (S33.f9 x)) c, SC.val (Value.int IntKind.i64 (S28.f0 (S33.f10 x))), SC.val (Value.int IntKind.i64 (S28.f1 (S33.f10 x))), SC.val (Value.int IntKind.i64 (S28.f2 (S33.f10 x))), SC.val (Value.int IntKind.i64 (S28.f3 (S33.f10 x))), SC.val (Value.int IntKind.i64 (S33.f11 x)), SC.val (Value.int IntKind.i64 (S33.f12 x)), SC.val (Value.bool (S33.f13 x))])) c_1 ∧ bif chk c_1 != (0 : Int) then K (SX.tup [SV.c (SC.val (Value.string (ByteArray.mk #[]))), SV.c (SC.val (Value.int IntKind.i64 (chk c_1)))]) else I64 (S33.f0 x) ∧ ∀ (r : ByteArray), r = nmS (S33.f0 x) → GlT O w0 ∧ ∃ x_1, CmdX O w0 (SX.v (SV.agg [SC.val (Value.int IntKind.i64 (S33.f0 x)), SC.val (Value.int IntKind.i64 (S33.f1 x)), SC.val (Value.int IntKind.i64 (S33.f2 x)), SC.val (Value.int IntKind.i64 (S33.f3 x)), SC.val (Value.int IntKind.i64 (S33.f4 x)), SC.val (Value.int IntKind.i64 (S33.f5 x)), SC.val (Value.int IntKind.i64 (S33.f6 x)), SC.val (Value.int IntKind.i64 (S33.f7 x)), SC.val (Value.int IntKind.i64 (S30.f0 (S33.f8 x))), SC.val (Value.int IntKind.i64 (S30.f1 (S33.f8 x))), SC.val (Value.int IntKind.i64 (S30.f2 (S33.f8 x))), SC.val (Value.int IntKind.i64 (S30.f3 (S33.f8 x))), SC.val (Value.int IntKind.i64 (S30.f4 (S33.f8 x))), SC.val (Value.int IntKind.i64 (S28.f0 (S30.f5 (S33.f8 x)))), SC.val (Value.int IntKind.i64 (S28.f1 (S30.f5 (S33.f8 x)))), SC.val (Value.int IntKind.i64 (S28.f2 (S30.f5 (S33.f8 x)))), SC.val (Value.int IntKind.i64 (S28.f3 (S30.f5 (S33.f8 x)))), SC.val (Value.int IntKind.i64 (S30.f6 (S33.f8 x))), SC.val (Value.int IntKind.i64 (S30.f7 (S33.f8 x))), SC.val (Value.int IntKind.i64 (S30.f8 (S33.f8 x))), SC.rsl A (1 : Nat) (ints (S33.f9 x)) (0 : Nat) (List.length (S33.f9 x)) c, SC.val (Value.int IntKind.i64 (S28.f0 (S33.f10 x))), SC.val (Value.int IntKind.i64 (S28.f1 (S33.f10 x))), SC.val (Value.int IntKind.i64 (S28.f2 (S33.f10 x))), SC.val (Value.int IntKind.i64 (S28.f3 (S33.f10 x))), SC.val (Value.int IntKind.i64 (S33.f11 x)), SC.val (Value.int IntKind.i64 (S33.f12 x)), SC.val (Value.bool (S33.f13 x))])) x_1 ∧ chk x_1 = (0 : Int) ∧ FlIs x_1 xs ∧ (∀ (s : LnS), LInv.pre (I8 xs R) s → Nat.le (0 : Nat) (List.length (LInv.mem (I8 xs R) s))) ∧ (FitE (I8 xs R) [Blk.lst (nat_lit 9) (1 : Nat) (List.length xs) (strsAt xs)] (fun J ↦ [jV (J 0), jV (J 1), jV (J 2), jV (J 3), jV (J 4), SX.v (SV.c (SC.val (Value.string r))), SX.v (SV.c (SC.lst 0)), SX.v (SV.c (SC.val (Value.int IntKind.i64 0))), jV (J 8), jV (J 9), jV (J 10), jV (J 11), jV (J 12), jV (J 13), jV (J 14), jV (J 15), jV (J 16), jV (J 17), jV (J 18), jV (J 19), jV (J 20), jV (J 21), jV (J 22), jV (J 23), jV (J 24), jV (J 25), jV (J 26), jV (J 27), jV (J 28), jV (J 29), jV (J 30), jV (J 31)]) fun x ↦ True) ∧ ∀ (s : LnS) (J : Nat → Value), LInv.pre (I8 xs R) s → bif decide (s.1 < (↑(List.length xs) : Int)) then Cat (ByteArray.size s.2) (1 : Nat) ∧ In s.1 (↑(List.length xs) : Int) ∧ In (↑(Int.toNat s.1) : Int) (↑(List.length xs) : Int) ∧ Cat (ByteArray.size (s.2 ++ ByteArray.mk #[(32 : UInt8)])) (ByteArray.size (List.getD xs (Int.toNat s.1) (ByteArray.mk #[(63 : UInt8)]))) ∧ FitE (I8 xs R) [Blk.lst (nat_lit 9) (1 : Nat) (List.length xs) (strsAt xs)] (fun J ↦ [jV (J 0), jV (J 1), jV (J 2), jV (J 3), jV (J 4), SX.v (SV.c (SC.val (Value.string (s.2 ++ ByteArray.mk #[(32 : UInt8)] ++ List.getD xs (Int.toNat s.1) (ByteArray.mk #[(63 : UInt8)]))))), SX.v (SV.c (SC.lst 0)), SX.v (SV.c (SC.val (Value.int IntKind.i64 (IntKind.wrap IntKind.i64 (s.1 + (1 : Int)))))), jV (J 8), jV (J 9), jV (J 10), jV (J 11), jV (J 12), jV (J 13), jV (J 14), jV (J 15), jV (J 16), jV (J 17), jV (J 18), jV (J 19), jV (J 20), jV (J 21), jV (J 22), jV (J 23), jV (J 24), jV (J 25), jV (J 26), jV (J 27), jV (J 28), jV (J 29), jV (J 30), jV (J 31)]) fun s' ↦ LInv.μ (I8 xs R) s' < LInv.μ (I8 xs R) s else K (SX.tup [SV.c (SC.val (Value.string s.2)), SV.c (SC.val (Value.int IntKind.i64 0))])) : evFn Tryz.prog O w0 (Γ8 xs O w0) (Λof 8 (I8 xs R)) 100 5 8 [cmdV x A c] [] (fun y _ => K y) := vc_of h_ (by kernel_rfl)
--HIDE
theorem e24 (O : Nat → Prop) (w0 : World) : Entry Tryz.prog O w0 24 (gNmR O w0) :=
  Entry.pure (Γ := fun _ _ _ => none) (TSF.none _) 100 5 (g := gNmR) (fun O w0 args M k hg => by
    unfold gNmR at hg
    split at hg
    case h_2 => exact hg.elim
    rename_i n
    obtain ⟨⟨i0, i1⟩, hk⟩ := hg
    refine ⟨_, _, rfl, hk _ rfl, fun _ => rfl, fun w hw => ⟨Λn, @f24 _ w n _ ?_⟩⟩
    unfold nmS
    refine cond_of (fun h => by rw [if_pos (.inl (of_decide_eq_true h))]) (fun h => cond_of (fun h2 => by rw [if_pos (.inr (of_decide_eq_true h2))]) (fun h2 => ?_))
    have h := of_decide_eq_false h
    have h2 := of_decide_eq_false h2
    rw [if_neg (by omega), wrap_in (show -9223372036854775808 ≤ n - 1 by omega) (by omega)]
    refine cond_of (fun q => by
      have q := of_decide_eq_true q
      have q : n = 1 := by omega
      subst q; rfl) (fun q => ?_)
    have q0 := of_decide_eq_false q
    refine cond_of (fun q => by
      have q := of_decide_eq_true q
      have q : n = 2 := by omega
      subst q; rfl) (fun q => ?_)
    have q1 := of_decide_eq_false q
    refine cond_of (fun q => by
      have q := of_decide_eq_true q
      have q : n = 3 := by omega
      subst q; rfl) (fun q => ?_)
    have q2 := of_decide_eq_false q
    refine cond_of (fun q => by
      have q := of_decide_eq_true q
      have q : n = 4 := by omega
      subst q; rfl) (fun q => ?_)
    have q3 := of_decide_eq_false q
    refine cond_of (fun q => by
      have q := of_decide_eq_true q
      have q : n = 5 := by omega
      subst q; rfl) (fun q => ?_)
    have q4 := of_decide_eq_false q
    refine cond_of (fun q => by
      have q := of_decide_eq_true q
      have q : n = 6 := by omega
      subst q; rfl) (fun q => ?_)
    have q5 := of_decide_eq_false q
    refine cond_of (fun q => by
      have q := of_decide_eq_true q
      have q : n = 7 := by omega
      subst q; rfl) (fun q => ?_)
    have q6 := of_decide_eq_false q
    refine cond_of (fun q => by
      have q := of_decide_eq_true q
      have q : n = 8 := by omega
      subst q; rfl) (fun q => ?_)
    have q7 := of_decide_eq_false q
    refine cond_of (fun q => by
      have q := of_decide_eq_true q
      have q : n = 9 := by omega
      subst q; rfl) (fun q => ?_)
    have q8 := of_decide_eq_false q
    refine cond_of (fun q => by
      have q := of_decide_eq_true q
      have q : n = 10 := by omega
      subst q; rfl) (fun q => ?_)
    have q9 := of_decide_eq_false q
    refine cond_of (fun q => by
      have q := of_decide_eq_true q
      have q : n = 11 := by omega
      subst q; rfl) (fun q => ?_)
    have q10 := of_decide_eq_false q
    refine cond_of (fun q => by
      have q := of_decide_eq_true q
      have q : n = 12 := by omega
      subst q; rfl) (fun q => ?_)
    have q11 := of_decide_eq_false q
    refine cond_of (fun q => by
      have q := of_decide_eq_true q
      have q : n = 13 := by omega
      subst q; rfl) (fun q => ?_)
    have q12 := of_decide_eq_false q
    refine cond_of (fun q => by
      have q := of_decide_eq_true q
      have q : n = 14 := by omega
      subst q; rfl) (fun q => ?_)
    have q13 := of_decide_eq_false q
    exact absurd trivial (fun _ => by omega)) O w0
theorem SzOk.fi {vs : List Int} (hv : ∀ v ∈ vs, I64 v) : SzOk (vs.map fiS) := ⟨fun s hs => fi_sizes hv s hs⟩
theorem SzOk.apps {xs ys : List ByteArray} (h : SzOk xs) (h2 : SzOk ys) : SzOk (xs ++ ys) := ⟨fun s hs => by
  rcases List.mem_append.1 hs with h1 | h1
  · exact h.at_ s h1
  · exact h2.at_ s h1⟩
theorem SzOk.nil : SzOk [] := ⟨fun s hs => by cases hs⟩
theorem fp_size {x : S33} (hc : chk x = 0) : SzOk (fieldsP x) ∧ (fieldsP x).length ≤ 100 := by
  have h : ¬ (x.f0 < 1 ∨ x.f0 > 14) := fun h => by unfold chk at hc; rw [if_pos h] at hc; cases hc
  have hF := vals_len hc
  have hr := rng_of hc
  have hu := used_id hc
  rcases kinds2 h with hk | hk | hk | hk | hk | hk | hk | hk | hk | hk | hk | hk | hk | hk
  · rw [hk] at hr hu
    simp [usedK, z33] at hu
    unfold rangeK at hr
    simp [inB, smpB, filB, colB] at hr
    unfold fieldsP
    rw [hk]
    refine ⟨(SzOk.fi (vs := [x.f2]) (fun v hv => by
      simp only [List.mem_cons, List.not_mem_nil, or_false] at hv
      exact ⟨by omega, by omega⟩) : SzOk ([x.f2].map fiS)), ?_⟩
    exact Nat.le_of_ble_eq_true rfl
  · rw [hk] at hr hu
    simp [usedK, z33] at hu
    unfold rangeK at hr
    simp [inB, smpB, filB, colB] at hr
    unfold fieldsP
    rw [hk]
    refine ⟨(SzOk.fi (vs := [x.f1, x.f2]) (fun v hv => by
      simp only [List.mem_cons, List.not_mem_nil, or_false] at hv
      exact ⟨by omega, by omega⟩) : SzOk ([x.f1, x.f2].map fiS)), ?_⟩
    exact Nat.le_of_ble_eq_true rfl
  · rw [hk] at hr hu
    simp [usedK, z33] at hu
    unfold rangeK at hr
    simp [inB, smpB, filB, colB] at hr
    unfold fieldsP
    rw [hk]
    refine ⟨((SzOk.fi (vs := [x.f2]) (fun v hv => by
      simp only [List.mem_cons, List.not_mem_nil, or_false] at hv
      exact ⟨by omega, by omega⟩)).app1 (wOf_size ix_ok x.f5) : SzOk ([x.f2].map fiS ++ [wOf ixTab x.f5])), ?_⟩
    exact Nat.le_of_ble_eq_true rfl
  · rw [hk] at hr hu
    simp [usedK, z33] at hu
    unfold rangeK at hr
    simp [inB, smpB, filB, colB] at hr
    unfold fieldsP
    rw [hk]
    refine ⟨(SzOk.fi (vs := [x.f1, x.f2, x.f8.f0, x.f8.f1, x.f8.f2, x.f8.f3, x.f8.f4, x.f8.f5.f0, x.f8.f5.f1, x.f8.f5.f2, x.f8.f5.f3, x.f8.f6, x.f8.f7, x.f8.f8]) (fun v hv => by
      simp only [List.mem_cons, List.not_mem_nil, or_false] at hv
      exact ⟨by omega, by omega⟩) : SzOk ([x.f1, x.f2, x.f8.f0, x.f8.f1, x.f8.f2, x.f8.f3, x.f8.f4, x.f8.f5.f0, x.f8.f5.f1, x.f8.f5.f2, x.f8.f5.f3, x.f8.f6, x.f8.f7, x.f8.f8].map fiS)), ?_⟩
    exact Nat.le_of_ble_eq_true rfl
  · rw [hk] at hr hu
    simp [usedK, z33] at hu
    unfold rangeK at hr
    simp [inB, smpB, filB, colB] at hr
    unfold fieldsP
    rw [hk]
    refine ⟨(SzOk.fi (vs := [x.f1, x.f2]) (fun v hv => by
      simp only [List.mem_cons, List.not_mem_nil, or_false] at hv
      exact ⟨by omega, by omega⟩) : SzOk ([x.f1, x.f2].map fiS)), ?_⟩
    exact Nat.le_of_ble_eq_true rfl
  · rw [hk] at hr hu
    simp [usedK, z33] at hu
    unfold fieldsP
    rw [hk]
    have hr : uniM x = true := hr
    unfold uniM at hr
    simp only [Bool.and_eq_true, decide_eq_true_eq, Bool.not_eq_true'] at hr
    obtain ⟨r1, r2, r3, r4, r5⟩ := hr
    refine ⟨(SzOk.fi (vs := x.f3 :: x.f9) (fun v hv => by
      rcases List.mem_cons.1 hv with rfl | hv
      · exact ⟨by omega, by omega⟩
      · have := List.any_eq_false.1 r5 v hv
        unfold wide at this
        simp at this
        exact ⟨by omega, by omega⟩) : SzOk ((x.f3 :: x.f9).map fiS)), ?_⟩
    show ((x.f3 :: x.f9).map fiS).length ≤ 100
    simp; omega
  · rw [hk] at hr hu
    simp [usedK, z33] at hu
    unfold rangeK at hr
    simp [inB, smpB, filB, colB] at hr
    unfold fieldsP
    rw [hk]
    cases h13 : x.f13 with
    | true =>
      refine ⟨((SzOk.fi (vs := [x.f2]) (fun v hv => by
      simp only [List.mem_cons, List.not_mem_nil, or_false] at hv
      exact ⟨by omega, by omega⟩)).app1 (show (ByteArray.mk #[108, 111, 97, 100]).size ≤ 40 by decide) : SzOk ([x.f2].map fiS ++ [⟨#[108, 111, 97, 100]⟩])), ?_⟩
      exact Nat.le_of_ble_eq_true rfl
    | false =>
      rw [h13] at hr
      simp at hr
      refine ⟨((((SzOk.fi (vs := [x.f2]) (fun v hv => by
      simp only [List.mem_cons, List.not_mem_nil, or_false] at hv
      exact ⟨by omega, by omega⟩)).app1 (show (ByteArray.mk #[99, 108, 101, 97, 114]).size ≤ 40 by decide)).apps (SzOk.fi (vs := [x.f10.f0, x.f10.f1, x.f10.f2, x.f10.f3]) (fun v hv => by
      simp only [List.mem_cons, List.not_mem_nil, or_false] at hv
      exact ⟨by omega, by omega⟩))).apps (SzOk.fi (vs := [x.f11, x.f12]) (fun v hv => by
      simp only [List.mem_cons, List.not_mem_nil, or_false] at hv
      exact ⟨by omega, by omega⟩)) : SzOk ([x.f2].map fiS ++ [⟨#[99, 108, 101, 97, 114]⟩] ++ [x.f10.f0, x.f10.f1, x.f10.f2, x.f10.f3].map fiS ++ [x.f11, x.f12].map fiS)), ?_⟩
      exact Nat.le_of_ble_eq_true rfl
  · rw [hk] at hr hu
    simp [usedK, z33] at hu
    unfold rangeK at hr
    simp [inB, smpB, filB, colB] at hr
    unfold fieldsP
    rw [hk]
    exact ⟨SzOk.nil, Nat.zero_le _⟩
  · rw [hk] at hr hu
    simp [usedK, z33] at hu
    unfold rangeK at hr
    simp [inB, smpB, filB, colB] at hr
    unfold fieldsP
    rw [hk]
    refine ⟨(SzOk.fi (vs := [x.f3, x.f4]) (fun v hv => by
      simp only [List.mem_cons, List.not_mem_nil, or_false] at hv
      exact ⟨by omega, by omega⟩) : SzOk ([x.f3, x.f4].map fiS)), ?_⟩
    exact Nat.le_of_ble_eq_true rfl
  · rw [hk] at hr hu
    simp [usedK, z33] at hu
    unfold rangeK at hr
    simp [inB, smpB, filB, colB] at hr
    unfold fieldsP
    rw [hk]
    refine ⟨(((SzOk.fi (vs := [x.f2]) (fun v hv => by
      simp only [List.mem_cons, List.not_mem_nil, or_false] at hv
      exact ⟨by omega, by omega⟩)).app1 (wOf_size st_ok x.f6)).app1 (wOf_size st_ok x.f7) : SzOk ([x.f2].map fiS ++ [wOf stTab x.f6] ++ [wOf stTab x.f7])), ?_⟩
    exact Nat.le_of_ble_eq_true rfl
  · rw [hk] at hr hu
    simp [usedK, z33] at hu
    unfold rangeK at hr
    simp [inB, smpB, filB, colB] at hr
    unfold fieldsP
    rw [hk]
    refine ⟨(SzOk.fi (vs := [x.f2]) (fun v hv => by
      simp only [List.mem_cons, List.not_mem_nil, or_false] at hv
      exact ⟨by omega, by omega⟩) : SzOk ([x.f2].map fiS)), ?_⟩
    exact Nat.le_of_ble_eq_true rfl
  · rw [hk] at hr hu
    simp [usedK, z33] at hu
    unfold rangeK at hr
    simp [inB, smpB, filB, colB] at hr
    unfold fieldsP
    rw [hk]
    refine ⟨(SzOk.fi (vs := [x.f2]) (fun v hv => by
      simp only [List.mem_cons, List.not_mem_nil, or_false] at hv
      exact ⟨by omega, by omega⟩) : SzOk ([x.f2].map fiS)), ?_⟩
    exact Nat.le_of_ble_eq_true rfl
  · rw [hk] at hr hu
    simp [usedK, z33] at hu
    unfold rangeK at hr
    simp [inB, smpB, filB, colB] at hr
    unfold fieldsP
    rw [hk]
    refine ⟨(SzOk.fi (vs := [x.f2, x.f1]) (fun v hv => by
      simp only [List.mem_cons, List.not_mem_nil, or_false] at hv
      exact ⟨by omega, by omega⟩) : SzOk ([x.f2, x.f1].map fiS)), ?_⟩
    exact Nat.le_of_ble_eq_true rfl
  · rw [hk] at hr hu
    simp [usedK, z33] at hu
    unfold rangeK at hr
    simp [inB, smpB, filB, colB] at hr
    unfold fieldsP
    rw [hk]
    refine ⟨(SzOk.fi (vs := [x.f2, x.f1]) (fun v hv => by
      simp only [List.mem_cons, List.not_mem_nil, or_false] at hv
      exact ⟨by omega, by omega⟩) : SzOk ([x.f2, x.f1].map fiS)), ?_⟩
    exact Nat.le_of_ble_eq_true rfl
theorem byt_cons (a : ByteArray) (l : List ByteArray) : byt (joinT (a :: l)) = byt a ++ (l.map fun y => 32 :: byt y).flatten := by
  rw [byt_joinT, List.map_cons, Lib.join_cons]
  congr 1
  unfold Lib.joinTail
  rw [List.map_map]; rfl
theorem joinT_snoc (a : ByteArray) (l : List ByteArray) (x : ByteArray) : joinT (a :: (l ++ [x])) = joinT (a :: l) ++ ⟨#[32]⟩ ++ x := byt_inj (by
  rw [byt_app, byt_app, byt_cons, byt_cons]
  simp [byt])
theorem wt_le {xs : List ByteArray} (h : SzOk xs) : wtS xs ≤ xs.length * 41 := wtS_le xs h.at_
theorem join_small {nm : ByteArray} {xs : List ByteArray} (hn : nm.size ≤ 40) (hz : SzOk xs) (hl : xs.length ≤ 100) (i : Nat) : (joinT (nm :: xs.take i)).size ≤ 5000 := by
  have h1 : SzOk (nm :: xs.take i) := ⟨fun t ht => by
    rcases List.mem_cons.1 ht with rfl | ht
    · exact hn
    · exact hz.at_ t (List.mem_of_mem_take ht)⟩
  have h2 := Nat.le_trans (joinT_size _) (wt_le h1)
  refine Nat.le_trans h2 ?_
  have h3 : (nm :: xs.take i).length ≤ 101 := by
    rw [List.length_cons, List.length_take]
    omega
  generalize (nm :: xs.take i).length = m at *
  omega
def R8 (nm : ByteArray) (xs : List ByteArray) : LnS → Prop := fun ⟨i, s⟩ => 0 ≤ i ∧ i ≤ xs.length ∧ s = joinT (nm :: xs.take i.toNat)
set_option maxHeartbeats 2000000 in
set_option maxRecDepth 100000 in
theorem line8 {O : Nat → Prop} {w0 : World} {x : S33} {A : Option Addr} {c : Nat} {K : SX → Prop} (hG : GlT O w0) (hC : CmdX O w0 (cmdV x A c) x) (hK : ∀ r e, LnIs x r e → K (.tup [.c (.val (.string r)), .c (.val (.int .i64 e))])) : evFn Tryz.prog O w0 (Γ8 (fieldsP x) O w0) (Λof 8 (I8 (fieldsP x) (R8 (nmS x.f0) (fieldsP x)))) 100 5 8 [cmdV x A c] [] (fun y _ => K y) := by
  refine @f8 O w0 x A c (fieldsP x) _ K ⟨x, hC, cond_of (fun hc => ?_) (fun hc => ?_)⟩
  · exact hK _ _ ⟨rfl, by rw [if_neg (by simpa using hc)]⟩
  have hc : chk x = 0 := by simpa using hc
  obtain ⟨hz, hl⟩ := fp_size hc
  have h0 : ¬ (x.f0 < 1 ∨ x.f0 > 14) := fun h => by unfold chk at hc; rw [if_pos h] at hc; cases hc
  refine ⟨⟨by omega, by omega⟩, fun r hr => ?_⟩
  subst hr
  refine ⟨hG, x, hC, hc, ⟨rfl⟩, fun _ _ => Nat.zero_le _, ⟨⟨⟨0, _⟩, ⟨Int.le_refl _, by omega, rfl⟩, ⟨⟨_, rfl, fun _ _ => rfl⟩, trivial⟩, fun _ => rfl, trivial⟩⟩, ?_⟩
  have hn := nmS_size x.f0
  have hfin : lineP x = joinT (nmS x.f0 :: fieldsP x) := rfl
  have hK2 : ∀ s, s = joinT (nmS x.f0 :: fieldsP x) → K (.tup [.c (.val (.string s)), .c (.val (.int .i64 0))]) := fun s hs => hK _ _ ⟨hc.symm, by rw [if_pos hc, hfin, hs]⟩
  clear hfin hK hc hC hG h0
  generalize nmS x.f0 = nm at *
  generalize fieldsP x = xs at *
  rintro ⟨i, s⟩ J ⟨i0, i1, hs⟩
  dsimp only
  refine cond_of (fun hi => ?_) (fun hi => ?_)
  · have hi : i < (xs.length : Int) := of_decide_eq_true hi
    have hm := getD_mem (d := ⟨#[63]⟩) (show i.toNat < xs.length by omega)
    have hx := hz.at_ _ hm
    have hss : s.size ≤ 5000 := by rw [hs]; exact join_small hn hz hl _
    rw [wrap_in (n := i + 1) (by omega) (by omega)]
    have h1 : (ByteArray.mk #[32]).size = 1 := rfl
    refine ⟨⟨by omega⟩, ⟨i0, hi⟩, ⟨by omega, by omega⟩, ⟨by rw [app_size]; omega⟩, ⟨⟨⟨i + 1, _⟩, ⟨by omega, by omega, ?_⟩, ⟨⟨_, rfl, fun _ _ => rfl⟩, trivial⟩, fun _ => rfl, by show (_ : Int).toNat < (_ : Int).toNat; omega⟩⟩⟩
    rw [show (i + 1).toNat = i.toNat + 1 by omega, List.take_succ_eq_append_getElem (show i.toNat < xs.length by omega), joinT_snoc, hs, List.getD_eq_getElem?_getD, List.getElem?_eq_getElem (show i.toNat < xs.length by omega)]; rfl
  · have hi : ¬ i < (xs.length : Int) := of_decide_eq_false hi
    rw [List.take_of_length_le (show xs.length ≤ i.toNat by omega)] at hs
    exact hK2 s hs
theorem gFl1_ok (xs : List ByteArray) (O : Nat → Prop) (w0 : World) : Entry Tryz.prog O w0 25 (gFl1 xs O w0) := fun hf args M k hg hm β w hI => by
  unfold gFl1 at hg
  split at hg
  case h_2 => exact hg.elim
  rename_i a
  obtain ⟨hG, x, hC, hc, ⟨rfl⟩, hk⟩ := hg
  exact e25 O w0 hf [a] M k ⟨hG, x, hC, hc, fun xs h => by rw [h.eq]; exact hk⟩ hm β w hI
theorem Γ8_ok (xs : List ByteArray) : TSF Tryz.prog (Γ8 xs) := (Γ6_ok.add (gFl1_ok xs)).add e24
theorem e8 (O : Nat → Prop) (w0 : World) : Entry Tryz.prog O w0 8 (gLn O w0) := fun hf args M k hg hm β w hI => by
  unfold gLn at hg
  split at hg
  case h_2 => exact hg.elim
  rename_i a
  obtain ⟨hG, x, hC, hk⟩ := hg
  refine Entry.pure (Γ8_ok (fieldsP x)) 100 5 (f := 8) (g := gLn1 x) (fun O w0 args M k hg => ?_) O w0 hf [a] M k ⟨hG, hC, hk _ _ ⟨rfl, rfl⟩⟩ hm β w hI
  unfold gLn1 at hg
  split at hg
  case h_2 => exact hg.elim
  rename_i a
  obtain ⟨hG, ⟨hx, A, c, ha, hA⟩, hk⟩ := hg
  exact ⟨_, [cmdV x A c], rfl, hk, fun β => by unfold fr; simp only [List.map_cons, ha β, List.map_nil], fun w hw => ⟨_, line8 (hG.at hw) ⟨hx, A, c, fun _ => rfl, rowsAt hA hw⟩ (fun r e hl => hl.eqs)⟩⟩
--SHOW
end Go.Proofs.YtfhckpfiegenaaaGreatDoor.Tr
