/- (renumbered from the Command chapter) Contracts of the package command and its reference: a command's fields. -/
import Derived.Test.YtfhckpfiegenaaaGreatDoorCm1
namespace Go.Proofs.YtfhckpfiegenaaaGreatDoor.Cm
open Go Go.RowKit Go.Proofs.YtfhckpfiegenaaaGreatDoor.Eng
set_option linter.unusedVariables false
set_option maxRecDepth 8000
def cells30 (x : S30) : List SC := [.val (.int .i64 x.f0), .val (.int .i64 x.f1), .val (.int .i64 x.f2), .val (.int .i64 x.f3), .val (.int .i64 x.f4), .val (.int .i64 x.f5.f0), .val (.int .i64 x.f5.f1), .val (.int .i64 x.f5.f2), .val (.int .i64 x.f5.f3), .val (.int .i64 x.f6), .val (.int .i64 x.f7), .val (.int .i64 x.f8)]
abbrev smpV (x : S30) : SX := .v (.agg (cells30 x))
abbrev cmdV (x : S33) (A : Option Addr) (c : Nat) : SX := .v (.agg (cells33 x (sC A x.f9 c)))
def inB (n lo hi : Int) : Bool := decide (n ≥ lo) && decide (n ≤ hi)
def filB (n : Int) : Bool := (n == 1) || (n == 2)
set_option maxHeartbeats 4000000 in
set_option maxRecDepth 100000 in
theorem f33 (O : Nat → Prop) (w0 : World) (a b c : Int) (K : SX → Prop) (h_ : bif decide (a ≥ b) then K (SX.v (SV.c (SC.val (Value.bool (decide (a ≤ c)))))) else K (SX.v (SV.c (SC.val (Value.bool false))))) : evFn Tryz.prog O w0 Γ0 Λn 100 5 65 [iV a, iV b, iV c] [] (fun y _ => K y) := vc_of h_ (by kernel_rfl)
set_option maxHeartbeats 4000000 in
set_option maxRecDepth 100000 in
theorem f40 (O : Nat → Prop) (w0 : World) (a b c : Int) (K : SX → Prop) (h_ : bif decide (a ≥ b) then K (SX.v (SV.c (SC.val (Value.bool (decide (a ≤ c)))))) else K (SX.v (SV.c (SC.val (Value.bool false))))) : evFn Tryz.prog O w0 Γ0 Λn 100 5 80 [iV a, iV b, iV c] [] (fun y _ => K y) := vc_of h_ (by kernel_rfl)
set_option maxHeartbeats 4000000 in
set_option maxRecDepth 100000 in
theorem f43 (O : Nat → Prop) (w0 : World) (a : Int) (K : SX → Prop) (h_ : bif decide (a ≥ (1 : Int)) then K (SX.v (SV.c (SC.val (Value.bool (decide (a ≤ (4 : Int))))))) else K (SX.v (SV.c (SC.val (Value.bool false))))) : evFn Tryz.prog O w0 Γ0 Λn 100 5 89 [iV a] [] (fun y _ => K y) := vc_of h_ (by kernel_rfl)
set_option maxHeartbeats 4000000 in
set_option maxRecDepth 100000 in
theorem f44 (O : Nat → Prop) (w0 : World) (a : Int) (K : SX → Prop) (h_ : bif a == (1 : Int) then K (SX.v (SV.c (SC.val (Value.bool true)))) else K (SX.v (SV.c (SC.val (Value.bool (a == (2 : Int))))))) : evFn Tryz.prog O w0 Γ0 Λn 100 5 90 [iV a] [] (fun y _ => K y) := vc_of h_ (by kernel_rfl)
set_option maxHeartbeats 4000000 in
set_option maxRecDepth 100000 in
theorem f45 (O : Nat → Prop) (w0 : World) (a : Int) (K : SX → Prop) (h_ : bif decide (a ≥ (0 : Int)) then K (SX.v (SV.c (SC.val (Value.bool (decide (a ≤ (65536 : Int))))))) else K (SX.v (SV.c (SC.val (Value.bool false))))) : evFn Tryz.prog O w0 Γ0 Λn 100 5 91 [iV a] [] (fun y _ => K y) := vc_of h_ (by kernel_rfl)
set_option maxHeartbeats 4000000 in
set_option maxRecDepth 100000 in
theorem f47 (O : Nat → Prop) (w0 : World) (a : Int) (K : SX → Prop) (h_ : bif a == (1 : Int) then K (SX.v (SV.c (SC.val (Value.bool true)))) else bif a == (2 : Int) then K (SX.v (SV.c (SC.val (Value.bool true)))) else bif a == (3 : Int) then K (SX.v (SV.c (SC.val (Value.bool true)))) else K (SX.v (SV.c (SC.val (Value.bool (a == (4 : Int))))))) : evFn Tryz.prog O w0 Γ0 Λn 100 5 97 [iV a] [] (fun y _ => K y) := vc_of h_ (by kernel_rfl)
set_option maxHeartbeats 4000000 in
set_option maxRecDepth 100000 in
theorem f48 (O : Nat → Prop) (w0 : World) (a : Int) (K : SX → Prop) (h_ : bif a == (1 : Int) then K (SX.v (SV.c (SC.val (Value.bool true)))) else K (SX.v (SV.c (SC.val (Value.bool (a == (2 : Int))))))) : evFn Tryz.prog O w0 Γ0 Λn 100 5 98 [iV a] [] (fun y _ => K y) := vc_of h_ (by kernel_rfl)
set_option maxHeartbeats 4000000 in
set_option maxRecDepth 100000 in
theorem f49 (O : Nat → Prop) (w0 : World) (a : Int) (K : SX → Prop) (h_ : bif decide (a ≥ (0 : Int)) then K (SX.v (SV.c (SC.val (Value.bool (decide (a ≤ (65536 : Int))))))) else K (SX.v (SV.c (SC.val (Value.bool false))))) : evFn Tryz.prog O w0 Γ0 Λn 100 5 99 [iV a] [] (fun y _ => K y) := vc_of h_ (by kernel_rfl)

def gIn : EntF := fun _ _ args M k => match args with
  | [.v (.c (.val (.int .i64 a))), .v (.c (.val (.int .i64 b))), .v (.c (.val (.int .i64 c)))] => k (bV (inB a b c)) M
  | _ => False
def gB (f : Int → Bool) : EntF := fun _ _ args M k => match args with
  | [.v (.c (.val (.int .i64 a)))] => k (bV (f a)) M
  | _ => False
def Γ2 : TabF := addF (addF (addF (addF (addF (addF (addF (addF Γ1 65 gIn) 80 gIn) 89 (gB (fun a => inB a 1 4))) 97 (gB (fun a => inB a 1 4))) 91 (gB (fun a => inB a 0 65536))) 99 (gB (fun a => inB a 0 65536))) 90 (gB filB)) 98 (gB filB)
--HIDE
theorem Entry.gB {f : FuncId} {q : Int → Bool} (h : ∀ (w : World) (a : Int), evFn Tryz.prog (fun _ => False) w Γ0 Λn 100 5 f [iV a] [] (fun y _ => y = bV (q a))) : ∀ O w0, Entry Tryz.prog O w0 f (Cm.gB q O w0) :=
  Entry.pure (TSF.none _) 100 5 (g := Cm.gB q) (fun O w0 args M k hg => by
    unfold Cm.gB at hg
    split at hg
    · rename_i a
      exact ⟨_, _, rfl, hg, fun _ => rfl, fun w _ => ⟨_, h w a⟩⟩
    · exact hg.elim)
theorem e43 (O : Nat → Prop) (w0 : World) : Entry Tryz.prog O w0 89 (gB (fun a => inB a 1 4) O w0) := Entry.gB (f := 89) (q := fun a => inB a 1 4) (fun w a => f43 _ w a _ (cond_of (fun h => by unfold inB; rw [h]; rfl) (fun h => by unfold inB; rw [h]; rfl))) O w0
theorem e45 (O : Nat → Prop) (w0 : World) : Entry Tryz.prog O w0 91 (gB (fun a => inB a 0 65536) O w0) := Entry.gB (f := 91) (q := fun a => inB a 0 65536) (fun w a => f45 _ w a _ (cond_of (fun h => by unfold inB; rw [h]; rfl) (fun h => by unfold inB; rw [h]; rfl))) O w0
theorem e49 (O : Nat → Prop) (w0 : World) : Entry Tryz.prog O w0 99 (gB (fun a => inB a 0 65536) O w0) := Entry.gB (f := 99) (q := fun a => inB a 0 65536) (fun w a => f49 _ w a _ (cond_of (fun h => by unfold inB; rw [h]; rfl) (fun h => by unfold inB; rw [h]; rfl))) O w0
theorem e44 (O : Nat → Prop) (w0 : World) : Entry Tryz.prog O w0 90 (gB (filB) O w0) := Entry.gB (f := 90) (q := filB) (fun w a => f44 _ w a _ (cond_of (fun h => by unfold filB; rw [h]; rfl) (fun h => by unfold filB; rw [h]; rfl))) O w0
theorem e48 (O : Nat → Prop) (w0 : World) : Entry Tryz.prog O w0 98 (gB (filB) O w0) := Entry.gB (f := 98) (q := filB) (fun w a => f48 _ w a _ (cond_of (fun h => by unfold filB; rw [h]; rfl) (fun h => by unfold filB; rw [h]; rfl))) O w0
theorem e47 (O : Nat → Prop) (w0 : World) : Entry Tryz.prog O w0 97 (gB (fun a => inB a 1 4) O w0) := Entry.gB (f := 97) (q := fun a => inB a 1 4) (fun w a => f47 _ w a _ (by
  refine cond_of (fun h => ?_) (fun h => cond_of (fun h2 => ?_) (fun h2 => cond_of (fun h3 => ?_) (fun h3 => ?_))) <;> (unfold inB; congr 5; rw [Bool.eq_iff_iff]; simp at *; omega))) O w0
theorem e33 (O : Nat → Prop) (w0 : World) : Entry Tryz.prog O w0 65 (gIn O w0) :=
  Entry.pure (TSF.none _) 100 5 (g := gIn) (fun O w0 args M k hg => by
    unfold gIn at hg
    split at hg
    · rename_i a b c
      exact ⟨_, _, rfl, hg, fun _ => rfl, fun w _ => ⟨_, f33 _ w a b c _ (cond_of (fun h => by unfold inB; rw [h]; rfl) (fun h => by unfold inB; rw [h]; rfl))⟩⟩
    · exact hg.elim) O w0
theorem e40 (O : Nat → Prop) (w0 : World) : Entry Tryz.prog O w0 80 (gIn O w0) :=
  Entry.pure (TSF.none _) 100 5 (g := gIn) (fun O w0 args M k hg => by
    unfold gIn at hg
    split at hg
    · rename_i a b c
      exact ⟨_, _, rfl, hg, fun _ => rfl, fun w _ => ⟨_, f40 _ w a b c _ (cond_of (fun h => by unfold inB; rw [h]; rfl) (fun h => by unfold inB; rw [h]; rfl))⟩⟩
    · exact hg.elim) O w0
theorem Γ2_ok : TSF Tryz.prog Γ2 := ((((((((Γ1_ok.add e33).add e40).add e43).add e47).add e45).add e49).add e44).add e48)
--SHOW
set_option maxHeartbeats 4000000 in
set_option maxRecDepth 100000 in
theorem f34 (O : Nat → Prop) (w0 : World) (x : S30) (K : SX → Prop) (h_ : bif inB (S30.f0 x) (1 : Int) (4 : Int) then bif inB (S30.f1 x) (1 : Int) (4 : Int) then bif filB (S30.f2 x) then bif filB (S30.f3 x) then bif filB (S30.f4 x) then bif inB (S28.f0 (S30.f5 x)) (0 : Int) (65536 : Int) then bif inB (S28.f1 (S30.f5 x)) (0 : Int) (65536 : Int) then bif inB (S28.f2 (S30.f5 x)) (0 : Int) (65536 : Int) then bif inB (S28.f3 (S30.f5 x)) (0 : Int) (65536 : Int) then bif decide (S30.f6 x ≥ (-524288 : Int)) then bif decide (S30.f6 x ≤ (524288 : Int)) then bif decide (S30.f7 x ≥ (0 : Int)) then bif decide (S30.f7 x ≤ S30.f8 x) then K (SX.v (SV.c (SC.val (Value.bool (decide (S30.f8 x ≤ (524288 : Int))))))) else K (SX.v (SV.c (SC.val (Value.bool false)))) else K (SX.v (SV.c (SC.val (Value.bool false)))) else K (SX.v (SV.c (SC.val (Value.bool false)))) else K (SX.v (SV.c (SC.val (Value.bool false)))) else K (SX.v (SV.c (SC.val (Value.bool false)))) else K (SX.v (SV.c (SC.val (Value.bool false)))) else K (SX.v (SV.c (SC.val (Value.bool false)))) else K (SX.v (SV.c (SC.val (Value.bool false)))) else K (SX.v (SV.c (SC.val (Value.bool false)))) else K (SX.v (SV.c (SC.val (Value.bool false)))) else K (SX.v (SV.c (SC.val (Value.bool false)))) else K (SX.v (SV.c (SC.val (Value.bool false)))) else K (SX.v (SV.c (SC.val (Value.bool false))))) : evFn Tryz.prog O w0 (Γ2 O w0) Λn 100 5 66 [smpV x] [] (fun y _ => K y) := vc_of h_ (by kernel_rfl)
set_option maxHeartbeats 4000000 in
set_option maxRecDepth 100000 in
theorem f41 (O : Nat → Prop) (w0 : World) (x : S30) (K : SX → Prop) (h_ : bif !inB (S30.f0 x) (1 : Int) (4 : Int) then K (SX.v (SV.c (SC.val (Value.bool false)))) else bif !inB (S30.f1 x) (1 : Int) (4 : Int) then K (SX.v (SV.c (SC.val (Value.bool false)))) else bif !filB (S30.f2 x) then K (SX.v (SV.c (SC.val (Value.bool false)))) else bif !filB (S30.f3 x) then K (SX.v (SV.c (SC.val (Value.bool false)))) else bif !filB (S30.f4 x) then K (SX.v (SV.c (SC.val (Value.bool false)))) else bif !inB (S28.f0 (S30.f5 x)) (0 : Int) (65536 : Int) then K (SX.v (SV.c (SC.val (Value.bool false)))) else bif !inB (S28.f1 (S30.f5 x)) (0 : Int) (65536 : Int) then K (SX.v (SV.c (SC.val (Value.bool false)))) else bif !inB (S28.f2 (S30.f5 x)) (0 : Int) (65536 : Int) then K (SX.v (SV.c (SC.val (Value.bool false)))) else bif !inB (S28.f3 (S30.f5 x)) (0 : Int) (65536 : Int) then K (SX.v (SV.c (SC.val (Value.bool false)))) else bif decide (S30.f6 x ≥ (-524288 : Int)) then bif decide (S30.f6 x ≤ (524288 : Int)) then bif decide (S30.f7 x ≥ (0 : Int)) then bif decide (S30.f7 x ≤ S30.f8 x) then K (SX.v (SV.c (SC.val (Value.bool (decide (S30.f8 x ≤ (524288 : Int))))))) else K (SX.v (SV.c (SC.val (Value.bool false)))) else K (SX.v (SV.c (SC.val (Value.bool false)))) else K (SX.v (SV.c (SC.val (Value.bool false)))) else K (SX.v (SV.c (SC.val (Value.bool false))))) : evFn Tryz.prog O w0 (Γ2 O w0) Λn 100 5 81 [smpV x] [] (fun y _ => K y) := vc_of h_ (by kernel_rfl)
set_option maxHeartbeats 4000000 in
set_option maxRecDepth 100000 in
theorem f17 (O : Nat → Prop) (w0 : World) (x y : S33) (A B : Option Addr) (c d : Nat) (K : SX → Prop) (h_ : bif S33.f0 x == S33.f0 y then bif S33.f1 x == S33.f1 y then bif S33.f2 x == S33.f2 y then bif S33.f3 x == S33.f3 y then bif S33.f4 x == S33.f4 y then bif S33.f5 x == S33.f5 y then bif S33.f6 x == S33.f6 y then bif S33.f7 x == S33.f7 y then bif S30.f0 (S33.f8 x) == S30.f0 (S33.f8 y) && (S30.f1 (S33.f8 x) == S30.f1 (S33.f8 y) && (S30.f2 (S33.f8 x) == S30.f2 (S33.f8 y) && (S30.f3 (S33.f8 x) == S30.f3 (S33.f8 y) && (S30.f4 (S33.f8 x) == S30.f4 (S33.f8 y) && (S28.f0 (S30.f5 (S33.f8 x)) == S28.f0 (S30.f5 (S33.f8 y)) && (S28.f1 (S30.f5 (S33.f8 x)) == S28.f1 (S30.f5 (S33.f8 y)) && (S28.f2 (S30.f5 (S33.f8 x)) == S28.f2 (S30.f5 (S33.f8 y)) && (S28.f3 (S30.f5 (S33.f8 x)) == S28.f3 (S30.f5 (S33.f8 y)) && true))) && (S30.f6 (S33.f8 x) == S30.f6 (S33.f8 y) && (S30.f7 (S33.f8 x) == S30.f7 (S33.f8 y) && (S30.f8 (S33.f8 x) == S30.f8 (S33.f8 y) && true)))))))) then ∃ l m, IntsX O w0 (SX.v (SV.c (SC.rsl A (1 : Nat) (ints (S33.f9 x)) (0 : Nat) (List.length (S33.f9 x)) c))) l ∧ IntsX O w0 (SX.v (SV.c (SC.rsl B (1 : Nat) (ints (S33.f9 y)) (0 : Nat) (List.length (S33.f9 y)) d))) m ∧ bif l == m then bif S28.f0 (S33.f10 x) == S28.f0 (S33.f10 y) && (S28.f1 (S33.f10 x) == S28.f1 (S33.f10 y) && (S28.f2 (S33.f10 x) == S28.f2 (S33.f10 y) && (S28.f3 (S33.f10 x) == S28.f3 (S33.f10 y) && true))) then bif S33.f11 x == S33.f11 y then bif S33.f12 x == S33.f12 y then K (SX.v (SV.c (SC.val (Value.bool (S33.f13 x == S33.f13 y))))) else K (SX.v (SV.c (SC.val (Value.bool false)))) else K (SX.v (SV.c (SC.val (Value.bool false)))) else K (SX.v (SV.c (SC.val (Value.bool false)))) else K (SX.v (SV.c (SC.val (Value.bool false)))) else K (SX.v (SV.c (SC.val (Value.bool false)))) else K (SX.v (SV.c (SC.val (Value.bool false)))) else K (SX.v (SV.c (SC.val (Value.bool false)))) else K (SX.v (SV.c (SC.val (Value.bool false)))) else K (SX.v (SV.c (SC.val (Value.bool false)))) else K (SX.v (SV.c (SC.val (Value.bool false)))) else K (SX.v (SV.c (SC.val (Value.bool false)))) else K (SX.v (SV.c (SC.val (Value.bool false)))) else K (SX.v (SV.c (SC.val (Value.bool false))))) : evFn Tryz.prog O w0 (Γ2 O w0) Λn 100 5 37 [cmdV x A c, cmdV y B d] [] (fun y _ => K y) := vc_of h_ (by kernel_rfl)
set_option maxHeartbeats 4000000 in
set_option maxRecDepth 100000 in
theorem f18 (O : Nat → Prop) (w0 : World) (x y : S33) (A B : Option Addr) (c d : Nat) (K : SX → Prop) (h_ : bif S33.f0 x == S33.f0 y then bif S33.f1 x == S33.f1 y then bif S33.f2 x == S33.f2 y then bif S33.f3 x == S33.f3 y then bif S33.f4 x == S33.f4 y then bif S33.f5 x == S33.f5 y then bif S33.f6 x == S33.f6 y then bif S33.f7 x == S33.f7 y then bif S30.f0 (S33.f8 x) == S30.f0 (S33.f8 y) && (S30.f1 (S33.f8 x) == S30.f1 (S33.f8 y) && (S30.f2 (S33.f8 x) == S30.f2 (S33.f8 y) && (S30.f3 (S33.f8 x) == S30.f3 (S33.f8 y) && (S30.f4 (S33.f8 x) == S30.f4 (S33.f8 y) && (S28.f0 (S30.f5 (S33.f8 x)) == S28.f0 (S30.f5 (S33.f8 y)) && (S28.f1 (S30.f5 (S33.f8 x)) == S28.f1 (S30.f5 (S33.f8 y)) && (S28.f2 (S30.f5 (S33.f8 x)) == S28.f2 (S30.f5 (S33.f8 y)) && (S28.f3 (S30.f5 (S33.f8 x)) == S28.f3 (S30.f5 (S33.f8 y)) && true))) && (S30.f6 (S33.f8 x) == S30.f6 (S33.f8 y) && (S30.f7 (S33.f8 x) == S30.f7 (S33.f8 y) && (S30.f8 (S33.f8 x) == S30.f8 (S33.f8 y) && true)))))))) then ∃ l m, IntsX O w0 (SX.v (SV.c (SC.rsl A (1 : Nat) (ints (S33.f9 x)) (0 : Nat) (List.length (S33.f9 x)) c))) l ∧ IntsX O w0 (SX.v (SV.c (SC.rsl B (1 : Nat) (ints (S33.f9 y)) (0 : Nat) (List.length (S33.f9 y)) d))) m ∧ bif l == m then bif S28.f0 (S33.f10 x) == S28.f0 (S33.f10 y) && (S28.f1 (S33.f10 x) == S28.f1 (S33.f10 y) && (S28.f2 (S33.f10 x) == S28.f2 (S33.f10 y) && (S28.f3 (S33.f10 x) == S28.f3 (S33.f10 y) && true))) then bif S33.f11 x == S33.f11 y then bif S33.f12 x == S33.f12 y then K (SX.v (SV.c (SC.val (Value.bool (S33.f13 x == S33.f13 y))))) else K (SX.v (SV.c (SC.val (Value.bool false)))) else K (SX.v (SV.c (SC.val (Value.bool false)))) else K (SX.v (SV.c (SC.val (Value.bool false)))) else K (SX.v (SV.c (SC.val (Value.bool false)))) else K (SX.v (SV.c (SC.val (Value.bool false)))) else K (SX.v (SV.c (SC.val (Value.bool false)))) else K (SX.v (SV.c (SC.val (Value.bool false)))) else K (SX.v (SV.c (SC.val (Value.bool false)))) else K (SX.v (SV.c (SC.val (Value.bool false)))) else K (SX.v (SV.c (SC.val (Value.bool false)))) else K (SX.v (SV.c (SC.val (Value.bool false)))) else K (SX.v (SV.c (SC.val (Value.bool false)))) else K (SX.v (SV.c (SC.val (Value.bool false))))) : evFn Tryz.prog O w0 (Γ2 O w0) Λn 100 5 12 [cmdV x A c, cmdV y B d] [] (fun y _ => K y) := vc_of h_ (by kernel_rfl)
def v4B (x y : S28) : Bool := x.f0 == y.f0 && (x.f1 == y.f1 && (x.f2 == y.f2 && (x.f3 == y.f3 && true)))
def sqB (x y : S30) : Bool := x.f0 == y.f0 && (x.f1 == y.f1 && (x.f2 == y.f2 && (x.f3 == y.f3 && (x.f4 == y.f4 && (v4B x.f5 y.f5 && (x.f6 == y.f6 && (x.f7 == y.f7 && (x.f8 == y.f8 && true))))))))
def eqC (x y : S33) : Bool := x.f0 == y.f0 && (x.f1 == y.f1 && (x.f2 == y.f2 && (x.f3 == y.f3 && (x.f4 == y.f4 && (x.f5 == y.f5 && (x.f6 == y.f6 && (x.f7 == y.f7 && (sqB x.f8 y.f8 && (x.f9 == y.f9 && (v4B x.f10 y.f10 && (x.f11 == y.f11 && (x.f12 == y.f12 && (x.f13 == y.f13)))))))))))))
def smpB (x : S30) : Bool := inB x.f0 1 4 && (inB x.f1 1 4 && (filB x.f2 && (filB x.f3 && (filB x.f4 && (inB x.f5.f0 0 65536 && (inB x.f5.f1 0 65536 && (inB x.f5.f2 0 65536 && (inB x.f5.f3 0 65536 && (decide (x.f6 ≥ -524288) && (decide (x.f6 ≤ 524288) && (decide (x.f7 ≥ 0) && (decide (x.f7 ≤ x.f8) && decide (x.f8 ≤ 524288)))))))))))))
def gSmp : EntF := fun _ _ args M k => match args with
  | [.v (.agg [.val (.int .i64 a0), .val (.int .i64 a1), .val (.int .i64 a2), .val (.int .i64 a3), .val (.int .i64 a4), .val (.int .i64 a5), .val (.int .i64 a6), .val (.int .i64 a7), .val (.int .i64 a8), .val (.int .i64 a9), .val (.int .i64 a10), .val (.int .i64 a11)])] => k (bV (smpB ⟨a0, a1, a2, a3, a4, ⟨a5, a6, a7, a8⟩, a9, a10, a11⟩)) M
  | _ => False
def gCmp : EntF := fun O w0 args M k => match args with
  | [a, b] => ∃ c d, CmdX O w0 a c ∧ CmdX O w0 b d ∧ k (bV (eqC c d)) M
  | _ => False
def Γ3 : TabF := addF (addF (addF (addF Γ2 66 gSmp) 81 gSmp) 37 gCmp) 12 gCmp
--HIDE
theorem chain {b c : Bool} {r : SX} (h : b = true → r = bV c) (h2 : b = false → r = bV false) : r = bV (b && c) := by cases b; exact h2 rfl; exact h rfl
theorem condK {b : Bool} {P Q : Prop} (h1 : b = true → P) (h2 : b = false → Q) : bif b then P else Q := cond_of h1 h2
set_option maxRecDepth 100000 in
theorem e34 (O : Nat → Prop) (w0 : World) : Entry Tryz.prog O w0 66 (gSmp O w0) :=
  Entry.pure Γ2_ok 100 5 (g := gSmp) (fun O w0 args M k hg => by
    unfold gSmp at hg
    split at hg
    case h_2 => exact hg.elim
    refine ⟨_, _, rfl, hg, fun _ => rfl, fun w _ => ⟨_, f34 _ w ⟨_, _, _, _, _, ⟨_, _, _, _⟩, _, _, _⟩ _ ?_⟩⟩
    unfold smpB
    repeat' (refine cond_of (fun h => ?_) (fun h => ?_))
    all_goals (simp only [*] at *; simp)) O w0
theorem not_false' {b : Bool} (h : (!b) = false) : b = true := by cases b <;> simp_all
theorem not_true' {b : Bool} (h : (!b) = true) : b = false := by cases b <;> simp_all
set_option maxRecDepth 100000 in
theorem e41 (O : Nat → Prop) (w0 : World) : Entry Tryz.prog O w0 81 (gSmp O w0) :=
  Entry.pure Γ2_ok 100 5 (g := gSmp) (fun O w0 args M k hg => by
    unfold gSmp at hg
    split at hg
    case h_2 => exact hg.elim
    refine ⟨_, _, rfl, hg, fun _ => rfl, fun w _ => ⟨_, f41 _ w ⟨_, _, _, _, _, ⟨_, _, _, _⟩, _, _, _⟩ _ ?_⟩⟩
    unfold smpB
    repeat' (refine cond_of (fun h => ?_) (fun h => ?_))
    all_goals (simp only [Bool.not_eq_true', Bool.not_eq_false'] at *; simp only [*] at *; simp)) O w0
theorem rowsAt {O : Nat → Prop} {w0 w : World} {A : Option Addr} {l : List Int} (h : ∀ j, j < l.length → A.isSome = true ∧ RowAt O w0 A 1 (ints l j) j) (hw : Fr O w0 w) : ∀ j, j < l.length → A.isSome = true ∧ RowAt (fun _ => False) w A 1 (ints l j) j := fun j hj => ⟨(h j hj).1, (h j hj).2.at hw⟩
set_option maxRecDepth 100000 in
theorem e17 (O : Nat → Prop) (w0 : World) : Entry Tryz.prog O w0 37 (gCmp O w0) :=
  Entry.pure Γ2_ok 100 5 (g := gCmp) (fun O w0 args M k hg => by
    unfold gCmp at hg
    split at hg
    case h_2 => exact hg.elim
    rename_i a b
    obtain ⟨x, y, ⟨hx, A, c, ha, hA⟩, ⟨hy, B, d, hb, hB⟩, hk⟩ := hg
    refine ⟨_, [cmdV x A c, cmdV y B d], rfl, hk, fun β => by unfold fr; simp only [List.map_cons, ha β, hb β, List.map_nil], fun w hw => ⟨_, f17 _ w x y A B c d _ ?_⟩⟩
    have hI1 : IntsX (fun _ => False) w (sV A x.f9 c) x.f9 := ⟨hx, A, c, fun _ => rfl, rowsAt hA hw⟩
    have hI2 : IntsX (fun _ => False) w (sV B y.f9 d) y.f9 := ⟨hy, B, d, fun _ => rfl, rowsAt hB hw⟩
    unfold eqC
    clear ha hb hA hB hw
    repeat' (refine cond_of (fun h => ?_) (fun h => ?_))
    · refine ⟨x.f9, y.f9, hI1, hI2, ?_⟩
      clear hI1 hI2
      repeat' (refine cond_of (fun h => ?_) (fun h => ?_))
      all_goals (simp only [sqB, v4B, *]; simp)
    all_goals (clear hI1 hI2; simp only [sqB, v4B, *]; simp)) O w0
set_option maxRecDepth 100000 in
theorem e18 (O : Nat → Prop) (w0 : World) : Entry Tryz.prog O w0 12 (gCmp O w0) :=
  Entry.pure Γ2_ok 100 5 (g := gCmp) (fun O w0 args M k hg => by
    unfold gCmp at hg
    split at hg
    case h_2 => exact hg.elim
    rename_i a b
    obtain ⟨x, y, ⟨hx, A, c, ha, hA⟩, ⟨hy, B, d, hb, hB⟩, hk⟩ := hg
    refine ⟨_, [cmdV x A c, cmdV y B d], rfl, hk, fun β => by unfold fr; simp only [List.map_cons, ha β, hb β, List.map_nil], fun w hw => ⟨_, f18 _ w x y A B c d _ ?_⟩⟩
    have hI1 : IntsX (fun _ => False) w (sV A x.f9 c) x.f9 := ⟨hx, A, c, fun _ => rfl, rowsAt hA hw⟩
    have hI2 : IntsX (fun _ => False) w (sV B y.f9 d) y.f9 := ⟨hy, B, d, fun _ => rfl, rowsAt hB hw⟩
    unfold eqC
    clear ha hb hA hB hw
    repeat' (refine cond_of (fun h => ?_) (fun h => ?_))
    · refine ⟨x.f9, y.f9, hI1, hI2, ?_⟩
      clear hI1 hI2
      repeat' (refine cond_of (fun h => ?_) (fun h => ?_))
      all_goals (simp only [sqB, v4B, *]; simp)
    all_goals (clear hI1 hI2; simp only [sqB, v4B, *]; simp)) O w0
theorem Γ3_ok : TSF Tryz.prog Γ3 := ((((Γ2_ok.add e34).add e41).add e17).add e18)
--SHOW
end Go.Proofs.YtfhckpfiegenaaaGreatDoor.Cm
