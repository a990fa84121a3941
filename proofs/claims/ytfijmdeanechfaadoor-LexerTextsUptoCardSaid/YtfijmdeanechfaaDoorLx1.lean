/- Contracts of the small functions of the package lexer and its reference: bytes. -/
import Derived.Test.YtfijmdeanechfaaDoorProg
import Derived.Test.YtfijmdeanechfaaDoorEng
import Derived.Outline
import Derived.RegionTactic
import Derived.BigRegion
import Derived.KernelRfl
namespace Go.Proofs.YtfijmdeanechfaaDoor.Lx
open Go Go.RowKit Go.Proofs.YtfijmdeanechfaaDoor.Eng
set_option linter.unusedVariables false
abbrev iV (n : Int) : SX := .v (.c (.val (.int .i64 n)))
abbrev uV (n : Int) : SX := .v (.c (.val (.int .u8 n)))
abbrev bV (b : Bool) : SX := .v (.c (.val (.bool b)))
abbrev tV (s : ByteArray) : SX := .v (.c (.val (.string s)))
abbrev jV (v : Value) : SX := .v (.c (.opq v))
abbrev fV (f : Nat) : SX := .v (.c (.val (.func (.func f) #[] #[])))
structure N1 where
  i : Int
def rI (ts : List SX) (d : Nat) : N1 := match ts.getD d undefX with
  | .v (.c (.val (.int _ n))) => ⟨n⟩
  | _ => ⟨0⟩
abbrev LT := FuncId → Nat → Option LI
def Λn : LT := fun _ _ => none
def Λof (f : Nat) (I : LInv) : LT := fun g _ => bif Nat.beq g f then some I else none
def Γ0 : TabF := fun _ _ _ => none
def isDg (c : Int) : Bool := decide (c ≥ 48) && decide (c ≤ 57)
def isLt (c : Int) : Bool := decide (c ≥ 97) && decide (c ≤ 122) || (decide (c ≥ 65) && decide (c ≤ 90) || c == 95)
def isWd (c : Int) : Bool := isLt c || isDg c
def noNl (c : Int) : Bool := c != 10
set_option maxHeartbeats 4000000 in
set_option maxRecDepth 100000 in
theorem f25 (O : Nat → Prop) (w0 : World) (a : Int) (K : SX → Prop) (h_ : K (SX.v (SV.c (SC.val (Value.bool (a != (10 : Int))))))) : evFn Tryd.prog O w0 (Γ0 O w0) Λn 100 5 25 [uV a] [] (fun y _ => K y) := vc_of h_ (by kernel_rfl)
set_option maxHeartbeats 4000000 in
set_option maxRecDepth 100000 in
theorem f26 (O : Nat → Prop) (w0 : World) (a : Int) (K : SX → Prop) (h_ : bif decide (a ≥ (97 : Int)) then bif decide (a ≤ (122 : Int)) then K (SX.v (SV.c (SC.val (Value.bool true)))) else bif decide (a ≥ (65 : Int)) then bif decide (a ≤ (90 : Int)) then K (SX.v (SV.c (SC.val (Value.bool true)))) else K (SX.v (SV.c (SC.val (Value.bool (a == (95 : Int)))))) else K (SX.v (SV.c (SC.val (Value.bool (a == (95 : Int)))))) else bif decide (a ≥ (65 : Int)) then bif decide (a ≤ (90 : Int)) then K (SX.v (SV.c (SC.val (Value.bool true)))) else K (SX.v (SV.c (SC.val (Value.bool (a == (95 : Int)))))) else K (SX.v (SV.c (SC.val (Value.bool (a == (95 : Int))))))) : evFn Tryd.prog O w0 (Γ0 O w0) Λn 100 5 26 [uV a] [] (fun y _ => K y) := vc_of h_ (by kernel_rfl)
set_option maxHeartbeats 4000000 in
set_option maxRecDepth 100000 in
theorem f27 (O : Nat → Prop) (w0 : World) (a : Int) (K : SX → Prop) (h_ : bif decide (a ≥ (48 : Int)) then K (SX.v (SV.c (SC.val (Value.bool (decide (a ≤ (57 : Int))))))) else K (SX.v (SV.c (SC.val (Value.bool false))))) : evFn Tryd.prog O w0 (Γ0 O w0) Λn 100 5 27 [uV a] [] (fun y _ => K y) := vc_of h_ (by kernel_rfl)
set_option maxHeartbeats 4000000 in
set_option maxRecDepth 100000 in
theorem f30 (O : Nat → Prop) (w0 : World) (a : Int) (K : SX → Prop) (h_ : bif decide (a ≥ (48 : Int)) then K (SX.v (SV.c (SC.val (Value.bool (decide (a ≤ (57 : Int))))))) else K (SX.v (SV.c (SC.val (Value.bool false))))) : evFn Tryd.prog O w0 (Γ0 O w0) Λn 100 5 30 [uV a] [] (fun y _ => K y) := vc_of h_ (by kernel_rfl)
set_option maxHeartbeats 4000000 in
set_option maxRecDepth 100000 in
theorem f31 (O : Nat → Prop) (w0 : World) (a : Int) (K : SX → Prop) (h_ : bif decide (a ≥ (97 : Int)) then bif decide (a ≤ (122 : Int)) then K (SX.v (SV.c (SC.val (Value.bool true)))) else bif decide (a ≥ (65 : Int)) then bif decide (a ≤ (90 : Int)) then K (SX.v (SV.c (SC.val (Value.bool true)))) else K (SX.v (SV.c (SC.val (Value.bool (a == (95 : Int)))))) else K (SX.v (SV.c (SC.val (Value.bool (a == (95 : Int)))))) else bif decide (a ≥ (65 : Int)) then bif decide (a ≤ (90 : Int)) then K (SX.v (SV.c (SC.val (Value.bool true)))) else K (SX.v (SV.c (SC.val (Value.bool (a == (95 : Int)))))) else K (SX.v (SV.c (SC.val (Value.bool (a == (95 : Int))))))) : evFn Tryd.prog O w0 (Γ0 O w0) Λn 100 5 31 [uV a] [] (fun y _ => K y) := vc_of h_ (by kernel_rfl)
def gB (f : Int → Bool) : EntF := fun _ _ args M k => match args with
  | [.v (.c (.val (.int .u8 a)))] => k (bV (f a)) M
  | _ => False
def Γ1 : TabF := addF (addF (addF (addF (addF Γ0 25 (gB noNl)) 26 (gB isLt)) 27 (gB isDg)) 30 (gB isDg)) 31 (gB isLt)
set_option maxHeartbeats 4000000 in
set_option maxRecDepth 100000 in
theorem f37 (O : Nat → Prop) (w0 : World) (a : Int) (K : SX → Prop) (h_ : bif isLt a then K (SX.v (SV.c (SC.val (Value.bool true)))) else K (SX.v (SV.c (SC.val (Value.bool (isDg a)))))) : evFn Tryd.prog O w0 (Γ1 O w0) Λn 100 5 37 [uV a] [] (fun y _ => K y) := vc_of h_ (by kernel_rfl)
def Γ2 : TabF := addF Γ1 37 (gB isWd)
--HIDE
theorem cond_of {b : Bool} {P Q : Prop} (h1 : b = true → P) (h2 : b = false → Q) : bif b then P else Q := by cases b; exact h2 rfl; exact h1 rfl
theorem wrap_in {n : Int} (h0 : -9223372036854775808 ≤ n) (h1 : n ≤ 9223372036854775807) : IntKind.i64.wrap n = n := by
  unfold IntKind.wrap; simp [IntKind.bits, IntKind.signed]; omega
theorem Γ0_ok : TSF Tryd.prog Γ0 := TSF.none _
theorem Entry.gB {Γ : TabF} (hΓ : TSF Tryd.prog Γ) {f : FuncId} {q : Int → Bool} (h : ∀ (w : World) (a : Int), evFn Tryd.prog (fun _ => False) w (Γ (fun _ => False) w) Λn 100 5 f [uV a] [] (fun y _ => y = bV (q a))) : ∀ O w0, Entry Tryd.prog O w0 f (Lx.gB q O w0) :=
  Entry.pure hΓ 100 5 (g := Lx.gB q) (fun O w0 args M k hg => by
    unfold Lx.gB at hg
    split at hg
    · rename_i a
      exact ⟨_, _, rfl, hg, fun _ => rfl, fun w _ => ⟨_, h w a⟩⟩
    · exact hg.elim)
theorem e25 (O : Nat → Prop) (w0 : World) : Entry Tryd.prog O w0 25 (gB noNl O w0) := Entry.gB Γ0_ok (f := 25) (q := noNl) (fun w a => f25 _ w a _ rfl) O w0
theorem e26 (O : Nat → Prop) (w0 : World) : Entry Tryd.prog O w0 26 (gB isLt O w0) := Entry.gB Γ0_ok (f := 26) (q := isLt) (fun w a => f26 _ w a _ (by
  unfold isLt; cases decide (a ≥ 97) <;> cases decide (a ≤ 122) <;> cases decide (a ≥ 65) <;> cases decide (a ≤ 90) <;> rfl)) O w0
theorem e31 (O : Nat → Prop) (w0 : World) : Entry Tryd.prog O w0 31 (gB isLt O w0) := Entry.gB Γ0_ok (f := 31) (q := isLt) (fun w a => f31 _ w a _ (by
  unfold isLt; cases decide (a ≥ 97) <;> cases decide (a ≤ 122) <;> cases decide (a ≥ 65) <;> cases decide (a ≤ 90) <;> rfl)) O w0
theorem e27 (O : Nat → Prop) (w0 : World) : Entry Tryd.prog O w0 27 (gB isDg O w0) := Entry.gB Γ0_ok (f := 27) (q := isDg) (fun w a => f27 _ w a _ (by
  unfold isDg; cases decide (a ≥ 48) <;> cases decide (a ≤ 57) <;> rfl)) O w0
theorem e30 (O : Nat → Prop) (w0 : World) : Entry Tryd.prog O w0 30 (gB isDg O w0) := Entry.gB Γ0_ok (f := 30) (q := isDg) (fun w a => f30 _ w a _ (by
  unfold isDg; cases decide (a ≥ 48) <;> cases decide (a ≤ 57) <;> rfl)) O w0
theorem Γ1_ok : TSF Tryd.prog Γ1 := ((((Γ0_ok.add e25).add e26).add e27).add e30).add e31
theorem e37 (O : Nat → Prop) (w0 : World) : Entry Tryd.prog O w0 37 (gB isWd O w0) := Entry.gB Γ1_ok (f := 37) (q := isWd) (fun w a => f37 _ w a _ (by
  unfold isWd; cases isLt a <;> cases isDg a <;> rfl)) O w0
theorem Γ2_ok : TSF Tryd.prog Γ2 := Γ1_ok.add e37
--SHOW
end Go.Proofs.YtfijmdeanechfaaDoor.Lx
