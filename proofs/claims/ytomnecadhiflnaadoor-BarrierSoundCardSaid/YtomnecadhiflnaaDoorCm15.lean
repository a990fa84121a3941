/- The chapter's example. -/
import Derived.Test.YtomnecadhiflnaaDoorCm14
namespace Go.Proofs.YtomnecadhiflnaaDoor.Br
open Go Go.RowKit Go.Proofs.YtomnecadhiflnaaDoor.Eng Go.Proofs.YtomnecadhiflnaaDoor.Cm
set_option linter.unusedVariables false
set_option linter.unusedSimpArgs false
def Γe : TabF := addF Γ6 29 gSrt
set_option maxHeartbeats 4000000 in
set_option maxRecDepth 100000 in
theorem f12 (O : Nat → Prop) (w0 : World) (K : SX → Prop) (h_ : Cut (0 : Int) (1 : Int) (2 : Int) ∧ Cut (0 : Int) (2 : Int) (2 : Int) ∧ AbQ.P (AbQ.mk [] (MapH Tryd.prog (3 : Nat) (3 : Nat) [])) = MapH Tryd.prog (3 : Nat) (3 : Nat) (AbQ.d (AbQ.mk [] (MapH Tryd.prog (3 : Nat) (3 : Nat) []))) ∧ In (0 : Int) (9223372036854775807 : Int) ∧ I64 (0 : Int) ∧ I64 (0 : Int) ∧ AbQ.P (AbQ.mk (((0 : Int), (0 : Int)) :: AbQ.d (AbQ.mk [] (MapH Tryd.prog (3 : Nat) (3 : Nat) []))) (MapH Tryd.prog (3 : Nat) (3 : Nat) (((0 : Int), (0 : Int)) :: AbQ.d (AbQ.mk [] (MapH Tryd.prog (3 : Nat) (3 : Nat) []))))) = MapH Tryd.prog (3 : TypeId) (3 : TypeId) (AbQ.d (AbQ.mk (((0 : Int), (0 : Int)) :: AbQ.d (AbQ.mk [] (MapH Tryd.prog (3 : Nat) (3 : Nat) []))) (MapH Tryd.prog (3 : Nat) (3 : Nat) (((0 : Int), (0 : Int)) :: AbQ.d (AbQ.mk [] (MapH Tryd.prog (3 : Nat) (3 : Nat) [])))))) ∧ In (1 : Int) (1000000 : Int) ∧ In (0 : Int) (1 : Int) ∧ In (0 : Int) (1 : Int) ∧ Room (1 : Nat) (16 : Nat) ∧ Gl0 O w0 ∧ ∃ c, CmdX O w0 (SX.v (SV.agg [SC.val (Value.int IntKind.i64 (10 : Int)), SC.val (Value.int IntKind.i64 (0 : Int)), SC.val (Value.int IntKind.i64 (0 : Int)), SC.val (Value.int IntKind.i64 (0 : Int)), SC.val (Value.int IntKind.i64 (0 : Int)), SC.val (Value.int IntKind.i64 (0 : Int)), SC.val (Value.int IntKind.i64 (1 : Int)), SC.val (Value.int IntKind.i64 (2 : Int)), SC.val (Value.int IntKind.i64 (0 : Int)), SC.val (Value.int IntKind.i64 (0 : Int)), SC.val (Value.int IntKind.i64 (0 : Int)), SC.val (Value.int IntKind.i64 (0 : Int)), SC.val (Value.int IntKind.i64 (0 : Int)), SC.val (Value.int IntKind.i64 (0 : Int)), SC.val (Value.int IntKind.i64 (0 : Int)), SC.val (Value.int IntKind.i64 (0 : Int)), SC.val (Value.int IntKind.i64 (0 : Int)), SC.val (Value.int IntKind.i64 (0 : Int)), SC.val (Value.int IntKind.i64 (0 : Int)), SC.val (Value.int IntKind.i64 (0 : Int)), SC.val (Value.slice none (0 : Nat) (0 : Nat)), SC.val (Value.int IntKind.i64 (0 : Int)), SC.val (Value.int IntKind.i64 (0 : Int)), SC.val (Value.int IntKind.i64 (0 : Int)), SC.val (Value.int IntKind.i64 (0 : Int)), SC.val (Value.int IntKind.i64 (0 : Int)), SC.val (Value.int IntKind.i64 (0 : Int)), SC.val (Value.bool false)])) c ∧ bif chk c != (0 : Int) then In (0 : Int) (1 : Int) ∧ In (0 : Int) (1 : Int) ∧ K (SX.v (SV.c (SC.val (Value.bool false)))) else Room (8 : Nat) (8 : Nat) ∧ In (0 : Int) (8 : Int) ∧ In (0 : Int) (8 : Int) ∧ In (0 : Int) (1 : Int) ∧ In (0 : Int) (1 : Int) ∧ In (0 : Int) (8 : Int) ∧ In (0 : Int) (8 : Int) ∧ In (1 : Int) (8 : Int) ∧ In (1 : Int) (8 : Int) ∧ K (SX.v (SV.c (SC.val (Value.bool true))))) : evFn Tryd.prog O w0 (Γe O w0) Λn 100 10 12 [] [] (fun y _ => K y) := vc_of h_ (by kernel_rfl)
def gEx : EntF := fun O w0 args M k => match args with
  | [] => Gl0 O w0 ∧ k (bV true) M
  | _ => False
def Γ14 : TabF := addF Γ13 12 gEx
--HIDE
theorem Γe_ok : TSF Tryd.prog Γe := Γ6_ok.add e29
def xEx : S33 := { z33 with f0 := 10, f6 := 1, f7 := 2 }
theorem xEx_chk : (chk xEx != 0) = false := by kernel_rfl
set_option maxRecDepth 100000 in
theorem e12 (O : Nat → Prop) (w0 : World) : Entry Tryd.prog O w0 12 (gEx O w0) :=
  Entry.pure Γe_ok 100 10 (g := gEx) (fun O w0 args M k hg => by
    unfold gEx at hg
    split at hg
    case h_2 => exact hg.elim
    obtain ⟨hG, hk⟩ := hg
    refine ⟨_, [], rfl, hk, fun β => rfl, fun w hw => ⟨Λn, f12 _ w _ ?_⟩⟩
    refine ⟨⟨by decide, by decide, by decide⟩, ⟨by decide, by decide, by decide⟩, rfl, ⟨by decide, by decide⟩, ⟨by decide, by decide⟩, ⟨by decide, by decide⟩, rfl, ⟨by decide, by decide⟩, ⟨by decide, by decide⟩, ⟨by decide, by decide⟩, ⟨by decide⟩, hG.at hw, xEx, ⟨Nat.zero_le _, none, 0, fun _ => rfl, fun j hj => absurd hj (Nat.not_lt_zero j)⟩, ?_⟩
    rw [xEx_chk]
    exact ⟨⟨by decide⟩, ⟨by decide, by decide⟩, ⟨by decide, by decide⟩, ⟨by decide, by decide⟩, ⟨by decide, by decide⟩, ⟨by decide, by decide⟩, ⟨by decide, by decide⟩, ⟨by decide, by decide⟩, ⟨by decide, by decide⟩, rfl⟩) O w0
theorem Γ14_ok : TSF Tryd.prog Γ14 := Γ13_ok.add e12
--SHOW
end Go.Proofs.YtomnecadhiflnaaDoor.Br
