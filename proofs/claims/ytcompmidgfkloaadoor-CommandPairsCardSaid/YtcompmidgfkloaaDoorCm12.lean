/- The example of the package command's laws. -/
import Derived.Test.YtcompmidgfkloaaDoorCm11
namespace Go.Proofs.YtcompmidgfkloaaDoor.Cm
open Go Go.RowKit Go.Proofs.YtcompmidgfkloaaDoor.Eng
set_option linter.unusedVariables false
set_option linter.unusedSimpArgs false
def ΓN : TabF := addF (fun _ _ => Γ0) 15 gNm
set_option maxHeartbeats 4000000 in
set_option maxRecDepth 100000 in
theorem f12 (O : Nat → Prop) (w0 : World) (K : SX → Prop) (h_ : Gl0 O w0 ∧ Gl0 O w0 ∧ Gl0 O w0 ∧ Gl0 O w0 ∧ K (SX.v (SV.c (SC.val (Value.bool true))))) : evFn Tryd.prog O w0 (ΓN O w0) Λn 100 10 12 [] [] (fun y _ => K y) := vc_of h_ (by kernel_rfl)
def gEx : EntF := fun O w0 args M k => match args with
  | [] => Gl0 O w0 ∧ k (bV true) M
  | _ => False
def Γ12 : TabF := addF Γ11 12 gEx
--HIDE
theorem ΓN_ok : TSF Tryd.prog ΓN := (TSF.none _).add e15
set_option maxRecDepth 100000 in
theorem e12 (O : Nat → Prop) (w0 : World) : Entry Tryd.prog O w0 12 (gEx O w0) :=
  Entry.pure ΓN_ok 100 10 (g := gEx) (fun O w0 args M k hg => by
    unfold gEx at hg
    split at hg
    case h_2 => exact hg.elim
    obtain ⟨hG, hk⟩ := hg
    exact ⟨_, [], rfl, hk, fun β => rfl, fun w hw => ⟨Λn, f12 _ w _ ⟨hG.at hw, hG.at hw, hG.at hw, hG.at hw, rfl⟩⟩⟩) O w0
theorem Γ12_ok : TSF Tryd.prog Γ12 := Γ11_ok.add e12
--SHOW
end Go.Proofs.YtcompmidgfkloaaDoor.Cm
