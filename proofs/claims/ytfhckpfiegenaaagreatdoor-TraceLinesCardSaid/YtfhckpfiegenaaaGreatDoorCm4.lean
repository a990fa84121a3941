import Derived.Test.YtfhckpfiegenaaaGreatDoorCm3
import Derived.Below
namespace Go.Proofs.YtfhckpfiegenaaaGreatDoor.Cm
open Go Go.RowKit Go.Proofs.YtfhckpfiegenaaaGreatDoor.Eng
set_option linter.unusedVariables false
set_option maxRecDepth 8000
def nmTab : List ByteArray := [⟨#[98, 105, 110, 100, 45, 112, 105, 112, 101, 108, 105, 110, 101]⟩, ⟨#[98, 105, 110, 100, 45, 118, 101, 114, 116, 101, 120]⟩, ⟨#[98, 105, 110, 100, 45, 105, 110, 100, 101, 120]⟩, ⟨#[98, 105, 110, 100, 45, 116, 101, 120, 116, 117, 114, 101]⟩, ⟨#[98, 105, 110, 100, 45, 98, 117, 102, 102, 101, 114]⟩, ⟨#[115, 101, 116, 45, 117, 110, 105, 102, 111, 114, 109, 115]⟩, ⟨#[98, 101, 103, 105, 110, 45, 112, 97, 115, 115]⟩, ⟨#[101, 110, 100, 45, 112, 97, 115, 115]⟩, ⟨#[100, 114, 97, 119]⟩, ⟨#[98, 97, 114, 114, 105, 101, 114]⟩, ⟨#[98, 101, 103, 105, 110, 45, 113, 117, 101, 114, 121]⟩, ⟨#[101, 110, 100, 45, 113, 117, 101, 114, 121]⟩, ⟨#[99, 111, 112, 121, 45, 116, 111, 45, 105, 109, 97, 103, 101]⟩, ⟨#[114, 101, 115, 111, 108, 118, 101]⟩]
def nmAt (i : Nat) : ByteArray := nmTab.getD i ⟨#[63]⟩
/-- A kind's name. -/
def nmS (n : Int) : ByteArray := if n < 1 ∨ n > 14 then ⟨#[63]⟩ else nmAt (n - 1).toNat
def strsAt (l : List ByteArray) : Nat → List SC := fun j => [.val (.string (l.getD j ⟨#[63]⟩))]
def nmRow (A : Option Addr) (cap : Nat) : List SC := [.rsl A 1 (strsAt nmTab) 0 14 cap]
/-- What is known of the variable that holds the names. -/
structure Gl0 (O : Nat → Prop) (w0 : World) : Prop where
  out : ∃ A cap, RowAt O w0 (some ⟨0, 0, none⟩) 1 (nmRow A cap) 0 ∧ ∀ j, j < 14 → A.isSome = true ∧ RowAt O w0 A 1 (strsAt nmTab j) j
theorem Gl0.at {O : Nat → Prop} {w0 w : World} (h : Gl0 O w0) (hw : Fr O w0 w) : Gl0 (fun _ => False) w := by
  obtain ⟨A, cap, h1, h2⟩ := h.out
  exact ⟨A, cap, h1.at hw, fun j hj => ⟨(h2 j hj).1, (h2 j hj).2.at hw⟩⟩
def gG0 : EntF := fun O w0 args M k => ∃ A cap, RowAt O w0 (some ⟨0, 0, none⟩) 1 (nmRow A cap) 0 ∧ k (.v (.c (.row (some ⟨0, 0, none⟩) 1 (fun _ => nmRow A cap) 0 0))) M
def Γ4g : TabF := addF Γ4 (GK + 0) gG0
set_option maxHeartbeats 4000000 in
set_option maxRecDepth 100000 in
theorem f15 (O : Nat → Prop) (w0 : World) (n : Int) (K : SX → Prop) (h_ : bif decide (n < (1 : Int)) then K (SX.v (SV.c (SC.val (Value.string (ByteArray.mk #[(63 : UInt8)]))))) else ∃ A cap, RowAt O w0 (some (Addr.mk (0 : Nat) (0 : Nat) none)) (1 : Nat) (nmRow A cap) (0 : Nat) ∧ RowAt O w0 (some (Addr.mk (0 : Nat) (0 : Nat) none)) (1 : Nat) ((fun x ↦ nmRow A cap) (0 : Nat)) (0 : Nat) ∧ bif decide (n > (↑(14 : Nat) : Int)) then K (SX.v (SV.c (SC.val (Value.string (ByteArray.mk #[(63 : UInt8)]))))) else ∃ A cap, RowAt O w0 (some (Addr.mk (0 : Nat) (0 : Nat) none)) (1 : Nat) (nmRow A cap) (0 : Nat) ∧ RowAt O w0 (some (Addr.mk (0 : Nat) (0 : Nat) none)) (1 : Nat) ((fun x ↦ nmRow A cap) (0 : Nat)) (0 : Nat) ∧ In (IntKind.wrap IntKind.i64 (n - (1 : Int))) (14 : Int) ∧ Option.isSome A = true ∧ RowAt O w0 A (1 : Nat) (strsAt nmTab ((0 : Nat) + Int.toNat (IntKind.wrap IntKind.i64 (n - (1 : Int))))) ((0 : Nat) + Int.toNat (IntKind.wrap IntKind.i64 (n - (1 : Int)))) ∧ K (SX.v (SV.c (SC.val (Value.string (List.getD nmTab ((0 : Nat) + Int.toNat (IntKind.wrap IntKind.i64 (n - (1 : Int)))) (ByteArray.mk #[(63 : UInt8)]))))))) : evFn Tryz.prog O w0 (Γ4g O w0) Λn 100 5 19 [iV n] [] (fun y _ => K y) := vc_of h_ (by kernel_rfl)
def gNm : EntF := fun O w0 args M k => match args with
  | [.v (.c (.val (.int .i64 n)))] => Gl0 O w0 ∧ k (.v (.c (.val (.string (nmS n))))) M
  | _ => False
def Γ5 : TabF := addF Γ4 19 gNm
--HIDE
theorem Γ4g_ok : TSF Tryz.prog Γ4g := Γ4_ok.addG (n := 0) (fun O w0 args M k hk => by
  obtain ⟨A, cap, _, hk⟩ := hk
  exact ⟨_, fun β => by simp [SX.den, SV.den, SC.den, Addr.add], hk⟩)
theorem e15 (O : Nat → Prop) (w0 : World) : Entry Tryz.prog O w0 19 (gNm O w0) :=
  Entry.pure Γ4g_ok 100 5 (g := gNm) (fun O w0 args M k hg => by
    unfold gNm at hg
    split at hg
    case h_2 => exact hg.elim
    rename_i n
    refine ⟨_, _, rfl, hg.2, fun _ => rfl, fun w hw => ⟨Λn, f15 _ w n _ ?_⟩⟩
    obtain ⟨A, cap, h1, h2⟩ := (hg.1.at hw).out
    unfold nmS
    refine cond_of (fun h => ?_) (fun h => ?_)
    · rw [if_pos (Or.inl (of_decide_eq_true h))]
    · have h := of_decide_eq_false h
      refine ⟨A, cap, h1, h1, cond_of (fun h3 => ?_) (fun h3 => ?_)⟩
      · have h3 : n > 14 := by simpa using h3
        rw [if_pos (Or.inr h3)]
      · have h3 : ¬ n > 14 := by simpa using h3
        rw [if_neg (by omega)]
        have hwr : IntKind.i64.wrap (n - 1) = n - 1 := wrap_in (by omega) (by omega)
        have hg := (h2 (n - 1).toNat (by omega))
        refine ⟨A, cap, h1, h1, ?_⟩
        simp only [hwr, Nat.zero_add]
        exact ⟨⟨by omega, by omega⟩, hg.1, hg.2, rfl⟩) O w0
theorem Γ5_ok : TSF Tryz.prog Γ5 := Γ4_ok.add e15
--SHOW
end Go.Proofs.YtfhckpfiegenaaaGreatDoor.Cm
