/- Line, of the package: its contract. -/
import Derived.Test.YtfhckpfiegenaaaGreatDoorCm14
namespace Go.Proofs.YtfhckpfiegenaaaGreatDoor.Tr
open Go Go.RowKit Go.Proofs.YtfhckpfiegenaaaGreatDoor.Eng Go.Proofs.YtfhckpfiegenaaaGreatDoor.Cm
set_option linter.unusedVariables false
set_option linter.unusedSimpArgs false
set_option maxRecDepth 8000
theorem ΓN_ok : TSF Tryz.prog ΓN := ((ΓL_ok.addW e39).addG (n := 1) (fun O w0 args M k hk => by
  obtain ⟨A, cap, _, hk⟩ := hk
  exact ⟨_, fun β => by simp [SX.den, SV.den, SC.den, Addr.add], hk⟩)).addG (n := 2) (fun O w0 args M k hk => by
  obtain ⟨A, cap, _, hk⟩ := hk
  exact ⟨_, fun β => by simp [SX.den, SV.den, SC.den, Addr.add], hk⟩)
theorem ΓP_ok : TSF Tryz.prog ΓP := ((ΓN_ok.addW e40).addW e45).addW e77
theorem eChk10 (O : Nat → Prop) (w0 : World) : Entry Tryz.prog O w0 18 (gChk10 O w0) := fun hf args M k hg hm β w hI => by
  unfold gChk10 at hg
  split at hg
  case h_2 => exact hg.elim
  obtain ⟨hG, x, hC, h10, hk⟩ := hg
  rename_i a
  exact e10 O w0 hf [a] M k ⟨hG, x, hC, by rw [h10]; exact hk⟩ hm β w hI
theorem ΓQ_ok : TSF Tryz.prog (addF ΓP 18 gChk10) := ΓP_ok.add eChk10
def lnR (x : S33) : ByteArray := if chk x = 0 then lineP x else ⟨#[]⟩
def gLn1 (x : S33) : EntF := fun O w0 args M k => match args with
  | [a] => GlT O w0 ∧ CmdX O w0 a x ∧ k (.tup [.c (.val (.string (lnR x))), .c (.val (.int .i64 (chk x)))]) M
  | _ => False
theorem LnIs.eqs {x : S33} {r : ByteArray} {e : Int} (h : LnIs x r e) : SX.tup [.c (.val (.string r)), .c (.val (.int .i64 e))] = SX.tup [.c (.val (.string (lnR x))), .c (.val (.int .i64 (chk x)))] := by
  rw [h.e, h.r]; rfl
theorem ln_all (x : S33) : ∃ Γ : TabF, TSF Tryz.prog Γ ∧ ∀ (w : World) (A : Option Addr) (c : Nat), GlT (fun _ => False) w → CmdX (fun _ => False) w (cmdV x A c) x →
    ∃ Λ, evFn Tryz.prog (fun _ => False) w (Γ (fun _ => False) w) Λ 100 5 7 [cmdV x A c] [] (fun y _ => y = SX.tup [.c (.val (.string (lnR x))), .c (.val (.int .i64 (chk x)))]) := by
  by_cases h : x.f0 < 1 ∨ x.f0 > 14
  · have h10 : chk x = 10 := by unfold chk; rw [if_pos h]
    have hr : lnR x = ⟨#[]⟩ := by unfold lnR; rw [h10]; rfl
    exact ⟨_, ΓQ_ok, fun w A c hG hC => ⟨Λn, f7_0 _ w x A c _ ⟨hG.nm, x, hC, h10, by rw [hr, h10]⟩⟩⟩
  · rcases kinds2 h with hk | hk | hk | hk | hk | hk | hk | hk | hk | hk | hk | hk | hk | hk
    · exact ⟨ΓN, ΓN_ok, fun w A c hG hC => ⟨Λn, ln_1 hG hC hk (fun r e hl => hl.eqs)⟩⟩
    · exact ⟨ΓN, ΓN_ok, fun w A c hG hC => ⟨Λn, ln_2 hG hC hk (fun r e hl => hl.eqs)⟩⟩
    · exact ⟨ΓP, ΓP_ok, fun w A c hG hC => ⟨Λn, ln_3 hG hC hk (fun r e hl => hl.eqs)⟩⟩
    · exact ⟨ΓN, ΓN_ok, fun w A c hG hC => ⟨Λn, ln_4 hG hC hk (fun r e hl => hl.eqs)⟩⟩
    · exact ⟨ΓN, ΓN_ok, fun w A c hG hC => ⟨Λn, ln_5 hG hC hk (fun r e hl => hl.eqs)⟩⟩
    · exact ⟨ΓP, ΓP_ok, fun w A c hG hC => ⟨(Λof 21 (I21u x (RU x))), ln_6 hG hC hk (fun r e hl => hl.eqs)⟩⟩
    · exact ⟨ΓP, ΓP_ok, fun w A c hG hC => ⟨Λn, ln_7 hG hC hk (fun r e hl => hl.eqs)⟩⟩
    · exact ⟨ΓN, ΓN_ok, fun w A c hG hC => ⟨Λn, ln_8 hG hC hk (fun r e hl => hl.eqs)⟩⟩
    · exact ⟨ΓN, ΓN_ok, fun w A c hG hC => ⟨Λn, ln_9 hG hC hk (fun r e hl => hl.eqs)⟩⟩
    · exact ⟨ΓP, ΓP_ok, fun w A c hG hC => ⟨Λn, ln_10 hG hC hk (fun r e hl => hl.eqs)⟩⟩
    · exact ⟨ΓN, ΓN_ok, fun w A c hG hC => ⟨Λn, ln_11 hG hC hk (fun r e hl => hl.eqs)⟩⟩
    · exact ⟨ΓN, ΓN_ok, fun w A c hG hC => ⟨Λn, ln_12 hG hC hk (fun r e hl => hl.eqs)⟩⟩
    · exact ⟨ΓN, ΓN_ok, fun w A c hG hC => ⟨Λn, ln_13 hG hC hk (fun r e hl => hl.eqs)⟩⟩
    · exact ⟨ΓN, ΓN_ok, fun w A c hG hC => ⟨Λn, ln_14 hG hC hk (fun r e hl => hl.eqs)⟩⟩
theorem e7 (O : Nat → Prop) (w0 : World) : Entry Tryz.prog O w0 7 (gLn O w0) := fun hf args M k hg hm β w hI => by
  unfold gLn at hg
  split at hg
  case h_2 => exact hg.elim
  rename_i a
  obtain ⟨hG, x, hC, hk⟩ := hg
  obtain ⟨Γ, hΓ, hev⟩ := ln_all x
  refine Entry.pure hΓ 100 5 (f := 7) (g := gLn1 x) (fun O w0 args M k hg => ?_) O w0 hf [a] M k ⟨hG, hC, hk _ _ ⟨rfl, rfl⟩⟩ hm β w hI
  unfold gLn1 at hg
  split at hg
  case h_2 => exact hg.elim
  rename_i a
  obtain ⟨hG, ⟨hx, A, c, ha, hA⟩, hk⟩ := hg
  exact ⟨_, [cmdV x A c], rfl, hk, fun β => by unfold fr; simp only [List.map_cons, ha β, List.map_nil], fun w hw => hev w A c (hG.at hw) ⟨hx, A, c, fun _ => rfl, rowsAt hA hw⟩⟩
end Go.Proofs.YtfhckpfiegenaaaGreatDoor.Tr
