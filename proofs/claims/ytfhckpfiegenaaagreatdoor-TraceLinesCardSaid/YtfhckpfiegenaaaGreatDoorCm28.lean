/- The example; the law TraceLines. -/
import Derived.Test.YtfhckpfiegenaaaGreatDoorCm27
namespace Go.Proofs.YtfhckpfiegenaaaGreatDoor.Tr
open Go Go.RowKit Go.Proofs.YtfhckpfiegenaaaGreatDoor.Eng Go.Proofs.YtfhckpfiegenaaaGreatDoor.Cm
set_option linter.unusedVariables false
set_option linter.unusedSimpArgs false
set_option maxRecDepth 8000
def ΓX : TabF := addF (addF (addF (addF Γz 7 gLn) 10 gPl) 12 gEqZ) 8 gLn
set_option maxHeartbeats 4000000 in
set_option maxRecDepth 100000 in
theorem f9 (O : Nat → Prop) (w0 : World) (K : SX → Prop) (h_ : GlT O w0 ∧ ∃ x, CmdX O w0 (SX.v (SV.agg [SC.val (Value.int IntKind.i64 9), SC.val (Value.int IntKind.i64 0), SC.val (Value.int IntKind.i64 0), SC.val (Value.int IntKind.i64 0), SC.val (Value.int IntKind.i64 3), SC.val (Value.int IntKind.i64 0), SC.val (Value.int IntKind.i64 0), SC.val (Value.int IntKind.i64 0), SC.val (Value.int IntKind.i64 0), SC.val (Value.int IntKind.i64 0), SC.val (Value.int IntKind.i64 0), SC.val (Value.int IntKind.i64 0), SC.val (Value.int IntKind.i64 0), SC.val (Value.int IntKind.i64 0), SC.val (Value.int IntKind.i64 0), SC.val (Value.int IntKind.i64 0), SC.val (Value.int IntKind.i64 0), SC.val (Value.int IntKind.i64 0), SC.val (Value.int IntKind.i64 0), SC.val (Value.int IntKind.i64 0), SC.val (Value.slice none (0 : Nat) (0 : Nat)), SC.val (Value.int IntKind.i64 0), SC.val (Value.int IntKind.i64 0), SC.val (Value.int IntKind.i64 0), SC.val (Value.int IntKind.i64 0), SC.val (Value.int IntKind.i64 0), SC.val (Value.int IntKind.i64 0), SC.val (Value.bool false)])) x ∧ ∀ (r : ByteArray) (e : Int), LnIs x r e → GlT O w0 ∧ SzM (ByteArray.mk #[(100 : UInt8), (114 : UInt8), (97 : UInt8), (119 : UInt8), (32 : UInt8), (48 : UInt8), (32 : UInt8), (51 : UInt8)]) ∧ ∀ (c : S33) (e_1 : Int), PlIs (ByteArray.mk #[(100 : UInt8), (114 : UInt8), (97 : UInt8), (119 : UInt8), (32 : UInt8), (48 : UInt8), (32 : UInt8), (51 : UInt8)]) c e_1 → ∀ (A : Option Addr) (cp : Nat), bif ByteArray.toList r == ByteArray.toList (ByteArray.mk #[(100 : UInt8), (114 : UInt8), (97 : UInt8), (119 : UInt8), (32 : UInt8), (48 : UInt8), (32 : UInt8), (51 : UInt8)]) then bif e == (0 : Int) then bif e_1 == (0 : Int) then ∃ x y, CmdZ O w0 [Blk.fz (RowsF A (1 : Nat) (List.length (S33.f9 c)) (ints (S33.f9 c))), Blk.mk 33 [SC.val (Value.int IntKind.i64 (S33.f0 c)), SC.val (Value.int IntKind.i64 (S33.f1 c)), SC.val (Value.int IntKind.i64 (S33.f2 c)), SC.val (Value.int IntKind.i64 (S33.f3 c)), SC.val (Value.int IntKind.i64 (S33.f4 c)), SC.val (Value.int IntKind.i64 (S33.f5 c)), SC.val (Value.int IntKind.i64 (S33.f6 c)), SC.val (Value.int IntKind.i64 (S33.f7 c)), SC.val (Value.int IntKind.i64 (S30.f0 (S33.f8 c))), SC.val (Value.int IntKind.i64 (S30.f1 (S33.f8 c))), SC.val (Value.int IntKind.i64 (S30.f2 (S33.f8 c))), SC.val (Value.int IntKind.i64 (S30.f3 (S33.f8 c))), SC.val (Value.int IntKind.i64 (S30.f4 (S33.f8 c))), SC.val (Value.int IntKind.i64 (S28.f0 (S30.f5 (S33.f8 c)))), SC.val (Value.int IntKind.i64 (S28.f1 (S30.f5 (S33.f8 c)))), SC.val (Value.int IntKind.i64 (S28.f2 (S30.f5 (S33.f8 c)))), SC.val (Value.int IntKind.i64 (S28.f3 (S30.f5 (S33.f8 c)))), SC.val (Value.int IntKind.i64 (S30.f6 (S33.f8 c))), SC.val (Value.int IntKind.i64 (S30.f7 (S33.f8 c))), SC.val (Value.int IntKind.i64 (S30.f8 (S33.f8 c))), SC.rsl A (1 : Nat) (ints (S33.f9 c)) (0 : Nat) (List.length (S33.f9 c)) cp, SC.val (Value.int IntKind.i64 (S28.f0 (S33.f10 c))), SC.val (Value.int IntKind.i64 (S28.f1 (S33.f10 c))), SC.val (Value.int IntKind.i64 (S28.f2 (S33.f10 c))), SC.val (Value.int IntKind.i64 (S28.f3 (S33.f10 c))), SC.val (Value.int IntKind.i64 (S33.f11 c)), SC.val (Value.int IntKind.i64 (S33.f12 c)), SC.val (Value.bool (S33.f13 c))]] (SX.v (SV.agg [SC.val (Value.int IntKind.i64 (S33.f0 c)), SC.val (Value.int IntKind.i64 (S33.f1 c)), SC.val (Value.int IntKind.i64 (S33.f2 c)), SC.val (Value.int IntKind.i64 (S33.f3 c)), SC.val (Value.int IntKind.i64 (S33.f4 c)), SC.val (Value.int IntKind.i64 (S33.f5 c)), SC.val (Value.int IntKind.i64 (S33.f6 c)), SC.val (Value.int IntKind.i64 (S33.f7 c)), SC.val (Value.int IntKind.i64 (S30.f0 (S33.f8 c))), SC.val (Value.int IntKind.i64 (S30.f1 (S33.f8 c))), SC.val (Value.int IntKind.i64 (S30.f2 (S33.f8 c))), SC.val (Value.int IntKind.i64 (S30.f3 (S33.f8 c))), SC.val (Value.int IntKind.i64 (S30.f4 (S33.f8 c))), SC.val (Value.int IntKind.i64 (S28.f0 (S30.f5 (S33.f8 c)))), SC.val (Value.int IntKind.i64 (S28.f1 (S30.f5 (S33.f8 c)))), SC.val (Value.int IntKind.i64 (S28.f2 (S30.f5 (S33.f8 c)))), SC.val (Value.int IntKind.i64 (S28.f3 (S30.f5 (S33.f8 c)))), SC.val (Value.int IntKind.i64 (S30.f6 (S33.f8 c))), SC.val (Value.int IntKind.i64 (S30.f7 (S33.f8 c))), SC.val (Value.int IntKind.i64 (S30.f8 (S33.f8 c))), SC.rsl A (1 : Nat) (ints (S33.f9 c)) (0 : Nat) (List.length (S33.f9 c)) cp, SC.val (Value.int IntKind.i64 (S28.f0 (S33.f10 c))), SC.val (Value.int IntKind.i64 (S28.f1 (S33.f10 c))), SC.val (Value.int IntKind.i64 (S28.f2 (S33.f10 c))), SC.val (Value.int IntKind.i64 (S28.f3 (S33.f10 c))), SC.val (Value.int IntKind.i64 (S33.f11 c)), SC.val (Value.int IntKind.i64 (S33.f12 c)), SC.val (Value.bool (S33.f13 c))])) x ∧ CmdZ O w0 [Blk.fz (RowsF A (1 : Nat) (List.length (S33.f9 c)) (ints (S33.f9 c))), Blk.mk 33 [SC.val (Value.int IntKind.i64 (S33.f0 c)), SC.val (Value.int IntKind.i64 (S33.f1 c)), SC.val (Value.int IntKind.i64 (S33.f2 c)), SC.val (Value.int IntKind.i64 (S33.f3 c)), SC.val (Value.int IntKind.i64 (S33.f4 c)), SC.val (Value.int IntKind.i64 (S33.f5 c)), SC.val (Value.int IntKind.i64 (S33.f6 c)), SC.val (Value.int IntKind.i64 (S33.f7 c)), SC.val (Value.int IntKind.i64 (S30.f0 (S33.f8 c))), SC.val (Value.int IntKind.i64 (S30.f1 (S33.f8 c))), SC.val (Value.int IntKind.i64 (S30.f2 (S33.f8 c))), SC.val (Value.int IntKind.i64 (S30.f3 (S33.f8 c))), SC.val (Value.int IntKind.i64 (S30.f4 (S33.f8 c))), SC.val (Value.int IntKind.i64 (S28.f0 (S30.f5 (S33.f8 c)))), SC.val (Value.int IntKind.i64 (S28.f1 (S30.f5 (S33.f8 c)))), SC.val (Value.int IntKind.i64 (S28.f2 (S30.f5 (S33.f8 c)))), SC.val (Value.int IntKind.i64 (S28.f3 (S30.f5 (S33.f8 c)))), SC.val (Value.int IntKind.i64 (S30.f6 (S33.f8 c))), SC.val (Value.int IntKind.i64 (S30.f7 (S33.f8 c))), SC.val (Value.int IntKind.i64 (S30.f8 (S33.f8 c))), SC.rsl A (1 : Nat) (ints (S33.f9 c)) (0 : Nat) (List.length (S33.f9 c)) cp, SC.val (Value.int IntKind.i64 (S28.f0 (S33.f10 c))), SC.val (Value.int IntKind.i64 (S28.f1 (S33.f10 c))), SC.val (Value.int IntKind.i64 (S28.f2 (S33.f10 c))), SC.val (Value.int IntKind.i64 (S28.f3 (S33.f10 c))), SC.val (Value.int IntKind.i64 (S33.f11 c)), SC.val (Value.int IntKind.i64 (S33.f12 c)), SC.val (Value.bool (S33.f13 c))]] (SX.v (SV.agg [SC.val (Value.int IntKind.i64 9), SC.val (Value.int IntKind.i64 0), SC.val (Value.int IntKind.i64 0), SC.val (Value.int IntKind.i64 0), SC.val (Value.int IntKind.i64 3), SC.val (Value.int IntKind.i64 0), SC.val (Value.int IntKind.i64 0), SC.val (Value.int IntKind.i64 0), SC.val (Value.int IntKind.i64 0), SC.val (Value.int IntKind.i64 0), SC.val (Value.int IntKind.i64 0), SC.val (Value.int IntKind.i64 0), SC.val (Value.int IntKind.i64 0), SC.val (Value.int IntKind.i64 0), SC.val (Value.int IntKind.i64 0), SC.val (Value.int IntKind.i64 0), SC.val (Value.int IntKind.i64 0), SC.val (Value.int IntKind.i64 0), SC.val (Value.int IntKind.i64 0), SC.val (Value.int IntKind.i64 0), SC.val (Value.slice none (0 : Nat) (0 : Nat)), SC.val (Value.int IntKind.i64 0), SC.val (Value.int IntKind.i64 0), SC.val (Value.int IntKind.i64 0), SC.val (Value.int IntKind.i64 0), SC.val (Value.int IntKind.i64 0), SC.val (Value.int IntKind.i64 0), SC.val (Value.bool false)])) y ∧ ∀ (r : Bool), r = eqC x y → K (SX.v (SV.c (SC.val (Value.bool r)))) else K (SX.v (SV.c (SC.val (Value.bool false)))) else K (SX.v (SV.c (SC.val (Value.bool false)))) else K (SX.v (SV.c (SC.val (Value.bool false))))) : evFn Tryz.prog O w0 (ΓX O w0) Λn 100 8 9 [] [] (fun y _ => K y) := vc_of h_ (by kernel_rfl)
def gEx : EntF := fun O w0 args M k => match args with
  | [] => GlT O w0 ∧ ∀ r, r = true → k (bV r) M
  | _ => False
def ΓY : TabF := addF ΓX 9 gEx
set_option maxHeartbeats 4000000 in
set_option maxRecDepth 100000 in
theorem f3 (O : Nat → Prop) (w0 : World) (x : S33) (A : Option Addr) (c : Nat) (K : SX → Prop) (h_ : GlT O w0 ∧ ∃ x_1, CmdX O w0 (SX.v (SV.agg [SC.val (Value.int IntKind.i64 (S33.f0 x)), SC.val (Value.int IntKind.i64 (S33.f1 x)), SC.val (Value.int IntKind.i64 (S33.f2 x)), SC.val (Value.int IntKind.i64 (S33.f3 x)), SC.val (Value.int IntKind.i64 (S33.f4 x)), SC.val (Value.int IntKind.i64 (S33.f5 x)), SC.val (Value.int IntKind.i64 (S33.f6 x)), SC.val (Value.int IntKind.i64 (S33.f7 x)), SC.val (Value.int IntKind.i64 (S30.f0 (S33.f8 x))), SC.val (Value.int IntKind.i64 (S30.f1 (S33.f8 x))), SC.val (Value.int IntKind.i64 (S30.f2 (S33.f8 x))), SC.val (Value.int IntKind.i64 (S30.f3 (S33.f8 x))), SC.val (Value.int IntKind.i64 (S30.f4 (S33.f8 x))), SC.val (Value.int IntKind.i64 (S28.f0 (S30.f5 (S33.f8 x)))), SC.val (Value.int IntKind.i64 (S28.f1 (S30.f5 (S33.f8 x)))), SC.val (Value.int IntKind.i64 (S28.f2 (S30.f5 (S33.f8 x)))), SC.val (Value.int IntKind.i64 (S28.f3 (S30.f5 (S33.f8 x)))), SC.val (Value.int IntKind.i64 (S30.f6 (S33.f8 x))), SC.val (Value.int IntKind.i64 (S30.f7 (S33.f8 x))), SC.val (Value.int IntKind.i64 (S30.f8 (S33.f8 x))), SC.rsl A (1 : Nat) (ints (S33.f9 x)) (0 : Nat) (List.length (S33.f9 x)) c, SC.val (Value.int IntKind.i64 (S28.f0 (S33.f10 x))), SC.val (Value.int IntKind.i64 (S28.f1 (S33.f10 x))), SC.val (Value.int IntKind.i64 (S28.f2 (S33.f10 x))), SC.val (Value.int IntKind.i64 (S28.f3 (S33.f10 x))), SC.val (Value.int IntKind.i64 (S33.f11 x)), SC.val (Value.int IntKind.i64 (S33.f12 x)), SC.val (Value.bool (S33.f13 x))])) x_1 ∧ ∀ (r : ByteArray) (e : Int), LnIs x_1 r e → GlT O w0 ∧ ∃ x_2, CmdX O w0 (SX.v (SV.agg [SC.val (Value.int IntKind.i64 (S33.f0 x)), SC.val (Value.int IntKind.i64 (S33.f1 x)), SC.val (Value.int IntKind.i64 (S33.f2 x)), SC.val (Value.int IntKind.i64 (S33.f3 x)), SC.val (Value.int IntKind.i64 (S33.f4 x)), SC.val (Value.int IntKind.i64 (S33.f5 x)), SC.val (Value.int IntKind.i64 (S33.f6 x)), SC.val (Value.int IntKind.i64 (S33.f7 x)), SC.val (Value.int IntKind.i64 (S30.f0 (S33.f8 x))), SC.val (Value.int IntKind.i64 (S30.f1 (S33.f8 x))), SC.val (Value.int IntKind.i64 (S30.f2 (S33.f8 x))), SC.val (Value.int IntKind.i64 (S30.f3 (S33.f8 x))), SC.val (Value.int IntKind.i64 (S30.f4 (S33.f8 x))), SC.val (Value.int IntKind.i64 (S28.f0 (S30.f5 (S33.f8 x)))), SC.val (Value.int IntKind.i64 (S28.f1 (S30.f5 (S33.f8 x)))), SC.val (Value.int IntKind.i64 (S28.f2 (S30.f5 (S33.f8 x)))), SC.val (Value.int IntKind.i64 (S28.f3 (S30.f5 (S33.f8 x)))), SC.val (Value.int IntKind.i64 (S30.f6 (S33.f8 x))), SC.val (Value.int IntKind.i64 (S30.f7 (S33.f8 x))), SC.val (Value.int IntKind.i64 (S30.f8 (S33.f8 x))), SC.rsl A (1 : Nat) (ints (S33.f9 x)) (0 : Nat) (List.length (S33.f9 x)) c, SC.val (Value.int IntKind.i64 (S28.f0 (S33.f10 x))), SC.val (Value.int IntKind.i64 (S28.f1 (S33.f10 x))), SC.val (Value.int IntKind.i64 (S28.f2 (S33.f10 x))), SC.val (Value.int IntKind.i64 (S28.f3 (S33.f10 x))), SC.val (Value.int IntKind.i64 (S33.f11 x)), SC.val (Value.int IntKind.i64 (S33.f12 x)), SC.val (Value.bool (S33.f13 x))])) x_2 ∧ ∀ (r_1 : ByteArray) (e_1 : Int), LnIs x_2 r_1 e_1 → bif ByteArray.toList r == ByteArray.toList r_1 then bif e == e_1 then GlT O w0 ∧ ∀ (r : Bool), r = true → K (SX.v (SV.c (SC.val (Value.bool r)))) else K (SX.v (SV.c (SC.val (Value.bool false)))) else K (SX.v (SV.c (SC.val (Value.bool false))))) : evFn Tryz.prog O w0 (ΓY O w0) Λn 100 8 3 [cmdV x A c] [] (fun y _ => K y) := vc_of h_ (by kernel_rfl)
--HIDE
def cEx : S33 := { z33 with f0 := 9, f4 := 3 }
def drawB : ByteArray := ⟨#[100, 114, 97, 119, 32, 48, 32, 51]⟩
theorem chk_ex : chk cEx = 0 := by kernel_rfl
theorem pl_ex : plS drawB = (cEx, 0) := by kernel_rfl
theorem fi_0 : fiS 0 = ⟨#[48]⟩ := by
  unfold fiS Lib.itoa
  rw [if_neg (by decide), show (0 : Int).toNat = 0 from rfl, dec_small (by decide)]; rfl
theorem fi_3 : fiS 3 = ⟨#[51]⟩ := by
  unfold fiS Lib.itoa
  rw [if_neg (by decide), show (3 : Int).toNat = 3 from rfl, dec_small (by decide)]; rfl
theorem line_ex : byt (lineP cEx) = byt drawB := by
  have e : lineP cEx = joinT [nmS 9, fiS 0, fiS 3] := rfl
  rw [e, fi_0, fi_3, byt_joinT]
  rfl
theorem nilX {O : Nat → Prop} {w0 : World} {c : S33} (h9 : c.f9 = []) : CmdX O w0 (.v (.agg (cells33 c (.val (.slice none 0 0))))) c :=
  ⟨by rw [h9]; exact Nat.zero_le _, none, 0, fun β => den33 (by rw [h9]; rfl), fun j hj => by rw [h9] at hj; exact absurd hj (Nat.not_lt_zero j)⟩
theorem nil_ex {O : Nat → Prop} {w0 : World} : CmdX O w0 (.v (.agg (cells33 cEx (.val (.slice none 0 0))))) cEx := nilX rfl
theorem ΓX_ok : TSF Tryz.prog ΓX := (((Γz_ok.add e7).add pl10).add e12Z).add e8
theorem eqC_refl (c : S33) : eqC c c = true := by
  unfold eqC sqB v4B
  simp
set_option maxRecDepth 100000 in
theorem e9 (O : Nat → Prop) (w0 : World) : Entry Tryz.prog O w0 9 (gEx O w0) :=
  Entry.pure ΓX_ok 100 8 (g := gEx) (fun O w0 args M k hg => by
    unfold gEx at hg
    split at hg
    case h_2 => exact hg.elim
    obtain ⟨hG, hk⟩ := hg
    refine ⟨bV true, [], rfl, hk _ rfl, fun _ => rfl, fun w hw => ⟨Λn, @f9 _ w (fun y => y = bV true) ⟨hG.at hw, cEx, nil_ex, ?_⟩⟩⟩
    rintro r e ⟨rfl, hr⟩
    refine ⟨hG.at hw, ⟨show (8 : Nat) ≤ 1000000 by decide⟩, ?_⟩
    rintro c e1 ⟨hc, he1⟩ A cp
    have hpl : plS (ByteArray.mk #[100, 114, 97, 119, 32, 48, 32, 51]) = (cEx, 0) := pl_ex
    rw [hpl] at hc he1
    have hc : c = cEx := hc
    have he1 : e1 = 0 := he1
    subst hc he1
    rw [chk_ex, if_pos rfl] at hr
    have h1 : (r.toList == (ByteArray.mk #[100, 114, 97, 119, 32, 48, 32, 51]).toList) = true := by
      rw [beqT']
      unfold eqT
      have := line_ex
      rw [hr]
      exact beq_iff_eq.2 this.symm
    rw [h1, chk_ex]
    exact ⟨cEx, cEx, ⟨.inr ⟨by decide, A, cp, 0, _, rfl, rfl, fun w h => h⟩⟩, ⟨.inl ⟨by decide, .inl nil_ex⟩⟩, fun q hq => by rw [hq, eqC_refl]⟩) O w0
theorem ΓY_ok : TSF Tryz.prog ΓY := ΓX_ok.add e9
set_option maxRecDepth 100000 in
theorem law3e {w : World} (hG : GlT (fun _ => False) w) {x : S33} {A : Option Addr} {c : Nat} (hC : CmdX (fun _ => False) w (cmdV x A c) x) : evFn Tryz.prog (fun _ => False) w (ΓY (fun _ => False) w) Λn 100 8 3 [cmdV x A c] [] (fun y _ => y = bV true) := by
  refine @f3 _ w x A c (fun y => y = bV true) ⟨hG, x, hC, ?_⟩
  rintro r e ⟨rfl, hr⟩
  refine ⟨hG, x, hC, ?_⟩
  rintro r1 e1 ⟨rfl, hr1⟩
  subst hr hr1
  rw [beq_self_eq_true, beq_self_eq_true]
  exact ⟨hG, fun q hq => by rw [hq]⟩
--SHOW
end Go.Proofs.YtfhckpfiegenaaaGreatDoor.Tr
