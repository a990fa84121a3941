/- Same and the example: entries. The laws LexerLexes and LexerWords: conditions. -/
import Derived.Test.YtfijmdeanechfaaDoorLx23
namespace Go.Proofs.YtfijmdeanechfaaDoor.Lx
open Go Go.RowKit Go.Proofs.YtfijmdeanechfaaDoor.Eng
set_option linter.unusedVariables false
set_option linter.unusedSimpArgs false
def gSame : EntF := fun _ _ args M k => match args with
  | [.v (.c (.lst p)), .v (.c (.lst q))] => ∃ ts, M[p]? = some (tkL ts) ∧ M[q]? = some (tkL ts) ∧ Cat ts.length 0 ∧ k (bV true) M
  | [.v (.c (.val (.slice none 0 0))), .v (.c (.val (.slice none 0 0)))] => k (bV true) M
  | _ => False
def gEx : EntF := fun O w0 args M k => match args with
  | [] => GlS 2 sgWords O w0 ∧ k (bV true) M
  | _ => False
def Γ21 : TabF := addF (addF Γ20 12 gSame) 10 gEx
--HIDE
theorem ΓE_ok : TSF Tryd.prog ΓE := (((Γ0_ok.add e63).add e33).add e18)
theorem e12 (O : Nat → Prop) (w0 : World) : Entry Tryd.prog O w0 12 (gSame O w0) :=
  Entry.pureM Γ20_ok 100 5 (g := gSame) (fun O w0 args M k hg => by
    unfold gSame at hg
    split at hg
    case h_3 => exact hg.elim
    · rename_i p q
      obtain ⟨ts, hp, hq, ⟨hle⟩, hk⟩ := hg
      refine ⟨bV true, rfl, hk, fun β w hI => ?_⟩
      obtain ⟨ep, rp⟩ := hI.rows hp
      obtain ⟨eq, rq⟩ := hI.rows hq
      refine ⟨[tkV (β.v p).1 (fun j => ts.getD j z4) ts.length (β.v p).2.2, tkV (β.v q).1 (fun j => ts.getD j z4) ts.length (β.v q).2.2], _, ?_, f12 _ w (β.v p).1 (β.v q).1 (fun j => ts.getD j z4) ts.length (β.v p).2.2 (β.v q).2.2 _ ?_⟩
      · have ep : (tkV (β.v p).1 (fun j => ts.getD j z4) ts.length (β.v p).2.2).den β = (SX.v (.c (.lst p))).den β := ep.symm
        have eq : (tkV (β.v q).1 (fun j => ts.getD j z4) ts.length (β.v q).2.2).den β = (SX.v (.c (.lst q))).den β := eq.symm
        unfold fr; simp only [List.map_cons, ep, eq, List.map_nil]
      · refine cond_of (fun h => by simp at h) (fun _ => ⟨fun _ _ => Nat.zero_le _, ⟨⟨by omega, by omega⟩, rfl, fun _ => rfl⟩, ?_⟩)
        rintro ⟨i⟩ J ⟨h0, h1⟩
        dsimp only
        refine cond_of (fun h => ?_) (fun _ => fun _ => rfl)
        have h := of_decide_eq_true h
        rw [Nat.zero_add, wrap_in (by omega) (by omega)]
        have hr := rp i.toNat (by omega)
        have hs := rq i.toNat (by omega)
        refine ⟨⟨h0, h⟩, hr.1, hr.2, ⟨h0, h⟩, hs.1, hs.2, cond_of (fun c => by simp at c) (fun _ => ⟨⟨⟨by omega, by omega⟩, rfl, fun _ => rfl⟩, ⟨by show (_ : Int).toNat < (_ : Int).toNat; omega⟩⟩)⟩
    · exact ⟨bV true, rfl, hg, fun β w hI => ⟨[.v (.c (.val (.slice none 0 0))), .v (.c (.val (.slice none 0 0)))], Λn, rfl, f12n _ w _ (fun _ => rfl)⟩⟩) O w0
set_option maxRecDepth 100000 in
theorem e10 (O : Nat → Prop) (w0 : World) : Entry Tryd.prog O w0 10 (gEx O w0) :=
  Entry.pure ΓE_ok 100 10 (g := gEx) (fun O w0 args M k hg => by
    unfold gEx at hg
    split at hg
    case h_2 => exact hg.elim
    refine ⟨_, [], rfl, hg.2, fun _ => rfl, fun w hw => ⟨Λn, f10 _ w _ ?_⟩⟩
    have hG := hg.1.at hw
    repeat' first | exact hG | rfl | (refine And.intro ?_ ?_) | (refine In.mk ?_ ?_ <;> decide) | (refine Cut.mk ?_ ?_ ?_ <;> decide) | exact room_of (by decide) (by decide)) O w0
theorem Γ21_ok : TSF Tryd.prog Γ21 := (Γ20_ok.add e12).add e10
--SHOW
set_option maxHeartbeats 4000000 in
set_option maxRecDepth 100000 in
theorem f3 (O : Nat → Prop) (w0 : World) (s : ByteArray) (K : SX → Prop) (h_ : bif decide ((↑(ByteArray.size s) : Int) > (20000 : Int)) then Cat (ByteArray.size s) (6 : Nat) ∧ GlS (2 : Nat) sgWords O w0 ∧ (LexR.err (lexT s) ≠ (0 : Int) → bif LexR.line (lexT s) == (0 : Int) then bif LexR.err (lexT s) == (5 : Int) then GlS (2 : Nat) sgWords O w0 ∧ K (SX.v (SV.c (SC.val (Value.bool true)))) else K (SX.v (SV.c (SC.val (Value.bool false)))) else K (SX.v (SV.c (SC.val (Value.bool false))))) ∧ (LexR.err (lexT s) = (0 : Int) → ∀ (ts : List Tok), LexIs s ts → bif (↑(List.length ts) : Int) == (0 : Int) then K (SX.v (SV.c (SC.val (Value.bool false)))) else K (SX.v (SV.c (SC.val (Value.bool false))))) else Cat (ByteArray.size s) (6 : Nat) ∧ GlS (2 : Nat) sgWords O w0 ∧ (LexR.err (lexT s) ≠ (0 : Int) → Cat (ByteArray.size s) (6 : Nat) ∧ (LexR.err (lexT s) ≠ (0 : Int) → bif LexR.line (lexT s) == LexR.line (lexT s) then bif LexR.err (lexT s) == LexR.err (lexT s) then GlS (2 : Nat) sgWords O w0 ∧ K (SX.v (SV.c (SC.val (Value.bool true)))) else K (SX.v (SV.c (SC.val (Value.bool false)))) else K (SX.v (SV.c (SC.val (Value.bool false))))) ∧ (LexR.err (lexT s) = (0 : Int) → ∀ (ts : List Tok), LexIs s ts → False)) ∧ (LexR.err (lexT s) = (0 : Int) → ∀ (ts : List Tok), LexIs s ts → Cat (ByteArray.size s) (6 : Nat) ∧ (LexR.err (lexT s) ≠ (0 : Int) → False) ∧ (LexR.err (lexT s) = (0 : Int) → ∀ (ts_1 : List Tok), LexIs s ts_1 → ∃ ts_2, some (Blk.lst (nat_lit 33) (4 : Nat) (List.length ts) fun j ↦ [SC.val (Value.int IntKind.i64 (Tok.kind (List.getD ts j z4))), SC.val (Value.string (Tok.text (List.getD ts j z4))), SC.val (Value.int IntKind.i64 (Tok.value (List.getD ts j z4))), SC.val (Value.int IntKind.i64 (Tok.line (List.getD ts j z4)))]) = some (Blk.lst (nat_lit 33) (4 : Nat) (List.length ts_2) fun j ↦ [SC.val (Value.int IntKind.i64 (Tok.kind (List.getD ts_2 j z4))), SC.val (Value.string (Tok.text (List.getD ts_2 j z4))), SC.val (Value.int IntKind.i64 (Tok.value (List.getD ts_2 j z4))), SC.val (Value.int IntKind.i64 (Tok.line (List.getD ts_2 j z4)))]) ∧ some (Blk.lst (nat_lit 33) (4 : Nat) (List.length ts_1) fun j ↦ [SC.val (Value.int IntKind.i64 (Tok.kind (List.getD ts_1 j z4))), SC.val (Value.string (Tok.text (List.getD ts_1 j z4))), SC.val (Value.int IntKind.i64 (Tok.value (List.getD ts_1 j z4))), SC.val (Value.int IntKind.i64 (Tok.line (List.getD ts_1 j z4)))]) = some (Blk.lst (nat_lit 33) (4 : Nat) (List.length ts_2) fun j ↦ [SC.val (Value.int IntKind.i64 (Tok.kind (List.getD ts_2 j z4))), SC.val (Value.string (Tok.text (List.getD ts_2 j z4))), SC.val (Value.int IntKind.i64 (Tok.value (List.getD ts_2 j z4))), SC.val (Value.int IntKind.i64 (Tok.line (List.getD ts_2 j z4)))]) ∧ Cat (List.length ts_2) (0 : Nat) ∧ GlS (2 : Nat) sgWords O w0 ∧ K (SX.v (SV.c (SC.val (Value.bool true))))))) : evFn Tryd.prog O w0 (Γ21 O w0) Λn 100 5 3 [tV s] [] (fun y _ => K y) := vc_of h_ (by kernel_rfl)
set_option maxHeartbeats 4000000 in
set_option maxRecDepth 100000 in
theorem f6 (O : Nat → Prop) (w0 : World) (s : ByteArray) (K : SX → Prop) (h_ : (GlS (1 : Nat) tyWords O w0 ∧ GlS (0 : Nat) otWords O w0) ∧ True ∧ bif hasW kyWords s == hasW kyWords s then GlS (1 : Nat) tyWords O w0 ∧ True ∧ bif hasW tyWords s == hasW tyWords s then GlS (2 : Nat) sgWords O w0 ∧ True ∧ bif hasW sgWords s == hasW sgWords s then Cat (ByteArray.size s) (1 : Nat) ∧ Cat (ByteArray.size s) (1 : Nat) ∧ bif (1 : Int) + cnt s (ByteArray.size s) == (1 : Int) + cnt s (ByteArray.size s) then GlS (2 : Nat) sgWords O w0 ∧ K (SX.v (SV.c (SC.val (Value.bool true)))) else K (SX.v (SV.c (SC.val (Value.bool false)))) else K (SX.v (SV.c (SC.val (Value.bool false)))) else K (SX.v (SV.c (SC.val (Value.bool false)))) else K (SX.v (SV.c (SC.val (Value.bool false))))) : evFn Tryd.prog O w0 (Γ21 O w0) Λn 100 5 6 [tV s] [] (fun y _ => K y) := vc_of h_ (by kernel_rfl)
end Go.Proofs.YtfijmdeanechfaaDoor.Lx
