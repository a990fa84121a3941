/- Lines and the reference's Lines. -/
import Derived.Test.YtfijmdeanechfaaDoorLx16
namespace Go.Proofs.YtfijmdeanechfaaDoor.Lx
open Go Go.RowKit Go.Proofs.YtfijmdeanechfaaDoor.Eng
set_option linter.unusedVariables false
set_option linter.unusedSimpArgs false
/-- The number of line feeds among the first bytes. -/
def cnt (s : ByteArray) : Nat → Int
  | 0 => 0
  | i + 1 => cnt s i + bif bAt s i == 10 then 1 else 0
def I20 (s : ByteArray) : LInv where
  σ := N2
  pre := fun ⟨i, n⟩ => 0 ≤ i ∧ i ≤ s.size ∧ n = 1 + cnt s i.toNat
  mem := fun _ => []
  tmp := fun ⟨i, n⟩ J => [tV s, undefX, iV 0, iV n, iV i, jV (J 5), jV (J 6), jV (J 7), jV (J 8), jV (J 9), jV (J 10), jV (J 11), jV (J 12), jV (J 13), jV (J 14), jV (J 15), jV (J 16), jV (J 17)]
  read := fun _ ts => rI2 ts 4 3
  junk := [5, 6, 7, 8, 9, 10, 11, 12, 13, 14, 15, 16, 17]
  μ := fun ⟨i, _⟩ => (s.size - i).toNat
set_option maxHeartbeats 4000000 in
set_option maxRecDepth 100000 in
theorem f13 (O : Nat → Prop) (w0 : World) (s : ByteArray) (K : SX → Prop) (h_ : K (SX.v (SV.c (SC.val (Value.int IntKind.i64 (IntKind.wrap IntKind.i64 ((↑(Lib.countByte (Array.toList (ByteArray.data s)) (10 : UInt8)) : Int) + (1 : Int)))))))) : evFn Tryd.prog O w0 (Γ18 O w0) Λn 100 5 13 [tV s] [] (fun y _ => K y) := vc_of h_ (by kernel_rfl)
set_option maxHeartbeats 4000000 in
set_option maxRecDepth 100000 in
theorem f20 (O : Nat → Prop) (w0 : World) (s : ByteArray) (K : SX → Prop) (h_ : (∀ (s_1 : N2), LInv.pre (I20 s) s_1 → Nat.le (0 : Nat) (List.length (LInv.mem (I20 s) s_1))) ∧ Fits (I20 s) (N2.mk (0 : Int) (1 : Int)) (LInv.mem (I20 s) (N2.mk (0 : Int) (1 : Int))) (LInv.tmp (I20 s) (N2.mk (0 : Int) (1 : Int))) ∧ ∀ (s_1 : N2) (J : Nat → Value), LInv.pre (I20 s) s_1 → bif decide (s_1.1 < (↑(ByteArray.size s) : Int)) then In s_1.1 (↑(ByteArray.size s) : Int) ∧ bif bAt s s_1.1 == (10 : Int) then Fits (I20 s) (N2.mk (IntKind.wrap IntKind.i64 (s_1.1 + (1 : Int))) (IntKind.wrap IntKind.i64 (s_1.2 + (1 : Int)))) (LInv.mem (I20 s) (N2.mk (IntKind.wrap IntKind.i64 (s_1.1 + (1 : Int))) (IntKind.wrap IntKind.i64 (s_1.2 + (1 : Int))))) (LInv.tmp (I20 s) (N2.mk (IntKind.wrap IntKind.i64 (s_1.1 + (1 : Int))) (IntKind.wrap IntKind.i64 (s_1.2 + (1 : Int))))) ∧ Dec (I20 s) (N2.mk (IntKind.wrap IntKind.i64 (s_1.1 + (1 : Int))) (IntKind.wrap IntKind.i64 (s_1.2 + (1 : Int)))) s_1 else Fits (I20 s) (N2.mk (IntKind.wrap IntKind.i64 (s_1.1 + (1 : Int))) s_1.2) (LInv.mem (I20 s) (N2.mk (IntKind.wrap IntKind.i64 (s_1.1 + (1 : Int))) s_1.2)) (LInv.tmp (I20 s) (N2.mk (IntKind.wrap IntKind.i64 (s_1.1 + (1 : Int))) s_1.2)) ∧ Dec (I20 s) (N2.mk (IntKind.wrap IntKind.i64 (s_1.1 + (1 : Int))) s_1.2) s_1 else K (SX.v (SV.c (SC.val (Value.int IntKind.i64 s_1.2))))) : evFn Tryd.prog O w0 (Γ18 O w0) (Λof 20 (I20 s)) 100 5 20 [tV s] [] (fun y _ => K y) := vc_of h_ (by kernel_rfl)
def gLn : EntF := fun _ _ args M k => match args with
  | [.v (.c (.val (.string s)))] => Cat s.size 1 ∧ k (iV (1 + cnt s s.size)) M
  | _ => False
def Γ19 : TabF := addF (addF Γ18 13 gLn) 20 gLn
--HIDE
theorem cnt_in (s : ByteArray) : ∀ i, 0 ≤ cnt s i ∧ cnt s i ≤ i
  | 0 => ⟨Int.le_refl _, Int.le_refl _⟩
  | i + 1 => by
    have := cnt_in s i
    show 0 ≤ cnt s i + (bif _ then _ else _) ∧ cnt s i + (bif _ then _ else _) ≤ _
    cases bAt s i == 10 <;> simp <;> omega
theorem cnt_take {s : ByteArray} : ∀ i, i ≤ s.size → (Lib.countByte (s.data.toList.take i) 10 : Int) = cnt s i
  | 0, _ => by simp [Lib.countByte, cnt]
  | i + 1, h => by
    have ih := cnt_take (s := s) i (by omega)
    have hl : i < s.data.toList.length := by show i < s.size; omega
    rw [List.take_succ_eq_append_getElem hl]
    unfold Lib.countByte at ih ⊢
    rw [List.count_append, Int.natCast_add, ih]
    show _ = cnt s i + (bif bAt s i == 10 then 1 else 0)
    congr 1
    have hb : bAt s i = (s.data.toList[i].toNat : Int) := by
      unfold bAt; rw [Int.toNat_natCast, List.getD_eq_getElem?_getD, List.getElem?_eq_getElem hl]; rfl
    rw [hb]
    by_cases e : s.data.toList[i] = 10
    · rw [e]; rfl
    · have e2 : ¬ (s.data.toList[i].toNat : Int) = 10 := fun c => e (by rw [← UInt8.toNat_inj]; show _ = 10; omega)
      rw [show ((s.data.toList[i].toNat : Int) == 10) = false by simpa using e2, List.count_singleton]
      simpa using e
theorem e13 (O : Nat → Prop) (w0 : World) : Entry Tryd.prog O w0 13 (gLn O w0) :=
  Entry.pure Γ18_ok 100 5 (g := gLn) (fun O w0 args M k hg => by
    unfold gLn at hg
    split at hg
    case h_2 => exact hg.elim
    rename_i s
    obtain ⟨⟨hle⟩, hk⟩ := hg
    refine ⟨_, _, rfl, hk, fun _ => rfl, fun w hw => ⟨_, f13 _ w s _ ?_⟩⟩
    have h := cnt_take (s := s) s.size (Nat.le_refl _)
    rw [List.take_of_length_le (by show s.size ≤ s.size; omega)] at h
    have hb := cnt_in s s.size
    rw [h, wrap_in (by omega) (by omega), Int.add_comm]) O w0
theorem e20 (O : Nat → Prop) (w0 : World) : Entry Tryd.prog O w0 20 (gLn O w0) :=
  Entry.pure Γ18_ok 100 5 (g := gLn) (fun O w0 args M k hg => by
    unfold gLn at hg
    split at hg
    case h_2 => exact hg.elim
    rename_i s
    obtain ⟨⟨hle⟩, hk⟩ := hg
    refine ⟨_, _, rfl, hk, fun _ => rfl, fun w hw => ⟨_, f20 _ w s _ ⟨fun _ _ => Nat.zero_le _, ⟨⟨by omega, by omega, rfl⟩, rfl, fun _ => rfl⟩, ?_⟩⟩⟩
    rintro ⟨i, n⟩ J ⟨h0, h1, h2⟩
    obtain ⟨m, rfl⟩ : ∃ m : Nat, i = m := ⟨i.toNat, by omega⟩
    rw [Int.toNat_natCast] at h2
    have hb := cnt_in s m
    dsimp only
    refine cond_of (fun h => ?_) (fun h => ?_)
    · have h := of_decide_eq_true h
      have e : ((m : Int) + 1).toNat = m + 1 := by omega
      have ec : cnt s (m + 1) = cnt s m + bif bAt s m == 10 then 1 else 0 := rfl
      rw [wrap_in (n := (m : Int) + 1) (by omega) (by omega), wrap_in (n := n + 1) (by omega) (by omega)]
      refine ⟨⟨by omega, h⟩, cond_of (fun c => ?_) (fun c => ?_)⟩
      · refine ⟨⟨⟨by omega, by omega, ?_⟩, rfl, fun _ => rfl⟩, ⟨by show (_ : Int).toNat < (_ : Int).toNat; omega⟩⟩
        rw [e, ec, c, h2, cond_true]; omega
      · refine ⟨⟨⟨by omega, by omega, ?_⟩, rfl, fun _ => rfl⟩, ⟨by show (_ : Int).toNat < (_ : Int).toNat; omega⟩⟩
        rw [e, ec, c, h2, cond_false]; omega
    · have h := of_decide_eq_false h
      rw [h2, show m = s.size by omega]) O w0
theorem Γ19_ok : TSF Tryd.prog Γ19 := (Γ18_ok.add e13).add e20
--SHOW
end Go.Proofs.YtfijmdeanechfaaDoor.Lx
