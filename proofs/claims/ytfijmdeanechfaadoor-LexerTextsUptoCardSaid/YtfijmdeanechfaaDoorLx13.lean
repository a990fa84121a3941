/- The reference's number: its loop. -/
import Derived.Test.YtfijmdeanechfaaDoorLx12
namespace Go.Proofs.YtfijmdeanechfaaDoor.Lx
open Go Go.RowKit Go.Proofs.YtfijmdeanechfaaDoor.Eng
set_option linter.unusedVariables false
set_option linter.unusedSimpArgs false
def tailR (s : ByteArray) (a : Int) (e : Nat) (K : SX → Prop) : Prop := Cut (Option.getD (some a) (0 : Int)) (Option.getD (some (↑(e) : Int)) (↑(ByteArray.size s) : Int)) (↑(ByteArray.size s) : Int) ∧ (∀ (s_1 : N2), LInv.pre (I39 s a (↑(e) : Int) (ByteArray.extract s (Int.toNat a) (e))) s_1 → Nat.le (0 : Nat) (List.length (LInv.mem (I39 s a (↑(e) : Int) (ByteArray.extract s (Int.toNat a) (e))) s_1))) ∧ Fits (I39 s a (↑(e) : Int) (ByteArray.extract s (Int.toNat a) (e))) (N2.mk a (0 : Int)) (LInv.mem (I39 s a (↑(e) : Int) (ByteArray.extract s (Int.toNat a) (e))) (N2.mk a (0 : Int))) (LInv.tmp (I39 s a (↑(e) : Int) (ByteArray.extract s (Int.toNat a) (e))) (N2.mk a (0 : Int))) ∧ ∀ (s_1 : N2) (J : Nat → Value), LInv.pre (I39 s a (↑(e) : Int) (ByteArray.extract s (Int.toNat a) (e))) s_1 → bif decide (s_1.1 < (↑(e) : Int)) then In s_1.1 (↑(ByteArray.size s) : Int) ∧ bif decide (IntKind.wrap IntKind.i64 (IntKind.wrap IntKind.i64 (Tok.value (Tok.mk (2 : Int) (ByteArray.extract s (Int.toNat a) (e)) s_1.2 (0 : Int)) * (10 : Int)) + IntKind.wrap IntKind.i64 (IntKind.wrap IntKind.u8 (bAt s s_1.1 - (48 : Int)))) > (2147483647 : Int)) then K (SX.tup [SV.agg [SC.val (Value.int IntKind.i64 (2 : Int)), SC.val (Value.string (Tok.text (Tok.mk (2 : Int) (ByteArray.extract s (Int.toNat a) (e)) s_1.2 (0 : Int)))), SC.val (Value.int IntKind.i64 (IntKind.wrap IntKind.i64 (IntKind.wrap IntKind.i64 (Tok.value (Tok.mk (2 : Int) (ByteArray.extract s (Int.toNat a) (e)) s_1.2 (0 : Int)) * (10 : Int)) + IntKind.wrap IntKind.i64 (IntKind.wrap IntKind.u8 (bAt s s_1.1 - (48 : Int)))))), SC.val (Value.int IntKind.i64 (0 : Int))], SV.c (SC.val (Value.int IntKind.i64 (↑(e) : Int))), SV.c (SC.val (Value.int IntKind.i64 (6 : Int)))]) else Fits (I39 s a (↑(e) : Int) (ByteArray.extract s (Int.toNat a) (e))) (N2.mk (IntKind.wrap IntKind.i64 (s_1.1 + (1 : Int))) (IntKind.wrap IntKind.i64 (IntKind.wrap IntKind.i64 (Tok.value (Tok.mk (2 : Int) (ByteArray.extract s (Int.toNat a) (e)) s_1.2 (0 : Int)) * (10 : Int)) + IntKind.wrap IntKind.i64 (IntKind.wrap IntKind.u8 (bAt s s_1.1 - (48 : Int)))))) (LInv.mem (I39 s a (↑(e) : Int) (ByteArray.extract s (Int.toNat a) (e))) (N2.mk (IntKind.wrap IntKind.i64 (s_1.1 + (1 : Int))) (IntKind.wrap IntKind.i64 (IntKind.wrap IntKind.i64 (Tok.value (Tok.mk (2 : Int) (ByteArray.extract s (Int.toNat a) (e)) s_1.2 (0 : Int)) * (10 : Int)) + IntKind.wrap IntKind.i64 (IntKind.wrap IntKind.u8 (bAt s s_1.1 - (48 : Int))))))) (LInv.tmp (I39 s a (↑(e) : Int) (ByteArray.extract s (Int.toNat a) (e))) (N2.mk (IntKind.wrap IntKind.i64 (s_1.1 + (1 : Int))) (IntKind.wrap IntKind.i64 (IntKind.wrap IntKind.i64 (Tok.value (Tok.mk (2 : Int) (ByteArray.extract s (Int.toNat a) (e)) s_1.2 (0 : Int)) * (10 : Int)) + IntKind.wrap IntKind.i64 (IntKind.wrap IntKind.u8 (bAt s s_1.1 - (48 : Int))))))) ∧ Dec (I39 s a (↑(e) : Int) (ByteArray.extract s (Int.toNat a) (e))) (N2.mk (IntKind.wrap IntKind.i64 (s_1.1 + (1 : Int))) (IntKind.wrap IntKind.i64 (IntKind.wrap IntKind.i64 (Tok.value (Tok.mk (2 : Int) (ByteArray.extract s (Int.toNat a) (e)) s_1.2 (0 : Int)) * (10 : Int)) + IntKind.wrap IntKind.i64 (IntKind.wrap IntKind.u8 (bAt s s_1.1 - (48 : Int)))))) s_1 else K (SX.tup [SV.agg [SC.val (Value.int IntKind.i64 (2 : Int)), SC.val (Value.string (Tok.text (Tok.mk (2 : Int) (ByteArray.extract s (Int.toNat a) (e)) s_1.2 (0 : Int)))), SC.val (Value.int IntKind.i64 (Tok.value (Tok.mk (2 : Int) (ByteArray.extract s (Int.toNat a) (e)) s_1.2 (0 : Int)))), SC.val (Value.int IntKind.i64 (0 : Int))], SV.c (SC.val (Value.int IntKind.i64 (↑(e) : Int))), SV.c (SC.val (Value.int IntKind.i64 (0 : Int)))])
theorem tailR_ok {s : ByteArray} {n e1 : Nat} (h : NumAt s n) (he1 : e1 = runE isDg s n) (hd : AllD (s.extract n e1)) (K : SX → Prop)
    (ok : decV (s.extract n e1) (s.extract n e1).size ≤ 2147483647 → K (.tup [.agg [.val (.int .i64 2), .val (.string (s.extract n e1)), .val (.int .i64 (decV (s.extract n e1) (s.extract n e1).size)), .val (.int .i64 0)], .c (.val (.int .i64 e1)), .c (.val (.int .i64 0))]))
    (bad : 2147483647 < decV (s.extract n e1) (s.extract n e1).size → ∀ a b c d e, K (.tup [.agg [.val (.int .i64 a), .val (.string b), .val (.int .i64 c), .val (.int .i64 d)], .c (.val (.int .i64 e)), .c (.val (.int .i64 6))])) : tailR s n e1 K := by
  have h1 := h.gt; have h2 := h.e_le; have h3 := h.le; have h4 := h.lt
  rw [← he1] at h1 h2
  have hz := ext_size s n e1 h2
  unfold tailR
  rw [Int.toNat_natCast]
  refine ⟨⟨by show (0 : Int) ≤ (n : Int); omega, by show (n : Int) ≤ (e1 : Int); omega, by show (e1 : Int) ≤ _; omega⟩, fun _ _ => Nat.zero_le _, ⟨⟨Int.le_refl _, by omega, by rw [Int.sub_self]; rfl, by decide⟩, rfl, fun _ => rfl⟩, ?_⟩
  rintro ⟨i, v⟩ J ⟨q0, q1, q2, q3⟩
  obtain ⟨m, rfl⟩ : ∃ m : Nat, i = ((n + m : Nat) : Int) := ⟨(i - n).toNat, by omega⟩
  rw [show (((n + m : Nat) : Int) - (n : Int)).toNat = m by omega] at q2
  dsimp only
  have hv0 := decV_ge hd m (by omega)
  refine cond_of (fun c => ?_) (fun c => ?_)
  · have c : ((n + m : Nat) : Int) < (e1 : Int) := of_decide_eq_true c
    have hb := AllD.at hd (i := (m : Int)) (by omega) (by omega)
    rw [bAt_ext s (by omega)] at hb
    have hs : decV (s.extract n e1) (m + 1) = v * 10 + (bAt s ((n + m : Nat) : Int) - 48) := by
      show decV _ m * 10 + (bAt _ (m : Int) - 48) = _
      rw [bAt_ext s (by omega), q2]
    have hm := decV_mono hd (i := m + 1) (s.extract n e1).size (by omega) (Nat.le_refl _)
    rw [wrap8 (n := _ - 48) (by omega) (by omega), wrap_in (n := bAt _ _ - 48) (by omega) (by omega), wrap_in (n := v * 10) (by omega) (by omega), wrap_in (n := v * 10 + _) (by omega) (by omega), wrap_in (n := ((n + m : Nat) : Int) + 1) (by omega) (by omega)]
    refine ⟨⟨by omega, by omega⟩, cond_of (fun k => bad (by have := of_decide_eq_true k; omega) _ _ _ _ _) (fun k => ⟨⟨⟨by omega, by omega, ?_, by have := of_decide_eq_false k; omega⟩, rfl, fun _ => rfl⟩, ⟨by show (_ : Int).toNat < (_ : Int).toNat; omega⟩⟩)⟩
    rw [show (((n + m : Nat) : Int) + 1 - (n : Int)).toNat = m + 1 by omega, hs]
  · have c : ¬ ((n + m : Nat) : Int) < (e1 : Int) := of_decide_eq_false c
    have hm : m = (s.extract n e1).size := by omega
    rw [hm] at q2
    rw [q2]
    exact ok (by omega)
end Go.Proofs.YtfijmdeanechfaaDoor.Lx
