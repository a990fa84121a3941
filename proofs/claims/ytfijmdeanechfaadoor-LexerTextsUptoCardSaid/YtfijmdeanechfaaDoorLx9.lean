/- Contract of the reference's ParseFixed on texts of digits with a point. -/
import Derived.Test.YtfijmdeanechfaaDoorLx8
namespace Go.Proofs.YtfijmdeanechfaaDoor.Lx
open Go Go.RowKit Go.Proofs.YtfijmdeanechfaaDoor.Eng
set_option linter.unusedVariables false
set_option linter.unusedSimpArgs false
set_option maxRecDepth 100000 in
set_option maxHeartbeats 1000000 in
theorem fix_bodyR {s : ByteArray} {p : Nat} (hF : FixW s p) (x : SX) (hx1 : W46 s p ≤ 8191 → (SX.tup [.c (.val (.int .i64 (fixV s p))), .c (.val (.int .i64 0))]) = x) (hx2 : 8191 < W46 s p → (SX.tup [.c (.val (.int .i64 0)), .c (.val (.int .i64 6))]) = x) (w : World) : evFn Tryd.prog (fun _ => False) w (Γ15 p (fun _ => False) w) Λn 100 5 49 [tV s] [] (fun y _ => y = x) := by
  have hcut := hF.cut
  have hlt := hcut.lt; have hlo := hF.lo; have hhi := hF.hi; have hle := hcut.le
  have hus : (s.extract (p + 1) s.size).size = s.size - p - 1 := by rw [ext_size _ _ _ (Nat.le_refl _)]; omega
  have hvs : (s.extract 0 p).size = p := by rw [ext_size _ _ _ (by omega)]; omega
  have hp0 : 0 < p := by have := hF.nz.pos; omega
  have hb0 : bAt s 0 ≠ 45 := by
    have := AllD.at hF.whole (i := ((0 : Nat) : Int)) (by omega) (by omega)
    rw [bAt_ext s (by omega)] at this
    have e : ((0 + 0 : Nat) : Int) = 0 := rfl
    rw [e] at this
    omega
  have hW : 0 ≤ W46 s p := decV_ge hF.whole (s.extract 0 p).size (Nat.le_refl _)
  have hF0 : 0 ≤ F46 s p := decV_ge hF.part _ (Nat.le_refl _)
  have hF1 : F46 s p < 10 ^ (s.extract (p + 1) s.size).size := decV_lt hF.part _ (Nat.le_refl _)
  obtain ⟨q, hq⟩ : ∃ q : Int, q = 10 ^ (s.size - p - 1) := ⟨_, rfl⟩
  have hd : (F46 s p * 65536 + q / 2) / q ≤ 65535 ∧ 0 ≤ (F46 s p * 65536 + q / 2) / q ∧ q ≤ 100000 ∧ F46 s p < 100000 := by
    rw [hus] at hF1
    have hm5 : s.size - p - 1 = 1 ∨ s.size - p - 1 = 2 ∨ s.size - p - 1 = 3 ∨ s.size - p - 1 = 4 ∨ s.size - p - 1 = 5 := by omega
    rcases hm5 with e | e | e | e | e <;> rw [e] at hq hF1
    · obtain rfl : q = 10 := hq; have hF1 : F46 s p < 10 := hF1; omega
    · obtain rfl : q = 100 := hq; have hF1 : F46 s p < 100 := hF1; omega
    · obtain rfl : q = 1000 := hq; have hF1 : F46 s p < 1000 := hF1; omega
    · obtain rfl : q = 10000 := hq; have hF1 : F46 s p < 10000 := hF1; omega
    · obtain rfl : q = 100000 := hq; have hF1 : F46 s p < 100000 := hF1; omega
  have hfix : fixV s p = W46 s p * 65536 + (F46 s p * 65536 + q / 2) / q := by unfold fixV; rw [hq]
  have hwp : IntKind.i64.wrap ((p : Int) + 1) = ((p + 1 : Nat) : Int) := wrap_in (by omega) (by omega)
  have hwk1 : IntKind.i64.wrap ((s.size : Int) - (p : Int)) = ((s.size - p : Nat) : Int) := by rw [wrap_in (by omega) (by omega)]; omega
  have hwk2 : IntKind.i64.wrap (((s.size - p : Nat) : Int) - 1) = ((s.size - p - 1 : Nat) : Int) := by rw [wrap_in (by omega) (by omega)]; omega
  have hsF : satN (decV (s.extract (p + 1) s.size) (s.extract (p + 1) s.size).size) = F46 s p := by
    show satN (F46 s p) = _
    unfold satN; rw [if_pos (by omega)]
  refine f49 _ w s p _ (cond_of (fun _ => ⟨⟨by omega, by omega⟩, cond_of (fun h => absurd (by simpa using h) hb0) (fun _ => ⟨hcut, cond_of (fun h => absurd (show (p : Int) = s.size by simpa using h) (by omega)) (fun _ => ?_)⟩)⟩) (fun h => absurd (of_decide_eq_false h) (by omega)))
  rw [hwp, hwk1, hwk2]
  have hk : ((s.size - p - 1 : Nat) : Int).toNat = s.size - p - 1 := rfl
  refine ⟨⟨by omega, by show (0 : Int) ≤ (p : Int); omega, by show (p : Int) ≤ _; omega⟩, hF.whole, hF.nz, ⟨by show (0 : Int) ≤ ((p + 1 : Nat) : Int); omega, by show ((p + 1 : Nat) : Int) ≤ (s.size : Int); omega, by show (s.size : Int) ≤ _; omega⟩, hF.part, ⟨by omega, by show (0 : Int) < ((s.extract (p + 1) s.size).size : Int); omega⟩, cond_of (fun h => absurd (of_decide_eq_true h) (by omega)) (fun _ => ?_)⟩
  refine cond_of (fun c => ?_) (fun c => ?_)
  · have c : satN (W46 s p) > 536870911 := of_decide_eq_true c
    exact hx2 (by unfold satN at c; split at c <;> omega)
  · have c : ¬ satN (W46 s p) > 536870911 := of_decide_eq_false c
    have hsW : satN (W46 s p) = W46 s p := by
      unfold satN at c ⊢
      split at c
      · rename_i hc; rw [if_pos hc]
      · omega
    have hW2 : W46 s p ≤ 536870911 := by omega
    have hw2 : IntKind.i64.wrap (F46 s p * 65536) = F46 s p * 65536 := wrap_in (by omega) (by omega)
    have hw3 : IntKind.i64.wrap (W46 s p * 65536) = W46 s p * 65536 := wrap_in (by omega) (by omega)
    have hw4 : IntKind.i64.wrap (W46 s p * 65536 + (F46 s p * 65536 + q / 2) / q) = fixV s p := by rw [hfix]; exact wrap_in (by omega) (by omega)
    refine ⟨⟨by omega, by omega⟩, ⟨by omega, by omega⟩, s.size - p - 1, ⟨by omega, by omega, by rw [hk]⟩, ?_⟩
    rw [show (bAt s 0 == 45) = false by simpa using hb0]
    show In (IntKind.i64.wrap (satN (F46 s p) * 65536)) 6553600001 ∧ bif decide (IntKind.i64.wrap (IntKind.i64.wrap (satN (W46 s p) * 65536) + (IntKind.i64.wrap (satN (F46 s p) * 65536) + 10 ^ (s.size - p - 1) / 2) / 10 ^ (s.size - p - 1)) > 536870911) then _ = x else SX.tup [.c (.val (.int .i64 (IntKind.i64.wrap (IntKind.i64.wrap (satN (W46 s p) * 65536) + (IntKind.i64.wrap (satN (F46 s p) * 65536) + 10 ^ (s.size - p - 1) / 2) / 10 ^ (s.size - p - 1))))), .c (.val (.int .i64 0))] = x
    rw [show satN (F46 s p) = F46 s p from hsF, hsW, hw2, hw3, ← hq, hw4]
    refine ⟨⟨by omega, by omega⟩, cond_of (fun c2 => ?_) (fun c2 => ?_)⟩
    · have c2 := of_decide_eq_true c2
      exact hx2 (by omega)
    · have c2 := of_decide_eq_false c2
      exact hx1 (by omega)
set_option maxRecDepth 100000 in
theorem e49p (p : Nat) (O : Nat → Prop) (w0 : World) : Entry Tryd.prog O w0 49 (gFixP p O w0) :=
  Entry.pure (Γ15_ok p) 100 5 (g := gFixP p) (fun O w0 args M k hg => by
    unfold gFixP at hg
    split at hg
    case h_2 => exact hg.elim
    rename_i s
    obtain ⟨hF, hk1, hk2⟩ := hg
    by_cases hv : W46 s p ≤ 8191
    · exact ⟨_, _, rfl, hk1 hv, fun _ => rfl, fun w hw => ⟨_, fix_bodyR hF _ (fun _ => rfl) (fun h => absurd hv (by omega)) w⟩⟩
    · exact ⟨_, _, rfl, hk2 (by omega), fun _ => rfl, fun w hw => ⟨_, fix_bodyR hF _ (fun h => absurd h hv) (fun _ => rfl) w⟩⟩) O w0
theorem e49 (O : Nat → Prop) (w0 : World) : Entry Tryd.prog O w0 49 (gFix O w0) := fun hf args M k hg => by
  unfold gFix at hg
  split at hg
  case h_2 => exact hg.elim
  obtain ⟨p, hg⟩ := hg
  exact e49p p O w0 hf _ M k hg
def Γ16 : TabF := addF Γ13 49 gFix
theorem Γ16_ok : TSF Tryd.prog Γ16 := Γ13_ok.add e49
end Go.Proofs.YtfijmdeanechfaaDoor.Lx
