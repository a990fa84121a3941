/- Contract of ParseFixed on texts of digits with a point. -/
import Derived.Test.YtfijmdeanechfaaDoorLx6
namespace Go.Proofs.YtfijmdeanechfaaDoor.Lx
open Go Go.RowKit Go.Proofs.YtfijmdeanechfaaDoor.Eng
set_option linter.unusedVariables false
set_option linter.unusedSimpArgs false
theorem e57 (O : Nat → Prop) (w0 : World) : Entry Tryd.prog O w0 57 (gRD O w0) :=
  Entry.pure Γ11_ok 100 5 (g := gRD) (fun O w0 args M k hg => by
    unfold gRD at hg
    split at hg
    case h_2 => exact hg.elim
    rename_i n d
    obtain ⟨j, ⟨hlo, hhi, hd⟩, ⟨h0, h1⟩, hk⟩ := hg
    refine ⟨_, _, rfl, hk, fun _ => rfl, fun w hw => ⟨Λn, ?_⟩⟩
    have hj : j = 1 ∨ j = 2 ∨ j = 3 ∨ j = 4 ∨ j = 5 := by omega
    rcases hj with rfl | rfl | rfl | rfl | rfl
    · obtain rfl : d = 10 := hd
      refine f57_1 _ w n _ ?_
      rw [show IntKind.i64.wrap (Int.tdiv 10 2) = 5 from rfl, wrap_in (n := n + 5) (by omega) (by omega), Int.tdiv_eq_ediv_of_nonneg (by omega), wrap_in (by omega) (by omega)]; rfl
    · obtain rfl : d = 100 := hd
      refine f57_2 _ w n _ ?_
      rw [show IntKind.i64.wrap (Int.tdiv 100 2) = 50 from rfl, wrap_in (n := n + 50) (by omega) (by omega), Int.tdiv_eq_ediv_of_nonneg (by omega), wrap_in (by omega) (by omega)]; rfl
    · obtain rfl : d = 1000 := hd
      refine f57_3 _ w n _ ?_
      rw [show IntKind.i64.wrap (Int.tdiv 1000 2) = 500 from rfl, wrap_in (n := n + 500) (by omega) (by omega), Int.tdiv_eq_ediv_of_nonneg (by omega), wrap_in (by omega) (by omega)]; rfl
    · obtain rfl : d = 10000 := hd
      refine f57_4 _ w n _ ?_
      rw [show IntKind.i64.wrap (Int.tdiv 10000 2) = 5000 from rfl, wrap_in (n := n + 5000) (by omega) (by omega), Int.tdiv_eq_ediv_of_nonneg (by omega), wrap_in (by omega) (by omega)]; rfl
    · obtain rfl : d = 100000 := hd
      refine f57_5 _ w n _ ?_
      rw [show IntKind.i64.wrap (Int.tdiv 100000 2) = 50000 from rfl, wrap_in (n := n + 50000) (by omega) (by omega), Int.tdiv_eq_ediv_of_nonneg (by omega), wrap_in (by omega) (by omega)]; rfl) O w0
theorem Γ12_ok (p : Nat) : TSF Tryd.prog (Γ12 p) := ((Γ11b_ok.add e47).add (e54 p)).add e57
theorem decV_lt {s : ByteArray} (hd : AllD s) : ∀ i, i ≤ s.size → decV s i < (10 : Int) ^ i
  | 0, _ => by show (0 : Int) < 1; decide
  | i + 1, h => by
    have := decV_lt hd i (by omega)
    have := AllD.at hd (i := (i : Int)) (by omega) (by omega)
    show decV s i * 10 + (bAt s i - 48) < 10 ^ (i + 1)
    rw [Int.pow_succ]
    omega
def gFixP (p : Nat) : EntF := fun _ _ args M k => match args with
  | [.v (.c (.val (.string s)))] => FixW s p ∧ (W46 s p ≤ 8191 → k (.tup [.c (.val (.int .i64 (fixV s p))), .c (.val (.int .i64 0))]) M) ∧ (8191 < W46 s p → k (.tup [.c (.val (.int .i64 0)), .c (.val (.int .i64 6))]) M)
  | _ => False
set_option maxRecDepth 100000 in
theorem fix_body {s : ByteArray} {p : Nat} (hF : FixW s p) (x : SX) (hx1 : W46 s p ≤ 8191 → (SX.tup [.c (.val (.int .i64 (fixV s p))), .c (.val (.int .i64 0))]) = x) (hx2 : 8191 < W46 s p → (SX.tup [.c (.val (.int .i64 0)), .c (.val (.int .i64 6))]) = x) (w : World) : evFn Tryd.prog (fun _ => False) w (Γ12 p (fun _ => False) w) (Λof 46 (I46 s (s.extract (p + 1) s.size) (s.extract 0 p) (decV (s.extract 0 p) (s.extract 0 p).size))) 100 5 46 [tV s] [] (fun y _ => y = x) := by
  have hcut := hF.cut
  have hlt := hcut.lt; have hlo := hF.lo; have hhi := hF.hi; have hle := hcut.le
  have hus : (s.extract (p + 1) s.size).size = s.size - p - 1 := by rw [ext_size _ _ _ (Nat.le_refl _)]; omega
  have hvs : (s.extract 0 p).size = p := by rw [ext_size _ _ _ (by omega)]; omega
  have hp0 : 0 < p := by have := hF.nz.pos; omega
  have hno : NoM s 45 := ⟨by omega, by
    have := AllD.at hF.whole (i := ((0 : Nat) : Int)) (by omega) (by omega)
    rw [bAt_ext s (by omega)] at this
    have e : ((0 + 0 : Nat) : Int) = 0 := rfl
    rw [e] at this
    omega, hle⟩
  have hW : 0 ≤ W46 s p := decV_ge hF.whole (s.extract 0 p).size (Nat.le_refl _)
  refine f46 _ w s p _ ⟨hno, hcut, hF.part, by show 1 ≤ _; omega, cond_of (fun h => absurd (of_decide_eq_true h) (by omega)) (fun _ => ⟨hF.whole, hF.nz, ⟨by omega, by omega⟩, ⟨by omega, by omega⟩, fun hw => ⟨fun _ _ => Nat.zero_le _, ⟨⟨by omega, by omega, rfl, rfl⟩, rfl, fun _ => rfl⟩, ?_⟩, fun hw => (hx2 hw)⟩)⟩
  rintro ⟨i, n, q⟩ J ⟨h0, h1, h2, h3⟩
  dsimp only
  obtain ⟨m, rfl⟩ : ∃ m : Nat, i = m := ⟨i.toNat, by omega⟩
  have hm : ((m : Nat) : Int).toNat = m := rfl
  rw [hm] at h2 h3
  have hF0 := decV_ge hF.part m (by omega)
  have hF1 := decV_lt hF.part m (by omega)
  rw [← h2] at hF0 hF1
  rw [← h3] at hF1
  refine cond_of (fun h => ?_) (fun h => ?_)
  · have h : (m : Int) < (s.extract (p + 1) s.size).size := of_decide_eq_true h
    have hb := AllD.at hF.part (i := (m : Int)) (by omega) h
    have hq : q ≤ 10000 := by
      have hm5 : m = 0 ∨ m = 1 ∨ m = 2 ∨ m = 3 ∨ m = 4 := by omega
      rcases hm5 with e | e | e | e | e <;> (rw [e] at h3; rw [h3]; decide)
    rw [wrap8 (n := _ - 48) (by omega) (by omega), wrap_in (n := bAt _ _ - 48) (by omega) (by omega), wrap_in (n := 10 * n) (by omega) (by omega), wrap_in (n := 10 * n + _) (by omega) (by omega), wrap_in (n := 10 * q) (by omega) (by omega), wrap_in (n := (m : Int) + 1) (by omega) (by omega)]
    refine ⟨⟨by omega, h⟩, ⟨⟨by omega, by omega, ?_, ?_⟩, rfl, fun _ => rfl⟩, ⟨by show (_ : Int).toNat < (_ : Int).toNat; omega⟩⟩
    · rw [show ((m : Int) + 1).toNat = m + 1 from rfl]
      show _ = decV _ m * 10 + (bAt _ m - 48)
      rw [← h2]; omega
    · rw [show ((m : Int) + 1).toNat = m + 1 from rfl, Int.pow_succ, ← h3]; omega
  · have h : ¬ (m : Int) < (s.extract (p + 1) s.size).size := of_decide_eq_false h
    have hme : m = s.size - p - 1 := by omega
    have hfix : fixV s p = W46 s p * 65536 + (n * 65536 + q / 2) / q := by
      unfold fixV F46
      rw [h2, h3, hus, hme]
    have hw : W46 s p ≤ 8191 := hw
    have hd : (n * 65536 + q / 2) / q ≤ 65535 ∧ 0 ≤ (n * 65536 + q / 2) / q ∧ q ≤ 100000 := by
      have hm5 : m = 1 ∨ m = 2 ∨ m = 3 ∨ m = 4 ∨ m = 5 := by omega
      rcases hm5 with e | e | e | e | e <;> rw [e] at h3
      · obtain rfl : q = 10 := h3; omega
      · obtain rfl : q = 100 := h3; omega
      · obtain rfl : q = 1000 := h3; omega
      · obtain rfl : q = 10000 := h3; omega
      · obtain rfl : q = 100000 := h3; omega
    have hw2 : IntKind.i64.wrap (n * 65536) = n * 65536 := wrap_in (by omega) (by omega)
    have hw3 : IntKind.i64.wrap (W46 s p * 65536) = W46 s p * 65536 := wrap_in (by omega) (by omega)
    have hw3' : IntKind.i64.wrap (decV (s.extract 0 p) (s.extract 0 p).size * 65536) = W46 s p * 65536 := hw3
    rw [hw2, hw3', wrap_in (n := W46 s p * 65536 + _) (by omega) (by omega)]
    refine ⟨m, ⟨by omega, by omega, h3⟩, ⟨by omega, by omega⟩, cond_of (fun c => absurd (of_decide_eq_true c) (by omega)) (fun _ => ?_)⟩
    rw [← hfix]
    exact hx1 hw
set_option maxRecDepth 100000 in
theorem e46p (p : Nat) (O : Nat → Prop) (w0 : World) : Entry Tryd.prog O w0 46 (gFixP p O w0) :=
  Entry.pure (Γ12_ok p) 100 5 (g := gFixP p) (fun O w0 args M k hg => by
    unfold gFixP at hg
    split at hg
    case h_2 => exact hg.elim
    rename_i s
    obtain ⟨hF, hk1, hk2⟩ := hg
    by_cases hv : W46 s p ≤ 8191
    · exact ⟨_, _, rfl, hk1 hv, fun _ => rfl, fun w hw => ⟨_, fix_body hF _ (fun _ => rfl) (fun h => absurd hv (by omega)) w⟩⟩
    · exact ⟨_, _, rfl, hk2 (by omega), fun _ => rfl, fun w hw => ⟨_, fix_body hF _ (fun h => absurd h hv) (fun _ => rfl) w⟩⟩) O w0
theorem e46 (O : Nat → Prop) (w0 : World) : Entry Tryd.prog O w0 46 (gFix O w0) := fun hf args M k hg => by
  unfold gFix at hg
  split at hg
  case h_2 => exact hg.elim
  obtain ⟨p, hg⟩ := hg
  exact e46p p O w0 hf _ M k hg
theorem Γ13_ok : TSF Tryd.prog Γ13 := (Γ11b_ok.add e47).add e46
end Go.Proofs.YtfijmdeanechfaaDoor.Lx
