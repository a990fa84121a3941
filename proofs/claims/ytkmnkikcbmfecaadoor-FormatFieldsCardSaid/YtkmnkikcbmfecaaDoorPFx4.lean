-- Written by a program of the session (gprint.py) out of the kit's print of the translation. Lean checks it.
import Derived.Test.YtkmnkikcbmfecaaDoorPFx0
import Derived.Test.YtkmnkikcbmfecaaDoorPFx3
namespace Go.Proofs.YtkmnkikcbmfecaaDoor.PF
open Go.RowKit Go.Proofs.YtkmnkikcbmfecaaDoorW.PrintWords Go.Proofs.YtkmnkikcbmfecaaDoorW.PrintLast Go.Proofs.YtkmnkikcbmfecaaDoorW.PrintMore
attribute [local go_sem] max2_int min2_int max_two min_two max_three min_three max_four min_four   -- for this text's walks alone
set_option linter.unusedVariables false
set_option linter.unusedSimpArgs false

/-! ### frustumref06_ParseFixed: function 12 -/
mutual
def frustumref06_ParseFixed.j0 : Nat → ByteArray → Bool → Option (Int × Int)
  | 0, _, _ => none
  | k + 1, x0, x4 => if x4 = true then (if 1 ≤ (x0.size : Int) then (frustumref06_ParseFixed.j1 k (x0.extract 1 x0.size) x4) else (none)) else (frustumref06_ParseFixed.j1 k x0 x4)
def frustumref06_ParseFixed.j1 : Nat → ByteArray → Bool → Option (Int × Int)
  | 0, _, _ => none
  | k + 1, x0, x4 => (frustumref06_point.f k x0).bind fun t127 => (if t127 = (x0.size : Int) then (some (0, 3)) else (if 0 ≤ t127 then (if t127 ≤ (x0.size : Int) then ((frustumref06_natural.f k (x0.extract 0 (t127 : Int).toNat)).bind fun bt128 => (if 0 ≤ (wrap64 (t127 + 1)) then (if (wrap64 (t127 + 1)) ≤ (x0.size : Int) then ((frustumref06_number.f k (x0.extract ((wrap64 (t127 + 1)) : Int).toNat x0.size)).bind fun bt130 => (if bt128.2 = true then (if bt130.2 = true then (frustumref06_ParseFixed.j2 k x4 bt128.1 bt130.1 (wrap64 ((wrap64 ((x0.size : Int) - t127)) - 1)) (decide ((wrap64 ((wrap64 ((x0.size : Int) - t127)) - 1)) > 5))) else (frustumref06_ParseFixed.j2 k x4 bt128.1 bt130.1 (wrap64 ((wrap64 ((x0.size : Int) - t127)) - 1)) true)) else (frustumref06_ParseFixed.j2 k x4 bt128.1 bt130.1 (wrap64 ((wrap64 ((x0.size : Int) - t127)) - 1)) true))) else (none)) else (none))) else (none)) else (none)))
def frustumref06_ParseFixed.j2 : Nat → Bool → Int → Int → Int → Bool → Option (Int × Int)
  | 0, _, _, _, _, _ => none
  | k + 1, x4, x6, x8, x10, x58 => if x58 = true then (some (0, 3)) else (if x6 > 536870911 then (some (0, 6)) else ((frustumref06_power.f k x10).bind fun t132 => ((frustumref01_RoundDiv.f k (wrap64 (x8 * 65536)) t132).bind fun t133 => (if x4 = true then (frustumref06_ParseFixed.j3 k x4 (wrap64 ((wrap64 (x6 * 65536)) + t133)) ((wrap64 ((wrap64 (x6 * 65536)) + t133)) == 0)) else (frustumref06_ParseFixed.j3 k x4 (wrap64 ((wrap64 (x6 * 65536)) + t133)) false)))))
def frustumref06_ParseFixed.j3 : Nat → Bool → Int → Bool → Option (Int × Int)
  | 0, _, _, _ => none
  | k + 1, x4, x11, x73 => if x73 = true then (some (0, 3)) else (if x11 > 536870911 then (some (0, 6)) else (if x4 = true then (some (wrap64 (-x11), 0)) else (some (x11, 0))))
end
def frustumref06_ParseFixed.f (k : Nat) (a0 : ByteArray) : Option (Int × Int) := if (a0.size : Int) > 0 then (if 0 < (a0.size : Int) then (frustumref06_ParseFixed.j0 k a0 ((bt a0 0) == 45)) else (none)) else (frustumref06_ParseFixed.j0 k a0 false)
theorem frustumref06_ParseFixed.mono_l : ∀ k, (∀ y0 y1, LeO (frustumref06_ParseFixed.j0 k y0 y1) (frustumref06_ParseFixed.j0 (k + 1) y0 y1)) ∧ (∀ y0 y1, LeO (frustumref06_ParseFixed.j1 k y0 y1) (frustumref06_ParseFixed.j1 (k + 1) y0 y1)) ∧ (∀ y0 y1 y2 y3 y4, LeO (frustumref06_ParseFixed.j2 k y0 y1 y2 y3 y4) (frustumref06_ParseFixed.j2 (k + 1) y0 y1 y2 y3 y4)) ∧ (∀ y0 y1 y2, LeO (frustumref06_ParseFixed.j3 k y0 y1 y2) (frustumref06_ParseFixed.j3 (k + 1) y0 y1 y2))
  | 0 => ⟨fun _ _ r h => by simp [frustumref06_ParseFixed.j0] at h, fun _ _ r h => by simp [frustumref06_ParseFixed.j1] at h, fun _ _ _ _ _ r h => by simp [frustumref06_ParseFixed.j2] at h, fun _ _ _ r h => by simp [frustumref06_ParseFixed.j3] at h⟩
  | k + 1 => by
    obtain ⟨ih0, ih1, ih2, ih3⟩ := frustumref06_ParseFixed.mono_l k
    refine ⟨?_, ?_, ?_, ?_⟩
    · intro y0 y1
      unfold frustumref06_ParseFixed.j0
      repeat' first
      | (with_reducible exact ih0 _ _)
      | (with_reducible exact ih1 _ _)
      | (with_reducible exact ih2 _ _ _ _ _)
      | (with_reducible exact ih3 _ _ _)
      | (with_reducible exact frustumref01_RoundDiv.mono _ _ _)
      | (with_reducible exact frustumref06_natural.mono _ _)
      | (with_reducible exact frustumref06_number.mono _ _)
      | (with_reducible exact frustumref06_point.mono _ _)
      | (with_reducible exact frustumref06_power.mono _ _)
      | (with_reducible exact LeO.refl _)
      | (with_reducible exact LeO.none _)
      | (with_reducible refine LeO.ite ?_ ?_)
      | (with_reducible refine LeO.bind ?_ (fun _ => ?_))
      | exact ih0 _ _
      | exact ih1 _ _
      | exact ih2 _ _ _ _ _
      | exact ih3 _ _ _
      | exact frustumref01_RoundDiv.mono _ _ _
      | exact frustumref06_natural.mono _ _
      | exact frustumref06_number.mono _ _
      | exact frustumref06_point.mono _ _
      | exact frustumref06_power.mono _ _
      | exact LeO.none _
      | refine LeO.ite ?_ ?_
      | refine LeO.bind ?_ (fun _ => ?_)
    · intro y0 y1
      unfold frustumref06_ParseFixed.j1
      repeat' first
      | (with_reducible exact ih0 _ _)
      | (with_reducible exact ih1 _ _)
      | (with_reducible exact ih2 _ _ _ _ _)
      | (with_reducible exact ih3 _ _ _)
      | (with_reducible exact frustumref01_RoundDiv.mono _ _ _)
      | (with_reducible exact frustumref06_natural.mono _ _)
      | (with_reducible exact frustumref06_number.mono _ _)
      | (with_reducible exact frustumref06_point.mono _ _)
      | (with_reducible exact frustumref06_power.mono _ _)
      | (with_reducible exact LeO.refl _)
      | (with_reducible exact LeO.none _)
      | (with_reducible refine LeO.ite ?_ ?_)
      | (with_reducible refine LeO.bind ?_ (fun _ => ?_))
      | exact ih0 _ _
      | exact ih1 _ _
      | exact ih2 _ _ _ _ _
      | exact ih3 _ _ _
      | exact frustumref01_RoundDiv.mono _ _ _
      | exact frustumref06_natural.mono _ _
      | exact frustumref06_number.mono _ _
      | exact frustumref06_point.mono _ _
      | exact frustumref06_power.mono _ _
      | exact LeO.none _
      | refine LeO.ite ?_ ?_
      | refine LeO.bind ?_ (fun _ => ?_)
    · intro y0 y1 y2 y3 y4
      unfold frustumref06_ParseFixed.j2
      repeat' first
      | (with_reducible exact ih0 _ _)
      | (with_reducible exact ih1 _ _)
      | (with_reducible exact ih2 _ _ _ _ _)
      | (with_reducible exact ih3 _ _ _)
      | (with_reducible exact frustumref01_RoundDiv.mono _ _ _)
      | (with_reducible exact frustumref06_natural.mono _ _)
      | (with_reducible exact frustumref06_number.mono _ _)
      | (with_reducible exact frustumref06_point.mono _ _)
      | (with_reducible exact frustumref06_power.mono _ _)
      | (with_reducible exact LeO.refl _)
      | (with_reducible exact LeO.none _)
      | (with_reducible refine LeO.ite ?_ ?_)
      | (with_reducible refine LeO.bind ?_ (fun _ => ?_))
      | exact ih0 _ _
      | exact ih1 _ _
      | exact ih2 _ _ _ _ _
      | exact ih3 _ _ _
      | exact frustumref01_RoundDiv.mono _ _ _
      | exact frustumref06_natural.mono _ _
      | exact frustumref06_number.mono _ _
      | exact frustumref06_point.mono _ _
      | exact frustumref06_power.mono _ _
      | exact LeO.none _
      | refine LeO.ite ?_ ?_
      | refine LeO.bind ?_ (fun _ => ?_)
    · intro y0 y1 y2
      unfold frustumref06_ParseFixed.j3
      repeat' first
      | (with_reducible exact ih0 _ _)
      | (with_reducible exact ih1 _ _)
      | (with_reducible exact ih2 _ _ _ _ _)
      | (with_reducible exact ih3 _ _ _)
      | (with_reducible exact frustumref01_RoundDiv.mono _ _ _)
      | (with_reducible exact frustumref06_natural.mono _ _)
      | (with_reducible exact frustumref06_number.mono _ _)
      | (with_reducible exact frustumref06_point.mono _ _)
      | (with_reducible exact frustumref06_power.mono _ _)
      | (with_reducible exact LeO.refl _)
      | (with_reducible exact LeO.none _)
      | (with_reducible refine LeO.ite ?_ ?_)
      | (with_reducible refine LeO.bind ?_ (fun _ => ?_))
      | exact ih0 _ _
      | exact ih1 _ _
      | exact ih2 _ _ _ _ _
      | exact ih3 _ _ _
      | exact frustumref01_RoundDiv.mono _ _ _
      | exact frustumref06_natural.mono _ _
      | exact frustumref06_number.mono _ _
      | exact frustumref06_point.mono _ _
      | exact frustumref06_power.mono _ _
      | exact LeO.none _
      | refine LeO.ite ?_ ?_
      | refine LeO.bind ?_ (fun _ => ?_)
theorem frustumref06_ParseFixed.mono : ∀ a0 k, LeO (frustumref06_ParseFixed.f k a0) (frustumref06_ParseFixed.f (k + 1) a0) := by
  intro a0 k
  obtain ⟨ih0, ih1, ih2, ih3⟩ := frustumref06_ParseFixed.mono_l k
  unfold frustumref06_ParseFixed.f
  repeat' first
      | (with_reducible exact ih0 _ _)
      | (with_reducible exact ih1 _ _)
      | (with_reducible exact ih2 _ _ _ _ _)
      | (with_reducible exact ih3 _ _ _)
      | (with_reducible exact frustumref01_RoundDiv.mono _ _ _)
      | (with_reducible exact frustumref06_natural.mono _ _)
      | (with_reducible exact frustumref06_number.mono _ _)
      | (with_reducible exact frustumref06_point.mono _ _)
      | (with_reducible exact frustumref06_power.mono _ _)
      | (with_reducible exact LeO.refl _)
      | (with_reducible exact LeO.none _)
      | (with_reducible refine LeO.ite ?_ ?_)
      | (with_reducible refine LeO.bind ?_ (fun _ => ?_))
      | exact ih0 _ _
      | exact ih1 _ _
      | exact ih2 _ _ _ _ _
      | exact ih3 _ _ _
      | exact frustumref01_RoundDiv.mono _ _ _
      | exact frustumref06_natural.mono _ _
      | exact frustumref06_number.mono _ _
      | exact frustumref06_point.mono _ _
      | exact frustumref06_power.mono _ _
      | exact LeO.none _
      | refine LeO.ite ?_ ?_
      | refine LeO.bind ?_ (fun _ => ?_)
set_option maxHeartbeats 8000000 in
set_option maxRecDepth 100000 in
theorem frustumref06_ParseFixed.calls (k : Nat) (a0 : ByteArray) (r1 : Int) (r2 : Int) (w : World) (h : frustumref06_ParseFixed.f k a0 = some (r1, r2)) :
    Calls Tryd.prog 12 #[.string a0] w fun e w' => e = .returned (.tuple #[.int .i64 r1, .int .i64 r2]) ∧ Drawn0 w w' := by
  have H : (if (a0.size : Int) > 0 then (if 0 < (a0.size : Int) then (frustumref06_ParseFixed.j0 k a0 ((bt a0 0) == 45)) else (none)) else (frustumref06_ParseFixed.j0 k a0 false)) = some (r1, r2) := h
  clear h
  have HC2 := Aside0.mk H
  clear H
  go_enter Tryd.func12, Tryd.ntmps12
  go_upto_region 1 with (fail)
  go_cut [4] (fun v4 wc => ∃ (kq : Nat) (x4_1 : Bool), v4 = .bool x4_1 ∧ Aside0 (frustumref06_ParseFixed.j0 kq a0 x4_1 = some (r1, r2)) ∧ Aside0 (kq ≤ k) ∧ Drawn0 w wc)
  case first =>
    have H := HC2.out
    clear HC2
    by_cases c3 : (a0.size : Int) > 0
    · rw [if_pos c3] at H
      have c3b0 : decide (0 < (a0.size : Int)) = true := decide_eq_true c3
      have c3b1 : decide (0 < a0.size) = true := decide_eq_true (by omega)
      clear c3
      (first | rw [c3b0] | (simp only [i64_w, i32_w]; rw [c3b0]) | skip)
      by_cases c4 : 0 < (a0.size : Int)
      · rw [if_pos c4] at H
        have c4b0 : decide (0 < (a0.size : Int)) = true := decide_eq_true c4
        have c4b1 : decide (0 < a0.size) = true := decide_eq_true (by omega)
        clear c4
        have H' := Aside0.mk H
        clear H
        have p5 : 0 ≤ (0 : Int) := (by omega)
        have q5 : 0 < a0.size := (by have : (0 : Int) < (a0.size : Int) := of_decide_eq_true (by first | (with_reducible assumption) | assumption); omega)
        have hx5 : ∀ h : 0 < a0.size, ((a0[0]'h).toNat : Int) = bt a0 0 := bt_at a0 0
        clear p5
        have qi5 : (0 < (a0.size : Int)) = True := eq_true (of_decide_eq_true (by first | (with_reducible assumption) | assumption))
        replace q5 := eq_true q5
        go_wp2
        go_meet
        case rel => exact ⟨_, (((bt a0 0) == 45)), (by first | rfl | (simp; done) | (simp [*]; done) | (simp [*, ne_nil_, eq_nil_]; done)), H', ⟨by first | omega | exact Nat.le_refl _⟩, by repeat (first | exact Drawn0.refl _ | apply Drawn0.step)⟩
      · rw [if_neg c4] at H
        exact absurd H (by simp)
    · rw [if_neg c3] at H
      have c3b0 : decide (0 < (a0.size : Int)) = false := decide_eq_false c3
      have c3b1 : decide (0 < a0.size) = false := decide_eq_false (by omega)
      clear c3
      (first | rw [c3b0] | (simp only [i64_w, i32_w]; rw [c3b0]) | skip)
      have H' := Aside0.mk H
      clear H
      go_wp2
      go_meet
      case rel => exact ⟨_, (false), (by first | rfl | (simp; done) | (simp [*]; done) | (simp [*, ne_nil_, eq_nil_]; done)), H', ⟨by first | omega | exact Nat.le_refl _⟩, by repeat (first | exact Drawn0.refl _ | apply Drawn0.step)⟩
  case rest =>
    clear HC2
    try clear c1
    try clear p2
    try clear c3
    try clear c3b0
    try clear c3b1
    try clear c4
    try clear c4b0
    try clear c4b1
    try clear p5
    try clear q5
    try clear hx5
    try clear qi5
    try clear p5
    try clear q5
    obtain ⟨kq, x4_1, rfl, HA, HJ1, ⟨mc1, rfl⟩⟩ := hcut
    cases kq with
    | zero => exact absurd HA.out (by simp [frustumref06_ParseFixed.j0])
    | succ kj1 =>
      have H := HA.out
      clear HA
      simp only [frustumref06_ParseFixed.j0] at H
      have HC6 := Aside0.mk H
      clear H
      go_upto_if 20 with (fail)
      go_cut [0] (fun v0 wc => ∃ (kq : Nat) (x0_5 : ByteArray), v0 = .string x0_5 ∧ Aside0 (frustumref06_ParseFixed.j1 kq x0_5 x4_1 = some (r1, r2)) ∧ Aside0 (kq ≤ kj1) ∧ Drawn0 w wc)
      case first =>
        have H := HC6.out
        clear HC6
        by_cases c7 : x4_1 = true
        · subst c7
          have H1 : (if 1 ≤ (a0.size : Int) then (frustumref06_ParseFixed.j1 kj1 (a0.extract 1 a0.size) true) else (none)) = some (r1, r2) := by rw [if_pos rfl] at H; exact H
          clear H
          have H := H1
          clear H1
          by_cases c8 : 1 ≤ (a0.size : Int)
          · rw [if_pos c8] at H
            have c8b0 := eq_true c8
            have c8b1 : decide (1 ≤ (a0.size : Int)) = true := decide_eq_true c8
            clear c8
            have H' := Aside0.mk H
            clear H
            go_wp2
            go_meet
            case rel => exact ⟨_, (a0.extract 1 a0.size), (by first | rfl | (simp; done) | (simp [*]; done) | (simp [*, ne_nil_, eq_nil_]; done)), H', ⟨by have := HJ1.out; first | omega | exact Nat.le_refl _⟩, by repeat (first | exact Drawn0.refl _ | apply Drawn0.step)⟩
          · rw [if_neg c8] at H
            exact absurd H (by simp)
        · replace c7 := Bool.eq_false_iff.mpr c7
          subst c7
          have H1 : (frustumref06_ParseFixed.j1 kj1 a0 false) = some (r1, r2) := by rw [if_neg (show ¬ (false = true) by decide)] at H; exact H
          clear H
          have H := H1
          clear H1
          have H' := Aside0.mk H
          clear H
          go_wp2
          go_meet
          case rel => exact ⟨_, (a0), (by first | rfl | (simp; done) | (simp [*]; done) | (simp [*, ne_nil_, eq_nil_]; done)), H', ⟨by have := HJ1.out; first | omega | exact Nat.le_refl _⟩, by repeat (first | exact Drawn0.refl _ | apply Drawn0.step)⟩
      case rest =>
        clear HC6
        try clear c1
        try clear p2
        try clear c3
        try clear c3b0
        try clear c3b1
        try clear c4
        try clear c4b0
        try clear c4b1
        try clear p5
        try clear q5
        try clear hx5
        try clear qi5
        try clear c7
        try clear c8
        try clear c8b0
        try clear c8b1
        try clear p2
        try clear p5
        try clear q5
        obtain ⟨kq, x0_5, rfl, HA, HJ5, ⟨mc5, rfl⟩⟩ := hcut
        cases kq with
        | zero => exact absurd HA.out (by simp [frustumref06_ParseFixed.j1])
        | succ kj5 =>
          have H := HA.out
          clear HA
          simp only [frustumref06_ParseFixed.j1] at H
          replace H := Option.bind_eq_some_iff.mp H
          obtain ⟨t127, A90, H⟩ := H
          replace H : (if t127 = (x0_5.size : Int) then (some (0, 3)) else (if 0 ≤ t127 then (if t127 ≤ (x0_5.size : Int) then ((frustumref06_natural.f kj5 (x0_5.extract 0 (t127 : Int).toNat)).bind fun bt128 => (if 0 ≤ (wrap64 (t127 + 1)) then (if (wrap64 (t127 + 1)) ≤ (x0_5.size : Int) then ((frustumref06_number.f kj5 (x0_5.extract ((wrap64 (t127 + 1)) : Int).toNat x0_5.size)).bind fun bt130 => (if bt128.2 = true then (if bt130.2 = true then (frustumref06_ParseFixed.j2 kj5 x4_1 bt128.1 bt130.1 (wrap64 ((wrap64 ((x0_5.size : Int) - t127)) - 1)) (decide ((wrap64 ((wrap64 ((x0_5.size : Int) - t127)) - 1)) > 5))) else (frustumref06_ParseFixed.j2 kj5 x4_1 bt128.1 bt130.1 (wrap64 ((wrap64 ((x0_5.size : Int) - t127)) - 1)) true)) else (frustumref06_ParseFixed.j2 kj5 x4_1 bt128.1 bt130.1 (wrap64 ((wrap64 ((x0_5.size : Int) - t127)) - 1)) true))) else (none)) else (none))) else (none)) else (none))) = some (r1, r2) := H
          have A9 := Aside0.mk A90
          clear A90
          by_cases c10 : t127 = (x0_5.size : Int)
          · rw [if_pos c10] at H
            have c10b0 : (t127 == (x0_5.size : Int)) = true := beq_iff_eq.mpr c10
            have c10b1 : (t127 != (x0_5.size : Int)) = false := bne_eq_false_iff_eq.mpr c10
            clear c10
            simp only [Option.some.injEq, Prod.mk.injEq] at H
            obtain ⟨rfl, rfl⟩ := H
            go_wp2_with (first | ((with_reducible refine gate_callee (f := 35) rfl ?_); refine goesL_ (some 24) rfl rfl Tryd.func35 (by kernel_rfl) rfl #[.string x0_5] rfl (by (try simp only [List.map_toArray, List.map_cons, List.map_nil]); first | done | rfl | (simp only [List.length_drop, List.length_take]; rfl)) ?_; (with_reducible refine (frustumref06_point.calls kj5 x0_5 t127 _ A9.out).mono ?_); rintro e w' ⟨rfl, ⟨nd, rfl⟩⟩; refine ⟨_, rfl, ?_⟩))
            go_ret2
            exact ⟨by first | rfl | (simp; done) | (simp [*]; done) | (simp [*, ne_nil_, eq_nil_]; done), by repeat (first | exact Drawn0.refl _ | apply Drawn0.step)⟩
          · rw [if_neg c10] at H
            have c10b0 : (t127 == (x0_5.size : Int)) = false := beq_eq_false_iff_ne.mpr c10
            have c10b1 : (t127 != (x0_5.size : Int)) = true := bne_iff_ne.mpr c10
            by_cases c11 : 0 ≤ t127
            · rw [if_pos c11] at H
              have c11b0 := eq_true c11
              have c11b1 : decide (0 ≤ t127) = true := decide_eq_true c11
              clear c11
              by_cases c12 : t127 ≤ (x0_5.size : Int)
              · rw [if_pos c12] at H
                have c12b0 := eq_true c12
                have c12b1 : decide (t127 ≤ (x0_5.size : Int)) = true := decide_eq_true c12
                clear c12
                replace H := Option.bind_eq_some_iff.mp H
                obtain ⟨⟨t128, t129⟩, A130, H⟩ := H
                replace H : (if 0 ≤ (wrap64 (t127 + 1)) then (if (wrap64 (t127 + 1)) ≤ (x0_5.size : Int) then ((frustumref06_number.f kj5 (x0_5.extract ((wrap64 (t127 + 1)) : Int).toNat x0_5.size)).bind fun bt130 => (if t129 = true then (if bt130.2 = true then (frustumref06_ParseFixed.j2 kj5 x4_1 t128 bt130.1 (wrap64 ((wrap64 ((x0_5.size : Int) - t127)) - 1)) (decide ((wrap64 ((wrap64 ((x0_5.size : Int) - t127)) - 1)) > 5))) else (frustumref06_ParseFixed.j2 kj5 x4_1 t128 bt130.1 (wrap64 ((wrap64 ((x0_5.size : Int) - t127)) - 1)) true)) else (frustumref06_ParseFixed.j2 kj5 x4_1 t128 bt130.1 (wrap64 ((wrap64 ((x0_5.size : Int) - t127)) - 1)) true))) else (none)) else (none)) = some (r1, r2) := H
                have A13 := Aside0.mk A130
                clear A130
                obtain ⟨ji14, hji14⟩ : ∃ j_ : Int, (wrap64 (t127 + 1)) = j_ := ⟨_, rfl⟩
                replace H : (if 0 ≤ (ji14) then (if (ji14) ≤ (x0_5.size : Int) then ((frustumref06_number.f kj5 (x0_5.extract ((ji14) : Int).toNat x0_5.size)).bind fun bt130 => (if t129 = true then (if bt130.2 = true then (frustumref06_ParseFixed.j2 kj5 x4_1 t128 bt130.1 (wrap64 ((wrap64 ((x0_5.size : Int) - t127)) - 1)) (decide ((wrap64 ((wrap64 ((x0_5.size : Int) - t127)) - 1)) > 5))) else (frustumref06_ParseFixed.j2 kj5 x4_1 t128 bt130.1 (wrap64 ((wrap64 ((x0_5.size : Int) - t127)) - 1)) true)) else (frustumref06_ParseFixed.j2 kj5 x4_1 t128 bt130.1 (wrap64 ((wrap64 ((x0_5.size : Int) - t127)) - 1)) true))) else (none)) else (none)) = some (r1, r2) := by first | (rw [hji14] at H; exact H) | (simp only [hji14] at H ⊢; exact H)
                (try rw [hji14] at A9)
                (try rw [hji14] at A13)
                have hji14w : (IntKind.i64.wrap (t127 + 1)) = ji14 := (i64_w _).trans hji14
                by_cases c15 : 0 ≤ (ji14)
                · rw [if_pos c15] at H
                  have c15b0 := eq_true c15
                  have c15b1 : decide (0 ≤ (ji14)) = true := decide_eq_true c15
                  clear c15
                  by_cases c16 : (ji14) ≤ (x0_5.size : Int)
                  · rw [if_pos c16] at H
                    have c16b0 := eq_true c16
                    have c16b1 : decide ((ji14) ≤ (x0_5.size : Int)) = true := decide_eq_true c16
                    clear c16
                    replace H := Option.bind_eq_some_iff.mp H
                    obtain ⟨⟨t130, t131⟩, A170, H⟩ := H
                    replace H : (if t129 = true then (if t131 = true then (frustumref06_ParseFixed.j2 kj5 x4_1 t128 t130 (wrap64 ((wrap64 ((x0_5.size : Int) - t127)) - 1)) (decide ((wrap64 ((wrap64 ((x0_5.size : Int) - t127)) - 1)) > 5))) else (frustumref06_ParseFixed.j2 kj5 x4_1 t128 t130 (wrap64 ((wrap64 ((x0_5.size : Int) - t127)) - 1)) true)) else (frustumref06_ParseFixed.j2 kj5 x4_1 t128 t130 (wrap64 ((wrap64 ((x0_5.size : Int) - t127)) - 1)) true)) = some (r1, r2) := H
                    have A17 := Aside0.mk A170
                    clear A170
                    have HC18 := Aside0.mk H
                    clear H
                    go_upto_region 10 with (first | ((with_reducible refine gate_callee (f := 35) rfl ?_); refine goesL_ (some 24) rfl rfl Tryd.func35 (by kernel_rfl) rfl #[.string x0_5] rfl (by (try simp only [List.map_toArray, List.map_cons, List.map_nil]); first | done | rfl | (simp only [List.length_drop, List.length_take]; rfl)) ?_; (with_reducible refine (frustumref06_point.calls kj5 x0_5 t127 _ A9.out).mono ?_); rintro e w' ⟨rfl, ⟨nd, rfl⟩⟩; refine ⟨_, rfl, ?_⟩) | ((with_reducible refine gate_callee (f := 36) rfl ?_); refine goesL_ (some 33) rfl rfl Tryd.func36 (by kernel_rfl) rfl #[.string (x0_5.extract 0 (t127 : Int).toNat)] rfl (by (try simp only [List.map_toArray, List.map_cons, List.map_nil]); first | done | rfl | (simp only [List.length_drop, List.length_take]; rfl)) ?_; (with_reducible refine (frustumref06_natural.calls kj5 (x0_5.extract 0 (t127 : Int).toNat) t128 t129 _ A13.out).mono ?_); rintro e w' ⟨rfl, ⟨nd, rfl⟩⟩; refine ⟨_, rfl, ?_⟩) | ((with_reducible refine gate_callee (f := 37) rfl ?_); refine goesL_ (some 41) rfl rfl Tryd.func37 (by kernel_rfl) rfl #[.string (x0_5.extract ((ji14) : Int).toNat x0_5.size)] rfl (by (try simp only [List.map_toArray, List.map_cons, List.map_nil]); first | done | (simp only [hji14]; rfl) | rfl | (simp only [List.length_drop, List.length_take]; rfl)) ?_; (with_reducible refine (frustumref06_number.calls kj5 (x0_5.extract ((ji14) : Int).toNat x0_5.size) t130 t131 _ A17.out).mono ?_); rintro e w' ⟨rfl, ⟨nd, rfl⟩⟩; refine ⟨_, rfl, ?_⟩))
                    (try simp only [Act.put, List.setIfInBounds_toArray, List.set_cons_zero, List.set_cons_succ])
                    go_cut [58] (fun v58 wc => ∃ (kq : Nat) (x58_17 : Bool), v58 = .bool x58_17 ∧ Aside0 (frustumref06_ParseFixed.j2 kq x4_1 t128 t130 (wrap64 ((wrap64 ((x0_5.size : Int) - t127)) - 1)) x58_17 = some (r1, r2)) ∧ Aside0 (kq ≤ kj5) ∧ Drawn0 w wc)
                    case first =>
                      have H := HC18.out
                      clear HC18
                      by_cases c19 : t129 = true
                      · subst c19
                        have H1 : (if t131 = true then (frustumref06_ParseFixed.j2 kj5 x4_1 t128 t130 (wrap64 ((wrap64 ((x0_5.size : Int) - t127)) - 1)) (decide ((wrap64 ((wrap64 ((x0_5.size : Int) - t127)) - 1)) > 5))) else (frustumref06_ParseFixed.j2 kj5 x4_1 t128 t130 (wrap64 ((wrap64 ((x0_5.size : Int) - t127)) - 1)) true)) = some (r1, r2) := by rw [if_pos rfl] at H; exact H
                        clear H
                        have H := H1
                        clear H1
                        by_cases c20 : t131 = true
                        · subst c20
                          have H1 : (frustumref06_ParseFixed.j2 kj5 x4_1 t128 t130 (wrap64 ((wrap64 ((x0_5.size : Int) - t127)) - 1)) (decide ((wrap64 ((wrap64 ((x0_5.size : Int) - t127)) - 1)) > 5))) = some (r1, r2) := by rw [if_pos rfl] at H; exact H
                          clear H
                          have H := H1
                          clear H1
                          have H' := Aside0.mk H
                          clear H
                          go_wp2
                          go_meet
                          case rel => exact ⟨_, (decide ((wrap64 ((wrap64 ((x0_5.size : Int) - t127)) - 1)) > 5)), (by first | rfl | (simp; done) | (simp [*]; done) | (simp [*, ne_nil_, eq_nil_]; done)), H', ⟨by have := HJ1.out; have := HJ5.out; first | omega | exact Nat.le_refl _⟩, by repeat (first | exact Drawn0.refl _ | apply Drawn0.step)⟩
                        · replace c20 := Bool.eq_false_iff.mpr c20
                          subst c20
                          have H1 : (frustumref06_ParseFixed.j2 kj5 x4_1 t128 t130 (wrap64 ((wrap64 ((x0_5.size : Int) - t127)) - 1)) true) = some (r1, r2) := by rw [if_neg (show ¬ (false = true) by decide)] at H; exact H
                          clear H
                          have H := H1
                          clear H1
                          have H' := Aside0.mk H
                          clear H
                          go_wp2
                          go_meet
                          case rel => exact ⟨_, (true), (by first | rfl | (simp; done) | (simp [*]; done) | (simp [*, ne_nil_, eq_nil_]; done)), H', ⟨by have := HJ1.out; have := HJ5.out; first | omega | exact Nat.le_refl _⟩, by repeat (first | exact Drawn0.refl _ | apply Drawn0.step)⟩
                      · replace c19 := Bool.eq_false_iff.mpr c19
                        subst c19
                        have H1 : (frustumref06_ParseFixed.j2 kj5 x4_1 t128 t130 (wrap64 ((wrap64 ((x0_5.size : Int) - t127)) - 1)) true) = some (r1, r2) := by rw [if_neg (show ¬ (false = true) by decide)] at H; exact H
                        clear H
                        have H := H1
                        clear H1
                        have H' := Aside0.mk H
                        clear H
                        go_wp2
                        go_meet
                        case rel => exact ⟨_, (true), (by first | rfl | (simp; done) | (simp [*]; done) | (simp [*, ne_nil_, eq_nil_]; done)), H', ⟨by have := HJ1.out; have := HJ5.out; first | omega | exact Nat.le_refl _⟩, by repeat (first | exact Drawn0.refl _ | apply Drawn0.step)⟩
                    case rest =>
                      clear HC18
                      try clear c1
                      try clear c2
                      try clear p2
                      try clear c3
                      try clear c3b0
                      try clear c3b1
                      try clear c4
                      try clear c4b0
                      try clear c4b1
                      try clear c5
                      try clear p5
                      try clear q5
                      try clear hx5
                      try clear qi5
                      try clear p6
                      try clear c7
                      try clear c8
                      try clear c8b0
                      try clear c8b1
                      try clear c10
                      try clear c10b0
                      try clear c10b1
                      try clear c11
                      try clear c11b0
                      try clear c11b1
                      try clear c12
                      try clear c12b0
                      try clear c12b1
                      try clear c15
                      try clear c15b0
                      try clear c15b1
                      try clear c16
                      try clear c16b0
                      try clear c16b1
                      try clear c19
                      try clear c20
                      try clear p2
                      try clear p5
                      try clear q5
                      obtain ⟨kq, x58_17, rfl, HA, HJ17, ⟨mc17, rfl⟩⟩ := hcut
                      cases kq with
                      | zero => exact absurd HA.out (by simp [frustumref06_ParseFixed.j2])
                      | succ kj17 =>
                        have H := HA.out
                        clear HA
                        simp only [frustumref06_ParseFixed.j2] at H
                        by_cases c21 : x58_17 = true
                        · subst c21
                          have H1 : (some (0, 3)) = some (r1, r2) := by rw [if_pos rfl] at H; exact H
                          clear H
                          have H := H1
                          clear H1
                          simp only [Option.some.injEq, Prod.mk.injEq] at H
                          obtain ⟨rfl, rfl⟩ := H
                          go_wp2
                          go_ret2
                          exact ⟨by first | rfl | (simp; done) | (simp only [← hji14] <;> (first | rfl | simp)) | (simp [*]; done) | (simp [*, ne_nil_, eq_nil_]; done), by repeat (first | exact Drawn0.refl _ | apply Drawn0.step)⟩
                        · replace c21 := Bool.eq_false_iff.mpr c21
                          subst c21
                          have H1 : (if t128 > 536870911 then (some (0, 6)) else ((frustumref06_power.f kj17 (wrap64 ((wrap64 ((x0_5.size : Int) - t127)) - 1))).bind fun t132 => ((frustumref01_RoundDiv.f kj17 (wrap64 (t130 * 65536)) t132).bind fun t133 => (if x4_1 = true then (frustumref06_ParseFixed.j3 kj17 x4_1 (wrap64 ((wrap64 (t128 * 65536)) + t133)) ((wrap64 ((wrap64 (t128 * 65536)) + t133)) == 0)) else (frustumref06_ParseFixed.j3 kj17 x4_1 (wrap64 ((wrap64 (t128 * 65536)) + t133)) false))))) = some (r1, r2) := by rw [if_neg (show ¬ (false = true) by decide)] at H; exact H
                          clear H
                          have H := H1
                          clear H1
                          by_cases c22 : t128 > 536870911
                          · rw [if_pos c22] at H
                            have c22b0 : decide (536870911 < t128) = true := decide_eq_true c22
                            clear c22
                            simp only [Option.some.injEq, Prod.mk.injEq] at H
                            obtain ⟨rfl, rfl⟩ := H
                            go_wp2
                            go_ret2
                            exact ⟨by first | rfl | (simp; done) | (simp only [← hji14] <;> (first | rfl | simp)) | (simp [*]; done) | (simp [*, ne_nil_, eq_nil_]; done), by repeat (first | exact Drawn0.refl _ | apply Drawn0.step)⟩
                          · rw [if_neg c22] at H
                            have c22b0 : decide (536870911 < t128) = false := decide_eq_false c22
                            clear c22
                            replace H := Option.bind_eq_some_iff.mp H
                            obtain ⟨t132, A230, H⟩ := H
                            replace H : ((frustumref01_RoundDiv.f kj17 (wrap64 (t130 * 65536)) t132).bind fun t133 => (if x4_1 = true then (frustumref06_ParseFixed.j3 kj17 x4_1 (wrap64 ((wrap64 (t128 * 65536)) + t133)) ((wrap64 ((wrap64 (t128 * 65536)) + t133)) == 0)) else (frustumref06_ParseFixed.j3 kj17 x4_1 (wrap64 ((wrap64 (t128 * 65536)) + t133)) false))) = some (r1, r2) := H
                            have A23 := Aside0.mk A230
                            clear A230
                            replace H := Option.bind_eq_some_iff.mp H
                            obtain ⟨t133, A240, H⟩ := H
                            replace H : (if x4_1 = true then (frustumref06_ParseFixed.j3 kj17 x4_1 (wrap64 ((wrap64 (t128 * 65536)) + t133)) ((wrap64 ((wrap64 (t128 * 65536)) + t133)) == 0)) else (frustumref06_ParseFixed.j3 kj17 x4_1 (wrap64 ((wrap64 (t128 * 65536)) + t133)) false)) = some (r1, r2) := H
                            have A24 := Aside0.mk A240
                            clear A240
                            have HC25 := Aside0.mk H
                            clear H
                            go_upto_region 15 with (first | ((with_reducible refine gate_callee (f := 39) rfl ?_); refine goesL_ (some 66) rfl rfl Tryd.func39 (by kernel_rfl) rfl #[.int .i64 (wrap64 ((wrap64 ((x0_5.size : Int) - t127)) - 1))] rfl (by (try simp only [List.map_toArray, List.map_cons, List.map_nil]); first | done | rfl | (simp only [List.length_drop, List.length_take]; rfl)) ?_; (with_reducible refine (frustumref06_power.calls kj17 (wrap64 ((wrap64 ((x0_5.size : Int) - t127)) - 1)) t132 _ A23.out).mono ?_); rintro e w' ⟨rfl, ⟨nd, rfl⟩⟩; refine ⟨_, rfl, ?_⟩) | ((with_reducible refine gate_callee (f := 38) rfl ?_); refine goesL_ (some 67) rfl rfl Tryd.func38 (by kernel_rfl) rfl #[.int .i64 (wrap64 (t130 * 65536)), .int .i64 t132] rfl (by (try simp only [List.map_toArray, List.map_cons, List.map_nil]); first | done | rfl | (simp only [List.length_drop, List.length_take]; rfl)) ?_; (with_reducible refine (frustumref01_RoundDiv.calls kj17 (wrap64 (t130 * 65536)) t132 t133 _ A24.out).mono ?_); rintro e w' ⟨rfl, ⟨nd, rfl⟩⟩; refine ⟨_, rfl, ?_⟩))
                            (try simp only [Act.put, List.setIfInBounds_toArray, List.set_cons_zero, List.set_cons_succ])
                            go_cut [73] (fun v73 wc => ∃ (kq : Nat) (x73_24 : Bool), v73 = .bool x73_24 ∧ Aside0 (frustumref06_ParseFixed.j3 kq x4_1 (wrap64 ((wrap64 (t128 * 65536)) + t133)) x73_24 = some (r1, r2)) ∧ Aside0 (kq ≤ kj17) ∧ Drawn0 w wc)
                            case first =>
                              have H := HC25.out
                              clear HC25
                              by_cases c26 : x4_1 = true
                              · subst c26
                                have H1 : (frustumref06_ParseFixed.j3 kj17 true (wrap64 ((wrap64 (t128 * 65536)) + t133)) ((wrap64 ((wrap64 (t128 * 65536)) + t133)) == 0)) = some (r1, r2) := by rw [if_pos rfl] at H; exact H
                                clear H
                                have H := H1
                                clear H1
                                have H' := Aside0.mk H
                                clear H
                                go_wp2
                                go_meet
                                case rel => exact ⟨_, (((wrap64 ((wrap64 (t128 * 65536)) + t133)) == 0)), (by first | rfl | (simp; done) | (simp [*]; done) | (simp [*, ne_nil_, eq_nil_]; done)), H', ⟨by have := HJ1.out; have := HJ5.out; have := HJ17.out; first | omega | exact Nat.le_refl _⟩, by repeat (first | exact Drawn0.refl _ | apply Drawn0.step)⟩
                              · replace c26 := Bool.eq_false_iff.mpr c26
                                subst c26
                                have H1 : (frustumref06_ParseFixed.j3 kj17 false (wrap64 ((wrap64 (t128 * 65536)) + t133)) false) = some (r1, r2) := by rw [if_neg (show ¬ (false = true) by decide)] at H; exact H
                                clear H
                                have H := H1
                                clear H1
                                have H' := Aside0.mk H
                                clear H
                                go_wp2
                                go_meet
                                case rel => exact ⟨_, (false), (by first | rfl | (simp; done) | (simp [*]; done) | (simp [*, ne_nil_, eq_nil_]; done)), H', ⟨by have := HJ1.out; have := HJ5.out; have := HJ17.out; first | omega | exact Nat.le_refl _⟩, by repeat (first | exact Drawn0.refl _ | apply Drawn0.step)⟩
                            case rest =>
                              clear HC25
                              try clear c1
                              try clear c2
                              try clear p2
                              try clear c3
                              try clear c3b0
                              try clear c3b1
                              try clear c4
                              try clear c4b0
                              try clear c4b1
                              try clear c5
                              try clear p5
                              try clear q5
                              try clear hx5
                              try clear qi5
                              try clear p6
                              try clear c7
                              try clear c8
                              try clear c8b0
                              try clear c8b1
                              try clear c10
                              try clear c10b0
                              try clear c10b1
                              try clear c11
                              try clear c11b0
                              try clear c11b1
                              try clear c12
                              try clear c12b0
                              try clear c12b1
                              try clear c15
                              try clear c15b0
                              try clear c15b1
                              try clear c16
                              try clear c16b0
                              try clear c16b1
                              try clear c17
                              try clear c19
                              try clear c20
                              try clear c21
                              try clear c22
                              try clear c22b0
                              try clear c26
                              try clear p2
                              try clear p5
                              try clear p6
                              try clear q5
                              obtain ⟨kq, x73_24, rfl, HA, HJ24, ⟨mc24, rfl⟩⟩ := hcut
                              cases kq with
                              | zero => exact absurd HA.out (by simp [frustumref06_ParseFixed.j3])
                              | succ kj24 =>
                                have H := HA.out
                                clear HA
                                simp only [frustumref06_ParseFixed.j3] at H
                                by_cases c27 : x73_24 = true
                                · subst c27
                                  have H1 : (some (0, 3)) = some (r1, r2) := by rw [if_pos rfl] at H; exact H
                                  clear H
                                  have H := H1
                                  clear H1
                                  simp only [Option.some.injEq, Prod.mk.injEq] at H
                                  obtain ⟨rfl, rfl⟩ := H
                                  go_wp2
                                  go_ret2
                                  exact ⟨by first | rfl | (simp; done) | (simp only [← hji14] <;> (first | rfl | simp)) | (simp [*]; done) | (simp [*, ne_nil_, eq_nil_]; done), by repeat (first | exact Drawn0.refl _ | apply Drawn0.step)⟩
                                · replace c27 := Bool.eq_false_iff.mpr c27
                                  subst c27
                                  have H1 : (if (wrap64 ((wrap64 (t128 * 65536)) + t133)) > 536870911 then (some (0, 6)) else (if x4_1 = true then (some (wrap64 (-(wrap64 ((wrap64 (t128 * 65536)) + t133))), 0)) else (some ((wrap64 ((wrap64 (t128 * 65536)) + t133)), 0)))) = some (r1, r2) := by rw [if_neg (show ¬ (false = true) by decide)] at H; exact H
                                  clear H
                                  have H := H1
                                  clear H1
                                  by_cases c28 : (wrap64 ((wrap64 (t128 * 65536)) + t133)) > 536870911
                                  · rw [if_pos c28] at H
                                    have c28b0 : decide (536870911 < (wrap64 ((wrap64 (t128 * 65536)) + t133))) = true := decide_eq_true c28
                                    clear c28
                                    simp only [Option.some.injEq, Prod.mk.injEq] at H
                                    obtain ⟨rfl, rfl⟩ := H
                                    go_wp2
                                    go_ret2
                                    exact ⟨by first | rfl | (simp; done) | (simp only [← hji14] <;> (first | rfl | simp)) | (simp [*]; done) | (simp [*, ne_nil_, eq_nil_]; done), by repeat (first | exact Drawn0.refl _ | apply Drawn0.step)⟩
                                  · rw [if_neg c28] at H
                                    have c28b0 : decide (536870911 < (wrap64 ((wrap64 (t128 * 65536)) + t133))) = false := decide_eq_false c28
                                    clear c28
                                    by_cases c29 : x4_1 = true
                                    · subst c29
                                      have H1 : (some (wrap64 (-(wrap64 ((wrap64 (t128 * 65536)) + t133))), 0)) = some (r1, r2) := by rw [if_pos rfl] at H; exact H
                                      clear H
                                      have H := H1
                                      clear H1
                                      simp only [Option.some.injEq, Prod.mk.injEq] at H
                                      obtain ⟨rfl, rfl⟩ := H
                                      go_wp2
                                      go_ret2
                                      exact ⟨by first | rfl | (simp; done) | (simp only [← hji14] <;> (first | rfl | simp)) | (simp [*]; done) | (simp [*, ne_nil_, eq_nil_]; done), by repeat (first | exact Drawn0.refl _ | apply Drawn0.step)⟩
                                    · replace c29 := Bool.eq_false_iff.mpr c29
                                      subst c29
                                      have H1 : (some ((wrap64 ((wrap64 (t128 * 65536)) + t133)), 0)) = some (r1, r2) := by rw [if_neg (show ¬ (false = true) by decide)] at H; exact H
                                      clear H
                                      have H := H1
                                      clear H1
                                      simp only [Option.some.injEq, Prod.mk.injEq] at H
                                      obtain ⟨rfl, rfl⟩ := H
                                      go_wp2
                                      go_ret2
                                      exact ⟨by first | rfl | (simp; done) | (simp only [← hji14] <;> (first | rfl | simp)) | (simp [*]; done) | (simp [*, ne_nil_, eq_nil_]; done), by repeat (first | exact Drawn0.refl _ | apply Drawn0.step)⟩
                  · rw [if_neg c16] at H
                    exact absurd H (by simp)
                · rw [if_neg c15] at H
                  exact absurd H (by simp)
              · rw [if_neg c12] at H
                exact absurd H (by simp)
            · rw [if_neg c11] at H
              exact absurd H (by simp)

/-! ### frustumref01_Clamp: function 59 -/
def frustumref01_Clamp.j0 : Nat → Int → Int → Int → Bool → Option (Int)
  | 0, _, _, _, _ => none
  | k + 1, x0, x1, x2, x14 => if x14 = true then (some x1) else (if x0 > x2 then (some x2) else (some x0))
def frustumref01_Clamp.f (k : Nat) (a0 : Int) (a1 : Int) (a2 : Int) : Option (Int) := if a1 > a2 then (frustumref01_Clamp.j0 k a0 a1 a2 true) else (frustumref01_Clamp.j0 k a0 a1 a2 (decide (a0 < a1)))
theorem frustumref01_Clamp.mono_l : ∀ k, (∀ y0 y1 y2 y3, LeO (frustumref01_Clamp.j0 k y0 y1 y2 y3) (frustumref01_Clamp.j0 (k + 1) y0 y1 y2 y3))
  | 0 => fun _ _ _ _ r h => by simp [frustumref01_Clamp.j0] at h
  | k + 1 => by
    have ih0 := frustumref01_Clamp.mono_l k
    · intro y0 y1 y2 y3
      unfold frustumref01_Clamp.j0
      repeat' first
      | (with_reducible exact ih0 _ _ _ _)
      | (with_reducible exact LeO.refl _)
      | (with_reducible exact LeO.none _)
      | (with_reducible refine LeO.ite ?_ ?_)
      | (with_reducible refine LeO.bind ?_ (fun _ => ?_))
      | exact ih0 _ _ _ _
      | exact LeO.none _
      | refine LeO.ite ?_ ?_
      | refine LeO.bind ?_ (fun _ => ?_)
theorem frustumref01_Clamp.mono : ∀ a0 a1 a2 k, LeO (frustumref01_Clamp.f k a0 a1 a2) (frustumref01_Clamp.f (k + 1) a0 a1 a2) := by
  intro a0 a1 a2 k
  have ih0 := frustumref01_Clamp.mono_l k
  unfold frustumref01_Clamp.f
  repeat' first
      | (with_reducible exact ih0 _ _ _ _)
      | (with_reducible exact LeO.refl _)
      | (with_reducible exact LeO.none _)
      | (with_reducible refine LeO.ite ?_ ?_)
      | (with_reducible refine LeO.bind ?_ (fun _ => ?_))
      | exact ih0 _ _ _ _
      | exact LeO.none _
      | refine LeO.ite ?_ ?_
      | refine LeO.bind ?_ (fun _ => ?_)
set_option maxHeartbeats 8000000 in
set_option maxRecDepth 100000 in
theorem frustumref01_Clamp.calls (k : Nat) (a0 : Int) (a1 : Int) (a2 : Int) (r : Int) (w : World) (h : frustumref01_Clamp.f k a0 a1 a2 = some r) :
    Calls Tryd.prog 59 #[.int .i64 a0, .int .i64 a1, .int .i64 a2] w fun e w' => e = .returned (.int .i64 r) ∧ Drawn0 w w' := by
  have H : (if a1 > a2 then (frustumref01_Clamp.j0 k a0 a1 a2 true) else (frustumref01_Clamp.j0 k a0 a1 a2 (decide (a0 < a1)))) = some r := h
  clear h
  have HC4 := Aside0.mk H
  clear H
  go_enter Tryd.func59, Tryd.ntmps59
  go_upto_region 1 with (fail)
  go_cut [14] (fun v14 wc => ∃ (kq : Nat) (x14_3 : Bool), v14 = .bool x14_3 ∧ Aside0 (frustumref01_Clamp.j0 kq a0 a1 a2 x14_3 = some r) ∧ Aside0 (kq ≤ k) ∧ Drawn0 w wc)
  case first =>
    have H := HC4.out
    clear HC4
    by_cases c5 : a1 > a2
    · rw [if_pos c5] at H
      have c5b0 : decide (a2 < a1) = true := decide_eq_true c5
      clear c5
      (first | rw [c5b0] | (simp only [i64_w, i32_w]; rw [c5b0]) | skip)
      have H' := Aside0.mk H
      clear H
      go_wp2
      go_meet
      case rel => exact ⟨_, (true), (by first | rfl | (simp; done) | (simp [*]; done) | (simp [*, ne_nil_, eq_nil_]; done)), H', ⟨by first | omega | exact Nat.le_refl _⟩, by repeat (first | exact Drawn0.refl _ | apply Drawn0.step)⟩
    · rw [if_neg c5] at H
      have c5b0 : decide (a2 < a1) = false := decide_eq_false c5
      clear c5
      (first | rw [c5b0] | (simp only [i64_w, i32_w]; rw [c5b0]) | skip)
      have H' := Aside0.mk H
      clear H
      go_wp2
      go_meet
      case rel => exact ⟨_, (decide (a0 < a1)), (by first | rfl | (simp; done) | (simp [*]; done) | (simp [*, ne_nil_, eq_nil_]; done)), H', ⟨by first | omega | exact Nat.le_refl _⟩, by repeat (first | exact Drawn0.refl _ | apply Drawn0.step)⟩
  case rest =>
    clear HC4
    try clear p2
    try clear c5
    try clear c5b0
    obtain ⟨kq, x14_3, rfl, HA, HJ3, ⟨mc3, rfl⟩⟩ := hcut
    cases kq with
    | zero => exact absurd HA.out (by simp [frustumref01_Clamp.j0])
    | succ kj3 =>
      have H := HA.out
      clear HA
      simp only [frustumref01_Clamp.j0] at H
      by_cases c6 : x14_3 = true
      · subst c6
        have H1 : (some a1) = some r := by rw [if_pos rfl] at H; exact H
        clear H
        have H := H1
        clear H1
        obtain rfl := Option.some.inj H
        go_wp2
        go_ret
        exact ⟨by first | rfl | (simp; done) | (simp [*]; done) | (simp [*, ne_nil_, eq_nil_]; done), by repeat (first | exact Drawn0.refl _ | apply Drawn0.step)⟩
      · replace c6 := Bool.eq_false_iff.mpr c6
        subst c6
        have H1 : (if a0 > a2 then (some a2) else (some a0)) = some r := by rw [if_neg (show ¬ (false = true) by decide)] at H; exact H
        clear H
        have H := H1
        clear H1
        by_cases c7 : a0 > a2
        · rw [if_pos c7] at H
          have c7b0 : decide (a2 < a0) = true := decide_eq_true c7
          clear c7
          obtain rfl := Option.some.inj H
          go_wp2
          go_ret
          exact ⟨by first | rfl | (simp; done) | (simp [*]; done) | (simp [*, ne_nil_, eq_nil_]; done), by repeat (first | exact Drawn0.refl _ | apply Drawn0.step)⟩
        · rw [if_neg c7] at H
          have c7b0 : decide (a2 < a0) = false := decide_eq_false c7
          clear c7
          obtain rfl := Option.some.inj H
          go_wp2
          go_ret
          exact ⟨by first | rfl | (simp; done) | (simp [*]; done) | (simp [*, ne_nil_, eq_nil_]; done), by repeat (first | exact Drawn0.refl _ | apply Drawn0.step)⟩

/-! ### frustumref01_Saturate: function 42 -/
def frustumref01_Saturate.f (k : Nat) (a0 : Int) : Option (Int) := (frustumref01_Clamp.f k a0 (-536870911) 536870911).bind fun t134 => (some t134)
theorem frustumref01_Saturate.mono : ∀ a0 k, LeO (frustumref01_Saturate.f k a0) (frustumref01_Saturate.f (k + 1) a0) := by
  intro a0 k
  unfold frustumref01_Saturate.f
  repeat' first
      | (with_reducible exact frustumref01_Clamp.mono _ _ _ _)
      | (with_reducible exact LeO.refl _)
      | (with_reducible exact LeO.none _)
      | (with_reducible refine LeO.ite ?_ ?_)
      | (with_reducible refine LeO.bind ?_ (fun _ => ?_))
      | exact frustumref01_Clamp.mono _ _ _ _
      | exact LeO.none _
      | refine LeO.ite ?_ ?_
      | refine LeO.bind ?_ (fun _ => ?_)
set_option maxHeartbeats 8000000 in
set_option maxRecDepth 100000 in
theorem frustumref01_Saturate.calls (k : Nat) (a0 : Int) (r : Int) (w : World) (h : frustumref01_Saturate.f k a0 = some r) :
    Calls Tryd.prog 42 #[.int .i64 a0] w fun e w' => e = .returned (.int .i64 r) ∧ Drawn0 w w' := by
  have H : ((frustumref01_Clamp.f k a0 (-536870911) 536870911).bind fun t134 => (some t134)) = some r := h
  clear h
  replace H := Option.bind_eq_some_iff.mp H
  obtain ⟨t134, A20, H⟩ := H
  replace H : (some t134) = some r := H
  have A2 := Aside0.mk A20
  clear A20
  obtain rfl := Option.some.inj H
  go_enter Tryd.func42, Tryd.ntmps42
  go_wp2_with (first | ((with_reducible refine gate_callee (f := 59) rfl ?_); refine goesL_ (some 4) rfl rfl Tryd.func59 (by kernel_rfl) rfl #[.int .i64 a0, .int .i64 (-536870911), .int .i64 536870911] rfl (by (try simp only [List.map_toArray, List.map_cons, List.map_nil]); first | done | rfl | (simp only [List.length_drop, List.length_take]; rfl)) ?_; (with_reducible refine (frustumref01_Clamp.calls k a0 (-536870911) 536870911 t134 _ A2.out).mono ?_); rintro e w' ⟨rfl, ⟨nd, rfl⟩⟩; refine ⟨_, rfl, ?_⟩))
  go_ret
  exact ⟨by first | rfl | (simp; done) | (simp [*]; done) | (simp [*, ne_nil_, eq_nil_]; done), by repeat (first | exact Drawn0.refl _ | apply Drawn0.step)⟩

/-! ### frustumref06_digits: function 43 -/
def frustumref06_digits.l0 : Nat → Int → ByteArray → Option (ByteArray)
  | 0, _, _ => none
  | k + 1, x0, x3 => (some (([(IntKind.u64.wrap (48 + (Int.tmod x0 10))) % 256] : List Int) : List Int)).bind fun y135 => (if (strOfNums y135).size + x3.size ≤ 9223372036854775807 then (if (IntKind.u64.wrap (Int.tdiv x0 10)) = 0 then (some ((strOfNums y135) ++ x3)) else (frustumref06_digits.l0 k (IntKind.u64.wrap (Int.tdiv x0 10)) ((strOfNums y135) ++ x3))) else (none))
def frustumref06_digits.f (k : Nat) (a0 : Int) : Option (ByteArray) := frustumref06_digits.l0 k a0 (⟨#[]⟩ : ByteArray)
theorem frustumref06_digits.mono_l : ∀ k, (∀ y0 y1, LeO (frustumref06_digits.l0 k y0 y1) (frustumref06_digits.l0 (k + 1) y0 y1))
  | 0 => fun _ _ r h => by simp [frustumref06_digits.l0] at h
  | k + 1 => by
    have ih0 := frustumref06_digits.mono_l k
    · intro y0 y1
      unfold frustumref06_digits.l0
      repeat' first
      | (with_reducible exact ih0 _ _)
      | (with_reducible exact LeO.refl _)
      | (with_reducible exact LeO.none _)
      | (with_reducible refine LeO.ite ?_ ?_)
      | (with_reducible refine LeO.bind ?_ (fun _ => ?_))
      | exact ih0 _ _
      | exact LeO.none _
      | refine LeO.ite ?_ ?_
      | refine LeO.bind ?_ (fun _ => ?_)
theorem frustumref06_digits.mono : ∀ a0 k, LeO (frustumref06_digits.f k a0) (frustumref06_digits.f (k + 1) a0) := by
  intro a0 k
  have ih0 := frustumref06_digits.mono_l k
  unfold frustumref06_digits.f
  repeat' first
      | (with_reducible exact ih0 _ _)
      | (with_reducible exact LeO.refl _)
      | (with_reducible exact LeO.none _)
      | (with_reducible refine LeO.ite ?_ ?_)
      | (with_reducible refine LeO.bind ?_ (fun _ => ?_))
      | exact ih0 _ _
      | exact LeO.none _
      | refine LeO.ite ?_ ?_
      | refine LeO.bind ?_ (fun _ => ?_)
set_option maxHeartbeats 8000000 in
set_option maxRecDepth 100000 in
theorem frustumref06_digits.calls (k : Nat) (a0 : Int) (r : ByteArray) (w : World) (h : frustumref06_digits.f k a0 = some r) :
    Calls Tryd.prog 43 #[.int .u64 a0] w fun e w' => e = .returned (.string r) ∧ Below w.heap.size w w' := by
  have HB := Aside0.mk (Below.refl w.heap.size w)
  have H : (frustumref06_digits.l0 k a0 (⟨#[]⟩ : ByteArray)) = some r := h
  clear h
  have H' := Aside0.mk H
  clear H
  go_enter Tryd.func43, Tryd.ntmps43
  go_wp2
  go_loopg [0, 3] k (fun kq v0 v3 w' => ∃ (x0_1 : Int) (x3_1 : ByteArray), v0 = .int .u64 x0_1 ∧ v3 = .string x3_1 ∧ Aside0 (frustumref06_digits.l0 kq x0_1 x3_1 = some r) ∧ Aside0 (kq ≤ k) ∧ Aside0 (Below w.heap.size w w'))
  case atStart => exact ⟨(a0), ((⟨#[]⟩ : ByteArray)), (by first | rfl | (simp; done) | (simp [*]; done) | (simp [*, ne_nil_, eq_nil_]; done)), (by first | rfl | (simp; done) | (simp [*]; done) | (simp [*, ne_nil_, eq_nil_]; done)), H', ⟨Nat.le_refl _⟩, ⟨by repeat (first | (with_reducible first | exact HB.out | apply below_alloc | apply pw_below_drewN | apply below_drew1) | exact HB.out)⟩⟩
  case round =>
    clear H'
    obtain ⟨x0_1, x3_1, rfl, rfl, HA, HK1, HB⟩ := hrel
    cases gk with
    | zero => exact absurd HA.out (by simp [frustumref06_digits.l0])
    | succ k1 =>
      have H := HA.out
      clear HA
      simp only [frustumref06_digits.l0] at H
      obtain ⟨y135, hy135⟩ : ∃ y_ : List Int, y_ = (([(IntKind.u64.wrap (48 + (Int.tmod x0_1 10))) % 256] : List Int)) := ⟨_, rfl⟩
      replace H : (if (strOfNums y135).size + x3_1.size ≤ 9223372036854775807 then (if (IntKind.u64.wrap (Int.tdiv x0_1 10)) = 0 then (some ((strOfNums y135) ++ x3_1)) else (frustumref06_digits.l0 k1 (IntKind.u64.wrap (Int.tdiv x0_1 10)) ((strOfNums y135) ++ x3_1))) else (none)) = some r := by first | (rw [hy135]; with_reducible exact H) | (have H2_ := (Option.bind_some _ _).symm.trans H; rw [hy135]; with_reducible exact H2_) | (have H2_ := (Option.bind_some _ _).symm.trans H; with_reducible exact H2_) | with_reducible exact H | (rw [hy135]; exact H) | exact H
      have Ny135 := Aside0.mk hy135
      clear hy135
      by_cases c2 : (strOfNums y135).size + x3_1.size ≤ 9223372036854775807
      · rw [if_pos c2] at H
        have c2b0 := eq_true c2
        have c2b1 : decide ((strOfNums y135).size + x3_1.size ≤ 9223372036854775807) = true := decide_eq_true c2
        try have c2b2 : (9223372036854775807 < (strOfNums y135).size + x3_1.size) = False := eq_false (Nat.not_lt.2 c2)
        by_cases c3 : (IntKind.u64.wrap (Int.tdiv x0_1 10)) = 0
        · rw [if_pos c3] at H
          have c3b0 : ((IntKind.u64.wrap (Int.tdiv x0_1 10)) == 0) = true := beq_iff_eq.mpr c3
          have c3b1 : ((IntKind.u64.wrap (Int.tdiv x0_1 10)) != 0) = false := bne_eq_false_iff_eq.mpr c3
          clear c3
          obtain rfl := Option.some.inj H
          go_wp2_with (first | ((with_reducible refine gate_dst (N := 8) rfl ?_); refine Kd.R_lit (Kd.int .u8) _ 5 ?hg (N := 8) ?hd (xs := ([(IntKind.u64.wrap (48 + (Int.tmod x0_1 10))) % 256] : List Int)) (inner := [.int .u8 ((IntKind.u64.wrap (48 + (Int.tmod x0_1 10))) % 256)]) (ok := fun _ => True) (okp := fun _ => True) ?hr ?hp (fun _ hk => hk) trivial (Below.refl _ _) (Nat.le_refl _) (by simp) ?_; (case hd => rfl); (case hg => rfl); (case hr => first | (go_simp; done) | (go_simp; rfl)); (case hp => exact (Reps.one (show Kd.M (Kd.int .u8) _ _ _ ((IntKind.u64.wrap (48 + (Int.tmod x0_1 10))) % 256) [.int .u8 ((IntKind.u64.wrap (48 + (Int.tmod x0_1 10))) % 256)] from rfl) (Reps.none _ _))); intro v136 w4 ho5 hb hg_ hnew_; clear hg_ hnew_; (first | rw [← Ny135.out] at ho5 | (simp only [Int.reduceToNat] at ho5; rw [← Ny135.out] at ho5)); have n0_ := Aside0.mk (Kd.R_lower ho5 (below_size (by repeat (first | (with_reducible first | exact HB.out | apply below_alloc | apply pw_below_drewN | apply below_drew1) | exact HB.out)))); have n1_ := Aside0.mk (below_step (by repeat (first | (with_reducible first | exact HB.out | apply below_alloc | apply pw_below_drewN | apply below_drew1) | exact HB.out)) hb); clear HB; have HO137 := n0_; have HB := n1_; clear n0_ n1_; clear hb ho5; have hcv6 := own_string (P := Tryd.prog) Tryd.underlying58 Tryd.underlying5 Tryd.underlying9 (Kd.own_of_R HO137.out)))
          go_ret
          exact ⟨by first | rfl | (simp [errW_none, errW_some] <;> rfl) | (simp [*, errW_none, errW_some] <;> rfl), by repeat (first | (with_reducible first | exact HB.out | apply below_alloc | apply pw_below_drewN | apply below_drew1) | exact HB.out)⟩
        · rw [if_neg c3] at H
          have c3b0 : ((IntKind.u64.wrap (Int.tdiv x0_1 10)) == 0) = false := beq_eq_false_iff_ne.mpr c3
          have c3b1 : ((IntKind.u64.wrap (Int.tdiv x0_1 10)) != 0) = true := bne_iff_ne.mpr c3
          have H' := Aside0.mk H
          clear H
          go_wp2_with (first | ((with_reducible refine gate_dst (N := 8) rfl ?_); refine Kd.R_lit (Kd.int .u8) _ 5 ?hg (N := 8) ?hd (xs := ([(IntKind.u64.wrap (48 + (Int.tmod x0_1 10))) % 256] : List Int)) (inner := [.int .u8 ((IntKind.u64.wrap (48 + (Int.tmod x0_1 10))) % 256)]) (ok := fun _ => True) (okp := fun _ => True) ?hr ?hp (fun _ hk => hk) trivial (Below.refl _ _) (Nat.le_refl _) (by simp) ?_; (case hd => rfl); (case hg => rfl); (case hr => first | (go_simp; done) | (go_simp; rfl)); (case hp => exact (Reps.one (show Kd.M (Kd.int .u8) _ _ _ ((IntKind.u64.wrap (48 + (Int.tmod x0_1 10))) % 256) [.int .u8 ((IntKind.u64.wrap (48 + (Int.tmod x0_1 10))) % 256)] from rfl) (Reps.none _ _))); intro v136 w7 ho8 hb hg_ hnew_; clear hg_ hnew_; (first | rw [← Ny135.out] at ho8 | (simp only [Int.reduceToNat] at ho8; rw [← Ny135.out] at ho8)); have n0_ := Aside0.mk (Kd.R_lower ho8 (below_size (by repeat (first | (with_reducible first | exact HB.out | apply below_alloc | apply pw_below_drewN | apply below_drew1) | exact HB.out)))); have n1_ := Aside0.mk (below_step (by repeat (first | (with_reducible first | exact HB.out | apply below_alloc | apply pw_below_drewN | apply below_drew1) | exact HB.out)) hb); clear HB; have HO137 := n0_; have HB := n1_; clear n0_ n1_; clear hb ho8; have hcv9 := own_string (P := Tryd.prog) Tryd.underlying58 Tryd.underlying5 Tryd.underlying9 (Kd.own_of_R HO137.out)))
          go_roundg k1
          case measure => have := HK1.out; omega
          case rel => exact ⟨(IntKind.u64.wrap (Int.tdiv x0_1 10)), ((strOfNums y135) ++ x3_1), (by first | rfl | (simp; done) | (simp [*]; done) | (simp [*, ne_nil_, eq_nil_]; done)), (by first | rfl | (simp; done) | (simp [*]; done) | (simp [*, ne_nil_, eq_nil_]; done)), H', ⟨by have := HK1.out; omega⟩, ⟨by repeat (first | (with_reducible first | exact HB.out | apply below_alloc | apply pw_below_drewN | apply below_drew1) | exact HB.out)⟩⟩
      · rw [if_neg c2] at H
        exact absurd H (by simp)

end Go.Proofs.YtkmnkikcbmfecaaDoor.PF
