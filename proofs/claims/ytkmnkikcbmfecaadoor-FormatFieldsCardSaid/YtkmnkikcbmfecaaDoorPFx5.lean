-- Written by a program of the session (gprint.py) out of the kit's print of the translation. Lean checks it.
import Derived.Test.YtkmnkikcbmfecaaDoorPFx0
import Derived.Test.YtkmnkikcbmfecaaDoorPFx2
import Derived.Test.YtkmnkikcbmfecaaDoorPFx3
import Derived.Test.YtkmnkikcbmfecaaDoorPFx4
namespace Go.Proofs.YtkmnkikcbmfecaaDoor.PF
open Go.RowKit Go.Proofs.YtkmnkikcbmfecaaDoorW.PrintWords Go.Proofs.YtkmnkikcbmfecaaDoorW.PrintLast Go.Proofs.YtkmnkikcbmfecaaDoorW.PrintMore
attribute [local go_sem] max2_int min2_int max_two min_two max_three min_three max_four min_four   -- for this text's walks alone
set_option linter.unusedVariables false
set_option linter.unusedSimpArgs false

/-! ### frustumref06_FormatFixed: function 14 -/
mutual
def frustumref06_FormatFixed.j0 : Nat → Int → ByteArray → Option (ByteArray)
  | 0, _, _ => none
  | k + 1, x0, x3 => frustumref06_FormatFixed.l0 k x0 x3 (Int.tmod x0 65536) 1
def frustumref06_FormatFixed.l0 : Nat → Int → ByteArray → Int → Int → Option (ByteArray)
  | 0, _, _, _, _ => none
  | k + 1, x0, x3, x4, x5 => if x5 < 6 then ((frustumref06_power.f k x5).bind fun t139 => ((frustumref01_RoundDiv.f k (wrap64 (x4 * t139)) 65536).bind fun t140 => ((frustumref06_power.f k x5).bind fun t141 => (if t140 < t141 then ((frustumref06_power.f k x5).bind fun t142 => ((frustumref01_RoundDiv.f k (wrap64 (t140 * 65536)) t142).bind fun t143 => (frustumref06_FormatFixed.j2 k x0 x3 x4 x5 t140 (t143 == x4)))) else (frustumref06_FormatFixed.j2 k x0 x3 x4 x5 t140 false))))) else (some (⟨#[]⟩ : ByteArray))
def frustumref06_FormatFixed.j2 : Nat → Int → ByteArray → Int → Int → Int → Bool → Option (ByteArray)
  | 0, _, _, _, _, _, _ => none
  | k + 1, x0, x3, x4, x5, x6, x38 => if x38 = true then ((frustumref06_digits.f k (IntKind.u64.wrap (wrap64 (Int.tdiv x0 65536)))).bind fun t144 => (if x3.size + t144.size ≤ 9223372036854775807 then (if (x3 ++ t144).size + 1 ≤ 9223372036854775807 then ((frustumref06_power.f k x5).bind fun t145 => ((frustumref06_digits.f k (IntKind.u64.wrap (wrap64 (t145 + x6)))).bind fun t146 => (if 1 ≤ (t146.size : Int) then (if ((x3 ++ t144) ++ (⟨#[46]⟩ : ByteArray)).size + (t146.extract 1 t146.size).size ≤ 9223372036854775807 then (some (((x3 ++ t144) ++ (⟨#[46]⟩ : ByteArray)) ++ (t146.extract 1 t146.size))) else (none)) else (none)))) else (none)) else (none))) else (frustumref06_FormatFixed.l0 k x0 x3 x4 (wrap64 (x5 + 1)))
end
def frustumref06_FormatFixed.f (k : Nat) (a0 : Int) : Option (ByteArray) := (frustumref01_Saturate.f k a0).bind fun t138 => (if a0 = t138 then (if a0 < 0 then (frustumref06_FormatFixed.j0 k (wrap64 (-a0)) (⟨#[45]⟩ : ByteArray)) else (frustumref06_FormatFixed.j0 k a0 (⟨#[]⟩ : ByteArray))) else (some (⟨#[]⟩ : ByteArray)))
theorem frustumref06_FormatFixed.mono_l : ∀ k, (∀ y0 y1, LeO (frustumref06_FormatFixed.j0 k y0 y1) (frustumref06_FormatFixed.j0 (k + 1) y0 y1)) ∧ (∀ y0 y1 y2 y3, LeO (frustumref06_FormatFixed.l0 k y0 y1 y2 y3) (frustumref06_FormatFixed.l0 (k + 1) y0 y1 y2 y3)) ∧ (∀ y0 y1 y2 y3 y4 y5, LeO (frustumref06_FormatFixed.j2 k y0 y1 y2 y3 y4 y5) (frustumref06_FormatFixed.j2 (k + 1) y0 y1 y2 y3 y4 y5))
  | 0 => ⟨fun _ _ r h => by simp [frustumref06_FormatFixed.j0] at h, fun _ _ _ _ r h => by simp [frustumref06_FormatFixed.l0] at h, fun _ _ _ _ _ _ r h => by simp [frustumref06_FormatFixed.j2] at h⟩
  | k + 1 => by
    obtain ⟨ih0, ih1, ih2⟩ := frustumref06_FormatFixed.mono_l k
    refine ⟨?_, ?_, ?_⟩
    · intro y0 y1
      unfold frustumref06_FormatFixed.j0
      repeat' first
      | (with_reducible exact ih0 _ _)
      | (with_reducible exact ih1 _ _ _ _)
      | (with_reducible exact ih2 _ _ _ _ _ _)
      | (with_reducible exact frustumref01_RoundDiv.mono _ _ _)
      | (with_reducible exact frustumref01_Saturate.mono _ _)
      | (with_reducible exact frustumref06_digits.mono _ _)
      | (with_reducible exact frustumref06_power.mono _ _)
      | (with_reducible exact LeO.refl _)
      | (with_reducible exact LeO.none _)
      | (with_reducible refine LeO.ite ?_ ?_)
      | (with_reducible refine LeO.bind ?_ (fun _ => ?_))
      | exact ih0 _ _
      | exact ih1 _ _ _ _
      | exact ih2 _ _ _ _ _ _
      | exact frustumref01_RoundDiv.mono _ _ _
      | exact frustumref01_Saturate.mono _ _
      | exact frustumref06_digits.mono _ _
      | exact frustumref06_power.mono _ _
      | exact LeO.none _
      | refine LeO.ite ?_ ?_
      | refine LeO.bind ?_ (fun _ => ?_)
    · intro y0 y1 y2 y3
      unfold frustumref06_FormatFixed.l0
      repeat' first
      | (with_reducible exact ih0 _ _)
      | (with_reducible exact ih1 _ _ _ _)
      | (with_reducible exact ih2 _ _ _ _ _ _)
      | (with_reducible exact frustumref01_RoundDiv.mono _ _ _)
      | (with_reducible exact frustumref01_Saturate.mono _ _)
      | (with_reducible exact frustumref06_digits.mono _ _)
      | (with_reducible exact frustumref06_power.mono _ _)
      | (with_reducible exact LeO.refl _)
      | (with_reducible exact LeO.none _)
      | (with_reducible refine LeO.ite ?_ ?_)
      | (with_reducible refine LeO.bind ?_ (fun _ => ?_))
      | exact ih0 _ _
      | exact ih1 _ _ _ _
      | exact ih2 _ _ _ _ _ _
      | exact frustumref01_RoundDiv.mono _ _ _
      | exact frustumref01_Saturate.mono _ _
      | exact frustumref06_digits.mono _ _
      | exact frustumref06_power.mono _ _
      | exact LeO.none _
      | refine LeO.ite ?_ ?_
      | refine LeO.bind ?_ (fun _ => ?_)
    · intro y0 y1 y2 y3 y4 y5
      unfold frustumref06_FormatFixed.j2
      repeat' first
      | (with_reducible exact ih0 _ _)
      | (with_reducible exact ih1 _ _ _ _)
      | (with_reducible exact ih2 _ _ _ _ _ _)
      | (with_reducible exact frustumref01_RoundDiv.mono _ _ _)
      | (with_reducible exact frustumref01_Saturate.mono _ _)
      | (with_reducible exact frustumref06_digits.mono _ _)
      | (with_reducible exact frustumref06_power.mono _ _)
      | (with_reducible exact LeO.refl _)
      | (with_reducible exact LeO.none _)
      | (with_reducible refine LeO.ite ?_ ?_)
      | (with_reducible refine LeO.bind ?_ (fun _ => ?_))
      | exact ih0 _ _
      | exact ih1 _ _ _ _
      | exact ih2 _ _ _ _ _ _
      | exact frustumref01_RoundDiv.mono _ _ _
      | exact frustumref01_Saturate.mono _ _
      | exact frustumref06_digits.mono _ _
      | exact frustumref06_power.mono _ _
      | exact LeO.none _
      | refine LeO.ite ?_ ?_
      | refine LeO.bind ?_ (fun _ => ?_)
theorem frustumref06_FormatFixed.mono : ∀ a0 k, LeO (frustumref06_FormatFixed.f k a0) (frustumref06_FormatFixed.f (k + 1) a0) := by
  intro a0 k
  obtain ⟨ih0, ih1, ih2⟩ := frustumref06_FormatFixed.mono_l k
  unfold frustumref06_FormatFixed.f
  repeat' first
      | (with_reducible exact ih0 _ _)
      | (with_reducible exact ih1 _ _ _ _)
      | (with_reducible exact ih2 _ _ _ _ _ _)
      | (with_reducible exact frustumref01_RoundDiv.mono _ _ _)
      | (with_reducible exact frustumref01_Saturate.mono _ _)
      | (with_reducible exact frustumref06_digits.mono _ _)
      | (with_reducible exact frustumref06_power.mono _ _)
      | (with_reducible exact LeO.refl _)
      | (with_reducible exact LeO.none _)
      | (with_reducible refine LeO.ite ?_ ?_)
      | (with_reducible refine LeO.bind ?_ (fun _ => ?_))
      | exact ih0 _ _
      | exact ih1 _ _ _ _
      | exact ih2 _ _ _ _ _ _
      | exact frustumref01_RoundDiv.mono _ _ _
      | exact frustumref01_Saturate.mono _ _
      | exact frustumref06_digits.mono _ _
      | exact frustumref06_power.mono _ _
      | exact LeO.none _
      | refine LeO.ite ?_ ?_
      | refine LeO.bind ?_ (fun _ => ?_)
set_option maxHeartbeats 8000000 in
set_option maxRecDepth 100000 in
theorem frustumref06_FormatFixed.calls (k : Nat) (a0 : Int) (r : ByteArray) (w : World) (h : frustumref06_FormatFixed.f k a0 = some r) :
    Calls Tryd.prog 14 #[.int .i64 a0] w fun e w' => e = .returned (.string r) ∧ Below w.heap.size w w' := by
  have HB := Aside0.mk (Below.refl w.heap.size w)
  have H : ((frustumref01_Saturate.f k a0).bind fun t138 => (if a0 = t138 then (if a0 < 0 then (frustumref06_FormatFixed.j0 k (wrap64 (-a0)) (⟨#[45]⟩ : ByteArray)) else (frustumref06_FormatFixed.j0 k a0 (⟨#[]⟩ : ByteArray))) else (some (⟨#[]⟩ : ByteArray)))) = some r := h
  clear h
  replace H := Option.bind_eq_some_iff.mp H
  obtain ⟨t138, A20, H⟩ := H
  replace H : (if a0 = t138 then (if a0 < 0 then (frustumref06_FormatFixed.j0 k (wrap64 (-a0)) (⟨#[45]⟩ : ByteArray)) else (frustumref06_FormatFixed.j0 k a0 (⟨#[]⟩ : ByteArray))) else (some (⟨#[]⟩ : ByteArray))) = some r := H
  have A2 := Aside0.mk A20
  clear A20
  by_cases c3 : a0 = t138
  · rw [if_pos c3] at H
    have c3b0 : (a0 == t138) = true := beq_iff_eq.mpr c3
    have c3b1 : (a0 != t138) = false := bne_eq_false_iff_eq.mpr c3
    clear c3
    have HC4 := Aside0.mk H
    clear H
    go_enter Tryd.func14, Tryd.ntmps14
    go_upto_if 12 with (first | ((with_reducible refine gate_callee (f := 42) rfl ?_); refine goesL_ (some 9) rfl rfl Tryd.func42 (by kernel_rfl) rfl #[.int .i64 a0] rfl (by (try simp only [List.map_toArray, List.map_cons, List.map_nil]); first | done | rfl | (simp only [List.length_drop, List.length_take]; rfl)) ?_; (with_reducible refine (frustumref01_Saturate.calls k a0 t138 _ A2.out).mono ?_); rintro e w' ⟨rfl, ⟨nd, rfl⟩⟩; refine ⟨_, rfl, ?_⟩))
    (try simp only [Act.put, List.setIfInBounds_toArray, List.set_cons_zero, List.set_cons_succ])
    go_cut [0, 3] (fun v0 v3 wc => ∃ (kq : Nat) (x0_3 : Int) (x3_3 : ByteArray), v0 = .int .i64 x0_3 ∧ v3 = .string x3_3 ∧ Aside0 (frustumref06_FormatFixed.j0 kq x0_3 x3_3 = some r) ∧ Aside0 (kq ≤ k) ∧ Aside0 (Below w.heap.size w wc))
    case first =>
      have H := HC4.out
      clear HC4
      by_cases c5 : a0 < 0
      · rw [if_pos c5] at H
        have c5b0 : decide (a0 < 0) = true := decide_eq_true c5
        clear c5
        (first | rw [c5b0] | (simp only [i64_w, i32_w]; rw [c5b0]) | skip)
        have H' := Aside0.mk H
        clear H
        go_wp2
        go_meet
        case rel => exact ⟨_, (wrap64 (-a0)), ((⟨#[45]⟩ : ByteArray)), (by first | rfl | (simp; done) | (simp [*]; done) | (simp [*, ne_nil_, eq_nil_]; done)), (by first | rfl | (simp; done) | (simp [*]; done) | (simp [*, ne_nil_, eq_nil_]; done)), H', ⟨by first | omega | exact Nat.le_refl _⟩, ⟨by repeat (first | (with_reducible first | exact HB.out | apply below_alloc | apply pw_below_drewN | apply below_drew1) | exact HB.out)⟩⟩
      · rw [if_neg c5] at H
        have c5b0 : decide (a0 < 0) = false := decide_eq_false c5
        clear c5
        (first | rw [c5b0] | (simp only [i64_w, i32_w]; rw [c5b0]) | skip)
        have H' := Aside0.mk H
        clear H
        go_wp2
        go_meet
        case rel => exact ⟨_, (a0), ((⟨#[]⟩ : ByteArray)), (by first | rfl | (simp; done) | (simp [*]; done) | (simp [*, ne_nil_, eq_nil_]; done)), (by first | rfl | (simp; done) | (simp [*]; done) | (simp [*, ne_nil_, eq_nil_]; done)), H', ⟨by first | omega | exact Nat.le_refl _⟩, ⟨by repeat (first | (with_reducible first | exact HB.out | apply below_alloc | apply pw_below_drewN | apply below_drew1) | exact HB.out)⟩⟩
    case rest =>
      clear HC4
      try clear c1
      try clear p2
      try clear c3
      try clear c3b0
      try clear c3b1
      try clear c4
      try clear c5
      try clear c5b0
      obtain ⟨kq, x0_3, x3_3, rfl, rfl, HA, HJ3, HB⟩ := hcut
      cases kq with
      | zero => exact absurd HA.out (by simp [frustumref06_FormatFixed.j0])
      | succ kj3 =>
        have H := HA.out
        clear HA
        simp only [frustumref06_FormatFixed.j0] at H
        have H' := Aside0.mk H
        clear H
        go_wp2
        go_loopg [5] kj3 (fun kq v5 w' => ∃ (x5_2 : Int), v5 = .int .i64 x5_2 ∧ Aside0 (frustumref06_FormatFixed.l0 kq x0_3 x3_3 (Int.tmod x0_3 65536) x5_2 = some r) ∧ Aside0 (kq ≤ kj3) ∧ Aside0 (Below w.heap.size w w'))
        case atStart => exact ⟨(1), (by first | rfl | (simp; done) | (simp [*]; done) | (simp [*, ne_nil_, eq_nil_]; done)), H', ⟨Nat.le_refl _⟩, ⟨by repeat (first | (with_reducible first | exact HB.out | apply below_alloc | apply pw_below_drewN | apply below_drew1) | exact HB.out)⟩⟩
        case round =>
          clear H'
          try clear c1
          try clear p2
          try clear c3
          try clear c3b0
          try clear c3b1
          try clear c4
          try clear c5
          try clear c5b0
          try clear p2
          obtain ⟨x5_2, rfl, HA, HK2, HB⟩ := hrel
          cases gk with
          | zero => exact absurd HA.out (by simp [frustumref06_FormatFixed.l0])
          | succ k2 =>
            have H := HA.out
            clear HA
            simp only [frustumref06_FormatFixed.l0] at H
            by_cases c6 : x5_2 < 6
            · rw [if_pos c6] at H
              have c6b0 : decide (x5_2 < 6) = true := decide_eq_true c6
              clear c6
              replace H := Option.bind_eq_some_iff.mp H
              obtain ⟨t139, A70, H⟩ := H
              replace H : ((frustumref01_RoundDiv.f k2 (wrap64 ((Int.tmod x0_3 65536) * t139)) 65536).bind fun t140 => ((frustumref06_power.f k2 x5_2).bind fun t141 => (if t140 < t141 then ((frustumref06_power.f k2 x5_2).bind fun t142 => ((frustumref01_RoundDiv.f k2 (wrap64 (t140 * 65536)) t142).bind fun t143 => (frustumref06_FormatFixed.j2 k2 x0_3 x3_3 (Int.tmod x0_3 65536) x5_2 t140 (t143 == (Int.tmod x0_3 65536))))) else (frustumref06_FormatFixed.j2 k2 x0_3 x3_3 (Int.tmod x0_3 65536) x5_2 t140 false)))) = some r := H
              have A7 := Aside0.mk A70
              clear A70
              replace H := Option.bind_eq_some_iff.mp H
              obtain ⟨t140, A80, H⟩ := H
              replace H : ((frustumref06_power.f k2 x5_2).bind fun t141 => (if t140 < t141 then ((frustumref06_power.f k2 x5_2).bind fun t142 => ((frustumref01_RoundDiv.f k2 (wrap64 (t140 * 65536)) t142).bind fun t143 => (frustumref06_FormatFixed.j2 k2 x0_3 x3_3 (Int.tmod x0_3 65536) x5_2 t140 (t143 == (Int.tmod x0_3 65536))))) else (frustumref06_FormatFixed.j2 k2 x0_3 x3_3 (Int.tmod x0_3 65536) x5_2 t140 false))) = some r := H
              have A8 := Aside0.mk A80
              clear A80
              have HC9 := Aside0.mk H
              clear H
              go_upto_region 12 with (first | ((with_reducible refine gate_callee (f := 39) rfl ?_); refine goesL_ (some 23) rfl rfl Tryd.func39 (by kernel_rfl) rfl #[.int .i64 x5_2] rfl (by (try simp only [List.map_toArray, List.map_cons, List.map_nil]); first | done | rfl | (simp only [List.length_drop, List.length_take]; rfl)) ?_; (with_reducible refine (frustumref06_power.calls k2 x5_2 t139 _ A7.out).mono ?_); rintro e w' ⟨rfl, ⟨nd, rfl⟩⟩; refine ⟨_, rfl, ?_⟩) | ((with_reducible refine gate_callee (f := 38) rfl ?_); refine goesL_ (some 25) rfl rfl Tryd.func38 (by kernel_rfl) rfl #[.int .i64 (wrap64 ((Int.tmod x0_3 65536) * t139)), .int .i64 65536] rfl (by (try simp only [List.map_toArray, List.map_cons, List.map_nil]); first | done | rfl | (simp only [List.length_drop, List.length_take]; rfl)) ?_; (with_reducible refine (frustumref01_RoundDiv.calls k2 (wrap64 ((Int.tmod x0_3 65536) * t139)) 65536 t140 _ A8.out).mono ?_); rintro e w' ⟨rfl, ⟨nd, rfl⟩⟩; refine ⟨_, rfl, ?_⟩))
              (try simp only [Act.put, List.setIfInBounds_toArray, List.set_cons_zero, List.set_cons_succ])
              go_cut [38] (fun v38 wc => ∃ (kq : Nat) (x38_8 : Bool), v38 = .bool x38_8 ∧ Aside0 (frustumref06_FormatFixed.j2 kq x0_3 x3_3 (Int.tmod x0_3 65536) x5_2 t140 x38_8 = some r) ∧ Aside0 (kq ≤ k2) ∧ Aside0 (Below w.heap.size w wc))
              case first =>
                have H := HC9.out
                clear HC9
                replace H := Option.bind_eq_some_iff.mp H
                obtain ⟨t141, A100, H⟩ := H
                replace H : (if t140 < t141 then ((frustumref06_power.f k2 x5_2).bind fun t142 => ((frustumref01_RoundDiv.f k2 (wrap64 (t140 * 65536)) t142).bind fun t143 => (frustumref06_FormatFixed.j2 k2 x0_3 x3_3 (Int.tmod x0_3 65536) x5_2 t140 (t143 == (Int.tmod x0_3 65536))))) else (frustumref06_FormatFixed.j2 k2 x0_3 x3_3 (Int.tmod x0_3 65536) x5_2 t140 false)) = some r := H
                have A10 := Aside0.mk A100
                clear A100
                by_cases c11 : t140 < t141
                · rw [if_pos c11] at H
                  have c11b0 : decide (t140 < t141) = true := decide_eq_true c11
                  clear c11
                  (first | rw [c11b0] | (simp only [i64_w, i32_w]; rw [c11b0]) | skip)
                  replace H := Option.bind_eq_some_iff.mp H
                  obtain ⟨t142, A120, H⟩ := H
                  replace H : ((frustumref01_RoundDiv.f k2 (wrap64 (t140 * 65536)) t142).bind fun t143 => (frustumref06_FormatFixed.j2 k2 x0_3 x3_3 (Int.tmod x0_3 65536) x5_2 t140 (t143 == (Int.tmod x0_3 65536)))) = some r := H
                  have A12 := Aside0.mk A120
                  clear A120
                  replace H := Option.bind_eq_some_iff.mp H
                  obtain ⟨t143, A130, H⟩ := H
                  replace H : (frustumref06_FormatFixed.j2 k2 x0_3 x3_3 (Int.tmod x0_3 65536) x5_2 t140 (t143 == (Int.tmod x0_3 65536))) = some r := H
                  have A13 := Aside0.mk A130
                  clear A130
                  have H' := Aside0.mk H
                  clear H
                  go_wp2_with (first | ((with_reducible refine gate_callee (f := 39) rfl ?_); refine goesL_ (some 28) rfl rfl Tryd.func39 (by kernel_rfl) rfl #[.int .i64 x5_2] rfl (by (try simp only [List.map_toArray, List.map_cons, List.map_nil]); first | done | rfl | (simp only [List.length_drop, List.length_take]; rfl)) ?_; (with_reducible refine (frustumref06_power.calls k2 x5_2 t141 _ A10.out).mono ?_); rintro e w' ⟨rfl, ⟨nd, rfl⟩⟩; refine ⟨_, rfl, ?_⟩) | (go_at_call 39; (with_reducible refine (frustumref06_power.calls k2 x5_2 t142 _ A12.out).mono ?_); rintro e w' ⟨rfl, ⟨nd, rfl⟩⟩) | (go_at_call 38; (with_reducible refine (frustumref01_RoundDiv.calls k2 (wrap64 (t140 * 65536)) t142 t143 _ A13.out).mono ?_); rintro e w' ⟨rfl, ⟨nd, rfl⟩⟩))
                  go_meet
                  case rel => exact ⟨_, ((t143 == (Int.tmod x0_3 65536))), (by first | rfl | (simp; done) | (simp [*]; done) | (simp [*, ne_nil_, eq_nil_]; done)), H', ⟨by have := HJ3.out; have := HK2.out; first | omega | exact Nat.le_refl _⟩, ⟨by repeat (first | (with_reducible first | exact HB.out | apply below_alloc | apply pw_below_drewN | apply below_drew1) | exact HB.out)⟩⟩
                · rw [if_neg c11] at H
                  have c11b0 : decide (t140 < t141) = false := decide_eq_false c11
                  clear c11
                  (first | rw [c11b0] | (simp only [i64_w, i32_w]; rw [c11b0]) | skip)
                  have H' := Aside0.mk H
                  clear H
                  go_wp2_with (first | ((with_reducible refine gate_callee (f := 39) rfl ?_); refine goesL_ (some 28) rfl rfl Tryd.func39 (by kernel_rfl) rfl #[.int .i64 x5_2] rfl (by (try simp only [List.map_toArray, List.map_cons, List.map_nil]); first | done | rfl | (simp only [List.length_drop, List.length_take]; rfl)) ?_; (with_reducible refine (frustumref06_power.calls k2 x5_2 t141 _ A10.out).mono ?_); rintro e w' ⟨rfl, ⟨nd, rfl⟩⟩; refine ⟨_, rfl, ?_⟩))
                  go_meet
                  case rel => exact ⟨_, (false), (by first | rfl | (simp; done) | (simp [*]; done) | (simp [*, ne_nil_, eq_nil_]; done)), H', ⟨by have := HJ3.out; have := HK2.out; first | omega | exact Nat.le_refl _⟩, ⟨by repeat (first | (with_reducible first | exact HB.out | apply below_alloc | apply pw_below_drewN | apply below_drew1) | exact HB.out)⟩⟩
              case rest =>
                clear HC9
                try clear c1
                try clear p2
                try clear c3
                try clear c3b0
                try clear c3b1
                try clear c4
                try clear c5
                try clear c5b0
                try clear c6
                try clear c6b0
                try clear p6
                try clear c11
                try clear c11b0
                try clear p2
                obtain ⟨kq, x38_8, rfl, HA, HJ8, HB⟩ := hcut
                cases kq with
                | zero => exact absurd HA.out (by simp [frustumref06_FormatFixed.j2])
                | succ kj8 =>
                  have H := HA.out
                  clear HA
                  simp only [frustumref06_FormatFixed.j2] at H
                  by_cases c14 : x38_8 = true
                  · subst c14
                    have H1 : ((frustumref06_digits.f kj8 (IntKind.u64.wrap (wrap64 (Int.tdiv x0_3 65536)))).bind fun t144 => (if x3_3.size + t144.size ≤ 9223372036854775807 then (if (x3_3 ++ t144).size + 1 ≤ 9223372036854775807 then ((frustumref06_power.f kj8 x5_2).bind fun t145 => ((frustumref06_digits.f kj8 (IntKind.u64.wrap (wrap64 (t145 + t140)))).bind fun t146 => (if 1 ≤ (t146.size : Int) then (if ((x3_3 ++ t144) ++ (⟨#[46]⟩ : ByteArray)).size + (t146.extract 1 t146.size).size ≤ 9223372036854775807 then (some (((x3_3 ++ t144) ++ (⟨#[46]⟩ : ByteArray)) ++ (t146.extract 1 t146.size))) else (none)) else (none)))) else (none)) else (none))) = some r := by rw [if_pos rfl] at H; exact H
                    clear H
                    have H := H1
                    clear H1
                    replace H := Option.bind_eq_some_iff.mp H
                    obtain ⟨t144, A150, H⟩ := H
                    replace H : (if x3_3.size + t144.size ≤ 9223372036854775807 then (if (x3_3 ++ t144).size + 1 ≤ 9223372036854775807 then ((frustumref06_power.f kj8 x5_2).bind fun t145 => ((frustumref06_digits.f kj8 (IntKind.u64.wrap (wrap64 (t145 + t140)))).bind fun t146 => (if 1 ≤ (t146.size : Int) then (if ((x3_3 ++ t144) ++ (⟨#[46]⟩ : ByteArray)).size + (t146.extract 1 t146.size).size ≤ 9223372036854775807 then (some (((x3_3 ++ t144) ++ (⟨#[46]⟩ : ByteArray)) ++ (t146.extract 1 t146.size))) else (none)) else (none)))) else (none)) else (none)) = some r := H
                    have A15 := Aside0.mk A150
                    clear A150
                    by_cases c16 : x3_3.size + t144.size ≤ 9223372036854775807
                    · rw [if_pos c16] at H
                      have c16b0 := eq_true c16
                      have c16b1 : decide (x3_3.size + t144.size ≤ 9223372036854775807) = true := decide_eq_true c16
                      try have c16b2 : (9223372036854775807 < x3_3.size + t144.size) = False := eq_false (Nat.not_lt.2 c16)
                      by_cases c17 : (x3_3 ++ t144).size + 1 ≤ 9223372036854775807
                      · rw [if_pos c17] at H
                        have c17b0 := eq_true c17
                        have c17b1 : decide ((x3_3 ++ t144).size + 1 ≤ 9223372036854775807) = true := decide_eq_true c17
                        try have c17b2 : (9223372036854775807 < (x3_3 ++ t144).size + 1) = False := eq_false (Nat.not_lt.2 c17)
                        try have c17b4 : (9223372036854775807 < x3_3.size + t144.size + 1) = False := eq_false (Nat.not_lt.2 (by have h_ := c17; simp only [ByteArray.size_append] at h_; exact h_))
                        replace H := Option.bind_eq_some_iff.mp H
                        obtain ⟨t145, A180, H⟩ := H
                        replace H : ((frustumref06_digits.f kj8 (IntKind.u64.wrap (wrap64 (t145 + t140)))).bind fun t146 => (if 1 ≤ (t146.size : Int) then (if ((x3_3 ++ t144) ++ (⟨#[46]⟩ : ByteArray)).size + (t146.extract 1 t146.size).size ≤ 9223372036854775807 then (some (((x3_3 ++ t144) ++ (⟨#[46]⟩ : ByteArray)) ++ (t146.extract 1 t146.size))) else (none)) else (none))) = some r := H
                        have A18 := Aside0.mk A180
                        clear A180
                        replace H := Option.bind_eq_some_iff.mp H
                        obtain ⟨t146, A190, H⟩ := H
                        replace H : (if 1 ≤ (t146.size : Int) then (if ((x3_3 ++ t144) ++ (⟨#[46]⟩ : ByteArray)).size + (t146.extract 1 t146.size).size ≤ 9223372036854775807 then (some (((x3_3 ++ t144) ++ (⟨#[46]⟩ : ByteArray)) ++ (t146.extract 1 t146.size))) else (none)) else (none)) = some r := H
                        have A19 := Aside0.mk A190
                        clear A190
                        by_cases c20 : 1 ≤ (t146.size : Int)
                        · rw [if_pos c20] at H
                          have c20b0 := eq_true c20
                          have c20b1 : decide (1 ≤ (t146.size : Int)) = true := decide_eq_true c20
                          clear c20
                          by_cases c21 : ((x3_3 ++ t144) ++ (⟨#[46]⟩ : ByteArray)).size + (t146.extract 1 t146.size).size ≤ 9223372036854775807
                          · rw [if_pos c21] at H
                            have c21b0 := eq_true c21
                            have c21b1 : decide (((x3_3 ++ t144) ++ (⟨#[46]⟩ : ByteArray)).size + (t146.extract 1 t146.size).size ≤ 9223372036854775807) = true := decide_eq_true c21
                            try have c21b2 : (9223372036854775807 < ((x3_3 ++ t144) ++ (⟨#[46]⟩ : ByteArray)).size + (t146.extract 1 t146.size).size) = False := eq_false (Nat.not_lt.2 c21)
                            try have c21b4 : (9223372036854775807 < x3_3.size + t144.size + 1 + (t146.extract 1 t146.size).size) = False := eq_false (Nat.not_lt.2 (by have h_ := c21; simp only [ByteArray.size_append] at h_; exact h_))
                            obtain rfl := Option.some.inj H
                            go_wp2_with (first | ((with_reducible refine gate_callee (f := 43) rfl ?_); refine goesL_ (some 43) rfl rfl Tryd.func43 (by kernel_rfl) rfl #[.int .u64 (IntKind.u64.wrap (wrap64 (Int.tdiv x0_3 65536)))] rfl (by (try simp only [List.map_toArray, List.map_cons, List.map_nil]); first | done | rfl | (simp only [List.length_drop, List.length_take]; rfl)) ?_; (with_reducible refine (frustumref06_digits.calls kj8 (IntKind.u64.wrap (wrap64 (Int.tdiv x0_3 65536))) t144 _ A15.out).mono ?_); rintro e w22 ⟨rfl, hb⟩; refine ⟨_, rfl, ?_⟩; have n0_ := Aside0.mk (below_step (by repeat (first | (with_reducible first | exact HB.out | apply below_alloc | apply pw_below_drewN | apply below_drew1) | exact HB.out)) hb); clear HB; have HB := n0_; clear n0_; (try clear hb); (try clear hb2); (try clear hk); (try clear hi)) | ((with_reducible refine gate_callee (f := 39) rfl ?_); refine goesL_ (some 47) rfl rfl Tryd.func39 (by kernel_rfl) rfl #[.int .i64 x5_2] rfl (by (try simp only [List.map_toArray, List.map_cons, List.map_nil]); first | done | rfl | (simp only [List.length_drop, List.length_take]; rfl)) ?_; (with_reducible refine (frustumref06_power.calls kj8 x5_2 t145 _ A18.out).mono ?_); rintro e w' ⟨rfl, ⟨nd, rfl⟩⟩; refine ⟨_, rfl, ?_⟩) | ((with_reducible refine gate_callee (f := 43) rfl ?_); refine goesL_ (some 51) rfl rfl Tryd.func43 (by kernel_rfl) rfl #[.int .u64 (IntKind.u64.wrap (wrap64 (t145 + t140)))] rfl (by (try simp only [List.map_toArray, List.map_cons, List.map_nil]); first | done | rfl | (simp only [List.length_drop, List.length_take]; rfl)) ?_; (with_reducible refine (frustumref06_digits.calls kj8 (IntKind.u64.wrap (wrap64 (t145 + t140))) t146 _ A19.out).mono ?_); rintro e w23 ⟨rfl, hb⟩; refine ⟨_, rfl, ?_⟩; have n0_ := Aside0.mk (below_step (by repeat (first | (with_reducible first | exact HB.out | apply below_alloc | apply pw_below_drewN | apply below_drew1) | exact HB.out)) hb); clear HB; have HB := n0_; clear n0_; (try clear hb); (try clear hb2); (try clear hk); (try clear hi)))
                            go_ret
                            exact ⟨by first | rfl | (simp [errW_none, errW_some] <;> rfl) | (simp [*, errW_none, errW_some] <;> rfl), by repeat (first | (with_reducible first | exact HB.out | apply below_alloc | apply pw_below_drewN | apply below_drew1) | exact HB.out)⟩
                          · rw [if_neg c21] at H
                            exact absurd H (by simp)
                        · rw [if_neg c20] at H
                          exact absurd H (by simp)
                      · rw [if_neg c17] at H
                        exact absurd H (by simp)
                    · rw [if_neg c16] at H
                      exact absurd H (by simp)
                  · replace c14 := Bool.eq_false_iff.mpr c14
                    subst c14
                    have H1 : (frustumref06_FormatFixed.l0 kj8 x0_3 x3_3 (Int.tmod x0_3 65536) (wrap64 (x5_2 + 1))) = some r := by rw [if_neg (show ¬ (false = true) by decide)] at H; exact H
                    clear H
                    have H := H1
                    clear H1
                    have H' := Aside0.mk H
                    clear H
                    go_wp2
                    go_roundg kj8
                    case measure => have := HJ3.out; have := HK2.out; have := HJ8.out; omega
                    case rel => exact ⟨(wrap64 (x5_2 + 1)), (by first | rfl | (simp; done) | (simp [*]; done) | (simp [*, ne_nil_, eq_nil_]; done)), H', ⟨by have := HJ3.out; have := HK2.out; have := HJ8.out; omega⟩, ⟨by repeat (first | (with_reducible first | exact HB.out | apply below_alloc | apply pw_below_drewN | apply below_drew1) | exact HB.out)⟩⟩
            · rw [if_neg c6] at H
              have c6b0 : decide (x5_2 < 6) = false := decide_eq_false c6
              clear c6
              obtain rfl := Option.some.inj H
              go_wp2
              go_ret
              exact ⟨by first | rfl | (simp [errW_none, errW_some] <;> rfl) | (simp [*, errW_none, errW_some] <;> rfl), by repeat (first | (with_reducible first | exact HB.out | apply below_alloc | apply pw_below_drewN | apply below_drew1) | exact HB.out)⟩
  · rw [if_neg c3] at H
    have c3b0 : (a0 == t138) = false := beq_eq_false_iff_ne.mpr c3
    have c3b1 : (a0 != t138) = true := bne_iff_ne.mpr c3
    obtain rfl := Option.some.inj H
    go_enter Tryd.func14, Tryd.ntmps14
    go_wp2_with (first | ((with_reducible refine gate_callee (f := 42) rfl ?_); refine goesL_ (some 9) rfl rfl Tryd.func42 (by kernel_rfl) rfl #[.int .i64 a0] rfl (by (try simp only [List.map_toArray, List.map_cons, List.map_nil]); first | done | rfl | (simp only [List.length_drop, List.length_take]; rfl)) ?_; (with_reducible refine (frustumref01_Saturate.calls k a0 t138 _ A2.out).mono ?_); rintro e w' ⟨rfl, ⟨nd, rfl⟩⟩; refine ⟨_, rfl, ?_⟩))
    go_ret
    exact ⟨by first | rfl | (simp [errW_none, errW_some] <;> rfl) | (simp [*, errW_none, errW_some] <;> rfl), by repeat (first | (with_reducible first | exact HB.out | apply below_alloc | apply pw_below_drewN | apply below_drew1) | exact HB.out)⟩

/-! ### frustumlaw06_FormatFixedPoint: function 3 -/
def frustumlaw06_FormatFixedPoint.f (k : Nat) (a0 : Int) (a1 : ByteArray) : Option (Bool) := if (a1.size : Int) > 2000 then ((frustumlaw06_example.f k).bind fun t147 => (some t147)) else ((format_ParseFixed.f k a1).bind fun bt148 => ((frustumref06_ParseFixed.f k a1).bind fun bt150 => ((format_FormatFixed.f k a0).bind fun t152 => ((frustumref06_FormatFixed.f k a0).bind fun t153 => (if t152.toList = t153.toList then (if bt148.1 = bt150.1 then (if bt148.2 = bt150.2 then ((frustumlaw06_example.f k).bind fun t154 => (some t154)) else (some false)) else (some false)) else (some false))))))
theorem frustumlaw06_FormatFixedPoint.mono : ∀ a0 a1 k, LeO (frustumlaw06_FormatFixedPoint.f k a0 a1) (frustumlaw06_FormatFixedPoint.f (k + 1) a0 a1) := by
  intro a0 a1 k
  unfold frustumlaw06_FormatFixedPoint.f
  repeat' first
      | (with_reducible exact format_FormatFixed.mono _ _)
      | (with_reducible exact format_ParseFixed.mono _ _)
      | (with_reducible exact frustumlaw06_example.mono _)
      | (with_reducible exact frustumref06_FormatFixed.mono _ _)
      | (with_reducible exact frustumref06_ParseFixed.mono _ _)
      | (with_reducible exact LeO.refl _)
      | (with_reducible exact LeO.none _)
      | (with_reducible refine LeO.ite ?_ ?_)
      | (with_reducible refine LeO.bind ?_ (fun _ => ?_))
      | exact format_FormatFixed.mono _ _
      | exact format_ParseFixed.mono _ _
      | exact frustumlaw06_example.mono _
      | exact frustumref06_FormatFixed.mono _ _
      | exact frustumref06_ParseFixed.mono _ _
      | exact LeO.none _
      | refine LeO.ite ?_ ?_
      | refine LeO.bind ?_ (fun _ => ?_)
set_option maxHeartbeats 8000000 in
set_option maxRecDepth 100000 in
theorem frustumlaw06_FormatFixedPoint.calls (k : Nat) (a0 : Int) (a1 : ByteArray) (r : Bool) (w : World) (hG : Gl w) (h : frustumlaw06_FormatFixedPoint.f k a0 a1 = some r) :
    Calls Tryd.prog 3 #[.int .i64 a0, .string a1] w fun e w' => e = .returned (.bool r) ∧ Below w.heap.size w w' := by
  have HB := Aside0.mk (Below.refl w.heap.size w)
  have HG := Aside0.mk hG
  clear hG
  have H : (if (a1.size : Int) > 2000 then ((frustumlaw06_example.f k).bind fun t147 => (some t147)) else ((format_ParseFixed.f k a1).bind fun bt148 => ((frustumref06_ParseFixed.f k a1).bind fun bt150 => ((format_FormatFixed.f k a0).bind fun t152 => ((frustumref06_FormatFixed.f k a0).bind fun t153 => (if t152.toList = t153.toList then (if bt148.1 = bt150.1 then (if bt148.2 = bt150.2 then ((frustumlaw06_example.f k).bind fun t154 => (some t154)) else (some false)) else (some false)) else (some false))))))) = some r := h
  clear h
  by_cases c3 : (a1.size : Int) > 2000
  · rw [if_pos c3] at H
    have c3b0 : decide (2000 < (a1.size : Int)) = true := decide_eq_true c3
    have c3b1 : decide (2000 < a1.size) = true := decide_eq_true (by omega)
    clear c3
    replace H := Option.bind_eq_some_iff.mp H
    obtain ⟨t147, A40, H⟩ := H
    replace H : (some t147) = some r := H
    have A4 := Aside0.mk A40
    clear A40
    obtain rfl := Option.some.inj H
    go_enter Tryd.func3, Tryd.ntmps3
    go_wp2_with (first | ((with_reducible refine gate_callee (f := 10) rfl ?_); refine goesL_ (some 12) rfl rfl Tryd.func10 (by kernel_rfl) rfl #[] rfl (by (try simp only [List.map_toArray, List.map_cons, List.map_nil]); first | done | rfl | (simp only [List.length_drop, List.length_take]; rfl)) ?_; (with_reducible refine (frustumlaw06_example.calls k  t147 _ ?side1 A4.out).mono ?_); (case side1 => exact Gl.of HG.out (by repeat (first | (with_reducible first | exact HB.out | apply below_alloc | apply pw_below_drewN | apply below_drew1) | exact HB.out))); rintro e w5 ⟨rfl, hb⟩; refine ⟨_, rfl, ?_⟩; have n0_ := Aside0.mk (below_step (by repeat (first | (with_reducible first | exact HB.out | apply below_alloc | apply pw_below_drewN | apply below_drew1) | exact HB.out)) hb); clear HB; have HB := n0_; clear n0_; (try clear hb); (try clear hb2); (try clear hk); (try clear hi)))
    go_ret
    exact ⟨by first | rfl | (simp [errW_none, errW_some] <;> rfl) | (simp [*, errW_none, errW_some] <;> rfl), by repeat (first | (with_reducible first | exact HB.out | apply below_alloc | apply pw_below_drewN | apply below_drew1) | exact HB.out)⟩
  · rw [if_neg c3] at H
    have c3b0 : decide (2000 < (a1.size : Int)) = false := decide_eq_false c3
    have c3b1 : decide (2000 < a1.size) = false := decide_eq_false (by omega)
    clear c3
    replace H := Option.bind_eq_some_iff.mp H
    obtain ⟨⟨t148, t149⟩, A60, H⟩ := H
    replace H : ((frustumref06_ParseFixed.f k a1).bind fun bt150 => ((format_FormatFixed.f k a0).bind fun t152 => ((frustumref06_FormatFixed.f k a0).bind fun t153 => (if t152.toList = t153.toList then (if t148 = bt150.1 then (if t149 = bt150.2 then ((frustumlaw06_example.f k).bind fun t154 => (some t154)) else (some false)) else (some false)) else (some false))))) = some r := H
    have A6 := Aside0.mk A60
    clear A60
    replace H := Option.bind_eq_some_iff.mp H
    obtain ⟨⟨t150, t151⟩, A70, H⟩ := H
    replace H : ((format_FormatFixed.f k a0).bind fun t152 => ((frustumref06_FormatFixed.f k a0).bind fun t153 => (if t152.toList = t153.toList then (if t148 = t150 then (if t149 = t151 then ((frustumlaw06_example.f k).bind fun t154 => (some t154)) else (some false)) else (some false)) else (some false)))) = some r := H
    have A7 := Aside0.mk A70
    clear A70
    replace H := Option.bind_eq_some_iff.mp H
    obtain ⟨t152, A80, H⟩ := H
    replace H : ((frustumref06_FormatFixed.f k a0).bind fun t153 => (if t152.toList = t153.toList then (if t148 = t150 then (if t149 = t151 then ((frustumlaw06_example.f k).bind fun t154 => (some t154)) else (some false)) else (some false)) else (some false))) = some r := H
    have A8 := Aside0.mk A80
    clear A80
    replace H := Option.bind_eq_some_iff.mp H
    obtain ⟨t153, A90, H⟩ := H
    replace H : (if t152.toList = t153.toList then (if t148 = t150 then (if t149 = t151 then ((frustumlaw06_example.f k).bind fun t154 => (some t154)) else (some false)) else (some false)) else (some false)) = some r := H
    have A9 := Aside0.mk A90
    clear A90
    by_cases c10 : t152.toList = t153.toList
    · rw [if_pos c10] at H
      have c10b0 : (t152.toList == t153.toList) = true := beq_iff_eq.mpr c10
      have c10b1 : (t152.toList != t153.toList) = false := bne_eq_false_iff_eq.mpr c10
      clear c10
      by_cases c11 : t148 = t150
      · rw [if_pos c11] at H
        have c11b0 : (t148 == t150) = true := beq_iff_eq.mpr c11
        have c11b1 : (t148 != t150) = false := bne_eq_false_iff_eq.mpr c11
        clear c11
        by_cases c12 : t149 = t151
        · rw [if_pos c12] at H
          have c12b0 : (t149 == t151) = true := beq_iff_eq.mpr c12
          have c12b1 : (t149 != t151) = false := bne_eq_false_iff_eq.mpr c12
          clear c12
          replace H := Option.bind_eq_some_iff.mp H
          obtain ⟨t154, A130, H⟩ := H
          replace H : (some t154) = some r := H
          have A13 := Aside0.mk A130
          clear A130
          obtain rfl := Option.some.inj H
          go_enter Tryd.func3, Tryd.ntmps3
          go_wp2_with (first | ((with_reducible refine gate_callee (f := 11) rfl ?_); refine goesL_ (some 15) rfl rfl Tryd.func11 (by kernel_rfl) rfl #[.string a1] rfl (by (try simp only [List.map_toArray, List.map_cons, List.map_nil]); first | done | rfl | (simp only [List.length_drop, List.length_take]; rfl)) ?_; (with_reducible refine (format_ParseFixed.calls k a1 t148 t149 _ ?side1 A6.out).mono ?_); (case side1 => exact Gl.of HG.out (by repeat (first | (with_reducible first | exact HB.out | apply below_alloc | apply pw_below_drewN | apply below_drew1) | exact HB.out))); rintro e w14 ⟨rfl, hb⟩; refine ⟨_, rfl, ?_⟩; have n0_ := Aside0.mk (below_step (by repeat (first | (with_reducible first | exact HB.out | apply below_alloc | apply pw_below_drewN | apply below_drew1) | exact HB.out)) hb); clear HB; have HB := n0_; clear n0_; (try clear hb); (try clear hb2); (try clear hk); (try clear hi)) | ((with_reducible refine gate_callee (f := 12) rfl ?_); refine goesL_ (some 20) rfl rfl Tryd.func12 (by kernel_rfl) rfl #[.string a1] rfl (by (try simp only [List.map_toArray, List.map_cons, List.map_nil]); first | done | rfl | (simp only [List.length_drop, List.length_take]; rfl)) ?_; (with_reducible refine (frustumref06_ParseFixed.calls k a1 t150 t151 _ A7.out).mono ?_); rintro e w' ⟨rfl, ⟨nd, rfl⟩⟩; refine ⟨_, rfl, ?_⟩) | ((with_reducible refine gate_callee (f := 13) rfl ?_); refine goesL_ (some 24) rfl rfl Tryd.func13 (by kernel_rfl) rfl #[.int .i64 a0] rfl (by (try simp only [List.map_toArray, List.map_cons, List.map_nil]); first | done | rfl | (simp only [List.length_drop, List.length_take]; rfl)) ?_; (with_reducible refine (format_FormatFixed.calls k a0 t152 _ ?side1 A8.out).mono ?_); (case side1 => exact Gl.of HG.out (by repeat (first | (with_reducible first | exact HB.out | apply below_alloc | apply pw_below_drewN | apply below_drew1) | exact HB.out))); rintro e w15 ⟨rfl, hb⟩; refine ⟨_, rfl, ?_⟩; have n0_ := Aside0.mk (below_step (by repeat (first | (with_reducible first | exact HB.out | apply below_alloc | apply pw_below_drewN | apply below_drew1) | exact HB.out)) hb); clear HB; have HB := n0_; clear n0_; (try clear hb); (try clear hb2); (try clear hk); (try clear hi)) | ((with_reducible refine gate_callee (f := 14) rfl ?_); refine goesL_ (some 26) rfl rfl Tryd.func14 (by kernel_rfl) rfl #[.int .i64 a0] rfl (by (try simp only [List.map_toArray, List.map_cons, List.map_nil]); first | done | rfl | (simp only [List.length_drop, List.length_take]; rfl)) ?_; (with_reducible refine (frustumref06_FormatFixed.calls k a0 t153 _ A9.out).mono ?_); rintro e w16 ⟨rfl, hb⟩; refine ⟨_, rfl, ?_⟩; have n0_ := Aside0.mk (below_step (by repeat (first | (with_reducible first | exact HB.out | apply below_alloc | apply pw_below_drewN | apply below_drew1) | exact HB.out)) hb); clear HB; have HB := n0_; clear n0_; (try clear hb); (try clear hb2); (try clear hk); (try clear hi)) | (go_at_call 10; (with_reducible refine (frustumlaw06_example.calls k  t154 _ ?side1 A13.out).mono ?_); (case side1 => exact Gl.of HG.out (by repeat (first | (with_reducible first | exact HB.out | apply below_alloc | apply pw_below_drewN | apply below_drew1) | exact HB.out))); rintro e w17 ⟨rfl, hb⟩; have n0_ := Aside0.mk (below_step (by repeat (first | (with_reducible first | exact HB.out | apply below_alloc | apply pw_below_drewN | apply below_drew1) | exact HB.out)) hb); clear HB; have HB := n0_; clear n0_; (try clear hb); (try clear hb2); (try clear hk); (try clear hi)))
          go_ret
          exact ⟨by first | rfl | (simp [errW_none, errW_some] <;> rfl) | (simp [*, errW_none, errW_some] <;> rfl), by repeat (first | (with_reducible first | exact HB.out | apply below_alloc | apply pw_below_drewN | apply below_drew1) | exact HB.out)⟩
        · rw [if_neg c12] at H
          have c12b0 : (t149 == t151) = false := beq_eq_false_iff_ne.mpr c12
          have c12b1 : (t149 != t151) = true := bne_iff_ne.mpr c12
          obtain rfl := Option.some.inj H
          go_enter Tryd.func3, Tryd.ntmps3
          go_wp2_with (first | ((with_reducible refine gate_callee (f := 11) rfl ?_); refine goesL_ (some 15) rfl rfl Tryd.func11 (by kernel_rfl) rfl #[.string a1] rfl (by (try simp only [List.map_toArray, List.map_cons, List.map_nil]); first | done | rfl | (simp only [List.length_drop, List.length_take]; rfl)) ?_; (with_reducible refine (format_ParseFixed.calls k a1 t148 t149 _ ?side1 A6.out).mono ?_); (case side1 => exact Gl.of HG.out (by repeat (first | (with_reducible first | exact HB.out | apply below_alloc | apply pw_below_drewN | apply below_drew1) | exact HB.out))); rintro e w18 ⟨rfl, hb⟩; refine ⟨_, rfl, ?_⟩; have n0_ := Aside0.mk (below_step (by repeat (first | (with_reducible first | exact HB.out | apply below_alloc | apply pw_below_drewN | apply below_drew1) | exact HB.out)) hb); clear HB; have HB := n0_; clear n0_; (try clear hb); (try clear hb2); (try clear hk); (try clear hi)) | ((with_reducible refine gate_callee (f := 12) rfl ?_); refine goesL_ (some 20) rfl rfl Tryd.func12 (by kernel_rfl) rfl #[.string a1] rfl (by (try simp only [List.map_toArray, List.map_cons, List.map_nil]); first | done | rfl | (simp only [List.length_drop, List.length_take]; rfl)) ?_; (with_reducible refine (frustumref06_ParseFixed.calls k a1 t150 t151 _ A7.out).mono ?_); rintro e w' ⟨rfl, ⟨nd, rfl⟩⟩; refine ⟨_, rfl, ?_⟩) | ((with_reducible refine gate_callee (f := 13) rfl ?_); refine goesL_ (some 24) rfl rfl Tryd.func13 (by kernel_rfl) rfl #[.int .i64 a0] rfl (by (try simp only [List.map_toArray, List.map_cons, List.map_nil]); first | done | rfl | (simp only [List.length_drop, List.length_take]; rfl)) ?_; (with_reducible refine (format_FormatFixed.calls k a0 t152 _ ?side1 A8.out).mono ?_); (case side1 => exact Gl.of HG.out (by repeat (first | (with_reducible first | exact HB.out | apply below_alloc | apply pw_below_drewN | apply below_drew1) | exact HB.out))); rintro e w19 ⟨rfl, hb⟩; refine ⟨_, rfl, ?_⟩; have n0_ := Aside0.mk (below_step (by repeat (first | (with_reducible first | exact HB.out | apply below_alloc | apply pw_below_drewN | apply below_drew1) | exact HB.out)) hb); clear HB; have HB := n0_; clear n0_; (try clear hb); (try clear hb2); (try clear hk); (try clear hi)) | ((with_reducible refine gate_callee (f := 14) rfl ?_); refine goesL_ (some 26) rfl rfl Tryd.func14 (by kernel_rfl) rfl #[.int .i64 a0] rfl (by (try simp only [List.map_toArray, List.map_cons, List.map_nil]); first | done | rfl | (simp only [List.length_drop, List.length_take]; rfl)) ?_; (with_reducible refine (frustumref06_FormatFixed.calls k a0 t153 _ A9.out).mono ?_); rintro e w20 ⟨rfl, hb⟩; refine ⟨_, rfl, ?_⟩; have n0_ := Aside0.mk (below_step (by repeat (first | (with_reducible first | exact HB.out | apply below_alloc | apply pw_below_drewN | apply below_drew1) | exact HB.out)) hb); clear HB; have HB := n0_; clear n0_; (try clear hb); (try clear hb2); (try clear hk); (try clear hi)))
          go_ret
          exact ⟨by first | rfl | (simp [errW_none, errW_some] <;> rfl) | (simp [*, errW_none, errW_some] <;> rfl), by repeat (first | (with_reducible first | exact HB.out | apply below_alloc | apply pw_below_drewN | apply below_drew1) | exact HB.out)⟩
      · rw [if_neg c11] at H
        have c11b0 : (t148 == t150) = false := beq_eq_false_iff_ne.mpr c11
        have c11b1 : (t148 != t150) = true := bne_iff_ne.mpr c11
        obtain rfl := Option.some.inj H
        go_enter Tryd.func3, Tryd.ntmps3
        go_wp2_with (first | ((with_reducible refine gate_callee (f := 11) rfl ?_); refine goesL_ (some 15) rfl rfl Tryd.func11 (by kernel_rfl) rfl #[.string a1] rfl (by (try simp only [List.map_toArray, List.map_cons, List.map_nil]); first | done | rfl | (simp only [List.length_drop, List.length_take]; rfl)) ?_; (with_reducible refine (format_ParseFixed.calls k a1 t148 t149 _ ?side1 A6.out).mono ?_); (case side1 => exact Gl.of HG.out (by repeat (first | (with_reducible first | exact HB.out | apply below_alloc | apply pw_below_drewN | apply below_drew1) | exact HB.out))); rintro e w21 ⟨rfl, hb⟩; refine ⟨_, rfl, ?_⟩; have n0_ := Aside0.mk (below_step (by repeat (first | (with_reducible first | exact HB.out | apply below_alloc | apply pw_below_drewN | apply below_drew1) | exact HB.out)) hb); clear HB; have HB := n0_; clear n0_; (try clear hb); (try clear hb2); (try clear hk); (try clear hi)) | ((with_reducible refine gate_callee (f := 12) rfl ?_); refine goesL_ (some 20) rfl rfl Tryd.func12 (by kernel_rfl) rfl #[.string a1] rfl (by (try simp only [List.map_toArray, List.map_cons, List.map_nil]); first | done | rfl | (simp only [List.length_drop, List.length_take]; rfl)) ?_; (with_reducible refine (frustumref06_ParseFixed.calls k a1 t150 t151 _ A7.out).mono ?_); rintro e w' ⟨rfl, ⟨nd, rfl⟩⟩; refine ⟨_, rfl, ?_⟩) | ((with_reducible refine gate_callee (f := 13) rfl ?_); refine goesL_ (some 24) rfl rfl Tryd.func13 (by kernel_rfl) rfl #[.int .i64 a0] rfl (by (try simp only [List.map_toArray, List.map_cons, List.map_nil]); first | done | rfl | (simp only [List.length_drop, List.length_take]; rfl)) ?_; (with_reducible refine (format_FormatFixed.calls k a0 t152 _ ?side1 A8.out).mono ?_); (case side1 => exact Gl.of HG.out (by repeat (first | (with_reducible first | exact HB.out | apply below_alloc | apply pw_below_drewN | apply below_drew1) | exact HB.out))); rintro e w22 ⟨rfl, hb⟩; refine ⟨_, rfl, ?_⟩; have n0_ := Aside0.mk (below_step (by repeat (first | (with_reducible first | exact HB.out | apply below_alloc | apply pw_below_drewN | apply below_drew1) | exact HB.out)) hb); clear HB; have HB := n0_; clear n0_; (try clear hb); (try clear hb2); (try clear hk); (try clear hi)) | ((with_reducible refine gate_callee (f := 14) rfl ?_); refine goesL_ (some 26) rfl rfl Tryd.func14 (by kernel_rfl) rfl #[.int .i64 a0] rfl (by (try simp only [List.map_toArray, List.map_cons, List.map_nil]); first | done | rfl | (simp only [List.length_drop, List.length_take]; rfl)) ?_; (with_reducible refine (frustumref06_FormatFixed.calls k a0 t153 _ A9.out).mono ?_); rintro e w23 ⟨rfl, hb⟩; refine ⟨_, rfl, ?_⟩; have n0_ := Aside0.mk (below_step (by repeat (first | (with_reducible first | exact HB.out | apply below_alloc | apply pw_below_drewN | apply below_drew1) | exact HB.out)) hb); clear HB; have HB := n0_; clear n0_; (try clear hb); (try clear hb2); (try clear hk); (try clear hi)))
        go_ret
        exact ⟨by first | rfl | (simp [errW_none, errW_some] <;> rfl) | (simp [*, errW_none, errW_some] <;> rfl), by repeat (first | (with_reducible first | exact HB.out | apply below_alloc | apply pw_below_drewN | apply below_drew1) | exact HB.out)⟩
    · rw [if_neg c10] at H
      have c10b0 : (t152.toList == t153.toList) = false := beq_eq_false_iff_ne.mpr c10
      have c10b1 : (t152.toList != t153.toList) = true := bne_iff_ne.mpr c10
      obtain rfl := Option.some.inj H
      go_enter Tryd.func3, Tryd.ntmps3
      go_wp2_with (first | ((with_reducible refine gate_callee (f := 11) rfl ?_); refine goesL_ (some 15) rfl rfl Tryd.func11 (by kernel_rfl) rfl #[.string a1] rfl (by (try simp only [List.map_toArray, List.map_cons, List.map_nil]); first | done | rfl | (simp only [List.length_drop, List.length_take]; rfl)) ?_; (with_reducible refine (format_ParseFixed.calls k a1 t148 t149 _ ?side1 A6.out).mono ?_); (case side1 => exact Gl.of HG.out (by repeat (first | (with_reducible first | exact HB.out | apply below_alloc | apply pw_below_drewN | apply below_drew1) | exact HB.out))); rintro e w24 ⟨rfl, hb⟩; refine ⟨_, rfl, ?_⟩; have n0_ := Aside0.mk (below_step (by repeat (first | (with_reducible first | exact HB.out | apply below_alloc | apply pw_below_drewN | apply below_drew1) | exact HB.out)) hb); clear HB; have HB := n0_; clear n0_; (try clear hb); (try clear hb2); (try clear hk); (try clear hi)) | ((with_reducible refine gate_callee (f := 12) rfl ?_); refine goesL_ (some 20) rfl rfl Tryd.func12 (by kernel_rfl) rfl #[.string a1] rfl (by (try simp only [List.map_toArray, List.map_cons, List.map_nil]); first | done | rfl | (simp only [List.length_drop, List.length_take]; rfl)) ?_; (with_reducible refine (frustumref06_ParseFixed.calls k a1 t150 t151 _ A7.out).mono ?_); rintro e w' ⟨rfl, ⟨nd, rfl⟩⟩; refine ⟨_, rfl, ?_⟩) | ((with_reducible refine gate_callee (f := 13) rfl ?_); refine goesL_ (some 24) rfl rfl Tryd.func13 (by kernel_rfl) rfl #[.int .i64 a0] rfl (by (try simp only [List.map_toArray, List.map_cons, List.map_nil]); first | done | rfl | (simp only [List.length_drop, List.length_take]; rfl)) ?_; (with_reducible refine (format_FormatFixed.calls k a0 t152 _ ?side1 A8.out).mono ?_); (case side1 => exact Gl.of HG.out (by repeat (first | (with_reducible first | exact HB.out | apply below_alloc | apply pw_below_drewN | apply below_drew1) | exact HB.out))); rintro e w25 ⟨rfl, hb⟩; refine ⟨_, rfl, ?_⟩; have n0_ := Aside0.mk (below_step (by repeat (first | (with_reducible first | exact HB.out | apply below_alloc | apply pw_below_drewN | apply below_drew1) | exact HB.out)) hb); clear HB; have HB := n0_; clear n0_; (try clear hb); (try clear hb2); (try clear hk); (try clear hi)) | ((with_reducible refine gate_callee (f := 14) rfl ?_); refine goesL_ (some 26) rfl rfl Tryd.func14 (by kernel_rfl) rfl #[.int .i64 a0] rfl (by (try simp only [List.map_toArray, List.map_cons, List.map_nil]); first | done | rfl | (simp only [List.length_drop, List.length_take]; rfl)) ?_; (with_reducible refine (frustumref06_FormatFixed.calls k a0 t153 _ A9.out).mono ?_); rintro e w26 ⟨rfl, hb⟩; refine ⟨_, rfl, ?_⟩; have n0_ := Aside0.mk (below_step (by repeat (first | (with_reducible first | exact HB.out | apply below_alloc | apply pw_below_drewN | apply below_drew1) | exact HB.out)) hb); clear HB; have HB := n0_; clear n0_; (try clear hb); (try clear hb2); (try clear hk); (try clear hi)))
      go_ret
      exact ⟨by first | rfl | (simp [errW_none, errW_some] <;> rfl) | (simp [*, errW_none, errW_some] <;> rfl), by repeat (first | (with_reducible first | exact HB.out | apply below_alloc | apply pw_below_drewN | apply below_drew1) | exact HB.out)⟩

/-- THE ONE PURE STATEMENT of frustumlaw06_FormatFixedPoint: yours. -/
def frustumlaw06_FormatFixedPoint.Pure : Prop := ∀ (a0 : Int) (a1 : ByteArray), (Lit.int .i64 a0).wf = true → a1.size ≤ 140737488351232 → ∃ k, frustumlaw06_FormatFixedPoint.f k a0 a1 = some true
theorem frustumlaw06_FormatFixedPoint.walk (P : frustumlaw06_FormatFixedPoint.Pure) (a0 : Int) (a1 : ByteArray) (w : World) (hG : Gl w) (w0 : (Lit.int .i64 a0).wf = true) (w1 : a1.size ≤ 140737488351232) :
    Calls Tryd.prog 3 #[.int .i64 a0, .string a1] w fun e w' => e = .returned (.bool true) ∧ Below w.heap.size w w' := by
  obtain ⟨k, h⟩ := P a0 a1 w0 w1
  refine (frustumlaw06_FormatFixedPoint.calls k a0 a1 true w hG h).mono ?_
  rintro e w' ⟨rfl, hd⟩
  exact ⟨rfl, hd⟩

end Go.Proofs.YtkmnkikcbmfecaaDoor.PF
