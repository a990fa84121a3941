-- Written by a program of the session (gprint.py) out of the kit's print of the translation. Lean checks it.
import Derived.Test.YtblfokhcfpajpaaPMSx0
import Derived.Test.YtblfokhcfpajpaaPMSx1
namespace Go.Proofs.Ytblfokhcfpajpaa.PMS
open Go.RowKit Go.Proofs.YtblfokhcfpajpaaW.PrintWords Go.Proofs.YtblfokhcfpajpaaW.PrintLast Go.Proofs.YtblfokhcfpajpaaW.PrintMore
attribute [local go_sem] max2_int min2_int max_two min_two max_three min_three max_four min_four   -- for this text's walks alone
set_option linter.unusedVariables false
set_option linter.unusedSimpArgs false

/-! ### frustumlaw08_MaskSets: function 13 -/
mutual
def frustumlaw08_MaskSets.j0 : Nat → Int → Int → Int → Bool → Option (Bool)
  | 0, _, _, _, _ => none
  | k + 1, x0, x1, x2, x7 => (mask_Lanes.f k x0).bind fun t112 => ((mask_Of.f k t112).bind fun t115 => (if t115 = x0 then ((mask_And.f x0 x1).bind fun t116 => ((mask_Has.f t116 x2).bind fun t117 => ((mask_Has.f x0 x2).bind fun t118 => (if t118 = true then ((mask_Has.f x1 x2).bind fun t119 => (if (t117 != t119) = true then (frustumlaw08_MaskSets.j1 k x0 x2 x7 true) else ((mask_Or.f x0 x1).bind fun t120 => ((mask_Has.f t120 x2).bind fun t121 => (if (t121 != true) = true then (frustumlaw08_MaskSets.j1 k x0 x2 x7 true) else ((mask_AndNot.f x0 x1).bind fun t122 => ((mask_Has.f t122 x2).bind fun t123 => (frustumlaw08_MaskSets.j1 k x0 x2 x7 (t123 != (!t119)))))))))) else (if (t117 != false) = true then (frustumlaw08_MaskSets.j1 k x0 x2 x7 true) else ((mask_Or.f x0 x1).bind fun t124 => ((mask_Has.f t124 x2).bind fun t125 => ((mask_Has.f x1 x2).bind fun t126 => (if (t125 != t126) = true then (frustumlaw08_MaskSets.j1 k x0 x2 x7 true) else ((mask_AndNot.f x0 x1).bind fun t127 => ((mask_Has.f t127 x2).bind fun t128 => (frustumlaw08_MaskSets.j1 k x0 x2 x7 (t128 != false))))))))))))) else (frustumlaw08_MaskSets.j1 k x0 x2 x7 true)))
def frustumlaw08_MaskSets.j1 : Nat → Int → Int → Bool → Bool → Option (Bool)
  | 0, _, _, _, _ => none
  | k + 1, x0, x2, x7, x67 => if x67 = true then (some false) else ((mask_With.f x0 x2).bind fun t129 => ((mask_Has.f t129 x2).bind fun t130 => (if (t130 == x7) = true then ((mask_Without.f x0 x2).bind fun t131 => ((mask_Has.f t131 x2).bind fun t132 => (if t132 = true then (some false) else (if x7 = true then ((mask_Without.f t129 x2).bind fun t133 => (if t133 = t131 then ((frustumlaw08_example.f).bind fun t134 => (some t134)) else (some false))) else ((frustumlaw08_example.f).bind fun t135 => (some t135)))))) else (some false))))
end
def frustumlaw08_MaskSets.f (k : Nat) (a0 : Int) (a1 : Int) (a2 : Int) : Option (Bool) := if a2 ≥ 0 then (frustumlaw08_MaskSets.j0 k a0 a1 a2 (decide (a2 < 16))) else (frustumlaw08_MaskSets.j0 k a0 a1 a2 false)
theorem frustumlaw08_MaskSets.mono_l : ∀ k, (∀ y0 y1 y2 y3, LeO (frustumlaw08_MaskSets.j0 k y0 y1 y2 y3) (frustumlaw08_MaskSets.j0 (k + 1) y0 y1 y2 y3)) ∧ (∀ y0 y1 y2 y3, LeO (frustumlaw08_MaskSets.j1 k y0 y1 y2 y3) (frustumlaw08_MaskSets.j1 (k + 1) y0 y1 y2 y3))
  | 0 => ⟨fun _ _ _ _ r h => by simp [frustumlaw08_MaskSets.j0] at h, fun _ _ _ _ r h => by simp [frustumlaw08_MaskSets.j1] at h⟩
  | k + 1 => by
    obtain ⟨ih0, ih1⟩ := frustumlaw08_MaskSets.mono_l k
    refine ⟨?_, ?_⟩
    · intro y0 y1 y2 y3
      unfold frustumlaw08_MaskSets.j0
      repeat' first
      | (with_reducible exact ih0 _ _ _ _)
      | (with_reducible exact ih1 _ _ _ _)
      | (with_reducible exact mask_Lanes.mono _ _)
      | (with_reducible exact mask_Of.mono _ _)
      | (with_reducible exact LeO.refl _)
      | (with_reducible exact LeO.none _)
      | (with_reducible refine LeO.ite ?_ ?_)
      | (with_reducible refine LeO.bind ?_ (fun _ => ?_))
      | exact ih0 _ _ _ _
      | exact ih1 _ _ _ _
      | exact mask_Lanes.mono _ _
      | exact mask_Of.mono _ _
      | exact LeO.none _
      | refine LeO.ite ?_ ?_
      | refine LeO.bind ?_ (fun _ => ?_)
    · intro y0 y1 y2 y3
      unfold frustumlaw08_MaskSets.j1
      repeat' first
      | (with_reducible exact ih0 _ _ _ _)
      | (with_reducible exact ih1 _ _ _ _)
      | (with_reducible exact mask_Lanes.mono _ _)
      | (with_reducible exact mask_Of.mono _ _)
      | (with_reducible exact LeO.refl _)
      | (with_reducible exact LeO.none _)
      | (with_reducible refine LeO.ite ?_ ?_)
      | (with_reducible refine LeO.bind ?_ (fun _ => ?_))
      | exact ih0 _ _ _ _
      | exact ih1 _ _ _ _
      | exact mask_Lanes.mono _ _
      | exact mask_Of.mono _ _
      | exact LeO.none _
      | refine LeO.ite ?_ ?_
      | refine LeO.bind ?_ (fun _ => ?_)
theorem frustumlaw08_MaskSets.mono : ∀ a0 a1 a2 k, LeO (frustumlaw08_MaskSets.f k a0 a1 a2) (frustumlaw08_MaskSets.f (k + 1) a0 a1 a2) := by
  intro a0 a1 a2 k
  obtain ⟨ih0, ih1⟩ := frustumlaw08_MaskSets.mono_l k
  unfold frustumlaw08_MaskSets.f
  repeat' first
      | (with_reducible exact ih0 _ _ _ _)
      | (with_reducible exact ih1 _ _ _ _)
      | (with_reducible exact mask_Lanes.mono _ _)
      | (with_reducible exact mask_Of.mono _ _)
      | (with_reducible exact LeO.refl _)
      | (with_reducible exact LeO.none _)
      | (with_reducible refine LeO.ite ?_ ?_)
      | (with_reducible refine LeO.bind ?_ (fun _ => ?_))
      | exact ih0 _ _ _ _
      | exact ih1 _ _ _ _
      | exact mask_Lanes.mono _ _
      | exact mask_Of.mono _ _
      | exact LeO.none _
      | refine LeO.ite ?_ ?_
      | refine LeO.bind ?_ (fun _ => ?_)
set_option maxHeartbeats 8000000 in
set_option maxRecDepth 100000 in
theorem frustumlaw08_MaskSets.calls (k : Nat) (a0 : Int) (a1 : Int) (a2 : Int) (r : Bool) (w : World) (h : frustumlaw08_MaskSets.f k a0 a1 a2 = some r) :
    Calls Try.prog 13 #[.int .u16 a0, .int .u16 a1, .int .i64 a2] w fun e w' => e = .returned (.bool r) ∧ Below w.heap.size w w' := by
  have HB := Aside0.mk (Below.refl w.heap.size w)
  have H : (if a2 ≥ 0 then (frustumlaw08_MaskSets.j0 k a0 a1 a2 (decide (a2 < 16))) else (frustumlaw08_MaskSets.j0 k a0 a1 a2 false)) = some r := h
  clear h
  have HC4 := Aside0.mk H
  clear H
  go_enter Try.func13, Try.ntmps13
  go_upto_region 1 with (fail)
  go_cut [7] (fun v7 wc => ∃ (kq : Nat) (x7_3 : Bool), v7 = .bool x7_3 ∧ Aside0 (frustumlaw08_MaskSets.j0 kq a0 a1 a2 x7_3 = some r) ∧ Aside0 (kq ≤ k) ∧ Aside0 (Below w.heap.size w wc))
  case first =>
    have H := HC4.out
    clear HC4
    by_cases c5 : a2 ≥ 0
    · rw [if_pos c5] at H
      have c5b0 : decide (0 ≤ a2) = true := decide_eq_true c5
      clear c5
      (first | rw [c5b0] | (simp only [i64_w, i32_w]; rw [c5b0]) | skip)
      have H' := Aside0.mk H
      clear H
      go_wp2
      go_meet
      case rel => exact ⟨_, (decide (a2 < 16)), (by first | rfl | (simp; done) | (simp [*]; done)), H', ⟨by first | omega | exact Nat.le_refl _⟩, ⟨by repeat (first | (with_reducible first | exact HB.out | apply below_alloc | apply pw_below_drewN | apply below_drew1) | exact HB.out)⟩⟩
    · rw [if_neg c5] at H
      have c5b0 : decide (0 ≤ a2) = false := decide_eq_false c5
      clear c5
      (first | rw [c5b0] | (simp only [i64_w, i32_w]; rw [c5b0]) | skip)
      have H' := Aside0.mk H
      clear H
      go_wp2
      go_meet
      case rel => exact ⟨_, (false), (by first | rfl | (simp; done) | (simp [*]; done)), H', ⟨by first | omega | exact Nat.le_refl _⟩, ⟨by repeat (first | (with_reducible first | exact HB.out | apply below_alloc | apply pw_below_drewN | apply below_drew1) | exact HB.out)⟩⟩
  case rest =>
    clear HC4
    try clear c1
    try clear p2
    try clear c5
    try clear c5b0
    obtain ⟨kq, x7_3, rfl, HA, HJ3, HB⟩ := hcut
    cases kq with
    | zero => exact absurd HA.out (by simp [frustumlaw08_MaskSets.j0])
    | succ kj3 =>
      have H := HA.out
      clear HA
      simp only [frustumlaw08_MaskSets.j0] at H
      have HC6 := Aside0.mk H
      clear H
      go_upto_region 2 with (fail)
      go_cut [67] (fun v67 wc => ∃ (kq : Nat) (x67_5 : Bool), v67 = .bool x67_5 ∧ Aside0 (frustumlaw08_MaskSets.j1 kq a0 a2 x7_3 x67_5 = some r) ∧ Aside0 (kq ≤ kj3) ∧ Aside0 (Below w.heap.size w wc))
      case first =>
        have H := HC6.out
        clear HC6
        replace H := Option.bind_eq_some_iff.mp H
        obtain ⟨t112, A70, H⟩ := H
        replace H : ((mask_Of.f kj3 t112).bind fun t115 => (if t115 = a0 then ((mask_And.f a0 a1).bind fun t116 => ((mask_Has.f t116 a2).bind fun t117 => ((mask_Has.f a0 a2).bind fun t118 => (if t118 = true then ((mask_Has.f a1 a2).bind fun t119 => (if (t117 != t119) = true then (frustumlaw08_MaskSets.j1 kj3 a0 a2 x7_3 true) else ((mask_Or.f a0 a1).bind fun t120 => ((mask_Has.f t120 a2).bind fun t121 => (if (t121 != true) = true then (frustumlaw08_MaskSets.j1 kj3 a0 a2 x7_3 true) else ((mask_AndNot.f a0 a1).bind fun t122 => ((mask_Has.f t122 a2).bind fun t123 => (frustumlaw08_MaskSets.j1 kj3 a0 a2 x7_3 (t123 != (!t119)))))))))) else (if (t117 != false) = true then (frustumlaw08_MaskSets.j1 kj3 a0 a2 x7_3 true) else ((mask_Or.f a0 a1).bind fun t124 => ((mask_Has.f t124 a2).bind fun t125 => ((mask_Has.f a1 a2).bind fun t126 => (if (t125 != t126) = true then (frustumlaw08_MaskSets.j1 kj3 a0 a2 x7_3 true) else ((mask_AndNot.f a0 a1).bind fun t127 => ((mask_Has.f t127 a2).bind fun t128 => (frustumlaw08_MaskSets.j1 kj3 a0 a2 x7_3 (t128 != false))))))))))))) else (frustumlaw08_MaskSets.j1 kj3 a0 a2 x7_3 true))) = some r := H
        have A7 := Aside0.mk A70
        clear A70
        replace H := Option.bind_eq_some_iff.mp H
        obtain ⟨t115, A80, H⟩ := H
        replace H : (if t115 = a0 then ((mask_And.f a0 a1).bind fun t116 => ((mask_Has.f t116 a2).bind fun t117 => ((mask_Has.f a0 a2).bind fun t118 => (if t118 = true then ((mask_Has.f a1 a2).bind fun t119 => (if (t117 != t119) = true then (frustumlaw08_MaskSets.j1 kj3 a0 a2 x7_3 true) else ((mask_Or.f a0 a1).bind fun t120 => ((mask_Has.f t120 a2).bind fun t121 => (if (t121 != true) = true then (frustumlaw08_MaskSets.j1 kj3 a0 a2 x7_3 true) else ((mask_AndNot.f a0 a1).bind fun t122 => ((mask_Has.f t122 a2).bind fun t123 => (frustumlaw08_MaskSets.j1 kj3 a0 a2 x7_3 (t123 != (!t119)))))))))) else (if (t117 != false) = true then (frustumlaw08_MaskSets.j1 kj3 a0 a2 x7_3 true) else ((mask_Or.f a0 a1).bind fun t124 => ((mask_Has.f t124 a2).bind fun t125 => ((mask_Has.f a1 a2).bind fun t126 => (if (t125 != t126) = true then (frustumlaw08_MaskSets.j1 kj3 a0 a2 x7_3 true) else ((mask_AndNot.f a0 a1).bind fun t127 => ((mask_Has.f t127 a2).bind fun t128 => (frustumlaw08_MaskSets.j1 kj3 a0 a2 x7_3 (t128 != false))))))))))))) else (frustumlaw08_MaskSets.j1 kj3 a0 a2 x7_3 true)) = some r := H
        have A8 := Aside0.mk A80
        clear A80
        by_cases c9 : t115 = a0
        · rw [if_pos c9] at H
          have c9b0 : (t115 == a0) = true := beq_iff_eq.mpr c9
          have c9b1 : (t115 != a0) = false := bne_eq_false_iff_eq.mpr c9
          clear c9
          (first | rw [c9b0] | (simp only [i64_w, i32_w]; rw [c9b0]) | skip)
          replace H := Option.bind_eq_some_iff.mp H
          obtain ⟨t116, A100, H⟩ := H
          replace H : ((mask_Has.f t116 a2).bind fun t117 => ((mask_Has.f a0 a2).bind fun t118 => (if t118 = true then ((mask_Has.f a1 a2).bind fun t119 => (if (t117 != t119) = true then (frustumlaw08_MaskSets.j1 kj3 a0 a2 x7_3 true) else ((mask_Or.f a0 a1).bind fun t120 => ((mask_Has.f t120 a2).bind fun t121 => (if (t121 != true) = true then (frustumlaw08_MaskSets.j1 kj3 a0 a2 x7_3 true) else ((mask_AndNot.f a0 a1).bind fun t122 => ((mask_Has.f t122 a2).bind fun t123 => (frustumlaw08_MaskSets.j1 kj3 a0 a2 x7_3 (t123 != (!t119)))))))))) else (if (t117 != false) = true then (frustumlaw08_MaskSets.j1 kj3 a0 a2 x7_3 true) else ((mask_Or.f a0 a1).bind fun t124 => ((mask_Has.f t124 a2).bind fun t125 => ((mask_Has.f a1 a2).bind fun t126 => (if (t125 != t126) = true then (frustumlaw08_MaskSets.j1 kj3 a0 a2 x7_3 true) else ((mask_AndNot.f a0 a1).bind fun t127 => ((mask_Has.f t127 a2).bind fun t128 => (frustumlaw08_MaskSets.j1 kj3 a0 a2 x7_3 (t128 != false)))))))))))) = some r := H
          have A10 := Aside0.mk A100
          clear A100
          replace H := Option.bind_eq_some_iff.mp H
          obtain ⟨t117, A110, H⟩ := H
          replace H : ((mask_Has.f a0 a2).bind fun t118 => (if t118 = true then ((mask_Has.f a1 a2).bind fun t119 => (if (t117 != t119) = true then (frustumlaw08_MaskSets.j1 kj3 a0 a2 x7_3 true) else ((mask_Or.f a0 a1).bind fun t120 => ((mask_Has.f t120 a2).bind fun t121 => (if (t121 != true) = true then (frustumlaw08_MaskSets.j1 kj3 a0 a2 x7_3 true) else ((mask_AndNot.f a0 a1).bind fun t122 => ((mask_Has.f t122 a2).bind fun t123 => (frustumlaw08_MaskSets.j1 kj3 a0 a2 x7_3 (t123 != (!t119)))))))))) else (if (t117 != false) = true then (frustumlaw08_MaskSets.j1 kj3 a0 a2 x7_3 true) else ((mask_Or.f a0 a1).bind fun t124 => ((mask_Has.f t124 a2).bind fun t125 => ((mask_Has.f a1 a2).bind fun t126 => (if (t125 != t126) = true then (frustumlaw08_MaskSets.j1 kj3 a0 a2 x7_3 true) else ((mask_AndNot.f a0 a1).bind fun t127 => ((mask_Has.f t127 a2).bind fun t128 => (frustumlaw08_MaskSets.j1 kj3 a0 a2 x7_3 (t128 != false))))))))))) = some r := H
          have A11 := Aside0.mk A110
          clear A110
          replace H := Option.bind_eq_some_iff.mp H
          obtain ⟨t118, A120, H⟩ := H
          replace H : (if t118 = true then ((mask_Has.f a1 a2).bind fun t119 => (if (t117 != t119) = true then (frustumlaw08_MaskSets.j1 kj3 a0 a2 x7_3 true) else ((mask_Or.f a0 a1).bind fun t120 => ((mask_Has.f t120 a2).bind fun t121 => (if (t121 != true) = true then (frustumlaw08_MaskSets.j1 kj3 a0 a2 x7_3 true) else ((mask_AndNot.f a0 a1).bind fun t122 => ((mask_Has.f t122 a2).bind fun t123 => (frustumlaw08_MaskSets.j1 kj3 a0 a2 x7_3 (t123 != (!t119)))))))))) else (if (t117 != false) = true then (frustumlaw08_MaskSets.j1 kj3 a0 a2 x7_3 true) else ((mask_Or.f a0 a1).bind fun t124 => ((mask_Has.f t124 a2).bind fun t125 => ((mask_Has.f a1 a2).bind fun t126 => (if (t125 != t126) = true then (frustumlaw08_MaskSets.j1 kj3 a0 a2 x7_3 true) else ((mask_AndNot.f a0 a1).bind fun t127 => ((mask_Has.f t127 a2).bind fun t128 => (frustumlaw08_MaskSets.j1 kj3 a0 a2 x7_3 (t128 != false)))))))))) = some r := H
          have A12 := Aside0.mk A120
          clear A120
          by_cases c13 : t118 = true
          · subst c13
            have H1 : ((mask_Has.f a1 a2).bind fun t119 => (if (t117 != t119) = true then (frustumlaw08_MaskSets.j1 kj3 a0 a2 x7_3 true) else ((mask_Or.f a0 a1).bind fun t120 => ((mask_Has.f t120 a2).bind fun t121 => (if (t121 != true) = true then (frustumlaw08_MaskSets.j1 kj3 a0 a2 x7_3 true) else ((mask_AndNot.f a0 a1).bind fun t122 => ((mask_Has.f t122 a2).bind fun t123 => (frustumlaw08_MaskSets.j1 kj3 a0 a2 x7_3 (t123 != (!t119)))))))))) = some r := by rw [if_pos rfl] at H; exact H
            clear H
            have H := H1
            clear H1
            replace H := Option.bind_eq_some_iff.mp H
            obtain ⟨t119, A140, H⟩ := H
            replace H : (if (t117 != t119) = true then (frustumlaw08_MaskSets.j1 kj3 a0 a2 x7_3 true) else ((mask_Or.f a0 a1).bind fun t120 => ((mask_Has.f t120 a2).bind fun t121 => (if (t121 != true) = true then (frustumlaw08_MaskSets.j1 kj3 a0 a2 x7_3 true) else ((mask_AndNot.f a0 a1).bind fun t122 => ((mask_Has.f t122 a2).bind fun t123 => (frustumlaw08_MaskSets.j1 kj3 a0 a2 x7_3 (t123 != (!t119))))))))) = some r := H
            have A14 := Aside0.mk A140
            clear A140
            by_cases c15 : (t117 != t119) = true
            · rw [if_pos c15] at H
              have c15b0 : (t117 != t119) = true := c15
              (try (have c15b1 : decide (t117 = t119) = false := by simpa using c15))
              (try (have c15b2 : (t117 == t119) = false := by simpa using c15))
              (try (have c15b3 : ¬ (t117 = t119) := by simpa using c15))
              clear c15
              have H' := Aside0.mk H
              clear H
              go_wp2_with (first | (go_at_call 45; (with_reducible refine (mask_Lanes.calls kj3 a0 t112 _ A7.out).mono ?_); rintro e w16 ⟨v113, rfl, ho0, hb⟩; have n0_ := Aside0.mk (Kd.R_lower ho0 (below_size (by repeat (first | (with_reducible first | exact HB.out | apply below_alloc | apply pw_below_drewN | apply below_drew1) | exact HB.out)))); have n1_ := Aside0.mk (below_step (by repeat (first | (with_reducible first | exact HB.out | apply below_alloc | apply pw_below_drewN | apply below_drew1) | exact HB.out)) hb); clear HB; have HO114 := n0_; have HB := n1_; clear n0_ n1_; (try clear hb); (try clear hb2); (try clear hk); (try clear hi); (try clear ho0); obtain ⟨Ao17, co17, eo17⟩ := Kd.R_slice HO114.out; subst eo17) | (go_at_call 44; (with_reducible refine (mask_Of.calls kj3 _ _ t112 t115 _ ?side1 ?side2 A8.out).mono ?_); (case side1 => repeat (first | exact (Kd.R_reads' HO114.out).2.2 | (with_reducible refine Kd.C_alloc ?_ _) | (with_reducible refine Kd.C_drewN ?_ _) | (with_reducible refine Kd.C_drew ?_))); (case side2 => exact (Kd.R_reads' HO114.out).2.1); rintro e w' ⟨rfl, ⟨nd, rfl⟩⟩) | (go_at_call 31; (with_reducible refine (mask_And.calls a0 a1 t116 _ A10.out).mono ?_); rintro e w' ⟨rfl, ⟨nd, rfl⟩⟩) | (go_at_call 21; (with_reducible refine (mask_Has.calls t116 a2 t117 _ A11.out).mono ?_); rintro e w' ⟨rfl, ⟨nd, rfl⟩⟩) | (go_at_call 21; (with_reducible refine (mask_Has.calls a0 a2 true _ A12.out).mono ?_); rintro e w' ⟨rfl, ⟨nd, rfl⟩⟩) | (go_at_call 21; (with_reducible refine (mask_Has.calls a1 a2 t119 _ A14.out).mono ?_); rintro e w' ⟨rfl, ⟨nd, rfl⟩⟩))
              go_meet
              case rel => exact ⟨_, (true), (by first | rfl | (simp; done) | (simp [*]; done)), H', ⟨by have := HJ3.out; first | omega | exact Nat.le_refl _⟩, ⟨by repeat (first | (with_reducible first | exact HB.out | apply below_alloc | apply pw_below_drewN | apply below_drew1) | exact HB.out)⟩⟩
            · rw [if_neg c15] at H
              have c15b0 : (t117 != t119) = false := by simpa using c15
              (try (have c15b1 : decide (t117 = t119) = true := by simpa using c15))
              (try (have c15b2 : (t117 == t119) = true := by simpa using c15))
              clear c15
              replace H := Option.bind_eq_some_iff.mp H
              obtain ⟨t120, A180, H⟩ := H
              replace H : ((mask_Has.f t120 a2).bind fun t121 => (if (t121 != true) = true then (frustumlaw08_MaskSets.j1 kj3 a0 a2 x7_3 true) else ((mask_AndNot.f a0 a1).bind fun t122 => ((mask_Has.f t122 a2).bind fun t123 => (frustumlaw08_MaskSets.j1 kj3 a0 a2 x7_3 (t123 != (!t119))))))) = some r := H
              have A18 := Aside0.mk A180
              clear A180
              replace H := Option.bind_eq_some_iff.mp H
              obtain ⟨t121, A190, H⟩ := H
              replace H : (if (t121 != true) = true then (frustumlaw08_MaskSets.j1 kj3 a0 a2 x7_3 true) else ((mask_AndNot.f a0 a1).bind fun t122 => ((mask_Has.f t122 a2).bind fun t123 => (frustumlaw08_MaskSets.j1 kj3 a0 a2 x7_3 (t123 != (!t119)))))) = some r := H
              have A19 := Aside0.mk A190
              clear A190
              by_cases c20 : (t121 != true) = true
              · rw [if_pos c20] at H
                have c20b0 : (t121 != true) = true := c20
                (try (have c20b1 : decide (t121 = true) = false := by simpa using c20))
                (try (have c20b2 : (t121 == true) = false := by simpa using c20))
                (try (have c20b3 : ¬ (t121 = true) := by simpa using c20))
                clear c20
                have H' := Aside0.mk H
                clear H
                go_wp2_with (first | (go_at_call 45; (with_reducible refine (mask_Lanes.calls kj3 a0 t112 _ A7.out).mono ?_); rintro e w21 ⟨v113, rfl, ho0, hb⟩; have n0_ := Aside0.mk (Kd.R_lower ho0 (below_size (by repeat (first | (with_reducible first | exact HB.out | apply below_alloc | apply pw_below_drewN | apply below_drew1) | exact HB.out)))); have n1_ := Aside0.mk (below_step (by repeat (first | (with_reducible first | exact HB.out | apply below_alloc | apply pw_below_drewN | apply below_drew1) | exact HB.out)) hb); clear HB; have HO114 := n0_; have HB := n1_; clear n0_ n1_; (try clear hb); (try clear hb2); (try clear hk); (try clear hi); (try clear ho0); obtain ⟨Ao22, co22, eo22⟩ := Kd.R_slice HO114.out; subst eo22) | (go_at_call 44; (with_reducible refine (mask_Of.calls kj3 _ _ t112 t115 _ ?side1 ?side2 A8.out).mono ?_); (case side1 => repeat (first | exact (Kd.R_reads' HO114.out).2.2 | (with_reducible refine Kd.C_alloc ?_ _) | (with_reducible refine Kd.C_drewN ?_ _) | (with_reducible refine Kd.C_drew ?_))); (case side2 => exact (Kd.R_reads' HO114.out).2.1); rintro e w' ⟨rfl, ⟨nd, rfl⟩⟩) | (go_at_call 31; (with_reducible refine (mask_And.calls a0 a1 t116 _ A10.out).mono ?_); rintro e w' ⟨rfl, ⟨nd, rfl⟩⟩) | (go_at_call 21; (with_reducible refine (mask_Has.calls t116 a2 t117 _ A11.out).mono ?_); rintro e w' ⟨rfl, ⟨nd, rfl⟩⟩) | (go_at_call 21; (with_reducible refine (mask_Has.calls a0 a2 true _ A12.out).mono ?_); rintro e w' ⟨rfl, ⟨nd, rfl⟩⟩) | (go_at_call 21; (with_reducible refine (mask_Has.calls a1 a2 t119 _ A14.out).mono ?_); rintro e w' ⟨rfl, ⟨nd, rfl⟩⟩) | (go_at_call 33; (with_reducible refine (mask_Or.calls a0 a1 t120 _ A18.out).mono ?_); rintro e w' ⟨rfl, ⟨nd, rfl⟩⟩) | (go_at_call 21; (with_reducible refine (mask_Has.calls t120 a2 t121 _ A19.out).mono ?_); rintro e w' ⟨rfl, ⟨nd, rfl⟩⟩))
                go_meet
                case rel => exact ⟨_, (true), (by first | rfl | (simp; done) | (simp [*]; done)), H', ⟨by have := HJ3.out; first | omega | exact Nat.le_refl _⟩, ⟨by repeat (first | (with_reducible first | exact HB.out | apply below_alloc | apply pw_below_drewN | apply below_drew1) | exact HB.out)⟩⟩
              · rw [if_neg c20] at H
                have c20b0 : (t121 != true) = false := by simpa using c20
                (try (have c20b1 : decide (t121 = true) = true := by simpa using c20))
                (try (have c20b2 : (t121 == true) = true := by simpa using c20))
                clear c20
                replace H := Option.bind_eq_some_iff.mp H
                obtain ⟨t122, A230, H⟩ := H
                replace H : ((mask_Has.f t122 a2).bind fun t123 => (frustumlaw08_MaskSets.j1 kj3 a0 a2 x7_3 (t123 != (!t119)))) = some r := H
                have A23 := Aside0.mk A230
                clear A230
                replace H := Option.bind_eq_some_iff.mp H
                obtain ⟨t123, A240, H⟩ := H
                replace H : (frustumlaw08_MaskSets.j1 kj3 a0 a2 x7_3 (t123 != (!t119))) = some r := H
                have A24 := Aside0.mk A240
                clear A240
                have H' := Aside0.mk H
                clear H
                go_wp2_with (first | (go_at_call 45; (with_reducible refine (mask_Lanes.calls kj3 a0 t112 _ A7.out).mono ?_); rintro e w25 ⟨v113, rfl, ho0, hb⟩; have n0_ := Aside0.mk (Kd.R_lower ho0 (below_size (by repeat (first | (with_reducible first | exact HB.out | apply below_alloc | apply pw_below_drewN | apply below_drew1) | exact HB.out)))); have n1_ := Aside0.mk (below_step (by repeat (first | (with_reducible first | exact HB.out | apply below_alloc | apply pw_below_drewN | apply below_drew1) | exact HB.out)) hb); clear HB; have HO114 := n0_; have HB := n1_; clear n0_ n1_; (try clear hb); (try clear hb2); (try clear hk); (try clear hi); (try clear ho0); obtain ⟨Ao26, co26, eo26⟩ := Kd.R_slice HO114.out; subst eo26) | (go_at_call 44; (with_reducible refine (mask_Of.calls kj3 _ _ t112 t115 _ ?side1 ?side2 A8.out).mono ?_); (case side1 => repeat (first | exact (Kd.R_reads' HO114.out).2.2 | (with_reducible refine Kd.C_alloc ?_ _) | (with_reducible refine Kd.C_drewN ?_ _) | (with_reducible refine Kd.C_drew ?_))); (case side2 => exact (Kd.R_reads' HO114.out).2.1); rintro e w' ⟨rfl, ⟨nd, rfl⟩⟩) | (go_at_call 31; (with_reducible refine (mask_And.calls a0 a1 t116 _ A10.out).mono ?_); rintro e w' ⟨rfl, ⟨nd, rfl⟩⟩) | (go_at_call 21; (with_reducible refine (mask_Has.calls t116 a2 t117 _ A11.out).mono ?_); rintro e w' ⟨rfl, ⟨nd, rfl⟩⟩) | (go_at_call 21; (with_reducible refine (mask_Has.calls a0 a2 true _ A12.out).mono ?_); rintro e w' ⟨rfl, ⟨nd, rfl⟩⟩) | (go_at_call 21; (with_reducible refine (mask_Has.calls a1 a2 t119 _ A14.out).mono ?_); rintro e w' ⟨rfl, ⟨nd, rfl⟩⟩) | (go_at_call 33; (with_reducible refine (mask_Or.calls a0 a1 t120 _ A18.out).mono ?_); rintro e w' ⟨rfl, ⟨nd, rfl⟩⟩) | (go_at_call 21; (with_reducible refine (mask_Has.calls t120 a2 t121 _ A19.out).mono ?_); rintro e w' ⟨rfl, ⟨nd, rfl⟩⟩) | (go_at_call 35; (with_reducible refine (mask_AndNot.calls a0 a1 t122 _ A23.out).mono ?_); rintro e w' ⟨rfl, ⟨nd, rfl⟩⟩) | (go_at_call 21; (with_reducible refine (mask_Has.calls t122 a2 t123 _ A24.out).mono ?_); rintro e w' ⟨rfl, ⟨nd, rfl⟩⟩))
                go_meet
                case rel => exact ⟨_, ((t123 != (!t119))), (by first | rfl | (simp; done) | (simp [*]; done)), H', ⟨by have := HJ3.out; first | omega | exact Nat.le_refl _⟩, ⟨by repeat (first | (with_reducible first | exact HB.out | apply below_alloc | apply pw_below_drewN | apply below_drew1) | exact HB.out)⟩⟩
          · replace c13 := Bool.eq_false_iff.mpr c13
            subst c13
            have H1 : (if (t117 != false) = true then (frustumlaw08_MaskSets.j1 kj3 a0 a2 x7_3 true) else ((mask_Or.f a0 a1).bind fun t124 => ((mask_Has.f t124 a2).bind fun t125 => ((mask_Has.f a1 a2).bind fun t126 => (if (t125 != t126) = true then (frustumlaw08_MaskSets.j1 kj3 a0 a2 x7_3 true) else ((mask_AndNot.f a0 a1).bind fun t127 => ((mask_Has.f t127 a2).bind fun t128 => (frustumlaw08_MaskSets.j1 kj3 a0 a2 x7_3 (t128 != false))))))))) = some r := by rw [if_neg (show ¬ (false = true) by decide)] at H; exact H
            clear H
            have H := H1
            clear H1
            by_cases c27 : (t117 != false) = true
            · rw [if_pos c27] at H
              have c27b0 : (t117 != false) = true := c27
              (try (have c27b1 : decide (t117 = false) = false := by simpa using c27))
              (try (have c27b2 : (t117 == false) = false := by simpa using c27))
              (try (have c27b3 : ¬ (t117 = false) := by simpa using c27))
              clear c27
              have H' := Aside0.mk H
              clear H
              go_wp2_with (first | (go_at_call 45; (with_reducible refine (mask_Lanes.calls kj3 a0 t112 _ A7.out).mono ?_); rintro e w28 ⟨v113, rfl, ho0, hb⟩; have n0_ := Aside0.mk (Kd.R_lower ho0 (below_size (by repeat (first | (with_reducible first | exact HB.out | apply below_alloc | apply pw_below_drewN | apply below_drew1) | exact HB.out)))); have n1_ := Aside0.mk (below_step (by repeat (first | (with_reducible first | exact HB.out | apply below_alloc | apply pw_below_drewN | apply below_drew1) | exact HB.out)) hb); clear HB; have HO114 := n0_; have HB := n1_; clear n0_ n1_; (try clear hb); (try clear hb2); (try clear hk); (try clear hi); (try clear ho0); obtain ⟨Ao29, co29, eo29⟩ := Kd.R_slice HO114.out; subst eo29) | (go_at_call 44; (with_reducible refine (mask_Of.calls kj3 _ _ t112 t115 _ ?side1 ?side2 A8.out).mono ?_); (case side1 => repeat (first | exact (Kd.R_reads' HO114.out).2.2 | (with_reducible refine Kd.C_alloc ?_ _) | (with_reducible refine Kd.C_drewN ?_ _) | (with_reducible refine Kd.C_drew ?_))); (case side2 => exact (Kd.R_reads' HO114.out).2.1); rintro e w' ⟨rfl, ⟨nd, rfl⟩⟩) | (go_at_call 31; (with_reducible refine (mask_And.calls a0 a1 t116 _ A10.out).mono ?_); rintro e w' ⟨rfl, ⟨nd, rfl⟩⟩) | (go_at_call 21; (with_reducible refine (mask_Has.calls t116 a2 t117 _ A11.out).mono ?_); rintro e w' ⟨rfl, ⟨nd, rfl⟩⟩) | (go_at_call 21; (with_reducible refine (mask_Has.calls a0 a2 false _ A12.out).mono ?_); rintro e w' ⟨rfl, ⟨nd, rfl⟩⟩))
              go_meet
              case rel => exact ⟨_, (true), (by first | rfl | (simp; done) | (simp [*]; done)), H', ⟨by have := HJ3.out; first | omega | exact Nat.le_refl _⟩, ⟨by repeat (first | (with_reducible first | exact HB.out | apply below_alloc | apply pw_below_drewN | apply below_drew1) | exact HB.out)⟩⟩
            · rw [if_neg c27] at H
              have c27b0 : (t117 != false) = false := by simpa using c27
              (try (have c27b1 : decide (t117 = false) = true := by simpa using c27))
              (try (have c27b2 : (t117 == false) = true := by simpa using c27))
              clear c27
              replace H := Option.bind_eq_some_iff.mp H
              obtain ⟨t124, A300, H⟩ := H
              replace H : ((mask_Has.f t124 a2).bind fun t125 => ((mask_Has.f a1 a2).bind fun t126 => (if (t125 != t126) = true then (frustumlaw08_MaskSets.j1 kj3 a0 a2 x7_3 true) else ((mask_AndNot.f a0 a1).bind fun t127 => ((mask_Has.f t127 a2).bind fun t128 => (frustumlaw08_MaskSets.j1 kj3 a0 a2 x7_3 (t128 != false))))))) = some r := H
              have A30 := Aside0.mk A300
              clear A300
              replace H := Option.bind_eq_some_iff.mp H
              obtain ⟨t125, A310, H⟩ := H
              replace H : ((mask_Has.f a1 a2).bind fun t126 => (if (t125 != t126) = true then (frustumlaw08_MaskSets.j1 kj3 a0 a2 x7_3 true) else ((mask_AndNot.f a0 a1).bind fun t127 => ((mask_Has.f t127 a2).bind fun t128 => (frustumlaw08_MaskSets.j1 kj3 a0 a2 x7_3 (t128 != false)))))) = some r := H
              have A31 := Aside0.mk A310
              clear A310
              replace H := Option.bind_eq_some_iff.mp H
              obtain ⟨t126, A320, H⟩ := H
              replace H : (if (t125 != t126) = true then (frustumlaw08_MaskSets.j1 kj3 a0 a2 x7_3 true) else ((mask_AndNot.f a0 a1).bind fun t127 => ((mask_Has.f t127 a2).bind fun t128 => (frustumlaw08_MaskSets.j1 kj3 a0 a2 x7_3 (t128 != false))))) = some r := H
              have A32 := Aside0.mk A320
              clear A320
              by_cases c33 : (t125 != t126) = true
              · rw [if_pos c33] at H
                have c33b0 : (t125 != t126) = true := c33
                (try (have c33b1 : decide (t125 = t126) = false := by simpa using c33))
                (try (have c33b2 : (t125 == t126) = false := by simpa using c33))
                (try (have c33b3 : ¬ (t125 = t126) := by simpa using c33))
                clear c33
                have H' := Aside0.mk H
                clear H
                go_wp2_with (first | (go_at_call 45; (with_reducible refine (mask_Lanes.calls kj3 a0 t112 _ A7.out).mono ?_); rintro e w34 ⟨v113, rfl, ho0, hb⟩; have n0_ := Aside0.mk (Kd.R_lower ho0 (below_size (by repeat (first | (with_reducible first | exact HB.out | apply below_alloc | apply pw_below_drewN | apply below_drew1) | exact HB.out)))); have n1_ := Aside0.mk (below_step (by repeat (first | (with_reducible first | exact HB.out | apply below_alloc | apply pw_below_drewN | apply below_drew1) | exact HB.out)) hb); clear HB; have HO114 := n0_; have HB := n1_; clear n0_ n1_; (try clear hb); (try clear hb2); (try clear hk); (try clear hi); (try clear ho0); obtain ⟨Ao35, co35, eo35⟩ := Kd.R_slice HO114.out; subst eo35) | (go_at_call 44; (with_reducible refine (mask_Of.calls kj3 _ _ t112 t115 _ ?side1 ?side2 A8.out).mono ?_); (case side1 => repeat (first | exact (Kd.R_reads' HO114.out).2.2 | (with_reducible refine Kd.C_alloc ?_ _) | (with_reducible refine Kd.C_drewN ?_ _) | (with_reducible refine Kd.C_drew ?_))); (case side2 => exact (Kd.R_reads' HO114.out).2.1); rintro e w' ⟨rfl, ⟨nd, rfl⟩⟩) | (go_at_call 31; (with_reducible refine (mask_And.calls a0 a1 t116 _ A10.out).mono ?_); rintro e w' ⟨rfl, ⟨nd, rfl⟩⟩) | (go_at_call 21; (with_reducible refine (mask_Has.calls t116 a2 t117 _ A11.out).mono ?_); rintro e w' ⟨rfl, ⟨nd, rfl⟩⟩) | (go_at_call 21; (with_reducible refine (mask_Has.calls a0 a2 false _ A12.out).mono ?_); rintro e w' ⟨rfl, ⟨nd, rfl⟩⟩) | (go_at_call 33; (with_reducible refine (mask_Or.calls a0 a1 t124 _ A30.out).mono ?_); rintro e w' ⟨rfl, ⟨nd, rfl⟩⟩) | (go_at_call 21; (with_reducible refine (mask_Has.calls t124 a2 t125 _ A31.out).mono ?_); rintro e w' ⟨rfl, ⟨nd, rfl⟩⟩) | (go_at_call 21; (with_reducible refine (mask_Has.calls a1 a2 t126 _ A32.out).mono ?_); rintro e w' ⟨rfl, ⟨nd, rfl⟩⟩))
                go_meet
                case rel => exact ⟨_, (true), (by first | rfl | (simp; done) | (simp [*]; done)), H', ⟨by have := HJ3.out; first | omega | exact Nat.le_refl _⟩, ⟨by repeat (first | (with_reducible first | exact HB.out | apply below_alloc | apply pw_below_drewN | apply below_drew1) | exact HB.out)⟩⟩
              · rw [if_neg c33] at H
                have c33b0 : (t125 != t126) = false := by simpa using c33
                (try (have c33b1 : decide (t125 = t126) = true := by simpa using c33))
                (try (have c33b2 : (t125 == t126) = true := by simpa using c33))
                clear c33
                replace H := Option.bind_eq_some_iff.mp H
                obtain ⟨t127, A360, H⟩ := H
                replace H : ((mask_Has.f t127 a2).bind fun t128 => (frustumlaw08_MaskSets.j1 kj3 a0 a2 x7_3 (t128 != false))) = some r := H
                have A36 := Aside0.mk A360
                clear A360
                replace H := Option.bind_eq_some_iff.mp H
                obtain ⟨t128, A370, H⟩ := H
                replace H : (frustumlaw08_MaskSets.j1 kj3 a0 a2 x7_3 (t128 != false)) = some r := H
                have A37 := Aside0.mk A370
                clear A370
                have H' := Aside0.mk H
                clear H
                go_wp2_with (first | (go_at_call 45; (with_reducible refine (mask_Lanes.calls kj3 a0 t112 _ A7.out).mono ?_); rintro e w38 ⟨v113, rfl, ho0, hb⟩; have n0_ := Aside0.mk (Kd.R_lower ho0 (below_size (by repeat (first | (with_reducible first | exact HB.out | apply below_alloc | apply pw_below_drewN | apply below_drew1) | exact HB.out)))); have n1_ := Aside0.mk (below_step (by repeat (first | (with_reducible first | exact HB.out | apply below_alloc | apply pw_below_drewN | apply below_drew1) | exact HB.out)) hb); clear HB; have HO114 := n0_; have HB := n1_; clear n0_ n1_; (try clear hb); (try clear hb2); (try clear hk); (try clear hi); (try clear ho0); obtain ⟨Ao39, co39, eo39⟩ := Kd.R_slice HO114.out; subst eo39) | (go_at_call 44; (with_reducible refine (mask_Of.calls kj3 _ _ t112 t115 _ ?side1 ?side2 A8.out).mono ?_); (case side1 => repeat (first | exact (Kd.R_reads' HO114.out).2.2 | (with_reducible refine Kd.C_alloc ?_ _) | (with_reducible refine Kd.C_drewN ?_ _) | (with_reducible refine Kd.C_drew ?_))); (case side2 => exact (Kd.R_reads' HO114.out).2.1); rintro e w' ⟨rfl, ⟨nd, rfl⟩⟩) | (go_at_call 31; (with_reducible refine (mask_And.calls a0 a1 t116 _ A10.out).mono ?_); rintro e w' ⟨rfl, ⟨nd, rfl⟩⟩) | (go_at_call 21; (with_reducible refine (mask_Has.calls t116 a2 t117 _ A11.out).mono ?_); rintro e w' ⟨rfl, ⟨nd, rfl⟩⟩) | (go_at_call 21; (with_reducible refine (mask_Has.calls a0 a2 false _ A12.out).mono ?_); rintro e w' ⟨rfl, ⟨nd, rfl⟩⟩) | (go_at_call 33; (with_reducible refine (mask_Or.calls a0 a1 t124 _ A30.out).mono ?_); rintro e w' ⟨rfl, ⟨nd, rfl⟩⟩) | (go_at_call 21; (with_reducible refine (mask_Has.calls t124 a2 t125 _ A31.out).mono ?_); rintro e w' ⟨rfl, ⟨nd, rfl⟩⟩) | (go_at_call 21; (with_reducible refine (mask_Has.calls a1 a2 t126 _ A32.out).mono ?_); rintro e w' ⟨rfl, ⟨nd, rfl⟩⟩) | (go_at_call 35; (with_reducible refine (mask_AndNot.calls a0 a1 t127 _ A36.out).mono ?_); rintro e w' ⟨rfl, ⟨nd, rfl⟩⟩) | (go_at_call 21; (with_reducible refine (mask_Has.calls t127 a2 t128 _ A37.out).mono ?_); rintro e w' ⟨rfl, ⟨nd, rfl⟩⟩))
                go_meet
                case rel => exact ⟨_, ((t128 != false)), (by first | rfl | (simp; done) | (simp [*]; done)), H', ⟨by have := HJ3.out; first | omega | exact Nat.le_refl _⟩, ⟨by repeat (first | (with_reducible first | exact HB.out | apply below_alloc | apply pw_below_drewN | apply below_drew1) | exact HB.out)⟩⟩
        · rw [if_neg c9] at H
          have c9b0 : (t115 == a0) = false := beq_eq_false_iff_ne.mpr c9
          have c9b1 : (t115 != a0) = true := bne_iff_ne.mpr c9
          (first | rw [c9b0] | (simp only [i64_w, i32_w]; rw [c9b0]) | skip)
          have H' := Aside0.mk H
          clear H
          go_wp2_with (first | (go_at_call 45; (with_reducible refine (mask_Lanes.calls kj3 a0 t112 _ A7.out).mono ?_); rintro e w40 ⟨v113, rfl, ho0, hb⟩; have n0_ := Aside0.mk (Kd.R_lower ho0 (below_size (by repeat (first | (with_reducible first | exact HB.out | apply below_alloc | apply pw_below_drewN | apply below_drew1) | exact HB.out)))); have n1_ := Aside0.mk (below_step (by repeat (first | (with_reducible first | exact HB.out | apply below_alloc | apply pw_below_drewN | apply below_drew1) | exact HB.out)) hb); clear HB; have HO114 := n0_; have HB := n1_; clear n0_ n1_; (try clear hb); (try clear hb2); (try clear hk); (try clear hi); (try clear ho0); obtain ⟨Ao41, co41, eo41⟩ := Kd.R_slice HO114.out; subst eo41) | (go_at_call 44; (with_reducible refine (mask_Of.calls kj3 _ _ t112 t115 _ ?side1 ?side2 A8.out).mono ?_); (case side1 => repeat (first | exact (Kd.R_reads' HO114.out).2.2 | (with_reducible refine Kd.C_alloc ?_ _) | (with_reducible refine Kd.C_drewN ?_ _) | (with_reducible refine Kd.C_drew ?_))); (case side2 => exact (Kd.R_reads' HO114.out).2.1); rintro e w' ⟨rfl, ⟨nd, rfl⟩⟩))
          go_meet
          case rel => exact ⟨_, (true), (by first | rfl | (simp; done) | (simp [*]; done)), H', ⟨by have := HJ3.out; first | omega | exact Nat.le_refl _⟩, ⟨by repeat (first | (with_reducible first | exact HB.out | apply below_alloc | apply pw_below_drewN | apply below_drew1) | exact HB.out)⟩⟩
      case rest =>
        clear HC6
        try clear c1
        try clear c2
        try clear p2
        try clear c3
        try clear c5
        try clear c5b0
        try clear c9
        try clear c9b0
        try clear c9b1
        try clear c13
        try clear c15
        try clear c15b0
        try clear c15b1
        try clear c15b2
        try clear c20
        try clear c20b0
        try clear c20b1
        try clear c20b2
        try clear c27
        try clear c27b0
        try clear c27b1
        try clear c27b2
        try clear c33
        try clear c33b0
        try clear c33b1
        try clear c33b2
        try clear p2
        obtain ⟨kq, x67_5, rfl, HA, HJ5, HB⟩ := hcut
        cases kq with
        | zero => exact absurd HA.out (by simp [frustumlaw08_MaskSets.j1])
        | succ kj5 =>
          have H := HA.out
          clear HA
          simp only [frustumlaw08_MaskSets.j1] at H
          by_cases c42 : x67_5 = true
          · subst c42
            have H1 : (some false) = some r := by rw [if_pos rfl] at H; exact H
            clear H
            have H := H1
            clear H1
            obtain rfl := Option.some.inj H
            go_wp2
            go_ret
            exact ⟨by first | rfl | (simp [errW_none, errW_some] <;> rfl) | (simp [*, errW_none, errW_some] <;> rfl), by repeat (first | (with_reducible first | exact HB.out | apply below_alloc | apply pw_below_drewN | apply below_drew1) | exact HB.out)⟩
          · replace c42 := Bool.eq_false_iff.mpr c42
            subst c42
            have H1 : ((mask_With.f a0 a2).bind fun t129 => ((mask_Has.f t129 a2).bind fun t130 => (if (t130 == x7_3) = true then ((mask_Without.f a0 a2).bind fun t131 => ((mask_Has.f t131 a2).bind fun t132 => (if t132 = true then (some false) else (if x7_3 = true then ((mask_Without.f t129 a2).bind fun t133 => (if t133 = t131 then ((frustumlaw08_example.f).bind fun t134 => (some t134)) else (some false))) else ((frustumlaw08_example.f).bind fun t135 => (some t135)))))) else (some false)))) = some r := by rw [if_neg (show ¬ (false = true) by decide)] at H; exact H
            clear H
            have H := H1
            clear H1
            replace H := Option.bind_eq_some_iff.mp H
            obtain ⟨t129, A430, H⟩ := H
            replace H : ((mask_Has.f t129 a2).bind fun t130 => (if (t130 == x7_3) = true then ((mask_Without.f a0 a2).bind fun t131 => ((mask_Has.f t131 a2).bind fun t132 => (if t132 = true then (some false) else (if x7_3 = true then ((mask_Without.f t129 a2).bind fun t133 => (if t133 = t131 then ((frustumlaw08_example.f).bind fun t134 => (some t134)) else (some false))) else ((frustumlaw08_example.f).bind fun t135 => (some t135)))))) else (some false))) = some r := H
            have A43 := Aside0.mk A430
            clear A430
            replace H := Option.bind_eq_some_iff.mp H
            obtain ⟨t130, A440, H⟩ := H
            replace H : (if (t130 == x7_3) = true then ((mask_Without.f a0 a2).bind fun t131 => ((mask_Has.f t131 a2).bind fun t132 => (if t132 = true then (some false) else (if x7_3 = true then ((mask_Without.f t129 a2).bind fun t133 => (if t133 = t131 then ((frustumlaw08_example.f).bind fun t134 => (some t134)) else (some false))) else ((frustumlaw08_example.f).bind fun t135 => (some t135)))))) else (some false)) = some r := H
            have A44 := Aside0.mk A440
            clear A440
            by_cases c45 : (t130 == x7_3) = true
            · rw [if_pos c45] at H
              have c45b0 : (t130 == x7_3) = true := c45
              (try (have c45b1 : decide (t130 = x7_3) = true := by simpa using c45))
              (try (have c45b2 : (t130 == x7_3) = true := by simpa using c45))
              clear c45
              replace H := Option.bind_eq_some_iff.mp H
              obtain ⟨t131, A460, H⟩ := H
              replace H : ((mask_Has.f t131 a2).bind fun t132 => (if t132 = true then (some false) else (if x7_3 = true then ((mask_Without.f t129 a2).bind fun t133 => (if t133 = t131 then ((frustumlaw08_example.f).bind fun t134 => (some t134)) else (some false))) else ((frustumlaw08_example.f).bind fun t135 => (some t135))))) = some r := H
              have A46 := Aside0.mk A460
              clear A460
              replace H := Option.bind_eq_some_iff.mp H
              obtain ⟨t132, A470, H⟩ := H
              replace H : (if t132 = true then (some false) else (if x7_3 = true then ((mask_Without.f t129 a2).bind fun t133 => (if t133 = t131 then ((frustumlaw08_example.f).bind fun t134 => (some t134)) else (some false))) else ((frustumlaw08_example.f).bind fun t135 => (some t135)))) = some r := H
              have A47 := Aside0.mk A470
              clear A470
              by_cases c48 : t132 = true
              · subst c48
                have H1 : (some false) = some r := by rw [if_pos rfl] at H; exact H
                clear H
                have H := H1
                clear H1
                obtain rfl := Option.some.inj H
                go_wp2_with (first | (go_at_call 27; (with_reducible refine (mask_With.calls a0 a2 t129 _ A43.out).mono ?_); rintro e w' ⟨rfl, ⟨nd, rfl⟩⟩) | (go_at_call 21; (with_reducible refine (mask_Has.calls t129 a2 t130 _ A44.out).mono ?_); rintro e w' ⟨rfl, ⟨nd, rfl⟩⟩) | (go_at_call 29; (with_reducible refine (mask_Without.calls a0 a2 t131 _ A46.out).mono ?_); rintro e w' ⟨rfl, ⟨nd, rfl⟩⟩) | (go_at_call 21; (with_reducible refine (mask_Has.calls t131 a2 true _ A47.out).mono ?_); rintro e w' ⟨rfl, ⟨nd, rfl⟩⟩))
                go_ret
                exact ⟨by first | rfl | (simp [errW_none, errW_some] <;> rfl) | (simp [*, errW_none, errW_some] <;> rfl), by repeat (first | (with_reducible first | exact HB.out | apply below_alloc | apply pw_below_drewN | apply below_drew1) | exact HB.out)⟩
              · replace c48 := Bool.eq_false_iff.mpr c48
                subst c48
                have H1 : (if x7_3 = true then ((mask_Without.f t129 a2).bind fun t133 => (if t133 = t131 then ((frustumlaw08_example.f).bind fun t134 => (some t134)) else (some false))) else ((frustumlaw08_example.f).bind fun t135 => (some t135))) = some r := by rw [if_neg (show ¬ (false = true) by decide)] at H; exact H
                clear H
                have H := H1
                clear H1
                by_cases c49 : x7_3 = true
                · subst c49
                  have H1 : ((mask_Without.f t129 a2).bind fun t133 => (if t133 = t131 then ((frustumlaw08_example.f).bind fun t134 => (some t134)) else (some false))) = some r := by rw [if_pos rfl] at H; exact H
                  clear H
                  have H := H1
                  clear H1
                  replace H := Option.bind_eq_some_iff.mp H
                  obtain ⟨t133, A500, H⟩ := H
                  replace H : (if t133 = t131 then ((frustumlaw08_example.f).bind fun t134 => (some t134)) else (some false)) = some r := H
                  have A50 := Aside0.mk A500
                  clear A500
                  by_cases c51 : t133 = t131
                  · rw [if_pos c51] at H
                    have c51b0 : (t133 == t131) = true := beq_iff_eq.mpr c51
                    have c51b1 : (t133 != t131) = false := bne_eq_false_iff_eq.mpr c51
                    clear c51
                    replace H := Option.bind_eq_some_iff.mp H
                    obtain ⟨t134, A520, H⟩ := H
                    replace H : (some t134) = some r := H
                    have A52 := Aside0.mk A520
                    clear A520
                    obtain rfl := Option.some.inj H
                    go_wp2_with (first | (go_at_call 27; (with_reducible refine (mask_With.calls a0 a2 t129 _ A43.out).mono ?_); rintro e w' ⟨rfl, ⟨nd, rfl⟩⟩) | (go_at_call 21; (with_reducible refine (mask_Has.calls t129 a2 t130 _ A44.out).mono ?_); rintro e w' ⟨rfl, ⟨nd, rfl⟩⟩) | (go_at_call 29; (with_reducible refine (mask_Without.calls a0 a2 t131 _ A46.out).mono ?_); rintro e w' ⟨rfl, ⟨nd, rfl⟩⟩) | (go_at_call 21; (with_reducible refine (mask_Has.calls t131 a2 false _ A47.out).mono ?_); rintro e w' ⟨rfl, ⟨nd, rfl⟩⟩) | (go_at_call 29; (with_reducible refine (mask_Without.calls t129 a2 t133 _ A50.out).mono ?_); rintro e w' ⟨rfl, ⟨nd, rfl⟩⟩) | (go_at_call 22; (with_reducible refine (frustumlaw08_example.calls  t134 _ A52.out).mono ?_); rintro e w53 ⟨rfl, hb⟩; have n0_ := Aside0.mk (below_step (by repeat (first | (with_reducible first | exact HB.out | apply below_alloc | apply pw_below_drewN | apply below_drew1) | exact HB.out)) hb); clear HB; have HB := n0_; clear n0_; (try clear hb); (try clear hb2); (try clear hk); (try clear hi)))
                    go_ret
                    exact ⟨by first | rfl | (simp [errW_none, errW_some] <;> rfl) | (simp [*, errW_none, errW_some] <;> rfl), by repeat (first | (with_reducible first | exact HB.out | apply below_alloc | apply pw_below_drewN | apply below_drew1) | exact HB.out)⟩
                  · rw [if_neg c51] at H
                    have c51b0 : (t133 == t131) = false := beq_eq_false_iff_ne.mpr c51
                    have c51b1 : (t133 != t131) = true := bne_iff_ne.mpr c51
                    obtain rfl := Option.some.inj H
                    go_wp2_with (first | (go_at_call 27; (with_reducible refine (mask_With.calls a0 a2 t129 _ A43.out).mono ?_); rintro e w' ⟨rfl, ⟨nd, rfl⟩⟩) | (go_at_call 21; (with_reducible refine (mask_Has.calls t129 a2 t130 _ A44.out).mono ?_); rintro e w' ⟨rfl, ⟨nd, rfl⟩⟩) | (go_at_call 29; (with_reducible refine (mask_Without.calls a0 a2 t131 _ A46.out).mono ?_); rintro e w' ⟨rfl, ⟨nd, rfl⟩⟩) | (go_at_call 21; (with_reducible refine (mask_Has.calls t131 a2 false _ A47.out).mono ?_); rintro e w' ⟨rfl, ⟨nd, rfl⟩⟩) | (go_at_call 29; (with_reducible refine (mask_Without.calls t129 a2 t133 _ A50.out).mono ?_); rintro e w' ⟨rfl, ⟨nd, rfl⟩⟩))
                    go_ret
                    exact ⟨by first | rfl | (simp [errW_none, errW_some] <;> rfl) | (simp [*, errW_none, errW_some] <;> rfl), by repeat (first | (with_reducible first | exact HB.out | apply below_alloc | apply pw_below_drewN | apply below_drew1) | exact HB.out)⟩
                · replace c49 := Bool.eq_false_iff.mpr c49
                  subst c49
                  have H1 : ((frustumlaw08_example.f).bind fun t135 => (some t135)) = some r := by rw [if_neg (show ¬ (false = true) by decide)] at H; exact H
                  clear H
                  have H := H1
                  clear H1
                  replace H := Option.bind_eq_some_iff.mp H
                  obtain ⟨t135, A540, H⟩ := H
                  replace H : (some t135) = some r := H
                  have A54 := Aside0.mk A540
                  clear A540
                  obtain rfl := Option.some.inj H
                  go_wp2_with (first | (go_at_call 27; (with_reducible refine (mask_With.calls a0 a2 t129 _ A43.out).mono ?_); rintro e w' ⟨rfl, ⟨nd, rfl⟩⟩) | (go_at_call 21; (with_reducible refine (mask_Has.calls t129 a2 t130 _ A44.out).mono ?_); rintro e w' ⟨rfl, ⟨nd, rfl⟩⟩) | (go_at_call 29; (with_reducible refine (mask_Without.calls a0 a2 t131 _ A46.out).mono ?_); rintro e w' ⟨rfl, ⟨nd, rfl⟩⟩) | (go_at_call 21; (with_reducible refine (mask_Has.calls t131 a2 false _ A47.out).mono ?_); rintro e w' ⟨rfl, ⟨nd, rfl⟩⟩) | (go_at_call 22; (with_reducible refine (frustumlaw08_example.calls  t135 _ A54.out).mono ?_); rintro e w55 ⟨rfl, hb⟩; have n0_ := Aside0.mk (below_step (by repeat (first | (with_reducible first | exact HB.out | apply below_alloc | apply pw_below_drewN | apply below_drew1) | exact HB.out)) hb); clear HB; have HB := n0_; clear n0_; (try clear hb); (try clear hb2); (try clear hk); (try clear hi)))
                  go_ret
                  exact ⟨by first | rfl | (simp [errW_none, errW_some] <;> rfl) | (simp [*, errW_none, errW_some] <;> rfl), by repeat (first | (with_reducible first | exact HB.out | apply below_alloc | apply pw_below_drewN | apply below_drew1) | exact HB.out)⟩
            · rw [if_neg c45] at H
              have c45b0 : (t130 == x7_3) = false := by simpa using c45
              (try (have c45b1 : decide (t130 = x7_3) = false := by simpa using c45))
              (try (have c45b2 : (t130 == x7_3) = false := by simpa using c45))
              (try (have c45b3 : ¬ (t130 = x7_3) := by simpa using c45))
              clear c45
              obtain rfl := Option.some.inj H
              go_wp2_with (first | (go_at_call 27; (with_reducible refine (mask_With.calls a0 a2 t129 _ A43.out).mono ?_); rintro e w' ⟨rfl, ⟨nd, rfl⟩⟩) | (go_at_call 21; (with_reducible refine (mask_Has.calls t129 a2 t130 _ A44.out).mono ?_); rintro e w' ⟨rfl, ⟨nd, rfl⟩⟩))
              go_ret
              exact ⟨by first | rfl | (simp [errW_none, errW_some] <;> rfl) | (simp [*, errW_none, errW_some] <;> rfl), by repeat (first | (with_reducible first | exact HB.out | apply below_alloc | apply pw_below_drewN | apply below_drew1) | exact HB.out)⟩

/-- THE ONE PURE STATEMENT of frustumlaw08_MaskSets: yours. -/
def frustumlaw08_MaskSets.Pure : Prop := ∀ (a0 : Int) (a1 : Int) (a2 : Int), (Lit.int .u16 a0).wf = true → (Lit.int .u16 a1).wf = true → (Lit.int .i64 a2).wf = true → ∃ k, frustumlaw08_MaskSets.f k a0 a1 a2 = some true
theorem frustumlaw08_MaskSets.walk (P : frustumlaw08_MaskSets.Pure) (a0 : Int) (a1 : Int) (a2 : Int) (w : World) (w0 : (Lit.int .u16 a0).wf = true) (w1 : (Lit.int .u16 a1).wf = true) (w2 : (Lit.int .i64 a2).wf = true) :
    Calls Try.prog 13 #[.int .u16 a0, .int .u16 a1, .int .i64 a2] w fun e w' => e = .returned (.bool true) ∧ Below w.heap.size w w' := by
  obtain ⟨k, h⟩ := P a0 a1 a2 w0 w1 w2
  refine (frustumlaw08_MaskSets.calls k a0 a1 a2 true w h).mono ?_
  rintro e w' ⟨rfl, hd⟩
  exact ⟨rfl, hd⟩

end Go.Proofs.Ytblfokhcfpajpaa.PMS
