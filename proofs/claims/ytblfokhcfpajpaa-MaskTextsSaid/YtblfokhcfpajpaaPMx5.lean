-- Written by a program of the session (gprint.py) out of the kit's print of the translation. Lean checks it.
import Derived.Test.YtblfokhcfpajpaaPMx0
import Derived.Test.YtblfokhcfpajpaaPMx1
import Derived.Test.YtblfokhcfpajpaaPMx4
namespace Go.Proofs.Ytblfokhcfpajpaa.PM
open Go.RowKit Go.Proofs.YtblfokhcfpajpaaW.PrintWords Go.Proofs.YtblfokhcfpajpaaW.PrintLast Go.Proofs.YtblfokhcfpajpaaW.PrintMore
attribute [local go_sem] max2_int min2_int max_two min_two max_three min_three max_four min_four   -- for this text's walks alone
set_option linter.unusedVariables false
set_option linter.unusedSimpArgs false

/-! ### frustumlaw08_MaskCounts: function 11 -/
def frustumlaw08_MaskCounts.f (a0 : Int) (a1 : Int) (a2 : Int) : Option (Bool) := (mask_Or.f a0 a1).bind fun t190 => ((mask_Count.f t190).bind fun t191 => ((mask_And.f a0 a1).bind fun t192 => ((mask_Count.f t192).bind fun t193 => ((mask_Count.f a0).bind fun t194 => ((mask_Count.f a1).bind fun t195 => (if (wrap64 (t191 + t193)) = (wrap64 (t194 + t195)) then ((mask_AndNot.f a0 a1).bind fun t196 => ((mask_Count.f t196).bind fun t197 => ((mask_Count.f a0).bind fun t198 => ((mask_And.f a0 a1).bind fun t199 => ((mask_Count.f t199).bind fun t200 => (if t197 = (wrap64 (t198 - t200)) then ((mask_All.f a2).bind fun t201 => ((mask_Count.f t201).bind fun t202 => (if t202 = (mn (mx a2 0) 16) then ((frustumlaw08_example.f).bind fun t203 => (some t203)) else (some false)))) else (some false))))))) else (some false)))))))
set_option maxHeartbeats 8000000 in
set_option maxRecDepth 100000 in
theorem frustumlaw08_MaskCounts.calls (a0 : Int) (a1 : Int) (a2 : Int) (r : Bool) (w : World) (h : frustumlaw08_MaskCounts.f a0 a1 a2 = some r) :
    Calls Try.prog 11 #[.int .u16 a0, .int .u16 a1, .int .i64 a2] w fun e w' => e = .returned (.bool r) ∧ Below w.heap.size w w' := by
  have HB := Aside0.mk (Below.refl w.heap.size w)
  have H : ((mask_Or.f a0 a1).bind fun t190 => ((mask_Count.f t190).bind fun t191 => ((mask_And.f a0 a1).bind fun t192 => ((mask_Count.f t192).bind fun t193 => ((mask_Count.f a0).bind fun t194 => ((mask_Count.f a1).bind fun t195 => (if (wrap64 (t191 + t193)) = (wrap64 (t194 + t195)) then ((mask_AndNot.f a0 a1).bind fun t196 => ((mask_Count.f t196).bind fun t197 => ((mask_Count.f a0).bind fun t198 => ((mask_And.f a0 a1).bind fun t199 => ((mask_Count.f t199).bind fun t200 => (if t197 = (wrap64 (t198 - t200)) then ((mask_All.f a2).bind fun t201 => ((mask_Count.f t201).bind fun t202 => (if t202 = (mn (mx a2 0) 16) then ((frustumlaw08_example.f).bind fun t203 => (some t203)) else (some false)))) else (some false))))))) else (some false)))))))) = some r := h
  clear h
  replace H := Option.bind_eq_some_iff.mp H
  obtain ⟨t190, A40, H⟩ := H
  replace H : ((mask_Count.f t190).bind fun t191 => ((mask_And.f a0 a1).bind fun t192 => ((mask_Count.f t192).bind fun t193 => ((mask_Count.f a0).bind fun t194 => ((mask_Count.f a1).bind fun t195 => (if (wrap64 (t191 + t193)) = (wrap64 (t194 + t195)) then ((mask_AndNot.f a0 a1).bind fun t196 => ((mask_Count.f t196).bind fun t197 => ((mask_Count.f a0).bind fun t198 => ((mask_And.f a0 a1).bind fun t199 => ((mask_Count.f t199).bind fun t200 => (if t197 = (wrap64 (t198 - t200)) then ((mask_All.f a2).bind fun t201 => ((mask_Count.f t201).bind fun t202 => (if t202 = (mn (mx a2 0) 16) then ((frustumlaw08_example.f).bind fun t203 => (some t203)) else (some false)))) else (some false))))))) else (some false))))))) = some r := H
  have A4 := Aside0.mk A40
  clear A40
  replace H := Option.bind_eq_some_iff.mp H
  obtain ⟨t191, A50, H⟩ := H
  replace H : ((mask_And.f a0 a1).bind fun t192 => ((mask_Count.f t192).bind fun t193 => ((mask_Count.f a0).bind fun t194 => ((mask_Count.f a1).bind fun t195 => (if (wrap64 (t191 + t193)) = (wrap64 (t194 + t195)) then ((mask_AndNot.f a0 a1).bind fun t196 => ((mask_Count.f t196).bind fun t197 => ((mask_Count.f a0).bind fun t198 => ((mask_And.f a0 a1).bind fun t199 => ((mask_Count.f t199).bind fun t200 => (if t197 = (wrap64 (t198 - t200)) then ((mask_All.f a2).bind fun t201 => ((mask_Count.f t201).bind fun t202 => (if t202 = (mn (mx a2 0) 16) then ((frustumlaw08_example.f).bind fun t203 => (some t203)) else (some false)))) else (some false))))))) else (some false)))))) = some r := H
  have A5 := Aside0.mk A50
  clear A50
  replace H := Option.bind_eq_some_iff.mp H
  obtain ⟨t192, A60, H⟩ := H
  replace H : ((mask_Count.f t192).bind fun t193 => ((mask_Count.f a0).bind fun t194 => ((mask_Count.f a1).bind fun t195 => (if (wrap64 (t191 + t193)) = (wrap64 (t194 + t195)) then ((mask_AndNot.f a0 a1).bind fun t196 => ((mask_Count.f t196).bind fun t197 => ((mask_Count.f a0).bind fun t198 => ((mask_And.f a0 a1).bind fun t199 => ((mask_Count.f t199).bind fun t200 => (if t197 = (wrap64 (t198 - t200)) then ((mask_All.f a2).bind fun t201 => ((mask_Count.f t201).bind fun t202 => (if t202 = (mn (mx a2 0) 16) then ((frustumlaw08_example.f).bind fun t203 => (some t203)) else (some false)))) else (some false))))))) else (some false))))) = some r := H
  have A6 := Aside0.mk A60
  clear A60
  replace H := Option.bind_eq_some_iff.mp H
  obtain ⟨t193, A70, H⟩ := H
  replace H : ((mask_Count.f a0).bind fun t194 => ((mask_Count.f a1).bind fun t195 => (if (wrap64 (t191 + t193)) = (wrap64 (t194 + t195)) then ((mask_AndNot.f a0 a1).bind fun t196 => ((mask_Count.f t196).bind fun t197 => ((mask_Count.f a0).bind fun t198 => ((mask_And.f a0 a1).bind fun t199 => ((mask_Count.f t199).bind fun t200 => (if t197 = (wrap64 (t198 - t200)) then ((mask_All.f a2).bind fun t201 => ((mask_Count.f t201).bind fun t202 => (if t202 = (mn (mx a2 0) 16) then ((frustumlaw08_example.f).bind fun t203 => (some t203)) else (some false)))) else (some false))))))) else (some false)))) = some r := H
  have A7 := Aside0.mk A70
  clear A70
  replace H := Option.bind_eq_some_iff.mp H
  obtain ⟨t194, A80, H⟩ := H
  replace H : ((mask_Count.f a1).bind fun t195 => (if (wrap64 (t191 + t193)) = (wrap64 (t194 + t195)) then ((mask_AndNot.f a0 a1).bind fun t196 => ((mask_Count.f t196).bind fun t197 => ((mask_Count.f a0).bind fun t198 => ((mask_And.f a0 a1).bind fun t199 => ((mask_Count.f t199).bind fun t200 => (if t197 = (wrap64 (t198 - t200)) then ((mask_All.f a2).bind fun t201 => ((mask_Count.f t201).bind fun t202 => (if t202 = (mn (mx a2 0) 16) then ((frustumlaw08_example.f).bind fun t203 => (some t203)) else (some false)))) else (some false))))))) else (some false))) = some r := H
  have A8 := Aside0.mk A80
  clear A80
  replace H := Option.bind_eq_some_iff.mp H
  obtain ⟨t195, A90, H⟩ := H
  replace H : (if (wrap64 (t191 + t193)) = (wrap64 (t194 + t195)) then ((mask_AndNot.f a0 a1).bind fun t196 => ((mask_Count.f t196).bind fun t197 => ((mask_Count.f a0).bind fun t198 => ((mask_And.f a0 a1).bind fun t199 => ((mask_Count.f t199).bind fun t200 => (if t197 = (wrap64 (t198 - t200)) then ((mask_All.f a2).bind fun t201 => ((mask_Count.f t201).bind fun t202 => (if t202 = (mn (mx a2 0) 16) then ((frustumlaw08_example.f).bind fun t203 => (some t203)) else (some false)))) else (some false))))))) else (some false)) = some r := H
  have A9 := Aside0.mk A90
  clear A90
  by_cases c10 : (wrap64 (t191 + t193)) = (wrap64 (t194 + t195))
  · rw [if_pos c10] at H
    have c10b0 : ((wrap64 (t191 + t193)) == (wrap64 (t194 + t195))) = true := beq_iff_eq.mpr c10
    have c10b1 : ((wrap64 (t191 + t193)) != (wrap64 (t194 + t195))) = false := bne_eq_false_iff_eq.mpr c10
    clear c10
    replace H := Option.bind_eq_some_iff.mp H
    obtain ⟨t196, A110, H⟩ := H
    replace H : ((mask_Count.f t196).bind fun t197 => ((mask_Count.f a0).bind fun t198 => ((mask_And.f a0 a1).bind fun t199 => ((mask_Count.f t199).bind fun t200 => (if t197 = (wrap64 (t198 - t200)) then ((mask_All.f a2).bind fun t201 => ((mask_Count.f t201).bind fun t202 => (if t202 = (mn (mx a2 0) 16) then ((frustumlaw08_example.f).bind fun t203 => (some t203)) else (some false)))) else (some false)))))) = some r := H
    have A11 := Aside0.mk A110
    clear A110
    replace H := Option.bind_eq_some_iff.mp H
    obtain ⟨t197, A120, H⟩ := H
    replace H : ((mask_Count.f a0).bind fun t198 => ((mask_And.f a0 a1).bind fun t199 => ((mask_Count.f t199).bind fun t200 => (if t197 = (wrap64 (t198 - t200)) then ((mask_All.f a2).bind fun t201 => ((mask_Count.f t201).bind fun t202 => (if t202 = (mn (mx a2 0) 16) then ((frustumlaw08_example.f).bind fun t203 => (some t203)) else (some false)))) else (some false))))) = some r := H
    have A12 := Aside0.mk A120
    clear A120
    replace H := Option.bind_eq_some_iff.mp H
    obtain ⟨t198, A130, H⟩ := H
    replace H : ((mask_And.f a0 a1).bind fun t199 => ((mask_Count.f t199).bind fun t200 => (if t197 = (wrap64 (t198 - t200)) then ((mask_All.f a2).bind fun t201 => ((mask_Count.f t201).bind fun t202 => (if t202 = (mn (mx a2 0) 16) then ((frustumlaw08_example.f).bind fun t203 => (some t203)) else (some false)))) else (some false)))) = some r := H
    have A13 := Aside0.mk A130
    clear A130
    replace H := Option.bind_eq_some_iff.mp H
    obtain ⟨t199, A140, H⟩ := H
    replace H : ((mask_Count.f t199).bind fun t200 => (if t197 = (wrap64 (t198 - t200)) then ((mask_All.f a2).bind fun t201 => ((mask_Count.f t201).bind fun t202 => (if t202 = (mn (mx a2 0) 16) then ((frustumlaw08_example.f).bind fun t203 => (some t203)) else (some false)))) else (some false))) = some r := H
    have A14 := Aside0.mk A140
    clear A140
    replace H := Option.bind_eq_some_iff.mp H
    obtain ⟨t200, A150, H⟩ := H
    replace H : (if t197 = (wrap64 (t198 - t200)) then ((mask_All.f a2).bind fun t201 => ((mask_Count.f t201).bind fun t202 => (if t202 = (mn (mx a2 0) 16) then ((frustumlaw08_example.f).bind fun t203 => (some t203)) else (some false)))) else (some false)) = some r := H
    have A15 := Aside0.mk A150
    clear A150
    by_cases c16 : t197 = (wrap64 (t198 - t200))
    · rw [if_pos c16] at H
      have c16b0 : (t197 == (wrap64 (t198 - t200))) = true := beq_iff_eq.mpr c16
      have c16b1 : (t197 != (wrap64 (t198 - t200))) = false := bne_eq_false_iff_eq.mpr c16
      clear c16
      replace H := Option.bind_eq_some_iff.mp H
      obtain ⟨t201, A170, H⟩ := H
      replace H : ((mask_Count.f t201).bind fun t202 => (if t202 = (mn (mx a2 0) 16) then ((frustumlaw08_example.f).bind fun t203 => (some t203)) else (some false))) = some r := H
      have A17 := Aside0.mk A170
      clear A170
      replace H := Option.bind_eq_some_iff.mp H
      obtain ⟨t202, A180, H⟩ := H
      replace H : (if t202 = (mn (mx a2 0) 16) then ((frustumlaw08_example.f).bind fun t203 => (some t203)) else (some false)) = some r := H
      have A18 := Aside0.mk A180
      clear A180
      obtain ⟨ji19, hji19⟩ : ∃ j_ : Int, (mx a2 0) = j_ := ⟨_, rfl⟩
      replace H : (if t202 = (mn (ji19) 16) then ((frustumlaw08_example.f).bind fun t203 => (some t203)) else (some false)) = some r := by first | (rw [hji19] at H; exact H) | (simp only [hji19] at H ⊢; exact H)
      (try rw [hji19] at A4)
      (try rw [hji19] at A5)
      (try rw [hji19] at A6)
      (try rw [hji19] at A7)
      (try rw [hji19] at A8)
      (try rw [hji19] at A9)
      (try rw [hji19] at A11)
      (try rw [hji19] at A12)
      (try rw [hji19] at A13)
      (try rw [hji19] at A14)
      (try rw [hji19] at A15)
      (try rw [hji19] at A17)
      (try rw [hji19] at A18)
      (try (have hji19l : 0 ≤ ji19 := by (rw [← hji19]; unfold mx; (repeat' split) <;> omega)))
      (try (have hji19m : 0 ≤ ji19 := by omega))
      have hji19_ : (if a2 < 0 then 0 else a2) = ji19 := hji19
      obtain ⟨ji20, hji20⟩ : ∃ j_ : Int, (mn (ji19) 16) = j_ := ⟨_, rfl⟩
      replace H : (if t202 = (ji20) then ((frustumlaw08_example.f).bind fun t203 => (some t203)) else (some false)) = some r := by first | (rw [hji20] at H; exact H) | (simp only [hji20] at H ⊢; exact H)
      (try rw [hji20] at A4)
      (try rw [hji20] at A5)
      (try rw [hji20] at A6)
      (try rw [hji20] at A7)
      (try rw [hji20] at A8)
      (try rw [hji20] at A9)
      (try rw [hji20] at A11)
      (try rw [hji20] at A12)
      (try rw [hji20] at A13)
      (try rw [hji20] at A14)
      (try rw [hji20] at A15)
      (try rw [hji20] at A17)
      (try rw [hji20] at A18)
      have hji20_ : (if 16 < (ji19) then 16 else (ji19)) = ji20 := hji20
      by_cases c21 : t202 = (ji20)
      · rw [if_pos c21] at H
        have c21b0 : (t202 == (ji20)) = true := beq_iff_eq.mpr c21
        have c21b1 : (t202 != (ji20)) = false := bne_eq_false_iff_eq.mpr c21
        clear c21
        replace H := Option.bind_eq_some_iff.mp H
        obtain ⟨t203, A220, H⟩ := H
        replace H : (some t203) = some r := H
        have A22 := Aside0.mk A220
        clear A220
        obtain rfl := Option.some.inj H
        go_enter Try.func11, Try.ntmps11
        go_wp2_with (first | ((with_reducible refine gate_callee (f := 33) rfl ?_); refine goesL_ (some 9) rfl rfl Try.func33 (by kernel_rfl) rfl #[.int .u16 a0, .int .u16 a1] rfl (by (try simp only [List.map_toArray, List.map_cons, List.map_nil]); first | done | rfl | (simp only [List.length_drop, List.length_take]; rfl)) ?_; (with_reducible refine (mask_Or.calls a0 a1 t190 _ A4.out).mono ?_); rintro e w' ⟨rfl, ⟨nd, rfl⟩⟩; refine ⟨_, rfl, ?_⟩) | ((with_reducible refine gate_callee (f := 37) rfl ?_); refine goesL_ (some 10) rfl rfl Try.func37 (by kernel_rfl) rfl #[.int .u16 t190] rfl (by (try simp only [List.map_toArray, List.map_cons, List.map_nil]); first | done | rfl | (simp only [List.length_drop, List.length_take]; rfl)) ?_; (with_reducible refine (mask_Count.calls t190 t191 _ A5.out).mono ?_); rintro e w' ⟨rfl, ⟨nd, rfl⟩⟩; refine ⟨_, rfl, ?_⟩) | ((with_reducible refine gate_callee (f := 31) rfl ?_); refine goesL_ (some 13) rfl rfl Try.func31 (by kernel_rfl) rfl #[.int .u16 a0, .int .u16 a1] rfl (by (try simp only [List.map_toArray, List.map_cons, List.map_nil]); first | done | rfl | (simp only [List.length_drop, List.length_take]; rfl)) ?_; (with_reducible refine (mask_And.calls a0 a1 t192 _ A6.out).mono ?_); rintro e w' ⟨rfl, ⟨nd, rfl⟩⟩; refine ⟨_, rfl, ?_⟩) | ((with_reducible refine gate_callee (f := 37) rfl ?_); refine goesL_ (some 14) rfl rfl Try.func37 (by kernel_rfl) rfl #[.int .u16 t192] rfl (by (try simp only [List.map_toArray, List.map_cons, List.map_nil]); first | done | rfl | (simp only [List.length_drop, List.length_take]; rfl)) ?_; (with_reducible refine (mask_Count.calls t192 t193 _ A7.out).mono ?_); rintro e w' ⟨rfl, ⟨nd, rfl⟩⟩; refine ⟨_, rfl, ?_⟩) | ((with_reducible refine gate_callee (f := 37) rfl ?_); refine goesL_ (some 17) rfl rfl Try.func37 (by kernel_rfl) rfl #[.int .u16 a0] rfl (by (try simp only [List.map_toArray, List.map_cons, List.map_nil]); first | done | rfl | (simp only [List.length_drop, List.length_take]; rfl)) ?_; (with_reducible refine (mask_Count.calls a0 t194 _ A8.out).mono ?_); rintro e w' ⟨rfl, ⟨nd, rfl⟩⟩; refine ⟨_, rfl, ?_⟩) | ((with_reducible refine gate_callee (f := 37) rfl ?_); refine goesL_ (some 19) rfl rfl Try.func37 (by kernel_rfl) rfl #[.int .u16 a1] rfl (by (try simp only [List.map_toArray, List.map_cons, List.map_nil]); first | done | rfl | (simp only [List.length_drop, List.length_take]; rfl)) ?_; (with_reducible refine (mask_Count.calls a1 t195 _ A9.out).mono ?_); rintro e w' ⟨rfl, ⟨nd, rfl⟩⟩; refine ⟨_, rfl, ?_⟩) | (go_at_call 35; (with_reducible refine (mask_AndNot.calls a0 a1 t196 _ A11.out).mono ?_); rintro e w' ⟨rfl, ⟨nd, rfl⟩⟩) | (go_at_call 37; (with_reducible refine (mask_Count.calls t196 t197 _ A12.out).mono ?_); rintro e w' ⟨rfl, ⟨nd, rfl⟩⟩) | (go_at_call 37; (with_reducible refine (mask_Count.calls a0 t198 _ A13.out).mono ?_); rintro e w' ⟨rfl, ⟨nd, rfl⟩⟩) | (go_at_call 31; (with_reducible refine (mask_And.calls a0 a1 t199 _ A14.out).mono ?_); rintro e w' ⟨rfl, ⟨nd, rfl⟩⟩) | (go_at_call 37; (with_reducible refine (mask_Count.calls t199 t200 _ A15.out).mono ?_); rintro e w' ⟨rfl, ⟨nd, rfl⟩⟩) | (go_at_call 24; (with_reducible refine (mask_All.calls a2 t201 _ A17.out).mono ?_); rintro e w23 ⟨rfl, hb⟩; have n0_ := Aside0.mk (below_step (by repeat (first | (with_reducible first | exact HB.out | apply below_alloc | apply pw_below_drewN | apply below_drew1) | exact HB.out)) hb); clear HB; have HB := n0_; clear n0_; (try clear hb); (try clear hb2); (try clear hk); (try clear hi)) | (go_at_call 37; (with_reducible refine (mask_Count.calls t201 t202 _ A18.out).mono ?_); rintro e w' ⟨rfl, ⟨nd, rfl⟩⟩) | (go_at_call 22; (with_reducible refine (frustumlaw08_example.calls  t203 _ A22.out).mono ?_); rintro e w24 ⟨rfl, hb⟩; have n0_ := Aside0.mk (below_step (by repeat (first | (with_reducible first | exact HB.out | apply below_alloc | apply pw_below_drewN | apply below_drew1) | exact HB.out)) hb); clear HB; have HB := n0_; clear n0_; (try clear hb); (try clear hb2); (try clear hk); (try clear hi)))
        go_ret
        exact ⟨by first | rfl | (simp [errW_none, errW_some] <;> rfl) | (simp only [← hji19, ← hji20]; first | rfl | (simp [errW_none, errW_some] <;> rfl)) | (simp [*, errW_none, errW_some] <;> rfl), by repeat (first | (with_reducible first | exact HB.out | apply below_alloc | apply pw_below_drewN | apply below_drew1) | exact HB.out)⟩
      · rw [if_neg c21] at H
        have c21b0 : (t202 == (ji20)) = false := beq_eq_false_iff_ne.mpr c21
        have c21b1 : (t202 != (ji20)) = true := bne_iff_ne.mpr c21
        obtain rfl := Option.some.inj H
        go_enter Try.func11, Try.ntmps11
        go_wp2_with (first | ((with_reducible refine gate_callee (f := 33) rfl ?_); refine goesL_ (some 9) rfl rfl Try.func33 (by kernel_rfl) rfl #[.int .u16 a0, .int .u16 a1] rfl (by (try simp only [List.map_toArray, List.map_cons, List.map_nil]); first | done | rfl | (simp only [List.length_drop, List.length_take]; rfl)) ?_; (with_reducible refine (mask_Or.calls a0 a1 t190 _ A4.out).mono ?_); rintro e w' ⟨rfl, ⟨nd, rfl⟩⟩; refine ⟨_, rfl, ?_⟩) | ((with_reducible refine gate_callee (f := 37) rfl ?_); refine goesL_ (some 10) rfl rfl Try.func37 (by kernel_rfl) rfl #[.int .u16 t190] rfl (by (try simp only [List.map_toArray, List.map_cons, List.map_nil]); first | done | rfl | (simp only [List.length_drop, List.length_take]; rfl)) ?_; (with_reducible refine (mask_Count.calls t190 t191 _ A5.out).mono ?_); rintro e w' ⟨rfl, ⟨nd, rfl⟩⟩; refine ⟨_, rfl, ?_⟩) | ((with_reducible refine gate_callee (f := 31) rfl ?_); refine goesL_ (some 13) rfl rfl Try.func31 (by kernel_rfl) rfl #[.int .u16 a0, .int .u16 a1] rfl (by (try simp only [List.map_toArray, List.map_cons, List.map_nil]); first | done | rfl | (simp only [List.length_drop, List.length_take]; rfl)) ?_; (with_reducible refine (mask_And.calls a0 a1 t192 _ A6.out).mono ?_); rintro e w' ⟨rfl, ⟨nd, rfl⟩⟩; refine ⟨_, rfl, ?_⟩) | ((with_reducible refine gate_callee (f := 37) rfl ?_); refine goesL_ (some 14) rfl rfl Try.func37 (by kernel_rfl) rfl #[.int .u16 t192] rfl (by (try simp only [List.map_toArray, List.map_cons, List.map_nil]); first | done | rfl | (simp only [List.length_drop, List.length_take]; rfl)) ?_; (with_reducible refine (mask_Count.calls t192 t193 _ A7.out).mono ?_); rintro e w' ⟨rfl, ⟨nd, rfl⟩⟩; refine ⟨_, rfl, ?_⟩) | ((with_reducible refine gate_callee (f := 37) rfl ?_); refine goesL_ (some 17) rfl rfl Try.func37 (by kernel_rfl) rfl #[.int .u16 a0] rfl (by (try simp only [List.map_toArray, List.map_cons, List.map_nil]); first | done | rfl | (simp only [List.length_drop, List.length_take]; rfl)) ?_; (with_reducible refine (mask_Count.calls a0 t194 _ A8.out).mono ?_); rintro e w' ⟨rfl, ⟨nd, rfl⟩⟩; refine ⟨_, rfl, ?_⟩) | ((with_reducible refine gate_callee (f := 37) rfl ?_); refine goesL_ (some 19) rfl rfl Try.func37 (by kernel_rfl) rfl #[.int .u16 a1] rfl (by (try simp only [List.map_toArray, List.map_cons, List.map_nil]); first | done | rfl | (simp only [List.length_drop, List.length_take]; rfl)) ?_; (with_reducible refine (mask_Count.calls a1 t195 _ A9.out).mono ?_); rintro e w' ⟨rfl, ⟨nd, rfl⟩⟩; refine ⟨_, rfl, ?_⟩) | (go_at_call 35; (with_reducible refine (mask_AndNot.calls a0 a1 t196 _ A11.out).mono ?_); rintro e w' ⟨rfl, ⟨nd, rfl⟩⟩) | (go_at_call 37; (with_reducible refine (mask_Count.calls t196 t197 _ A12.out).mono ?_); rintro e w' ⟨rfl, ⟨nd, rfl⟩⟩) | (go_at_call 37; (with_reducible refine (mask_Count.calls a0 t198 _ A13.out).mono ?_); rintro e w' ⟨rfl, ⟨nd, rfl⟩⟩) | (go_at_call 31; (with_reducible refine (mask_And.calls a0 a1 t199 _ A14.out).mono ?_); rintro e w' ⟨rfl, ⟨nd, rfl⟩⟩) | (go_at_call 37; (with_reducible refine (mask_Count.calls t199 t200 _ A15.out).mono ?_); rintro e w' ⟨rfl, ⟨nd, rfl⟩⟩) | (go_at_call 24; (with_reducible refine (mask_All.calls a2 t201 _ A17.out).mono ?_); rintro e w25 ⟨rfl, hb⟩; have n0_ := Aside0.mk (below_step (by repeat (first | (with_reducible first | exact HB.out | apply below_alloc | apply pw_below_drewN | apply below_drew1) | exact HB.out)) hb); clear HB; have HB := n0_; clear n0_; (try clear hb); (try clear hb2); (try clear hk); (try clear hi)) | (go_at_call 37; (with_reducible refine (mask_Count.calls t201 t202 _ A18.out).mono ?_); rintro e w' ⟨rfl, ⟨nd, rfl⟩⟩))
        go_ret
        exact ⟨by first | rfl | (simp [errW_none, errW_some] <;> rfl) | (simp only [← hji19, ← hji20]; first | rfl | (simp [errW_none, errW_some] <;> rfl)) | (simp [*, errW_none, errW_some] <;> rfl), by repeat (first | (with_reducible first | exact HB.out | apply below_alloc | apply pw_below_drewN | apply below_drew1) | exact HB.out)⟩
    · rw [if_neg c16] at H
      have c16b0 : (t197 == (wrap64 (t198 - t200))) = false := beq_eq_false_iff_ne.mpr c16
      have c16b1 : (t197 != (wrap64 (t198 - t200))) = true := bne_iff_ne.mpr c16
      obtain rfl := Option.some.inj H
      go_enter Try.func11, Try.ntmps11
      go_wp2_with (first | ((with_reducible refine gate_callee (f := 33) rfl ?_); refine goesL_ (some 9) rfl rfl Try.func33 (by kernel_rfl) rfl #[.int .u16 a0, .int .u16 a1] rfl (by (try simp only [List.map_toArray, List.map_cons, List.map_nil]); first | done | rfl | (simp only [List.length_drop, List.length_take]; rfl)) ?_; (with_reducible refine (mask_Or.calls a0 a1 t190 _ A4.out).mono ?_); rintro e w' ⟨rfl, ⟨nd, rfl⟩⟩; refine ⟨_, rfl, ?_⟩) | ((with_reducible refine gate_callee (f := 37) rfl ?_); refine goesL_ (some 10) rfl rfl Try.func37 (by kernel_rfl) rfl #[.int .u16 t190] rfl (by (try simp only [List.map_toArray, List.map_cons, List.map_nil]); first | done | rfl | (simp only [List.length_drop, List.length_take]; rfl)) ?_; (with_reducible refine (mask_Count.calls t190 t191 _ A5.out).mono ?_); rintro e w' ⟨rfl, ⟨nd, rfl⟩⟩; refine ⟨_, rfl, ?_⟩) | ((with_reducible refine gate_callee (f := 31) rfl ?_); refine goesL_ (some 13) rfl rfl Try.func31 (by kernel_rfl) rfl #[.int .u16 a0, .int .u16 a1] rfl (by (try simp only [List.map_toArray, List.map_cons, List.map_nil]); first | done | rfl | (simp only [List.length_drop, List.length_take]; rfl)) ?_; (with_reducible refine (mask_And.calls a0 a1 t192 _ A6.out).mono ?_); rintro e w' ⟨rfl, ⟨nd, rfl⟩⟩; refine ⟨_, rfl, ?_⟩) | ((with_reducible refine gate_callee (f := 37) rfl ?_); refine goesL_ (some 14) rfl rfl Try.func37 (by kernel_rfl) rfl #[.int .u16 t192] rfl (by (try simp only [List.map_toArray, List.map_cons, List.map_nil]); first | done | rfl | (simp only [List.length_drop, List.length_take]; rfl)) ?_; (with_reducible refine (mask_Count.calls t192 t193 _ A7.out).mono ?_); rintro e w' ⟨rfl, ⟨nd, rfl⟩⟩; refine ⟨_, rfl, ?_⟩) | ((with_reducible refine gate_callee (f := 37) rfl ?_); refine goesL_ (some 17) rfl rfl Try.func37 (by kernel_rfl) rfl #[.int .u16 a0] rfl (by (try simp only [List.map_toArray, List.map_cons, List.map_nil]); first | done | rfl | (simp only [List.length_drop, List.length_take]; rfl)) ?_; (with_reducible refine (mask_Count.calls a0 t194 _ A8.out).mono ?_); rintro e w' ⟨rfl, ⟨nd, rfl⟩⟩; refine ⟨_, rfl, ?_⟩) | ((with_reducible refine gate_callee (f := 37) rfl ?_); refine goesL_ (some 19) rfl rfl Try.func37 (by kernel_rfl) rfl #[.int .u16 a1] rfl (by (try simp only [List.map_toArray, List.map_cons, List.map_nil]); first | done | rfl | (simp only [List.length_drop, List.length_take]; rfl)) ?_; (with_reducible refine (mask_Count.calls a1 t195 _ A9.out).mono ?_); rintro e w' ⟨rfl, ⟨nd, rfl⟩⟩; refine ⟨_, rfl, ?_⟩) | (go_at_call 35; (with_reducible refine (mask_AndNot.calls a0 a1 t196 _ A11.out).mono ?_); rintro e w' ⟨rfl, ⟨nd, rfl⟩⟩) | (go_at_call 37; (with_reducible refine (mask_Count.calls t196 t197 _ A12.out).mono ?_); rintro e w' ⟨rfl, ⟨nd, rfl⟩⟩) | (go_at_call 37; (with_reducible refine (mask_Count.calls a0 t198 _ A13.out).mono ?_); rintro e w' ⟨rfl, ⟨nd, rfl⟩⟩) | (go_at_call 31; (with_reducible refine (mask_And.calls a0 a1 t199 _ A14.out).mono ?_); rintro e w' ⟨rfl, ⟨nd, rfl⟩⟩) | (go_at_call 37; (with_reducible refine (mask_Count.calls t199 t200 _ A15.out).mono ?_); rintro e w' ⟨rfl, ⟨nd, rfl⟩⟩))
      go_ret
      exact ⟨by first | rfl | (simp [errW_none, errW_some] <;> rfl) | (simp [*, errW_none, errW_some] <;> rfl), by repeat (first | (with_reducible first | exact HB.out | apply below_alloc | apply pw_below_drewN | apply below_drew1) | exact HB.out)⟩
  · rw [if_neg c10] at H
    have c10b0 : ((wrap64 (t191 + t193)) == (wrap64 (t194 + t195))) = false := beq_eq_false_iff_ne.mpr c10
    have c10b1 : ((wrap64 (t191 + t193)) != (wrap64 (t194 + t195))) = true := bne_iff_ne.mpr c10
    obtain rfl := Option.some.inj H
    go_enter Try.func11, Try.ntmps11
    go_wp2_with (first | ((with_reducible refine gate_callee (f := 33) rfl ?_); refine goesL_ (some 9) rfl rfl Try.func33 (by kernel_rfl) rfl #[.int .u16 a0, .int .u16 a1] rfl (by (try simp only [List.map_toArray, List.map_cons, List.map_nil]); first | done | rfl | (simp only [List.length_drop, List.length_take]; rfl)) ?_; (with_reducible refine (mask_Or.calls a0 a1 t190 _ A4.out).mono ?_); rintro e w' ⟨rfl, ⟨nd, rfl⟩⟩; refine ⟨_, rfl, ?_⟩) | ((with_reducible refine gate_callee (f := 37) rfl ?_); refine goesL_ (some 10) rfl rfl Try.func37 (by kernel_rfl) rfl #[.int .u16 t190] rfl (by (try simp only [List.map_toArray, List.map_cons, List.map_nil]); first | done | rfl | (simp only [List.length_drop, List.length_take]; rfl)) ?_; (with_reducible refine (mask_Count.calls t190 t191 _ A5.out).mono ?_); rintro e w' ⟨rfl, ⟨nd, rfl⟩⟩; refine ⟨_, rfl, ?_⟩) | ((with_reducible refine gate_callee (f := 31) rfl ?_); refine goesL_ (some 13) rfl rfl Try.func31 (by kernel_rfl) rfl #[.int .u16 a0, .int .u16 a1] rfl (by (try simp only [List.map_toArray, List.map_cons, List.map_nil]); first | done | rfl | (simp only [List.length_drop, List.length_take]; rfl)) ?_; (with_reducible refine (mask_And.calls a0 a1 t192 _ A6.out).mono ?_); rintro e w' ⟨rfl, ⟨nd, rfl⟩⟩; refine ⟨_, rfl, ?_⟩) | ((with_reducible refine gate_callee (f := 37) rfl ?_); refine goesL_ (some 14) rfl rfl Try.func37 (by kernel_rfl) rfl #[.int .u16 t192] rfl (by (try simp only [List.map_toArray, List.map_cons, List.map_nil]); first | done | rfl | (simp only [List.length_drop, List.length_take]; rfl)) ?_; (with_reducible refine (mask_Count.calls t192 t193 _ A7.out).mono ?_); rintro e w' ⟨rfl, ⟨nd, rfl⟩⟩; refine ⟨_, rfl, ?_⟩) | ((with_reducible refine gate_callee (f := 37) rfl ?_); refine goesL_ (some 17) rfl rfl Try.func37 (by kernel_rfl) rfl #[.int .u16 a0] rfl (by (try simp only [List.map_toArray, List.map_cons, List.map_nil]); first | done | rfl | (simp only [List.length_drop, List.length_take]; rfl)) ?_; (with_reducible refine (mask_Count.calls a0 t194 _ A8.out).mono ?_); rintro e w' ⟨rfl, ⟨nd, rfl⟩⟩; refine ⟨_, rfl, ?_⟩) | ((with_reducible refine gate_callee (f := 37) rfl ?_); refine goesL_ (some 19) rfl rfl Try.func37 (by kernel_rfl) rfl #[.int .u16 a1] rfl (by (try simp only [List.map_toArray, List.map_cons, List.map_nil]); first | done | rfl | (simp only [List.length_drop, List.length_take]; rfl)) ?_; (with_reducible refine (mask_Count.calls a1 t195 _ A9.out).mono ?_); rintro e w' ⟨rfl, ⟨nd, rfl⟩⟩; refine ⟨_, rfl, ?_⟩))
    go_ret
    exact ⟨by first | rfl | (simp [errW_none, errW_some] <;> rfl) | (simp [*, errW_none, errW_some] <;> rfl), by repeat (first | (with_reducible first | exact HB.out | apply below_alloc | apply pw_below_drewN | apply below_drew1) | exact HB.out)⟩

/-- THE ONE PURE STATEMENT of frustumlaw08_MaskCounts: yours. -/
def frustumlaw08_MaskCounts.Pure : Prop := ∀ (a0 : Int) (a1 : Int) (a2 : Int), (Lit.int .u16 a0).wf = true → (Lit.int .u16 a1).wf = true → (Lit.int .i64 a2).wf = true → frustumlaw08_MaskCounts.f a0 a1 a2 = some true
theorem frustumlaw08_MaskCounts.walk (P : frustumlaw08_MaskCounts.Pure) (a0 : Int) (a1 : Int) (a2 : Int) (w : World) (w0 : (Lit.int .u16 a0).wf = true) (w1 : (Lit.int .u16 a1).wf = true) (w2 : (Lit.int .i64 a2).wf = true) :
    Calls Try.prog 11 #[.int .u16 a0, .int .u16 a1, .int .i64 a2] w fun e w' => e = .returned (.bool true) ∧ Below w.heap.size w w' := by
  have h := P a0 a1 a2 w0 w1 w2
  refine (frustumlaw08_MaskCounts.calls a0 a1 a2 true w h).mono ?_
  rintro e w' ⟨rfl, hd⟩
  exact ⟨rfl, hd⟩

end Go.Proofs.Ytblfokhcfpajpaa.PM
