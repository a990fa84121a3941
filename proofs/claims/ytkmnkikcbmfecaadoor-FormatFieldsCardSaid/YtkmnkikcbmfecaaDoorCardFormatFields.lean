/- Proved: the law FormatFields of the given program: it returns true for every input, the package-level variables that it reads being as the program's text lays them (the card ties them). -/
import Derived.Test.YtkmnkikcbmfecaaDoorRows
import Derived.Test.YtkmnkikcbmfecaaDoorTie
import Derived.Test.YtkmnkikcbmfecaaDoorCards
import Derived.Test.YtkmnkikcbmfecaaDoorGl
import Derived.Shelf.Vars
import Derived.Stop.LaidErr
import Derived.Deep.DeepHandedRow
import Derived.LaidMore
import Derived.Stop.Joined
import Derived.SevenTiedAt
import Derived.Lib.LaidTab
import Derived.Lay
import Derived.Test.YtkmnkikcbmfecaaDoorPFx
import Derived.Test.YtkmnkikcbmfecaaDoorPureFormatFields
import Derived.Test.YtkmnkikcbmfecaaDoorOpens
import Derived.WalkKit
import Derived.ProofKit
import Derived.OpenShut
import Derived.ShutString
import Derived.ChangeOld
import Derived.Below
import Derived.SizedLaws
namespace Go.Proofs.YtkmnkikcbmfecaaDoor.formatFields
open Go.ChangeShapes Go.WideShapes Go.ChangeAt Go.RowKit
open Go.ChangeMaps (open_string shut_string)
open Go.Proofs.YtkmnkikcbmfecaaDoorW.PrintWords (Kd)
set_option linter.unusedVariables false
theorem own : ownKnob Tryd.prog.godebug = none := by kernel_rfl
theorem laidOut : laidOutB Tryd.prog = true := by kernel_rfl
theorem of_laid {W : World} (h : laidMetH Tryd.prog Rows.formatFieldsRow.laid W) (hs : W.ShapedOpen Tryd.prog) : Gl W := by
  rw [MakeChecks.laidMetH_plain _ _ _ (by kernel_rfl)] at h
  refine ⟨Go.Proofs.cell_of_shapedOpen_int (zero := #[.int .i64 0]) (t := 3) hs (of_decide_eq_true (by kernel_rfl)) (by kernel_rfl) rfl (by kernel_rfl) (by kernel_rfl) Tryd.underlying3, ?_⟩
  have h := h.tail.tail
  exact Lib.tabIs_of_head gPow (by kernel_rfl) Tryd.underlying97 Tryd.underlying31 (by kernel_rfl) (by kernel_rfl) h
/-- A world that meets the condition. -/
theorem door_met (os : Os) (args : Array Value) : laidMetH Tryd.prog Rows.formatFieldsRow.laid ((World.laidAll Tryd.prog os Rows.formatFieldsRow.laid).forCall (fun _ _ => 0) ⟨#[], args, []⟩).memory := by
  rw [MakeChecks.laidMetH_plain _ _ _ (by kernel_rfl)]; exact laidMet_laidAll _ (by kernel_rfl) (by kernel_rfl)
set_option maxRecDepth 100000 in
theorem lifted (os : Os) (started : os.Started) (H : Type) (enc : TypeId × Value → H) :
    ReturnsInHanded {} Tryd.checked os 8 .any (fun w args => (Rows.formatFieldsSpec.pre enc Tryd.prog Tryd.f8 [] false w args ∧ laidMetH Tryd.prog Rows.formatFieldsRow.laid w) ∧ sizedMet enc Tryd.prog Tryd.f8 (OpenSpec.ofChange Rows.formatFieldsSpec) false w args) (Rows.formatFieldsSpec.post enc Tryd.prog Tryd.f8 false true false false) := by
  refine (returnsInHanded_of_row (enc := enc) (C := Tryd.checked) (s := OpenSpec.ofChange Rows.formatFieldsSpec) (F := fun _ _ _ => 0) (conds := []) (apart := false) (laid := Rows.formatFieldsRow.laid) own started (by kernel_rfl) Tryd.func8
    (ChangeSpec.witness_shaped (enc := enc) (C := Tryd.checked) (os := os) (X := fun w _ => laidMetH Tryd.prog Rows.formatFieldsRow.laid w) false (World.laidAll Tryd.prog os Rows.formatFieldsRow.laid) #[.string ByteArray.empty, .slice none 0 0] 8 (World.laidAll_os _ _ _) (World.shaped_of_ZipB (by kernel_rfl) (by kernel_rfl)) (by kernel_rfl) (by kernel_rfl) (by kernel_rfl) (door_met os _)) ?_ :)
  intro W base args ds gs before hval0 hW hcnd _ hsz0 hL hS _
  have hG : Gl W := of_laid hL hS
  have hsz : (DataW.weightsEach Tryd.prog (Tryd.f8.params.toList ++ Rows.formatFieldsSpec.plain.varTypes Tryd.prog) (ds ++ gs)).all (· ≤ reachBytes) = true := hsz0
  have hval : ∀ (j : Nat) t v, Tryd.f8.params[j]? = some t → args[j]? = some v → Value.okWide Tryd.prog W .any base t v := hval0
  have hW' := hW
  obtain ⟨p, q, hA0, hV, rfl, hfz, hnd⟩ := hW
  have hA : DataW.TrodAll enc Tryd.prog W 0 (fun _ => true) true Tryd.f8.params.toList args.toList ds p := hA0
  rw [Tryd.params8] at hA hval hsz
  obtain ⟨v0, vs0, d0, ds0, p0, q0, hargs, rfl, rfl, h0, r0⟩ := trodAll_cons hA
  obtain ⟨v1, vs1, d1, ds1, p1, q1, rfl, rfl, rfl, h1, r1⟩ := trodAll_cons r0
  obtain ⟨rfl, rfl, rfl⟩ := trodAll_nil r1
  obtain rfl : args = #[v0, v1] := by cases args; simp_all
  obtain ⟨rfl, rfl⟩ := trodVars_none hV
  obtain ⟨a0, rfl, rfl, rfl, y0⟩ := open_string Tryd.underlying9 (hval 0 9 v0 rfl rfl) h0
  have w0 : a0.size ≤ 140737488351232 := by
    have z := sized_string hsz (j := 0) (t := 9) rfl rfl
    rw [Array.length_toList] at z
    exact z
  obtain ⟨b1, len1, cap1, rfl⟩ := okWide_slice Tryd.underlying35 (hval 1 35 v1 rfl rfl)
  have k1 := h1
  have lt1 : ∀ x ∈ p1, x.block < W.heap.size := by obtain ⟨m, hm⟩ := k1; exact DataW.trod_lt m _ _ _ hm
  obtain ⟨x1, z1, s1⟩ : ∃ x, (Kd.slice 9 Kd.string).K W x [.slice b1 len1 cap1] ∧ (x.length * 16 ≤ 140737488351232 ∧ ∀ y ∈ x, y.size ≤ 140737488351232) := by
    obtain ⟨fuel, hf⟩ := h1
    exact opens_slice Tryd.underlying35 (opens_string Tryd.underlying9) (by kernel_rfl) (by kernel_rfl) enc W fuel _ _ hf (weights_at hsz (j := 1) rfl rfl)
  obtain ⟨A1, c1, e1, hc1, hr1⟩ := z1
  obtain ⟨rfl, rfl, rfl⟩ : A1 = b1 ∧ x1.length = len1 ∧ c1 = cap1 := by
    have e := List.cons.inj e1
    have e := e.1
    injection e with e1 e2 e3
    exact ⟨e1.symm, e2.symm, e3.symm⟩
  clear hA0 hval0 hsz0 hsz
  obtain ⟨k, hk⟩ := Pure.FormatFields a0 x1 s1.2
  refine (PF.frustumlaw06_FormatFields.calls k a0 A1 c1 x1 true W hG hr1 hc1 hk).mono fun e W' ⟨he, bel⟩ => ?_
  subst he
  exact ⟨_, rfl, _, _, _, [], _, [], hW', trodAll_mk1 (shut_bool Tryd.underlying4 _), (trodAll_cons_mk (shut_string Tryd.underlying9 y0) (trodAll_cons_mk (Below.trod laidOut (by kernel_rfl) (of_decide_eq_true (by kernel_rfl)) k1 bel lt1) trodAll_mk0)), rfl, bel.frame _, fun h => by cases h⟩
theorem over : Rows.formatFieldsRow.holds Tryd.pinned (OpenSpec.ofChange Rows.formatFieldsSpec) :=
  OpenClaim.holds_of_wide 8 Tryd.f8 rfl rfl rfl rfl rfl rfl rfl ⟨rfl, rfl, rfl, rfl, rfl⟩ rfl rfl rfl rfl rfl (by kernel_rfl) Tryd.func8 (by kernel_rfl)
    (of_decide_eq_true (by kernel_rfl)) (by unfold Func.isWrapper; first | (rw [if_pos (by decide +kernel)]; kernel_rfl) | (rw [if_neg (by decide +kernel)]; exact ⟨rfl, rfl⟩))
    (fun os started H enc _ => lifted os started H enc)
theorem card : Rows.FormatFieldsCardSaid :=
  Claim7.holds_tied_plain_at .later [] [.data, .data, .data, .data, .pinned] true (true, "29dfd0e6fc8bd8d941691299c3f977f0918f0a04d8a620c245d635d0f9eae84f") false
    over (fun _ h => by cases h) (by kernel_rfl) (fun _ h => by cases h) formatFields_row_tie rfl ⟨rfl, rfl⟩ (by kernel_rfl) rfl
    (fun f fn hf hfn => by
      obtain rfl : f = 8 := Option.some.inj ((show Tryd.prog.funcNamed (Tryd.f8).name = some 8 by kernel_rfl).symm.trans hf) |>.symm
      obtain rfl : fn = Tryd.f8 := (Option.some.inj (Tryd.func8.symm.trans hfn)).symm
      exact ⟨by kernel_rfl, fun j t ht => by
        rw [Tryd.params8] at ht
        have hm : t ∈ [9, 35] := by simpa using Array.mem_of_getElem? ht
        have hall : ([9, 35].all fun u => !Tryd.prog.wantsStandIn u) = true := by kernel_rfl
        exact (show Tryd.prog.wantsStandIn t = false by simpa using List.all_eq_true.1 hall t hm)⟩)
    (by kernel_rfl)
#print axioms card
end Go.Proofs.YtkmnkikcbmfecaaDoor.formatFields
namespace Go.Proofs.YtkmnkikcbmfecaaDoor
/-- The tied card, under a short name, for the claim. -/
theorem formatFields_holds : Rows.FormatFieldsCardSaid := formatFields.card
end Go.Proofs.YtkmnkikcbmfecaaDoor
