/- The laws CommandChecks and CommandValidates: what their texts come to, and that it is true. -/
import Derived.Test.YtcompmidgfkloaaDoorCm14
namespace Go.Proofs.YtcompmidgfkloaaDoor.Cm
open Go Go.RowKit Go.Proofs.YtcompmidgfkloaaDoor.Eng
set_option linter.unusedVariables false
set_option linter.unusedSimpArgs false
set_option maxHeartbeats 4000000 in
set_option maxRecDepth 100000 in
theorem f3 (O : Nat → Prop) (w0 : World) (x : S33) (A : Option Addr) (c : Nat) (K : SX → Prop) (h_ : Gl0 O w0 ∧ ∃ c_1, CmdX O w0 (SX.v (SV.agg [SC.val (Value.int IntKind.i64 (S33.f0 x)), SC.val (Value.int IntKind.i64 (S33.f1 x)), SC.val (Value.int IntKind.i64 (S33.f2 x)), SC.val (Value.int IntKind.i64 (S33.f3 x)), SC.val (Value.int IntKind.i64 (S33.f4 x)), SC.val (Value.int IntKind.i64 (S33.f5 x)), SC.val (Value.int IntKind.i64 (S33.f6 x)), SC.val (Value.int IntKind.i64 (S33.f7 x)), SC.val (Value.int IntKind.i64 (S30.f0 (S33.f8 x))), SC.val (Value.int IntKind.i64 (S30.f1 (S33.f8 x))), SC.val (Value.int IntKind.i64 (S30.f2 (S33.f8 x))), SC.val (Value.int IntKind.i64 (S30.f3 (S33.f8 x))), SC.val (Value.int IntKind.i64 (S30.f4 (S33.f8 x))), SC.val (Value.int IntKind.i64 (S28.f0 (S30.f5 (S33.f8 x)))), SC.val (Value.int IntKind.i64 (S28.f1 (S30.f5 (S33.f8 x)))), SC.val (Value.int IntKind.i64 (S28.f2 (S30.f5 (S33.f8 x)))), SC.val (Value.int IntKind.i64 (S28.f3 (S30.f5 (S33.f8 x)))), SC.val (Value.int IntKind.i64 (S30.f6 (S33.f8 x))), SC.val (Value.int IntKind.i64 (S30.f7 (S33.f8 x))), SC.val (Value.int IntKind.i64 (S30.f8 (S33.f8 x))), SC.rsl A (1 : Nat) (ints (S33.f9 x)) (0 : Nat) (List.length (S33.f9 x)) c, SC.val (Value.int IntKind.i64 (S28.f0 (S33.f10 x))), SC.val (Value.int IntKind.i64 (S28.f1 (S33.f10 x))), SC.val (Value.int IntKind.i64 (S28.f2 (S33.f10 x))), SC.val (Value.int IntKind.i64 (S28.f3 (S33.f10 x))), SC.val (Value.int IntKind.i64 (S33.f11 x)), SC.val (Value.int IntKind.i64 (S33.f12 x)), SC.val (Value.bool (S33.f13 x))])) c_1 ∧ ∃ c_2, CmdX O w0 (SX.v (SV.agg [SC.val (Value.int IntKind.i64 (S33.f0 x)), SC.val (Value.int IntKind.i64 (S33.f1 x)), SC.val (Value.int IntKind.i64 (S33.f2 x)), SC.val (Value.int IntKind.i64 (S33.f3 x)), SC.val (Value.int IntKind.i64 (S33.f4 x)), SC.val (Value.int IntKind.i64 (S33.f5 x)), SC.val (Value.int IntKind.i64 (S33.f6 x)), SC.val (Value.int IntKind.i64 (S33.f7 x)), SC.val (Value.int IntKind.i64 (S30.f0 (S33.f8 x))), SC.val (Value.int IntKind.i64 (S30.f1 (S33.f8 x))), SC.val (Value.int IntKind.i64 (S30.f2 (S33.f8 x))), SC.val (Value.int IntKind.i64 (S30.f3 (S33.f8 x))), SC.val (Value.int IntKind.i64 (S30.f4 (S33.f8 x))), SC.val (Value.int IntKind.i64 (S28.f0 (S30.f5 (S33.f8 x)))), SC.val (Value.int IntKind.i64 (S28.f1 (S30.f5 (S33.f8 x)))), SC.val (Value.int IntKind.i64 (S28.f2 (S30.f5 (S33.f8 x)))), SC.val (Value.int IntKind.i64 (S28.f3 (S30.f5 (S33.f8 x)))), SC.val (Value.int IntKind.i64 (S30.f6 (S33.f8 x))), SC.val (Value.int IntKind.i64 (S30.f7 (S33.f8 x))), SC.val (Value.int IntKind.i64 (S30.f8 (S33.f8 x))), SC.rsl A (1 : Nat) (ints (S33.f9 x)) (0 : Nat) (List.length (S33.f9 x)) c, SC.val (Value.int IntKind.i64 (S28.f0 (S33.f10 x))), SC.val (Value.int IntKind.i64 (S28.f1 (S33.f10 x))), SC.val (Value.int IntKind.i64 (S28.f2 (S33.f10 x))), SC.val (Value.int IntKind.i64 (S28.f3 (S33.f10 x))), SC.val (Value.int IntKind.i64 (S33.f11 x)), SC.val (Value.int IntKind.i64 (S33.f12 x)), SC.val (Value.bool (S33.f13 x))])) c_2 ∧ bif chk c_1 == chk c_2 then Gl0 O w0 ∧ K (SX.v (SV.c (SC.val (Value.bool true)))) else K (SX.v (SV.c (SC.val (Value.bool false))))) : evFn Tryd.prog O w0 (Γ12 O w0) Λn 100 5 3 [cmdV x A c] [] (fun y _ => K y) := vc_of h_ (by kernel_rfl)
set_option maxHeartbeats 4000000 in
set_option maxRecDepth 100000 in
theorem f4 (O : Nat → Prop) (w0 : World) (B : Option Addr) (l : Nat → S33) (As : Nat → Option Addr) (cs : Nat → Nat) (n c : Nat) (K : SX → Prop) (h_ : Gl0 O w0 ∧ ∃ l_1, CmdsX O w0 (SX.v (SV.c (SC.rsl B (28 : Nat) (rowsC l As cs) (0 : Nat) n c))) l_1 ∧ ∀ (i e : Int), (i, e) = valid l_1 → ∃ l_2, CmdsX O w0 (SX.v (SV.c (SC.rsl B (28 : Nat) (rowsC l As cs) (0 : Nat) n c))) l_2 ∧ ∀ (i_1 e_1 : Int), (i_1, e_1) = validR l_2 → bif i == i_1 then bif e == e_1 then Gl0 O w0 ∧ K (SX.v (SV.c (SC.val (Value.bool true)))) else K (SX.v (SV.c (SC.val (Value.bool false)))) else K (SX.v (SV.c (SC.val (Value.bool false))))) : evFn Tryd.prog O w0 (Γ12 O w0) Λn 100 5 4 [cmdsV B l As cs n c] [] (fun y _ => K y) := vc_of h_ (by kernel_rfl)
--HIDE
theorem law3 {W : World} (hG : Gl0 (fun _ => False) W) {v : Value} (q : ArgC W v) : Calls Tryd.prog 3 #[v] W (fun e W' => e = .returned (.bool true) ∧ Below W.heap.size W W') := by
  obtain ⟨c, A, cp, rfl, _, hX⟩ := q
  refine law_of (Γ12_ok _ W) (f := 3) (args := [cmdV c A cp]) Λn 100 5 (by decide) (f3 _ W c A cp _ ?_)
  refine ⟨hG, c, hX, c, hX, ?_⟩
  rw [beq_self_eq_true]
  exact ⟨hG, rfl⟩
theorem law4 {W : World} (hG : Gl0 (fun _ => False) W) {v : Value} (q : ArgL W v) : Calls Tryd.prog 4 #[v] W (fun e W' => e = .returned (.bool true) ∧ Below W.heap.size W W') := by
  obtain ⟨l, B, c, As, cs, rfl, _, _, hX, _⟩ := q
  refine law_of (Γ12_ok _ W) (f := 4) (args := [cmdsV B (fun j => l.getD j z33) As cs l.length c]) Λn 100 5 (by decide) (f4 _ W B (fun j => l.getD j z33) As cs l.length c _ ?_)
  refine ⟨hG, l, hX, fun i e h => ⟨l, hX, fun i' e' h' => ?_⟩⟩
  rw [valid_eq] at h
  rw [← h] at h'
  cases h'
  rw [beq_self_eq_true, beq_self_eq_true]
  exact ⟨hG, rfl⟩
--SHOW
end Go.Proofs.YtcompmidgfkloaaDoor.Cm
