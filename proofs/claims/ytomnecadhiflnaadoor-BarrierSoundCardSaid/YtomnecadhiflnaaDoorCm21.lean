/- Initial; the law BarrierRequires: what its text comes to. -/
import Derived.Test.YtomnecadhiflnaaDoorCm20
import Derived.Test.YtomnecadhiflnaaDoorCm16
namespace Go.Proofs.YtomnecadhiflnaaDoor.Br
open Go Go.RowKit Go.Proofs.YtomnecadhiflnaaDoor.Eng Go.Proofs.YtomnecadhiflnaaDoor.Cm
set_option linter.unusedVariables false
set_option linter.unusedSimpArgs false
def inits : List Int := [1, 1, 1, 1, 1, 1, 1, 1]
def gIni : EntF := fun O w0 args M k => match args with
  | [] => k (.v (.c (.lst M.length))) (M ++ [.lst 25 1 inits.length (ints inits)])
  | _ => False
set_option maxHeartbeats 4000000 in
set_option maxRecDepth 100000 in
theorem f17 (O : Nat → Prop) (w0 : World) (K : SX → List Blk → Prop) (h_ : K (SX.v (SV.c (SC.sl (0 : Nat) (0 : Nat) (8 : Nat) (8 : Nat)))) [Blk.mk (25 : Nat) [SC.val (Value.int IntKind.i64 (1 : Int)), SC.val (Value.int IntKind.i64 (1 : Int)), SC.val (Value.int IntKind.i64 (1 : Int)), SC.val (Value.int IntKind.i64 (1 : Int)), SC.val (Value.int IntKind.i64 (1 : Int)), SC.val (Value.int IntKind.i64 (1 : Int)), SC.val (Value.int IntKind.i64 (1 : Int)), SC.val (Value.int IntKind.i64 (1 : Int))]]) : evFn Tryd.prog O w0 (Γ16 O w0) Λn 100 5 17 [] [] (fun y M => K y M) := vc_of h_ (by kernel_rfl)
set_option maxHeartbeats 4000000 in
set_option maxRecDepth 100000 in
theorem f18 (O : Nat → Prop) (w0 : World) (K : SX → List Blk → Prop) (h_ : Room (1 : Nat) (8 : Nat) ∧ Room (2 : Nat) (8 : Nat) ∧ Room (3 : Nat) (8 : Nat) ∧ Room (4 : Nat) (8 : Nat) ∧ Room (5 : Nat) (8 : Nat) ∧ Room (6 : Nat) (8 : Nat) ∧ Room (7 : Nat) (8 : Nat) ∧ Room (8 : Nat) (8 : Nat) ∧ K (SX.v (SV.c (SC.lst (16 : Nat)))) [Blk.dead, Blk.mk (25 : Nat) [SC.val (Value.int IntKind.i64 (1 : Int))], Blk.dead, Blk.mk (25 : Nat) [SC.val (Value.int IntKind.i64 (1 : Int))], Blk.dead, Blk.mk (25 : Nat) [SC.val (Value.int IntKind.i64 (1 : Int))], Blk.dead, Blk.mk (25 : Nat) [SC.val (Value.int IntKind.i64 (1 : Int))], Blk.dead, Blk.mk (25 : Nat) [SC.val (Value.int IntKind.i64 (1 : Int))], Blk.dead, Blk.mk (25 : Nat) [SC.val (Value.int IntKind.i64 (1 : Int))], Blk.dead, Blk.mk (25 : Nat) [SC.val (Value.int IntKind.i64 (1 : Int))], Blk.dead, Blk.mk (25 : Nat) [SC.val (Value.int IntKind.i64 (1 : Int))], Blk.lst (25 : Nat) (1 : Nat) (8 : Nat) fun j ↦ bif Nat.blt j ((0 : Nat) + (1 : Nat) + (1 : Nat) + (1 : Nat) + (1 : Nat) + (1 : Nat) + (1 : Nat) + (1 : Nat)) then bif Nat.blt j ((0 : Nat) + (1 : Nat) + (1 : Nat) + (1 : Nat) + (1 : Nat) + (1 : Nat) + (1 : Nat)) then bif Nat.blt j ((0 : Nat) + (1 : Nat) + (1 : Nat) + (1 : Nat) + (1 : Nat) + (1 : Nat)) then bif Nat.blt j ((0 : Nat) + (1 : Nat) + (1 : Nat) + (1 : Nat) + (1 : Nat)) then bif Nat.blt j ((0 : Nat) + (1 : Nat) + (1 : Nat) + (1 : Nat)) then bif Nat.blt j ((0 : Nat) + (1 : Nat) + (1 : Nat)) then bif Nat.blt j ((0 : Nat) + (1 : Nat)) then [SC.val (Value.int IntKind.i64 (1 : Int))] else [SC.val (Value.int IntKind.i64 (1 : Int))] else [SC.val (Value.int IntKind.i64 (1 : Int))] else [SC.val (Value.int IntKind.i64 (1 : Int))] else [SC.val (Value.int IntKind.i64 (1 : Int))] else [SC.val (Value.int IntKind.i64 (1 : Int))] else [SC.val (Value.int IntKind.i64 (1 : Int))] else [SC.val (Value.int IntKind.i64 (1 : Int))]]) : evFn Tryd.prog O w0 (Γ16 O w0) Λn 100 5 18 [] [] (fun y M => K y M) := vc_of h_ (by kernel_rfl)
def Γ17 : TabF := addF (addF Γ16 17 gIni) 18 gIni
abbrev prL (xs : List (Int × Int)) : Blk := .lst 46 2 xs.length (prs xs)
structure ReqIs (xs : List (Int × Int)) (l : List S33) (i : Int) : Prop where
  eq : xs = reqP l i
/-- Requires, of which the result is named ahead. -/
def gReqV (xs : List (Int × Int)) : EntF := fun O w0 args M k => match args with
  | [a, .v (.c (.val (.int .i64 i)))] => ∃ l, CmdsY O w0 a l ∧ ReqIs xs l i ∧ k (.v (.c (.lst M.length))) (M ++ [prL xs])
  | _ => False
def ΓR (xs : List (Int × Int)) : TabF := addF (addF Γ17 13 (gReqV xs)) 14 (gReqV xs)
def I4 (xs : List (Int × Int)) (s : Int) : LInv where
  σ := N1
  pre := fun ⟨k⟩ => 0 ≤ k ∧ k ≤ xs.length
  mem := fun ⟨k⟩ => [prL xs, prL xs]
  tmp := fun ⟨k⟩ J => [jV (J 0), jV (J 1), iV s, jV (J 3), jV (J 4), jV (J 5), jV (J 6), .v (.c (.lst 0)), .v (.c (.lst 1)), iV k, jV (J 10), jV (J 11), jV (J 12), jV (J 13), jV (J 14), jV (J 15), jV (J 16), jV (J 17), jV (J 18), jV (J 19), jV (J 20), jV (J 21), jV (J 22), jV (J 23), jV (J 24), jV (J 25), jV (J 26), jV (J 27), jV (J 28), jV (J 29), jV (J 30), jV (J 31), jV (J 32), jV (J 33), jV (J 34), jV (J 35), jV (J 36), jV (J 37), jV (J 38), jV (J 39), jV (J 40), jV (J 41), jV (J 42), jV (J 43), jV (J 44), jV (J 45), jV (J 46), jV (J 47), jV (J 48), jV (J 49), jV (J 50), jV (J 51), jV (J 52)]
  read := fun M ts => rI ts 9
  junk := [0, 1, 3, 4, 5, 6, 10, 11, 12, 13, 14, 15, 16, 17, 18, 19, 20, 21, 22, 23, 24, 25, 26, 27, 28, 29, 30, 31, 32, 33, 34, 35, 36, 37, 38, 39, 40, 41, 42, 43, 44, 45, 46, 47, 48, 49, 50, 51, 52]
  μ := fun ⟨k⟩ => (xs.length - k).toNat
  keep := some fun M ts => [K1 46 2 7 ts, K1 46 2 8 ts]
set_option maxHeartbeats 4000000 in
set_option maxRecDepth 100000 in
theorem f4 (O : Nat → Prop) (w0 : World) (B : Option Addr) (l : Nat → S33) (As : Nat → Option Addr) (cs : Nat → Nat) (n c : Nat) (i s : Int) (xs : List (Int × Int)) (K : SX → Prop) (h_ : bif decide ((↑n : Int) > (400 : Int)) then Gl0 O w0 ∧ K (SX.v (SV.c (SC.val (Value.bool true)))) else ∃ l_1, CmdsY O w0 (SX.v (SV.c (SC.rsl B (28 : Nat) (rowsC l As cs) (0 : Nat) n c))) l_1 ∧ ReqIs xs l_1 i ∧ ∃ l_2, CmdsY O w0 (SX.v (SV.c (SC.rsl B (28 : Nat) (rowsC l As cs) (0 : Nat) n c))) l_2 ∧ ReqIs xs l_2 i ∧ bif (↑(List.length xs) : Int) != (↑(List.length xs) : Int) then K (SX.v (SV.c (SC.val (Value.bool false)))) else (∀ (s_1 : N1), LInv.pre (I4 xs s) s_1 → Nat.le (0 : Nat) (List.length (LInv.mem (I4 xs s) s_1))) ∧ Fits (I4 xs s) (N1.mk (0 : Int)) (LInv.mem (I4 xs s) (N1.mk (0 : Int))) (LInv.tmp (I4 xs s) (N1.mk (0 : Int))) ∧ ∀ (s_1 : N1) (J : Nat → Value), LInv.pre (I4 xs s) s_1 → bif decide (s_1.1 < (↑(List.length xs) : Int)) then In s_1.1 (↑(List.length xs) : Int) ∧ In (↑(Int.toNat s_1.1) : Int) (↑(List.length xs) : Int) ∧ In s_1.1 (↑(List.length xs) : Int) ∧ In (↑(Int.toNat s_1.1) : Int) (↑(List.length xs) : Int) ∧ bif !(Prod.fst (List.getD xs (Int.toNat s_1.1) ((0 : Int), (0 : Int))) == Prod.fst (List.getD xs (Int.toNat s_1.1) ((0 : Int), (0 : Int))) && (Prod.snd (List.getD xs (Int.toNat s_1.1) ((0 : Int), (0 : Int))) == Prod.snd (List.getD xs (Int.toNat s_1.1) ((0 : Int), (0 : Int))) && true)) then K (SX.v (SV.c (SC.val (Value.bool false)))) else Fits (I4 xs s) (N1.mk (IntKind.wrap IntKind.i64 (s_1.1 + (1 : Int)))) (LInv.mem (I4 xs s) (N1.mk (IntKind.wrap IntKind.i64 (s_1.1 + (1 : Int))))) (LInv.tmp (I4 xs s) (N1.mk (IntKind.wrap IntKind.i64 (s_1.1 + (1 : Int))))) ∧ Dec (I4 xs s) (N1.mk (IntKind.wrap IntKind.i64 (s_1.1 + (1 : Int)))) s_1 else bif stB s == stB s then ∃ l m, IntsM O w0 [Blk.lst (nat_lit 46) (2 : Nat) (List.length xs) (prs xs), Blk.lst (nat_lit 46) (2 : Nat) (List.length xs) (prs xs), Blk.lst (nat_lit 25) (1 : Nat) (8 : Nat) (ints inits), Blk.lst (nat_lit 25) (1 : Nat) (8 : Nat) (ints inits)] (SX.v (SV.c (SC.lst (2 : Nat)))) l ∧ IntsM O w0 [Blk.lst (nat_lit 46) (2 : Nat) (List.length xs) (prs xs), Blk.lst (nat_lit 46) (2 : Nat) (List.length xs) (prs xs), Blk.lst (nat_lit 25) (1 : Nat) (8 : Nat) (ints inits), Blk.lst (nat_lit 25) (1 : Nat) (8 : Nat) (ints inits)] (SX.v (SV.c (SC.lst (3 : Nat)))) m ∧ bif l == m then Gl0 O w0 ∧ K (SX.v (SV.c (SC.val (Value.bool true)))) else K (SX.v (SV.c (SC.val (Value.bool false)))) else K (SX.v (SV.c (SC.val (Value.bool false))))) : evFn Tryd.prog O w0 (ΓR xs O w0) (Λof 4 (I4 xs s)) 100 5 4 [cmdsV B l As cs n c, iV i, iV s] [] (fun y _ => K y) := vc_of h_ (by kernel_rfl)
--HIDE
theorem QK.of {M M' : List Blk} {k : SX → List Blk → Prop} {e : TypeId} {sz n : Nat} {F : Nat → List SC} {s : SC} (hk : k (.v (.c (.lst M.length))) (M ++ [.lst e sz n F])) (h : ResL M' e sz n F s) : QK M k (.v (.c s)) M' := ⟨[], s, e, sz, _, _, rfl, rfl, h, hk⟩
theorem inits_at {j : Nat} (h : j < 8) : j = 0 ∨ j = 1 ∨ j = 2 ∨ j = 3 ∨ j = 4 ∨ j = 5 ∨ j = 6 ∨ j = 7 := by omega
set_option maxRecDepth 100000 in
theorem e17 (O : Nat → Prop) (w0 : World) : Entry Tryd.prog O w0 17 (gIni O w0) :=
  Entry.madeQ Γ16_ok 100 5 (g := gIni) (fun O w0 args M k hg β w hI => by
    unfold gIni at hg
    split at hg
    case h_2 => exact hg.elim
    refine ⟨[], Λn, rfl, f17 _ w (QK M k) (QK.of hg (.sl 0 _ rfl (show (8 : Nat) ≤ 9223372036854775807 by decide) rfl rfl (fun j hj => ?_)))⟩
    refine ⟨rfl, rfl, rfl, fun m c hc => ?_⟩
    have hm : m = 0 := by
      cases m with
      | zero => rfl
      | succ m => simp [ints] at hc
    subst hm
    rcases inits_at hj with h | h | h | h | h | h | h | h <;> subst h <;> exact hc) O w0
set_option maxRecDepth 100000 in
theorem e18 (O : Nat → Prop) (w0 : World) : Entry Tryd.prog O w0 18 (gIni O w0) :=
  Entry.madeQ Γ16_ok 100 5 (g := gIni) (fun O w0 args M k hg β w hI => by
    unfold gIni at hg
    split at hg
    case h_2 => exact hg.elim
    refine ⟨[], Λn, rfl, f18 _ w (QK M k) ⟨⟨by decide⟩, ⟨by decide⟩, ⟨by decide⟩, ⟨by decide⟩, ⟨by decide⟩, ⟨by decide⟩, ⟨by decide⟩, ⟨by decide⟩, QK.of hg (.lst 16 _ rfl (fun j hj => ?_))⟩⟩
    rcases inits_at hj with h | h | h | h | h | h | h | h <;> subst h <;> rfl) O w0
theorem Γ17_ok : TSF Tryd.prog Γ17 := (Γ16_ok.add e17).add e18
theorem e13V (xs : List (Int × Int)) (O : Nat → Prop) (w0 : World) : Entry Tryd.prog O w0 13 (gReqV xs O w0) := fun hf args M k hg hm β w hI => by
  unfold gReqV at hg
  split at hg
  case h_2 => exact hg.elim
  obtain ⟨l, hX, ⟨hx⟩, hk⟩ := hg
  rename_i a i
  exact e13 O w0 hf [a, .v (.c (.val (.int .i64 i)))] M k ⟨l, hX, by rw [← hx]; exact hk⟩ hm β w hI
theorem e14V (xs : List (Int × Int)) (O : Nat → Prop) (w0 : World) : Entry Tryd.prog O w0 14 (gReqV xs O w0) := fun hf args M k hg hm β w hI => by
  unfold gReqV at hg
  split at hg
  case h_2 => exact hg.elim
  obtain ⟨l, hX, ⟨hx⟩, hk⟩ := hg
  rename_i a i
  exact e14 O w0 hf [a, .v (.c (.val (.int .i64 i)))] M k ⟨l, hX, by rw [← hx]; exact hk⟩ hm β w hI
theorem ΓR_ok (xs : List (Int × Int)) : TSF Tryd.prog (ΓR xs) := (Γ17_ok.add (e13V xs)).add (e14V xs)
set_option maxRecDepth 100000 in
theorem law4 {W : World} (hG : Gl0 (fun _ => False) W) {v0 v1 v2 : Value} (q0 : ArgL W v0) (q1 : ∃ n : Int, v1 = .int .i64 n ∧ -9223372036854775808 ≤ n ∧ n ≤ 9223372036854775807) (q2 : ∃ n : Int, v2 = .int .i64 n ∧ -9223372036854775808 ≤ n ∧ n ≤ 9223372036854775807) : Calls Tryd.prog 4 #[v0, v1, v2] W (fun e W' => e = .returned (.bool true) ∧ Below W.heap.size W W') := by
  obtain ⟨l, B, c, As, cs, rfl, _, hcap, hX, hrows, hid⟩ := q0
  obtain ⟨i, rfl, hi0, hi1⟩ := q1
  obtain ⟨s, rfl, hs0, hs1⟩ := q2
  refine law_of (ΓR_ok (reqP l i) _ W) (f := 4) (args := [cmdsV B (fun j => l.getD j z33) As cs l.length c, iV i, iV s]) _ 100 5 (by decide) (f4 _ W B (fun j => l.getD j z33) As cs l.length c i s (reqP l i) _ ?_)
  refine cond_of (fun _ => ⟨hG, rfl⟩) (fun h => ?_)
  have hsz : l.length ≤ 400 := by have := of_decide_eq_false h; omega
  have hY : CmdsY (fun _ => False) W (cmdsV B (fun j => l.getD j z33) As cs l.length c) l := ⟨hsz, ⟨hid⟩, B, c, As, cs, fun _ => rfl, hcap, hrows⟩
  refine ⟨l, hY, ⟨rfl⟩, l, hY, ⟨rfl⟩, ?_⟩
  rw [bne_self_eq_false]
  have hmax := hX.le
  have hlen : (reqP l i).length ≤ 400 + 1 := by
    unfold reqP
    split
    · simp
    split
    · simp
    split
    · simp
    split
    · rename_i h1 _ _ _
      rw [List.length_map]
      have := refL_len l i.toNat
      omega
    · simp
  refine ⟨fun _ _ => Nat.zero_le _, ⟨⟨Int.le_refl _, by omega⟩, rfl, fun _ => rfl⟩, ?_⟩
  rintro ⟨k⟩ J ⟨k0, k1⟩
  refine cond_of (fun hk => ?_) (fun hk => ?_)
  · have hk : k < ((reqP l i).length : Int) := of_decide_eq_true hk
    dsimp only
    refine ⟨⟨k0, hk⟩, ⟨by omega, by omega⟩, ⟨k0, hk⟩, ⟨by omega, by omega⟩, ?_⟩
    rw [beq_self_eq_true, beq_self_eq_true, wrap_in (show -9223372036854775808 ≤ k + 1 by omega) (by omega)]
    exact ⟨⟨⟨by omega, by omega⟩, rfl, fun _ => rfl⟩, ⟨by show (_ : Int).toNat < (_ : Int).toNat; omega⟩⟩
  · rw [beq_self_eq_true]
    refine ⟨inits, inits, ⟨.inr ⟨2, 25, _, rfl, rfl, fun _ _ => rfl⟩⟩, ⟨.inr ⟨3, 25, _, rfl, rfl, fun _ _ => rfl⟩⟩, ?_⟩
    rw [beq_self_eq_true]
    exact ⟨hG, rfl⟩
--SHOW
end Go.Proofs.YtomnecadhiflnaaDoor.Br
