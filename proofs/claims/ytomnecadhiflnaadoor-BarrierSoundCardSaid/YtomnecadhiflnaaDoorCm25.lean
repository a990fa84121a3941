/- The laws BarrierStates and BarrierStep: what their texts come to. -/
import Derived.Test.YtomnecadhiflnaaDoorCm24
namespace Go.Proofs.YtomnecadhiflnaaDoor.Br
open Go Go.RowKit Go.Proofs.YtomnecadhiflnaaDoor.Eng Go.Proofs.YtomnecadhiflnaaDoor.Cm
set_option linter.unusedVariables false
set_option linter.unusedSimpArgs false
def gSameN : EntF := fun O w0 args M k => match args with
  | [a, b] => ∃ l m, IntsN O w0 M a l ∧ IntsN O w0 M b m ∧ k (bV (l == m)) M
  | _ => False
/-- The numbers of the blocks that are written no more. -/
def fzI : Nat → List Blk → List Nat
  | _, [] => []
  | i, .fz _ :: r => i :: fzI (i + 1) r
  | i, _ :: r => fzI (i + 1) r
def ΓS : TabF := addF ΓF 11 gSameN
structure StS where
  i : Int
  F : List Int
  L : List Int
  A : Option Addr
  c : Nat
  Q : World → Prop
def I7 (B : Option Addr) (l : Nat → S33) (As : Nat → Option Addr) (cs : Nat → Nat) (n c : Nat) (R : StS → Prop) : LInv where
  σ := StS
  pre := fun ⟨i, F, L, A, d, Q⟩ => R ⟨i, F, L, A, d, Q⟩
  mem := fun ⟨i, F, L, A, d, Q⟩ => [.lst 25 1 F.length (ints F), .fz Q]
  tmp := fun ⟨i, F, L, A, d, Q⟩ J => [cmdsV B l As cs n c, jV (J 1), jV (J 2), jV (J 3), jV (J 4), .v (.c (.lst 0)), jV (J 6), jV (J 7), sV A L d, iV i, jV (J 10), jV (J 11), jV (J 12), jV (J 13), jV (J 14), jV (J 15), jV (J 16), jV (J 17), jV (J 18), jV (J 19), jV (J 20), jV (J 21), jV (J 22), jV (J 23), jV (J 24), jV (J 25), jV (J 26), jV (J 27), jV (J 28), jV (J 29), jV (J 30), jV (J 31), jV (J 32), jV (J 33), jV (J 34), jV (J 35), jV (J 36), jV (J 37), jV (J 38), jV (J 39), jV (J 40), jV (J 41), jV (J 42), jV (J 43), jV (J 44), jV (J 45), jV (J 46), jV (J 47), jV (J 48), jV (J 49), jV (J 50), jV (J 51)]
  read := fun M ts => ⟨0, [], [], none, 0, fun _ => True⟩
  junk := [1, 2, 3, 4, 6, 7, 10, 11, 12, 13, 14, 15, 16, 17, 18, 19, 20, 21, 22, 23, 24, 25, 26, 27, 28, 29, 30, 31, 32, 33, 34, 35, 36, 37, 38, 39, 40, 41, 42, 43, 44, 45, 46, 47, 48, 49, 50, 51]
  μ := fun ⟨i, F, L, A, d, Q⟩ => (n - i).toNat
  keep := some fun M ts => [K1 25 1 5 ts, .all (fzI 0 M)]
  ex := true
set_option maxHeartbeats 4000000 in
set_option maxRecDepth 100000 in
theorem f6 (O : Nat → Prop) (w0 : World) (B : Option Addr) (l : Nat → S33) (As : Nat → Option Addr) (cs : Nat → Nat) (n c : Nat) (A : Option Addr) (L : List Int) (d : Nat) (K : SX → Prop) (h_ : bif decide ((↑n : Int) > (400 : Int)) then Gl0 O w0 ∧ K (SX.v (SV.c (SC.val (Value.bool true)))) else Gl0 O w0 ∧ ∃ l_1 L_1, CmdsZ O w0 (SX.v (SV.c (SC.rsl B (28 : Nat) (rowsC l As cs) (0 : Nat) n c))) l_1 ∧ IntsM O w0 [] (SX.v (SV.c (SC.rsl A (1 : Nat) (ints L) (0 : Nat) (List.length L) d))) L_1 ∧ ∀ (F : List Int) (c_1 e : Int), CkIs l_1 L_1 F c_1 e → Gl0 O w0 ∧ ∃ l_2 L_2, CmdsZ O w0 (SX.v (SV.c (SC.rsl B (28 : Nat) (rowsC l As cs) (0 : Nat) n c))) l_2 ∧ IntsM O w0 [Blk.lst (nat_lit 25) (1 : Nat) (List.length F) (ints F)] (SX.v (SV.c (SC.rsl A (1 : Nat) (ints L) (0 : Nat) (List.length L) d))) L_2 ∧ ∀ (F_1 : List Int) (c e_1 : Int), CkIs l_2 L_2 F_1 c e_1 → bif e == e_1 then bif c_1 == c then ∃ l m, IntsM O w0 [Blk.lst (nat_lit 25) (1 : Nat) (List.length F) (ints F), Blk.lst (nat_lit 25) (1 : Nat) (List.length F_1) (ints F_1)] (SX.v (SV.c (SC.lst (0 : Nat)))) l ∧ IntsM O w0 [Blk.lst (nat_lit 25) (1 : Nat) (List.length F) (ints F), Blk.lst (nat_lit 25) (1 : Nat) (List.length F_1) (ints F_1)] (SX.v (SV.c (SC.lst (1 : Nat)))) m ∧ bif l == m then Gl0 O w0 ∧ K (SX.v (SV.c (SC.val (Value.bool true)))) else K (SX.v (SV.c (SC.val (Value.bool false)))) else K (SX.v (SV.c (SC.val (Value.bool false)))) else K (SX.v (SV.c (SC.val (Value.bool false))))) : evFn Tryd.prog O w0 (Γ19 O w0) Λn 100 5 6 [cmdsV B l As cs n c, sV A L d] [] (fun y _ => K y) := vc_of h_ (by kernel_rfl)
set_option maxHeartbeats 4000000 in
set_option maxRecDepth 100000 in
theorem f7 (O : Nat → Prop) (w0 : World) (B : Option Addr) (l : Nat → S33) (As : Nat → Option Addr) (cs : Nat → Nat) (n c : Nat) (A : Option Addr) (L : List Int) (d : Nat) (R : StS → Prop) (K : SX → Prop) (h_ : Gl0 O w0 ∧ ∃ l_1 L_1, CmdsZ O w0 (SX.v (SV.c (SC.rsl B (28 : Nat) (rowsC l As cs) (0 : Nat) n c))) l_1 ∧ IntsM O w0 [] (SX.v (SV.c (SC.rsl A (1 : Nat) (ints L) (0 : Nat) (List.length L) d))) L_1 ∧ ∀ (F : List Int) (c_1 e : Int), CkIs l_1 L_1 F c_1 e → bif decide ((↑n : Int) > (400 : Int)) then Gl0 O w0 ∧ K (SX.v (SV.c (SC.val (Value.bool true)))) else bif e != (0 : Int) then Gl0 O w0 ∧ K (SX.v (SV.c (SC.val (Value.bool true)))) else (∀ (s : StS), LInv.pre (I7 B l As cs n c R) s → Nat.le (0 : Nat) (List.length (LInv.mem (I7 B l As cs n c R) s))) ∧ (FitE (I7 B l As cs n c R) [Blk.lst (nat_lit 25) (1 : Nat) (List.length F) (ints F), Blk.fz fun x ↦ True] (fun J ↦ [SX.v (SV.c (SC.rsl B (28 : Nat) (rowsC l As cs) (0 : Nat) n c)), SX.v (SV.c (SC.opq (J (1 : Nat)))), SX.v (SV.c (SC.opq (J (2 : Nat)))), SX.v (SV.c (SC.opq (J (3 : Nat)))), SX.v (SV.c (SC.opq (J (4 : Nat)))), SX.v (SV.c (SC.lst (0 : Nat))), SX.v (SV.c (SC.opq (J (6 : Nat)))), SX.v (SV.c (SC.opq (J (7 : Nat)))), SX.v (SV.c (SC.rsl A (1 : Nat) (ints L) (0 : Nat) (List.length L) d)), SX.v (SV.c (SC.val (Value.int IntKind.i64 (0 : Int)))), SX.v (SV.c (SC.opq (J (10 : Nat)))), SX.v (SV.c (SC.opq (J (11 : Nat)))), SX.v (SV.c (SC.opq (J (12 : Nat)))), SX.v (SV.c (SC.opq (J (13 : Nat)))), SX.v (SV.c (SC.opq (J (14 : Nat)))), SX.v (SV.c (SC.opq (J (15 : Nat)))), SX.v (SV.c (SC.opq (J (16 : Nat)))), SX.v (SV.c (SC.opq (J (17 : Nat)))), SX.v (SV.c (SC.opq (J (18 : Nat)))), SX.v (SV.c (SC.opq (J (19 : Nat)))), SX.v (SV.c (SC.opq (J (20 : Nat)))), SX.v (SV.c (SC.opq (J (21 : Nat)))), SX.v (SV.c (SC.opq (J (22 : Nat)))), SX.v (SV.c (SC.opq (J (23 : Nat)))), SX.v (SV.c (SC.opq (J (24 : Nat)))), SX.v (SV.c (SC.opq (J (25 : Nat)))), SX.v (SV.c (SC.opq (J (26 : Nat)))), SX.v (SV.c (SC.opq (J (27 : Nat)))), SX.v (SV.c (SC.opq (J (28 : Nat)))), SX.v (SV.c (SC.opq (J (29 : Nat)))), SX.v (SV.c (SC.opq (J (30 : Nat)))), SX.v (SV.c (SC.opq (J (31 : Nat)))), SX.v (SV.c (SC.opq (J (32 : Nat)))), SX.v (SV.c (SC.opq (J (33 : Nat)))), SX.v (SV.c (SC.opq (J (34 : Nat)))), SX.v (SV.c (SC.opq (J (35 : Nat)))), SX.v (SV.c (SC.opq (J (36 : Nat)))), SX.v (SV.c (SC.opq (J (37 : Nat)))), SX.v (SV.c (SC.opq (J (38 : Nat)))), SX.v (SV.c (SC.opq (J (39 : Nat)))), SX.v (SV.c (SC.opq (J (40 : Nat)))), SX.v (SV.c (SC.opq (J (41 : Nat)))), SX.v (SV.c (SC.opq (J (42 : Nat)))), SX.v (SV.c (SC.opq (J (43 : Nat)))), SX.v (SV.c (SC.opq (J (44 : Nat)))), SX.v (SV.c (SC.opq (J (45 : Nat)))), SX.v (SV.c (SC.opq (J (46 : Nat)))), SX.v (SV.c (SC.opq (J (47 : Nat)))), SX.v (SV.c (SC.opq (J (48 : Nat)))), SX.v (SV.c (SC.opq (J (49 : Nat)))), SX.v (SV.c (SC.opq (J (50 : Nat)))), SX.v (SV.c (SC.opq (J (51 : Nat))))]) fun x ↦ True) ∧ ∀ (s : StS) (J : Nat → Value), LInv.pre (I7 B l As cs n c R) s → bif decide (s.1 < (↑n : Int)) then In s.1 (↑n : Int) ∧ Option.isSome B = true ∧ RowAt O w0 B (28 : Nat) (rowsC l As cs ((0 : Nat) + Int.toNat s.1)) ((0 : Nat) + Int.toNat s.1) ∧ Gl0 O w0 ∧ ∃ L x, IntsN O w0 [Blk.lst (nat_lit 25) (1 : Nat) (List.length s.2) (ints s.2), Blk.fz s.6] (SX.v (SV.c (SC.rsl s.4 (1 : Nat) (ints s.3) (0 : Nat) (List.length s.3) s.5))) L ∧ CmdX O w0 (SX.v (SV.agg [SC.val (Value.int IntKind.i64 (S33.f0 (l ((0 : Nat) + Int.toNat s.1)))), SC.val (Value.int IntKind.i64 (S33.f1 (l ((0 : Nat) + Int.toNat s.1)))), SC.val (Value.int IntKind.i64 (S33.f2 (l ((0 : Nat) + Int.toNat s.1)))), SC.val (Value.int IntKind.i64 (S33.f3 (l ((0 : Nat) + Int.toNat s.1)))), SC.val (Value.int IntKind.i64 (S33.f4 (l ((0 : Nat) + Int.toNat s.1)))), SC.val (Value.int IntKind.i64 (S33.f5 (l ((0 : Nat) + Int.toNat s.1)))), SC.val (Value.int IntKind.i64 (S33.f6 (l ((0 : Nat) + Int.toNat s.1)))), SC.val (Value.int IntKind.i64 (S33.f7 (l ((0 : Nat) + Int.toNat s.1)))), SC.val (Value.int IntKind.i64 (S30.f0 (S33.f8 (l ((0 : Nat) + Int.toNat s.1))))), SC.val (Value.int IntKind.i64 (S30.f1 (S33.f8 (l ((0 : Nat) + Int.toNat s.1))))), SC.val (Value.int IntKind.i64 (S30.f2 (S33.f8 (l ((0 : Nat) + Int.toNat s.1))))), SC.val (Value.int IntKind.i64 (S30.f3 (S33.f8 (l ((0 : Nat) + Int.toNat s.1))))), SC.val (Value.int IntKind.i64 (S30.f4 (S33.f8 (l ((0 : Nat) + Int.toNat s.1))))), SC.val (Value.int IntKind.i64 (S28.f0 (S30.f5 (S33.f8 (l ((0 : Nat) + Int.toNat s.1)))))), SC.val (Value.int IntKind.i64 (S28.f1 (S30.f5 (S33.f8 (l ((0 : Nat) + Int.toNat s.1)))))), SC.val (Value.int IntKind.i64 (S28.f2 (S30.f5 (S33.f8 (l ((0 : Nat) + Int.toNat s.1)))))), SC.val (Value.int IntKind.i64 (S28.f3 (S30.f5 (S33.f8 (l ((0 : Nat) + Int.toNat s.1)))))), SC.val (Value.int IntKind.i64 (S30.f6 (S33.f8 (l ((0 : Nat) + Int.toNat s.1))))), SC.val (Value.int IntKind.i64 (S30.f7 (S33.f8 (l ((0 : Nat) + Int.toNat s.1))))), SC.val (Value.int IntKind.i64 (S30.f8 (S33.f8 (l ((0 : Nat) + Int.toNat s.1))))), SC.rsl (As ((0 : Nat) + Int.toNat s.1)) (1 : Nat) (ints (S33.f9 (l ((0 : Nat) + Int.toNat s.1)))) (0 : Nat) (List.length (S33.f9 (l ((0 : Nat) + Int.toNat s.1)))) (cs ((0 : Nat) + Int.toNat s.1)), SC.val (Value.int IntKind.i64 (S28.f0 (S33.f10 (l ((0 : Nat) + Int.toNat s.1))))), SC.val (Value.int IntKind.i64 (S28.f1 (S33.f10 (l ((0 : Nat) + Int.toNat s.1))))), SC.val (Value.int IntKind.i64 (S28.f2 (S33.f10 (l ((0 : Nat) + Int.toNat s.1))))), SC.val (Value.int IntKind.i64 (S28.f3 (S33.f10 (l ((0 : Nat) + Int.toNat s.1))))), SC.val (Value.int IntKind.i64 (S33.f11 (l ((0 : Nat) + Int.toNat s.1)))), SC.val (Value.int IntKind.i64 (S33.f12 (l ((0 : Nat) + Int.toNat s.1)))), SC.val (Value.bool (S33.f13 (l ((0 : Nat) + Int.toNat s.1))))])) x ∧ ∀ (e : Int) (F : List Int) (A : Option Addr) (d : Nat), ApIs L x e F → bif e != (0 : Int) then K (SX.v (SV.c (SC.val (Value.bool false)))) else FitE (I7 B l As cs n c R) [Blk.lst (nat_lit 25) (1 : Nat) (List.length s.2) (ints s.2), Blk.fz fun w ↦ s.6 w ∧ RowsF A (1 : Nat) (List.length F) (ints F) w ∧ True] (fun J ↦ [SX.v (SV.c (SC.rsl B (28 : Nat) (rowsC l As cs) (0 : Nat) n c)), SX.v (SV.c (SC.opq (J (1 : Nat)))), SX.v (SV.c (SC.opq (J (2 : Nat)))), SX.v (SV.c (SC.opq (J (3 : Nat)))), SX.v (SV.c (SC.opq (J (4 : Nat)))), SX.v (SV.c (SC.lst (0 : Nat))), SX.v (SV.c (SC.opq (J (6 : Nat)))), SX.v (SV.c (SC.opq (J (7 : Nat)))), SX.v (SV.c (SC.rsl A (1 : Nat) (ints F) (0 : Nat) (List.length F) d)), SX.v (SV.c (SC.val (Value.int IntKind.i64 (IntKind.wrap IntKind.i64 (s.1 + (1 : Int)))))), SX.v (SV.c (SC.opq (J (10 : Nat)))), SX.v (SV.c (SC.opq (J (11 : Nat)))), SX.v (SV.c (SC.opq (J (12 : Nat)))), SX.v (SV.c (SC.opq (J (13 : Nat)))), SX.v (SV.c (SC.opq (J (14 : Nat)))), SX.v (SV.c (SC.opq (J (15 : Nat)))), SX.v (SV.c (SC.opq (J (16 : Nat)))), SX.v (SV.c (SC.opq (J (17 : Nat)))), SX.v (SV.c (SC.opq (J (18 : Nat)))), SX.v (SV.c (SC.opq (J (19 : Nat)))), SX.v (SV.c (SC.opq (J (20 : Nat)))), SX.v (SV.c (SC.opq (J (21 : Nat)))), SX.v (SV.c (SC.opq (J (22 : Nat)))), SX.v (SV.c (SC.opq (J (23 : Nat)))), SX.v (SV.c (SC.opq (J (24 : Nat)))), SX.v (SV.c (SC.opq (J (25 : Nat)))), SX.v (SV.c (SC.opq (J (26 : Nat)))), SX.v (SV.c (SC.opq (J (27 : Nat)))), SX.v (SV.c (SC.opq (J (28 : Nat)))), SX.v (SV.c (SC.opq (J (29 : Nat)))), SX.v (SV.c (SC.opq (J (30 : Nat)))), SX.v (SV.c (SC.opq (J (31 : Nat)))), SX.v (SV.c (SC.opq (J (32 : Nat)))), SX.v (SV.c (SC.opq (J (33 : Nat)))), SX.v (SV.c (SC.opq (J (34 : Nat)))), SX.v (SV.c (SC.opq (J (35 : Nat)))), SX.v (SV.c (SC.opq (J (36 : Nat)))), SX.v (SV.c (SC.opq (J (37 : Nat)))), SX.v (SV.c (SC.opq (J (38 : Nat)))), SX.v (SV.c (SC.opq (J (39 : Nat)))), SX.v (SV.c (SC.opq (J (40 : Nat)))), SX.v (SV.c (SC.opq (J (41 : Nat)))), SX.v (SV.c (SC.opq (J (42 : Nat)))), SX.v (SV.c (SC.opq (J (43 : Nat)))), SX.v (SV.c (SC.opq (J (44 : Nat)))), SX.v (SV.c (SC.opq (J (45 : Nat)))), SX.v (SV.c (SC.opq (J (46 : Nat)))), SX.v (SV.c (SC.opq (J (47 : Nat)))), SX.v (SV.c (SC.opq (J (48 : Nat)))), SX.v (SV.c (SC.opq (J (49 : Nat)))), SX.v (SV.c (SC.opq (J (50 : Nat)))), SX.v (SV.c (SC.opq (J (51 : Nat))))]) fun s' ↦ LInv.μ (I7 B l As cs n c R) s' < LInv.μ (I7 B l As cs n c R) s else ∃ l m, IntsN O w0 [Blk.lst (nat_lit 25) (1 : Nat) (List.length s.2) (ints s.2), Blk.fz s.6] (SX.v (SV.c (SC.lst (0 : Nat)))) l ∧ IntsN O w0 [Blk.lst (nat_lit 25) (1 : Nat) (List.length s.2) (ints s.2), Blk.fz s.6] (SX.v (SV.c (SC.rsl s.4 (1 : Nat) (ints s.3) (0 : Nat) (List.length s.3) s.5))) m ∧ bif l == m then Gl0 O w0 ∧ K (SX.v (SV.c (SC.val (Value.bool true)))) else K (SX.v (SV.c (SC.val (Value.bool false))))) : evFn Tryd.prog O w0 (ΓS O w0) (Λof 7 (I7 B l As cs n c R)) 100 5 7 [cmdsV B l As cs n c, sV A L d] [] (fun y _ => K y) := vc_of h_ (by kernel_rfl)
--HIDE
theorem eSameN (O : Nat → Prop) (w0 : World) : Entry Tryd.prog O w0 11 (gSameN O w0) :=
  Entry.pureM Γ10_ok 100 5 (g := gSameN) (fun O w0 args M k hg => by
    unfold gSameN at hg
    split at hg
    case h_2 => exact hg.elim
    obtain ⟨l, m, hx, hy, hk⟩ := hg
    refine ⟨_, rfl, hk, fun β w hI => ?_⟩
    obtain ⟨hl, A, c, ha, hA⟩ := hx.rows hI
    obtain ⟨hm, B, d, hb, hB⟩ := hy.rows hI
    obtain ⟨Λ, hev⟩ := same11 (O := fun _ => False) (w0 := w) (c := c) (d := d) hA hB hl
    exact ⟨_, Λ, by unfold fr; simp only [List.map_cons, ha, hb, List.map_nil], hev⟩) O w0
theorem ΓS_ok : TSF Tryd.prog ΓS := ΓF_ok.add eSameN
theorem CkIs.same {l : List S33} {L F G : List Int} {c d e f : Int} (h : CkIs l L F c e) (h2 : CkIs l L G d f) : F = G ∧ c = d ∧ e = f := by
  have := h.eq.trans h2.eq.symm
  injection this with h1 h3
  injection h3 with h3 h4
  exact ⟨h1, h3, h4⟩
set_option maxRecDepth 100000 in
theorem law6 {W : World} (hG : Gl0 (fun _ => False) W) {v0 v1 : Value} (q0 : ArgL W v0) (q1 : ArgI W v1) : Calls Tryd.prog 6 #[v0, v1] W (fun e W' => e = .returned (.bool true) ∧ Below W.heap.size W W') := by
  obtain ⟨l, B, c, As, cs, rfl, _, hcap, hX, hrows, hid⟩ := q0
  obtain ⟨L, A, d, rfl, _, hL, hr⟩ := q1
  refine law_of (Γ19_ok _ W) (f := 6) (args := [cmdsV B (fun j => l.getD j z33) As cs l.length c, sV A L d]) _ 100 5 (by decide) (f6 _ W B (fun j => l.getD j z33) As cs l.length c A L d _ ?_)
  have hZ : CmdsZ (fun _ => False) W (cmdsV B (fun j => l.getD j z33) As cs l.length c) l := ⟨hX.le, ⟨hid⟩, B, c, As, cs, fun _ => rfl, hcap, hrows⟩
  refine cond_of (fun _ => ⟨hG, rfl⟩) (fun h => ?_)
  refine ⟨hG, l, L, hZ, ⟨.inl hL⟩, fun F c2 e hck => ⟨hG, l, L, hZ, ⟨.inl hL⟩, fun G d2 f hck2 => ?_⟩⟩
  obtain ⟨rfl, rfl, rfl⟩ := hck.same hck2
  rw [beq_self_eq_true, beq_self_eq_true]
  refine ⟨F, F, ⟨.inr ⟨0, 25, _, rfl, rfl, fun _ _ => rfl⟩⟩, ⟨.inr ⟨1, 25, _, rfl, rfl, fun _ _ => rfl⟩⟩, ?_⟩
  rw [beq_self_eq_true]
  exact ⟨hG, rfl⟩
/-- The states at hand: those that came in, or rows that are written no more. -/
def NowB (W : World) (A : Option Addr) (c : Nat) (L : List Int) (Q : World → Prop) : Prop := IntsX (fun _ => False) W (sV A L c) L ∨ (L.length ≤ 9223372036854775807 ∧ ∀ w, Q w → RowsF A 1 L.length (ints L) w)
theorem NowB.ints {W : World} {A : Option Addr} {c : Nat} {L : List Int} {Q : World → Prop} (h : NowB W A c L Q) {M : List Blk} {k : Nat} (hk : M[k]? = some (Blk.fz Q)) : IntsN (fun _ => False) W M (sV A L c) L := by
  rcases h with h | h
  · exact ⟨.inl ⟨.inl h⟩⟩
  · exact ⟨.inr ⟨A, c, k, Q, rfl, hk, h.1, h.2⟩⟩
def R7 (W : World) (l : List S33) (F0 : List Int) (c0 : Int) : StS → Prop := fun ⟨i, F, L, A, d, Q⟩ => 0 ≤ i ∧ i ≤ l.length ∧ F = F0 ∧ vsB L = true ∧ NowB W A d L Q ∧ ckR l (l.length - i.toNat) i.toNat L = (F0, c0, 0)
set_option maxRecDepth 100000 in
theorem law7 {W : World} (hG : Gl0 (fun _ => False) W) {v0 v1 : Value} (q0 : ArgL W v0) (q1 : ArgI W v1) : Calls Tryd.prog 7 #[v0, v1] W (fun e W' => e = .returned (.bool true) ∧ Below W.heap.size W W') := by
  obtain ⟨l, B, c, As, cs, rfl, _, hcap, hX, hrows, hid⟩ := q0
  obtain ⟨L, A, d, rfl, _, hL, hr⟩ := q1
  have hZ : CmdsZ (fun _ => False) W (cmdsV B (fun j => l.getD j z33) As cs l.length c) l := ⟨hX.le, ⟨hid⟩, B, c, As, cs, fun _ => rfl, hcap, hrows⟩
  have hsz := hX.le
  refine law_of (ΓS_ok _ W) (f := 7) (args := [cmdsV B (fun j => l.getD j z33) As cs l.length c, sV A L d]) _ 100 5 (by decide) (f7 _ W B (fun j => l.getD j z33) As cs l.length c A L d (R7 W l (ckP l L).1 (ckP l L).2.1) _ ?_)
  refine ⟨hG, l, L, hZ, ⟨.inl hL⟩, fun F c2 e hck => cond_of (fun _ => ⟨hG, rfl⟩) (fun hlen => cond_of (fun _ => ⟨hG, rfl⟩) (fun he => ?_))⟩
  have he : e = 0 := by simpa using he
  subst he
  rw [← hck.eq]
  obtain ⟨hV, hs, hrr⟩ := hck.ok
  have hl256 := hV.len.1
  refine ⟨fun _ _ => Nat.zero_le _, ⟨⟨⟨0, F, L, A, d, fun _ => True⟩, ⟨Int.le_refl _, by omega, rfl, hs, .inl hL, hrr⟩, ⟨⟨_, rfl, fun _ _ => rfl⟩, ⟨_, rfl, fun _ h => h⟩, trivial⟩, fun _ => rfl, trivial⟩⟩, ?_⟩
  rintro ⟨i, F', S, A', d', Q⟩ J ⟨i0, i1, rfl, hS, hN, hr'⟩
  dsimp only
  simp only [Nat.zero_add]
  refine cond_of (fun hi => ?_) (fun hi => ?_)
  · have hi : i < (l.length : Int) := of_decide_eq_true hi
    have hj := hrows i.toNat (by omega)
    have hC : CmdX (fun _ => False) W (cmdV (l.getD i.toNat z33) (As i.toNat) (cs i.toNat)) (l.getD i.toNat z33) := ⟨hj.2.2.1, As i.toNat, cs i.toNat, fun _ => rfl, hj.2.2.2⟩
    obtain ⟨q, hq⟩ : ∃ q, l.length - i.toNat = q + 1 := ⟨l.length - i.toNat - 1, by omega⟩
    rw [hq] at hr'
    obtain ⟨h1, h2, h3⟩ := ckR_step hr'
    refine ⟨⟨i0, hi⟩, hj.1, hj.2.1, hG, S, l.getD i.toNat z33, hN.ints (k := 1) rfl, hC, fun e F2 A2 d2 hap => ?_⟩
    have hF := hap.l
    rw [show e = 0 from hap.e.trans h2, wrap_in (show -9223372036854775808 ≤ i + 1 by omega) (by omega)]
    have hvs : vsB F2 = true := by rw [hF]; exact vsB_ap hS h2
    have hl8 := vsB_len hvs
    exact ⟨⟨⟨i + 1, F', F2, A2, d2, _⟩, ⟨by omega, by omega, rfl, hvs, .inr ⟨by omega, fun w h => h.2.1⟩, by rw [show l.length - (i + 1).toNat = q by omega, show (i + 1).toNat = i.toNat + 1 by omega, hF]; exact h3⟩, ⟨⟨_, rfl, fun _ _ => rfl⟩, ⟨_, rfl, fun _ h => h⟩, trivial⟩, fun _ => rfl, by show (_ : Int).toNat < (_ : Int).toNat; omega⟩⟩
  · have hi : ¬ i < (l.length : Int) := of_decide_eq_false hi
    rw [show l.length - i.toNat = 0 by omega] at hr'
    injection hr' with hF _
    subst hF
    refine ⟨S, S, ⟨.inl ⟨.inr ⟨0, 25, _, rfl, rfl, fun _ _ => rfl⟩⟩⟩, hN.ints (k := 1) rfl, ?_⟩
    rw [beq_self_eq_true]
    exact ⟨hG, trivial⟩
--SHOW
end Go.Proofs.YtomnecadhiflnaaDoor.Br
