/- The states of textures: their lists are valid; two lists are the same. -/
import Derived.Test.YtomnecadhiflnaaDoorCm10
import Derived.Test.YtomnecadhiflnaaDoorEngC
namespace Go.Proofs.YtomnecadhiflnaaDoor.Br
open Go Go.RowKit Go.Proofs.YtomnecadhiflnaaDoor.Eng Go.Proofs.YtomnecadhiflnaaDoor.Cm
set_option linter.unusedVariables false
set_option linter.unusedSimpArgs false
def I52 (A : Option Addr) (l : List Int) (c : Nat) (R : Int → Prop) : LInv where
  σ := N1
  pre := fun ⟨i⟩ => R i
  mem := fun _ => []
  tmp := fun ⟨i⟩ J => [sV A l c, fV 38, jV (J 2), jV (J 3), jV (J 4), jV (J 5), jV (J 6), iV l.length, iV i, jV (J 9), jV (J 10), jV (J 11), jV (J 12), jV (J 13), jV (J 14), jV (J 15), jV (J 16), jV (J 17), jV (J 18)]
  read := fun _ ts => rI ts 8
  junk := [2, 3, 4, 5, 6, 9, 10, 11, 12, 13, 14, 15, 16, 17, 18]
  μ := fun ⟨i⟩ => (l.length - i).toNat
def I26 (A : Option Addr) (l : List Int) (c : Nat) (R : Int → Prop) : LInv where
  σ := N1
  pre := fun ⟨i⟩ => R i
  mem := fun _ => []
  tmp := fun ⟨i⟩ J => [sV A l c, jV (J 1), jV (J 2), iV i, jV (J 4), jV (J 5), jV (J 6), jV (J 7), jV (J 8), jV (J 9), jV (J 10), jV (J 11), jV (J 12), jV (J 13), jV (J 14), jV (J 15), jV (J 16), jV (J 17), jV (J 18)]
  read := fun _ ts => rI ts 3
  junk := [1, 2, 4, 5, 6, 7, 8, 9, 10, 11, 12, 13, 14, 15, 16, 17, 18]
  μ := fun ⟨i⟩ => (l.length - i).toNat
def I11 (A B : Option Addr) (l m : List Int) (c d : Nat) (R : Int → Prop) : LInv where
  σ := N1
  pre := fun ⟨i⟩ => R i
  mem := fun _ => []
  tmp := fun ⟨i⟩ J => [sV A l c, sV B m d, jV (J 2), jV (J 3), jV (J 4), iV i, jV (J 6), jV (J 7), jV (J 8), jV (J 9), jV (J 10), jV (J 11), jV (J 12), jV (J 13), jV (J 14), jV (J 15), jV (J 16), jV (J 17), jV (J 18), jV (J 19), jV (J 20), jV (J 21), jV (J 22), jV (J 23), jV (J 24), jV (J 25)]
  read := fun _ ts => rI ts 5
  junk := [2, 3, 4, 6, 7, 8, 9, 10, 11, 12, 13, 14, 15, 16, 17, 18, 19, 20, 21, 22, 23, 24, 25]
  μ := fun ⟨i⟩ => (l.length - i).toNat
set_option maxHeartbeats 4000000 in
set_option maxRecDepth 100000 in
theorem f23 (O : Nat → Prop) (w0 : World) (A : Option Addr) (l : List Int) (c : Nat) (R : Int → Prop) (K : SX → Prop) (h_ : bif (↑(List.length l) : Int) == (8 : Int) then (∀ (s : N1), LInv.pre (I52 A l c R) s → Nat.le (0 : Nat) (List.length (LInv.mem (I52 A l c R) s))) ∧ Fits (I52 A l c R) (N1.mk (0 : Int)) (LInv.mem (I52 A l c R) (N1.mk (0 : Int))) (LInv.tmp (I52 A l c R) (N1.mk (0 : Int))) ∧ ∀ (s : N1) (J : Nat → Value), LInv.pre (I52 A l c R) s → bif decide (s.1 < (↑(List.length l) : Int)) then In s.1 (↑(List.length l) : Int) ∧ Option.isSome A = true ∧ RowAt O w0 A (1 : Nat) (ints l ((0 : Nat) + Int.toNat s.1)) ((0 : Nat) + Int.toNat s.1) ∧ bif decide (List.getD l ((0 : Nat) + Int.toNat s.1) (0 : Int) ≥ (1 : Int)) then bif !decide (List.getD l ((0 : Nat) + Int.toNat s.1) (0 : Int) ≤ (5 : Int)) then K (SX.v (SV.c (SC.val (Value.bool !decide (s.1 ≥ (0 : Int)))))) else Fits (I52 A l c R) (N1.mk (IntKind.wrap IntKind.i64 (s.1 + (1 : Int)))) (LInv.mem (I52 A l c R) (N1.mk (IntKind.wrap IntKind.i64 (s.1 + (1 : Int))))) (LInv.tmp (I52 A l c R) (N1.mk (IntKind.wrap IntKind.i64 (s.1 + (1 : Int))))) ∧ Dec (I52 A l c R) (N1.mk (IntKind.wrap IntKind.i64 (s.1 + (1 : Int)))) s else K (SX.v (SV.c (SC.val (Value.bool !decide (s.1 ≥ (0 : Int)))))) else K (SX.v (SV.c (SC.val (Value.bool true)))) else K (SX.v (SV.c (SC.val (Value.bool false))))) : evFn Tryd.prog O w0 (Γ10 O w0) (Λof 52 (I52 A l c R)) 100 5 23 [sV A l c] [] (fun y _ => K y) := vc_of h_ (by kernel_rfl)
set_option maxHeartbeats 4000000 in
set_option maxRecDepth 100000 in
theorem f26 (O : Nat → Prop) (w0 : World) (A : Option Addr) (l : List Int) (c : Nat) (R : Int → Prop) (K : SX → Prop) (h_ : bif (↑(List.length l) : Int) != (8 : Int) then K (SX.v (SV.c (SC.val (Value.bool false)))) else (∀ (s : N1), LInv.pre (I26 A l c R) s → Nat.le (0 : Nat) (List.length (LInv.mem (I26 A l c R) s))) ∧ Fits (I26 A l c R) (N1.mk (0 : Int)) (LInv.mem (I26 A l c R) (N1.mk (0 : Int))) (LInv.tmp (I26 A l c R) (N1.mk (0 : Int))) ∧ ∀ (s : N1) (J : Nat → Value), LInv.pre (I26 A l c R) s → bif decide (s.1 < (↑(List.length l) : Int)) then In s.1 (↑(List.length l) : Int) ∧ Option.isSome A = true ∧ RowAt O w0 A (1 : Nat) (ints l ((0 : Nat) + Int.toNat s.1)) ((0 : Nat) + Int.toNat s.1) ∧ bif decide (List.getD l ((0 : Nat) + Int.toNat s.1) (0 : Int) ≥ (1 : Int)) then bif !decide (List.getD l ((0 : Nat) + Int.toNat s.1) (0 : Int) ≤ (5 : Int)) then K (SX.v (SV.c (SC.val (Value.bool false)))) else Fits (I26 A l c R) (N1.mk (IntKind.wrap IntKind.i64 (s.1 + (1 : Int)))) (LInv.mem (I26 A l c R) (N1.mk (IntKind.wrap IntKind.i64 (s.1 + (1 : Int))))) (LInv.tmp (I26 A l c R) (N1.mk (IntKind.wrap IntKind.i64 (s.1 + (1 : Int))))) ∧ Dec (I26 A l c R) (N1.mk (IntKind.wrap IntKind.i64 (s.1 + (1 : Int)))) s else K (SX.v (SV.c (SC.val (Value.bool false)))) else K (SX.v (SV.c (SC.val (Value.bool true))))) : evFn Tryd.prog O w0 (Γ10 O w0) (Λof 26 (I26 A l c R)) 100 5 26 [sV A l c] [] (fun y _ => K y) := vc_of h_ (by kernel_rfl)
set_option maxHeartbeats 4000000 in
set_option maxRecDepth 100000 in
theorem f11 (O : Nat → Prop) (w0 : World) (A B : Option Addr) (l m : List Int) (c d : Nat) (R : Int → Prop) (K : SX → Prop) (h_ : bif (↑(List.length l) : Int) != (↑(List.length m) : Int) then K (SX.v (SV.c (SC.val (Value.bool false)))) else (∀ (s : N1), LInv.pre (I11 A B l m c d R) s → Nat.le (0 : Nat) (List.length (LInv.mem (I11 A B l m c d R) s))) ∧ Fits (I11 A B l m c d R) (N1.mk (0 : Int)) (LInv.mem (I11 A B l m c d R) (N1.mk (0 : Int))) (LInv.tmp (I11 A B l m c d R) (N1.mk (0 : Int))) ∧ ∀ (s : N1) (J : Nat → Value), LInv.pre (I11 A B l m c d R) s → bif decide (s.1 < (↑(List.length l) : Int)) then In s.1 (↑(List.length l) : Int) ∧ Option.isSome A = true ∧ RowAt O w0 A (1 : Nat) (ints l ((0 : Nat) + Int.toNat s.1)) ((0 : Nat) + Int.toNat s.1) ∧ In s.1 (↑(List.length m) : Int) ∧ Option.isSome B = true ∧ RowAt O w0 B (1 : Nat) (ints m ((0 : Nat) + Int.toNat s.1)) ((0 : Nat) + Int.toNat s.1) ∧ bif List.getD l ((0 : Nat) + Int.toNat s.1) (0 : Int) != List.getD m ((0 : Nat) + Int.toNat s.1) (0 : Int) then K (SX.v (SV.c (SC.val (Value.bool false)))) else Fits (I11 A B l m c d R) (N1.mk (IntKind.wrap IntKind.i64 (s.1 + (1 : Int)))) (LInv.mem (I11 A B l m c d R) (N1.mk (IntKind.wrap IntKind.i64 (s.1 + (1 : Int))))) (LInv.tmp (I11 A B l m c d R) (N1.mk (IntKind.wrap IntKind.i64 (s.1 + (1 : Int))))) ∧ Dec (I11 A B l m c d R) (N1.mk (IntKind.wrap IntKind.i64 (s.1 + (1 : Int)))) s else K (SX.v (SV.c (SC.val (Value.bool true))))) : evFn Tryd.prog O w0 (Γ10 O w0) (Λof 11 (I11 A B l m c d R)) 100 5 11 [sV A l c, sV B m d] [] (fun y _ => K y) := vc_of h_ (by kernel_rfl)
set_option maxHeartbeats 4000000 in
set_option maxRecDepth 100000 in
theorem f15 (O : Nat → Prop) (w0 : World) (a : Int) (K : SX → Prop) (h_ : bif decide (a ≥ (1 : Int)) then K (SX.v (SV.c (SC.val (Value.bool (decide (a ≤ (5 : Int))))))) else K (SX.v (SV.c (SC.val (Value.bool false))))) : evFn Tryd.prog O w0 (Γ10 O w0) Λn 100 5 15 [iV a] [] (fun y _ => K y) := vc_of h_ (by kernel_rfl)
set_option maxHeartbeats 4000000 in
set_option maxRecDepth 100000 in
theorem f16 (O : Nat → Prop) (w0 : World) (a : Int) (K : SX → Prop) (h_ : bif decide (a ≥ (1 : Int)) then K (SX.v (SV.c (SC.val (Value.bool (decide (a ≤ (5 : Int))))))) else K (SX.v (SV.c (SC.val (Value.bool false))))) : evFn Tryd.prog O w0 (Γ10 O w0) Λn 100 5 16 [iV a] [] (fun y _ => K y) := vc_of h_ (by kernel_rfl)

def stB (x : Int) : Bool := decide (x ≥ 1) && decide (x ≤ 5)
def vsB (l : List Int) : Bool := decide (l.length = 8) && l.all stB
/-- A list of numbers: rows that came in, or a list of the memory at hand. -/
structure IntsM (O : Nat → Prop) (w0 : World) (M : List Blk) (x : SX) (l : List Int) : Prop where
  out : IntsX O w0 x l ∨ ∃ k e f, x = SX.one (.lst k) ∧ M[k]? = some (.lst e 1 l.length f) ∧ ∀ j, j < l.length → f j = ints l j
def gVs : EntF := fun O w0 args M k => match args with
  | [a] => ∃ l, IntsM O w0 M a l ∧ k (bV (vsB l)) M
  | _ => False
def gSame : EntF := fun O w0 args M k => match args with
  | [a, b] => ∃ l m, IntsM O w0 M a l ∧ IntsM O w0 M b m ∧ k (bV (l == m)) M
  | _ => False
def Γ11 : TabF := addF (addF (addF (addF (addF Γ10 23 gVs) 26 gVs) 11 gSame) 15 (gB stB)) 16 (gB stB)
--HIDE
theorem invMax {O : Nat → Prop} {w0 w : World} {β : Env} {M : List Blk} (h : Inv O w0 β M w) {k : Nat} {e : TypeId} {sz n : Nat} {f : Nat → List SC} (hk : M[k]? = some (.lst e sz n f)) : n ≤ 9223372036854775807 := by
  rcases (h.ls k e sz n f hk).facts with ⟨_, e2⟩ | ⟨cap, cur, _, _, _, h3, h4, _⟩
  · omega
  · have : maxLen = 9223372036854775807 := rfl
    omega
theorem IntsM.rows {O : Nat → Prop} {w0 w : World} {β : Env} {M : List Blk} {x : SX} {l : List Int} (h : IntsM O w0 M x l) (hI : Inv O w0 β M w) :
    l.length ≤ 9223372036854775807 ∧ ∃ A c, (sV A l c).den β = x.den β ∧ ∀ j, j < l.length → A.isSome = true ∧ RowAt (fun _ => False) w A 1 (ints l j) j := by
  rcases h.out with ⟨hl, A, c, ha, hA⟩ | ⟨k, e, f, rfl, hk, hf⟩
  · exact ⟨hl, A, c, (ha β).symm, fun j hj => ⟨(hA j hj).1, (hA j hj).2.at hI.fr⟩⟩
  · obtain ⟨h1, h2⟩ := hI.rows hk
    refine ⟨invMax hI hk, _, _, h1.symm, fun j hj => ?_⟩
    rw [← hf j hj]; exact h2 j hj
theorem all_step {l : List Int} {p : Int → Bool} {i : Int} (h0 : 0 ≤ i) (h : i < l.length) (ha : (l.take i.toNat).all p = true) (hp : p (l.getD i.toNat 0) = true) : (l.take (i + 1).toNat).all p = true := by
  have hn : i.toNat < l.length := by omega
  rw [show (i + 1).toNat = i.toNat + 1 by omega, List.take_succ_eq_append_getElem hn, List.all_append, ha]
  rw [List.getD_eq_getElem?_getD, List.getElem?_eq_getElem hn] at hp
  simpa using hp
theorem all_not {l : List Int} {p : Int → Bool} {i : Int} (h0 : 0 ≤ i) (h : i < l.length) (hp : p (l.getD i.toNat 0) = false) : l.all p = false := by
  have hn : i.toNat < l.length := by omega
  rw [List.getD_eq_getElem?_getD, List.getElem?_eq_getElem hn] at hp
  cases ha : l.all p with
  | false => rfl
  | true =>
    have := List.all_eq_true.1 ha _ (List.getElem_mem hn)
    simp only [Option.getD_some] at hp
    rw [hp] at this; cases this
theorem stB_ge {x : Int} (h : decide (x ≥ 1) = false) : stB x = false := by unfold stB; rw [h]; rfl
theorem stB_le {x : Int} (h : (!decide (x ≤ 5)) = true) : stB x = false := by unfold stB; rw [Bool.not_eq_true'] at h; rw [h]; simp
theorem stB_ok {x : Int} (h : decide (x ≥ 1) = true) (h2 : (!decide (x ≤ 5)) = false) : stB x = true := by unfold stB; rw [Bool.not_eq_false'] at h2; rw [h, h2]; rfl
theorem vs23 {O : Nat → Prop} {w0 : World} {A : Option Addr} {l : List Int} {c : Nat} (hA : ∀ j, j < l.length → A.isSome = true ∧ RowAt O w0 A 1 (ints l j) j) (hl : l.length ≤ 9223372036854775807) :
    ∃ Λ, evFn Tryd.prog O w0 (Γ10 O w0) Λ 100 5 23 [sV A l c] [] (fun y _ => ∀ β, y.den β = (bV (vsB l)).den β) := by
  refine ⟨_, f23 _ w0 A l c (fun i => 0 ≤ i ∧ i ≤ l.length ∧ (l.take i.toNat).all stB = true) _ ?_⟩
  refine cond_of (fun h8 => ?_) (fun h8 => ?_)
  rotate_left
  · have : vsB l = false := by unfold vsB; rw [decide_eq_false (by simp at h8; omega)]; rfl
    rw [this]; exact fun _ => rfl
  have h8 : l.length = 8 := by simp at h8; omega
  have hT : ∀ {b : Bool}, l.all stB = b → vsB l = b := fun hb => by unfold vsB; rw [decide_eq_true h8, hb]; rfl
  refine ⟨fun _ _ => Nat.zero_le _, ⟨⟨by omega, by omega, rfl⟩, rfl, fun _ => rfl⟩, ?_⟩
  rintro ⟨i⟩ J ⟨h0, h1, ht⟩
  refine cond_of (fun h => ?_) (fun h => ?_)
  · have hlt : i < l.length := by simpa using h
    have e0 : 0 + i.toNat = i.toNat := Nat.zero_add _
    simp only [e0]
    have hno : stB (l.getD i.toNat 0) = false → ∀ β, (bV (!decide (i ≥ 0))).den β = (bV (vsB l)).den β := fun hb β => by
      rw [hT (all_not h0 hlt hb), decide_eq_true (show i ≥ 0 by omega)]; rfl
    refine ⟨⟨h0, hlt⟩, (hA i.toNat (by omega)).1, (hA i.toNat (by omega)).2, cond_of (fun h2 => cond_of (fun h3 => hno (stB_le h3)) (fun h3 => ?_)) (fun h2 => hno (stB_ge h2))⟩
    rw [wrap_in (by omega) (by omega)]
    exact ⟨⟨⟨by omega, by omega, all_step h0 hlt ht (stB_ok h2 h3)⟩, rfl, fun _ => rfl⟩, ⟨by show (_ : Int).toNat < (_ : Int).toNat; omega⟩⟩
  · have hge : ¬ i < l.length := by simpa using h
    have hi : i.toNat = l.length := by omega
    rw [hi, List.take_length] at ht
    rw [hT ht]; exact fun _ => rfl
theorem vs26 {O : Nat → Prop} {w0 : World} {A : Option Addr} {l : List Int} {c : Nat} (hA : ∀ j, j < l.length → A.isSome = true ∧ RowAt O w0 A 1 (ints l j) j) (hl : l.length ≤ 9223372036854775807) :
    ∃ Λ, evFn Tryd.prog O w0 (Γ10 O w0) Λ 100 5 26 [sV A l c] [] (fun y _ => ∀ β, y.den β = (bV (vsB l)).den β) := by
  refine ⟨_, f26 _ w0 A l c (fun i => 0 ≤ i ∧ i ≤ l.length ∧ (l.take i.toNat).all stB = true) _ ?_⟩
  refine cond_of (fun h8 => ?_) (fun h8 => ?_)
  · have : vsB l = false := by unfold vsB; rw [decide_eq_false (by simp at h8; omega)]; rfl
    rw [this]; exact fun _ => rfl
  have h8 : l.length = 8 := by simp at h8; omega
  have hT : ∀ {b : Bool}, l.all stB = b → vsB l = b := fun hb => by unfold vsB; rw [decide_eq_true h8, hb]; rfl
  refine ⟨fun _ _ => Nat.zero_le _, ⟨⟨by omega, by omega, rfl⟩, rfl, fun _ => rfl⟩, ?_⟩
  rintro ⟨i⟩ J ⟨h0, h1, ht⟩
  refine cond_of (fun h => ?_) (fun h => ?_)
  · have hlt : i < l.length := by simpa using h
    have e0 : 0 + i.toNat = i.toNat := Nat.zero_add _
    simp only [e0]
    have hno : stB (l.getD i.toNat 0) = false → ∀ β, (bV false).den β = (bV (vsB l)).den β := fun hb β => by
      rw [hT (all_not h0 hlt hb)]
    refine ⟨⟨h0, hlt⟩, (hA i.toNat (by omega)).1, (hA i.toNat (by omega)).2, cond_of (fun h2 => cond_of (fun h3 => hno (stB_le h3)) (fun h3 => ?_)) (fun h2 => hno (stB_ge h2))⟩
    rw [wrap_in (by omega) (by omega)]
    exact ⟨⟨⟨by omega, by omega, all_step h0 hlt ht (stB_ok h2 h3)⟩, rfl, fun _ => rfl⟩, ⟨by show (_ : Int).toNat < (_ : Int).toNat; omega⟩⟩
  · have hge : ¬ i < l.length := by simpa using h
    have hi : i.toNat = l.length := by omega
    rw [hi, List.take_length] at ht
    rw [hT ht]; exact fun _ => rfl
theorem same11 {O : Nat → Prop} {w0 : World} {A B : Option Addr} {l m : List Int} {c d : Nat} (hA : ∀ j, j < l.length → A.isSome = true ∧ RowAt O w0 A 1 (ints l j) j) (hB : ∀ j, j < m.length → B.isSome = true ∧ RowAt O w0 B 1 (ints m j) j) (hl : l.length ≤ 9223372036854775807) :
    ∃ Λ, evFn Tryd.prog O w0 (Γ10 O w0) Λ 100 5 11 [sV A l c, sV B m d] [] (fun y _ => ∀ β, y.den β = (bV (l == m)).den β) := by
  refine ⟨_, f11 _ w0 A B l m c d (fun i => 0 ≤ i ∧ i ≤ l.length ∧ l.take i.toNat = m.take i.toNat) _ ?_⟩
  have hF : l ≠ m → ∀ β, (bV false).den β = (bV (l == m)).den β := fun hne β => by
    rw [beq_eq_false_iff_ne.2 hne]
  refine cond_of (fun h8 => hF (fun e => by subst e; simp at h8)) (fun h8 => ?_)
  have h8 : l.length = m.length := by simp at h8; omega
  refine ⟨fun _ _ => Nat.zero_le _, ⟨⟨by omega, by omega, rfl⟩, rfl, fun _ => rfl⟩, ?_⟩
  rintro ⟨i⟩ J ⟨h0, h1, ht⟩
  refine cond_of (fun h => ?_) (fun h => ?_)
  · have hlt : i < l.length := by simpa using h
    have e0 : 0 + i.toNat = i.toNat := Nat.zero_add _
    simp only [e0]
    refine ⟨⟨h0, hlt⟩, (hA i.toNat (by omega)).1, (hA i.toNat (by omega)).2, ⟨h0, by omega⟩, (hB i.toNat (by omega)).1, (hB i.toNat (by omega)).2, cond_of (fun h2 => hF (fun e => by subst e; simp at h2)) (fun h2 => ?_)⟩
    rw [wrap_in (by omega) (by omega)]
    refine ⟨⟨⟨by omega, by omega, ?_⟩, rfl, fun _ => rfl⟩, ⟨by show (_ : Int).toNat < (_ : Int).toNat; omega⟩⟩
    rw [show (i + 1).toNat = i.toNat + 1 by omega]
    exact take_one (by omega) (by omega) ht (by simpa using h2)
  · have hge : ¬ i < l.length := by simpa using h
    have hi : i.toNat = l.length := by omega
    rw [hi, List.take_length, h8, List.take_length] at ht
    subst ht
    simp
theorem eVs {f : FuncId} (h : ∀ {O : Nat → Prop} {w0 : World} {A : Option Addr} {l : List Int} {c : Nat}, (∀ j, j < l.length → A.isSome = true ∧ RowAt O w0 A 1 (ints l j) j) → l.length ≤ 9223372036854775807 →
    ∃ Λ, evFn Tryd.prog O w0 (Γ10 O w0) Λ 100 5 f [sV A l c] [] (fun y _ => ∀ β, y.den β = (bV (vsB l)).den β)) (O : Nat → Prop) (w0 : World) : Entry Tryd.prog O w0 f (gVs O w0) :=
  Entry.pureM Γ10_ok 100 5 (g := gVs) (fun O w0 args M k hg => by
    unfold gVs at hg
    split at hg
    case h_2 => exact hg.elim
    obtain ⟨l, hx, hk⟩ := hg
    refine ⟨_, rfl, hk, fun β w hI => ?_⟩
    obtain ⟨hl, A, c, ha, hA⟩ := hx.rows hI
    obtain ⟨Λ, hev⟩ := h (O := fun _ => False) (w0 := w) (c := c) hA hl
    exact ⟨_, Λ, by unfold fr; simp only [List.map_cons, ha, List.map_nil], hev⟩) O w0
theorem e23 (O : Nat → Prop) (w0 : World) : Entry Tryd.prog O w0 23 (gVs O w0) := eVs vs23 O w0
theorem e26 (O : Nat → Prop) (w0 : World) : Entry Tryd.prog O w0 26 (gVs O w0) := eVs vs26 O w0
theorem e11 (O : Nat → Prop) (w0 : World) : Entry Tryd.prog O w0 11 (gSame O w0) :=
  Entry.pureM Γ10_ok 100 5 (g := gSame) (fun O w0 args M k hg => by
    unfold gSame at hg
    split at hg
    case h_2 => exact hg.elim
    obtain ⟨l, m, hx, hy, hk⟩ := hg
    refine ⟨_, rfl, hk, fun β w hI => ?_⟩
    obtain ⟨hl, A, c, ha, hA⟩ := hx.rows hI
    obtain ⟨hm, B, d, hb, hB⟩ := hy.rows hI
    obtain ⟨Λ, hev⟩ := same11 (O := fun _ => False) (w0 := w) (c := c) (d := d) hA hB hl
    exact ⟨_, Λ, by unfold fr; simp only [List.map_cons, ha, hb, List.map_nil], hev⟩) O w0
theorem Entry.gB {f : FuncId} {q : Int → Bool} (h : ∀ (w : World) (a : Int), evFn Tryd.prog (fun _ => False) w (Γ10 (fun _ => False) w) Λn 100 5 f [iV a] [] (fun y _ => y = bV (q a))) : ∀ O w0, Entry Tryd.prog O w0 f (Cm.gB q O w0) :=
  Entry.pure Γ10_ok 100 5 (g := Cm.gB q) (fun O w0 args M k hg => by
    unfold Cm.gB at hg
    split at hg
    · rename_i a
      exact ⟨_, _, rfl, hg, fun _ => rfl, fun w _ => ⟨_, h w a⟩⟩
    · exact hg.elim)
theorem e15 (O : Nat → Prop) (w0 : World) : Entry Tryd.prog O w0 15 (gB stB O w0) := Br.Entry.gB (f := 15) (q := stB) (fun w a => f15 _ w a _ (cond_of (fun h => by unfold stB; rw [h]; rfl) (fun h => by unfold stB; rw [h]; rfl))) O w0
theorem e16 (O : Nat → Prop) (w0 : World) : Entry Tryd.prog O w0 16 (gB stB O w0) := Br.Entry.gB (f := 16) (q := stB) (fun w a => f16 _ w a _ (cond_of (fun h => by unfold stB; rw [h]; rfl) (fun h => by unfold stB; rw [h]; rfl))) O w0
theorem Γ11_ok : TSF Tryd.prog Γ11 := ((((Γ10_ok.add e23).add e26).add e11).add e15).add e16
--SHOW
end Go.Proofs.YtomnecadhiflnaaDoor.Br
