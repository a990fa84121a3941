/- The codec that reads: the next field; the kind with a name; the place of a word. -/
import Derived.Test.YtfhckpfiegenaaaGreatDoorCm19
namespace Go.Proofs.YtfhckpfiegenaaaGreatDoor.Tr
open Go Go.RowKit Go.Proofs.YtfhckpfiegenaaaGreatDoor.Eng Go.Proofs.YtfhckpfiegenaaaGreatDoor.Cm
set_option linter.unusedVariables false
set_option linter.unusedSimpArgs false
set_option maxRecDepth 8000
/-- A codec that reads. -/
abbrev rdB (p n : Nat) (a : Int) (s w : Bool) : Blk := .mk 61 [.val (.bool true), .lsub p 1 1 n, .val (.int .i64 a), .val (.bool s), .val (.bool w)]
/-- The next field: t; whether there was none. -/
structure NxIs (xs : List ByteArray) (a : Int) (s : Bool) (t : ByteArray) (a' : Int) (s' : Bool) : Prop where
  is : t = if a < xs.length then xs.getD a.toNat ⟨#[63]⟩ else ⟨#[48]⟩
  to : a' = if a < xs.length then a + 1 else a
  bad : s' = (s || !decide (a < xs.length))
structure NxOk (L : List ByteArray) (n m : Nat) (a : Int) : Prop where
  m : m = L.length
  len : L.length = n + 1
  le : n ≤ 1000001
  a0 : 0 ≤ a
  a1 : a ≤ n
def gNx (L : List ByteArray) : EntF := fun O w0 args M k => match args with
  | [.v (.c (.ptr c 0))] => (match M[c]? with
    | some (.mk 61 [.val (.bool true), .lsub p 1 1 n, .val (.int .i64 a), .val (.bool s), .val (.bool w)]) => (match M[p]? with
      | some (.lst 9 1 m F) => F = strsAt L ∧ NxOk L n m a ∧ ∀ t a' s', NxIs L.tail a s t a' s' → postK M [c, p] [rdB 1 n a' s' w, .lst 9 1 m (strsAt L)] (tV t) k
      | _ => False)
    | _ => False)
  | _ => False
set_option maxHeartbeats 4000000 in
set_option maxRecDepth 100000 in
theorem f74 (O : Nat → Prop) (w0 : World) (L : List ByteArray) (n m : Nat) (a : Int) (s w : Bool) (K : SX → List Blk → Prop) (h_ : In ((↑(1 : Nat) : Int) + (↑n : Int)) ((↑m : Int) + (1 : Int)) ∧ bif decide (a ≥ (↑n : Int)) then K (SX.v (SV.c (SC.val (Value.string (ByteArray.mk #[(48 : UInt8)]))))) [Blk.mk (nat_lit 61) [SC.val (Value.bool true), SC.lsub 1 1 1 n, SC.val (Value.int IntKind.i64 a), SC.val (Value.bool true), SC.val (Value.bool w)], Blk.lst (nat_lit 9) (1 : Nat) m (strsAt L)] else In (IntKind.wrap IntKind.i64 (IntKind.wrap IntKind.i64 (a + (1 : Int)) - (1 : Int))) (↑n : Int) ∧ In ((↑(1 : Nat) : Int) + (↑n : Int)) ((↑m : Int) + (1 : Int)) ∧ In (↑((1 : Nat) + Int.toNat (IntKind.wrap IntKind.i64 (IntKind.wrap IntKind.i64 (a + (1 : Int)) - (1 : Int)))) : Int) (↑m : Int) ∧ K (SX.v (SV.c (SC.val (Value.string (List.getD L ((1 : Nat) + Int.toNat (IntKind.wrap IntKind.i64 (IntKind.wrap IntKind.i64 (a + (1 : Int)) - (1 : Int)))) (ByteArray.mk #[(63 : UInt8)])))))) [Blk.mk (nat_lit 61) [SC.val (Value.bool true), SC.lsub 1 1 1 n, SC.val (Value.int IntKind.i64 (IntKind.wrap IntKind.i64 (a + (1 : Int)))), SC.val (Value.bool s), SC.val (Value.bool w)], Blk.lst (nat_lit 9) (1 : Nat) m (strsAt L)]) : evFn Tryz.prog O w0 ((fun _ _ _ => none : TabF) O w0) Λn 100 5 74 [.v (.c (.ptr 0 0))] [rdB 1 n a s w, .lst 9 1 m (strsAt L)] (fun y M => K y M) := vc_of h_ (by kernel_rfl)
/-- The place of a word in a list, or -1. -/
def eqT (t x : ByteArray) : Bool := byt x == byt t
def idxT (l : List ByteArray) (t : ByteArray) : Int := if l.findIdx (eqT t) < l.length then ((l.findIdx (eqT t) : Nat) : Int) else -1
structure IxIs (l : List ByteArray) (t : ByteArray) (i : Int) : Prop where
  eq : i = idxT l t
/-- A list of words: one that came in, or a block of words. -/
structure TabN (O : Nat → Prop) (w0 : World) (M : List Blk) (t : SX) (l : List ByteArray) : Prop where
  out : StrsR O w0 t l ∨ (l.length ≤ 1000 ∧ ∃ b cap, t = .v (.c (.sl b 0 l.length cap)) ∧ M[b]? = some (.mk 9 (l.map fun s => SC.val (.string s))))
def gIx : EntF := fun O w0 args M k => match args with
  | [a, .v (.c (.val (.string t)))] => ∃ l, TabN O w0 M a l ∧ ∀ i, IxIs l t i → k (iV i) M
  | _ => False
def I76 (A : Option Addr) (l : List ByteArray) (c : Nat) (t : ByteArray) (R : Int → Prop) : LInv where
  σ := PS1
  pre := fun ⟨i⟩ => R i
  mem := fun _ => []
  tmp := fun ⟨i⟩ J => [tbV A l c, tV t, jV (J 2), jV (J 3), jV (J 4), jV (J 5), jV (J 6), iV l.length, iV i, jV (J 9), jV (J 10), jV (J 11), jV (J 12), jV (J 13), jV (J 14), jV (J 15), jV (J 16), jV (J 17), jV (J 18)]
  read := fun _ _ => ⟨0⟩
  junk := [2, 3, 4, 5, 6, 9, 10, 11, 12, 13, 14, 15, 16, 17, 18]
  μ := fun ⟨i⟩ => (l.length - i).toNat
  keep := some fun _ _ => []
  ex := true
set_option maxHeartbeats 4000000 in
set_option maxRecDepth 100000 in
theorem f76 (O : Nat → Prop) (w0 : World) (A : Option Addr) (l : List ByteArray) (c : Nat) (t : ByteArray) (R : Int → Prop) (K : SX → Prop) (h_ : (∀ (s : PS1), LInv.pre (I76 A l c t R) s → Nat.le (0 : Nat) (List.length (LInv.mem (I76 A l c t R) s))) ∧ (FitE (I76 A l c t R) [] (fun J ↦ [SX.v (SV.c (SC.rsl A (1 : Nat) (strsAt l) (0 : Nat) (List.length l) c)), SX.v (SV.c (SC.val (Value.string t))), jV (J 2), jV (J 3), jV (J 4), jV (J 5), jV (J 6), SX.v (SV.c (SC.val (Value.int IntKind.i64 (↑(List.length l) : Int)))), SX.v (SV.c (SC.val (Value.int IntKind.i64 0))), jV (J 9), jV (J 10), jV (J 11), jV (J 12), jV (J 13), jV (J 14), jV (J 15), jV (J 16), jV (J 17), jV (J 18)]) fun x ↦ True) ∧ ∀ (s : PS1) (J : Nat → Value), LInv.pre (I76 A l c t R) s → bif decide (s.1 < (↑(List.length l) : Int)) then In s.1 (↑(List.length l) : Int) ∧ Option.isSome A = true ∧ RowAt O w0 A (1 : Nat) (strsAt l ((0 : Nat) + Int.toNat s.1)) ((0 : Nat) + Int.toNat s.1) ∧ bif ByteArray.toList t == ByteArray.toList (List.getD l ((0 : Nat) + Int.toNat s.1) (ByteArray.mk #[(63 : UInt8)])) then K (SX.v (SV.c (SC.val (Value.int IntKind.i64 s.1)))) else FitE (I76 A l c t R) [] (fun J ↦ [SX.v (SV.c (SC.rsl A (1 : Nat) (strsAt l) (0 : Nat) (List.length l) c)), SX.v (SV.c (SC.val (Value.string t))), jV (J 2), jV (J 3), jV (J 4), jV (J 5), jV (J 6), SX.v (SV.c (SC.val (Value.int IntKind.i64 (↑(List.length l) : Int)))), SX.v (SV.c (SC.val (Value.int IntKind.i64 (IntKind.wrap IntKind.i64 (s.1 + (1 : Int)))))), jV (J 9), jV (J 10), jV (J 11), jV (J 12), jV (J 13), jV (J 14), jV (J 15), jV (J 16), jV (J 17), jV (J 18)]) fun s' ↦ LInv.μ (I76 A l c t R) s' < LInv.μ (I76 A l c t R) s else K (SX.v (SV.c (SC.val (Value.int IntKind.i64 (-1 : Int)))))) : evFn Tryz.prog O w0 ((fun _ _ _ => none : TabF) O w0) (Λof 76 (I76 A l c t R)) 100 5 76 [tbV A l c, tV t] [] (fun y _ => K y) := vc_of h_ (by kernel_rfl)
/-- The kind with a name, or 0. -/
def kdS (s : ByteArray) : Int := idxT nmTab s + 1
structure KdIs (s : ByteArray) (n : Int) : Prop where
  eq : n = kdS s
def gKd (n : Int) : EntF := fun O w0 args M k => match args with
  | [.v (.c (.val (.string s)))] => GlT O w0 ∧ KdIs s n ∧ k (iV n) M
  | _ => False
def I27 (s : ByteArray) (R : Int → Prop) : LInv where
  σ := PS1
  pre := fun ⟨i⟩ => R i
  mem := fun _ => []
  tmp := fun ⟨i⟩ J => [tV s, jV (J 1), jV (J 2), iV i, jV (J 4), jV (J 5), jV (J 6), jV (J 7), jV (J 8), jV (J 9), jV (J 10), jV (J 11), jV (J 12)]
  read := fun _ _ => ⟨0⟩
  junk := [1, 2, 4, 5, 6, 7, 8, 9, 10, 11, 12]
  μ := fun ⟨i⟩ => (15 - i).toNat
  keep := some fun _ _ => []
  ex := true
set_option maxHeartbeats 4000000 in
set_option maxRecDepth 100000 in
theorem f27 (O : Nat → Prop) (w0 : World) (s : ByteArray) (R : Int → Prop) (K : SX → Prop) (h_ : (∀ (s_1 : PS1), LInv.pre (I27 s R) s_1 → Nat.le (0 : Nat) (List.length (LInv.mem (I27 s R) s_1))) ∧ (FitE (I27 s R) [] (fun J ↦ [SX.v (SV.c (SC.val (Value.string s))), jV (J 1), jV (J 2), SX.v (SV.c (SC.val (Value.int IntKind.i64 1))), jV (J 4), jV (J 5), jV (J 6), jV (J 7), jV (J 8), jV (J 9), jV (J 10), jV (J 11), jV (J 12)]) fun x ↦ True) ∧ ∀ (s_1 : PS1) (J : Nat → Value), LInv.pre (I27 s R) s_1 → bif decide (s_1.1 ≤ (14 : Int)) then Gl0 O w0 ∧ bif ByteArray.toList (nmS s_1.1) == ByteArray.toList s then K (SX.v (SV.c (SC.val (Value.int IntKind.i64 s_1.1)))) else FitE (I27 s R) [] (fun J ↦ [SX.v (SV.c (SC.val (Value.string s))), jV (J 1), jV (J 2), SX.v (SV.c (SC.val (Value.int IntKind.i64 (IntKind.wrap IntKind.i64 (s_1.1 + (1 : Int)))))), jV (J 4), jV (J 5), jV (J 6), jV (J 7), jV (J 8), jV (J 9), jV (J 10), jV (J 11), jV (J 12)]) fun s' ↦ LInv.μ (I27 s R) s' < LInv.μ (I27 s R) s_1 else K (SX.v (SV.c (SC.val (Value.int IntKind.i64 0))))) : evFn Tryz.prog O w0 (Γ6 O w0) (Λof 27 (I27 s R)) 100 5 27 [tV s] [] (fun y _ => K y) := vc_of h_ (by kernel_rfl)
def Γk : TabF := addF (fun _ _ => Γ0) 24 gNmR
set_option maxHeartbeats 4000000 in
set_option maxRecDepth 100000 in
theorem f29 (O : Nat → Prop) (w0 : World) (s : ByteArray) (R : Int → Prop) (K : SX → Prop) (h_ : (∀ (s_1 : PS1), LInv.pre (I27 s R) s_1 → Nat.le (0 : Nat) (List.length (LInv.mem (I27 s R) s_1))) ∧ (FitE (I27 s R) [] (fun J ↦ [SX.v (SV.c (SC.val (Value.string s))), jV (J 1), jV (J 2), SX.v (SV.c (SC.val (Value.int IntKind.i64 1))), jV (J 4), jV (J 5), jV (J 6), jV (J 7), jV (J 8), jV (J 9), jV (J 10), jV (J 11), jV (J 12)]) fun x ↦ True) ∧ ∀ (s_1 : PS1) (J : Nat → Value), LInv.pre (I27 s R) s_1 → bif decide (s_1.1 ≤ (14 : Int)) then I64 s_1.1 ∧ ∀ (r : ByteArray), r = nmS s_1.1 → bif ByteArray.toList s == ByteArray.toList r then K (SX.v (SV.c (SC.val (Value.int IntKind.i64 s_1.1)))) else FitE (I27 s R) [] (fun J ↦ [SX.v (SV.c (SC.val (Value.string s))), jV (J 1), jV (J 2), SX.v (SV.c (SC.val (Value.int IntKind.i64 (IntKind.wrap IntKind.i64 (s_1.1 + (1 : Int)))))), jV (J 4), jV (J 5), jV (J 6), jV (J 7), jV (J 8), jV (J 9), jV (J 10), jV (J 11), jV (J 12)]) fun s' ↦ LInv.μ (I27 s R) s' < LInv.μ (I27 s R) s_1 else K (SX.v (SV.c (SC.val (Value.int IntKind.i64 0))))) : evFn Tryz.prog O w0 (Γk O w0) (Λof 29 (I27 s R)) 100 5 29 [tV s] [] (fun y _ => K y) := vc_of h_ (by kernel_rfl)
--HIDE
theorem tail_getD {L : List ByteArray} {i : Nat} {d : ByteArray} : L.tail.getD i d = L.getD (1 + i) d := by
  rw [List.getD_eq_getElem?_getD, List.getD_eq_getElem?_getD, List.getElem?_tail, Nat.add_comm]
theorem e74 (L : List ByteArray) (O : Nat → Prop) (w0 : World) : EntryW Tryz.prog O w0 74 (gNx L O w0) :=
  Entry.ownN (TSF.none _) 100 5 (g := gNx L) (fun O w0 args M k hg β w hI => by
    unfold gNx at hg
    split at hg
    case h_2 => exact hg.elim
    rename_i c
    split at hg
    case h_2 => exact hg.elim
    rename_i p n a s w' hc
    split at hg
    case h_2 => exact hg.elim
    rename_i m F hp
    obtain ⟨rfl, ⟨hm, hn, hle, a0, a1⟩, hk⟩ := hg
    have htl : (L.tail.length : Int) = n := by rw [List.length_tail]; omega
    have hcp : c ≠ p := fun e => by subst e; rw [hc] at hp; cases hp
    refine ⟨[c, p], [rdB 1 n a s w', .lst 9 1 m (strsAt L)], [.v (.c (.ptr 0 0))], Λn, by simp [hcp], rfl, fun j i b hj hb => ?_, rfl, rfl, @f74 _ w L n m a s w' _ ?_⟩
    · match j, hj, hb with
      | 0, hj, hb => cases hj; cases hb; exact ⟨_, hc, rfl, rfl⟩
      | 1, hj, hb => cases hj; cases hb; exact ⟨_, hp, rfl, rfl, rfl, fun _ _ => rfl⟩
      | j + 2, hj, hb => simp at hj
    · refine ⟨⟨by omega, by omega⟩, cond_of (fun h => ?_) (fun h => ?_)⟩
      · have h := of_decide_eq_true h
        exact ⟨[.at_ 0, .at_ 1], _, [rdB 1 n a true w', .lst 9 1 m (strsAt L)], _, rfl, rfl, rfl, ⟨rfl, ⟨_, rfl, fun _ _ => rfl⟩, trivial⟩, rfl, hk _ a true ⟨by rw [htl, if_neg (by omega)], by rw [htl, if_neg (by omega)], by rw [htl, decide_eq_false (by omega)]; simp⟩⟩
      · have h := of_decide_eq_false h
        have w1 : IntKind.i64.wrap (a + 1) = a + 1 := wrap_in (by omega) (by omega)
        have w2 : IntKind.i64.wrap (a + 1 - 1) = a := by rw [wrap_in (by omega) (by omega)]; omega
        rw [w1, w2]
        refine ⟨⟨by omega, by omega⟩, ⟨by omega, by omega⟩, ⟨by omega, by omega⟩, [.at_ 0, .at_ 1], _, [rdB 1 n (a + 1) s w', .lst 9 1 m (strsAt L)], _, rfl, rfl, rfl, ⟨rfl, ⟨_, rfl, fun _ _ => rfl⟩, trivial⟩, rfl, hk _ (a + 1) s ⟨?_, by rw [htl, if_pos (by omega)], by rw [htl, decide_eq_true (by omega)]; simp⟩⟩
        rw [htl, if_pos (by omega), tail_getD]) O w0
theorem beqT (a b : ByteArray) : (a.toList == b.toList) = eqT b a := by
  rw [blist, blist]; rfl
theorem beqT' (a b : ByteArray) : (a.toList == b.toList) = eqT a b := by
  rw [blist, blist]
  unfold eqT
  rw [Bool.eq_iff_iff]
  simp only [beq_iff_eq]
  exact ⟨fun h => h.symm, fun h => h.symm⟩
structure NoT (l : List ByteArray) (t : ByteArray) (i : Int) : Prop where
  lo : 0 ≤ i
  hi : i ≤ l.length
  at_ : ∀ (j : Nat) (hj : j < l.length), (j : Int) < i → eqT t l[j] = false
theorem NoT.hit {l : List ByteArray} {t : ByteArray} {i : Int} (h : NoT l t i) (h1 : i < l.length) (he : eqT t (l.getD i.toNat ⟨#[63]⟩) = true) : idxT l t = i := by
  have h0 := h.lo
  have hl : i.toNat < l.length := by omega
  rw [List.getD_eq_getElem?_getD, List.getElem?_eq_getElem hl] at he
  have e : l.findIdx (eqT t) = i.toNat := (List.findIdx_eq hl).2 ⟨he, fun j hj => h.at_ j (by omega) (by omega)⟩
  unfold idxT
  rw [e, if_pos hl]; omega
theorem NoT.snoc {l : List ByteArray} {t : ByteArray} {i : Int} (h : NoT l t i) (h1 : i < l.length) (he : eqT t (l.getD i.toNat ⟨#[63]⟩) = false) : NoT l t (i + 1) := ⟨by have := h.lo; omega, by omega, fun j hj hji => by
  have h0 := h.lo
  by_cases e : j = i.toNat
  · subst e
    rw [List.getD_eq_getElem?_getD, List.getElem?_eq_getElem hj] at he
    exact he
  · exact h.at_ j hj (by omega)⟩
theorem NoT.end_ {l : List ByteArray} {t : ByteArray} {i : Int} (h : NoT l t i) (h1 : ¬ i < l.length) : idxT l t = -1 := by
  have e : l.findIdx (eqT t) = l.length := List.findIdx_eq_length.2 fun x hx => by
    obtain ⟨j, hj, rfl⟩ := List.mem_iff_getElem.1 hx
    exact h.at_ j hj (by omega)
  unfold idxT
  rw [e, if_neg (by omega)]
theorem TabN.rows {O : Nat → Prop} {w0 w : World} {β : Env} {M : List Blk} {t : SX} {l : List ByteArray} (h : TabN O w0 M t l) (hI : Inv O w0 β M w) : l.length ≤ 1000 ∧ ∃ A cap, (tbV A l cap).den β = t.den β ∧ ∀ j, j < l.length → A.isSome = true ∧ RowAt (fun _ => False) w A 1 (strsAt l j) j := by
  rcases h.out with ⟨hle, A, cap, ha, hA⟩ | ⟨hle, b, cap, rfl, hb⟩
  · exact ⟨hle, A, cap, (ha β).symm, fun j hj => ⟨(hA j hj).1, (hA j hj).2.at hI.fr⟩⟩
  · refine ⟨hle, some ⟨β b, 0, none⟩, cap, ?_, fun j hj => ⟨rfl, ⟨β b, 0, none⟩, rfl, hI.lt hb trivial, fun h => h, rfl, fun i x hx => ?_⟩⟩
    · show Value.slice (some (Addr.add ⟨β b, 0, none⟩ (0 * 1))) l.length cap = .slice (some ⟨β b, 0, none⟩) l.length cap
      rw [Nat.zero_mul, add0]
    · have hi : i = 0 := by
        cases i with
        | zero => rfl
        | succ i => simp [strsAt] at hx
      subst hi
      cases hx
      rw [add_plain0, Nat.mul_one, Nat.add_zero, hI.cell hb (off := j) (x := .val (.string (l.getD j ⟨#[63]⟩))) (by
        show (l.map fun s => SC.val (.string s))[j]? = _
        rw [List.getElem?_map, List.getD_eq_getElem?_getD, List.getElem?_eq_getElem hj]; rfl)]
      rfl
theorem e76 (O : Nat → Prop) (w0 : World) : Entry Tryz.prog O w0 76 (gIx O w0) :=
  Entry.pureM (TSF.none _) 100 5 (g := gIx) (fun O w0 args M k hg => by
    unfold gIx at hg
    split at hg
    case h_2 => exact hg.elim
    rename_i a t
    obtain ⟨l, hT, hk⟩ := hg
    refine ⟨_, rfl, hk _ ⟨rfl⟩, fun β w hI => ?_⟩
    obtain ⟨hle, A, cap, hd, hrow⟩ := hT.rows hI
    refine ⟨[tbV A l cap, tV t], _, by unfold fr; simp only [List.map_cons, hd, List.map_nil], @f76 _ w A l cap t (NoT l t) _ ⟨fun _ _ => Nat.zero_le _, ⟨⟨⟨0⟩, ⟨Int.le_refl _, by omega, fun j _ hj => by omega⟩, trivial, fun _ => rfl, trivial⟩⟩, ?_⟩⟩
    rintro ⟨i⟩ J hN
    have hN : NoT l t i := hN
    have i0 := hN.lo
    dsimp only
    rw [Nat.zero_add]
    refine cond_of (fun hi => ?_) (fun hi => ?_)
    · have hi := of_decide_eq_true hi
      have hr := hrow i.toNat (by omega)
      rw [beqT', wrap_in (n := i + 1) (by omega) (by omega)]
      refine ⟨⟨i0, hi⟩, hr.1, hr.2, cond_of (fun he => ?_) (fun he => ?_)⟩
      · rw [hN.hit hi he]; exact fun _ => rfl
      · exact ⟨⟨⟨i + 1⟩, hN.snoc hi he, trivial, fun _ => rfl, by show (_ : Int).toNat < (_ : Int).toNat; omega⟩⟩
    · rw [hN.end_ (of_decide_eq_false hi)]; exact fun _ => rfl) O w0
theorem nmS_at {i : Int} (h0 : 1 ≤ i) (h1 : i ≤ 14) : nmS i = nmTab.getD (i - 1).toNat ⟨#[63]⟩ := by
  unfold nmS nmAt
  rw [if_neg (by omega)]
def R27 (s : ByteArray) : Int → Prop := fun i => NoT nmTab s (i - 1)
theorem nmTab_len : (nmTab.length : Int) = 14 := rfl
theorem e27 (n : Int) (O : Nat → Prop) (w0 : World) : Entry Tryz.prog O w0 27 (gKd n O w0) :=
  Entry.pure Γ6_ok 100 5 (g := gKd n) (fun O w0 args M k hg => by
    unfold gKd at hg
    split at hg
    case h_2 => exact hg.elim
    rename_i s
    obtain ⟨hG, ⟨rfl⟩, hk⟩ := hg
    refine ⟨_, _, rfl, hk, fun _ => rfl, fun w hw => ⟨_, @f27 _ w s (R27 s) _ ⟨fun _ _ => Nat.zero_le _, ⟨⟨⟨1⟩, ⟨by omega, by rw [nmTab_len]; omega, fun j _ hj => by omega⟩, trivial, fun _ => rfl, trivial⟩⟩, ?_⟩⟩⟩
    rintro ⟨i⟩ J hN
    have hN : NoT nmTab s (i - 1) := hN
    have i0 := hN.lo
    have i1 := hN.hi
    rw [nmTab_len] at i1
    dsimp only
    refine cond_of (fun hi => ?_) (fun hi => ?_)
    · have hi : i ≤ 14 := of_decide_eq_true hi
      rw [beqT, wrap_in (n := i + 1) (by omega) (by omega), nmS_at (by omega) hi]
      refine ⟨(hG.at hw).nm, cond_of (fun he => ?_) (fun he => ?_)⟩
      · unfold kdS
        rw [hN.hit (by rw [nmTab_len]; omega) he, show i - 1 + 1 = i by omega]
      · exact ⟨⟨⟨i + 1⟩, (by have := hN.snoc (by rw [nmTab_len]; omega) he; rwa [show i - 1 + 1 = i + 1 - 1 by omega] at this), trivial, fun _ => rfl, by show (_ : Int).toNat < (_ : Int).toNat; omega⟩⟩
    · have hi : ¬ i ≤ 14 := of_decide_eq_false hi
      unfold kdS
      rw [hN.end_ (by rw [nmTab_len]; omega)]; rfl) O w0
theorem Γk_ok : TSF Tryz.prog Γk := (TSF.none _).add e24
theorem e29 (n : Int) (O : Nat → Prop) (w0 : World) : Entry Tryz.prog O w0 29 (gKd n O w0) :=
  Entry.pure Γk_ok 100 5 (g := gKd n) (fun O w0 args M k hg => by
    unfold gKd at hg
    split at hg
    case h_2 => exact hg.elim
    rename_i s
    obtain ⟨hG, ⟨rfl⟩, hk⟩ := hg
    refine ⟨_, _, rfl, hk, fun _ => rfl, fun w hw => ⟨_, @f29 _ w s (R27 s) _ ⟨fun _ _ => Nat.zero_le _, ⟨⟨⟨1⟩, ⟨by omega, by rw [nmTab_len]; omega, fun j _ hj => by omega⟩, trivial, fun _ => rfl, trivial⟩⟩, ?_⟩⟩⟩
    rintro ⟨i⟩ J hN
    have hN : NoT nmTab s (i - 1) := hN
    have i0 := hN.lo
    have i1 := hN.hi
    rw [nmTab_len] at i1
    dsimp only
    refine cond_of (fun hi => ?_) (fun hi => ?_)
    · have hi : i ≤ 14 := of_decide_eq_true hi
      refine ⟨⟨by omega, by omega⟩, fun r hr => ?_⟩
      subst hr
      rw [beqT', wrap_in (n := i + 1) (by omega) (by omega), nmS_at (by omega) hi]
      refine cond_of (fun he => ?_) (fun he => ?_)
      · unfold kdS
        rw [hN.hit (by rw [nmTab_len]; omega) he, show i - 1 + 1 = i by omega]
      · exact ⟨⟨⟨i + 1⟩, (by have := hN.snoc (by rw [nmTab_len]; omega) he; rwa [show i - 1 + 1 = i + 1 - 1 by omega] at this), trivial, fun _ => rfl, by show (_ : Int).toNat < (_ : Int).toNat; omega⟩⟩
    · have hi : ¬ i ≤ 14 := of_decide_eq_false hi
      unfold kdS
      rw [hN.end_ (by rw [nmTab_len]; omega)]; rfl) O w0
--SHOW
end Go.Proofs.YtfhckpfiegenaaaGreatDoor.Tr
