/- The codec's word that writes: its contract. -/
import Derived.Test.YtfhckpfiegenaaaGreatDoorCm7
namespace Go.Proofs.YtfhckpfiegenaaaGreatDoor.Tr
open Go Go.RowKit Go.Proofs.YtfhckpfiegenaaaGreatDoor.Eng Go.Proofs.YtfhckpfiegenaaaGreatDoor.Cm
set_option linter.unusedVariables false
set_option linter.unusedSimpArgs false
set_option maxRecDepth 8000
abbrev tbV (A : Option Addr) (l : List ByteArray) (c : Nat) : SX := .v (.c (.rsl A 1 (strsAt l) 0 l.length c))
/-- A list of words that came in. -/
structure StrsR (O : Nat → Prop) (w0 : World) (x : SX) (l : List ByteArray) : Prop where
  le : l.length ≤ 1000
  out : ∃ A c, (∀ β, x.den β = (tbV A l c).den β) ∧ ∀ j, j < l.length → A.isSome = true ∧ RowAt O w0 A 1 (strsAt l j) j
def gWo : EntF := fun O w0 args M k => match args with
  | [a, .v (.c (.val (.int .i64 n)))] => ∃ l, StrsR O w0 a l ∧ ∀ r, r = wOf l n → k (tV r) M
  | _ => False
set_option maxHeartbeats 4000000 in
set_option maxRecDepth 100000 in
theorem f75 (O : Nat → Prop) (w0 : World) (A : Option Addr) (l : List ByteArray) (c : Nat) (n : Int) (K : SX → Prop) (h_ : bif decide (n < (1 : Int)) then K (SX.v (SV.c (SC.val (Value.string (ByteArray.mk #[(63 : UInt8)]))))) else bif decide (n > (↑(List.length l) : Int)) then K (SX.v (SV.c (SC.val (Value.string (ByteArray.mk #[(63 : UInt8)]))))) else In (IntKind.wrap IntKind.i64 (n - (1 : Int))) (↑(List.length l) : Int) ∧ Option.isSome A = true ∧ RowAt O w0 A (1 : Nat) (strsAt l ((0 : Nat) + Int.toNat (IntKind.wrap IntKind.i64 (n - (1 : Int))))) ((0 : Nat) + Int.toNat (IntKind.wrap IntKind.i64 (n - (1 : Int)))) ∧ K (SX.v (SV.c (SC.val (Value.string (List.getD l ((0 : Nat) + Int.toNat (IntKind.wrap IntKind.i64 (n - (1 : Int)))) (ByteArray.mk #[(63 : UInt8)]))))))) : evFn Tryz.prog O w0 ((fun _ _ _ => none : TabF) O w0) Λn 100 5 75 [tbV A l c, iV n] [] (fun y _ => K y) := vc_of h_ (by kernel_rfl)
def Γo : TabF := addF (fun _ _ => Γ0) 75 gWo
set_option maxHeartbeats 4000000 in
set_option maxRecDepth 100000 in
theorem f40 (O : Nat → Prop) (w0 : World) (A : Option Addr) (l : List ByteArray) (c : Nat) (B : Option Addr) (v : Int) (m : Nat) (f : Nat → List SC) (a : Int) (s w : Bool) (K : SX → List Blk → Prop) (h_ : Option.isSome B = true ∧ RowAt O w0 B (1 : Nat) ((fun x ↦ [SC.val (Value.int IntKind.i64 v)]) (0 : Nat)) (0 : Nat) ∧ (∃ l_1, StrsR O w0 (SX.v (SV.c (SC.rsl A (1 : Nat) (strsAt l) (0 : Nat) (List.length l) c))) l_1 ∧ ∀ (r : ByteArray), r = wOf l_1 v → Room (m + (1 : Nat)) (16 : Nat) ∧ K (SX.tup []) [Blk.mk (nat_lit 61) [SC.val (Value.bool false), SC.lst 3, SC.val (Value.int IntKind.i64 a), SC.val (Value.bool s), SC.val (Value.bool w)], Blk.dead, Blk.mk 9 [SC.val (Value.string r)], Blk.lst 9 1 (m + (1 : Nat)) fun j ↦ bif Nat.blt j m then f j else [SC.val (Value.string r)]]) ∧ (∃ l_1, StrsR O w0 (SX.v (SV.c (SC.rsl A (1 : Nat) (strsAt l) (0 : Nat) (List.length l) c))) l_1 ∧ ∀ (r : ByteArray), r = wOf l_1 v → (Room (m + (1 : Nat)) (16 : Nat) ∧ K (SX.tup []) [Blk.mk (nat_lit 61) [SC.val (Value.bool false), SC.lst 3, SC.val (Value.int IntKind.i64 a), SC.val (Value.bool s), SC.val (Value.bool w)], Blk.dead, Blk.mk 9 [SC.val (Value.string r)], Blk.lst 9 1 (m + (1 : Nat)) fun j ↦ bif Nat.blt j m then f j else [SC.val (Value.string r)]]) ∧ (Room (m + (1 : Nat)) (16 : Nat) ∧ K (SX.tup []) [Blk.mk (nat_lit 61) [SC.val (Value.bool false), SC.lst 3, SC.val (Value.int IntKind.i64 a), SC.val (Value.bool s), SC.val (Value.bool w)], Blk.dead, Blk.mk 9 [SC.val (Value.string r)], Blk.lst 9 1 (m + (1 : Nat)) fun j ↦ bif Nat.blt j m then f j else [SC.val (Value.string r)]]) ∧ True) ∧ True) : evFn Tryz.prog O w0 (Γo O w0) Λn 100 5 40 [.v (.c (.ptr 0 0)), tbV A l c, .v (.c (ptR B v))] [cdB (.lst 1) a s w, .lst 9 1 m f] (fun y M => K y M) := vc_of h_ (by kernel_rfl)
set_option maxHeartbeats 4000000 in
set_option maxRecDepth 100000 in
theorem f45 (O : Nat → Prop) (w0 : World) (A : Option Addr) (l : List ByteArray) (c : Nat) (B : Option Addr) (v : Int) (m : Nat) (f : Nat → List SC) (a : Int) (s w : Bool) (K : SX → List Blk → Prop) (h_ : Option.isSome B = true ∧ RowAt O w0 B (1 : Nat) ((fun x ↦ [SC.val (Value.int IntKind.i64 v)]) (0 : Nat)) (0 : Nat) ∧ (∃ l_1, StrsR O w0 (SX.v (SV.c (SC.rsl A (1 : Nat) (strsAt l) (0 : Nat) (List.length l) c))) l_1 ∧ ∀ (r : ByteArray), r = wOf l_1 v → Room (m + (1 : Nat)) (16 : Nat) ∧ K (SX.tup []) [Blk.mk (nat_lit 61) [SC.val (Value.bool false), SC.lst 3, SC.val (Value.int IntKind.i64 a), SC.val (Value.bool s), SC.val (Value.bool w)], Blk.dead, Blk.mk 9 [SC.val (Value.string r)], Blk.lst 9 1 (m + (1 : Nat)) fun j ↦ bif Nat.blt j m then f j else [SC.val (Value.string r)]]) ∧ (∃ l_1, StrsR O w0 (SX.v (SV.c (SC.rsl A (1 : Nat) (strsAt l) (0 : Nat) (List.length l) c))) l_1 ∧ ∀ (r : ByteArray), r = wOf l_1 v → (Room (m + (1 : Nat)) (16 : Nat) ∧ K (SX.tup []) [Blk.mk (nat_lit 61) [SC.val (Value.bool false), SC.lst 3, SC.val (Value.int IntKind.i64 a), SC.val (Value.bool s), SC.val (Value.bool w)], Blk.dead, Blk.mk 9 [SC.val (Value.string r)], Blk.lst 9 1 (m + (1 : Nat)) fun j ↦ bif Nat.blt j m then f j else [SC.val (Value.string r)]]) ∧ (Room (m + (1 : Nat)) (16 : Nat) ∧ K (SX.tup []) [Blk.mk (nat_lit 61) [SC.val (Value.bool false), SC.lst 3, SC.val (Value.int IntKind.i64 a), SC.val (Value.bool s), SC.val (Value.bool w)], Blk.dead, Blk.mk 9 [SC.val (Value.string r)], Blk.lst 9 1 (m + (1 : Nat)) fun j ↦ bif Nat.blt j m then f j else [SC.val (Value.string r)]]) ∧ True) ∧ True) : evFn Tryz.prog O w0 (Γo O w0) Λn 100 5 45 [.v (.c (.ptr 0 0)), tbV A l c, .v (.c (ptR B v))] [cdB (.lst 1) a s w, .lst 9 1 m f] (fun y M => K y M) := vc_of h_ (by kernel_rfl)
set_option maxHeartbeats 4000000 in
set_option maxRecDepth 100000 in
theorem f77 (O : Nat → Prop) (w0 : World) (A : Option Addr) (l : List ByteArray) (c : Nat) (B : Option Addr) (v : Int) (m : Nat) (f : Nat → List SC) (a : Int) (s w : Bool) (K : SX → List Blk → Prop) (h_ : Option.isSome B = true ∧ RowAt O w0 B (1 : Nat) ((fun x ↦ [SC.val (Value.int IntKind.i64 v)]) (0 : Nat)) (0 : Nat) ∧ (∃ l_1, StrsR O w0 (SX.v (SV.c (SC.rsl A (1 : Nat) (strsAt l) (0 : Nat) (List.length l) c))) l_1 ∧ ∀ (r : ByteArray), r = wOf l_1 v → Room (m + (1 : Nat)) (16 : Nat) ∧ K (SX.tup []) [Blk.mk (nat_lit 61) [SC.val (Value.bool false), SC.lst 3, SC.val (Value.int IntKind.i64 a), SC.val (Value.bool s), SC.val (Value.bool w)], Blk.dead, Blk.mk 9 [SC.val (Value.string r)], Blk.lst 9 1 (m + (1 : Nat)) fun j ↦ bif Nat.blt j m then f j else [SC.val (Value.string r)]]) ∧ (∃ l_1, StrsR O w0 (SX.v (SV.c (SC.rsl A (1 : Nat) (strsAt l) (0 : Nat) (List.length l) c))) l_1 ∧ ∀ (r : ByteArray), r = wOf l_1 v → (Room (m + (1 : Nat)) (16 : Nat) ∧ K (SX.tup []) [Blk.mk (nat_lit 61) [SC.val (Value.bool false), SC.lst 3, SC.val (Value.int IntKind.i64 a), SC.val (Value.bool s), SC.val (Value.bool w)], Blk.dead, Blk.mk 9 [SC.val (Value.string r)], Blk.lst 9 1 (m + (1 : Nat)) fun j ↦ bif Nat.blt j m then f j else [SC.val (Value.string r)]]) ∧ (Room (m + (1 : Nat)) (16 : Nat) ∧ K (SX.tup []) [Blk.mk (nat_lit 61) [SC.val (Value.bool false), SC.lst 3, SC.val (Value.int IntKind.i64 a), SC.val (Value.bool s), SC.val (Value.bool w)], Blk.dead, Blk.mk 9 [SC.val (Value.string r)], Blk.lst 9 1 (m + (1 : Nat)) fun j ↦ bif Nat.blt j m then f j else [SC.val (Value.string r)]]) ∧ True) ∧ True) : evFn Tryz.prog O w0 (Γo O w0) Λn 100 5 77 [.v (.c (.ptr 0 0)), tbV A l c, .v (.c (ptR B v))] [cdB (.lst 1) a s w, .lst 9 1 m f] (fun y M => K y M) := vc_of h_ (by kernel_rfl)
--HIDE
theorem e75 (O : Nat → Prop) (w0 : World) : Entry Tryz.prog O w0 75 (gWo O w0) :=
  Entry.pure (Γ := fun _ _ _ => none) (TSF.none _) 100 5 (g := gWo) (fun O w0 args M k hg => by
    unfold gWo at hg
    split at hg
    case h_2 => exact hg.elim
    rename_i a n
    obtain ⟨l, ⟨hle, A, c, ha, hA⟩, hk⟩ := hg
    refine ⟨_, [tbV A l c, iV n], rfl, hk _ rfl, fun β => by unfold fr; simp only [List.map_cons, ha β, List.map_nil], fun w hw => ⟨Λn, f75 _ w A l c n _ ?_⟩⟩
    unfold wOf
    refine cond_of (fun h => by rw [if_pos (.inl (of_decide_eq_true h))]) (fun h => cond_of (fun h2 => by rw [if_pos (.inr (of_decide_eq_true h2))]) (fun h2 => ?_))
    have h := of_decide_eq_false h
    have h2 := of_decide_eq_false h2
    rw [if_neg (by omega), wrap_in (show -9223372036854775808 ≤ n - 1 by omega) (by omega)]
    simp only [Nat.zero_add]
    have := hA (n - 1).toNat (by omega)
    exact ⟨⟨by omega, by omega⟩, this.1, this.2.at hw, trivial⟩) O w0
theorem Γo_ok : TSF Tryz.prog Γo := (TSF.none _).add e75
structure AppS (F : Nat → List SC) (m : Nat) (f : Nat → List SC) (r : ByteArray) : Prop where
  at_ : ∀ j, j < m + 1 → F j = bif Nat.blt j m then f j else encS r
theorem LsX.app1 {m : Nat} {f F : Nat → List SC} {xs : List ByteArray} {r : ByteArray} (h : LsX encS ⟨#[]⟩ m f xs) (hA : AppS F m f r) : LsX encS ⟨#[]⟩ (m + 1) F (xs ++ [r]) := by
  refine ⟨by rw [List.length_append, h.len]; rfl, fun j hj => ?_⟩
  rw [hA.at_ j hj]
  by_cases hm : j < m
  · rw [blt_t hm, cond_true, h.at_ j hm, List.getD_eq_getElem?_getD, List.getD_eq_getElem?_getD, List.getElem?_append_left (by rw [← h.len]; exact hm)]
  · rw [blt_f hm, cond_false, List.getD_eq_getElem?_getD, List.getElem?_append_right (by rw [← h.len]; omega), ← h.len, show j - m = 0 by omega]; rfl
/-- A list of words: one that came in, or a block of words. -/
structure TabM (O : Nat → Prop) (w0 : World) (M : List Blk) (c p : Nat) (t : SX) (l : List ByteArray) : Prop where
  out : StrsR O w0 t l ∨ (l.length ≤ 1000 ∧ ∃ b cap, t = .v (.c (.sl b 0 l.length cap)) ∧ M[b]? = some (.mk 9 (l.map fun s => SC.val (.string s))) ∧ b ≠ c ∧ b ≠ p)
def gWordW : EntF := fun O w0 args M k => match args with
  | [.v (.c (.ptr c 0)), t, .v (.c (.ptr x o))] => (match M[c]? with
    | some (.mk 61 [.val (.bool false), .lst p, .val (.int .i64 a), .val (.bool s), .val (.bool w)]) =>
      (match M[p]?, ptv M c p [.ptr x o] with
      | some (.lst 9 1 m f), some [v] => bif Nat.beq c p then False else ∃ l, TabM O w0 M c p t l ∧ Room (m + 1) 16 ∧ ∀ F, AppS F m f (wOf l v) → postK M [c, p] [cdB (.lst 2) a s w, .dead, .lst 9 1 (m + 1) F] (.tup []) k
      | _, _ => False)
    | _ => False)
  | _ => False
theorem TabM.rows {O : Nat → Prop} {w0 w : World} {β : Env} {M : List Blk} {c p : Nat} {t : SX} {l : List ByteArray} (h : TabM O w0 M c p t l) (hI : Inv O w0 β M w) : ∃ A cap, (∀ β', (tbV A l cap).den β' = t.den β) ∧ StrsR (ownS β M [c, p]) w (tbV A l cap) l := by
  rcases h.out with ⟨hle, A, cap, ha, hA⟩ | ⟨hle, b, cap, rfl, hb, h1, h2⟩
  · exact ⟨A, cap, fun β' => (ha β).symm, hle, A, cap, fun _ => rfl, fun j hj => ⟨(hA j hj).1, (hA j hj).2.over hI.fr fun r hr => by
      obtain ⟨i, _, a, ha, hra, rfl⟩ := hr
      exact hI.low i a ha hra⟩⟩
  · refine ⟨some ⟨β b, 0, none⟩, cap, fun β' => ?_, hle, some ⟨β b, 0, none⟩, cap, fun _ => rfl, fun j hj => ⟨rfl, ⟨β b, 0, none⟩, rfl, hI.lt hb trivial, notOwn hI hb trivial h1 h2, rfl, fun i x hx => ?_⟩⟩
    · show Value.slice (some (Addr.add ⟨β b, 0, none⟩ (0 * 1))) l.length cap = .slice (some ⟨β b, 0, none⟩) l.length cap
      rw [Nat.zero_mul, add0]
    · have hi : i = 0 := by
        cases i with
        | zero => rfl
        | succ i => simp [strsAt] at hx
      subst hi
      cases hx
      rw [add_plain0, Nat.mul_one, Nat.add_zero, hI.cell hb (off := j) (x := .val (.string (l.getD j ⟨#[63]⟩))) (by
        show (l.map fun s => SC.val (.string s))[j]? = _
        rw [List.getElem?_map, List.getD_eq_getElem?_getD, List.getElem?_eq_getElem hj]; rfl)]
      rfl
set_option maxRecDepth 100000 in
theorem eWord {fn : FuncId} (hv : ∀ (O : Nat → Prop) (w0 : World) (A : Option Addr) (l : List ByteArray) (c : Nat) (B : Option Addr) (v : Int) (m : Nat) (f : Nat → List SC) (a : Int) (s w : Bool) (K : SX → List Blk → Prop), B.isSome = true → RowAt O w0 B 1 [.val (.int .i64 v)] 0 → StrsR O w0 (tbV A l c) l → Room (m + 1) 16 →
      K (.tup []) [cdB (.lst 3) a s w, .dead, .mk 9 [.val (.string (wOf l v))], .lst 9 1 (m + 1) (fun j => bif Nat.blt j m then f j else [SC.val (.string (wOf l v))])] →
      evFn Tryz.prog O w0 (Γo O w0) Λn 100 5 fn [.v (.c (.ptr 0 0)), tbV A l c, .v (.c (ptR B v))] [cdB (.lst 1) a s w, .lst 9 1 m f] (fun y M => K y M)) (O : Nat → Prop) (w0 : World) : EntryW Tryz.prog O w0 fn (gWordW O w0) :=
  Entry.ownN Γo_ok 100 5 (g := gWordW) (fun O w0 args M k hg β w hI => by
    unfold gWordW at hg
    split at hg
    case h_2 => exact hg.elim
    rename_i c t x o
    split at hg
    case h_2 => exact hg.elim
    rename_i p a s w' hc
    split at hg
    case h_2 => exact hg.elim
    rename_i m f v hp hv2
    cases hcp : Nat.beq c p with
    | true => rw [hcp] at hg; exact hg.elim
    | false =>
    rw [hcp] at hg
    obtain ⟨l, hT, hroom, hk⟩ := hg
    have hne : c ≠ p := fun e => by subst e; rw [Nat.beq_refl] at hcp; cases hcp
    obtain ⟨A, cap, hden, hS⟩ := hT.rows hI
    obtain ⟨B, hB, hBl, hBo, hBc⟩ := ((ptv_at hI _ _ hv2 trivial).2 0 (.ptr x o) rfl).out
    have hrow : RowAt (ownS β M [c, p]) w (some B) 1 [.val (.int .i64 v)] 0 := ⟨B, rfl, hBl, hBo, rfl, fun i y hy => by
      have hi : i = 0 := by
        cases i with
        | zero => rfl
        | succ i => simp at hy
      subst hi
      cases hy
      rw [show (0 * 1 + 0 : Nat) = 0 from rfl, add0]
      exact hBc⟩
    have hfr : fr (subE β [c, p]) [SX.v (.c (.ptr 0 0)), tbV A l cap, .v (.c (ptR (some B) v))] = fr β [SX.v (.c (.ptr c 0)), t, .v (.c (.ptr x o))] := by
      have h3 : (SX.v (.c (ptR (some B) v))).den (subE β [c, p]) = (SX.v (.c (.ptr x o))).den β := by
        show Value.pointer (some (B.add (0 * 1 + 0))) = (SC.ptr x o).den β
        rw [hB, show (0 * 1 + 0 : Nat) = 0 from rfl, add0]
      unfold fr
      simp only [List.map_cons, List.map_nil, hden, h3]
      rfl
    have hdesc : ∀ (j i : Nat) (bl : Blk), [c, p][j]? = some i → ([cdB (.lst 1) a s w', .lst 9 1 m f] : List Blk)[j]? = some bl → ∃ a, M[i]? = some a ∧ Desc β (subE β [c, p]) a bl := fun j i bl hj hN => by
      match j, hj, hN with
      | 0, hj, hN => cases hj; cases hN; exact ⟨_, hc, rfl, rfl⟩
      | 1, hj, hN => cases hj; cases hN; exact ⟨_, hp, rfl, rfl, rfl, fun _ _ => rfl⟩
      | j + 2, hj, hN => simp at hj
    refine ⟨[c, p], _, _, Λn, by simp [hne], rfl, hdesc, rfl, hfr, hv _ w A l cap (some B) v m f a s w' _ rfl hrow hS hroom ?_⟩
    exact ⟨[.at_ 0, .at_ 1, .at_ 3], _, [cdB (.lst 2) a s w', .dead, .lst 9 1 (m + 1) _], _, rfl, rfl, rfl, ⟨rfl, rfl, ⟨_, rfl, fun _ _ => rfl⟩, trivial⟩, rfl, hk _ ⟨fun _ _ => rfl⟩⟩) O w0
theorem e40 (O : Nat → Prop) (w0 : World) : EntryW Tryz.prog O w0 40 (gWordW O w0) := eWord (fun O w0 A l c B v m f a s w K hB hR hS hr hK => f40 O w0 A l c B v m f a s w K ⟨hB, hR, ⟨l, hS, fun r e => by subst e; exact ⟨hr, hK⟩⟩, ⟨l, hS, fun r e => by subst e; exact ⟨⟨hr, hK⟩, ⟨hr, hK⟩, trivial⟩⟩, trivial⟩) O w0
theorem e45 (O : Nat → Prop) (w0 : World) : EntryW Tryz.prog O w0 45 (gWordW O w0) := eWord (fun O w0 A l c B v m f a s w K hB hR hS hr hK => f45 O w0 A l c B v m f a s w K ⟨hB, hR, ⟨l, hS, fun r e => by subst e; exact ⟨hr, hK⟩⟩, ⟨l, hS, fun r e => by subst e; exact ⟨⟨hr, hK⟩, ⟨hr, hK⟩, trivial⟩⟩, trivial⟩) O w0
theorem e77 (O : Nat → Prop) (w0 : World) : EntryW Tryz.prog O w0 77 (gWordW O w0) := eWord (fun O w0 A l c B v m f a s w K hB hR hS hr hK => f77 O w0 A l c B v m f a s w K ⟨hB, hR, ⟨l, hS, fun r e => by subst e; exact ⟨hr, hK⟩⟩, ⟨l, hS, fun r e => by subst e; exact ⟨⟨hr, hK⟩, ⟨hr, hK⟩, trivial⟩⟩, trivial⟩) O w0
--SHOW
end Go.Proofs.YtfhckpfiegenaaaGreatDoor.Tr
