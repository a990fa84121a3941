/- ParseLine of the package: its contract; Check and Equal on commands of the memory at hand. -/
import Derived.Test.YtfhckpfiegenaaaGreatDoorCm26
import Derived.Test.YtfhckpfiegenaaaGreatDoorEngG
namespace Go.Proofs.YtfhckpfiegenaaaGreatDoor.Tr
open Go Go.RowKit Go.Proofs.YtfhckpfiegenaaaGreatDoor.Eng Go.Proofs.YtfhckpfiegenaaaGreatDoor.Cm
set_option linter.unusedVariables false
set_option linter.unusedSimpArgs false
set_option maxRecDepth 8000
def ΓE (e : Int) : TabF := addF Γz 26 (gFldE e)
set_option maxHeartbeats 4000000 in
set_option maxRecDepth 100000 in
theorem f10_e (O : Nat → Prop) (w0 : World) (s : ByteArray) (e : Int) (K : SX → Prop) (h_ : GlT O w0 ∧ SzM s ∧ FldIs s [] e ∧ bif e != (0 : Int) then K (SX.tup [SV.agg [SC.val (Value.int IntKind.i64 0), SC.val (Value.int IntKind.i64 0), SC.val (Value.int IntKind.i64 0), SC.val (Value.int IntKind.i64 0), SC.val (Value.int IntKind.i64 0), SC.val (Value.int IntKind.i64 0), SC.val (Value.int IntKind.i64 0), SC.val (Value.int IntKind.i64 0), SC.val (Value.int IntKind.i64 0), SC.val (Value.int IntKind.i64 0), SC.val (Value.int IntKind.i64 0), SC.val (Value.int IntKind.i64 0), SC.val (Value.int IntKind.i64 0), SC.val (Value.int IntKind.i64 0), SC.val (Value.int IntKind.i64 0), SC.val (Value.int IntKind.i64 0), SC.val (Value.int IntKind.i64 0), SC.val (Value.int IntKind.i64 0), SC.val (Value.int IntKind.i64 0), SC.val (Value.int IntKind.i64 0), SC.val (Value.slice none (0 : Nat) (0 : Nat)), SC.val (Value.int IntKind.i64 0), SC.val (Value.int IntKind.i64 0), SC.val (Value.int IntKind.i64 0), SC.val (Value.int IntKind.i64 0), SC.val (Value.int IntKind.i64 0), SC.val (Value.int IntKind.i64 0), SC.val (Value.bool false)], SV.c (SC.val (Value.int IntKind.i64 3))]) else K (SX.tup [SV.agg [SC.val (Value.int IntKind.i64 0), SC.val (Value.int IntKind.i64 0), SC.val (Value.int IntKind.i64 0), SC.val (Value.int IntKind.i64 0), SC.val (Value.int IntKind.i64 0), SC.val (Value.int IntKind.i64 0), SC.val (Value.int IntKind.i64 0), SC.val (Value.int IntKind.i64 0), SC.val (Value.int IntKind.i64 0), SC.val (Value.int IntKind.i64 0), SC.val (Value.int IntKind.i64 0), SC.val (Value.int IntKind.i64 0), SC.val (Value.int IntKind.i64 0), SC.val (Value.int IntKind.i64 0), SC.val (Value.int IntKind.i64 0), SC.val (Value.int IntKind.i64 0), SC.val (Value.int IntKind.i64 0), SC.val (Value.int IntKind.i64 0), SC.val (Value.int IntKind.i64 0), SC.val (Value.int IntKind.i64 0), SC.val (Value.slice none (0 : Nat) (0 : Nat)), SC.val (Value.int IntKind.i64 0), SC.val (Value.int IntKind.i64 0), SC.val (Value.int IntKind.i64 0), SC.val (Value.int IntKind.i64 0), SC.val (Value.int IntKind.i64 0), SC.val (Value.int IntKind.i64 0), SC.val (Value.bool false)], SV.c (SC.val (Value.int IntKind.i64 3))])) : evFn Tryz.prog O w0 (ΓE e O w0) Λ10 100 8 10 [tV s] [] (fun y _ => K y) := vc_of h_ (by kernel_rfl)
set_option maxHeartbeats 4000000 in
set_option maxRecDepth 100000 in
theorem f10_0 (O : Nat → Prop) (w0 : World) (s nm : ByteArray) (xs : List ByteArray) (K : SX → Prop) (h_ : GlT O w0 ∧ SzM s ∧ FldIs s (nm :: xs) (0 : Int) ∧ In (0 : Int) (↑(List.length xs + (1 : Nat)) : Int) ∧ In (0 : Int) (↑(List.length xs + (1 : Nat)) : Int) ∧ GlT O w0 ∧ KdIs (List.getD (nm :: xs) (Int.toNat 0) (ByteArray.mk #[(63 : UInt8)])) (0 : Int) ∧ K (SX.tup [SV.agg [SC.val (Value.int IntKind.i64 0), SC.val (Value.int IntKind.i64 0), SC.val (Value.int IntKind.i64 0), SC.val (Value.int IntKind.i64 0), SC.val (Value.int IntKind.i64 0), SC.val (Value.int IntKind.i64 0), SC.val (Value.int IntKind.i64 0), SC.val (Value.int IntKind.i64 0), SC.val (Value.int IntKind.i64 0), SC.val (Value.int IntKind.i64 0), SC.val (Value.int IntKind.i64 0), SC.val (Value.int IntKind.i64 0), SC.val (Value.int IntKind.i64 0), SC.val (Value.int IntKind.i64 0), SC.val (Value.int IntKind.i64 0), SC.val (Value.int IntKind.i64 0), SC.val (Value.int IntKind.i64 0), SC.val (Value.int IntKind.i64 0), SC.val (Value.int IntKind.i64 0), SC.val (Value.int IntKind.i64 0), SC.val (Value.slice none (0 : Nat) (0 : Nat)), SC.val (Value.int IntKind.i64 0), SC.val (Value.int IntKind.i64 0), SC.val (Value.int IntKind.i64 0), SC.val (Value.int IntKind.i64 0), SC.val (Value.int IntKind.i64 0), SC.val (Value.int IntKind.i64 0), SC.val (Value.bool false)], SV.c (SC.val (Value.int IntKind.i64 3))])) : evFn Tryz.prog O w0 (ΓR2 nm xs 0 O w0) Λ10 100 8 10 [tV s] [] (fun y _ => K y) := vc_of h_ (by kernel_rfl)
--HIDE
theorem den33 {β : Env} {c : S33} {s s' : SC} (h : s.den β = s'.den β) : (SX.v (.agg (cells33 c s))).den β = (SX.v (.agg (cells33 c s'))).den β := by
  show Value.agg _ = Value.agg _
  unfold cells33
  simp only [List.map_cons, h]
structure CmdRows (w : World) (β : Env) (x : SX) (c : S33) : Prop where
  le : c.f9.length ≤ 9223372036854775807
  out : ∃ A cp, (cmdV c A cp).den β = x.den β ∧ ∀ j, j < c.f9.length → A.isSome = true ∧ RowAt (fun _ => False) w A 1 (ints c.f9 j) j
theorem CmdM.rows {O : Nat → Prop} {w0 w : World} {β : Env} {M : List Blk} {x : SX} {c : S33} (h : CmdM O w0 M x c) (hI : Inv O w0 β M w) : CmdRows w β x c := by
  refine ⟨h.le, ?_⟩
  rcases h.out with ⟨_, A, cp, ha, hA⟩ | ⟨k, rfl, F, hk, hF⟩ | ⟨rfl, h9⟩
  · exact ⟨A, cp, (ha β).symm, fun j hj => ⟨(hA j hj).1, (hA j hj).2.at hI.fr⟩⟩
  · obtain ⟨h1, h2⟩ := hI.rows hk
    refine ⟨(β.v k).1, (β.v k).2.2, den33 ?_, fun j hj => ?_⟩
    · exact h1.symm
    · rw [← hF j hj]; exact h2 j hj
  · exact ⟨none, 0, den33 (by rw [h9]; rfl), fun j hj => by rw [h9] at hj; exact absurd hj (Nat.not_lt_zero j)⟩
/-- A command: as CmdM, or one whose list is written no more. -/
structure CmdZ (O : Nat → Prop) (w0 : World) (M : List Blk) (x : SX) (c : S33) : Prop where
  out : CmdM O w0 M x c ∨ (c.f9.length ≤ 9223372036854775807 ∧ ∃ (A : Option Addr) (cp k : Nat) (Q : World → Prop), x = cmdV c A cp ∧ M[k]? = some (Blk.fz Q) ∧ ∀ w, Q w → RowsF A 1 c.f9.length (ints c.f9) w)
theorem CmdZ.rows {O : Nat → Prop} {w0 w : World} {β : Env} {M : List Blk} {x : SX} {c : S33} (h : CmdZ O w0 M x c) (hI : Inv O w0 β M w) : CmdRows w β x c := by
  rcases h.out with h | ⟨hl, A, cp, k, Q, rfl, hk, hQ⟩
  · exact h.rows hI
  · obtain ⟨F, _, h2⟩ := (hI.fz k Q hk).out
    exact ⟨hl, A, cp, rfl, (hQ w (h2 w fun _ _ => rfl)).at_⟩
theorem CmdRows.x {w : World} {β : Env} {x : SX} {c : S33} (h : CmdRows w β x c) : ∃ A cp, (cmdV c A cp).den β = x.den β ∧ CmdX (fun _ => False) w (cmdV c A cp) c := by
  obtain ⟨A, cp, h1, h2⟩ := h.out
  exact ⟨A, cp, h1, h.le, A, cp, fun _ => rfl, h2⟩
theorem e18M (O : Nat → Prop) (w0 : World) : Entry Tryz.prog O w0 18 (gChkM O w0) :=
  Entry.viaRows (g := gChk) (g' := gChkM) Cm.e10 (fun O w0 args M k hg => by
    unfold gChkM at hg
    split at hg
    case h_2 => exact hg.elim
    rename_i a
    obtain ⟨hG, c, hC, hk⟩ := hg
    refine ⟨_, hk _ rfl, fun β w hI => ?_⟩
    obtain ⟨A, cp, h1, h2⟩ := (hC.rows hI).x
    exact ⟨[cmdV c A cp], by unfold fr; simp only [List.map_cons, h1, List.map_nil], hG.at hI.fr, c, h2, fun _ => rfl⟩) O w0
theorem e23M (O : Nat → Prop) (w0 : World) : Entry Tryz.prog O w0 23 (gChkM O w0) :=
  Entry.viaRows (g := gRefChk) (g' := gChkM) Cm.e11 (fun O w0 args M k hg => by
    unfold gChkM at hg
    split at hg
    case h_2 => exact hg.elim
    rename_i a
    obtain ⟨hG, c, hC, hk⟩ := hg
    refine ⟨_, hk _ rfl, fun β w hI => ?_⟩
    obtain ⟨A, cp, h1, h2⟩ := (hC.rows hI).x
    exact ⟨[cmdV c A cp], by unfold fr; simp only [List.map_cons, h1, List.map_nil], c, h2, fun _ => rfl⟩) O w0
def gEqZ : EntF := fun O w0 args M k => match args with
  | [a, b] => ∃ x y, CmdZ O w0 M a x ∧ CmdZ O w0 M b y ∧ ∀ r, r = eqC x y → k (bV r) M
  | _ => False
theorem e12Z (O : Nat → Prop) (w0 : World) : Entry Tryz.prog O w0 12 (gEqZ O w0) :=
  Entry.viaRows (g := gCmp) (g' := gEqZ) Cm.e18 (fun O w0 args M k hg => by
    unfold gEqZ at hg
    split at hg
    case h_2 => exact hg.elim
    rename_i a b
    obtain ⟨x, y, hx, hy, hk⟩ := hg
    refine ⟨_, hk _ rfl, fun β w hI => ?_⟩
    obtain ⟨A, cp, h1, h2⟩ := (hx.rows hI).x
    obtain ⟨B, cq, h3, h4⟩ := (hy.rows hI).x
    exact ⟨[cmdV x A cp, cmdV y B cq], by unfold fr; simp only [List.map_cons, h1, h3, List.map_nil], x, y, h2, h4, fun _ => rfl⟩) O w0
structure PlIs (s : ByteArray) (c : S33) (e : Int) : Prop where
  c : c = (plS s).1
  e : e = (plS s).2
def gPl : EntF := fun O w0 args M k => match args with
  | [.v (.c (.val (.string s)))] => GlT O w0 ∧ SzM s ∧ ∀ c e, PlIs s c e → ∀ A cp, k (.tup [.agg (cells33 c (sC A c.f9 cp)), .c (.val (.int .i64 e))]) (M ++ [.fz (RowsF A 1 c.f9.length (ints c.f9))])
  | _ => False
theorem gFldN_ok (nm : ByteArray) (xs : List ByteArray) (O : Nat → Prop) (w0 : World) : Entry Tryz.prog O w0 26 (gFldN nm xs O w0) := fun hf args M k hg hm β w hI => by
  unfold gFldN at hg
  split at hg
  case h_2 => exact hg.elim
  rename_i s
  obtain ⟨hG, hs, hF, hk⟩ := hg
  exact e26L O w0 hf [tV s] M k ⟨hG, hs, fun xs' e h => by
    rw [show xs' = nm :: xs from h.xs.trans hF.xs.symm, show e = 0 from h.e.trans hF.e.symm]; exact hk⟩ hm β w hI
theorem gFldE_ok (e : Int) (O : Nat → Prop) (w0 : World) : Entry Tryz.prog O w0 26 (gFldE e O w0) := fun hf args M k hg hm β w hI => by
  unfold gFldE at hg
  split at hg
  case h_2 => exact hg.elim
  rename_i s
  obtain ⟨hG, hs, hF, hk⟩ := hg
  exact e26L O w0 hf [tV s] M k ⟨hG, hs, fun xs' e' h => by
    rw [show xs' = [] from h.xs.trans hF.xs.symm, show e' = e from h.e.trans hF.e.symm]; exact hk⟩ hm β w hI
theorem ΓE_ok (e : Int) : TSF Tryz.prog (ΓE e) := Γz_ok.add (gFldE_ok e)
theorem ΓR_ok (nm : ByteArray) (xs : List ByteArray) (n : Int) : TSF Tryz.prog (ΓR nm xs n) :=
  ((((((Γz_ok.add (gFldN_ok nm xs)).add (e27 n)).addW (e74 (nm :: xs))).add e73).add e18M).addG (n := 1) (fun O w0 args M k hk => by
  obtain ⟨A, cap, _, hk⟩ := hk
  exact ⟨_, fun β => by simp [SX.den, SV.den, SC.den, Addr.add], hk⟩)).addG (n := 2) (fun O w0 args M k hk => by
  obtain ⟨A, cap, _, hk⟩ := hk
  exact ⟨_, fun β => by simp [SX.den, SV.den, SC.den, Addr.add], hk⟩)
theorem ΓR2_ok (nm : ByteArray) (xs : List ByteArray) (n : Int) : TSF Tryz.prog (ΓR2 nm xs n) := (ΓR_ok nm xs n).add e76
theorem fld_size {s : ByteArray} {nm : ByteArray} {xs : List ByteArray} {e : Int} (hs : SzM s) (h : FldIs s (nm :: xs) e) : SzX xs := by
  have hx := h.xs
  unfold fldS at hx
  have hl := splS_le 32 s
  have hle := hs.le
  split at hx
  · cases hx
  · split at hx
    · have hx : nm :: xs = splS 32 s := hx
      rw [← hx] at hl
      simp at hl
      refine ⟨by omega, fun x hm => Nat.le_trans (splS_mem (c := 32) (s := s) (by rw [← hx]; exact List.mem_cons_of_mem _ hm)) hle⟩
    · cases hx
theorem kdS_in (s : ByteArray) : 0 ≤ kdS s ∧ kdS s ≤ 14 := by
  have := idxT_in nmTab s
  rw [nmTab_len] at this
  unfold kdS
  omega
theorem pl_end {O : Nat → Prop} {w0 : World} {s : ByteArray} {M : List Blk} {k : SX → List Blk → Prop} {y : SX} {M' : List Blk} (h : PlOut (plS s) y M')
    (hk : ∀ c e, PlIs s c e → ∀ A cp, k (.tup [.agg (cells33 c (sC A c.f9 cp)), .c (.val (.int .i64 e))]) (M ++ [.fz (RowsF A 1 c.f9.length (ints c.f9))])) :
    ∃ X x e sz n F, CongX X ∧ (∀ β, y.den β = (X x).den β) ∧ ResL M' e sz n F x ∧ ∀ A c, k (X (.rsl A sz F 0 n c)) (M ++ [.fz (RowsF A sz n F)]) := by
  obtain ⟨sc, rfl, hR⟩ := h.out
  refine ⟨fun x => .tup [.agg (cells33 (plS s).1 x), .c (.val (.int .i64 (plS s).2))], sc, 3, 1, _, _, ?_, fun _ => rfl, hR, fun A c => hk _ _ ⟨rfl, rfl⟩ A c⟩
  exact CongX.aggT (pre := (cells33 (plS s).1 (.val undef)).take 20) (post := (cells33 (plS s).1 (.val undef)).drop 21) (r := [.val (.int .i64 (plS s).2)]) rfl rfl rfl
theorem pl_c {p : S33 × Int} {M : List Blk} (h9 : p.1.f9 = []) : PlOut p (tupC p) M := ⟨_, rfl, by rw [h9]; exact .nil rfl⟩
set_option maxHeartbeats 2000000 in
theorem pl10 (O : Nat → Prop) (w0 : World) : Entry Tryz.prog O w0 10 (gPl O w0) := fun hf args M k hg hm β w hI => by
  unfold gPl at hg
  split at hg
  case h_2 => exact hg.elim
  rename_i s
  obtain ⟨hG, hs, hk⟩ := hg
  have fin : ∀ {Γ : TabF} (hΓ : TSF Tryz.prog Γ), (∀ w, GlT (fun _ => False) w → ∃ Λ R, evFn Tryz.prog (fun _ => False) w (Γ (fun _ => False) w) Λ 100 8 10 [tV s] [] R ∧ ∀ y M', R y M' → PlOut (plS s) y M') →
      Calls Tryz.prog 10 (fr β [tV s]) w (fun e w' => ∃ x M' β', k x M' ∧ e = .returned (x.den β') ∧ Inv O w0 β' M' w' ∧ Grow M M' β β' ∧ Kept w w') := fun {Γ} hΓ h => by
    refine Entry.madeAP hΓ 100 8 (f := 10) (g := fun O w0 args M k => args = [tV s] ∧ gPl O w0 args M k) (fun O w0 args M k hg β w hI => ?_) O w0 hf [tV s] M k ⟨rfl, hG, hs, hk⟩ hm β w hI
    obtain ⟨rfl, hG, hs, hk⟩ := hg
    obtain ⟨Λ, R, h1, h2⟩ := h w (hG.at hI.fr)
    exact ⟨_, Λ, R, rfl, h1, fun y M' hy => pl_end (O := O) (w0 := w0) (h2 y M' hy) hk⟩
  by_cases he : (fldS s).1 = [] ∨ (fldS s).2 ≠ 0
  · have hf0 : FldIs s [] (fldS s).2 := ⟨by
      rcases he with he | he
      · exact he.symm
      · unfold fldS at he ⊢
        split
        · rfl
        · rename_i h0
          rw [if_neg h0] at he
          split
          · rename_i h1; rw [if_pos h1] at he; exact absurd rfl he
          · rfl, rfl⟩
    have hp : plS s = (z33, 3) := by
      unfold plS
      split
      · rfl
      · rename_i h0
        rcases he with he | he
        · rw [he]
        · exact absurd he h0
    refine fin (ΓE_ok (fldS s).2) fun w hG => ⟨Λ10, fun y _ => y = tupC (z33, 3), @f10_e _ w s (fldS s).2 (fun y => y = tupC (z33, 3)) ⟨hG, hs, hf0, ?_⟩, fun y M' hy => ?_⟩
    · refine cond_of (fun _ => rfl) (fun _ => rfl)
    · rw [hp, hy]; exact pl_c rfl
  have he1 : (fldS s).1 ≠ [] := fun h => he (.inl h)
  have he2 : (fldS s).2 = 0 := Classical.byContradiction fun h => he (.inr h)
  obtain ⟨nm, xs, hx⟩ : ∃ nm xs, (fldS s).1 = nm :: xs := by
    cases h : (fldS s).1 with
    | nil => exact absurd h he1
    | cons nm xs => exact ⟨nm, xs, rfl⟩
  have hf1 : FldIs s (nm :: xs) 0 := ⟨hx.symm, he2.symm⟩
  have hz := fld_size hs hf1
  have hp : plS s = if kdS nm = 0 then (z33, 3) else outP (rdC (kdS nm) xs).1 (rdC (kdS nm) xs).2 xs.length := by
    unfold plS
    rw [if_neg (by rw [he2]; decide), hx]
  have hkin := kdS_in nm
  by_cases h0 : kdS nm = 0
  · rw [if_pos h0] at hp
    have i0 : In 0 ((xs.length + 1 : Nat) : Int) := ⟨by omega, by omega⟩
    refine fin (ΓR2_ok nm xs 0) fun w hG => ⟨Λ10, fun y _ => y = tupC (z33, 3), @f10_0 _ w s nm xs (fun y => y = tupC (z33, 3)) ?_, fun y M' hy => ?_⟩
    · exact ⟨hG, hs, hf1, i0, i0, hG, ⟨h0.symm⟩, rfl⟩
    · rw [hp, hy]; exact pl_c rfl
  rw [if_neg h0] at hp
  have hk1 : ∀ n, kdS nm = n → KdIs nm n := fun n h => ⟨h.symm⟩
  have out0 : ∀ n, kdS nm = n → n ≠ 6 → (rdC n xs).1.f9 = [] → ∀ (y : SX) (M' : List Blk), y = tupC (outP (rdC n xs).1 (rdC n xs).2 xs.length) → PlOut (plS s) y M' := fun n h h6 h9 y M' hy => by
    rw [hp, h, hy]
    refine pl_c ?_
    unfold outP
    split
    · rfl
    · split
      · rfl
      · split
        · rfl
        · exact h9
  rcases kinds2 (n := kdS nm) (by omega) with h | h | h | h | h | h | h | h | h | h | h | h | h | h
  · exact fin (ΓR2_ok nm xs 1) fun w hG => ⟨Λ10, fun y _ => y = tupC (outP (rdC 1 xs).1 (rdC 1 xs).2 xs.length), pl_1 hG hs hf1 (hk1 1 h) hz rfl, out0 1 h (by decide) rfl⟩
  · exact fin (ΓR2_ok nm xs 2) fun w hG => ⟨Λ10, fun y _ => y = tupC (outP (rdC 2 xs).1 (rdC 2 xs).2 xs.length), pl_2 hG hs hf1 (hk1 2 h) hz rfl, out0 2 h (by decide) rfl⟩
  · exact fin (ΓR2_ok nm xs 3) fun w hG => ⟨Λ10, fun y _ => y = tupC (outP (rdC 3 xs).1 (rdC 3 xs).2 xs.length), pl_3 hG hs hf1 (hk1 3 h) hz rfl, out0 3 h (by decide) rfl⟩
  · exact fin (ΓR2_ok nm xs 4) fun w hG => ⟨Λ10, fun y _ => y = tupC (outP (rdC 4 xs).1 (rdC 4 xs).2 xs.length), pl_4 hG hs hf1 (hk1 4 h) hz rfl, out0 4 h (by decide) rfl⟩
  · exact fin (ΓR2_ok nm xs 5) fun w hG => ⟨Λ10, fun y _ => y = tupC (outP (rdC 5 xs).1 (rdC 5 xs).2 xs.length), pl_5 hG hs hf1 (hk1 5 h) hz rfl, out0 5 h (by decide) rfl⟩
  · exact fin (ΓR2_ok nm xs 6) fun w hG => ⟨_, fun y M' => PlOut (outP (rdC 6 xs).1 (rdC 6 xs).2 xs.length) y M', pl_6 hG hs hf1 (hk1 6 h) hz (fun _ _ h => h), fun y M' hy => by rw [hp, h]; exact hy⟩
  · refine fin (ΓR2_ok nm xs 7) fun w hG => ⟨Λ10, fun y _ => y = tupC (outP (rdC 7 xs).1 (rdC 7 xs).2 xs.length), pl_7 hG hs hf1 (hk1 7 h) hz rfl, out0 7 h (by decide) ?_⟩
    by_cases hc : vlW lcTab xs (stN xs st0) = 2
    · rw [rdC_7b hc]; rfl
    · rw [rdC_7a hc]; rfl
  · exact fin (ΓR2_ok nm xs 8) fun w hG => ⟨Λ10, fun y _ => y = tupC (outP (rdC 8 xs).1 (rdC 8 xs).2 xs.length), pl_8 hG hs hf1 (hk1 8 h) hz rfl, out0 8 h (by decide) rfl⟩
  · exact fin (ΓR2_ok nm xs 9) fun w hG => ⟨Λ10, fun y _ => y = tupC (outP (rdC 9 xs).1 (rdC 9 xs).2 xs.length), pl_9 hG hs hf1 (hk1 9 h) hz rfl, out0 9 h (by decide) rfl⟩
  · exact fin (ΓR2_ok nm xs 10) fun w hG => ⟨Λ10, fun y _ => y = tupC (outP (rdC 10 xs).1 (rdC 10 xs).2 xs.length), pl_10 hG hs hf1 (hk1 10 h) hz rfl, out0 10 h (by decide) rfl⟩
  · exact fin (ΓR2_ok nm xs 11) fun w hG => ⟨Λ10, fun y _ => y = tupC (outP (rdC 11 xs).1 (rdC 11 xs).2 xs.length), pl_11 hG hs hf1 (hk1 11 h) hz rfl, out0 11 h (by decide) rfl⟩
  · exact fin (ΓR2_ok nm xs 12) fun w hG => ⟨Λ10, fun y _ => y = tupC (outP (rdC 12 xs).1 (rdC 12 xs).2 xs.length), pl_12 hG hs hf1 (hk1 12 h) hz rfl, out0 12 h (by decide) rfl⟩
  · exact fin (ΓR2_ok nm xs 13) fun w hG => ⟨Λ10, fun y _ => y = tupC (outP (rdC 13 xs).1 (rdC 13 xs).2 xs.length), pl_13 hG hs hf1 (hk1 13 h) hz rfl, out0 13 h (by decide) rfl⟩
  · exact fin (ΓR2_ok nm xs 14) fun w hG => ⟨Λ10, fun y _ => y = tupC (outP (rdC 14 xs).1 (rdC 14 xs).2 xs.length), pl_14 hG hs hf1 (hk1 14 h) hz rfl, out0 14 h (by decide) rfl⟩
--SHOW
end Go.Proofs.YtfhckpfiegenaaaGreatDoor.Tr
