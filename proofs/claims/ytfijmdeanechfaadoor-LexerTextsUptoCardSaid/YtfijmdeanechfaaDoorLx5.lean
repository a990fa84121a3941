/- Contracts of the digits' functions: format's and the reference's, on texts of digits. -/
import Derived.Test.YtfijmdeanechfaaDoorLx4
import Derived.Test.YtfijmdeanechfaaDoorShelf
namespace Go.Proofs.YtfijmdeanechfaaDoor.Lx
open Go Go.RowKit Go.Proofs.YtfijmdeanechfaaDoor.Eng
set_option linter.unusedVariables false
set_option linter.unusedSimpArgs false
/-- The number that the first digits say. -/
def decV (s : ByteArray) : Nat → Int
  | 0 => 0
  | i + 1 => decV s i * 10 + (bAt s i - 48)
structure AllD (s : ByteArray) : Prop where
  d : ∀ i : Nat, i < s.size → isDg (bAt s i) = true
  le : s.size ≤ 9223372036854775807
structure NoZ (s : ByteArray) : Prop where
  pos : 0 < s.size
  nz : s.size = 1 ∨ bAt s 0 ≠ 48
def gIB : EntF := fun _ _ args M k => match args with
  | [.v (.c (.val (.string s))), .v (.c (.val (.int .u8 c)))] => k (iV (Lib.indexByte s.data.toList c.toNat.toUInt8)) M
  | _ => False
def gCnt : EntF := fun _ _ args M k => match args with
  | [.v (.c (.val (.string s))), .v (.c (.val (.string ⟨⟨[c]⟩⟩)))] => k (iV (Lib.countByte s.data.toList c)) M
  | _ => False
def Γ8 : TabF := addF (addF Γ7 63 gIB) 33 gCnt
def I55 (s : ByteArray) : LInv where
  σ := N1
  pre := fun ⟨i⟩ => 0 ≤ i ∧ i ≤ s.size
  mem := fun _ => []
  tmp := fun ⟨i⟩ J => [tV s, undefX, bV false, iV i, jV (J 4), jV (J 5), jV (J 6), jV (J 7), jV (J 8), jV (J 9), jV (J 10), jV (J 11), jV (J 12), jV (J 13), jV (J 14), jV (J 15), jV (J 16), jV (J 17), jV (J 18), jV (J 19), jV (J 20), jV (J 21)]
  read := fun _ ts => rI ts 3
  junk := [4, 5, 6, 7, 8, 9, 10, 11, 12, 13, 14, 15, 16, 17, 18, 19, 20, 21]
  μ := fun ⟨i⟩ => (s.size - i).toNat
set_option maxHeartbeats 4000000 in
set_option maxRecDepth 100000 in
theorem f55 (O : Nat → Prop) (w0 : World) (s : ByteArray) (K : SX → Prop) (h_ : (∀ (s_1 : N1), LInv.pre (I55 s) s_1 → Nat.le (0 : Nat) (List.length (LInv.mem (I55 s) s_1))) ∧ Fits (I55 s) (N1.mk (0 : Int)) (LInv.mem (I55 s) (N1.mk (0 : Int))) (LInv.tmp (I55 s) (N1.mk (0 : Int))) ∧ ∀ (s_1 : N1) (J : Nat → Value), LInv.pre (I55 s) s_1 → bif decide (s_1.1 < (↑(ByteArray.size s) : Int)) then In s_1.1 (↑(ByteArray.size s) : Int) ∧ bif decide (bAt s s_1.1 < (48 : Int)) then K (SX.v (SV.c (SC.val (Value.bool false)))) else In s_1.1 (↑(ByteArray.size s) : Int) ∧ bif decide (bAt s s_1.1 > (57 : Int)) then K (SX.v (SV.c (SC.val (Value.bool false)))) else Fits (I55 s) (N1.mk (IntKind.wrap IntKind.i64 (s_1.1 + (1 : Int)))) (LInv.mem (I55 s) (N1.mk (IntKind.wrap IntKind.i64 (s_1.1 + (1 : Int))))) (LInv.tmp (I55 s) (N1.mk (IntKind.wrap IntKind.i64 (s_1.1 + (1 : Int))))) ∧ Dec (I55 s) (N1.mk (IntKind.wrap IntKind.i64 (s_1.1 + (1 : Int)))) s_1 else K (SX.v (SV.c (SC.val (Value.bool !ByteArray.toList s == ByteArray.toList (ByteArray.mk #[])))))) : evFn Tryd.prog O w0 (Γ8 O w0) (Λof 55 (I55 s)) 100 5 55 [tV s] [] (fun y _ => K y) := vc_of h_ (by kernel_rfl)
def g55 : EntF := fun _ _ args M k => match args with
  | [.v (.c (.val (.string s)))] => AllD s ∧ (0 < s.size) ∧ k (bV true) M
  | _ => False
def Γ9 : TabF := addF Γ8 55 g55
structure N2 where
  i : Int
  n : Int
def rI2 (ts : List SX) (d e : Nat) : N2 := match ts.getD d undefX, ts.getD e undefX with
  | .v (.c (.val (.int _ n))), .v (.c (.val (.int _ m))) => ⟨n, m⟩
  | _, _ => ⟨0, 0⟩
def I56 (s : ByteArray) (m : Int) : LInv where
  σ := N2
  pre := fun ⟨i, n⟩ => 0 ≤ i ∧ i ≤ s.size ∧ n = decV s i.toNat ∧ n ≤ m
  mem := fun _ => []
  tmp := fun ⟨i, n⟩ J => [tV s, iV m, undefX, undefX, iV 0, iV 0, iV n, iV i, jV (J 8), jV (J 9), jV (J 10), jV (J 11), jV (J 12), jV (J 13), jV (J 14), jV (J 15), jV (J 16), jV (J 17), jV (J 18), jV (J 19), jV (J 20), jV (J 21), jV (J 22), jV (J 23), jV (J 24), jV (J 25), jV (J 26), jV (J 27), jV (J 28), jV (J 29), jV (J 30), jV (J 31), jV (J 32), jV (J 33), jV (J 34), jV (J 35), jV (J 36), jV (J 37), jV (J 38), jV (J 39), jV (J 40), jV (J 41), jV (J 42), jV (J 43)]
  read := fun _ ts => rI2 ts 7 6
  junk := [8, 9, 10, 11, 12, 13, 14, 15, 16, 17, 18, 19, 20, 21, 22, 23, 24, 25, 26, 27, 28, 29, 30, 31, 32, 33, 34, 35, 36, 37, 38, 39, 40, 41, 42, 43]
  μ := fun ⟨i, _⟩ => (s.size - i).toNat
set_option maxHeartbeats 4000000 in
set_option maxRecDepth 100000 in
theorem f56 (O : Nat → Prop) (w0 : World) (s : ByteArray) (m : Int) (K : SX → Prop) (h_ : AllD s ∧ Nat.le (1 : Nat) (ByteArray.size s) ∧ bif decide ((↑(ByteArray.size s) : Int) > (1 : Int)) then In (0 : Int) (↑(ByteArray.size s) : Int) ∧ bif bAt s (0 : Int) == (48 : Int) then K (SX.tup [SV.c (SC.val (Value.int IntKind.i64 (0 : Int))), SV.c (SC.val (Value.int IntKind.i64 (3 : Int)))]) else (∀ (s_1 : N2), LInv.pre (I56 s m) s_1 → Nat.le (0 : Nat) (List.length (LInv.mem (I56 s m) s_1))) ∧ Fits (I56 s m) (N2.mk (0 : Int) (0 : Int)) (LInv.mem (I56 s m) (N2.mk (0 : Int) (0 : Int))) (LInv.tmp (I56 s m) (N2.mk (0 : Int) (0 : Int))) ∧ ∀ (s_1 : N2) (J : Nat → Value), LInv.pre (I56 s m) s_1 → bif decide (s_1.1 < (↑(ByteArray.size s) : Int)) then In s_1.1 (↑(ByteArray.size s) : Int) ∧ bif decide (s_1.2 > IntKind.wrap IntKind.i64 (Int.tdiv (IntKind.wrap IntKind.i64 (m - IntKind.wrap IntKind.i64 (IntKind.wrap IntKind.u8 (bAt s s_1.1 - (48 : Int))))) (10 : Int))) then K (SX.tup [SV.c (SC.val (Value.int IntKind.i64 (0 : Int))), SV.c (SC.val (Value.int IntKind.i64 (6 : Int)))]) else Fits (I56 s m) (N2.mk (IntKind.wrap IntKind.i64 (s_1.1 + (1 : Int))) (IntKind.wrap IntKind.i64 (IntKind.wrap IntKind.i64 ((10 : Int) * s_1.2) + IntKind.wrap IntKind.i64 (IntKind.wrap IntKind.u8 (bAt s s_1.1 - (48 : Int)))))) (LInv.mem (I56 s m) (N2.mk (IntKind.wrap IntKind.i64 (s_1.1 + (1 : Int))) (IntKind.wrap IntKind.i64 (IntKind.wrap IntKind.i64 ((10 : Int) * s_1.2) + IntKind.wrap IntKind.i64 (IntKind.wrap IntKind.u8 (bAt s s_1.1 - (48 : Int))))))) (LInv.tmp (I56 s m) (N2.mk (IntKind.wrap IntKind.i64 (s_1.1 + (1 : Int))) (IntKind.wrap IntKind.i64 (IntKind.wrap IntKind.i64 ((10 : Int) * s_1.2) + IntKind.wrap IntKind.i64 (IntKind.wrap IntKind.u8 (bAt s s_1.1 - (48 : Int))))))) ∧ Dec (I56 s m) (N2.mk (IntKind.wrap IntKind.i64 (s_1.1 + (1 : Int))) (IntKind.wrap IntKind.i64 (IntKind.wrap IntKind.i64 ((10 : Int) * s_1.2) + IntKind.wrap IntKind.i64 (IntKind.wrap IntKind.u8 (bAt s s_1.1 - (48 : Int)))))) s_1 else K (SX.tup [SV.c (SC.val (Value.int IntKind.i64 s_1.2)), SV.c (SC.val (Value.int IntKind.i64 (0 : Int)))]) else (∀ (s_1 : N2), LInv.pre (I56 s m) s_1 → Nat.le (0 : Nat) (List.length (LInv.mem (I56 s m) s_1))) ∧ Fits (I56 s m) (N2.mk (0 : Int) (0 : Int)) (LInv.mem (I56 s m) (N2.mk (0 : Int) (0 : Int))) (LInv.tmp (I56 s m) (N2.mk (0 : Int) (0 : Int))) ∧ ∀ (s_1 : N2) (J : Nat → Value), LInv.pre (I56 s m) s_1 → bif decide (s_1.1 < (↑(ByteArray.size s) : Int)) then In s_1.1 (↑(ByteArray.size s) : Int) ∧ bif decide (s_1.2 > IntKind.wrap IntKind.i64 (Int.tdiv (IntKind.wrap IntKind.i64 (m - IntKind.wrap IntKind.i64 (IntKind.wrap IntKind.u8 (bAt s s_1.1 - (48 : Int))))) (10 : Int))) then K (SX.tup [SV.c (SC.val (Value.int IntKind.i64 (0 : Int))), SV.c (SC.val (Value.int IntKind.i64 (6 : Int)))]) else Fits (I56 s m) (N2.mk (IntKind.wrap IntKind.i64 (s_1.1 + (1 : Int))) (IntKind.wrap IntKind.i64 (IntKind.wrap IntKind.i64 ((10 : Int) * s_1.2) + IntKind.wrap IntKind.i64 (IntKind.wrap IntKind.u8 (bAt s s_1.1 - (48 : Int)))))) (LInv.mem (I56 s m) (N2.mk (IntKind.wrap IntKind.i64 (s_1.1 + (1 : Int))) (IntKind.wrap IntKind.i64 (IntKind.wrap IntKind.i64 ((10 : Int) * s_1.2) + IntKind.wrap IntKind.i64 (IntKind.wrap IntKind.u8 (bAt s s_1.1 - (48 : Int))))))) (LInv.tmp (I56 s m) (N2.mk (IntKind.wrap IntKind.i64 (s_1.1 + (1 : Int))) (IntKind.wrap IntKind.i64 (IntKind.wrap IntKind.i64 ((10 : Int) * s_1.2) + IntKind.wrap IntKind.i64 (IntKind.wrap IntKind.u8 (bAt s s_1.1 - (48 : Int))))))) ∧ Dec (I56 s m) (N2.mk (IntKind.wrap IntKind.i64 (s_1.1 + (1 : Int))) (IntKind.wrap IntKind.i64 (IntKind.wrap IntKind.i64 ((10 : Int) * s_1.2) + IntKind.wrap IntKind.i64 (IntKind.wrap IntKind.u8 (bAt s s_1.1 - (48 : Int)))))) s_1 else K (SX.tup [SV.c (SC.val (Value.int IntKind.i64 s_1.2)), SV.c (SC.val (Value.int IntKind.i64 (0 : Int)))])) : evFn Tryd.prog O w0 (Γ9 O w0) (Λof 56 (I56 s m)) 100 5 56 [tV s, iV m] [] (fun y _ => K y) := vc_of h_ (by kernel_rfl)
def g56 : EntF := fun _ _ args M k => match args with
  | [.v (.c (.val (.string s))), .v (.c (.val (.int .i64 m)))] => AllD s ∧ NoZ s ∧ In m 4611686018427387905 ∧ In 8 m ∧ (decV s s.size ≤ m → k (.tup [.c (.val (.int .i64 (decV s s.size))), .c (.val (.int .i64 0))]) M) ∧ (m < decV s s.size → k (.tup [.c (.val (.int .i64 0)), .c (.val (.int .i64 6))]) M)
  | _ => False
def Γ10 : TabF := addF Γ9 56 g56
--HIDE
theorem blist (s : ByteArray) : s.toList = s.data.toList := Lib.toList_data s
theorem Entry.calls {P : Program} {f : FuncId} {g : EntF} (h : ∀ O w0 args M k, g O w0 args M k → ∃ x, k x M ∧ ∀ β w, Calls P f (fr β args) w (fun e w' => e = .returned (x.den β) ∧ w' = w)) : ∀ O w0, Entry P O w0 f (g O w0) := fun O w0 hf args M k hg hm β w hI => by
  obtain ⟨x, hk, hc⟩ := h O w0 args M k hg
  refine (hc β w).mono ?_
  rintro e w' ⟨rfl, rfl⟩
  exact ⟨x, M, β, hk, rfl, hI, Grow.refl _ _, fun _ _ => rfl⟩
theorem e63 (O : Nat → Prop) (w0 : World) : Entry Tryd.prog O w0 63 (gIB O w0) := Entry.calls (g := gIB) (fun O w0 args M k hg => by
  unfold gIB at hg
  split at hg
  · exact ⟨_, hg, fun β w => Tryd.stringslite_IndexByte _ _ w⟩
  · exact hg.elim) O w0
theorem e33 (O : Nat → Prop) (w0 : World) : Entry Tryd.prog O w0 33 (gCnt O w0) := Entry.calls (g := gCnt) (fun O w0 args M k hg => by
  unfold gCnt at hg
  split at hg
  · exact ⟨_, hg, fun β w => Tryd.strings_Count_one _ _ w⟩
  · exact hg.elim) O w0
theorem Γ8_ok : TSF Tryd.prog Γ8 := (Γ7_ok.add e63).add e33
theorem AllD.at {s : ByteArray} (h : AllD s) {i : Int} (h0 : 0 ≤ i) (h1 : i < s.size) : 48 ≤ bAt s i ∧ bAt s i ≤ 57 := by
  have := h.d i.toNat (by omega)
  rw [show ((i.toNat : Nat) : Int) = i by omega] at this
  unfold isDg at this
  simpa using this
theorem e55 (O : Nat → Prop) (w0 : World) : Entry Tryd.prog O w0 55 (g55 O w0) :=
  Entry.pure Γ8_ok 100 5 (g := g55) (fun O w0 args M k hg => by
    unfold g55 at hg
    split at hg
    case h_2 => exact hg.elim
    rename_i s
    obtain ⟨hd, hp, hk⟩ := hg
    have hle := hd.le
    refine ⟨_, _, rfl, hk, fun _ => rfl, fun w hw => ⟨_, f55 _ w s _ ⟨fun _ _ => Nat.zero_le _, ⟨⟨by omega, by omega⟩, rfl, fun _ => rfl⟩, ?_⟩⟩⟩
    rintro ⟨i⟩ J ⟨h0, h1⟩
    dsimp only
    refine cond_of (fun h => ?_) (fun h => ?_)
    · have h : i < s.size := by simpa using h
      have hb := hd.at h0 h
      refine ⟨⟨h0, h⟩, cond_of (fun h2 => absurd (of_decide_eq_true h2) (by omega)) (fun _ => ⟨⟨h0, h⟩, cond_of (fun h2 => absurd (of_decide_eq_true h2) (by omega)) (fun _ => ?_)⟩)⟩
      rw [wrap_in (by omega) (by omega)]
      exact ⟨⟨⟨by omega, by omega⟩, rfl, fun _ => rfl⟩, ⟨by show (_ : Int).toNat < (_ : Int).toNat; omega⟩⟩
    · have : s.toList ≠ (ByteArray.mk #[]).toList := by
        rw [blist, blist]
        intro h
        have := congrArg List.length h
        have h2 : s.data.toList.length = s.size := rfl
        have h3 : (ByteArray.mk #[]).data.toList.length = 0 := rfl
        omega
      rw [show (s.toList == (ByteArray.mk #[]).toList) = false by simpa using this]
      rfl) O w0
theorem Γ9_ok : TSF Tryd.prog Γ9 := Γ8_ok.add e55
theorem decV_ge {s : ByteArray} (hd : AllD s) : ∀ i, i ≤ s.size → 0 ≤ decV s i
  | 0, _ => Int.le_refl _
  | i + 1, h => by
    have := decV_ge hd i (by omega)
    have := hd.at (i := i) (by omega) (by omega)
    show 0 ≤ decV s i * 10 + (bAt s i - 48)
    omega
theorem decV_mono {s : ByteArray} (hd : AllD s) {i : Nat} (j : Nat) (h : i ≤ j) (hj : j ≤ s.size) : decV s i ≤ decV s j := by
  induction j with
  | zero => rw [show i = 0 by omega]; exact Int.le_refl _
  | succ j ih =>
    by_cases e : i = j + 1
    · rw [e]; exact Int.le_refl _
    · have h1 := ih (by omega) (by omega)
      have h2 := decV_ge hd j (by omega)
      have h3 := AllD.at hd (i := (j : Int)) (by omega) (by omega)
      show decV s i ≤ decV s j * 10 + (bAt s j - 48)
      omega
theorem wrap8 {n : Int} (h0 : 0 ≤ n) (h1 : n ≤ 255) : IntKind.u8.wrap n = n := by
  unfold IntKind.wrap; simp [IntKind.bits, IntKind.signed]; omega
theorem e56 (O : Nat → Prop) (w0 : World) : Entry Tryd.prog O w0 56 (g56 O w0) :=
  Entry.pure Γ9_ok 100 5 (g := g56) (fun O w0 args M k hg => by
    unfold g56 at hg
    split at hg
    case h_2 => exact hg.elim
    rename_i s m
    obtain ⟨hd, ⟨hp, hz⟩, ⟨hm0, hm1⟩, ⟨_, hm2⟩, hk1, hk2⟩ := hg
    have hk : k (.tup [.c (.val (.int .i64 (if decV s s.size ≤ m then decV s s.size else 0))), .c (.val (.int .i64 (if decV s s.size ≤ m then 0 else 6)))]) M := by
      by_cases hv : decV s s.size ≤ m
      · rw [if_pos hv, if_pos hv]; exact hk1 hv
      · rw [if_neg hv, if_neg hv]; exact hk2 (by omega)
    have hle := hd.le
    refine ⟨_, _, rfl, hk, fun _ => rfl, fun w hw => ⟨_, f56 _ w s m _ ⟨hd, hp, cond_of (fun a1 => ⟨⟨by omega, by omega⟩, cond_of (fun a2 => ?_) (fun _ => ?_)⟩) (fun _ => ?_)⟩⟩⟩
    · have a1 : (1 : Int) < s.size := by simpa using a1
      have a2 : bAt s 0 = 48 := by simpa using a2
      rcases hz with hz | hz
      · omega
      · exact absurd a2 hz
    all_goals
      refine ⟨fun _ _ => Nat.zero_le _, ⟨⟨by omega, by omega, rfl, by omega⟩, rfl, fun _ => rfl⟩, ?_⟩
      rintro ⟨i, n⟩ J ⟨h0, h1, h2, h3⟩
      dsimp only
      have hn := decV_ge hd i.toNat (by omega)
      have hi : ((i.toNat : Nat) : Int) = i := by omega
      refine cond_of (fun h => ?_) (fun h => ?_)
      · have h : i < s.size := by simpa using h
        have hb := hd.at h0 h
        have hs : decV s (i.toNat + 1) = n * 10 + (bAt s i - 48) := by
          show decV s i.toNat * 10 + (bAt s ((i.toNat : Nat) : Int) - 48) = _
          rw [hi, h2]
        have hmono := decV_mono (i := i.toNat + 1) hd s.size (by omega) (Nat.le_refl _)
        rw [wrap8 (n := bAt s i - 48) (by omega) (by omega), wrap_in (n := bAt s i - 48) (by omega) (by omega), wrap_in (n := m - (bAt s i - 48)) (by omega) (by omega), Int.tdiv_eq_ediv_of_nonneg (by omega), wrap_in (n := (m - (bAt s i - 48)) / 10) (by omega) (by omega), wrap_in (n := i + 1) (by omega) (by omega)]
        refine ⟨⟨h0, h⟩, cond_of (fun c => ?_) (fun c => ?_)⟩
        · have c : n > (m - (bAt s i - 48)) / 10 := of_decide_eq_true c
          rw [if_neg (by omega), if_neg (by omega)]
        · have c : ¬ n > (m - (bAt s i - 48)) / 10 := of_decide_eq_false c
          rw [wrap_in (n := 10 * n) (by omega) (by omega), wrap_in (n := 10 * n + (bAt s i - 48)) (by omega) (by omega)]
          refine ⟨⟨⟨by omega, by omega, ?_, by omega⟩, rfl, fun _ => rfl⟩, ⟨by show (_ : Int).toNat < (_ : Int).toNat; omega⟩⟩
          rw [show (i + 1).toNat = i.toNat + 1 by omega, hs]; omega
      · have h : ¬ i < s.size := by simpa using h
        rw [show i.toNat = s.size by omega] at h2
        rw [← h2, if_pos h3, if_pos h3]) O w0
theorem Γ10_ok : TSF Tryd.prog Γ10 := Γ9_ok.add e56
--SHOW
end Go.Proofs.YtfijmdeanechfaaDoor.Lx
