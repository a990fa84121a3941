/- The decimal form of a number, as the reference makes it. -/
import Derived.Test.YtfhckpfiegenaaaGreatDoorCm6
namespace Go.Proofs.YtfhckpfiegenaaaGreatDoor.Tr
open Go Go.RowKit Go.Proofs.YtfhckpfiegenaaaGreatDoor.Eng Go.Proofs.YtfhckpfiegenaaaGreatDoor.Cm
set_option linter.unusedVariables false
set_option linter.unusedSimpArgs false
set_option maxRecDepth 8000
abbrev uV (n : Int) : SX := .v (.c (.val (.int .u64 n)))
structure DgS where
  u : Int
  s : ByteArray
def I83 (R : DgS → Prop) : LInv where
  σ := DgS
  pre := fun ⟨u, s⟩ => R ⟨u, s⟩
  mem := fun _ => []
  tmp := fun ⟨u, s⟩ J => [uV u, jV (J 1), jV (J 2), tV s, jV (J 4), jV (J 5), jV (J 6), jV (J 7), jV (J 8), jV (J 9), jV (J 10), jV (J 11), jV (J 12), jV (J 13), jV (J 14), jV (J 15), jV (J 16)]
  read := fun _ ts => match ts.getD 0 undefX, ts.getD 3 undefX with
    | .v (.c (.val (.int _ u))), .v (.c (.val (.string s))) => ⟨u, s⟩
    | _, _ => ⟨0, ⟨#[]⟩⟩
  junk := [1, 2, 4, 5, 6, 7, 8, 9, 10, 11, 12, 13, 14, 15, 16]
  μ := fun ⟨u, s⟩ => u.toNat
set_option maxHeartbeats 4000000 in
set_option maxRecDepth 100000 in
theorem f83 (O : Nat → Prop) (w0 : World) (u : Int) (R : DgS → Prop) (K : SX → Prop) (h_ : (∀ (s : DgS), LInv.pre (I83 R) s → Nat.le (0 : Nat) (List.length (LInv.mem (I83 R) s))) ∧ Fits (I83 R) (DgS.mk u (ByteArray.mk #[])) (LInv.mem (I83 R) (DgS.mk u (ByteArray.mk #[]))) (LInv.tmp (I83 R) (DgS.mk u (ByteArray.mk #[]))) ∧ ∀ (s : DgS) (J : Nat → Value), LInv.pre (I83 R) s → Cat (1 : Nat) (ByteArray.size s.2) ∧ bif IntKind.wrap IntKind.u64 (Int.tdiv s.1 (10 : Int)) == (0 : Int) then K (SX.v (SV.c (SC.val (Value.string (ByteArray.push ByteArray.empty (UInt8.ofNat (Int.toNat (IntKind.wrap IntKind.u8 (IntKind.wrap IntKind.u64 ((48 : Int) + Int.tmod s.1 (10 : Int)))))) ++ s.2))))) else Fits (I83 R) (DgS.mk (IntKind.wrap IntKind.u64 (Int.tdiv s.1 (10 : Int))) (ByteArray.push ByteArray.empty (UInt8.ofNat (Int.toNat (IntKind.wrap IntKind.u8 (IntKind.wrap IntKind.u64 ((48 : Int) + Int.tmod s.1 (10 : Int)))))) ++ s.2)) (LInv.mem (I83 R) (DgS.mk (IntKind.wrap IntKind.u64 (Int.tdiv s.1 (10 : Int))) (ByteArray.push ByteArray.empty (UInt8.ofNat (Int.toNat (IntKind.wrap IntKind.u8 (IntKind.wrap IntKind.u64 ((48 : Int) + Int.tmod s.1 (10 : Int)))))) ++ s.2))) (LInv.tmp (I83 R) (DgS.mk (IntKind.wrap IntKind.u64 (Int.tdiv s.1 (10 : Int))) (ByteArray.push ByteArray.empty (UInt8.ofNat (Int.toNat (IntKind.wrap IntKind.u8 (IntKind.wrap IntKind.u64 ((48 : Int) + Int.tmod s.1 (10 : Int)))))) ++ s.2))) ∧ Dec (I83 R) (DgS.mk (IntKind.wrap IntKind.u64 (Int.tdiv s.1 (10 : Int))) (ByteArray.push ByteArray.empty (UInt8.ofNat (Int.toNat (IntKind.wrap IntKind.u8 (IntKind.wrap IntKind.u64 ((48 : Int) + Int.tmod s.1 (10 : Int)))))) ++ s.2)) s) : evFn Tryz.prog O w0 ((fun _ _ _ => none : TabF) O w0) (Λof 83 (I83 R)) 100 5 83 [uV u] [] (fun y _ => K y) := vc_of h_ (by kernel_rfl)
/-- The digits of a number. -/
def dgS (u : Int) : ByteArray := ⟨(Lib.decDigits u.toNat).toArray⟩
structure U64 (n : Int) : Prop where
  lo : 0 ≤ n
  hi : n < 18446744073709551616
def gDg : EntF := fun O w0 args M k => match args with
  | [.v (.c (.val (.int .u64 n)))] => U64 n ∧ k (tV (dgS n)) M
  | _ => False
def Γd : TabF := addF (fun _ _ => Γ0) 83 gDg
set_option maxHeartbeats 4000000 in
set_option maxRecDepth 100000 in
theorem f49 (O : Nat → Prop) (w0 : World) (n : Int) (K : SX → Prop) (h_ : bif decide (n < (0 : Int)) then U64 (IntKind.wrap IntKind.u64 ((0 : Int) - IntKind.wrap IntKind.u64 n)) ∧ Cat (1 : Nat) (ByteArray.size (dgS (IntKind.wrap IntKind.u64 ((0 : Int) - IntKind.wrap IntKind.u64 n)))) ∧ K (SX.v (SV.c (SC.val (Value.string (ByteArray.mk #[(45 : UInt8)] ++ dgS (IntKind.wrap IntKind.u64 ((0 : Int) - IntKind.wrap IntKind.u64 n))))))) else U64 (IntKind.wrap IntKind.u64 n) ∧ K (SX.v (SV.c (SC.val (Value.string (dgS (IntKind.wrap IntKind.u64 n))))))) : evFn Tryz.prog O w0 (Γd O w0) Λn 100 5 49 [iV n] [] (fun y _ => K y) := vc_of h_ (by kernel_rfl)
--HIDE
theorem u64_wrap (n : Int) : IntKind.u64.wrap n = n % 18446744073709551616 := by simp [IntKind.wrap, IntKind.bits, IntKind.signed]
theorem u8_wrap (n : Int) : IntKind.u8.wrap n = n % 256 := by simp [IntKind.wrap, IntKind.bits, IntKind.signed]
theorem dec_small {u : Nat} (h : u < 10) : Lib.decDigits u = [UInt8.ofNat (48 + u)] := by rw [Lib.decDigits, dif_pos h]
theorem dec_big {u : Nat} (h : ¬ u < 10) : Lib.decDigits u = Lib.decDigits (u / 10) ++ [UInt8.ofNat (48 + u % 10)] := by rw [Lib.decDigits, dif_neg h]
theorem dec_len : ∀ (k u : Nat), u < 10 ^ (k + 1) → (Lib.decDigits u).length ≤ k + 1
  | 0, u, h => by rw [dec_small (by simpa using h)]; simp
  | k + 1, u, h => by
    by_cases h1 : u < 10
    · rw [dec_small h1]; simp
    · rw [dec_big h1, List.length_append]
      have := dec_len k (u / 10) (by rw [Nat.div_lt_iff_lt_mul (by decide)]; rw [Nat.pow_succ] at h; exact h)
      simp; omega
theorem dec_pos (u : Nat) : 1 ≤ (Lib.decDigits u).length := by
  by_cases h1 : u < 10
  · rw [dec_small h1]; simp
  · rw [dec_big h1, List.length_append]; simp
def R83 (n : Nat) : DgS → Prop := fun ⟨u, s⟩ => 0 ≤ u ∧ u < 18446744073709551616 ∧ Lib.decDigits u.toNat ++ byt s = Lib.decDigits n
theorem push_byt (c : UInt8) (s : ByteArray) : byt (ByteArray.empty.push c ++ s) = c :: byt s := by
  rw [byt_app]; rfl
theorem dg_code {u : Int} (h0 : 0 ≤ u) : UInt8.ofNat (IntKind.u8.wrap (IntKind.u64.wrap (48 + Int.tmod u 10))).toNat = UInt8.ofNat (48 + u.toNat % 10) := by
  have e : (IntKind.u8.wrap (IntKind.u64.wrap (48 + Int.tmod u 10))).toNat = 48 + u.toNat % 10 := by
    rw [Int.tmod_eq_emod_of_nonneg h0, u64_wrap, u8_wrap]; omega
  rw [e]
theorem e83 (O : Nat → Prop) (w0 : World) : Entry Tryz.prog O w0 83 (gDg O w0) :=
  Entry.pure (Γ := fun _ _ _ => none) (TSF.none _) 100 5 (g := gDg) (fun O w0 args M k hg => by
    unfold gDg at hg
    split at hg
    case h_2 => exact hg.elim
    rename_i n
    obtain ⟨⟨h0, h1⟩, hk⟩ := hg
    refine ⟨_, _, rfl, hk, fun _ => rfl, fun w hw => ⟨_, f83 _ w n (R83 n.toNat) _ ?_⟩⟩
    have hL := dec_len 19 n.toNat (by omega)
    refine ⟨fun _ _ => Nat.zero_le _, ⟨⟨h0, h1, by simp [byt]⟩, rfl, fun _ => rfl⟩, ?_⟩
    rintro ⟨u, s⟩ J ⟨u0, u1, he⟩
    dsimp only
    have hs : s.size = (byt s).length := rfl
    have hlen : (Lib.decDigits u.toNat).length + (byt s).length = (Lib.decDigits n.toNat).length := by rw [← he, List.length_append]
    have hpos := dec_pos u.toNat
    have hq : IntKind.u64.wrap (Int.tdiv u 10) = u / 10 := by rw [Int.tdiv_eq_ediv_of_nonneg u0, u64_wrap]; omega
    rw [hq, dg_code u0]
    refine ⟨⟨by omega⟩, cond_of (fun hz => ?_) (fun hz => ?_)⟩
    · have hz : u / 10 = 0 := by simpa using hz
      have hu : u.toNat < 10 := by omega
      rw [dec_small hu] at he
      refine congrArg (fun x => SX.v (.c (.val (.string x)))) (byt_inj ?_)
      rw [push_byt, show u.toNat % 10 = u.toNat by omega]
      exact he
    · have hz : u / 10 ≠ 0 := by simpa using hz
      have hu : ¬ u.toNat < 10 := by omega
      rw [dec_big hu] at he
      refine ⟨⟨⟨by omega, by omega, ?_⟩, rfl, fun _ => rfl⟩, ⟨by show (_ : Int).toNat < (_ : Int).toNat; omega⟩⟩
      rw [push_byt, show (u / 10).toNat = u.toNat / 10 by omega, ← he]
      simp) O w0
theorem Γd_ok : TSF Tryz.prog Γd := (TSF.none _).add e83
theorem e49 (O : Nat → Prop) (w0 : World) : Entry Tryz.prog O w0 49 (gFi O w0) :=
  Entry.pure Γd_ok 100 5 (g := gFi) (fun O w0 args M k hg => by
    unfold gFi at hg
    split at hg
    case h_2 => exact hg.elim
    rename_i n
    obtain ⟨hG, ⟨h0, h1⟩, hk⟩ := hg
    refine ⟨_, _, rfl, hk, fun _ => rfl, fun w hw => ⟨Λn, f49 _ w n _ ?_⟩⟩
    refine cond_of (fun hz => ?_) (fun hz => ?_)
    · have hz : n < 0 := of_decide_eq_true hz
      have e : IntKind.u64.wrap (0 - IntKind.u64.wrap n) = ((n.natAbs : Nat) : Int) := by rw [u64_wrap, u64_wrap]; omega
      rw [e]
      have hl := dec_len 19 n.natAbs (by omega)
      have hs : (dgS (n.natAbs : Int)).size ≤ 20 := by
        show (Lib.decDigits (n.natAbs : Int).toNat).length ≤ 20
        rw [Int.toNat_natCast]; exact hl
      refine ⟨⟨by omega, by omega⟩, ⟨by omega⟩, ?_⟩
      refine congrArg (fun x => SX.v (.c (.val (.string x)))) (byt_inj ?_)
      rw [byt_app]
      show [45] ++ Lib.decDigits (n.natAbs : Int).toNat = Lib.itoa n
      rw [Int.toNat_natCast]
      unfold Lib.itoa
      rw [if_pos hz]; rfl
    · have hz : ¬ n < 0 := of_decide_eq_false hz
      have e : IntKind.u64.wrap n = ((n.toNat : Nat) : Int) := by rw [u64_wrap]; omega
      rw [e]
      refine ⟨⟨by omega, by omega⟩, ?_⟩
      refine congrArg (fun x => SX.v (.c (.val (.string x)))) (byt_inj ?_)
      show Lib.decDigits (n.toNat : Int).toNat = Lib.itoa n
      rw [Int.toNat_natCast]
      unfold Lib.itoa
      rw [if_neg hz]) O w0
--SHOW
end Go.Proofs.YtfhckpfiegenaaaGreatDoor.Tr
