/- The reference's decimal: the forms of a list of numbers. -/
import Derived.Test.YtfhckpfiegenaaaGreatDoorCm16
namespace Go.Proofs.YtfhckpfiegenaaaGreatDoor.Tr
open Go Go.RowKit Go.Proofs.YtfhckpfiegenaaaGreatDoor.Eng Go.Proofs.YtfhckpfiegenaaaGreatDoor.Cm
set_option linter.unusedVariables false
set_option linter.unusedSimpArgs false
set_option maxRecDepth 8000
def Kl (e sz t : Nat) (ts : List SX) : KE := match ts.getD t undefX with
  | .v (.c (.lst k)) => .at_ k
  | _ => .nil e sz t
def I50 (A : Option Addr) (l : List Int) (c : Nat) (R : UF → Prop) : LInv where
  σ := UF
  pre := fun ⟨i, n, F⟩ => R ⟨i, n, F⟩
  mem := fun ⟨i, n, F⟩ => [.lst 9 1 n F]
  tmp := fun ⟨i, n, F⟩ J => [sV A l c, jV (J 1), jV (J 2), .v (.c (.lst 0)), iV i, jV (J 5), jV (J 6), jV (J 7), jV (J 8), jV (J 9), jV (J 10), jV (J 11), jV (J 12), jV (J 13), jV (J 14), jV (J 15), jV (J 16), jV (J 17), jV (J 18), jV (J 19), jV (J 20)]
  read := fun M ts => ⟨0, 0, fun _ => []⟩
  junk := [1, 2, 5, 6, 7, 8, 9, 10, 11, 12, 13, 14, 15, 16, 17, 18, 19, 20]
  μ := fun ⟨i, n, F⟩ => (l.length - i).toNat
  keep := some fun M ts => [Kl 9 1 3 ts]
  ex := true
set_option maxHeartbeats 4000000 in
set_option maxRecDepth 100000 in
theorem f50 (O : Nat → Prop) (w0 : World) (A : Option Addr) (l : List Int) (c : Nat) (R : UF → Prop) (K : SX → List Blk → Prop) (h_ : (∀ (s : UF), LInv.pre (I50 A l c R) s → Nat.le (0 : Nat) (List.length (LInv.mem (I50 A l c R) s))) ∧ (FitE (I50 A l c R) [Blk.lst 9 1 0 fun x ↦ []] (fun J ↦ [SX.v (SV.c (SC.rsl A (1 : Nat) (ints l) (0 : Nat) (List.length l) c)), jV (J 1), jV (J 2), SX.v (SV.c (SC.lst 0)), SX.v (SV.c (SC.val (Value.int IntKind.i64 0))), jV (J 5), jV (J 6), jV (J 7), jV (J 8), jV (J 9), jV (J 10), jV (J 11), jV (J 12), jV (J 13), jV (J 14), jV (J 15), jV (J 16), jV (J 17), jV (J 18), jV (J 19), jV (J 20)]) fun x ↦ True) ∧ ∀ (s : UF) (J : Nat → Value), LInv.pre (I50 A l c R) s → bif decide (s.1 < (↑(List.length l) : Int)) then In s.1 (↑(List.length l) : Int) ∧ Option.isSome A = true ∧ RowAt O w0 A (1 : Nat) (ints l ((0 : Nat) + Int.toNat s.1)) ((0 : Nat) + Int.toNat s.1) ∧ GlT O w0 ∧ I64 (List.getD l ((0 : Nat) + Int.toNat s.1) (0 : Int)) ∧ Room (s.2 + (1 : Nat)) (16 : Nat) ∧ FitE (I50 A l c R) [Blk.lst 9 1 (s.2 + (1 : Nat)) fun j ↦ bif Nat.blt j s.2 then s.3 j else [SC.val (Value.string (fiS (List.getD l ((0 : Nat) + Int.toNat s.1) (0 : Int))))]] (fun J ↦ [SX.v (SV.c (SC.rsl A (1 : Nat) (ints l) (0 : Nat) (List.length l) c)), jV (J 1), jV (J 2), SX.v (SV.c (SC.lst 0)), SX.v (SV.c (SC.val (Value.int IntKind.i64 (IntKind.wrap IntKind.i64 (s.1 + (1 : Int)))))), jV (J 5), jV (J 6), jV (J 7), jV (J 8), jV (J 9), jV (J 10), jV (J 11), jV (J 12), jV (J 13), jV (J 14), jV (J 15), jV (J 16), jV (J 17), jV (J 18), jV (J 19), jV (J 20)]) fun s' ↦ LInv.μ (I50 A l c R) s' < LInv.μ (I50 A l c R) s else K (SX.v (SV.c (SC.lst 0))) [Blk.lst (nat_lit 9) (1 : Nat) s.2 s.3]) : evFn Tryz.prog O w0 (ΓT O w0) (Λof 50 (I50 A l c R)) 100 5 50 [sV A l c] [] (fun y M => K y M) := vc_of h_ (by kernel_rfl)
--HIDE
/-- A list of numbers: rows that came in, a list of the memory at hand, or a block of numbers. -/
structure NumsM (O : Nat → Prop) (w0 : World) (M : List Blk) (x : SX) (l : List Int) : Prop where
  out : IntsX O w0 x l ∨ (∃ k e f, x = SX.one (.lst k) ∧ M[k]? = some (.lst e 1 l.length f) ∧ ∀ j, j < l.length → f j = ints l j) ∨ ∃ b cap e, x = .v (.c (.sl b 0 l.length cap)) ∧ M[b]? = some (.mk e (l.map fun v => SC.val (.int .i64 v)))
theorem NumsM.rows {O : Nat → Prop} {w0 w : World} {β : Env} {M : List Blk} {x : SX} {l : List Int} (h : NumsM O w0 M x l) (hI : Inv O w0 β M w) :
    ∃ A c, (sV A l c).den β = x.den β ∧ ∀ j, j < l.length → A.isSome = true ∧ RowAt (fun _ => False) w A 1 (ints l j) j := by
  rcases h.out with ⟨hl, A, c, ha, hA⟩ | ⟨k, e, f, rfl, hk, hf⟩ | ⟨b, cap, e, rfl, hb⟩
  · exact ⟨A, c, (ha β).symm, fun j hj => ⟨(hA j hj).1, (hA j hj).2.at hI.fr⟩⟩
  · obtain ⟨h1, h2⟩ := hI.rows hk
    refine ⟨_, _, h1.symm, fun j hj => ?_⟩
    rw [← hf j hj]; exact h2 j hj
  · refine ⟨some ⟨β b, 0, none⟩, cap, ?_, fun j hj => ⟨rfl, ⟨β b, 0, none⟩, rfl, hI.lt hb trivial, fun h => h, rfl, fun i y hy => ?_⟩⟩
    · show Value.slice (some (Addr.add ⟨β b, 0, none⟩ (0 * 1))) l.length cap = .slice (some ⟨β b, 0, none⟩) l.length cap
      rw [Nat.zero_mul, add0]
    · have hi : i = 0 := by
        cases i with
        | zero => rfl
        | succ i => simp [ints] at hy
      subst hi
      cases hy
      rw [add_plain0, Nat.mul_one, Nat.add_zero, hI.cell hb (off := j) (x := .val (.int .i64 (l.getD j 0))) (by
        show (l.map fun v => SC.val (.int .i64 v))[j]? = _
        rw [List.getElem?_map, List.getD_eq_getElem?_getD, List.getElem?_eq_getElem hj]; rfl)]
      rfl
structure AllI (l : List Int) : Prop where
  at_ : ∀ v ∈ l, I64 v
  le : l.length ≤ 500
def gDec : EntF := fun O w0 args M k => match args with
  | [a] => GlT O w0 ∧ ∃ l, NumsM O w0 M a l ∧ AllI l ∧ ∀ F, LsX encS ⟨#[]⟩ l.length F (l.map fiS) → k (.v (.c (.lst M.length))) (M ++ [.lst 9 1 l.length F])
  | _ => False
def RD (l : List Int) : UF → Prop := fun ⟨i, n, F⟩ => 0 ≤ i ∧ i ≤ l.length ∧ LsX encS ⟨#[]⟩ n F ((l.take i.toNat).map fiS)
set_option maxRecDepth 100000 in
theorem e50 (O : Nat → Prop) (w0 : World) : Entry Tryz.prog O w0 50 (gDec O w0) :=
  Entry.madeQ Γ6_ok2 100 5 (g := gDec) (fun O w0 args M k hg β w hI => by
    unfold gDec at hg
    split at hg
    case h_2 => exact hg.elim
    obtain ⟨hG, l, hN, hA, hk⟩ := hg
    obtain ⟨A, c, ha, hr⟩ := hN.rows hI
    have hG := hG.at hI.fr
    have hle := hA.le
    refine ⟨[sV A l c], _, by unfold fr; simp only [List.map_cons, ha, List.map_nil], f50 _ w A l c (RD l) _ ?_⟩
    refine ⟨fun _ _ => Nat.zero_le _, ⟨⟨⟨0, 0, _⟩, ⟨Int.le_refl _, by omega, ⟨rfl, fun j hj => absurd hj (Nat.not_lt_zero j)⟩⟩, ⟨⟨_, rfl, fun _ _ => rfl⟩, trivial⟩, fun _ => rfl, trivial⟩⟩, ?_⟩
    rintro ⟨i, n, F⟩ J ⟨i0, i1, hL⟩
    dsimp only
    simp only [Nat.zero_add]
    have hn := hL.len
    simp only [List.length_map, List.length_take] at hn
    refine cond_of (fun hi => ?_) (fun hi => ?_)
    · have hi : i < (l.length : Int) := of_decide_eq_true hi
      have hv : I64 (l.getD i.toNat 0) := by
        rw [List.getD_eq_getElem?_getD, List.getElem?_eq_getElem (show i.toNat < l.length by omega)]
        exact hA.at_ _ (List.getElem_mem _)
      have h2 := hr i.toNat (by omega)
      rw [wrap_in (show -9223372036854775808 ≤ i + 1 by omega) (by omega)]
      refine ⟨⟨i0, hi⟩, h2.1, h2.2, hG, hv, ⟨by omega⟩, ⟨⟨⟨i + 1, n + 1, _⟩, ⟨by omega, by omega, ?_⟩, ⟨⟨_, rfl, fun _ _ => rfl⟩, trivial⟩, fun _ => rfl, by show (_ : Int).toNat < (_ : Int).toNat; omega⟩⟩⟩
      have h3 := hL.app1 (r := fiS (l.getD i.toNat 0)) (F := fun j => bif Nat.blt j n then F j else [SC.val (.string (fiS (l.getD i.toNat 0)))]) ⟨fun j hj => rfl⟩
      have h4 := take_fi i0 hi []
      simp only [List.nil_append] at h4
      rw [← h4]
      exact h3
    · have hi : ¬ i < (l.length : Int) := of_decide_eq_false hi
      rw [List.take_of_length_le (show l.length ≤ i.toNat by omega)] at hL
      have hnl : n = l.length := by omega
      subst hnl
      exact ⟨[], .lst 0, 9, 1, _, _, rfl, rfl, .lst 0 _ rfl (fun _ _ => rfl), hk _ hL⟩) O w0
--SHOW
end Go.Proofs.YtfhckpfiegenaaaGreatDoor.Tr
