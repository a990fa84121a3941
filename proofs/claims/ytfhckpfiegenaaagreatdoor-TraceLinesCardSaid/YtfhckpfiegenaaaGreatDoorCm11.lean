/- Line, of the package: its contract (plain parts). -/
import Derived.Test.YtfhckpfiegenaaaGreatDoorCm10
import Derived.Lib.ItoaLen
namespace Go.Proofs.YtfhckpfiegenaaaGreatDoor.Tr
open Go Go.RowKit Go.Proofs.YtfhckpfiegenaaaGreatDoor.Eng Go.Proofs.YtfhckpfiegenaaaGreatDoor.Cm
set_option linter.unusedVariables false
set_option linter.unusedSimpArgs false
set_option maxRecDepth 8000
def wOf (l : List ByteArray) (n : Int) : ByteArray := if n < 1 ∨ n > l.length then ⟨#[63]⟩ else l.getD (n - 1).toNat ⟨#[63]⟩
/-- The fields of a valid command behind its name. -/
def fieldsP (x : S33) : List ByteArray :=
  if x.f0 = 1 ∨ x.f0 = 11 ∨ x.f0 = 12 then [x.f2].map fiS
  else if x.f0 = 2 ∨ x.f0 = 5 then [x.f1, x.f2].map fiS
  else if x.f0 = 3 then [x.f2].map fiS ++ [wOf ixTab x.f5]
  else if x.f0 = 4 then [x.f1, x.f2].map fiS ++ [x.f8.f0].map fiS ++ [x.f8.f1].map fiS ++ [x.f8.f2].map fiS ++ [x.f8.f3].map fiS ++ [x.f8.f4].map fiS ++ [x.f8.f5.f0, x.f8.f5.f1, x.f8.f5.f2, x.f8.f5.f3].map fiS ++ [x.f8.f6, x.f8.f7, x.f8.f8].map fiS
  else if x.f0 = 6 then (x.f3 :: x.f9).map fiS
  else if x.f0 = 7 then (if x.f13 = true then [x.f2].map fiS ++ [⟨#[108, 111, 97, 100]⟩] else [x.f2].map fiS ++ [⟨#[99, 108, 101, 97, 114]⟩] ++ [x.f10.f0, x.f10.f1, x.f10.f2, x.f10.f3].map fiS ++ [x.f11, x.f12].map fiS)
  else if x.f0 = 8 then []
  else if x.f0 = 9 then [x.f3, x.f4].map fiS
  else if x.f0 = 10 then [x.f2].map fiS ++ [wOf stTab x.f6] ++ [wOf stTab x.f7]
  else [x.f2, x.f1].map fiS
def lineP (x : S33) : ByteArray := joinT (nmS x.f0 :: fieldsP x)
structure LnIs (x : S33) (r : ByteArray) (e : Int) : Prop where
  e : e = chk x
  r : r = if chk x = 0 then lineP x else ⟨#[]⟩
def gLn : EntF := fun O w0 args M k => match args with
  | [a] => GlT O w0 ∧ ∃ x, CmdX O w0 a x ∧ ∀ r e, LnIs x r e → k (.tup [.c (.val (.string r)), .c (.val (.int .i64 e))]) M
  | _ => False
theorem LsX.app {m : Nat} {f F : Nat → List SC} {xs : List ByteArray} {vs : List Int} (h : LsX encS ⟨#[]⟩ m f xs) (hA : AppF F m f vs) : LsX encS ⟨#[]⟩ (m + vs.length) F (xs ++ vs.map fiS) := by
  refine ⟨by rw [List.length_append, List.length_map, h.len], fun j hj => ?_⟩
  rw [hA.at_ j hj]
  unfold appF
  by_cases hm : j < m
  · rw [blt_t hm, cond_true, h.at_ j hm, List.getD_eq_getElem?_getD, List.getD_eq_getElem?_getD, List.getElem?_append_left (by rw [← h.len]; exact hm)]
  · rw [blt_f hm, cond_false, List.getD_eq_getElem?_getD, List.getD_eq_getElem?_getD, List.getElem?_append_right (by rw [← h.len]; omega), ← h.len, List.getElem?_map]
    have hv : j - m < vs.length := by omega
    rw [List.getElem?_eq_getElem hv]; rfl
theorem LsX.one (s : ByteArray) : LsX encS ⟨#[]⟩ 1 (fun _ => [SC.val (.string s)]) [s] := ⟨rfl, fun j hj => by cases Nat.lt_one_iff.1 hj; rfl⟩
theorem fiS_size {n : Int} (h : I64 n) : (fiS n).size ≤ 21 := Lib.itoa_length_le n h.lo h.hi
theorem nmS_size (n : Int) : (nmS n).size ≤ 40 := by
  have hall : nmTab.all (fun s => decide (s.size ≤ 40)) = true := by decide
  unfold nmS
  split
  · exact show (1 : Nat) ≤ 40 by decide
  · unfold nmAt
    rw [List.getD_eq_getElem?_getD]
    cases hg : nmTab[(n - 1).toNat]? with
    | none => exact show (1 : Nat) ≤ 40 by decide
    | some s => exact of_decide_eq_true (List.all_eq_true.1 hall s (List.mem_of_getElem? hg))
theorem wtS_le : ∀ (xs : List ByteArray), (∀ x ∈ xs, x.size ≤ 40) → wtS xs ≤ xs.length * 41
  | [], _ => Nat.le_refl _
  | x :: r, h => by
    have h1 := h x (List.mem_cons_self ..)
    have h2 := wtS_le r fun y hy => h y (List.mem_cons_of_mem _ hy)
    show x.size + 1 + wtS r ≤ (r.length + 1) * 41
    omega
theorem JoinOk.of {xs : List ByteArray} (h : ∀ x ∈ xs, x.size ≤ 40) (hl : xs.length ≤ 1000) : JoinOk xs ⟨#[32]⟩ := ⟨rfl, by have := wtS_le xs h; omega, by omega⟩
theorem NumC.of {O : Nat → Prop} {w0 : World} {m : Nat} {vs : List Int} (hG : GlT O w0) (h : ∀ v ∈ vs, I64 v) (hm : m + vs.length ≤ 1000) : NumC O w0 m vs := by
  refine ⟨hG, fun j hj => ?_, fun q hq => ⟨by omega⟩⟩
  rw [List.getD_eq_getElem?_getD, List.getElem?_eq_getElem hj]
  exact h _ (List.getElem_mem hj)
theorem fi_sizes {vs : List Int} (h : ∀ v ∈ vs, I64 v) : ∀ x ∈ vs.map fiS, x.size ≤ 40 := fun x hx => by
  obtain ⟨v, hv, rfl⟩ := List.mem_map.1 hx
  have := fiS_size (h v hv)
  omega
theorem i64_of {n : Int} (h0 : -1000000 ≤ n) (h1 : n ≤ 1000000) : I64 n := ⟨by omega, by omega⟩
end Go.Proofs.YtfhckpfiegenaaaGreatDoor.Tr
