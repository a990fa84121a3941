/- Plain laws of checking: what a valid list's commands hold; the states behind a list. -/
import Derived.Test.YtomnecadhiflnaaDoorCm22
namespace Go.Proofs.YtomnecadhiflnaaDoor.Br
open Go Go.RowKit Go.Proofs.YtomnecadhiflnaaDoor.Eng Go.Proofs.YtomnecadhiflnaaDoor.Cm
set_option linter.unusedVariables false
set_option linter.unusedSimpArgs false
theorem valG_chk (n : Int) : ∀ (t : List S33) (i : Int) (s : St), (valG n t i s).2 = 0 → (valG n t i s).1 = n ∧ ∀ x ∈ t, chk x = 0
  | [], i, s, h => by
    refine ⟨?_, fun x hx => (by cases hx)⟩
    unfold valG at h ⊢
    cases hs : s.inPass with
    | true => rw [hs] at h; exact absurd (show (16 : Int) = 0 from h) (by decide)
    | false => rfl
  | y :: t, i, s, h => by
    unfold valG at h ⊢
    cases hc : chk y == 0 with
    | false =>
      rw [hc] at h
      have h : chk y = 0 := h
      rw [h] at hc; cases hc
    | true =>
      rw [hc] at h
      simp only [cond_true] at h ⊢
      cases h3 : (nxtK y.f0 y.f2 s).1 != 0 with
      | true =>
        rw [h3] at h
        have h : (nxtK y.f0 y.f2 s).1 = 0 := h
        rw [h] at h3; cases h3
      | false =>
        rw [h3] at h
        simp only [cond_false] at h ⊢
        obtain ⟨h1, h2⟩ := valG_chk n t (i + 1) _ h
        refine ⟨h1, fun x hx => ?_⟩
        rcases List.mem_cons.1 hx with rfl | hx
        · simpa using hc
        · exact h2 x hx
structure Vld (l : List S33) : Prop where
  ok : (valid l).2 = 0
theorem Vld.len {l : List S33} (h : Vld l) : l.length ≤ 256 ∧ (valid l).1 = l.length := by
  have h := h.ok
  unfold valid at h ⊢
  split at h
  · exact absurd (show (5 : Int) = 0 from h) (by decide)
  · rename_i hl
    rw [if_neg hl]
    exact ⟨by omega, (valG_chk _ _ _ _ h).1⟩
theorem Vld.chk {l : List S33} (h : Vld l) {j : Nat} (hj : j < l.length) : chk (l.getD j z33) = 0 := by
  have h := h.ok
  unfold valid at h
  split at h
  · exact absurd (show (5 : Int) = 0 from h) (by decide)
  · rw [List.getD_eq_getElem?_getD, List.getElem?_eq_getElem hj]
    exact (valG_chk _ _ _ _ h).2 _ (List.getElem_mem hj)
theorem rng_of {x : S33} (hc : chk x = 0) : rangeK x.f0 x = true := by
  unfold chk at hc
  split at hc
  · cases hc
  · cases hr : rangeK x.f0 x with
    | false => rw [hr] at hc; simp at hc
    | true => rfl
theorem rng4 {x : S33} (h : x.f0 = 4) (hc : chk x = 0) : 0 ≤ x.f2 ∧ x.f2 < 8 := by
  have hr := rng_of hc
  rw [h] at hr
  unfold rangeK at hr
  simp [inB] at hr
  omega
theorem rng13 {x : S33} (h : x.f0 = 13) (hc : chk x = 0) : 0 ≤ x.f2 ∧ x.f2 < 8 := by
  have hr := rng_of hc
  rw [h] at hr
  unfold rangeK at hr
  simp [inB] at hr
  omega
theorem rng14 {x : S33} (h : x.f0 = 14) (hc : chk x = 0) : 0 ≤ x.f1 ∧ x.f1 < 8 := by
  have hr := rng_of hc
  rw [h] at hr
  unfold rangeK at hr
  simp [inB] at hr
  omega
theorem rng10 {x : S33} (h : x.f0 = 10) (hc : chk x = 0) : stB x.f7 = true := by
  have hr := rng_of hc
  rw [h] at hr
  unfold rangeK at hr
  simp [inB] at hr
  unfold stB
  simp
  omega
/-- The textures that a valid list's commands use are among the eight. -/
theorem req_in {l : List S33} (hv : Vld l) (i : Int) : ∀ r ∈ reqP l i, 0 ≤ r.1 ∧ r.1 < 8 := by
  intro r hr
  unfold reqP at hr
  split at hr
  · cases hr
  rename_i hno
  have hi : i.toNat < l.length := by omega
  split at hr
  · rename_i h13
    simp only [List.mem_singleton] at hr
    subst hr
    exact rng13 h13 (hv.chk hi)
  split at hr
  · rename_i h14
    simp only [List.mem_singleton] at hr
    subst hr
    exact rng14 h14 (hv.chk hi)
  split at hr
  · obtain ⟨x, hx, rfl⟩ := List.mem_map.1 hr
    obtain ⟨j, hj, h4, _, rfl⟩ := ((refL_spec l i.toNat i.toNat).2 x).1 hx
    exact rng4 h4 (hv.chk (by omega))
  · cases hr
theorem vsB_ap {L : List Int} {x : S33} (h : vsB L = true) (he : apE L x = 0) : vsB (apL L x) = true := by
  have he2 := he
  unfold apE at he2
  split at he2
  · cases he2
  rename_i hno
  unfold apL
  rw [he, if_neg (by simp)]
  split
  · rename_i h10
    have hc : chk x = 0 := by
      by_cases hc : chk x = 0
      · exact hc
      · exact absurd (.inr ⟨h10, hc⟩) hno
    have h7 := rng10 h10 hc
    unfold vsB at h ⊢
    simp only [Bool.and_eq_true, decide_eq_true_eq] at h ⊢
    refine ⟨by rw [List.length_set]; exact h.1, List.all_eq_true.2 fun y hy => ?_⟩
    rcases List.mem_or_eq_of_mem_set hy with hy | rfl
    · exact List.all_eq_true.1 h.2 y hy
    · exact h7
  · exact h
/-- What checking comes to, from the command i on, n of them left. -/
def ckR (l : List S33) : Nat → Nat → List Int → List Int × Int × Int
  | 0, _, L => (L, l.length, 0)
  | n + 1, i, L => if misP l i L = [] then (if apE L (l.getD i z33) = 0 then ckR l n (i + 1) (apL L (l.getD i z33)) else ([], i, apE L (l.getD i z33))) else ([], i, 22)
def ckP (l : List S33) (L : List Int) : List Int × Int × Int :=
  if (valid l).2 ≠ 0 then ([], (valid l).1, (valid l).2) else if vsB L = false then ([], 0, 2) else ckR l l.length 0 L
/-- The requirements that do not hold, from the command i on. -/
def msR (l : List S33) : Nat → Nat → List Int → List (Int × Int × Int)
  | 0, _, _ => []
  | n + 1, i, L => (misP l i L).map (fun r => ((i : Int), r.1, r.2)) ++ msR l n (i + 1) (if apE L (l.getD i z33) = 0 then apL L (l.getD i z33) else L)
def msP (l : List S33) (L : List Int) : List (Int × Int × Int) :=
  if (valid l).2 ≠ 0 ∨ vsB L = false then [] else msR l l.length 0 L
theorem ckR_ok {l : List S33} : ∀ (n i : Nat) (L : List Int), vsB L = true → (ckR l n i L).2.2 = 0 → vsB (ckR l n i L).1 = true ∧ (ckR l n i L).2.1 = l.length ∧ msR l n i L = []
  | 0, _, L, h, _ => ⟨h, rfl, rfl⟩
  | n + 1, i, L, h, he => by
    unfold ckR at he ⊢
    by_cases h1 : misP l i L = []
    · rw [if_pos h1] at he ⊢
      by_cases h2 : apE L (l.getD i z33) = 0
      · rw [if_pos h2] at he ⊢
        obtain ⟨a, b, c⟩ := ckR_ok n (i + 1) _ (vsB_ap h h2) he
        refine ⟨a, b, ?_⟩
        unfold msR
        rw [if_pos h2, c, h1]; rfl
      · rw [if_neg h2] at he
        exact absurd he h2
    · rw [if_neg h1] at he
      exact absurd (show (22 : Int) = 0 from he) (by decide)
theorem ckR_bad {l : List S33} : ∀ (n i : Nat) (L : List Int), (ckR l n i L).2.2 ≠ 0 → i + n = l.length → (ckR l n i L).1 = [] ∧ 0 ≤ (ckR l n i L).2.1 ∧ (ckR l n i L).2.1 ≤ l.length
  | 0, _, L, h, _ => absurd rfl h
  | n + 1, i, L, he, hi => by
    unfold ckR at he ⊢
    by_cases h1 : misP l i L = []
    · rw [if_pos h1] at he ⊢
      by_cases h2 : apE L (l.getD i z33) = 0
      · rw [if_pos h2] at he ⊢
        exact ckR_bad n (i + 1) _ he (by omega)
      · rw [if_neg h2]
        exact ⟨rfl, by show (0 : Int) ≤ i; omega, by show (i : Int) ≤ l.length; omega⟩
    · rw [if_neg h1]
      exact ⟨rfl, by show (0 : Int) ≤ i; omega, by show (i : Int) ≤ l.length; omega⟩
theorem ckR_step {l : List S33} {n i : Nat} {L F : List Int} {c : Int} (h : ckR l (n + 1) i L = (F, c, 0)) : misP l i L = [] ∧ apE L (l.getD i z33) = 0 ∧ ckR l n (i + 1) (apL L (l.getD i z33)) = (F, c, 0) := by
  unfold ckR at h
  by_cases h1 : misP l i L = []
  · rw [if_pos h1] at h
    by_cases h2 : apE L (l.getD i z33) = 0
    · rw [if_pos h2] at h
      exact ⟨h1, h2, h⟩
    · rw [if_neg h2] at h
      injection h with _ h; injection h with _ h
      exact absurd h h2
  · rw [if_neg h1] at h
    injection h with _ h; injection h with _ h
    exact absurd h (by decide)
/-- What Check returns. -/
structure CkIs (l : List S33) (L F : List Int) (c e : Int) : Prop where
  eq : (F, c, e) = ckP l L
structure MsIs (xs : List (Int × Int × Int)) (l : List S33) (L : List Int) : Prop where
  eq : xs = msP l L
theorem CkIs.ok {l : List S33} {L F : List Int} {c : Int} (h : CkIs l L F c 0) : Vld l ∧ vsB L = true ∧ ckR l l.length 0 L = (F, c, 0) := by
  have h := h.eq
  unfold ckP at h
  split at h
  · rename_i hv
    injection h with _ h; injection h with _ h
    exact absurd h.symm hv
  · rename_i hv
    split at h
    · injection h with _ h; injection h with _ h
      exact absurd h (by decide)
    · rename_i hs
      exact ⟨⟨by omega⟩, by simpa using hs, h.symm⟩
theorem CkIs.sound {l : List S33} {L F : List Int} {c : Int} (h : CkIs l L F c 0) : vsB F = true ∧ c = l.length ∧ msP l L = [] := by
  obtain ⟨hv, hs, hr⟩ := h.ok
  have := ckR_ok l.length 0 L hs (by rw [hr])
  rw [hr] at this
  refine ⟨this.1, this.2.1, ?_⟩
  unfold msP
  rw [if_neg (by rw [hs]; simp [hv.ok]), this.2.2]
theorem CkIs.bad {l : List S33} {L F : List Int} {c e : Int} (h : CkIs l L F c e) (he : e ≠ 0) (hi : 0 ≤ (valid l).1 ∧ (valid l).1 ≤ l.length) : F = [] ∧ 0 ≤ c ∧ c ≤ l.length := by
  have h := h.eq
  unfold ckP at h
  split at h
  · injection h with h1 h; injection h with h2 h
    subst h1 h2
    exact ⟨rfl, hi⟩
  · split at h
    · injection h with h1 h; injection h with h2 h
      subst h1 h2
      exact ⟨rfl, by omega, by omega⟩
    · have := ckR_bad l.length 0 L (l := l) (by rw [← h]; exact he) (by omega)
      rw [← h] at this
      exact this
theorem valG_in (n : Int) : ∀ (t : List S33) (i : Int) (s : St), 0 ≤ i → i + t.length = n → 0 ≤ (valG n t i s).1 ∧ (valG n t i s).1 ≤ n
  | [], i, s, h0, h => by
    unfold valG
    cases s.inPass <;> exact ⟨by show 0 ≤ n; simp at h; omega, Int.le_refl _⟩
  | y :: t, i, s, h0, h => by
    simp only [List.length_cons] at h
    unfold valG
    cases chk y == 0 with
    | false => exact ⟨h0, by show i ≤ n; omega⟩
    | true =>
      simp only [cond_true]
      cases (nxtK y.f0 y.f2 s).1 != 0 with
      | true => exact ⟨h0, by show i ≤ n; omega⟩
      | false => exact valG_in n t (i + 1) _ (by omega) (by omega)
theorem valid_in (l : List S33) : 0 ≤ (valid l).1 ∧ (valid l).1 ≤ l.length := by
  unfold valid
  split
  · exact ⟨Int.le_refl _, by show (0 : Int) ≤ l.length; omega⟩
  · exact valG_in _ _ _ _ (Int.le_refl _) (by simp)
end Go.Proofs.YtomnecadhiflnaaDoor.Br
