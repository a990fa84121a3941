/- The states of the command package and of its reference agree, and so do the two Validates. -/
import Derived.Test.YtomnecadhiflnaaDoorCm9
namespace Go.Proofs.YtomnecadhiflnaaDoor.Cm
open Go Go.RowKit Go.Proofs.YtomnecadhiflnaaDoor.Eng
set_option linter.unusedVariables false
set_option linter.unusedSimpArgs false
/-- The two states agree. -/
structure Rel (s : St) (r : Rs) : Prop where
  inPass : r.inPass = s.inPass
  bound : r.bound = s.bound
  used : ∀ j, 0 ≤ j → j < 8 → r.used j = s.used j
  active : s.active = decide (r.query ≥ 0)
  query : s.active = true → r.query = s.query
theorem u8_at (u : Int → Bool) {j : Int} (h0 : 0 ≤ j) (h1 : j < 8) : u8 (u 0) (u 1) (u 2) (u 3) (u 4) (u 5) (u 6) (u 7) j = u j := by
  have : j = 0 ∨ j = 1 ∨ j = 2 ∨ j = 3 ∨ j = 4 ∨ j = 5 ∨ j = 6 ∨ j = 7 := by omega
  rcases this with h | h | h | h | h | h | h | h <;> subst h <;> rfl
theorem Rel.norm {s : St} {r : Rs} (h : Rel s r) : Rel (Cm.norm s) (normR r) := ⟨h.inPass, h.bound, fun j h0 h1 => by
  show u8 (r.used 0) (r.used 1) (r.used 2) (r.used 3) (r.used 4) (r.used 5) (r.used 6) (r.used 7) j = u8 (s.used 0) (s.used 1) (s.used 2) (s.used 3) (s.used 4) (s.used 5) (s.used 6) (s.used 7) j
  rw [u8_at _ h0 h1, u8_at _ h0 h1]; exact h.used j h0 h1, h.active, h.query⟩
theorem Rel.step {s : St} {r : Rs} (h : Rel s r) (n j : Int) (hj : n = 11 ∨ n = 12 → In j 8) : (nxrK n j r).1 = (nxtK n j s).1 ∧ ((nxtK n j s).1 = 0 → Rel (nxtK n j s).2 (nxrK n j r).2) := by
  obtain ⟨si, sb, sa, sq, su⟩ := s
  obtain ⟨ri, rb, rq, ru⟩ := r
  obtain ⟨h1, h2, h3, h4, h5⟩ := h
  simp only at h1 h2 h3 h4 h5
  subst h1 h2
  have hR : ∀ p : Bool, Rel ⟨p, rb, sa, sq, su⟩ ⟨p, rb, rq, ru⟩ := fun p => ⟨rfl, rfl, h3, h4, h5⟩
  unfold nxtK nxrK
  by_cases c7 : n = 7
  · rw [if_pos c7, if_pos c7]; cases ri <;> simp [hR]
  rw [if_neg c7, if_neg c7]
  by_cases c13 : n = 13 ∨ n = 14 ∨ n = 10
  · rw [if_pos c13, if_pos c13]; cases ri <;> simp [hR]
  rw [if_neg c13, if_neg c13]
  by_cases c8 : n = 8
  · rw [if_pos c8, if_pos c8, ← h4]; cases ri <;> cases sa <;> first | exact ⟨rfl, fun h => absurd (show (16 : Int) = 0 from h) (by decide)⟩ | exact ⟨rfl, fun h => absurd (show (23 : Int) = 0 from h) (by decide)⟩ | exact ⟨rfl, fun _ => hR _⟩
  rw [if_neg c8, if_neg c8]
  by_cases c9 : n = 9
  · rw [if_pos c9, if_pos c9]; cases ri <;> cases rb <;> simp_all
  rw [if_neg c9, if_neg c9]
  by_cases c11 : n = 11
  · rw [if_pos c11, if_pos c11, ← h4]
    obtain ⟨j0, j1⟩ := hj (Or.inl c11)
    dsimp only
    rw [h3 j j0 j1]
    cases ri <;> cases sa <;> cases su j <;> first | exact ⟨rfl, fun h => absurd (show (16 : Int) = 0 from h) (by decide)⟩ | exact ⟨rfl, fun h => absurd (show (23 : Int) = 0 from h) (by decide)⟩ | exact ⟨rfl, fun _ => ⟨rfl, rfl, fun i i0 i1 => by show (bif i == j then true else ru i) = (bif i == j then true else su i); rw [h3 i i0 i1], (decide_eq_true j0).symm, fun _ => rfl⟩⟩
  rw [if_neg c11, if_neg c11]
  by_cases c12 : n = 12
  · rw [if_pos c12, if_pos c12]
    cases ri with
    | false => first | exact ⟨rfl, fun h => absurd (show (16 : Int) = 0 from h) (by decide)⟩ | exact ⟨rfl, fun h => absurd (show (23 : Int) = 0 from h) (by decide)⟩
    | true =>
      obtain ⟨j0, j1⟩ := hj (Or.inr c12)
      cases sa with
      | false =>
        have hq : (rq != j) = true := by
          have := of_decide_eq_false h4.symm
          simp; omega
        dsimp only
        rw [hq]
        first | exact ⟨rfl, fun h => absurd (show (16 : Int) = 0 from h) (by decide)⟩ | exact ⟨rfl, fun h => absurd (show (23 : Int) = 0 from h) (by decide)⟩
      | true =>
        have e : rq = sq := h5 rfl
        subst e
        dsimp only
        cases hq : (rq != j) with
        | true => first | exact ⟨rfl, fun h => absurd (show (16 : Int) = 0 from h) (by decide)⟩ | exact ⟨rfl, fun h => absurd (show (23 : Int) = 0 from h) (by decide)⟩
        | false => exact ⟨rfl, fun _ => ⟨rfl, rfl, h3, rfl, fun h => by cases h⟩⟩
  rw [if_neg c12, if_neg c12]
  by_cases c1 : n = 1
  · rw [if_pos c1, if_pos c1]; exact ⟨rfl, fun _ => ⟨rfl, rfl, h3, h4, h5⟩⟩
  · rw [if_neg c1, if_neg c1]; exact ⟨rfl, fun _ => hR _⟩
theorem chk0b {x : S33} (h : chk x = 0) : x.f0 = 11 ∨ x.f0 = 12 → In x.f2 8 := by
  unfold chk at h
  by_cases c : x.f0 < 1 ∨ x.f0 > 14
  · intro h2; omega
  · rw [if_neg c] at h
    intro h2
    cases hr : rangeK x.f0 x with
    | false => rw [hr] at h; exact absurd (show (6 : Int) = 0 from h) (by decide)
    | true =>
      have : inB x.f2 0 7 = true := by
        rcases h2 with h2 | h2 <;> (rw [h2] at hr; exact hr)
      simp [inB] at this
      exact ⟨this.1, by omega⟩
theorem val_eq (n : Int) : ∀ (t : List S33) (i : Int) (s : St) (r : Rs), Rel s r → valG n t i s = valR n t i r
  | [], i, s, r, h => by unfold valG valR; rw [h.inPass]
  | x :: t, i, s, r, h => by
    unfold valG valR
    cases hc : chk x == 0 with
    | false =>
      have e : nxr r x = (chk x, r) := by unfold nxr; rw [hc]; rfl
      rw [e]
      have e1 : (chk x != 0) = true := by rw [show (chk x != 0) = !(chk x == 0) from rfl, hc]; rfl
      dsimp only
      rw [e1]; rfl
    | true =>
      have e : nxr r x = nxrK x.f0 x.f2 r := by unfold nxr; rw [hc]; rfl
      obtain ⟨h1, h2⟩ := h.step x.f0 x.f2 (chk0b (by simpa using hc))
      rw [e, h1]
      cases h3 : (nxtK x.f0 x.f2 s).1 != 0 with
      | true => rfl
      | false => exact val_eq n t (i + 1) _ _ (h2 (by simpa using h3)).norm
theorem valid_eq (l : List S33) : valid l = validR l := by
  unfold valid validR
  split
  · rfl
  · exact val_eq _ _ _ _ _ ⟨rfl, rfl, fun _ _ _ => rfl, rfl, fun h => by cases h⟩
end Go.Proofs.YtomnecadhiflnaaDoor.Cm
