/- Number's entry. -/
import Derived.Test.YtfijmdeanechfaaDoorLx11
namespace Go.Proofs.YtfijmdeanechfaaDoor.Lx
open Go Go.RowKit Go.Proofs.YtfijmdeanechfaaDoor.Eng
set_option linter.unusedVariables false
set_option linter.unusedSimpArgs false
set_option maxRecDepth 100000 in
theorem num_body {s : ByteArray} {n : Nat} (h : NumAt s n) (K : SX → Prop) (ok : nErr s n = 0 → K (.tup [.agg (tokC (nTok s n)), .c (.val (.int .i64 0))])) (bad : nErr s n ≠ 0 → ∀ t, K (.tup [.agg (tokC t), .c (.val (.int .i64 (nErr s n)))])) (w : World) :
    evFn Tryd.prog (fun _ => False) w (Γ16 (fun _ => False) w) Λn 100 5 38 [tV s, iV n] [] (fun y _ => K y) := by
  have h1 := h.gt; have h2 := h.e_le; have h3 := h.le; have h4 := h.lt
  have hint := h.int; have hfix := h.fix
  obtain ⟨e1, he1⟩ : ∃ e, e = runE isDg s n := ⟨_, rfl⟩
  obtain ⟨e2, he2⟩ : ∃ e, e = runE isDg s (e1 + 1) := ⟨_, rfl⟩
  have bad3 : nBad s n = true → ∀ a b c d, K (.tup [.agg [.val (.int .i64 a), .val (.string b), .val (.int .i64 c), .val (.int .i64 d)], .c (.val (.int .i64 3))]) := fun hb a b c d => by
    have e : nErr s n = 3 := by unfold nErr; rw [if_pos hb]
    have := bad (by rw [e]; decide) ⟨a, b, c, d⟩
    rw [e] at this
    exact this
  have fx : nFx s e1 = false ∨ (nFx s e1 = true ∧ e1 + 2 ≤ e2 ∧ e2 ≤ s.size) := by
    cases hf : nFx s e1 with
    | false => exact Or.inl rfl
    | true =>
      obtain ⟨f1, f2, f3⟩ := nFx_out hf
      exact Or.inr ⟨rfl, by rw [he2, runE_step f1 f3]; exact runE_ge _ _ _, by rw [he2]; exact runE_le _ _ _ (by omega)⟩
  have hnE : nEnd s n = bif nFx s e1 then e2 else e1 := by unfold nEnd; rw [← he1, ← he2]
  have bad6 : nErr s n = 6 → ∀ a b c d, K (.tup [.agg [.val (.int .i64 a), .val (.string b), .val (.int .i64 c), .val (.int .i64 d)], .c (.val (.int .i64 6))]) := fun e a b c d => by
    have := bad (by rw [e]; decide) ⟨a, b, c, d⟩
    rw [e] at this
    exact this
  have hnz : nBad s n = false → ¬ (n + 1 < e1 ∧ bAt s n = 48) := fun hb c => by
    have : nBad s n = true := by
      unfold nBad
      rw [← he1, show decide (n + 1 < e1) = true from decide_eq_true c.1, show (bAt s n == 48) = true by simpa using c.2]
      simp
    rw [this] at hb; cases hb
  have restI : nFx s e1 = false → nBad s n = false → AllD (s.extract n e1) ∧ NoZ (s.extract n e1) ∧ (decV (s.extract n e1) (s.extract n e1).size ≤ 4611686018427387904 → bif decide (decV (s.extract n e1) (s.extract n e1).size > 2147483647) then K (.tup [.agg [.val (.int .i64 2), .val (.string (s.extract n e1)), .val (.int .i64 (decV (s.extract n e1) (s.extract n e1).size)), .val (.int .i64 0)], .c (.val (.int .i64 6))]) else K (.tup [.agg [.val (.int .i64 2), .val (.string (s.extract n e1)), .val (.int .i64 (decV (s.extract n e1) (s.extract n e1).size)), .val (.int .i64 0)], .c (.val (.int .i64 0))])) ∧ (4611686018427387904 < decV (s.extract n e1) (s.extract n e1).size → K (.tup [.agg [.val (.int .i64 2), .val (.string (s.extract n e1)), .val (.int .i64 0), .val (.int .i64 0)], .c (.val (.int .i64 6))])) := fun hf hb => by
    rw [← he1] at hint
    have hx : nTxt s n = s.extract n e1 := by unfold nTxt; rw [hnE, hf]; rfl
    have he : nErr s n = if decV (s.extract n e1) (s.extract n e1).size ≤ 2147483647 then 0 else 6 := by
      unfold nErr; rw [hb, ← he1, hf, hx]; rfl
    have ht : nTok s n = ⟨2, s.extract n e1, decV (s.extract n e1) (s.extract n e1).size, 0⟩ := by
      unfold nTok; rw [← he1, hf, hx]; rfl
    refine ⟨(hint (hnz hb)).1, (hint (hnz hb)).2, fun _ => cond_of (fun c => ?_) (fun c => ?_), fun c => ?_⟩
    · have c := of_decide_eq_true c
      exact bad6 (by rw [he, if_neg (by omega)]) _ _ _ _
    · have c := of_decide_eq_false c
      have := ok (by rw [he, if_pos (by omega)])
      rw [ht] at this
      exact this
    · exact bad6 (by rw [he, if_neg (by omega)]) _ _ _ _
  have restF : nFx s e1 = true → e2 ≤ e1 + 6 → nBad s n = false → ∃ p, FixW (s.extract n e2) p ∧ (W46 (s.extract n e2) p ≤ 8191 → K (.tup [.agg [.val (.int .i64 3), .val (.string (s.extract n e2)), .val (.int .i64 (fixV (s.extract n e2) p)), .val (.int .i64 0)], .c (.val (.int .i64 0))])) ∧ (8191 < W46 (s.extract n e2) p → K (.tup [.agg [.val (.int .i64 3), .val (.string (s.extract n e2)), .val (.int .i64 0), .val (.int .i64 0)], .c (.val (.int .i64 6))])) := fun hf hl hb => by
    rw [← he1, ← he2] at hfix
    have hx : nTxt s n = s.extract n e2 := by unfold nTxt; rw [hnE, hf]; rfl
    have he : nErr s n = if W46 (s.extract n e2) (e1 - n) ≤ 8191 then 0 else 6 := by
      unfold nErr; rw [hb, ← he1, hf, hx]; rfl
    have ht : nTok s n = ⟨3, s.extract n e2, fixV (s.extract n e2) (e1 - n), 0⟩ := by
      unfold nTok; rw [← he1, hf, hx]; rfl
    refine ⟨e1 - n, hfix hf hl (hnz hb), fun c => ?_, fun c => ?_⟩
    · have := ok (by rw [he, if_pos c])
      rw [ht] at this
      exact this
    · exact bad6 (by rw [he, if_neg (by omega)]) _ _ _ _
  have nb : ∀ en, nEnd s n = en → nBad s n = ((nFx s e1 && decide (e1 + 6 < en)) || ((decide (n + 1 < e1) && bAt s n == 48) || (decide (en < s.size) && isLt (bAt s en)))) := fun en h => by unfold nBad; rw [← he1, h]
  have nbI : ∀ Z L, nFx s e1 = false → (decide (n + 1 < e1) && bAt s n == 48) = Z → (decide (e1 < s.size) && isLt (bAt s e1)) = L → nBad s n = (Z || L) := fun Z L hf hZ hL => by
    rw [nb e1 (by rw [hnE, hf]; rfl), hf, hZ, hL]; rfl
  have nbF : ∀ T Z L, nFx s e1 = true → decide (e1 + 6 < e2) = T → (decide (n + 1 < e1) && bAt s n == 48) = Z → (decide (e2 < s.size) && isLt (bAt s e2)) = L → nBad s n = (T || (Z || L)) := fun T Z L hf hT hZ hL => by
    rw [nb e2 (by rw [hnE, hf]; rfl), hf, hT, hZ, hL]; rfl
  have z0 : ∀ b, decide (((e1 - n : Nat) : Int) > 1) = b → decide (n + 1 < e1) = b := fun b hb => by
    rw [← hb]; exact decide_eq_decide.2 (by omega)
  have dI : ∀ (m : Nat) b, decide ((m : Int) < (s.size : Int)) = b → decide (m < s.size) = b := fun m b hb => by
    rw [← hb]; exact decide_eq_decide.2 (by omega)
  have f0 : ∀ b, decide (((e1 + 1 : Nat) : Int) < (s.size : Int)) = b → decide (e1 + 1 < s.size) = b := fun b hb => by
    rw [← hb]; exact decide_eq_decide.2 (by omega)
  refine f38 _ w s n K ?_
  rw [Int.toNat_natCast, ← he1]
  rw [← he1] at h1 h2 hint hfix
  have w1 : IntKind.i64.wrap ((e1 : Int) - (n : Int)) = ((e1 - n : Nat) : Int) := by rw [wrap_in (by omega) (by omega)]; omega
  have w2 : IntKind.i64.wrap ((e1 : Int) + 1) = ((e1 + 1 : Nat) : Int) := wrap_in (by omega) (by omega)
  rw [w1, w2, Int.toNat_natCast, ← he2]
  refine ⟨⟨by omega, by omega, by omega⟩, ⟨by omega⟩, ?_⟩
  have leafI : ∀ (Z : Bool), nFx s e1 = false → (decide (n + 1 < e1) && bAt s n == 48) = Z → Z = false → bif decide ((e1 : Int) < (s.size : Int)) then In e1 s.size ∧ bif isLt (bAt s e1) then K (.tup [.agg [.val (.int .i64 2), .val (.string (s.extract n e1)), .val (.int .i64 0), .val (.int .i64 0)], .c (.val (.int .i64 3))]) else _ else _ := fun Z hf hZ hz => cond_of (fun l1 => ⟨⟨by omega, of_decide_eq_true l1⟩, cond_of (fun l2 => bad3 (by rw [nbI false true hf (by rw [hZ, hz]) (by rw [dI _ _ l1, l2]; rfl)]; rfl) _ _ _ _) (fun l2 => restI hf (by rw [nbI false false hf (by rw [hZ, hz]) (by rw [dI _ _ l1, l2]; rfl)]; rfl))⟩) (fun l1 => restI hf (by rw [nbI false false hf (by rw [hZ, hz]) (by rw [dI _ _ l1]; rfl)]; rfl))
  have hF : nFx s e1 = true → IntKind.i64.wrap (IntKind.i64.wrap ((e2 : Int) - (e1 : Int)) - 1) = ((e2 - e1 - 1 : Nat) : Int) ∧ e1 + 2 ≤ e2 ∧ e2 ≤ s.size := fun hf => by
    rcases fx with hc | ⟨_, q1, q2⟩
    · rw [hf] at hc; cases hc
    · refine ⟨?_, q1, q2⟩
      rw [wrap_in (n := (e2 : Int) - e1) (by omega) (by omega), wrap_in (by omega) (by omega)]; omega
  have leafF : ∀ (Z : Bool), nFx s e1 = true → e2 ≤ e1 + 6 → e2 ≤ s.size → (decide (n + 1 < e1) && bAt s n == 48) = Z → Z = false → bif decide ((e2 : Int) < (s.size : Int)) then In e2 s.size ∧ bif isLt (bAt s e2) then K (.tup [.agg [.val (.int .i64 3), .val (.string (s.extract n e2)), .val (.int .i64 0), .val (.int .i64 0)], .c (.val (.int .i64 3))]) else _ else _ := fun Z hf hl hs hZ hz => cond_of (fun l1 => ⟨⟨by omega, of_decide_eq_true l1⟩, cond_of (fun l2 => bad3 (by rw [nbF false false true hf (decide_eq_false (by omega)) (by rw [hZ, hz]) (by rw [dI _ _ l1, l2]; rfl)]; rfl) _ _ _ _) (fun l2 => restF hf hl (by rw [nbF false false false hf (decide_eq_false (by omega)) (by rw [hZ, hz]) (by rw [dI _ _ l1, l2]; rfl)]; rfl))⟩) (fun l1 => restF hf hl (by rw [nbF false false false hf (decide_eq_false (by omega)) (by rw [hZ, hz]) (by rw [dI _ _ l1]; rfl)]; rfl))
  have cutI : Cut (n : Int) (e1 : Int) (s.size : Int) := ⟨by omega, by omega, by omega⟩
  refine cond_of (fun z1 => ⟨⟨by omega, by omega⟩, cond_of (fun c1 => ⟨⟨by omega, by have := of_decide_eq_true c1; omega⟩, cond_of (fun c2 => ⟨⟨by omega, by have := of_decide_eq_true c1; omega⟩, cond_of (fun c3 => ?_) (fun c3 => ?_)⟩) (fun c2 => ?_)⟩) (fun c1 => ?_)⟩) (fun z1 => cond_of (fun c1 => ⟨⟨by omega, by have := of_decide_eq_true c1; omega⟩, cond_of (fun c2 => ⟨⟨by omega, by have := of_decide_eq_true c1; omega⟩, cond_of (fun c3 => ?_) (fun c3 => ?_)⟩) (fun c2 => ?_)⟩) (fun c1 => ?_))
  · have hf : nFx s e1 = true := by unfold nFx; rw [f0 _ c1, c2, c3]; rfl
    obtain ⟨q0, q1, q2⟩ := hF hf
    rw [q0]
    refine ⟨⟨by omega, by omega, by omega⟩, ⟨by omega⟩, cond_of (fun k1 => ?_) (fun k1 => ⟨⟨by show (0 : Int) ≤ (n : Int); omega, by show (n : Int) ≤ (e2 : Int); omega, by show (e2 : Int) ≤ _; omega⟩, ?_⟩)⟩
    · have k1 := of_decide_eq_true k1
      exact bad3 (by rw [nb e2 (by rw [hnE, hf]; rfl), hf, decide_eq_true (show e1 + 6 < e2 by omega)]; rfl) _ _ _ _
    · have k1 := of_decide_eq_false k1
      exact cond_of (fun y => bad3 (by rw [nb e2 (by rw [hnE, hf]; rfl), z0 _ z1, y]; simp) _ _ _ _) (fun y => leafF false hf (by omega) q2 (by rw [y, Bool.and_false]) rfl)
  · have hf : nFx s e1 = false := by unfold nFx; rw [f0 _ c1, c2, c3]; rfl
    exact ⟨cutI, cond_of (fun y => bad3 (by rw [nb e1 (by rw [hnE, hf]; rfl), z0 _ z1, y]; simp) _ _ _ _) (fun y => leafI false hf (by rw [y, Bool.and_false]) rfl)⟩
  · have hf : nFx s e1 = false := by unfold nFx; rw [f0 _ c1, c2]; rfl
    exact ⟨cutI, cond_of (fun y => bad3 (by rw [nb e1 (by rw [hnE, hf]; rfl), z0 _ z1, y]; simp) _ _ _ _) (fun y => leafI false hf (by rw [y, Bool.and_false]) rfl)⟩
  · have hf : nFx s e1 = false := by unfold nFx; rw [f0 _ c1]; rfl
    exact ⟨cutI, cond_of (fun y => bad3 (by rw [nb e1 (by rw [hnE, hf]; rfl), z0 _ z1, y]; simp) _ _ _ _) (fun y => leafI false hf (by rw [y, Bool.and_false]) rfl)⟩
  · have hf : nFx s e1 = true := by unfold nFx; rw [f0 _ c1, c2, c3]; rfl
    obtain ⟨q0, q1, q2⟩ := hF hf
    rw [q0]
    refine ⟨⟨by omega, by omega, by omega⟩, ⟨by omega⟩, cond_of (fun k1 => ?_) (fun k1 => ⟨⟨by show (0 : Int) ≤ (n : Int); omega, by show (n : Int) ≤ (e2 : Int); omega, by show (e2 : Int) ≤ _; omega⟩, ?_⟩)⟩
    · have k1 := of_decide_eq_true k1
      exact bad3 (by rw [nb e2 (by rw [hnE, hf]; rfl), hf, decide_eq_true (show e1 + 6 < e2 by omega)]; rfl) _ _ _ _
    · have k1 := of_decide_eq_false k1
      exact leafF false hf (by omega) q2 (by rw [z0 _ z1]; rfl) rfl
  · have hf : nFx s e1 = false := by unfold nFx; rw [f0 _ c1, c2, c3]; rfl
    exact ⟨cutI, leafI false hf (by rw [z0 _ z1]; rfl) rfl⟩
  · have hf : nFx s e1 = false := by unfold nFx; rw [f0 _ c1, c2]; rfl
    exact ⟨cutI, leafI false hf (by rw [z0 _ z1]; rfl) rfl⟩
  · have hf : nFx s e1 = false := by unfold nFx; rw [f0 _ c1]; rfl
    exact ⟨cutI, leafI false hf (by rw [z0 _ z1]; rfl) rfl⟩
set_option maxRecDepth 100000 in
theorem e38 (O : Nat → Prop) (w0 : World) : Entry Tryd.prog O w0 38 (gNb O w0) :=
  Entry.pureK Γ16_ok 100 5 (g := gNb) (fun O w0 args M k hg => by
    unfold gNb at hg
    split at hg
    case h_2 => exact hg.elim
    rename_i s a
    obtain ⟨⟨h0, h1⟩, ⟨h2⟩, h3, hk1, hk2⟩ := hg
    obtain ⟨n, rfl⟩ : ∃ n : Nat, a = n := ⟨a.toNat, by omega⟩
    exact ⟨_, fun _ => rfl, fun w hw => ⟨_, num_body ⟨by omega, h2, h3⟩ _ (fun e => ⟨rfl, hk1 e⟩) (fun e t => ⟨rfl, hk2 e t⟩) w⟩⟩) O w0
end Go.Proofs.YtfijmdeanechfaaDoor.Lx
