/- The reference's number: its entry. -/
import Derived.Test.YtfijmdeanechfaaDoorLx13
namespace Go.Proofs.YtfijmdeanechfaaDoor.Lx
open Go Go.RowKit Go.Proofs.YtfijmdeanechfaaDoor.Eng
set_option linter.unusedVariables false
set_option linter.unusedSimpArgs false
set_option maxRecDepth 100000 in
theorem num_bodyR {s : ByteArray} {n : Nat} (h : NumAt s n) (K : SX → Prop) (ok : nErr s n = 0 → K (.tup [.agg (tokC (nTok s n)), .c (.val (.int .i64 (nEnd s n))), .c (.val (.int .i64 0))])) (bad : nErr s n ≠ 0 → ∀ t e, K (.tup [.agg (tokC t), .c (.val (.int .i64 e)), .c (.val (.int .i64 (nErr s n)))])) (w : World) :
    evFn Tryd.prog (fun _ => False) w (Γ16 (fun _ => False) w) (Λof 39 (I39 s n (runE isDg s (n : Int).toNat) (s.extract (n : Int).toNat (runE isDg s (n : Int).toNat)))) 100 5 39 [tV s, iV n] [] (fun y _ => K y) := by
  have h1 := h.gt; have h2 := h.e_le; have h3 := h.le; have h4 := h.lt
  have hint := h.int; have hfix := h.fix
  obtain ⟨e1, he1⟩ : ∃ e, e = runE isDg s n := ⟨_, rfl⟩
  obtain ⟨e2, he2⟩ : ∃ e, e = runE isDg s (e1 + 1) := ⟨_, rfl⟩
  have bad3 : nBad s n = true → ∀ a b c d e, K (.tup [.agg [.val (.int .i64 a), .val (.string b), .val (.int .i64 c), .val (.int .i64 d)], .c (.val (.int .i64 e)), .c (.val (.int .i64 3))]) := fun hb a b c d z => by
    have e : nErr s n = 3 := by unfold nErr; rw [if_pos hb]
    have := bad (by rw [e]; decide) ⟨a, b, c, d⟩ z
    rw [e] at this
    exact this
  have fx : nFx s e1 = false ∨ (nFx s e1 = true ∧ e1 + 2 ≤ e2 ∧ e2 ≤ s.size) := by
    cases hf : nFx s e1 with
    | false => exact Or.inl rfl
    | true =>
      obtain ⟨f1, f2, f3⟩ := nFx_out hf
      exact Or.inr ⟨rfl, by rw [he2, runE_step f1 f3]; exact runE_ge _ _ _, by rw [he2]; exact runE_le _ _ _ (by omega)⟩
  have hnE : nEnd s n = bif nFx s e1 then e2 else e1 := by unfold nEnd; rw [← he1, ← he2]
  have bad6 : nErr s n = 6 → ∀ a b c d e, K (.tup [.agg [.val (.int .i64 a), .val (.string b), .val (.int .i64 c), .val (.int .i64 d)], .c (.val (.int .i64 e)), .c (.val (.int .i64 6))]) := fun e a b c d z => by
    have := bad (by rw [e]; decide) ⟨a, b, c, d⟩ z
    rw [e] at this
    exact this
  have hnz : nBad s n = false → ¬ (n + 1 < e1 ∧ bAt s n = 48) := fun hb c => by
    have : nBad s n = true := by
      unfold nBad
      rw [← he1, show decide (n + 1 < e1) = true from decide_eq_true c.1, show (bAt s n == 48) = true by simpa using c.2]
      simp
    rw [this] at hb; cases hb
  have restI : nFx s e1 = false → nBad s n = false → tailR s n e1 K := fun hf hb => by
    rw [← he1] at hint
    have hx : nTxt s n = s.extract n e1 := by unfold nTxt; rw [hnE, hf]; rfl
    have he : nErr s n = if decV (s.extract n e1) (s.extract n e1).size ≤ 2147483647 then 0 else 6 := by
      unfold nErr; rw [hb, ← he1, hf, hx]; rfl
    have ht : nTok s n = ⟨2, s.extract n e1, decV (s.extract n e1) (s.extract n e1).size, 0⟩ := by
      unfold nTok; rw [← he1, hf, hx]; rfl
    have hE : nEnd s n = e1 := by rw [hnE, hf]; rfl
    refine tailR_ok h he1 (hint (hnz hb)).1 K (fun c => ?_) (fun c => bad6 (by rw [he, if_neg (by omega)]))
    have := ok (by rw [he, if_pos c])
    rw [ht, hE] at this
    exact this
  have restF : nFx s e1 = true → e2 ≤ e1 + 6 → nBad s n = false → ∃ p, FixW (s.extract n e2) p ∧ (W46 (s.extract n e2) p ≤ 8191 → K (.tup [.agg [.val (.int .i64 3), .val (.string (s.extract n e2)), .val (.int .i64 (fixV (s.extract n e2) p)), .val (.int .i64 0)], .c (.val (.int .i64 e2)), .c (.val (.int .i64 0))])) ∧ (8191 < W46 (s.extract n e2) p → K (.tup [.agg [.val (.int .i64 3), .val (.string (s.extract n e2)), .val (.int .i64 0), .val (.int .i64 0)], .c (.val (.int .i64 e2)), .c (.val (.int .i64 6))])) := fun hf hl hb => by
    rw [← he1, ← he2] at hfix
    have hx : nTxt s n = s.extract n e2 := by unfold nTxt; rw [hnE, hf]; rfl
    have he : nErr s n = if W46 (s.extract n e2) (e1 - n) ≤ 8191 then 0 else 6 := by
      unfold nErr; rw [hb, ← he1, hf, hx]; rfl
    have ht : nTok s n = ⟨3, s.extract n e2, fixV (s.extract n e2) (e1 - n), 0⟩ := by
      unfold nTok; rw [← he1, hf, hx]; rfl
    have hE : nEnd s n = e2 := by rw [hnE, hf]; rfl
    refine ⟨e1 - n, hfix hf hl (hnz hb), fun c => ?_, fun c => ?_⟩
    · have := ok (by rw [he, if_pos c])
      rw [ht, hE] at this
      exact this
    · exact bad6 (by rw [he, if_neg (by omega)]) _ _ _ _ _
  have nb : ∀ en, nEnd s n = en → nBad s n = ((nFx s e1 && decide (e1 + 6 < en)) || ((decide (n + 1 < e1) && bAt s n == 48) || (decide (en < s.size) && isLt (bAt s en)))) := fun en h => by unfold nBad; rw [← he1, h]
  have nbI : ∀ Z L, nFx s e1 = false → (decide (n + 1 < e1) && bAt s n == 48) = Z → (decide (e1 < s.size) && isLt (bAt s e1)) = L → nBad s n = (Z || L) := fun Z L hf hZ hL => by
    rw [nb e1 (by rw [hnE, hf]; rfl), hf, hZ, hL]; rfl
  have nbF : ∀ T Z L, nFx s e1 = true → decide (e1 + 6 < e2) = T → (decide (n + 1 < e1) && bAt s n == 48) = Z → (decide (e2 < s.size) && isLt (bAt s e2)) = L → nBad s n = (T || (Z || L)) := fun T Z L hf hT hZ hL => by
    rw [nb e2 (by rw [hnE, hf]; rfl), hf, hT, hZ, hL]; rfl
  have z0 : ∀ b, decide (((e1 - n : Nat) : Int) > 1) = b → decide (n + 1 < e1) = b := fun b hb => by
    rw [← hb]; exact decide_eq_decide.2 (by omega)
  have dI : ∀ (m : Nat) b, decide ((m : Int) < (s.size : Int)) = b → decide (m < s.size) = b := fun m b hb => by
    rw [← hb]; exact decide_eq_decide.2 (by omega)
  have f0 : ∀ b, decide (((e1 + 1 : Nat) : Int) < (s.size : Int)) = b → decide (e1 + 1 < s.size) = b := fun b hb => by
    rw [← hb]; exact decide_eq_decide.2 (by omega)
  have u6 : IntKind.i64.wrap ((e1 : Int) + 6) = ((e1 + 6 : Nat) : Int) := wrap_in (by have := h.e_le; rw [← he1] at this; omega) (by have := h.e_le; rw [← he1] at this; omega)
  have un : IntKind.i64.wrap ((n : Int) + 1) = ((n + 1 : Nat) : Int) := wrap_in (by omega) (by omega)
  refine f39 _ w s n K ?_
  rw [Int.toNat_natCast, ← he1]
  rw [← he1] at h1 h2 hint hfix
  have w2 : IntKind.i64.wrap ((e1 : Int) + 1) = ((e1 + 1 : Nat) : Int) := wrap_in (by omega) (by omega)
  rw [w2, Int.toNat_natCast, ← he2, u6, un]
  refine ⟨⟨by omega, by omega, by omega⟩, ⟨by omega⟩, ⟨by omega, by omega⟩, ?_⟩
  have zR : ∀ b, decide ((e1 : Int) > ((n + 1 : Nat) : Int)) = b → decide (n + 1 < e1) = b := fun b hb => by
    rw [← hb]; exact decide_eq_decide.2 (by omega)
  have LI : nFx s e1 = false → (decide (n + 1 < e1) && bAt s n == 48) = false → bif decide ((e1 : Int) < (s.size : Int)) then In e1 s.size ∧ bif isLt (bAt s e1) then K (.tup [.agg [.val (.int .i64 2), .val (.string ⟨#[]⟩), .val (.int .i64 0), .val (.int .i64 0)], .c (.val (.int .i64 e1)), .c (.val (.int .i64 3))]) else tailR s n e1 K else tailR s n e1 K := fun hf hZ => cond_of (fun l1 => ⟨⟨by omega, of_decide_eq_true l1⟩, cond_of (fun l2 => bad3 (by rw [nbI false true hf hZ (by rw [dI _ _ l1, l2]; rfl)]; rfl) _ _ _ _ _) (fun l2 => restI hf (by rw [nbI false false hf hZ (by rw [dI _ _ l1, l2]; rfl)]; rfl))⟩) (fun l1 => restI hf (by rw [nbI false false hf hZ (by rw [dI _ _ l1]; rfl)]; rfl))
  have hF : nFx s e1 = true → e1 + 2 ≤ e2 ∧ e2 ≤ s.size := fun hf => by
    rcases fx with hc | ⟨_, q1, q2⟩
    · rw [hf] at hc; cases hc
    · exact ⟨q1, q2⟩
  have LF : nFx s e1 = true → e2 ≤ e1 + 6 → e2 ≤ s.size → (decide (n + 1 < e1) && bAt s n == 48) = false → bif decide ((e2 : Int) < (s.size : Int)) then In e2 s.size ∧ bif isLt (bAt s e2) then K (.tup [.agg [.val (.int .i64 3), .val (.string ⟨#[]⟩), .val (.int .i64 0), .val (.int .i64 0)], .c (.val (.int .i64 e2)), .c (.val (.int .i64 3))]) else (Cut (n : Int) (e2 : Int) (s.size : Int) ∧ _) else (Cut (n : Int) (e2 : Int) (s.size : Int) ∧ _) := fun hf hl hs hZ => have hq := hF hf; cond_of (fun l1 => ⟨⟨by omega, of_decide_eq_true l1⟩, cond_of (fun l2 => bad3 (by rw [nbF false false true hf (decide_eq_false (by omega)) hZ (by rw [dI _ _ l1, l2]; rfl)]; rfl) _ _ _ _ _) (fun l2 => ⟨⟨by omega, by omega, by omega⟩, restF hf hl (by rw [nbF false false false hf (decide_eq_false (by omega)) hZ (by rw [dI _ _ l1, l2]; rfl)]; rfl)⟩)⟩) (fun l1 => ⟨⟨by omega, by omega, by omega⟩, restF hf hl (by rw [nbF false false false hf (decide_eq_false (by omega)) hZ (by rw [dI _ _ l1]; rfl)]; rfl)⟩)
  have caseF : ∀ (z : Bool), nFx s e1 = true → (bAt s n == 48) = z → Cut 0 ((e1 + 1 : Nat) : Int) (s.size : Int) ∧ Cat s.size 0 := fun z hf hz => by
    obtain ⟨q1, q2⟩ := hF hf
    exact ⟨⟨by omega, by omega, by omega⟩, ⟨by omega⟩⟩
  refine cond_of (fun z1 => cond_of (fun c1 => ⟨⟨by omega, by have := of_decide_eq_true c1; omega⟩, cond_of (fun c2 => ⟨⟨by omega, by have := of_decide_eq_true c1; omega⟩, cond_of (fun c3 => ?_) (fun c3 => ?_)⟩) (fun c2 => ?_)⟩) (fun c1 => ?_)) (fun z1 => cond_of (fun c1 => ⟨⟨by omega, by have := of_decide_eq_true c1; omega⟩, cond_of (fun c2 => ⟨⟨by omega, by have := of_decide_eq_true c1; omega⟩, cond_of (fun c3 => ?_) (fun c3 => ?_)⟩) (fun c2 => ?_)⟩) (fun c1 => ?_))
  · have hf : nFx s e1 = true := by unfold nFx; rw [f0 _ c1, c2, c3]; rfl
    obtain ⟨q1, q2⟩ := hF hf
    refine ⟨⟨by omega, by omega, by omega⟩, ⟨by omega⟩, cond_of (fun k1 => ?_) (fun k1 => cond_of (fun y => ?_) (fun y => ?_))⟩
    · have k1 := of_decide_eq_true k1
      exact bad3 (by rw [nb e2 (by rw [hnE, hf]; rfl), hf, decide_eq_true (show e1 + 6 < e2 by omega)]; rfl) _ _ _ _ _
    · exact bad3 (by rw [nb e2 (by rw [hnE, hf]; rfl), zR _ y, z1]; simp) _ _ _ _ _
    · have k1 := of_decide_eq_false k1
      exact LF hf (by omega) q2 (by rw [zR _ y]; rfl)
  · have hf : nFx s e1 = false := by unfold nFx; rw [f0 _ c1, c2, c3]; rfl
    exact cond_of (fun y => bad3 (by rw [nb e1 (by rw [hnE, hf]; rfl), zR _ y, z1]; simp) _ _ _ _ _) (fun y => LI hf (by rw [zR _ y]; rfl))
  · have hf : nFx s e1 = false := by unfold nFx; rw [f0 _ c1, c2]; rfl
    exact cond_of (fun y => bad3 (by rw [nb e1 (by rw [hnE, hf]; rfl), zR _ y, z1]; simp) _ _ _ _ _) (fun y => LI hf (by rw [zR _ y]; rfl))
  · have hf : nFx s e1 = false := by unfold nFx; rw [f0 _ c1]; rfl
    exact cond_of (fun y => bad3 (by rw [nb e1 (by rw [hnE, hf]; rfl), zR _ y, z1]; simp) _ _ _ _ _) (fun y => LI hf (by rw [zR _ y]; rfl))
  · have hf : nFx s e1 = true := by unfold nFx; rw [f0 _ c1, c2, c3]; rfl
    obtain ⟨q1, q2⟩ := hF hf
    refine ⟨⟨by omega, by omega, by omega⟩, ⟨by omega⟩, cond_of (fun k1 => ?_) (fun k1 => ?_)⟩
    · have k1 := of_decide_eq_true k1
      exact bad3 (by rw [nb e2 (by rw [hnE, hf]; rfl), hf, decide_eq_true (show e1 + 6 < e2 by omega)]; rfl) _ _ _ _ _
    · have k1 := of_decide_eq_false k1
      exact LF hf (by omega) q2 (by rw [z1, Bool.and_false])
  · have hf : nFx s e1 = false := by unfold nFx; rw [f0 _ c1, c2, c3]; rfl
    exact LI hf (by rw [z1, Bool.and_false])
  · have hf : nFx s e1 = false := by unfold nFx; rw [f0 _ c1, c2]; rfl
    exact LI hf (by rw [z1, Bool.and_false])
  · have hf : nFx s e1 = false := by unfold nFx; rw [f0 _ c1]; rfl
    exact LI hf (by rw [z1, Bool.and_false])
set_option maxRecDepth 100000 in
theorem e39 (O : Nat → Prop) (w0 : World) : Entry Tryd.prog O w0 39 (gNbR O w0) :=
  Entry.pureK Γ16_ok 100 5 (g := gNbR) (fun O w0 args M k hg => by
    unfold gNbR at hg
    split at hg
    case h_2 => exact hg.elim
    rename_i s a
    obtain ⟨⟨h0, h1⟩, ⟨h2⟩, h3, hk1, hk2⟩ := hg
    obtain ⟨n, rfl⟩ : ∃ n : Nat, a = n := ⟨a.toNat, by omega⟩
    exact ⟨_, fun _ => rfl, fun w hw => ⟨_, num_bodyR ⟨by omega, h2, h3⟩ _ (fun e => ⟨rfl, hk1 e⟩) (fun e t z => ⟨rfl, hk2 e t z⟩) w⟩⟩) O w0
def Γ17 : TabF := addF (addF Γ16 38 gNb) 39 gNbR
theorem Γ17_ok : TSF Tryd.prog Γ17 := (Γ16_ok.add e38).add e39
end Go.Proofs.YtfijmdeanechfaaDoor.Lx
