/- Number and the reference's number: entries. -/
import Derived.Test.YtfijmdeanechfaaDoorLx10
namespace Go.Proofs.YtfijmdeanechfaaDoor.Lx
open Go Go.RowKit Go.Proofs.YtfijmdeanechfaaDoor.Eng
set_option linter.unusedVariables false
set_option linter.unusedSimpArgs false
/-- As Entry.pure; what is known of what is returned is what the caller wants. -/
theorem Entry.pureK {P : Program} {Γ : TabF} (hΓ : TSF P Γ) (m n : Nat) {f : FuncId} {g : EntF}
    (h : ∀ O w0 args M k, g O w0 args M k → ∃ args', (∀ β, fr β args' = fr β args) ∧ ∀ w, Fr O w0 w → ∃ Λ, evFn P (fun _ => False) w (Γ (fun _ => False) w) Λ m n f args' [] (fun y _ => y.lt 0 = true ∧ k y M)) :
    ∀ O w0, Entry P O w0 f (g O w0) := fun O w0 hf args M k hg hmlt β w hI => by
  obtain ⟨args', he, hev⟩ := h O w0 args M k hg
  obtain ⟨Λ, hev⟩ := hev w hI.fr
  rw [← he β]
  refine ((evFn_sound (hΓ _ w) Λ m n).1 f args' [] _ hf hev rfl β w (Inv.nil w β)).mono ?_
  rintro e w' ⟨y, M', β', ⟨hl, hk⟩, rfl, hI', _, _⟩
  exact ⟨y, M, β, hk, by rw [← den_nob hl β', ← den_nob hl β], hI.after hI'.fr, Grow.refl _ _, fun r hr => hI'.fr.block r hr (fun h => h)⟩
/-- Does a point with a digit stand behind the digits? -/
def nFx (s : ByteArray) (e : Nat) : Bool := decide (e + 1 < s.size) && (bAt s e == 46 && isDg (bAt s ((e + 1 : Nat) : Int)))
def nEnd (s : ByteArray) (a : Nat) : Nat := bif nFx s (runE isDg s a) then runE isDg s (runE isDg s a + 1) else runE isDg s a
def nBad (s : ByteArray) (a : Nat) : Bool :=
  (nFx s (runE isDg s a) && decide (runE isDg s a + 6 < nEnd s a)) || ((decide (a + 1 < runE isDg s a) && bAt s a == 48) || (decide (nEnd s a < s.size) && isLt (bAt s (nEnd s a))))
def nTxt (s : ByteArray) (a : Nat) : ByteArray := s.extract a (nEnd s a)
def nErr (s : ByteArray) (a : Nat) : Int :=
  if nBad s a = true then 3 else if nFx s (runE isDg s a) = true then (if W46 (nTxt s a) (runE isDg s a - a) ≤ 8191 then 0 else 6) else (if decV (nTxt s a) (nTxt s a).size ≤ 2147483647 then 0 else 6)
def nTok (s : ByteArray) (a : Nat) : Tok :=
  if nFx s (runE isDg s a) = true then ⟨3, nTxt s a, fixV (nTxt s a) (runE isDg s a - a), 0⟩ else ⟨2, nTxt s a, decV (nTxt s a) (nTxt s a).size, 0⟩
def gNb : EntF := fun _ _ args M k => match args with
  | [.v (.c (.val (.string s))), .v (.c (.val (.int .i64 a)))] => In a s.size ∧ Cat s.size 6 ∧ isDg (bAt s a) = true ∧
      (nErr s a.toNat = 0 → k (.tup [.agg (tokC (nTok s a.toNat)), .c (.val (.int .i64 0))]) M) ∧ (nErr s a.toNat ≠ 0 → ∀ t, k (.tup [.agg (tokC t), .c (.val (.int .i64 (nErr s a.toNat)))]) M)
  | _ => False
def gNbR : EntF := fun _ _ args M k => match args with
  | [.v (.c (.val (.string s))), .v (.c (.val (.int .i64 a)))] => In a s.size ∧ Cat s.size 6 ∧ isDg (bAt s a) = true ∧
      (nErr s a.toNat = 0 → k (.tup [.agg (tokC (nTok s a.toNat)), .c (.val (.int .i64 (nEnd s a.toNat))), .c (.val (.int .i64 0))]) M) ∧ (nErr s a.toNat ≠ 0 → ∀ t e, k (.tup [.agg (tokC t), .c (.val (.int .i64 e)), .c (.val (.int .i64 (nErr s a.toNat)))]) M)
  | _ => False
/-- What the bytes from a to behind the digits are. -/
theorem run_in {p : Int → Bool} {s : ByteArray} : ∀ n i, i ≤ runP p s n i ∧ ∀ j, i ≤ j → j < runP p s n i → p (bAt s (j : Int)) = true ∧ j < s.size
  | 0, i => ⟨Nat.le_refl _, fun j h1 h2 => absurd h2 (by show ¬ j < i; omega)⟩
  | n + 1, i => by
    rw [show runP p s (n + 1) i = if i < s.size ∧ p (bAt s i) = true then runP p s n (i + 1) else i from rfl]
    split
    · rename_i h
      have ih := run_in (p := p) (s := s) n (i + 1)
      refine ⟨by omega, fun j h1 h2 => ?_⟩
      by_cases e : j = i
      · rw [e]; exact ⟨h.2, h.1⟩
      · exact ih.2 j (by omega) h2
    · exact ⟨Nat.le_refl _, fun j h1 h2 => absurd h2 (by omega)⟩
theorem runE_in {p : Int → Bool} {s : ByteArray} {i j : Nat} (h1 : i ≤ j) (h2 : j < runE p s i) : p (bAt s (j : Int)) = true ∧ j < s.size := (run_in _ i).2 j h1 h2
theorem allD_ext {s : ByteArray} {a b : Nat} (hb : b ≤ s.size) (hs : s.size ≤ 9223372036854775807) (h : ∀ j, a ≤ j → j < b → isDg (bAt s (j : Int)) = true) : AllD (s.extract a b) := by
  have hz := ext_size s a b hb
  refine ⟨fun i hi => ?_, by omega⟩
  rw [bAt_ext s (by omega)]
  exact h _ (by omega) (by omega)
/-- What is known of a number's beginning. -/
structure NumAt (s : ByteArray) (n : Nat) : Prop where
  lt : n < s.size
  le : s.size + 6 ≤ 9223372036854775807
  dg : isDg (bAt s (n : Int)) = true
theorem NumAt.gt {s : ByteArray} {n : Nat} (h : NumAt s n) : n + 1 ≤ runE isDg s n := by
  rw [runE_step h.lt h.dg]; exact runE_ge _ _ _
theorem NumAt.e_le {s : ByteArray} {n : Nat} (h : NumAt s n) : runE isDg s n ≤ s.size := runE_le _ _ _ (by have := h.lt; omega)
theorem nFx_out {s : ByteArray} {e : Nat} (h : nFx s e = true) : e + 1 < s.size ∧ bAt s e = 46 ∧ isDg (bAt s ((e + 1 : Nat) : Int)) = true := by
  unfold nFx at h
  rw [Bool.and_eq_true, Bool.and_eq_true] at h
  exact ⟨of_decide_eq_true h.1, by simpa using h.2.1, h.2.2⟩
theorem dg_ne {c : Int} (h : isDg c = true) : 48 ≤ c ∧ c ≤ 57 := by unfold isDg at h; simpa using h
theorem NumAt.int {s : ByteArray} {n : Nat} (h : NumAt s n) (hz : ¬ (n + 1 < runE isDg s n ∧ bAt s n = 48)) : AllD (s.extract n (runE isDg s n)) ∧ NoZ (s.extract n (runE isDg s n)) := by
  have h1 := h.gt; have h2 := h.e_le; have h3 := h.le; have h4 := h.lt
  have hs := ext_size s n (runE isDg s n) h2
  refine ⟨allD_ext h2 (by omega) fun j a b => (runE_in a b).1, ⟨by omega, ?_⟩⟩
  by_cases e : n + 1 < runE isDg s n
  · refine Or.inr fun c => hz ⟨e, ?_⟩
    have := bAt_ext s (a := n) (b := runE isDg s n) (i := 0) (by omega)
    rw [show ((0 : Nat) : Int) = 0 from rfl, c] at this
    exact this.symm
  · exact Or.inl (by omega)
theorem NumAt.fix {s : ByteArray} {n : Nat} (h : NumAt s n) (hf : nFx s (runE isDg s n) = true) (hl : runE isDg s (runE isDg s n + 1) ≤ runE isDg s n + 6) (hz : ¬ (n + 1 < runE isDg s n ∧ bAt s n = 48)) :
    FixW (s.extract n (runE isDg s (runE isDg s n + 1))) (runE isDg s n - n) := by
  have h1 := h.gt; have h2 := h.e_le; have h3 := h.le; have h4 := h.lt
  obtain ⟨f1, f2, f3⟩ := nFx_out hf
  obtain ⟨e1, he1⟩ : ∃ e, e = runE isDg s n := ⟨_, rfl⟩
  obtain ⟨e2, he2⟩ : ∃ e, e = runE isDg s (e1 + 1) := ⟨_, rfl⟩
  rw [← he1] at h1 h2 f1 f2 f3 hl hz ⊢
  rw [← he2] at hl ⊢
  have g1 : e1 + 2 ≤ e2 := by rw [he2, runE_step f1 f3]; exact runE_ge _ _ _
  have g2 : e2 ≤ s.size := by rw [he2]; exact runE_le _ _ _ (by omega)
  have hs := ext_size s n e2 g2
  have bx : ∀ i : Nat, n + i < e2 → bAt (s.extract n e2) (i : Int) = bAt s ((n + i : Nat) : Int) := fun i hi => bAt_ext s hi
  have d1 : ∀ j, n ≤ j → j < e1 → isDg (bAt s (j : Int)) = true := fun j a b => (runE_in (i := n) a (by rw [← he1]; exact b)).1
  have d2 : ∀ j, e1 + 1 ≤ j → j < e2 → isDg (bAt s (j : Int)) = true := fun j a b => (runE_in (i := e1 + 1) a (by rw [← he2]; exact b)).1
  have hv : ((s.extract n e2).extract 0 (e1 - n)).size = e1 - n := by rw [ext_size _ _ _ (by omega)]; omega
  refine ⟨⟨by omega, ?_, fun i hi => ?_, by omega⟩, allD_ext (by omega) (by omega) fun j a b => ?_, allD_ext (by omega) (by omega) fun j a b => ?_, ⟨by omega, ?_⟩, by omega, by omega⟩
  · rw [bx _ (by omega), show n + (e1 - n) = e1 by omega]; exact f2
  · rw [bx _ (by omega)]
    have := dg_ne (d1 (n + i) (by omega) (by omega))
    omega
  · rw [bx _ (by omega)]; exact d1 _ (by omega) (by omega)
  · rw [bx _ (by omega)]; exact d2 _ (by omega) (by omega)
  · by_cases e : n + 1 < e1
    · refine Or.inr fun c => hz ⟨e, ?_⟩
      have q1 := bAt_ext (s.extract n e2) (a := 0) (b := e1 - n) (i := 0) (by omega)
      rw [show ((0 : Nat) : Int) = 0 from rfl, c] at q1
      have q2 := bx 0 (by omega)
      exact (q1.trans q2).symm
    · exact Or.inl (by omega)
end Go.Proofs.YtfijmdeanechfaaDoor.Lx
