/- What Requires reckons: the plain law. -/
import Derived.Test.YtomnecadhiflnaaDoorCm14
namespace Go.Proofs.YtomnecadhiflnaaDoor.Br
open Go Go.RowKit Go.Maps Go.Proofs.YtomnecadhiflnaaDoor.Eng Go.Proofs.YtomnecadhiflnaaDoor.Cm
set_option linter.unusedVariables false
set_option linter.unusedSimpArgs false
def insF (t : Int) : Bool → List Int → List Int
  | d, [] => bif d then [] else [t]
  | d, x :: r => (bif !d && decide (x ≥ t) then [t] else []) ++ ((bif x != t then [x] else []) ++ insF t (bif !d && decide (x ≥ t) then true else d) r)
def insL (l : List Int) (t : Int) : List Int := insF t false l
theorem insF_true (t : Int) : ∀ l : List Int, insF t true l = l.filter (· != t)
  | [] => rfl
  | x :: r => by
    have ih := insF_true t r
    unfold insF
    simp only [Bool.not_true, Bool.false_and, cond_false, List.nil_append]
    rw [ih, List.filter_cons]
    cases hx : (x != t) <;> simp
theorem insL_spec (t : Int) : ∀ l : List Int, l.Pairwise (· < ·) → (insF t false l).Pairwise (· < ·) ∧ ∀ x, x ∈ insF t false l ↔ x = t ∨ x ∈ l
  | [], _ => by simp [insF]
  | y :: r, h => by
    have h1 := List.pairwise_cons.1 h
    have ih := insL_spec t r h1.2
    unfold insF
    by_cases hy : y ≥ t
    · simp only [Bool.not_false, Bool.true_and, decide_eq_true hy, cond_true]
      have hfil : r.filter (· != t) = r := List.filter_eq_self.2 fun z hz => by
        have := h1.1 z hz
        simp; omega
      rw [insF_true, hfil]
      by_cases he : y = t
      · subst he
        simp only [bne_self_eq_false, cond_false, List.nil_append]
        exact ⟨h, fun x => by simp⟩
      · have hb : (y != t) = true := by simpa using he
        simp only [hb, cond_true]
        refine ⟨List.pairwise_cons.2 ⟨fun z hz => ?_, h⟩, fun x => by simp⟩
        rcases List.mem_cons.1 hz with hz | hz
        · omega
        · have := h1.1 z hz; omega
    · simp only [Bool.not_false, Bool.true_and, decide_eq_false hy, cond_false, List.nil_append]
      have hb : (y != t) = true := by simp; omega
      simp only [hb, cond_true, List.singleton_append]
      refine ⟨List.pairwise_cons.2 ⟨fun z hz => ?_, ih.1⟩, fun x => ?_⟩
      · rcases (ih.2 z).1 hz with hz | hz
        · omega
        · exact h1.1 z hz
      · rw [List.mem_cons, ih.2 x, List.mem_cons]
        constructor
        · rintro (h | h | h)
          · exact .inr (.inl h)
          · exact .inl h
          · exact .inr (.inr h)
        · rintro (h | h | h)
          · exact .inr (.inl h)
          · exact .inl h
          · exact .inr (.inr h)
/-- Is command m a binding of the slot s? -/
def bndB (l : List S33) (s : Int) (m : Nat) : Bool := (l.getD m z33).f0 == 4 && (l.getD m z33).f1 == s
/-- Is command k the last of its slot ahead of i? -/
def lastB (l : List S33) (k i : Nat) : Bool := (List.range i).all (fun m => !decide (k < m) || !bndB l (l.getD k z33).f1 m)
theorem lastB_iff (l : List S33) (k i : Nat) : lastB l k i = true ↔ ∀ m, k < m → m < i → bndB l (l.getD k z33).f1 m = false := by
  unfold lastB
  rw [List.all_eq_true]
  constructor
  · intro h m h1 h2
    have := h m (List.mem_range.2 h2)
    simpa [h1] using this
  · intro h m hm
    by_cases h1 : k < m
    · rw [decide_eq_true h1, h m h1 (List.mem_range.1 hm)]; rfl
    · rw [decide_eq_false h1]; rfl
/-- The list that the reference makes of the first k of i commands. -/
def refL (l : List S33) (i : Nat) : Nat → List Int
  | 0 => []
  | k + 1 => bif (l.getD k z33).f0 == 4 && lastB l k i then insL (refL l i k) (l.getD k z33).f2 else refL l i k
theorem refL_spec (l : List S33) (i : Nat) : ∀ k, (refL l i k).Pairwise (· < ·) ∧ ∀ x, x ∈ refL l i k ↔ ∃ j, j < k ∧ (l.getD j z33).f0 = 4 ∧ lastB l j i = true ∧ (l.getD j z33).f2 = x
  | 0 => by simp [refL]
  | k + 1 => by
    have ih := refL_spec l i k
    unfold refL
    cases hc : ((l.getD k z33).f0 == 4 && lastB l k i) with
    | true =>
      simp only [cond_true]
      have hs := insL_spec (l.getD k z33).f2 _ ih.1
      refine ⟨hs.1, fun x => ?_⟩
      unfold insL
      rw [hs.2 x, ih.2 x]
      simp only [Bool.and_eq_true, beq_iff_eq] at hc
      constructor
      · rintro (rfl | ⟨j, h1, h2⟩)
        · exact ⟨k, by omega, hc.1, hc.2, rfl⟩
        · exact ⟨j, by omega, h2⟩
      · rintro ⟨j, h1, h2, h3, h4⟩
        by_cases hj : j = k
        · subst hj; exact .inl h4.symm
        · exact .inr ⟨j, by omega, h2, h3, h4⟩
    | false =>
      simp only [cond_false]
      refine ⟨ih.1, fun x => ?_⟩
      rw [ih.2 x]
      constructor
      · rintro ⟨j, h1, h2⟩; exact ⟨j, by omega, h2⟩
      · rintro ⟨j, h1, h2, h3, h4⟩
        by_cases hj : j = k
        · subst hj
          rw [h3, h2] at hc
          exact absurd hc (by decide)
        · exact ⟨j, by omega, h2, h3, h4⟩
/-- What the map has been told of the first k commands (the newest ahead). -/
def histL (l : List S33) : Nat → List (Int × Int)
  | 0 => []
  | k + 1 => bif (l.getD k z33).f0 == 4 then ((l.getD k z33).f1, (l.getD k z33).f2) :: histL l k else histL l k
theorem histL_len (l : List S33) : ∀ k, (histL l k).length ≤ k
  | 0 => Nat.le_refl _
  | k + 1 => by
    have := histL_len l k
    unfold histL
    cases ((l.getD k z33).f0 == 4) <;> simp <;> omega
theorem histL_spec (l : List S33) (a x : Int) : ∀ k, ((∃ p ∈ histL l k, p.1 = a) ∧ look (histL l k) a = x) ↔ ∃ j, j < k ∧ (l.getD j z33).f0 = 4 ∧ (l.getD j z33).f1 = a ∧ (l.getD j z33).f2 = x ∧ ∀ m, j < m → m < k → bndB l a m = false
  | 0 => by simp [histL]
  | k + 1 => by
    have ih := histL_spec l a x k
    unfold histL
    have hext : ∀ j, j < k → bndB l a k = false → ((∀ m, j < m → m < k + 1 → bndB l a m = false) ↔ ∀ m, j < m → m < k → bndB l a m = false) := fun j hj hk => by
      constructor
      · intro h m h1 h2; exact h m h1 (by omega)
      · intro h m h1 h2
        by_cases hm : m = k
        · subst hm; exact hk
        · exact h m h1 (by omega)
    cases hc : ((l.getD k z33).f0 == 4) with
    | false =>
      simp only [cond_false]
      rw [ih]
      have hk : bndB l a k = false := by unfold bndB; rw [hc]; rfl
      constructor
      · rintro ⟨j, h1, h2, h3, h4, h5⟩; exact ⟨j, by omega, h2, h3, h4, (hext j h1 hk).2 h5⟩
      · rintro ⟨j, h1, h2, h3, h4, h5⟩
        by_cases hj : j = k
        · subst hj; rw [h2] at hc; exact absurd hc (by decide)
        · exact ⟨j, by omega, h2, h3, h4, (hext j (by omega) hk).1 h5⟩
    | true =>
      simp only [cond_true]
      have hc2 : (l.getD k z33).f0 = 4 := by simpa using hc
      by_cases ha : (l.getD k z33).f1 = a
      · unfold look
        have hb : ((l.getD k z33).f1 == a) = true := by simpa using ha
        simp only [hb, cond_true]
        constructor
        · rintro ⟨_, h⟩; exact ⟨k, by omega, hc2, ha, h, fun m h1 h2 => by omega⟩
        · rintro ⟨j, h1, h2, h3, h4, h5⟩
          refine ⟨⟨_, List.mem_cons_self, ha⟩, ?_⟩
          by_cases hj : j = k
          · subst hj; exact h4
          · have := h5 k (by omega) (by omega)
            unfold bndB at this
            rw [hc, ha] at this
            simp at this
      · have hb : ((l.getD k z33).f1 == a) = false := by simpa using ha
        have hk : bndB l a k = false := by unfold bndB; rw [hc, hb]; rfl
        have e : ((∃ p ∈ ((l.getD k z33).f1, (l.getD k z33).f2) :: histL l k, p.1 = a) ∧ look (((l.getD k z33).f1, (l.getD k z33).f2) :: histL l k) a = x) ↔ ((∃ p ∈ histL l k, p.1 = a) ∧ look (histL l k) a = x) := by
          have e2 : look (((l.getD k z33).f1, (l.getD k z33).f2) :: histL l k) a = look (histL l k) a := by
            conv => lhs; unfold look
            simp only [hb, cond_false]
          rw [e2]
          constructor
          · rintro ⟨⟨p, hp, h1⟩, h2⟩
            rcases List.mem_cons.1 hp with rfl | hp
            · exact absurd h1 ha
            · exact ⟨⟨p, hp, h1⟩, h2⟩
          · rintro ⟨⟨p, hp, h1⟩, h2⟩; exact ⟨⟨p, List.mem_cons_of_mem _ hp, h1⟩, h2⟩
        rw [e, ih]
        constructor
        · rintro ⟨j, h1, h2, h3, h4, h5⟩; exact ⟨j, by omega, h2, h3, h4, (hext j h1 hk).2 h5⟩
        · rintro ⟨j, h1, h2, h3, h4, h5⟩
          by_cases hj : j = k
          · subst hj; exact absurd h3 ha
          · exact ⟨j, by omega, h2, h3, h4, (hext j (by omega) hk).1 h5⟩
/-- Is the place j the first of its run? -/
def kp (l : List Int) (j : Nat) : Bool := j == 0 || l.getD j 0 != l.getD (j - 1) 0
/-- The first m places without repetitions. -/
def cptU (l : List Int) (m : Nat) : List Int := ((List.range m).filter (kp l)).map (fun j => l.getD j 0)
theorem cptU_succ (l : List Int) (m : Nat) : cptU l (m + 1) = cptU l m ++ bif kp l m then [l.getD m 0] else [] := by
  unfold cptU
  rw [List.range_succ, List.filter_append, List.map_append]
  congr 1
  cases h : kp l m <;> simp [h]
theorem cptU_len (l : List Int) : ∀ m, (cptU l m).length ≤ m
  | 0 => by simp [cptU]
  | m + 1 => by
    have := cptU_len l m
    rw [cptU_succ, List.length_append]
    cases kp l m <;> simp <;> omega
theorem sorted_get {l : List Int} (h : l.Pairwise (· ≤ ·)) {i j : Nat} (hij : i ≤ j) (hj : j < l.length) : l.getD i 0 ≤ l.getD j 0 := by
  rw [List.getD_eq_getElem?_getD, List.getD_eq_getElem?_getD, List.getElem?_eq_getElem hj, List.getElem?_eq_getElem (by omega : i < l.length)]
  rcases Nat.lt_or_ge i j with hlt | hge
  · exact List.pairwise_iff_getElem.1 h i j (by omega) hj hlt
  · have : i = j := by omega
    subst this; exact Int.le_refl _
theorem cptU_spec {l : List Int} (h : l.Pairwise (· ≤ ·)) : ∀ m, m ≤ l.length → (cptU l m).Pairwise (· < ·) ∧ (∀ x, x ∈ cptU l m ↔ ∃ j, j < m ∧ l.getD j 0 = x)
  | 0, _ => by simp [cptU]
  | m + 1, hm => by
    have ih := cptU_spec h m (by omega)
    rw [cptU_succ]
    cases hk : kp l m with
    | true =>
      simp only [cond_true]
      refine ⟨List.pairwise_append.2 ⟨ih.1, by simp, fun a ha b hb => ?_⟩, fun x => ?_⟩
      · have hb : b = l.getD m 0 := by simpa using hb
        subst hb
        obtain ⟨j, hj, rfl⟩ := (ih.2 a).1 ha
        unfold kp at hk
        have h0 : ¬ m = 0 := by omega
        have hne : l.getD m 0 ≠ l.getD (m - 1) 0 := by simpa [h0] using hk
        have h1 := sorted_get h (i := j) (j := m - 1) (by omega) (by omega)
        have h2 := sorted_get h (i := m - 1) (j := m) (by omega) (by omega)
        omega
      · rw [List.mem_append, ih.2 x, List.mem_singleton]
        constructor
        · rintro (⟨j, h1, h2⟩ | rfl)
          · exact ⟨j, by omega, h2⟩
          · exact ⟨m, by omega, rfl⟩
        · rintro ⟨j, h1, h2⟩
          by_cases hj : j = m
          · subst hj; exact .inr h2.symm
          · exact .inl ⟨j, by omega, h2⟩
    | false =>
      simp only [cond_false, List.append_nil]
      refine ⟨ih.1, fun x => ?_⟩
      rw [ih.2 x]
      constructor
      · rintro ⟨j, h1, h2⟩; exact ⟨j, by omega, h2⟩
      · rintro ⟨j, h1, h2⟩
        by_cases hj : j = m
        · subst hj
          unfold kp at hk
          simp only [Bool.or_eq_false_iff, beq_eq_false_iff_ne, bne_eq_false_iff_eq] at hk
          exact ⟨j - 1, by omega, by rw [← hk.2]; exact h2⟩
        · exact ⟨j, by omega, h2⟩
theorem asc_unique {l m : List Int} (hl : l.Pairwise (· < ·)) (hm : m.Pairwise (· < ·)) (h : ∀ x, x ∈ l ↔ x ∈ m) : l = m := by
  have n1 : l.Nodup := hl.imp fun h => Int.ne_of_lt h
  have n2 : m.Nodup := hm.imp fun h => Int.ne_of_lt h
  exact sorted_unique ((List.perm_ext_iff_of_nodup n1 n2).2 h) (hl.imp fun h => Int.le_of_lt h) (hm.imp fun h => Int.le_of_lt h)
/-- The two roads meet. -/
theorem cpt_ref (l : List S33) (i : Nat) : cptU (svals (histL l i)) (svals (histL l i)).length = refL l i i := by
  have hs : (svals (histL l i)).Pairwise (· ≤ ·) := isort_sorted _
  have h1 := cptU_spec hs _ (Nat.le_refl _)
  have h2 := refL_spec l i i
  refine asc_unique h1.1 h2.1 fun x => ?_
  rw [h1.2 x, h2.2 x]
  have hx : (∃ j, j < (svals (histL l i)).length ∧ (svals (histL l i)).getD j 0 = x) ↔ x ∈ svals (histL l i) := by
    constructor
    · rintro ⟨j, hj, rfl⟩
      rw [List.getD_eq_getElem?_getD, List.getElem?_eq_getElem hj]
      exact List.getElem_mem hj
    · intro hx
      obtain ⟨j, hj, he⟩ := List.getElem_of_mem hx
      exact ⟨j, hj, by rw [List.getD_eq_getElem?_getD, List.getElem?_eq_getElem hj]; exact he⟩
  rw [hx]
  have hm : x ∈ svals (histL l i) ↔ ∃ a, (∃ p ∈ histL l i, p.1 = a) ∧ look (histL l i) a = x := by
    unfold svals
    rw [(isort_perm _).mem_iff, List.mem_map]
    constructor
    · rintro ⟨a, ha, he⟩
      exact ⟨a, ((mem_keysV a _ []).1 ha).2, he⟩
    · rintro ⟨a, ha, he⟩
      exact ⟨a, (mem_keysV a _ []).2 ⟨by simp, ha⟩, he⟩
  rw [hm]
  constructor
  · rintro ⟨a, h⟩
    obtain ⟨j, hj, h4, h5, h6, h7⟩ := (histL_spec l a x i).1 h
    subst h5
    exact ⟨j, hj, h4, (lastB_iff l j i).2 h7, h6⟩
  · rintro ⟨j, hj, h4, h5, h6⟩
    exact ⟨(l.getD j z33).f1, (histL_spec l _ x i).2 ⟨j, hj, h4, rfl, h6, (lastB_iff l j i).1 h5⟩⟩
end Go.Proofs.YtomnecadhiflnaaDoor.Br
