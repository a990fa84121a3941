/- From an argument's reading to a plain value of its kind, with the bounds that its weight gives. -/
import Derived.Test.YtkmnkikcbmfecaaDoorWWords
import Derived.Deep.Slices
import Derived.SizedLaws
import Derived.DataElems
import Derived.SliceStrings
import Derived.ChangeArms
namespace Go.Proofs.YtkmnkikcbmfecaaDoor
open Go Go.Proofs.YtkmnkikcbmfecaaDoorW.PrintWords
def Opens {α : Type} (P : Program) (t : TypeId) (d : Kd α) (Sz : α → Prop) : Prop :=
  ∀ {H : Type} (enc : TypeId × Value → H) (w : World) (fuel : Nat) (cs : List Value) (x : DataW H × List MemPlace), DataW.trod enc P w 0 (fun _ => true) true fuel t cs = some x →
    (∀ n ∈ x.1.weights P t, n ≤ reachBytes) → ∃ a : α, d.K w a cs ∧ Sz a
theorem opens_string {P : Program} {t : TypeId} (ht : P.underlying t = some .string) : Opens P t Kd.string (fun s => s.size ≤ 140737488351232) := by
  intro H enc w fuel cs x h hw
  obtain ⟨s, rfl, rfl, _⟩ := DataW.trod_string ht h
  refine ⟨s, rfl, ?_⟩
  have := hw s.data.toList.length (by simp [DataW.weights])
  rw [Array.length_toList] at this
  exact this
theorem opens_int {P : Program} {t : TypeId} {k : IntKind} (ht : P.underlying t = some (.int k)) : Opens P t (Kd.int k) (fun n => (Lit.int k n).wf = true) := by
  intro H enc w fuel cs x h _
  obtain ⟨n, rfl, _, hwf⟩ := DataW.trod_int ht h
  exact ⟨n, rfl, hwf⟩
theorem opens_bool {P : Program} {t : TypeId} (ht : P.underlying t = some .bool) : Opens P t Kd.bool (fun _ => True) := by
  intro H enc w fuel cs x h _
  obtain ⟨b, rfl, _⟩ := DataW.trod_bool ht h
  exact ⟨b, rfl, trivial⟩
theorem cells_at {w : World} {a : Addr} {n : Nat} {cs : List Value} (h : w.cells? 0 a n = some cs) : cs.length = n ∧ ∀ i u, cs[i]? = some u → w.cell? (a.add i) = some u := by
  unfold World.cells? at h
  rw [if_pos (Nat.zero_le _)] at h
  suffices G : ∀ (l : List Nat) (cs : List Value), l.mapM (fun i => w.cell? (a.add i)) = some cs → cs.length = l.length ∧ ∀ i u, cs[i]? = some u → ∃ j, l[i]? = some j ∧ w.cell? (a.add j) = some u by
    obtain ⟨h1, h2⟩ := G _ _ h
    refine ⟨by simpa using h1, fun i u hu => ?_⟩
    obtain ⟨j, hj, hc⟩ := h2 i u hu
    have : j = i := by
      obtain ⟨hlt, e⟩ := List.getElem?_eq_some_iff.1 hj
      simpa using e.symm
    rw [← this]; exact hc
  intro l
  induction l with
  | nil => intro cs h; cases h; exact ⟨rfl, fun i u hu => by simp at hu⟩
  | cons j l ih =>
    intro cs h
    rw [List.mapM_cons] at h
    simp only [Option.bind_eq_bind, Option.bind_eq_some_iff, Option.pure_def, Option.some.injEq] at h
    obtain ⟨b, hb, r, hr, rfl⟩ := h
    obtain ⟨h1, h2⟩ := ih r hr
    refine ⟨by simp [h1], fun i u hu => ?_⟩
    cases i with
    | zero => exact ⟨j, rfl, by simp at hu; rw [← hu]; exact hb⟩
    | succ i => exact h2 i u hu
theorem weightsAll_mem {H : Type} {P : Program} {e : TypeId} : ∀ {l : List (DataW H)} {d : DataW H}, d ∈ l → ∀ n ∈ d.weights P e, n ∈ DataW.weightsAll P e l
  | [], _, h, _, _ => by cases h
  | x :: l, d, h, n, hn => by
    unfold DataW.weightsAll
    rcases List.mem_cons.1 h with rfl | h
    · exact List.mem_append.2 (Or.inl hn)
    · exact List.mem_append.2 (Or.inr (weightsAll_mem h n hn))
theorem opens_slice {α : Type} {P : Program} {t e : TypeId} {d : Kd α} {Sz : α → Prop} (ht : P.underlying t = some (.slice e)) (hd : Opens P e d Sz) (hsz : P.cellsOf e = d.sz) {B : Nat} (hB : P.bytesOf e = B) :
    Opens P t (Kd.slice e d) (fun xs => xs.length * B ≤ 140737488351232 ∧ ∀ x ∈ xs, Sz x) := by
  intro H enc w fuel cs x h hw
  rcases Deep.open_slice ht h with ⟨rfl, rfl⟩ | ⟨a, len, cap, m, n, D, Pl, rfl, _, hl, hm, hmm, rfl, hel⟩
  · refine ⟨[], ⟨none, 0, rfl, Nat.le_refl _, rfl, Nat.zero_le _, fun h => absurd h (by simp)⟩, ?_, fun x hx => by cases hx⟩
    simp
  · have hlm : len ≤ m := by rw [hmm, if_pos rfl]; exact hl
    have hw0 := hw (((List.range len).map D).length * P.bytesOf e + ((List.range (m - len)).map fun j => D (len + j)).length * P.bytesOf e) (by
      rw [← Nat.add_mul]
      simp [DataW.weights, ht])
    have each : ∀ i, i < len → ∃ y : α, ∃ c, c.length = d.sz ∧ d.K w y c ∧ Sz y ∧ ∀ j u, c[j]? = some u → w.cell? (a.add (i * d.sz + j)) = some u := by
      intro i hi
      obtain ⟨cs', hcs, htr⟩ := hel i (by omega)
      have hwi : ∀ n ∈ (D i).weights P e, n ≤ reachBytes := by
        intro n hn
        apply hw
        simp only [DataW.weights, ht]
        refine List.mem_cons_of_mem _ (List.mem_append.2 (Or.inl (weightsAll_mem (List.mem_map.2 ⟨i, List.mem_range.2 hi, rfl⟩) n hn)))
      obtain ⟨y, hy, hsy⟩ := hd enc w n cs' (D i, Pl i) htr hwi
      obtain ⟨hlen, hcell⟩ := cells_at hcs
      refine ⟨y, cs', d.K_len hy, hy, hsy, fun j u hu => ?_⟩
      have := hcell j u hu
      rw [Addr.add_add, hsz] at this
      exact this
    have pick : ∀ n, n ≤ len → ∃ xs : List α, xs.length = n ∧ ∀ i y, xs[i]? = some y → ∃ c, c.length = d.sz ∧ d.K w y c ∧ Sz y ∧ ∀ j u, c[j]? = some u → w.cell? (a.add (i * d.sz + j)) = some u := by
      intro n
      induction n with
      | zero => exact fun _ => ⟨[], rfl, fun i y hy => by simp at hy⟩
      | succ n ih =>
        intro hn
        obtain ⟨xs, hx, hall⟩ := ih (by omega)
        obtain ⟨y, c, h1, h2, h3, h4⟩ := each n (by omega)
        refine ⟨xs ++ [y], by simp [hx], fun i z hz => ?_⟩
        by_cases hi : i < n
        · rw [List.getElem?_append_left (by omega)] at hz
          exact hall i z hz
        · have hi2 : i < n + 1 := by
            have := (List.getElem?_eq_some_iff.1 hz).1
            simp [hx] at this
            omega
          obtain rfl : i = n := by omega
          rw [List.getElem?_append_right (by omega), hx, Nat.sub_self] at hz
          cases hz
          exact ⟨c, h1, h2, h3, h4⟩
    obtain ⟨xs, hx, hall⟩ := pick len (Nat.le_refl _)
    refine ⟨xs, ⟨some a, cap, by rw [hx], by rw [hx]; exact hl, ?_⟩, ?_, fun y hy => ?_⟩
    · rw [hx]
      refine ⟨hx, ?_, fun _ => ⟨a, rfl, fun j y hy => ?_⟩⟩
      · have : maxLen ≤ 9223372036854775807 := by decide
        omega
      · obtain ⟨c, h1, h2, _, h4⟩ := hall j y hy
        exact ⟨c, h1, h2, h4⟩
    · rw [hx, ← hB]
      simp only [List.length_map, List.length_range] at hw0
      have : reachBytes = 140737488351232 := rfl
      omega
    · obtain ⟨i, hi⟩ := List.getElem?_of_mem hy
      obtain ⟨c, _, _, h3, _⟩ := hall i y hi
      exact h3
theorem weights_at {H : Type} {P : Program} {ts : List TypeId} {ds : List (DataW H)} {j : Nat} {t : TypeId} {d : DataW H} (hsz : (DataW.weightsEach P ts ds).all (· ≤ reachBytes) = true) (ht : ts[j]? = some t) (hd : ds[j]? = some d) : ∀ n ∈ d.weights P t, n ≤ reachBytes :=
  fun n hn => by simpa using List.all_eq_true.1 hsz n (DataW.weights_mem_each ht hd n hn)
end Go.Proofs.YtkmnkikcbmfecaaDoor
