/- From the reading of an argument to plain values, with its bulk: for the laws' second form. -/
import Derived.Test.YtfijmdeanechfaaDoorOpn
import Derived.Test.YtfijmdeanechfaaDoorRows
namespace Go.Proofs.YtfijmdeanechfaaDoor.Opn
open Go Go.RowKit Go.WideShapes Go.Proofs.YtfijmdeanechfaaDoor.Eng
/-- The reading of cells, with what its weights allow and its bulk. -/
structure RdB (P : Program) (w : World) (t : TypeId) (cs : List Value) (b : Nat) : Prop where
  out : ∃ (H : Type) (enc : TypeId × Value → H) (fuel : Nat) (x : DataW H × List MemPlace), DataW.trod enc P w 0 (fun _ => true) true fuel t cs = some x ∧ (∀ n ∈ x.1.weights P t, n ≤ reachBytes) ∧ Rows.uptoBulk x.1 ≤ b
theorem RdB.rd {P : Program} {w : World} {t : TypeId} {cs : List Value} {b : Nat} (h : RdB P w t cs b) : Rd P w t cs := by
  obtain ⟨H, enc, fuel, x, h1, h2, _⟩ := h
  exact ⟨H, enc, fuel, x, h1, h2⟩
theorem RdB.string {P : Program} {w : World} {t : TypeId} {cs : List Value} {b : Nat} (h : RdB P w t cs b) (ht : P.underlying t = some .string) : ∃ s : ByteArray, cs = [.string s] ∧ s.size + 1 ≤ b := by
  obtain ⟨H, enc, fuel, x, h, _, hb⟩ := h
  obtain ⟨s, rfl, e, _⟩ := DataW.trod_string ht h
  refine ⟨s, rfl, ?_⟩
  rw [e] at hb
  simp only [Rows.uptoBulk, Array.length_toList] at hb
  exact hb
theorem bulk_mem {H : Type} {d : DataW H} {l : List (DataW H)} (h : d ∈ l) : Rows.uptoBulk d ≤ Rows.uptoBulkAll l := by
  induction l with
  | nil => cases h
  | cons x r ih =>
    simp only [Rows.uptoBulkAll]
    cases List.mem_cons.1 h with
    | inl e => subst e; omega
    | inr e => have := ih e; omega
theorem bulk_one {H : Type} (d : DataW H) : 1 ≤ Rows.uptoBulk d := by
  cases d with
  | lit l => cases l <;> simp [Rows.uptoBulk]
  | _ => simp [Rows.uptoBulk]
theorem bulk_len {H : Type} (l : List (DataW H)) : l.length ≤ Rows.uptoBulkAll l := by
  induction l with
  | nil => simp [Rows.uptoBulkAll]
  | cons x r ih => have := bulk_one x; simp only [Rows.uptoBulkAll, List.length_cons]; omega
theorem bulk_sum {H : Type} (l : List (DataW H)) : Rows.uptoBulkAll l = (l.map Rows.uptoBulk).sum := by
  induction l with
  | nil => simp [Rows.uptoBulkAll]
  | cons x r ih => simp only [Rows.uptoBulkAll, List.map_cons, List.sum_cons, ih]
/-- The fields: each with its own bulk, together less than the whole. -/
theorem RdB.fields {P : Program} {w : World} {t : TypeId} {cs : List Value} {b : Nat} (h : RdB P w t cs b) (ht : P.underlying t = some (.struct (fsOf P t))) :
    cs.length = P.cellsOf t ∧ ∃ bs : List Nat, bs.sum + 1 ≤ b ∧ ∀ (i off : Nat) (ty : TypeId), ((fsOf P t)[i]?.map fun f => (f.offset, f.type)) = some (off, ty) → ∃ c, bs[i]? = some c ∧ RdB P w ty ((cs.drop off).take (P.cellsOf ty)) c := by
  obtain ⟨H, enc, fuel, x, h, hw, hb⟩ := h
  obtain ⟨xs, n, _, rfl, hl, hxl, hf⟩ := DataW.trod_struct ht h
  refine ⟨hl, (xs.map (·.1)).map Rows.uptoBulk, ?_, fun i off ty hi => ?_⟩
  · simp only [Rows.uptoBulk, bulk_sum] at hb
    exact hb
  cases hfi : (fsOf P t)[i]? with
  | none => rw [hfi] at hi; cases hi
  | some f =>
    rw [hfi] at hi
    simp only [Option.map_some, Option.some.injEq, Prod.mk.injEq] at hi
    obtain ⟨rfl, rfl⟩ := hi
    have h1 := hf i f hfi
    have hlt : i < xs.length := by rw [hxl]; exact (Array.getElem?_eq_some_iff.1 hfi).1
    rw [List.getElem?_eq_getElem hlt] at h1
    refine ⟨Rows.uptoBulk xs[i].1, by simp [hlt], H, enc, n, xs[i], h1, fun m hm => hw m ?_, Nat.le_refl _⟩
    simp only [DataW.weights, ht]
    refine DataW.weights_mem_each (j := i) (t := f.type) (d := xs[i].1) ?_ ?_ m hm
    · rw [List.getElem?_map, Array.getElem?_toList, hfi]; rfl
    · rw [List.getElem?_map, List.getElem?_eq_getElem hlt]; rfl
/-- A slice: its elements' rows, each with its reading and its bulk. -/
theorem RdB.slice {P : Program} {w : World} {t e : TypeId} {cs : List Value} {b : Nat} (h : RdB P w t cs b) (ht : P.underlying t = some (.slice e)) {sz B : Nat} (hsz : P.cellsOf e = sz) (hB : P.bytesOf e = B) :
    ∃ A len cap, cs = [.slice A len cap] ∧ len ≤ cap ∧ len * B ≤ 140737488351232 ∧ len + 1 ≤ b ∧ ∃ bs : List Nat, bs.length = len ∧ bs.sum + 1 ≤ b ∧ ∀ j, j < len → A.isSome = true ∧ ∃ a cs', A = some a ∧ RdB P w e cs' (bs.getD j 0) ∧ cs'.length = sz ∧ ∀ i u, cs'[i]? = some u → w.cell? (a.add (j * sz + i)) = some u := by
  obtain ⟨H, enc, fuel, x, h, hw, hb⟩ := h
  subst hsz
  rcases Deep.open_slice ht h with ⟨rfl, rfl⟩ | ⟨a, len, cap, m, n, D, Pl, rfl, _, hl, hm, hmm, rfl, hel⟩
  · exact ⟨none, 0, 0, rfl, Nat.le_refl _, by omega, by simpa [Rows.uptoBulk] using hb, [], rfl, by simpa [Rows.uptoBulk] using hb, fun j hj => absurd hj (Nat.not_lt_zero j)⟩
  · have hlm : len ≤ m := by rw [hmm, if_pos rfl]; exact hl
    have hw0 := hw (((List.range len).map D).length * P.bytesOf e + ((List.range (m - len)).map fun j => D (len + j)).length * P.bytesOf e) (by
      rw [← Nat.add_mul]
      simp [DataW.weights, ht])
    simp only [Rows.uptoBulk] at hb
    have hb1 := bulk_len ((List.range len).map D)
    simp only [List.length_map, List.length_range] at hb1
    refine ⟨some a, len, cap, rfl, hl, ?_, by omega, ((List.range len).map D).map Rows.uptoBulk, by simp, by rw [← bulk_sum]; omega, fun j hj => ⟨rfl, ?_⟩⟩
    · simp only [List.length_map, List.length_range] at hw0
      have : reachBytes = 140737488351232 := rfl
      rw [← hB]
      omega
    · obtain ⟨cs', hcs, htr⟩ := hel j (by omega)
      obtain ⟨h1, h2⟩ := cells_at hcs
      refine ⟨a, cs', rfl, ⟨H, enc, n, (D j, Pl j), htr, fun m hm => hw m ?_, ?_⟩, h1, fun i u hu => by rw [← Addr.add_add]; exact h2 i u hu⟩
      · simp only [DataW.weights, ht]
        exact List.mem_cons_of_mem _ (List.mem_append.2 (Or.inl (weightsAll_mem (List.mem_map.2 ⟨j, List.mem_range.2 hj, rfl⟩) m hm)))
      · simp [hj]
/-- As rows_of; what is told of an element may hang on its place. -/
theorem rows_ofJ {w : World} {A : Option Addr} {len sz : Nat} {α : Type} (d : α) (enc : α → List SC) (R : Nat → α → Prop) (hz : 0 < sz) (h0 : ∀ x, (enc x).all (·.lt 0) = true)
    (h : ∀ j, j < len → ∃ a cs', A = some a ∧ (∃ x, cs' = (enc x).map (·.den nob) ∧ R j x) ∧ cs'.length = sz ∧ ∀ i u, cs'[i]? = some u → w.cell? (a.add (j * sz + i)) = some u) :
    ∃ xs : List α, len = xs.length ∧ ∀ j, j < xs.length → A.isSome = true ∧ RowAt (fun _ => False) w A sz (enc (xs.getD j d)) j ∧ R j (xs.getD j d) := by
  suffices G : ∀ n, n ≤ len → ∃ xs : List α, n = xs.length ∧ ∀ j, j < xs.length → A.isSome = true ∧ RowAt (fun _ => False) w A sz (enc (xs.getD j d)) j ∧ R j (xs.getD j d) from G len (Nat.le_refl _)
  intro n
  induction n with
  | zero => intro _; exact ⟨[], rfl, fun j hj => absurd hj (Nat.not_lt_zero j)⟩
  | succ n ih =>
    intro hn
    obtain ⟨xs, hx, hall⟩ := ih (by omega)
    obtain ⟨a, cs', hA, ⟨x, hcs, hR⟩, hl, hc⟩ := h n (by omega)
    refine ⟨xs ++ [x], by simp [hx], fun j hj => ?_⟩
    by_cases hjn : j < n
    · have e : (xs ++ [x]).getD j d = xs.getD j d := by
        rw [List.getD_eq_getElem?_getD, List.getD_eq_getElem?_getD, List.getElem?_append_left (by omega)]
      rw [e]; exact hall j (by omega)
    · have hj2 : j = n := by simp at hj; omega
      have e : (xs ++ [x]).getD j d = x := by
        have : j = xs.length := by omega
        rw [List.getD_eq_getElem?_getD, this, List.getElem?_append_right (Nat.le_refl _), Nat.sub_self]; rfl
      rw [e, hj2]
      refine ⟨by rw [hA]; rfl, ⟨⟨a, hA, ?_, fun h => h, h0 x, fun i c hi => hc i _ (by rw [hcs, List.getElem?_map, hi]; rfl)⟩⟩, hR⟩
      have h1 := hc 0 (cs'[0]'(by omega)) (List.getElem?_eq_getElem _)
      have h2 := World.block_lt_of_cell? _ _ h1
      have hb : (a.add (n * sz + 0)).block = a.block := by unfold Addr.add; split <;> rfl
      rw [hb] at h2
      exact h2
end Go.Proofs.YtfijmdeanechfaaDoor.Opn
