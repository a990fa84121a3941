/- From the reading of an argument to plain values: what the walks of this session take in. -/
import Derived.Test.YtfhckpfiegenaaaGreatDoorEng
import Derived.Deep.Slices
import Derived.SizedLaws
import Derived.DataElems
import Derived.ChangeArms
import Derived.WideShapes
import Derived.LaidLaws
import Derived.Lib.LaidTab
namespace Go.Proofs.YtfhckpfiegenaaaGreatDoor.Opn
open Go Go.RowKit Go.WideShapes Go.Proofs.YtfhckpfiegenaaaGreatDoor.Eng
/-- The reading of cells, with what its weights allow. -/
structure Rd (P : Program) (w : World) (t : TypeId) (cs : List Value) : Prop where
  out : ∃ (H : Type) (enc : TypeId × Value → H) (fuel : Nat) (x : DataW H × List MemPlace), DataW.trod enc P w 0 (fun _ => true) true fuel t cs = some x ∧ ∀ n ∈ x.1.weights P t, n ≤ reachBytes
theorem Rd.string {P : Program} {w : World} {t : TypeId} {cs : List Value} (h : Rd P w t cs) (ht : P.underlying t = some .string) : ∃ s : ByteArray, cs = [.string s] ∧ s.size ≤ 140737488351232 := by
  obtain ⟨H, enc, fuel, x, h, hw⟩ := h
  obtain ⟨s, rfl, rfl, _⟩ := DataW.trod_string ht h
  refine ⟨s, rfl, ?_⟩
  have := hw s.data.toList.length (by simp [DataW.weights])
  rw [Array.length_toList] at this
  exact this
theorem Rd.int {P : Program} {w : World} {t : TypeId} {cs : List Value} (h : Rd P w t cs) {k : IntKind} (ht : P.underlying t = some (.int k)) : ∃ n, cs = [.int k n] ∧ (Lit.int k n).wf = true := by
  obtain ⟨H, enc, fuel, x, h, hw⟩ := h
  obtain ⟨n, rfl, _, hwf⟩ := DataW.trod_int ht h
  exact ⟨n, rfl, hwf⟩
theorem Rd.bool {P : Program} {w : World} {t : TypeId} {cs : List Value} (h : Rd P w t cs) (ht : P.underlying t = some .bool) : ∃ b, cs = [.bool b] := by
  obtain ⟨H, enc, fuel, x, h, hw⟩ := h
  obtain ⟨b, rfl, _⟩ := DataW.trod_bool ht h
  exact ⟨b, rfl⟩
/-- The fields of a struct. -/
def fsOf (P : Program) (t : TypeId) : Array Field := match P.underlying t with
  | some (.struct fs) => fs
  | _ => #[]
theorem Rd.fields {P : Program} {w : World} {t : TypeId} {cs : List Value} (h : Rd P w t cs) (ht : P.underlying t = some (.struct (fsOf P t))) :
    cs.length = P.cellsOf t ∧ ∀ (i off : Nat) (ty : TypeId), ((fsOf P t)[i]?.map fun f => (f.offset, f.type)) = some (off, ty) → Rd P w ty ((cs.drop off).take (P.cellsOf ty)) := by
  obtain ⟨H, enc, fuel, x, h, hw⟩ := h
  obtain ⟨xs, n, _, rfl, hl, hxl, hf⟩ := DataW.trod_struct ht h
  refine ⟨hl, fun i off ty hi => ?_⟩
  cases hfi : (fsOf P t)[i]? with
  | none => rw [hfi] at hi; cases hi
  | some f =>
    rw [hfi] at hi
    simp only [Option.map_some, Option.some.injEq, Prod.mk.injEq] at hi
    obtain ⟨rfl, rfl⟩ := hi
    have h1 := hf i f hfi
    have hlt : i < xs.length := by rw [hxl]; exact (Array.getElem?_eq_some_iff.1 hfi).1
    rw [List.getElem?_eq_getElem hlt] at h1
    refine ⟨H, enc, n, xs[i], h1, fun m hm => hw m ?_⟩
    simp only [DataW.weights, ht]
    refine DataW.weights_mem_each (j := i) (t := f.type) (d := xs[i].1) ?_ ?_ m hm
    · rw [List.getElem?_map, Array.getElem?_toList, hfi]; rfl
    · rw [List.getElem?_map, List.getElem?_eq_getElem hlt]; rfl
theorem cut1 {cs p : List Value} {a n b : Nat} (h : (cs.drop a).take n = p) (hb : a + n = b) : cs.drop a = p ++ cs.drop b := by
  rw [← h, ← hb, ← List.drop_drop, List.take_append_drop]
theorem cells_at {w : World} {a : Addr} {n : Nat} {cs : List Value} (h : w.cells? 0 a n = some cs) : cs.length = n ∧ ∀ i u, cs[i]? = some u → w.cell? (a.add i) = some u := by
  unfold World.cells? at h
  rw [if_pos (Nat.zero_le _)] at h
  suffices G : ∀ (l : List Nat) (cs : List Value), l.mapM (fun i => w.cell? (a.add i)) = some cs → cs.length = l.length ∧ ∀ i u, cs[i]? = some u → ∃ j, l[i]? = some j ∧ w.cell? (a.add j) = some u by
    obtain ⟨h1, h2⟩ := G _ _ h
    refine ⟨by simpa using h1, fun i u hu => ?_⟩
    obtain ⟨j, hj, hc⟩ := h2 i u hu
    have : j = i := by
      obtain ⟨hlt, e⟩ := List.getElem?_eq_some_iff.1 hj
      simpa using e.symm
    rw [← this]; exact hc
  intro l
  induction l with
  | nil => intro cs h; cases h; exact ⟨rfl, fun i u hu => by simp at hu⟩
  | cons j l ih =>
    intro cs h
    rw [List.mapM_cons] at h
    simp only [Option.bind_eq_bind, Option.bind_eq_some_iff, Option.pure_def, Option.some.injEq] at h
    obtain ⟨b, hb, r, hr, rfl⟩ := h
    obtain ⟨h1, h2⟩ := ih r hr
    refine ⟨by simp [h1], fun i u hu => ?_⟩
    cases i with
    | zero => exact ⟨j, rfl, by simp at hu; rw [← hu]; exact hb⟩
    | succ i => exact h2 i u hu
theorem weightsAll_mem {H : Type} {P : Program} {e : TypeId} : ∀ {l : List (DataW H)} {d : DataW H}, d ∈ l → ∀ n ∈ d.weights P e, n ∈ DataW.weightsAll P e l
  | [], _, h, _, _ => by cases h
  | x :: l, d, h, n, hn => by
    unfold DataW.weightsAll
    rcases List.mem_cons.1 h with rfl | h
    · exact List.mem_append.2 (Or.inl hn)
    · exact List.mem_append.2 (Or.inr (weightsAll_mem h n hn))
/-- A slice: its elements' rows, each with its reading. -/
theorem Rd.slice {P : Program} {w : World} {t e : TypeId} {cs : List Value} (h : Rd P w t cs) (ht : P.underlying t = some (.slice e)) {sz B : Nat} (hsz : P.cellsOf e = sz) (hB : P.bytesOf e = B) :
    ∃ A len cap, cs = [.slice A len cap] ∧ len ≤ cap ∧ len ≤ 9223372036854775807 ∧ len * B ≤ 140737488351232 ∧ ∀ j, j < len → A.isSome = true ∧ ∃ a cs', A = some a ∧ Rd P w e cs' ∧ cs'.length = sz ∧ ∀ i u, cs'[i]? = some u → w.cell? (a.add (j * sz + i)) = some u := by
  obtain ⟨H, enc, fuel, x, h, hw⟩ := h
  subst hsz
  rcases Deep.open_slice ht h with ⟨rfl, rfl⟩ | ⟨a, len, cap, m, n, D, Pl, rfl, _, hl, hm, hmm, rfl, hel⟩
  · exact ⟨none, 0, 0, rfl, Nat.le_refl _, by omega, by omega, fun j hj => absurd hj (Nat.not_lt_zero j)⟩
  · have hlm : len ≤ m := by rw [hmm, if_pos rfl]; exact hl
    have hw0 := hw (((List.range len).map D).length * P.bytesOf e + ((List.range (m - len)).map fun j => D (len + j)).length * P.bytesOf e) (by
      rw [← Nat.add_mul]
      simp [DataW.weights, ht])
    refine ⟨some a, len, cap, rfl, hl, ?_, ?_, fun j hj => ⟨rfl, ?_⟩⟩
    · have : maxLen = 9223372036854775807 := rfl
      omega
    · simp only [List.length_map, List.length_range] at hw0
      have : reachBytes = 140737488351232 := rfl
      rw [← hB]
      omega
    · obtain ⟨cs', hcs, htr⟩ := hel j (by omega)
      obtain ⟨h1, h2⟩ := cells_at hcs
      refine ⟨a, cs', rfl, ⟨H, enc, n, (D j, Pl j), htr, fun m hm => hw m ?_⟩, h1, fun i u hu => by rw [← Addr.add_add]; exact h2 i u hu⟩
      simp only [DataW.weights, ht]
      exact List.mem_cons_of_mem _ (List.mem_append.2 (Or.inl (weightsAll_mem (List.mem_map.2 ⟨j, List.mem_range.2 hj, rfl⟩) m hm)))
/-- The elements of a slice as a list of plain values. -/
theorem rows_of {w : World} {A : Option Addr} {len sz : Nat} {α : Type} (d : α) (enc : α → List SC) (R : α → Prop) (hz : 0 < sz) (h0 : ∀ x, (enc x).all (·.lt 0) = true)
    (h : ∀ j, j < len → ∃ a cs', A = some a ∧ (∃ x, cs' = (enc x).map (·.den nob) ∧ R x) ∧ cs'.length = sz ∧ ∀ i u, cs'[i]? = some u → w.cell? (a.add (j * sz + i)) = some u) :
    ∃ xs : List α, xs.length = len ∧ ∀ j, j < len → A.isSome = true ∧ RowAt (fun _ => False) w A sz (enc (xs.getD j d)) j ∧ R (xs.getD j d) := by
  have pick : ∀ n, n ≤ len → ∃ xs : List α, xs.length = n ∧ ∀ j, j < n → A.isSome = true ∧ RowAt (fun _ => False) w A sz (enc (xs.getD j d)) j ∧ R (xs.getD j d) := by
    intro n
    induction n with
    | zero => exact fun _ => ⟨[], rfl, fun j hj => absurd hj (Nat.not_lt_zero j)⟩
    | succ n ih =>
      intro hn
      obtain ⟨xs, hx, hall⟩ := ih (by omega)
      obtain ⟨a, cs', hA, ⟨x, hcs, hR⟩, hl, hc⟩ := h n (by omega)
      refine ⟨xs ++ [x], by simp [hx], fun j hj => ?_⟩
      by_cases hjn : j < n
      · have e : (xs ++ [x]).getD j d = xs.getD j d := by
          rw [List.getD_eq_getElem?_getD, List.getD_eq_getElem?_getD, List.getElem?_append_left (by omega)]
        rw [e]; exact hall j hjn
      · have e : (xs ++ [x]).getD j d = x := by
          have : j = xs.length := by omega
          rw [List.getD_eq_getElem?_getD, this, List.getElem?_append_right (Nat.le_refl _), Nat.sub_self]; rfl
        have hj2 : j = n := by omega
        rw [e, hj2]
        refine ⟨by rw [hA]; rfl, ⟨⟨a, hA, ?_, fun h => h, h0 x, fun i c hi => hc i _ (by rw [hcs, List.getElem?_map, hi]; rfl)⟩⟩, hR⟩
        have h1 := hc 0 (cs'[0]'(by omega)) (List.getElem?_eq_getElem _)
        have h2 := World.block_lt_of_cell? _ _ h1
        have hb : (a.add (n * sz + 0)).block = a.block := by unfold Addr.add; split <;> rfl
        rw [hb] at h2
        exact h2
  exact pick len (Nat.le_refl _)
/-- A package-level slice of strings, as the row lays it. -/
theorem strs_laid {P : Program} {W : World} {name : String} {ss : List (List UInt8)} {rest : List (String × DataW Unit)} {g : Nat} {t e : TypeId}
    (hg : P.globalNamed name = some g) (hty : (P.globals[g]?).map (·.type) = some t) (ht : P.underlying t = some (.slice e)) (he : P.underlying e = some .string) (hce : P.cellsOf e = 1)
    (h : laidMet P ((name, .slice (ss.map fun s => .lit (.string s)) []) :: rest) W) :
    ∃ a cap, W.var? P name = some #[.slice (some a) ss.length cap] ∧ ∀ j, j < ss.length → W.cell? (a.add j) = some (.string ⟨(ss.getD j []).toArray⟩) := by
  obtain ⟨ps, ⟨g', t', cs, fuel, p, q, hg', ht', hvar, hd, _, _⟩, _⟩ := h
  obtain rfl := Option.some.inj (hg.symm.trans hg')
  obtain rfl := Option.some.inj (hty.symm.trans ht')
  rcases DataW.trod_slice ht hd with ⟨e1, e2⟩ | ⟨a, len, cap, elems, rest, n, rfl, e1, e2, _, _, _, hl, hel, _, _⟩
  · cases e2
  · have hcs : cs = #[.slice (some a) len cap] := by apply Array.toList_inj.1; exact e1
    have e3 : elems.map (·.1) = ss.map fun s => (DataW.lit (.string s) : DataW Unit) := by
      have := congrArg Prod.fst e2
      injection this with h1 _
      exact h1.symm
    have hlen : len = ss.length := by
      rw [← hl]
      have := congrArg List.length e3
      simpa using this
    refine ⟨a, cap, by rw [hvar, hcs, hlen], fun j hj => ?_⟩
    have hj2 : j < elems.length := by omega
    have h1 := hel j (by omega)
    rw [List.getElem?_eq_getElem hj2, hce] at h1
    obtain ⟨cs', h2, h3⟩ := Option.bind_eq_some_iff.1 h1
    obtain ⟨s, rfl, h4, _⟩ := DataW.trod_string he h3
    have h5 : (elems.map (·.1))[j]? = some (DataW.lit (.string s.data.toList)) := by
      rw [List.getElem?_map, List.getElem?_eq_getElem hj2, h4]; rfl
    rw [e3, List.getElem?_map] at h5
    cases hs : ss[j]? with
    | none => rw [hs] at h5; cases h5
    | some s0 =>
      rw [hs] at h5
      have h6 : s0 = s.data.toList := by
        have h5 : (DataW.lit (.string s0) : DataW Unit) = .lit (.string s.data.toList) := Option.some.inj h5
        injection h5 with h5
        injection h5
      rw [List.getD_eq_getElem?_getD, hs]
      have h7 := (cells_at h2).2 0 _ rfl
      rw [Addr.add_add, Nat.mul_one, Nat.add_zero] at h7
      rw [h7, Option.getD_some, h6]
end Go.Proofs.YtfhckpfiegenaaaGreatDoor.Opn
